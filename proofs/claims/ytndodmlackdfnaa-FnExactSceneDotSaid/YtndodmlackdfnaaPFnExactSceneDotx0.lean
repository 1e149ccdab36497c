-- PRINTED BY print.sh 35421559b90ae4d0a3588c463048766b98c2df88dd9212a6774a882060cdf62d: not written by this session
import Derived.Test.YtndodmlackdfnaaProg
import Derived.Below
import Derived.Deep.Draws
import Derived.Deep.AppendLies
import Derived.Maps.AppendAt
import Derived.OwnWalk
import Derived.Laws.BytesArg
import Derived.Laws.MakeOwn
import Derived.Laws.OwnMore
import Derived.Deep.OwnRows
import Derived.Tactics
import Derived.Lib.ConvBytes
import Derived.Laws.Slices
import Derived.WalkKit
import Derived.KernelRfl
import Derived.RowKit3
import Derived.Deep.LoopGhost
import Derived.Deep.QuietTactic
import Derived.BigQuiet
import Derived.WideLaws
import Derived.Deep.DeepCutAuto
import Derived.Deep.CutBlock
import Derived.Deep.RegionHeld3
import Derived.Laws.Rows
import Derived.Lib.AppendStr
import Derived.ArgAppend
import Derived.Laws.IdiomCopy
import Derived.OrdersHeld
import Derived.Laws.BitsLemmas
import Derived.RowKit
import Derived.Test.YtndodmlackdfnaaWWords
import Derived.Test.YtndodmlackdfnaaWLast
import Derived.Test.YtndodmlackdfnaaWTab
import Derived.Test.YtndodmlackdfnaaWFour
import Derived.Test.YtndodmlackdfnaaWQPut
import Derived.Test.YtndodmlackdfnaaWApart
import Derived.Test.YtndodmlackdfnaaWArr
import Derived.Test.YtndodmlackdfnaaWZeros
import Derived.Test.YtndodmlackdfnaaWFoot
import Derived.Test.YtndodmlackdfnaaWKept
import Derived.Test.YtndodmlackdfnaaWShare
import Derived.Test.YtndodmlackdfnaaWN
import Derived.Test.YtndodmlackdfnaaWFootNe
import Derived.Test.YtndodmlackdfnaaWAt
import Derived.Test.YtndodmlackdfnaaWEqStruct
import Derived.Test.YtndodmlackdfnaaWRepsOne
import Derived.Test.YtndodmlackdfnaaWInv
import Derived.Test.YtndodmlackdfnaaWInvWords
import Derived.Test.YtndodmlackdfnaaWGuard
import Derived.Test.YtndodmlackdfnaaWNEv
import Derived.Test.YtndodmlackdfnaaWMore
namespace Go.Proofs.Ytndodmlackdfnaa.PFnExactSceneDot
open Go.RowKit Go.Proofs.YtndodmlackdfnaaW.PrintWords Go.Proofs.YtndodmlackdfnaaW.PrintLast Go.Proofs.YtndodmlackdfnaaW.PrintMore
attribute [local go_sem] max2_int min2_int max_two min_two max_three min_three max_four min_four   -- for this text's walks alone
set_option linter.unusedVariables false
set_option linter.unusedSimpArgs false



def errW : Option Int → Value
  | none => .nilIface
  | some c => .iface 0 (.int .i64 c)
theorem errW_none : errW none = .nilIface := rfl
theorem errW_some (c : Int) : errW (some c) = .iface 0 (.int .i64 c) := rfl

-- the values' own types

end Go.Proofs.Ytndodmlackdfnaa.PFnExactSceneDot
