/- For all whole numbers: the program's SceneDot and the reference's SceneDot tell the same number. No condition. -/
import Derived.Test.YtndodmlackdfnaaPFnExactSceneDotx1
namespace Go.Proofs.Ytndodmlackdfnaa.Pure
open Go.RowKit Go.Proofs.Ytndodmlackdfnaa.PFnExactSceneDot Go.Proofs.YtndodmlackdfnaaW.PrintWords Go.Proofs.YtndodmlackdfnaaW.PrintLast

theorem within_in : impl_within.f = spec_l01In.f := rfl

theorem j0_same : impl_SceneDot.j0 = spec_SceneDot.j0 := by
  funext k a b c d t
  cases k <;> rfl

theorem dot_same : impl_SceneDot.f = spec_SceneDot.f := by
  funext k a b c d
  unfold impl_SceneDot.f spec_SceneDot.f
  rw [within_in, j0_same]

theorem in_some (a b c : Int) : ∃ t, spec_l01In.f a b c = some t := by
  unfold spec_l01In.f; split <;> exact ⟨_, rfl⟩

theorem dot_some (a b c d : Int) : ∃ k r, spec_SceneDot.f k a b c d = some r := by
  refine ⟨1, ?_⟩
  unfold spec_SceneDot.f
  obtain ⟨t1, h1⟩ := in_some a 0 999
  obtain ⟨t2, h2⟩ := in_some b 0 9999
  obtain ⟨t3, h3⟩ := in_some c 0 255
  obtain ⟨t4, h4⟩ := in_some d 0 255
  rw [h1, h2, h3, h4]
  simp only [Option.bind_some, spec_SceneDot.j0]
  repeat' split
  all_goals exact ⟨_, rfl⟩

theorem FnExactSceneDot : laws_FnExactSceneDot.Pure := by
  intro a b c d _ _ _ _
  obtain ⟨k, r, h⟩ := dot_some a b c d
  refine ⟨k, ?_⟩
  unfold laws_FnExactSceneDot.f
  rw [dot_same, h]
  simp

end Go.Proofs.Ytndodmlackdfnaa.Pure
