/- A script of events. No condition. -/
import Derived.Test.YtfcjjkfjdecakaaSq
namespace Go.Proofs.Ytfcjjkfjdecakaa
open Go Go.Vx
set_option linter.unusedVariables false
set_option linter.unusedSimpArgs false
set_option maxHeartbeats 600000
set_option maxRecDepth 100000

theorem pS_ne (t : List UInt8) : ∀ (i : Nat), i ≤ t.length + 1 → ∀ w ∈ (pS t i).1, 0 < w.length
  | 0, _, w, hw => by simp [pS] at hw
  | i + 1, hi, w, hw => by
    have hf := pS_fit t i
    simp only [pS] at hw
    split at hw
    · exact pS_ne t i (by omega) w hw
    · split at hw
      · rename_i hb
        simp only [List.mem_append, List.mem_singleton] at hw
        rcases hw with hw | rfl
        · exact pS_ne t i (by omega) w hw
        · simp; omega
      · exact pS_ne t i (by omega) w hw
theorem wd_ne {t : List UInt8} {j : Nat} (h : j < (partsO t).1.length) : 0 < (wd t j).length := by
  by_cases hp : partsOk t
  · unfold wd
    rw [partsO_yes hp] at h ⊢
    have : (pS t (t.length + 1)).1.getD j [] ∈ (pS t (t.length + 1)).1 := by
      rw [List.getD_eq_getElem?_getD, List.getElem?_eq_getElem h]; exact List.getElem_mem _
    exact pS_ne t _ (Nat.le_refl _) _ this
  · rw [partsO_no hp] at h; simp at h

theorem _root_.Go.Vx.Chr.zero {l : List UInt8} {κ : UInt8 → Prop} (h : 0 < l.length) (g : κ (rb l 0)) : Chr l 0 κ := Chr.at (i := 0) h g
theorem _root_.Go.Vx.EltN.wd0 {t : List UInt8} {κ : V → Prop} (h : 0 < (partsO t).1.length) (g : κ (.s (wd t 0))) : EltN (wV (partsO t).1) 0 κ := EltN.wd h g
/-- A line that says nothing. -/
def note (l : List UInt8) : Prop := (partsO l).2 = true ∧ ((partsO l).1.length = 0 ∨ (rb (wd l 0) 0).toNat = 35)
instance (l : List UInt8) : Decidable (note l) := by unfold note; infer_instance
def scan (ls : List (List UInt8)) : Nat → Nat → List Event → List Event × Int × Bool
  | 0, _, out => if 60 < out.length then ([], 0, false) else (out, ls.length, true)
  | f + 1, i, out => if note (ln ls i) then scan ls f (i + 1) out else if (readEv (ln ls i)).2 = true then scan ls f (i + 1) (out ++ [(readEv (ln ls i)).1]) else ([], (i : Int) + 1, false)
def readScript (t : List UInt8) : List Event × Int × Bool := if 20000 < t.length then ([], 0, false) else scan (cutT t 10) (cutT t 10).length 0 []

theorem cutT_len (t : List UInt8) (b : Int) : 1 ≤ (cutT t b).length ∧ (cutT t b).length ≤ t.length + 1 := by
  have := (cS_fit t b t.length).2
  have hc : (cutT t b).length = (cS t b t.length).1.length + 1 := by simp [cutT]
  omega
theorem scan_note {ls : List (List UInt8)} {i : Nat} {out : List Event} (hi : i < ls.length) (h : note (ln ls i)) : scan ls (ls.length - i) i out = scan ls (ls.length - (i + 1)) (i + 1) out := by
  obtain ⟨f, hf⟩ : ∃ f, ls.length - i = f + 1 := ⟨ls.length - i - 1, by omega⟩
  rw [hf, show ls.length - (i + 1) = f by omega, scan, if_pos h]
theorem scan_ev {ls : List (List UInt8)} {i : Nat} {out : List Event} (hi : i < ls.length) (h : ¬ note (ln ls i)) (h2 : (readEv (ln ls i)).2 = true) :
    scan ls (ls.length - i) i out = scan ls (ls.length - (i + 1)) (i + 1) (out ++ [(readEv (ln ls i)).1]) := by
  obtain ⟨f, hf⟩ : ∃ f, ls.length - i = f + 1 := ⟨ls.length - i - 1, by omega⟩
  rw [hf, show ls.length - (i + 1) = f by omega, scan, if_neg h, if_pos h2]
theorem scan_bad {ls : List (List UInt8)} {i : Nat} {out : List Event} (hi : i < ls.length) (h : ¬ note (ln ls i)) (h2 : (readEv (ln ls i)).2 = false) :
    scan ls (ls.length - i) i out = ([], (i : Int) + 1, false) := by
  obtain ⟨f, hf⟩ : ∃ f, ls.length - i = f + 1 := ⟨ls.length - i - 1, by omega⟩
  rw [hf, scan, if_neg h, if_neg (by rw [h2]; simp)]
theorem scan_end {ls : List (List UInt8)} {i : Nat} {out : List Event} (hi : i = ls.length) : scan ls (ls.length - i) i out = if 60 < out.length then ([], 0, false) else (out, (ls.length : Int), true) := by
  subst hi; rw [Nat.sub_self]; rfl
theorem scan_of {t : List UInt8} (h : ¬ 20000 < t.length) : readScript t = scan (cutT t 10) (cutT t 10).length 0 [] := by rw [readScript, if_neg h]
theorem scan_big {t : List UInt8} (h : 20000 < t.length) : readScript t = ([], 0, false) := by rw [readScript, if_pos h]
def ScI (t : List UInt8) (i : Nat) (out : List Event) : Prop := i ≤ (cutT t 10).length ∧ out.length ≤ i ∧ scan (cutT t 10) ((cutT t 10).length - i) i out = readScript t


set_option maxHeartbeats 6000000 in
theorem readScript_impl (t : List UInt8) : Vow Try.prog 29 [.s t] (.tp [evO (readScript t).1, .i .i64 (readScript t).2.1, .b (readScript t).2.2]) [] := by
  refine vow_of_ev (fn := Try.f29) [] [(0, 0), (13, 14), (14, 16), (17, 18), (18, 20), (0, 0), (0, 0), (24, 27), (27, 32), (32, 44), (45, 50), (50, 51), (52, 55), (55, 59), (59, 60), (60, 62), (63, 64), (64, 67)] tt_ok Try.func29 (by decide) rfl (Nat.le_of_ble_eq_true rfl) rfl rfl rfl ?_
  by_cases hb : 20000 < t.length
  · repeat' (conv => whnf); first | refine Br.tt ?_ | refine Br.ff ?_ | refine Br.not ?_ | refine Br.dand (fun _ => ?_) (fun _ => ?_) | refine Br.dec (fun _ => ?_) (fun _ => ?_) | refine Br.beq (fun _ => ?_) (fun _ => ?_) | refine Br.bne (fun _ => ?_) (fun _ => ?_) | refine Br.seq (fun _ => ?_) (fun _ => ?_) | refine Elt.i (by omega) ?_ | refine EltN.i (by omega) ?_ | refine Nt.cast ?_ | refine Nt.mk _ rfl ?_ | refine EltN.mk _ rfl ?_ | refine Mx.mk _ rfl ?_ | refine Br.mk (fun _ => ?_) (fun _ => ?_) | refine EndP.mk ?_ trivial | refine EndP.mk ?_ ⟨.inr ⟨List.mem_cons_self .., ?_, rfl⟩, trivial⟩ | refine Ar.i64 (by omega) ?_ | refine Ar.u8 (by omega) ?_ | refine Quo.pos (by omega) ?_ | refine Rem.pos (by omega) ?_ | refine BsP.own ?_ | refine Ob.mk ⟨rfl, rfl⟩ ?_ | refine Ob.mk (flat_i _ _).1 ?_ | refine Ob.mk (flat_i _ _) ?_ | refine Ob.mk (flat_s _) ?_ | refine Ob.mk (by first | omega | (simp; first | done | fail) | (simp; omega)) ?_ | fail
    · rw [scan_big hb]; rfl
    · exfalso; omega
  have hc := cutT_len t 10
  have hcl : ((cutT t 10).map V.s).length = (cutT t 10).length := by simp
  repeat' (conv => whnf); first | refine CallP.re (cut_impl t 10 (by omega)) (by first | with_reducible rfl | (simp only [imm_i, imm_s, imm_b, wV, evS, evO, own_ev, imm_ev]; first | done | fail)) rfl rfl rfl (by first | rfl | exact own_i _ _ | exact own_s _ | exact own_b _ | (simp [V.noSl, V.noSl.go, own_i, own_s, own_b, wV, evS, evO, own_ev, imm_ev]; first | done | fail)) ?_ | refine Br.tt ?_ | refine Br.ff ?_ | refine Br.not ?_ | refine Br.dand (fun _ => ?_) (fun _ => ?_) | refine Br.dec (fun _ => ?_) (fun _ => ?_) | refine Br.beq (fun _ => ?_) (fun _ => ?_) | refine Br.bne (fun _ => ?_) (fun _ => ?_) | refine Br.seq (fun _ => ?_) (fun _ => ?_) | refine Elt.i (by omega) ?_ | refine EltN.i (by omega) ?_ | refine Nt.cast ?_ | refine Nt.mk _ rfl ?_ | refine EltN.mk _ rfl ?_ | refine Mx.mk _ rfl ?_ | refine Br.mk (fun _ => ?_) (fun _ => ?_) | refine EndP.mk ?_ trivial | refine EndP.mk ?_ ⟨.inr ⟨List.mem_cons_self .., ?_, rfl⟩, trivial⟩ | refine Ar.i64 (by omega) ?_ | refine Ar.u8 (by omega) ?_ | refine Quo.pos (by omega) ?_ | refine Rem.pos (by omega) ?_ | refine BsP.own ?_ | refine Ob.mk ⟨rfl, rfl⟩ ?_ | refine Ob.mk (flat_i _ _).1 ?_ | refine Ob.mk (flat_i _ _) ?_ | refine Ob.mk (flat_s _) ?_ | refine Ob.mk (by first | omega | (simp; first | done | fail) | (simp; omega)) ?_ | fail
  · exfalso; omega
  · conv => whnf
    refine LoopP.mk [2,3,4,5,6,20,21,22] (fun ((i, out) : Nat × List Event) => [(2, .nl), (3, .i .i64 0), (4, .b false), (5, evO out), (6, .ow 1 ((cutT t 10).map .s)), (20, .al [8]), (21, .i .i64 (cutT t 10).length), (22, .i .i64 i)]) (fun s => (cutT t 10).length - s.1) (fun (i, out) => ScI t i out) ?_ ?_
    · conv => whnf
      refine ⟨(0, []), ⟨by omega, by simp, (scan_of hb).symm⟩, ?_⟩
      rw [hcl]
      rfl
    · rintro ⟨i, out⟩ ⟨hi, ho, hs⟩
      have ho2 : (out.map eventV).length = out.length := by simp
      have hw : (wV (partsO (ln (cutT t 10) i)).1).length = (partsO (ln (cutT t 10) i)).1.length := by simp [wV]
      rw [← hs]
      repeat' (conv => whnf); first | refine Elt.wd (by omega) ?_ | refine EltN.wd0 (by omega) ?_ | refine Elt.ln (by omega) ?_ | refine EltN.ln (by omega) ?_ | refine CallP.re (parts_impl (ln (cutT t 10) i)) (by first | with_reducible rfl | (simp only [imm_i, imm_s, imm_b, wV, evS, evO, own_ev, imm_ev]; first | done | fail)) rfl rfl rfl (by first | rfl | exact own_i _ _ | exact own_s _ | exact own_b _ | (simp [V.noSl, V.noSl.go, own_i, own_s, own_b, wV, evS, evO, own_ev, imm_ev]; first | done | fail)) ?_ | refine CallP.rd (readEv_impl (ln (cutT t 10) i)) rfl rfl rfl rfl ?_ | refine Chr.zero (wd_ne (by omega)) ?_ | refine Br.tt ?_ | refine Br.ff ?_ | refine Br.not ?_ | refine Br.dand (fun _ => ?_) (fun _ => ?_) | refine Br.dec (fun _ => ?_) (fun _ => ?_) | refine Br.beq (fun _ => ?_) (fun _ => ?_) | refine Br.bne (fun _ => ?_) (fun _ => ?_) | refine Br.seq (fun _ => ?_) (fun _ => ?_) | refine Elt.i (by omega) ?_ | refine EltN.i (by omega) ?_ | refine Nt.cast ?_ | refine Nt.mk _ rfl ?_ | refine EltN.mk _ rfl ?_ | refine Mx.mk _ rfl ?_ | refine Br.mk (fun _ => ?_) (fun _ => ?_) | refine EndP.mk ?_ trivial | refine EndP.mk ?_ ⟨.inr ⟨List.mem_cons_self .., ?_, rfl⟩, trivial⟩ | refine Ar.i64 (by omega) ?_ | refine Ar.u8 (by omega) ?_ | refine Quo.pos (by omega) ?_ | refine Rem.pos (by omega) ?_ | refine BsP.own ?_ | refine Ob.mk ⟨rfl, rfl⟩ ?_ | refine Ob.mk (flat_i _ _).1 ?_ | refine Ob.mk (flat_i _ _) ?_ | refine Ob.mk (flat_s _) ?_ | refine Ob.mk (by first | omega | (simp; first | done | fail) | (simp; omega)) ?_ | fail
      all_goals first
        | (conv => whnf
           first
             | (refine ⟨(i + 1, out), ⟨by omega, by omega, (scan_note (i := i) (by omega) ⟨by assumption, by omega⟩).symm.trans hs⟩, by show _ - (i + 1) < _ - i; omega, ?_⟩
                rfl)
             | (refine ⟨(i + 1, out ++ [(readEv (ln (cutT t 10) i)).1]), ⟨by omega, by rw [List.length_append]; exact Nat.succ_le_succ ho, ?_⟩, by show _ - (i + 1) < _ - i; omega, ?_⟩
                · refine (scan_ev (i := i) (by omega) ?_ (by assumption)).symm.trans hs
                  first
                    | exact fun k => Bool.noConfusion (k.1.symm.trans (by assumption))
                    | exact fun k => by have := k.2; omega
                · simp only [evO, List.map_append, List.map_cons, List.map_nil]
                  rfl))
        | (rw [scan_bad (i := i) (by omega) (fun k => Bool.noConfusion (k.1.symm.trans (by assumption))) (by assumption)]; rfl)
        | (rw [scan_bad (i := i) (by omega) (fun k => by have := k.2; omega) (by assumption)]; rfl)
        | (obtain rfl : i = (cutT t 10).length := by omega
           first
             | (rw [scan_end rfl, if_pos (by omega)]; rfl)
             | (rw [scan_end rfl, if_neg (by omega)]
                rw [hcl]
                rfl))

end Go.Proofs.Ytfcjjkfjdecakaa