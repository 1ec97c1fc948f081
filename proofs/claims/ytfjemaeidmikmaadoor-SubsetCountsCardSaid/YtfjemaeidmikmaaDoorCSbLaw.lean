import Derived.Test.YtfjemaeidmikmaaDoorCSbRef
import Derived.Test.YtfjemaeidmikmaaDoorCSbAwake
import Derived.Test.YtfjemaeidmikmaaDoorCQ0
import Derived.Test.YtfjemaeidmikmaaDoorCM3
import Derived.Test.YtfjemaeidmikmaaDoorCQTattinglaw11Awake
import Derived.Test.YtfjemaeidmikmaaDoorCQTattingref09Right
import Derived.Test.YtfjemaeidmikmaaDoorCQTattingref11Build
import Derived.Test.YtfjemaeidmikmaaDoorCM1
import Derived.Test.YtfjemaeidmikmaaDoorCSbFirsts
import Derived.Test.YtfjemaeidmikmaaDoorCM2
import Derived.Test.YtfjemaeidmikmaaDoorCQXSubsetBuild
import Derived.Test.YtfjemaeidmikmaaDoorCQTattinglaw11SubsetCounts
set_option linter.unusedVariables false
set_option linter.unusedSimpArgs false
namespace Go.Proofs.YtfjemaeidmikmaaDoorQ
open Go.RowKit Go.Proofs.YtfjemaeidmikmaaDoorW.PrintWords Go.Proofs.YtfjemaeidmikmaaDoorW.PrintLast Go.Proofs.Bs Go.Proofs.YtfjemaeidmikmaaDoor
theorem rightN_both {sts : List St} {s f : Int} (h : rightN sts s f = true) : (0 ≤ s ∧ s < sts.length) ∧ 0 ≤ f ∧ f < sts.length := by
  unfold rightN at h
  simp only [Bool.and_eq_true, decide_eq_true_eq] at h
  exact ⟨h.1.2.1, h.1.2.2⟩
def rrunS (sts : List St) (s most : Int) : Qr := rrunQ sts s (firstsS sts) most
theorem rbuild_ev (sts : List St) (s f most : Int) (hR : rightN sts s f = true) (hw : wfSts sts) (hmost : most ≤ 1000) : EV (fun k => tattingref11_Build.f k sts s f most) (rfin f most (cls sts) (wid sts) (rrunS sts s most)) := by
  have hn := rightN_len hR
  have hok := okSts_of hR
  have hb := rightN_both hR
  have hF := firstsS_len sts
  have hwl := wid_le sts
  have hcl : (cls sts).length ≤ 1000000 := by rw [cls_len]; omega
  have hrf : EV (fun k => tattingref10_Firsts.f k (cls sts) (wid sts)) (firstsS sts) := rfirsts_ev (cls sts) hcl (wid sts) hwl.1
  have hof := of_eq sts s f [s] (by omega) (by show 1 ≤ 1000000; omega)
  have hcz := rclose_eq sts 0 s f (ofN sts.length [s]) hn hok (ofN_len _ _)
  unfold tattingref11_Build.f
  refine EV.bind (rclasses_ev sts s f hn hw) ?_
  dsimp only
  refine EV.bind hrf ?_
  refine EV.bind hof ?_
  refine EV.bind hcz ?_
  have h0 : okM sts.length [closeR sts 0 (ofN sts.length [s])] := fun m hm => by rw [List.mem_singleton.1 hm]; exact closeR_len _ _ _
  have h := rb_l0 sts s f most (cls sts) (wid sts) (firstsS sts) hok hn hw hb.2 (firstsS_ok sts) (by omega) (by omega) hmost (most + 1).toNat 0 ([closeR sts 0 (ofN sts.length [s])], []) (by omega) h0 (by show 1 ≤ 2000; omega) (by show 0 = 0 * _; omega)
  exact h
theorem runS_img (sts : List St) (s f most : Int) (hR : rightN sts s f = true) : runS sts s most = imgQ (rrunS sts s most) := run_img sts (okSts_of hR) s (firstsS sts) most
theorem sc_j1 (sts : List St) (s f most x : Int) (hw : wfSts sts) (hmost : most ≤ 40) (h0 : ¬ most < 0) (hR : rightN sts s f = true) (hx : x = countS sts s f most) : EV (fun k => tattinglaw11_SubsetCounts.j1 k most x false sts s f) true := by
  refine EV.succ ?_
  simp only [tattinglaw11_SubsetCounts.j1, Bool.false_eq_true, if_false]
  refine EV.bind (rbuild_ev sts s f most hR hw (by omega)) ?_
  subst hx
  have e : countS sts s f most = if most < ((rrunS sts s most).1.length : Int) then most + 1 else ((rrunS sts s most).1.length : Int) := by
    unfold countS
    rw [if_neg (fun h => ?_), runS_img sts s f most hR]
    · have hl : (imgQ (rrunS sts s most)).1.length = (rrunS sts s most).1.length := List.length_map _
      rw [hl]
    · rcases h with h | h
      · exact h0 h
      · rw [hR] at h; cases h
  rw [e]
  unfold rfin
  generalize rrunS sts s most = q at *
  have hmw : wrap64 (most + 1) = most + 1 := wrap_in (by omega) (by omega)
  by_cases hm : most < (q.1.length : Int)
  · rw [if_pos hm, if_pos hm]
    simp only [Bool.false_eq_true, if_false]
    exact EV.now fun _ => by simp [hmw]
  · rw [if_neg hm, if_neg hm]
    simp only [if_true]
    exact EV.now fun _ => by simp
theorem subsetCounts_ev (sts : List St) (s f most : Int) (hw : wfSts sts) : EV (fun k => tattinglaw11_SubsetCounts.f k sts s f most) true := by
  have ht : EV (fun k => tattinglaw11_SubsetCounts.j0 k most true sts s f) true := EV.stop fun k => by simp [tattinglaw11_SubsetCounts.j0]
  unfold tattinglaw11_SubsetCounts.f
  rw [awake11]
  simp only [Option.bind_some, if_true, tattinglaw11_small.f]
  by_cases h1 : (sts.length : Int) ≤ 40
  · rw [decide_eq_true h1]
    simp only [if_true]
    by_cases h2 : most > 40
    · rw [decide_eq_true h2]; exact ht
    · rw [decide_eq_false h2]
      have hC : subset_Count.f sts s f most = some (countS sts s f most) := by
        unfold subset_Count.f
        rw [if_pos ⟨(wfB_iff _).2 hw, by omega⟩]
      refine EV.succ ?_
      simp only [tattinglaw11_SubsetCounts.j0, Bool.false_eq_true, if_false, hC, Option.bind_some]
      have hz : (most < 0 ∨ rightN sts s f = false) → EV (fun k => tattinglaw11_SubsetCounts.j1 k most (countS sts s f most) true sts s f) true := fun h => by
        have e : countS sts s f most = 0 := by unfold countS; rw [if_pos h]
        rw [e]
        exact EV.stop fun k => by simp [tattinglaw11_SubsetCounts.j1]
      by_cases h3 : most < 0
      · refine EV.congr (fun k => if_pos h3) ?_
        exact hz (.inl h3)
      · refine EV.congr (fun k => if_neg h3) ?_
        refine EV.bind (rright_eq sts s f) ?_
        cases hR : rightN sts s f with
        | true => exact sc_j1 sts s f most _ hw (by omega) h3 hR rfl
        | false => exact hz (.inr hR)
  · rw [decide_eq_false h1]
    simp only [Bool.false_eq_true, if_false]
    exact ht
end Go.Proofs.YtfjemaeidmikmaaDoorQ
namespace Go.Proofs.YtfjemaeidmikmaaDoor
open Go.RowKit Go.Proofs.YtfjemaeidmikmaaDoorQ Go.Proofs.YtfjemaeidmikmaaDoorW.PrintWords
theorem subsetCounts_any (A0 : Option Addr) (c0 : Nat) (l0 : List St) (s f a1 : Int) (w : World) (hG : TabG w) (h0 : Kd.C k64 w A0 l0.length l0) (hc0 : l0.length ≤ c0) (hw : wfSts l0) :
    Calls Tryd.prog 4 #[.agg #[.slice A0 l0.length c0, .int .i64 s, .int .i64 f], .int .i64 a1] w fun e w' => e = .returned (.bool true) ∧ Below w.heap.size w w' := by
  obtain ⟨k, hk⟩ := (subsetCounts_ev l0 s f a1 hw).ex
  exact tattinglaw11_SubsetCounts.calls k A0 c0 l0 s f a1 true w hG h0 hc0 hk
end Go.Proofs.YtfjemaeidmikmaaDoor
