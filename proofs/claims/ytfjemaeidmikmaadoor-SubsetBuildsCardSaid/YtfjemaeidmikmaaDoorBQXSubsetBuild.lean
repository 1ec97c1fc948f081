import Derived.Test.YtfjemaeidmikmaaDoorBSbBuild
set_option linter.unusedVariables false
namespace Go.Proofs.YtfjemaeidmikmaaDoorQ
open Go.RowKit Go.Proofs.YtfjemaeidmikmaaDoorW.PrintWords Go.Proofs.YtfjemaeidmikmaaDoorW.PrintLast Go.Proofs.YtfjemaeidmikmaaDoor
def subset_Build.f (l0_0 : List S64) (a0_1 a0_2 a1 : Int) : Option (List Int × Int × Int × List Int × List Bool × Int) := if wfB l0_0 = true ∧ a1 ≤ 1000 then some (buildS l0_0 a0_1 a0_2 a1) else none
theorem subset_Build.calls (A0_0 : Option Addr) (c0_0 : Nat) (l0_0 : List S64) (a0_1 a0_2 a1 : Int) (r1 : List Int) (r2 r3 : Int) (r4 : List Int) (r5 : List Bool) (r6 : Int) (w : World) (hG : TabG w) (hr0_0 : Kd.C k64 w A0_0 l0_0.length l0_0) (hc0_0 : l0_0.length ≤ c0_0) (h : subset_Build.f l0_0 a0_1 a0_2 a1 = some (r1, r2, r3, r4, r5, r6)) :
    Calls Tryd.prog 8 #[.agg #[.slice A0_0 l0_0.length c0_0, .int .i64 a0_1, .int .i64 a0_2], .int .i64 a1] w fun e w' => ∃ v0_ v3_ v4_ : Value, e = .returned (.tuple #[.agg #[v0_, .int .i64 r2, .int .i64 r3, v3_, v4_], .int .i64 r6]) ∧ Kd.R (Kd.int .i64) 3 w' w.heap.size (fun k_ => some k_ ≠ (v3_ : Value).ownBlock) v0_ r1 ∧ Kd.R (Kd.int .i64) 3 w' w.heap.size (fun k_ => some k_ ≠ (v0_ : Value).ownBlock) v3_ r4 ∧ Kd.R Kd.bool 4 w' w.heap.size (fun _ => True) v4_ r5 ∧ Below w.heap.size w w' := by
  unfold subset_Build.f at h
  split at h
  case isFalse => cases h
  case isTrue c =>
    injection h with h
    have hw := (wfB_iff _).1 c.1
    unfold buildS at h
    split at h
    case isTrue hR =>
      split at h
      case isTrue hm =>
        simp only [Prod.mk.injEq] at h
        obtain ⟨rfl, rfl, rfl, rfl, rfl, rfl⟩ := h
        refine (sbuild_many A0_0 c0_0 l0_0 a0_1 a0_2 a1 w hG hr0_0 hc0_0 hR hw c.2 hm).mono ?_
        rintro e w' ⟨rfl, hb⟩
        exact ⟨_, _, _, rfl, Kd.R_nil _ _ _ _ _, Kd.R_nil _ _ _ _ _, Kd.R_nil _ _ _ _ _, hb⟩
      case isFalse hm =>
        simp only [Prod.mk.injEq] at h
        obtain ⟨rfl, rfl, rfl, rfl, rfl, rfl⟩ := h
        exact sbuild_yes A0_0 c0_0 l0_0 a0_1 a0_2 a1 w hG hr0_0 hc0_0 hR hw c.2 hm
    case isFalse hR =>
      simp only [Prod.mk.injEq] at h
      obtain ⟨rfl, rfl, rfl, rfl, rfl, rfl⟩ := h
      refine (sbuild_no A0_0 c0_0 l0_0 a0_1 a0_2 a1 w hG hr0_0 hc0_0 (by simpa using hR)).mono ?_
      rintro e w' ⟨rfl, hb⟩
      exact ⟨_, _, _, rfl, Kd.R_nil _ _ _ _ _, Kd.R_nil _ _ _ _ _, Kd.R_nil _ _ _ _ _, hb⟩
end Go.Proofs.YtfjemaeidmikmaaDoorQ
