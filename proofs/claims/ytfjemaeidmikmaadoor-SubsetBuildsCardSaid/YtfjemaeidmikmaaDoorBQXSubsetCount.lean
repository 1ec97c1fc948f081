import Derived.Test.YtfjemaeidmikmaaDoorBSbCount
set_option linter.unusedVariables false
namespace Go.Proofs.YtfjemaeidmikmaaDoorQ
open Go.RowKit Go.Proofs.YtfjemaeidmikmaaDoorW.PrintWords Go.Proofs.YtfjemaeidmikmaaDoorW.PrintLast Go.Proofs.YtfjemaeidmikmaaDoor
def subset_Count.f (l0_0 : List S64) (a0_1 a0_2 a1 : Int) : Option Int := if wfB l0_0 = true ∧ a1 ≤ 1000 then some (countS l0_0 a0_1 a0_2 a1) else none
theorem subset_Count.calls (A0_0 : Option Addr) (c0_0 : Nat) (l0_0 : List S64) (a0_1 a0_2 a1 : Int) (r : Int) (w : World) (hG : TabG w) (hr0_0 : Kd.C k64 w A0_0 l0_0.length l0_0) (hc0_0 : l0_0.length ≤ c0_0) (h : subset_Count.f l0_0 a0_1 a0_2 a1 = some r) :
    Calls Tryd.prog 12 #[.agg #[.slice A0_0 l0_0.length c0_0, .int .i64 a0_1, .int .i64 a0_2], .int .i64 a1] w fun e w' => e = .returned (.int .i64 r) ∧ Below w.heap.size w w' := by
  unfold subset_Count.f at h
  split at h
  case isFalse => cases h
  case isTrue c =>
    injection h with h
    have hw := (wfB_iff _).1 c.1
    unfold countS at h
    by_cases hz : a1 < 0 ∨ rightN l0_0 a0_1 a0_2 = false
    · rw [if_pos hz] at h
      subst h
      exact count_zero A0_0 c0_0 l0_0 a0_1 a0_2 a1 w hr0_0 hc0_0 hz
    · rw [if_neg hz] at h
      subst h
      have hR : rightN l0_0 a0_1 a0_2 = true := by
        cases hx : rightN l0_0 a0_1 a0_2 with
        | true => rfl
        | false => exact absurd (.inr hx) hz
      exact count_yes A0_0 c0_0 l0_0 a0_1 a0_2 a1 w hG hr0_0 hc0_0 hR hw (fun h => hz (.inl h)) c.2
end Go.Proofs.YtfjemaeidmikmaaDoorQ
