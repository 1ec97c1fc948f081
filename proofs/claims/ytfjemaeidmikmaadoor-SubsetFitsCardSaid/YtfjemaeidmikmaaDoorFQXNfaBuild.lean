import Derived.Test.YtfjemaeidmikmaaDoorFNfBuild
set_option linter.unusedVariables false
set_option linter.unusedSimpArgs false
namespace Go.Proofs.YtfjemaeidmikmaaDoorQ
open Go.RowKit Go.Proofs.YtfjemaeidmikmaaDoorW.PrintWords Go.Proofs.YtfjemaeidmikmaaDoorW.PrintLast Go.Proofs.Bs Go.Proofs.YtfjemaeidmikmaaDoor
def nfa_Build.f (l0 : List S71) : Option (List St × Int × Int × Int) := if l0.length ≤ 1000000 ∧ ndsWf l0 = true then some (buildN (l0.map ndOf)) else none
theorem nfa_Build.calls (A0 : Option Addr) (c0 : Nat) (l0 : List S71) (r0 : List St) (r1 r2 r3 : Int) (w : World) (hr0 : Kd.C k71 w A0 l0.length l0) (hc0 : l0.length ≤ c0) (h : nfa_Build.f l0 = some (r0, r1, r2, r3)) :
    Calls Tryd.prog 15 #[.slice A0 l0.length c0] w fun e w' => ∃ v0_ : Value, e = .returned (.tuple #[.agg #[v0_, .int .i64 r1, .int .i64 r2], .int .i64 r3]) ∧ Kd.R k64 64 w' w.heap.size (fun _ => True) v0_ r0 ∧ Below w.heap.size w w' := by
  unfold nfa_Build.f at h;split at h
  case isFalse => cases h
  case isTrue c =>
    injection h with h;(have hf : facts_Size.f l0 = some (sizeN (l0.map ndOf)) := by unfold facts_Size.f; rw [if_pos c]);unfold buildN at h
    cases hR : rightB (l0.map ndOf) with
    | false =>
      rw [hR, if_neg Bool.false_ne_true] at h;simp only [Prod.mk.injEq] at h;obtain ⟨rfl, rfl, rfl, rfl⟩ := h;exact build_err A0 c0 l0 w hr0 hc0 _ hf 3 (.inl ⟨by unfold sizeN; rw [hR, if_neg Bool.false_ne_true]; decide, rfl⟩)
    | true =>
      rw [hR, if_pos rfl] at h;(have hlen : 0 < l0.length := by have := ((rightB_iff _).1 hR).2.2.1; rwa [List.length_map] at this);have hsz := size_sz (l0.map ndOf) hR ((l0.map ndOf).length - 1) (by rw [List.length_map]; omega);by_cases hs : attr fSz (l0.map ndOf) ((l0.map ndOf).length - 1) ≤ 600
      · rw [if_pos hs] at h;simp only [Prod.mk.injEq] at h;obtain ⟨rfl, rfl, rfl, rfl⟩ := h;rw [List.length_map] at hs ⊢;exact build_yes A0 c0 l0 w hr0 hc0 c.2 hR hs _ rfl
      · rw [if_neg hs] at h;simp only [Prod.mk.injEq] at h;obtain ⟨rfl, rfl, rfl, rfl⟩ := h;exact build_err A0 c0 l0 w hr0 hc0 _ hf 4 (.inr ⟨by rw [sizeN_yes hR, hsz]; omega, rfl⟩)
end Go.Proofs.YtfjemaeidmikmaaDoorQ
