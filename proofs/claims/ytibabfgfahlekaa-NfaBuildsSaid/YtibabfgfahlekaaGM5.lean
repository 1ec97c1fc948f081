/- Several short texts of this proof, one behind the other. -/
import Derived.Test.YtibabfgfahlekaaGNfRef1
import Derived.Test.YtibabfgfahlekaaGNfMkE
import Derived.Test.YtibabfgfahlekaaGNfMkD
import Derived.Test.YtibabfgfahlekaaGNfMkC
import Derived.Test.YtibabfgfahlekaaGNfMkB
import Derived.Test.YtibabfgfahlekaaGNfMkA
import Derived.Test.YtibabfgfahlekaaGM3
import Derived.Test.YtibabfgfahlekaaGM2
import Derived.Deep.RegionHeld3
import Derived.KernelRfl
import Derived.Test.YtibabfgfahlekaaGNfBuild
section
/- Pruned from its seat's text: what the theorem hangs on. -/
/- The document's Make, walked. -/
set_option linter.unusedVariables false
set_option linter.unusedSimpArgs false
namespace Go.Proofs.YtibabfgfahlekaaQ
open Go.RowKit Go.Proofs.YtibabfgfahlekaaW.PrintWords Go.Proofs.YtibabfgfahlekaaW.PrintLast Go.Proofs.Bs Go.Proofs.Ytibabfgfahlekaa

theorem make_st (A0 : Option Addr) (nn c0 : Nat) (l : List Nd) (hr : rightB l = true) (hnn : nn ≤ 1000000) (w0 : World) (hR : Reads w0 7 A0 nn (l.flatMap Nd.cells)) (i : Nat) :
    i < l.length → MakeC (.slice A0 nn c0) i (attr fMk l i) (attr fSz l i) w0 := by
  obtain ⟨_, hall, _⟩ := (rightB_iff l).1 hr
  induction i using Nat.strongRecOn with
  | ind i ih =>
    intro hi
    have hx : l[i]? = some l[i] := List.getElem?_eq_getElem hi
    obtain ⟨ha, _⟩ := stack_room l hr i _ hx
    have hk : l[i].kind = 1 ∨ l[i].kind = 2 ∨ l[i].kind = 3 ∨ l[i].kind = 4 ∨ l[i].kind = 5 ∨ l[i].kind = 6 ∨ l[i].kind = 7 := by
      rcases kind_cases ha with ⟨hk, h0⟩ | ⟨hk, h0⟩ | ⟨hk, h0⟩ <;> omega
    rcases hk with hk | hk | hk | hk | hk | hk | hk
    · exact make_k1 A0 nn c0 l hr hnn w0 hR i hi (fun m hm => ih m hm) hk
    · exact make_k2 A0 nn c0 l hr hnn w0 hR i hi (fun m hm => ih m hm) hk
    · exact make_k3 A0 nn c0 l hr hnn w0 hR i hi (fun m hm => ih m hm) hk
    · exact make_k4 A0 nn c0 l hr hnn w0 hR i hi (fun m hm => ih m hm) hk
    · exact make_k5 A0 nn c0 l hr hnn w0 hR i hi (fun m hm => ih m hm) hk
    · exact make_k6 A0 nn c0 l hr hnn w0 hR i hi (fun m hm => ih m hm) hk
    · exact make_k7 A0 nn c0 l hr hnn w0 hR i hi (fun m hm => ih m hm) hk
end Go.Proofs.YtibabfgfahlekaaQ
end
section
/- Pruned from its seat's text: what the theorem hangs on. -/
/- nfa.Build: told as the printed texts are. -/
set_option linter.unusedVariables false
set_option linter.unusedSimpArgs false
namespace Go.Proofs.YtibabfgfahlekaaQ
open Go.RowKit Go.Proofs.YtibabfgfahlekaaW.PrintWords Go.Proofs.YtibabfgfahlekaaW.PrintLast Go.Proofs.Bs Go.Proofs.Ytibabfgfahlekaa

def nfa_Build.f (l0 : List S63) : Option (List St × Int × Int × Int) := if l0.length ≤ 1000000 ∧ ndsWf l0 = true then some (buildN (l0.map ndOf)) else none
theorem nfa_Build.calls (A0 : Option Addr) (c0 : Nat) (l0 : List S63) (r0 : List St) (r1 r2 r3 : Int) (w : World) (hr0 : Kd.C k63 w A0 l0.length l0) (hc0 : l0.length ≤ c0) (h : nfa_Build.f l0 = some (r0, r1, r2, r3)) :
    Calls Try.prog 18 #[.slice A0 l0.length c0] w fun e w' => ∃ v0_ : Value, e = .returned (.tuple #[.agg #[v0_, .int .i64 r1, .int .i64 r2], .int .i64 r3]) ∧ Kd.R k72 72 w' w.heap.size (fun _ => True) v0_ r0 ∧ Below w.heap.size w w' := by
  unfold nfa_Build.f at h
  split at h
  case isFalse => cases h
  case isTrue c =>
    injection h with h
    have hf : facts_Size.f l0 = some (sizeN (l0.map ndOf)) := by unfold facts_Size.f; rw [if_pos c]
    unfold buildN at h
    cases hR : rightB (l0.map ndOf) with
    | false =>
      rw [hR, if_neg Bool.false_ne_true] at h
      simp only [Prod.mk.injEq] at h
      obtain ⟨rfl, rfl, rfl, rfl⟩ := h
      exact build_err A0 c0 l0 w hr0 hc0 _ hf 3 (.inl ⟨by unfold sizeN; rw [hR, if_neg Bool.false_ne_true]; decide, rfl⟩)
    | true =>
      rw [hR, if_pos rfl] at h
      have hlen : 0 < l0.length := by have := ((rightB_iff _).1 hR).2.2.1; rwa [List.length_map] at this
      have hsz := size_sz (l0.map ndOf) hR ((l0.map ndOf).length - 1) (by rw [List.length_map]; omega)
      by_cases hs : attr fSz (l0.map ndOf) ((l0.map ndOf).length - 1) ≤ 600
      · rw [if_pos hs] at h
        simp only [Prod.mk.injEq] at h
        obtain ⟨rfl, rfl, rfl, rfl⟩ := h
        rw [List.length_map] at hs ⊢
        exact build_yes A0 c0 l0 w hr0 hc0 c.2 hR hs _ rfl
      · rw [if_neg hs] at h
        simp only [Prod.mk.injEq] at h
        obtain ⟨rfl, rfl, rfl, rfl⟩ := h
        exact build_err A0 c0 l0 w hr0 hc0 _ hf 4 (.inr ⟨by rw [sizeN_yes hR, hsz]; omega, rfl⟩)
end Go.Proofs.YtibabfgfahlekaaQ
end
