/- Pruned from its seat's text: what the theorem hangs on. -/
import Derived.Test.YtjgdpcblenahkaaDoorRBlEv2
/- The laws of layer 1: each call answers true. -/
set_option linter.unusedVariables false
set_option linter.unusedSimpArgs false
namespace Go.Proofs.YtjgdpcblenahkaaDoor
open Go.RowKit Go.Proofs.YtjgdpcblenahkaaDoorQ Go.Proofs.Bs Go.Proofs.YtjgdpcblenahkaaDoorW.PrintWords
theorem byteSetRuns_any (A0 : Option Addr) (c0 : Nat) (l : List (Nat × Nat)) (w : World) (hG : TabG w) (hr : Kd.C k53 w A0 l.length (l.map runI)) (hc : l.length ≤ c0) (hl : ∀ x ∈ l, x.1 < 256 ∧ x.2 < 256) :
    Calls Tryd.prog 7 #[.slice A0 l.length c0] w fun e w' => e = .returned (.bool true) ∧ Below w.heap.size w w' := by
  obtain ⟨k, hk⟩ := (runsl_ev l hl).ex
  have h := tattinglaw01_ByteSetRuns.calls k A0 c0 (l.map runI) true w hG
  rw [List.length_map] at h
  exact h hr hc hk
end Go.Proofs.YtjgdpcblenahkaaDoor
