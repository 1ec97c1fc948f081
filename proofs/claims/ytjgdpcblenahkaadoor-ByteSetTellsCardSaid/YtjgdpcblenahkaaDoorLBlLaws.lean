/- Pruned from its seat's text: what the theorem hangs on. -/
import Derived.Test.YtjgdpcblenahkaaDoorLBlEv2
/- The laws of layer 1: each call answers true. -/
set_option linter.unusedVariables false
set_option linter.unusedSimpArgs false
namespace Go.Proofs.YtjgdpcblenahkaaDoor
open Go.RowKit Go.Proofs.YtjgdpcblenahkaaDoorQ Go.Proofs.Bs Go.Proofs.YtjgdpcblenahkaaDoorW.PrintWords
theorem byteSetTells_any (s : S) (lo hi : Int) (w : World) (hG : TabG w) (hs : s.wf) (h0 : 0 ≤ lo) (h1 : lo ≤ 255) (h2 : 0 ≤ hi) (h3 : hi ≤ 255) :
    Calls Tryd.prog 5 #[.agg #[.int .u64 s.a, .int .u64 s.b, .int .u64 s.c, .int .u64 s.d], .int .u8 lo, .int .u8 hi] w fun e w' => e = .returned (.bool true) ∧ Below w.heap.size w w' := by
  obtain ⟨n, rfl⟩ := Int.eq_ofNat_of_zero_le h0
  obtain ⟨m, rfl⟩ := Int.eq_ofNat_of_zero_le h2
  obtain ⟨k, hk⟩ := (tells_ev s hs n m (by omega) (by omega)).ex
  exact tattinglaw01_ByteSetTells.calls k s.a s.b s.c s.d n m true w hG hk
end Go.Proofs.YtjgdpcblenahkaaDoor
