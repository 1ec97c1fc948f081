/- Pruned from its seat's text: what the theorem hangs on. -/
import Derived.Test.YtjgdpcblenahkaaDoorJBlEv2
/- The laws of layer 1: each call answers true. -/
set_option linter.unusedVariables false
set_option linter.unusedSimpArgs false
namespace Go.Proofs.YtjgdpcblenahkaaDoor
open Go.RowKit Go.Proofs.YtjgdpcblenahkaaDoorQ Go.Proofs.Bs Go.Proofs.YtjgdpcblenahkaaDoorW.PrintWords
theorem byteSetJoins_any (s t : S) (c : Int) (w : World) (hG : TabG w) (hs : s.wf) (ht : t.wf) (h0 : 0 ≤ c) (h1 : c ≤ 255) :
    Calls Tryd.prog 4 #[.agg #[.int .u64 s.a, .int .u64 s.b, .int .u64 s.c, .int .u64 s.d], .agg #[.int .u64 t.a, .int .u64 t.b, .int .u64 t.c, .int .u64 t.d], .int .u8 c] w fun e w' => e = .returned (.bool true) ∧ Below w.heap.size w w' := by
  obtain ⟨n, rfl⟩ := Int.eq_ofNat_of_zero_le h0
  obtain ⟨k, hk⟩ := (joins_ev s t hs ht n (by omega)).ex
  exact tattinglaw01_ByteSetJoins.calls k s.a s.b s.c s.d t.a t.b t.c t.d n true w hG hk
end Go.Proofs.YtjgdpcblenahkaaDoor
