/- Pruned from its seat's text: what the theorem hangs on. -/
import Derived.Test.YtjgdpcblenahkaaDoorTBlEv2
/- The laws of layer 1: each call answers true. -/
set_option linter.unusedVariables false
set_option linter.unusedSimpArgs false
namespace Go.Proofs.YtjgdpcblenahkaaDoor
open Go.RowKit Go.Proofs.YtjgdpcblenahkaaDoorQ Go.Proofs.Bs Go.Proofs.YtjgdpcblenahkaaDoorW.PrintWords
theorem byteSetTurns_any (s t : S) (w : World) (hG : TabG w) (hs : s.wf) (ht : t.wf) :
    Calls Tryd.prog 3 #[.agg #[.int .u64 s.a, .int .u64 s.b, .int .u64 s.c, .int .u64 s.d], .agg #[.int .u64 t.a, .int .u64 t.b, .int .u64 t.c, .int .u64 t.d]] w fun e w' => e = .returned (.bool true) ∧ Below w.heap.size w w' := by
  obtain ⟨k, hk⟩ := (turns_ev s t hs ht).ex
  exact tattinglaw01_ByteSetTurns.calls k s.a s.b s.c s.d t.a t.b t.c t.d true w hG hk
end Go.Proofs.YtjgdpcblenahkaaDoor
