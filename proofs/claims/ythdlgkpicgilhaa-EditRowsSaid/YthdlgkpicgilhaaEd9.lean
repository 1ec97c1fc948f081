/- The walk of the law EditThen: the head (the arguments cut to their sizes). -/
import Derived.Test.YthdlgkpicgilhaaEd3
import Derived.Test.YthdlgkpicgilhaaEd4
import Derived.Test.YthdlgkpicgilhaaEd5
import Derived.Test.YthdlgkpicgilhaaEdBytes
import Derived.Deep.DeepCutAuto
import Derived.Deep.RegionWith
import Derived.Deep.RegionHeld3
set_option linter.unusedVariables false
set_option linter.unusedSimpArgs false
namespace Go.Proofs.Ythdlgkpicgilhaa
open Go.RowKit

def fewT (T : ByteArray) : ByteArray := T.extract 0 (min T.size 40)
theorem fewT_size (T : ByteArray) : (fewT T).size ≤ 40 := by unfold fewT; rw [ByteArray.size_extract]; omega

set_option maxHeartbeats 800000 in
theorem few_eq (A D : Int) (T : ByteArray) (w : World) (hT : T.size ≤ 140737488351232) : Calls Try.prog 7 #[.agg #[.int .i64 A, .int .i64 D, .string T]] w fun e w' => e = .returned (.agg #[.int .i64 A, .int .i64 D, .string (fewT T)]) ∧ Below w.heap.size w w' := by
  go_enter Try.func7, Try.ntmps7
  go_wp2
  · refine bodyPost_ret (v := .agg #[.int .i64 A, .int .i64 D, .string (T.extract 0 40)]) (by simp [results, Try.results7, go_sem]) rfl ⟨?_, bel_alloc (bel_alloc (Below.refl _ _) _) _⟩
    unfold fewT
    rw [Nat.min_eq_right (by omega)]
  · refine bodyPost_ret (v := .agg #[.int .i64 A, .int .i64 D, .string (T.extract 0 T.size)]) (by simp [results, Try.results7, go_sem]) rfl ⟨?_, bel_alloc (bel_alloc (Below.refl _ _) _) _⟩
    unfold fewT
    rw [Nat.min_eq_left (by omega)]
end Go.Proofs.Ythdlgkpicgilhaa
