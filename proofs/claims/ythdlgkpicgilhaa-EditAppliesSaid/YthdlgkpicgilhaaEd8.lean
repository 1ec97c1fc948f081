/- The law EditApplies, for every input. -/
import Derived.Test.YthdlgkpicgilhaaEd6
import Derived.Test.YthdlgkpicgilhaaEd7
namespace Go.Proofs.Ythdlgkpicgilhaa
open Go.RowKit
theorem editApplies_any (t : ByteArray) (A D : Int) (T : ByteArray) (n : Int) (w : World) (ht : t.size ≤ 140737488351232) (hT : T.size ≤ 140737488351232) (hn0 : -9223372036854775808 ≤ n) (hn : n ≤ 9223372036854775807) :
    Calls Try.prog 4 #[.string t, .agg #[.int .i64 A, .int .i64 D, .string T], .int .i64 n] w fun e w' => e = .returned (.bool true) ∧ Below w.heap.size w w' :=
  applies_walk awake_any t A D T n w ht hT hn0 hn
end Go.Proofs.Ythdlgkpicgilhaa
