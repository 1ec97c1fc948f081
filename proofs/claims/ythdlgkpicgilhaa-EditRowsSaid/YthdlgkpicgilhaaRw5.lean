/- The law EditRows, for every input. -/
import Derived.Test.YthdlgkpicgilhaaOpenEdits
import Derived.Test.YthdlgkpicgilhaaRw2
namespace Go.Proofs.Ythdlgkpicgilhaa
open Go.RowKit
theorem editRows_any (t : ByteArray) (A : Option Addr) (n c : Nat) (l : List E1) (m : Int) (w : World) (ht : t.size ≤ 140737488351232)
    (h : Reads w 3 A n (l.flatMap E1.cells)) (hnc : n ≤ c) (hn : n ≤ 140737488351232) (hok : ∀ e ∈ l, e.ok) (hm0 : -9223372036854775808 ≤ m) (hm : m ≤ 9223372036854775807) :
    Calls Try.prog 5 #[.string t, .slice A n c, .int .i64 m] w fun e w' => e = .returned (.bool true) ∧ Below w.heap.size w w' :=
  editRows_gen rrows_any t A n c l m w ht h hnc hn hok hm0 hm
end Go.Proofs.Ythdlgkpicgilhaa
