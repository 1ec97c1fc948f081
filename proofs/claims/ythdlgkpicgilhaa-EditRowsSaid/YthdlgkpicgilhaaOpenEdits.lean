/- An argument that is a list of edits, laid open. -/
import Derived.Test.YthdlgkpicgilhaaOpenCore
import Derived.Test.YthdlgkpicgilhaaRw4
import Derived.Test.YthdlgkpicgilhaaEd6
set_option linter.unusedVariables false
set_option linter.unusedSimpArgs false
namespace Go.Proofs.Ythdlgkpicgilhaa
open Go.ChangeShapes Go.WideShapes Go.ChangeAt Go.RowKit Go.Deep

def E1.ok (e : E1) : Prop := e.T.size ≤ 9223372036854775807
section
variable {H : Type} {enc : TypeId × Value → H} {w : World} {base : Nat} {spare : Nat → Bool} {held : Bool}
theorem cellsEdit : Try.prog.cellsOf 23 = 3 := by kernel_rfl
theorem cellsStr : Try.prog.cellsOf 9 = 1 := by kernel_rfl
theorem open_e1 {fuel : Nat} {cs : List Value} {x : DataW H × List MemPlace} (h : DataW.trod enc Try.prog w base spare held fuel 23 cs = some x) : ∃ e : E1, cs = e.cells ∧ e.ok := by
  obtain ⟨xs, m, _, _, hlen, hxl, hf⟩ := DataW.trod_struct Try.underlying23 h
  rw [cellsEdit] at hlen
  have hxl : xs.length = 3 := hxl
  match cs, hlen, xs, hxl with
  | [c0, c1, c2], _, [x0, x1, x2], _ =>
    have h0 := hf 0 _ rfl
    have h1 := hf 1 _ rfl
    have h2 := hf 2 _ rfl
    simp [cellsInt] at h0
    simp [cellsInt] at h1
    simp [cellsStr] at h2
    obtain ⟨a, ha, _, _⟩ := open_i64 h0
    obtain ⟨d, hd, _, _⟩ := open_i64 h1
    obtain ⟨s, hs, _, hw⟩ := DataW.trod_string Try.underlying9 h2
    obtain rfl : c0 = .int .i64 a := by simpa using ha
    obtain rfl : c1 = .int .i64 d := by simpa using hd
    obtain rfl : c2 = .string s := by simpa using hs
    exact ⟨⟨a, d, s⟩, rfl, (by unfold maxLen at hw; exact hw : s.size ≤ 9223372036854775807)⟩
end
theorem editRows_gen (RR : RefRows) (t : ByteArray) (A : Option Addr) (n c : Nat) (l : List E1) (m : Int) (w : World) (ht : t.size ≤ 140737488351232)
    (h : Reads w 3 A n (l.flatMap E1.cells)) (hnc : n ≤ c) (hn : n ≤ 140737488351232) (hok : ∀ e ∈ l, e.ok) (hm0 : -9223372036854775808 ≤ m) (hm : m ≤ 9223372036854775807) :
    Calls Try.prog 5 #[.string t, .slice A n c, .int .i64 m] w fun e w' => e = .returned (.bool true) ∧ Below w.heap.size w w' :=
  editRows_of RR awake_any t A n c l m w ht h hnc hn hok hm0 hm
end Go.Proofs.Ythdlgkpicgilhaa
