/- A law's arguments, laid open: lists of numbers. -/
import Derived.Test.YtklmkkoccpobpaaOpenCore
set_option linter.unusedVariables false
set_option linter.unusedSimpArgs false
namespace Go.Proofs.Ytklmkkoccpobpaa
open Go.ChangeShapes Go.WideShapes Go.ChangeAt Go.RowKit Go.Deep

def I64ok (x : Int) : Prop := -9223372036854775808 ≤ x ∧ x ≤ 9223372036854775807
section
variable {H : Type} {enc : TypeId × Value → H} {w : World} {base : Nat} {spare : Nat → Bool} {held : Bool}
theorem open_i64l {fuel : Nat} {cs : List Value} {x : DataW H × List MemPlace} (h : DataW.trod enc Try.prog w base spare held fuel 3 cs = some x) : ∃ a : Int, cs = (fun x : Int => [Value.int .i64 x]) a ∧ I64ok a := by
  obtain ⟨a, h1, h2, h3⟩ := open_i64 h
  exact ⟨a, h1, h2, h3⟩
end
theorem flat_ints (l : List Int) : l.flatMap (fun x : Int => [Value.int .i64 x]) = ints l := by
  induction l with
  | nil => rfl
  | cons x l ih => rw [List.flatMap_cons, ih]; rfl
theorem Reads.ints_take {w : World} {A : Option Addr} {n : Nat} {l : List Int} (h : Reads w 1 A n (ints l)) (m : Nat) (hm : m ≤ n) : Reads w 1 A m (ints (l.take m)) := by
  rw [← flat_ints] at h ⊢
  exact Reads.take (size := 1) (fun x : Int => [Value.int .i64 x]) (fun _ => rfl) Nat.one_pos h m hm
end Go.Proofs.Ytklmkkoccpobpaa
