/- An argument that is an edit, laid open. -/
import Derived.Test.YthdlgkpicgilhaaOpenCore
import Derived.Lib.SmallJoins
set_option linter.unusedVariables false
set_option linter.unusedSimpArgs false
namespace Go.Proofs.Ythdlgkpicgilhaa
open Go.ChangeShapes Go.WideShapes Go.ChangeAt Go.RowKit Go.Deep
section
variable {H : Type} {enc : TypeId × Value → H} {w : World} {base : Nat} {spare : Nat → Bool} {held : Bool}

theorem open_edit {r : Reach} {b0 : Nat} {v : Value} {d : DataW H} {p : List MemPlace} (hv : Value.okWide Try.prog w r b0 23 v) (h : DataW.Trod enc Try.prog w base spare held 23 v d p) :
    ∃ (A D : Int) (T : ByteArray), v = .agg #[.int .i64 A, .int .i64 D, .string T] ∧ d = .agg [.lit (.int .i64 A), .lit (.int .i64 D), .lit (.string T.data.toList)] ∧ p = [] ∧
      -9223372036854775808 ≤ A ∧ A ≤ 9223372036854775807 ∧ -9223372036854775808 ≤ D ∧ D ≤ 9223372036854775807 := by
  obtain ⟨v0, v1, v2, y0, y1, y2, n, rfl, hd, hp, h0, h1, h2⟩ := Joins.open_agg3 Try.underlying23 (by kernel_rfl) (by kernel_rfl) hv h
  obtain ⟨A, e0, x0, w0⟩ := DataW.trod_int Try.underlying3 h0
  obtain ⟨D, e1, x1, w1⟩ := DataW.trod_int Try.underlying3 h1
  obtain ⟨T, e2, x2, w2⟩ := DataW.trod_string Try.underlying9 h2
  injection e0 with e0
  injection e1 with e1
  injection e2 with e2
  subst e0 e1 e2 x0 x1 x2
  exact ⟨A, D, T, rfl, hd, hp, (bounds_i64 w0).1, (bounds_i64 w0).2, (bounds_i64 w1).1, (bounds_i64 w1).2⟩

theorem sized_edit {ts : List TypeId} {ds : List (DataW H)} {j : Nat} {x y : DataW H} {T : List UInt8} (h : (DataW.weightsEach Try.prog ts ds).all (· ≤ reachBytes) = true) (ht : ts[j]? = some 23) (hd : ds[j]? = some (.agg [x, y, .lit (.string T)])) : T.length ≤ 140737488351232 := by
  have := List.all_eq_true.1 h _ (DataW.weights_mem_each ht hd T.length (by simp [DataW.weights, DataW.weightsEach, Try.underlying23]))
  exact of_decide_eq_true this
end
end Go.Proofs.Ythdlgkpicgilhaa
