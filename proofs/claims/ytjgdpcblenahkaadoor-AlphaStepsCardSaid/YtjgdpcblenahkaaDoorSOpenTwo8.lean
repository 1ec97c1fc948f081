/- Pruned from its seat's text: what the theorem hangs on. -/
import Derived.Test.YtjgdpcblenahkaaDoorSOpenInts
/- An argument that is an array of two bytes, laid open. -/
set_option linter.unusedVariables false
set_option linter.unusedSimpArgs false
namespace Go.Proofs.YtjgdpcblenahkaaDoor
open Go.ChangeShapes Go.WideShapes Go.ChangeAt Go.RowKit Go.Deep
section
variable {H : Type} {enc : TypeId × Value → H} {w : World} {base : Nat} {spare : Nat → Bool} {held : Bool}
theorem cells2u8 : Tryd.prog.cellsOf 55 = 2 := by kernel_rfl
theorem cells1u8 : Tryd.prog.cellsOf 5 = 1 := by kernel_rfl
theorem open_u8b {fuel : Nat} {cs : List Value} {x : DataW H × List MemPlace} (h : DataW.trod enc Tryd.prog w base spare held fuel 5 cs = some x) : ∃ a : Int, cs = [.int .u8 a] ∧ 0 ≤ a ∧ a < 256 := by
  obtain ⟨n, rfl, _, hw⟩ := DataW.trod_int Tryd.underlying5 h
  have hb := bounds_u8 hw
  exact ⟨n, rfl, by omega, by omega⟩
set_option maxRecDepth 100000 in
theorem open_two8 {r : Reach} {b0 : Nat} {v : Value} {d : DataW H} {p : List MemPlace} (hv : Value.okWide Tryd.prog w r b0 55 v) (h : DataW.Trod enc Tryd.prog w base spare held 55 v d p) :
    ∃ x y : Int, v = .agg #[.int .u8 x, .int .u8 y] ∧ (0 ≤ x ∧ x < 256) ∧ 0 ≤ y ∧ y < 256 := by
  simp only [Value.okWide, Tryd.underlying55] at hv
  obtain ⟨cs, rfl, hs, _⟩ := hv
  obtain ⟨fuel, hf⟩ := h
  obtain ⟨xs, m, _, _, hlen, hxl, hf⟩ := DataW.trod_array Tryd.underlying55 hf
  rw [cells2u8] at hlen
  simp only [cells1u8, Nat.mul_one] at hf
  obtain ⟨l⟩ := cs
  simp only [Value.cells] at hlen hf
  match l, hlen, xs, hxl with
  | [c0, c1], _, [x0, x1], _ =>
    obtain ⟨a, ha, wa⟩ := open_u8b (by simpa using hf 0 (by omega))
    obtain ⟨b, hb, wb⟩ := open_u8b (by simpa using hf 1 (by omega))
    injection ha with ha
    injection hb with hb
    subst ha hb
    exact ⟨a, b, rfl, wa, wb⟩
end
end Go.Proofs.YtjgdpcblenahkaaDoor
