/- Pruned from its seat's text: what the theorem hangs on. -/
import Derived.Test.YtibabfgfahlekaaROpenInts
/- An argument that is an array of two numbers, laid open. -/
set_option linter.unusedVariables false
set_option linter.unusedSimpArgs false
namespace Go.Proofs.Ytibabfgfahlekaa
open Go.ChangeShapes Go.WideShapes Go.ChangeAt Go.RowKit Go.Deep
section
variable {H : Type} {enc : TypeId × Value → H} {w : World} {base : Nat} {spare : Nat → Bool} {held : Bool}
theorem cells2int : Try.prog.cellsOf 59 = 2 := by kernel_rfl
theorem open_two {r : Reach} {b0 : Nat} {v : Value} {d : DataW H} {p : List MemPlace} (hv : Value.okWide Try.prog w r b0 59 v) (h : DataW.Trod enc Try.prog w base spare held 59 v d p) :
    ∃ x y : Int, v = .agg #[.int .i64 x, .int .i64 y] := by
  simp only [Value.okWide, Try.underlying59] at hv
  obtain ⟨cs, rfl, hs, _⟩ := hv
  obtain ⟨fuel, hf⟩ := h
  obtain ⟨xs, m, _, _, hlen, hxl, hf⟩ := DataW.trod_array Try.underlying59 hf
  rw [cells2int] at hlen
  simp only [cellsInt, Nat.mul_one] at hf
  obtain ⟨l⟩ := cs
  simp only [Value.cells] at hlen hf
  match l, hlen, xs, hxl with
  | [c0, c1], _, [x0, x1], _ =>
    obtain ⟨a, ha, _⟩ := open_i64l (by simpa using hf 0 (by omega))
    obtain ⟨b, hb, _⟩ := open_i64l (by simpa using hf 1 (by omega))
    injection ha with ha
    injection hb with hb
    subst ha hb
    exact ⟨a, b, rfl⟩
end
end Go.Proofs.Ytibabfgfahlekaa
