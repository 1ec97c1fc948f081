/- Pruned from its seat's text: what the theorem hangs on. -/
import Derived.Test.YtjgdpcblenahkaaDoorJOpenCore
import Derived.Test.YtjgdpcblenahkaaDoorJQSets
import Derived.Lib.SmallJoins
/- Lists as the printed texts read them; sets and runs among a law's arguments. -/
set_option linter.unusedVariables false
set_option linter.unusedSimpArgs false
namespace Go.Proofs.YtjgdpcblenahkaaDoorQ
open Go.ChangeShapes Go.WideShapes Go.ChangeAt Go.RowKit Go.Deep Go.Proofs.YtjgdpcblenahkaaDoor Go.Proofs.Bs
open Go.Proofs.YtjgdpcblenahkaaDoorW.PrintWords (Kd)
section
variable {H : Type} {enc : TypeId × Value → H} {w : World} {base : Nat} {spare : Nat → Bool} {held : Bool}
theorem kcellsU64 : Tryd.prog.cellsOf 22 = 1 := by kernel_rfl
theorem kcellsSet : Tryd.prog.cellsOf 24 = 4 := by kernel_rfl
theorem kopen_u64 {fuel : Nat} {cs : List Value} {x : DataW H × List MemPlace} (h : DataW.trod enc Tryd.prog w base spare held fuel 22 cs = some x) : ∃ a : Int, cs = [.int .u64 a] ∧ 0 ≤ a ∧ a < 18446744073709551616 := by
  obtain ⟨n, rfl, _, hw⟩ := DataW.trod_int Tryd.underlying22 h
  have hb := bounds_u64 hw
  exact ⟨n, rfl, by omega, by omega⟩
theorem kopen_set {fuel : Nat} {cs : List Value} {x : DataW H × List MemPlace} (h : DataW.trod enc Tryd.prog w base spare held fuel 24 cs = some x) :
    ∃ s : S24, wfI s.f0 s.f1 s.f2 s.f3 ∧ cs = [.int .u64 s.f0, .int .u64 s.f1, .int .u64 s.f2, .int .u64 s.f3] := by
  obtain ⟨xs, m, _, _, hlen, hxl, hf⟩ := DataW.trod_array Tryd.underlying24 h
  rw [kcellsSet] at hlen
  simp only [kcellsU64, Nat.mul_one] at hf
  match cs, hlen, xs, hxl with
  | [c0, c1, c2, c3], _, [x0, x1, x2, x3], _ =>
    obtain ⟨a, ha, wa⟩ := kopen_u64 (by simpa using hf 0 (by omega))
    obtain ⟨b, hb, wb⟩ := kopen_u64 (by simpa using hf 1 (by omega))
    obtain ⟨c, hc, wc⟩ := kopen_u64 (by simpa using hf 2 (by omega))
    obtain ⟨d, hd, wd⟩ := kopen_u64 (by simpa using hf 3 (by omega))
    injection ha with ha
    injection hb with hb
    injection hc with hc
    injection hd with hd
    subst ha hb hc hd
    exact ⟨⟨a, b, c, d⟩, ⟨wa, wb, wc, wd⟩, rfl⟩
set_option maxRecDepth 100000 in
theorem open_set_arg {r : Reach} {b0 : Nat} {v : Value} {d : DataW H} {p : List MemPlace} (hv : Value.okWide Tryd.prog w r b0 24 v) (h : DataW.Trod enc Tryd.prog w base spare held 24 v d p) :
    ∃ s : S, v = .agg #[.int .u64 s.a, .int .u64 s.b, .int .u64 s.c, .int .u64 s.d] ∧ s.wf := by
  simp only [Value.okWide, Tryd.underlying24] at hv
  obtain ⟨cs, rfl, hs, _⟩ := hv
  obtain ⟨fuel, hf⟩ := h
  obtain ⟨s, hw, e⟩ := kopen_set hf
  obtain ⟨l⟩ := cs
  simp only [Value.cells] at e
  subst e
  obtain ⟨e0, e1, e2, e3⟩ := setI_cast hw
  exact ⟨setI s.f0 s.f1 s.f2 s.f3, by rw [e0, e1, e2, e3], setI_wf hw⟩
end
end Go.Proofs.YtjgdpcblenahkaaDoorQ
