/- Pruned from its seat's text: what the theorem hangs on. -/
import Derived.Test.YtjgdpcblenahkaaDoorROpenKd
import Derived.Test.YtjgdpcblenahkaaDoorRBlEv
/- Runs of bytes among a law's arguments, laid open. -/
set_option linter.unusedVariables false
set_option linter.unusedSimpArgs false
namespace Go.Proofs.YtjgdpcblenahkaaDoorQ
open Go.ChangeShapes Go.WideShapes Go.ChangeAt Go.RowKit Go.Deep Go.Proofs.YtjgdpcblenahkaaDoor Go.Proofs.Bs
open Go.Proofs.YtjgdpcblenahkaaDoorW.PrintWords (Kd)
section
variable {H : Type} {enc : TypeId × Value → H} {w : World} {base : Nat} {spare : Nat → Bool} {held : Bool}
theorem cellsRun : Tryd.prog.cellsOf 53 = 2 := by kernel_rfl
theorem cellsU8 : Tryd.prog.cellsOf 5 = 1 := by kernel_rfl
def runCells (r : Nat × Nat) : List Value := [.int .u8 (r.1 : Int), .int .u8 (r.2 : Int)]
def runOk (r : Nat × Nat) : Prop := r.1 < 256 ∧ r.2 < 256
theorem open_u8 {fuel : Nat} {cs : List Value} {x : DataW H × List MemPlace} (h : DataW.trod enc Tryd.prog w base spare held fuel 5 cs = some x) : ∃ a : Nat, cs = [.int .u8 a] ∧ a < 256 := by
  obtain ⟨n, rfl, _, hw⟩ := DataW.trod_int Tryd.underlying5 h
  have hb := bounds_u8 hw
  obtain ⟨a, rfl⟩ := Int.eq_ofNat_of_zero_le hb.1
  exact ⟨a, rfl, by omega⟩
set_option maxRecDepth 100000 in
theorem open_run {fuel : Nat} {cs : List Value} {x : DataW H × List MemPlace} (h : DataW.trod enc Tryd.prog w base spare held fuel 53 cs = some x) : ∃ n : Nat × Nat, cs = runCells n ∧ runOk n := by
  obtain ⟨xs, m, _, _, hlen, hxl, hf⟩ := DataW.trod_struct Tryd.underlying53 h
  rw [cellsRun] at hlen
  have hxl : xs.length = 2 := hxl
  match cs, hlen, xs, hxl with
  | [c0, c1], _, [x0, x1], _ =>
    have h0 := hf 0 _ rfl
    have h1 := hf 1 _ rfl
    simp [cellsU8] at h0
    simp [cellsU8] at h1
    obtain ⟨k, hk, k0⟩ := open_u8 h0
    obtain ⟨a, ha, l0⟩ := open_u8 h1
    obtain rfl : c0 = .int .u8 k := by simpa using hk
    obtain rfl : c1 = .int .u8 a := by simpa using ha
    exact ⟨(k, a), rfl, k0, l0⟩
theorem flat_map_runs {α β : Type} (f : α → β) (g : β → List Value) (l : List α) : l.flatMap (fun x => g (f x)) = (l.map f).flatMap g := by
  induction l with
  | nil => rfl
  | cons x l ih => rw [List.flatMap_cons, List.map_cons, List.flatMap_cons, ih]
def cellsI (r : Rn) : List Value := [.int .u8 r.f0, .int .u8 r.f1]
theorem open_runs {A : Option Addr} {len cap : Nat} {d : DataW H} {ps : List MemPlace} (h : DataW.Trod enc Tryd.prog w base spare held 38 (.slice A len cap) d ps) :
    ∃ l : List (Nat × Nat), l.length = len ∧ Kd.C k53 w A len (l.map runI) ∧ len ≤ cap ∧ ∀ x ∈ l, x.1 < 256 ∧ x.2 < 256 := by
  obtain ⟨l, hr, hl, hok, _⟩ := open_list runCells runOk (fun _ => rfl) (0, 0) Tryd.underlying38 cellsRun open_run h
  have hr2 : Reads w 2 A len ((l.map runI).flatMap cellsI) := by
    rw [← flat_map_runs runI cellsI l]
    exact hr
  have hC := kC_of (size := 2) k53 cellsI rfl (fun _ => rfl) (fun x => k53_mk w x) (by omega) hr2 (kslice_le Tryd.underlying38 h)
  have hlen := hC.1
  rw [List.length_map] at hlen
  exact ⟨l, hlen, hC, hl, hok⟩
end
end Go.Proofs.YtjgdpcblenahkaaDoorQ
