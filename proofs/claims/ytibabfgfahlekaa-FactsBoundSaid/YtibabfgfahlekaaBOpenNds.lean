/- Pruned from its seat's text: what the theorem hangs on. -/
import Derived.Test.YtibabfgfahlekaaBOpenKd
import Derived.Test.YtibabfgfahlekaaBQNd
/- Lists of nodes among a law's arguments, as the printed texts read them. -/
set_option linter.unusedVariables false
set_option linter.unusedSimpArgs false
namespace Go.Proofs.YtibabfgfahlekaaQ
open Go.ChangeShapes Go.WideShapes Go.ChangeAt Go.RowKit Go.Deep Go.Proofs.Ytibabfgfahlekaa Go.Proofs.Bs
open Go.Proofs.YtibabfgfahlekaaW.PrintWords (Kd)
section
variable {H : Type} {enc : TypeId × Value → H} {w : World} {base : Nat} {spare : Nat → Bool} {held : Bool}
theorem kcellsNode : Try.prog.cellsOf 63 = 7 := by kernel_rfl
def ndCells (x : NdI) : List Value := [.int .i64 x.f0, .int .u64 x.f1.f0, .int .u64 x.f1.f1, .int .u64 x.f1.f2, .int .u64 x.f1.f3, .int .i64 x.f2, .int .i64 x.f3]
set_option maxRecDepth 100000 in
theorem open_nd {fuel : Nat} {cs : List Value} {x : DataW H × List MemPlace} (h : DataW.trod enc Try.prog w base spare held fuel 63 cs = some x) : ∃ n : NdI, cs = ndCells n ∧ ndWf n := by
  obtain ⟨xs, m, _, _, hlen, hxl, hf⟩ := DataW.trod_struct Try.underlying63 h
  rw [kcellsNode] at hlen
  have hxl : xs.length = 4 := hxl
  match cs, hlen, xs, hxl with
  | [c0, c1, c2, c3, c4, c5, c6], _, [x0, x1, x2, x3], _ =>
    have h0 := hf 0 _ rfl
    have h1 := hf 1 _ rfl
    have h2 := hf 2 _ rfl
    have h3 := hf 3 _ rfl
    simp [cellsInt] at h0
    simp [kcellsSet] at h1
    simp [cellsInt] at h2
    simp [cellsInt] at h3
    obtain ⟨k, hk, k0, k1⟩ := open_i64 h0
    obtain ⟨s, hs, hse⟩ := kopen_set h1
    obtain ⟨a, ha, l0, l1⟩ := open_i64 h2
    obtain ⟨b, hb, q0, q1⟩ := open_i64 h3
    obtain rfl : c0 = .int .i64 k := by simpa using hk
    obtain rfl : c5 = .int .i64 a := by simpa using ha
    obtain rfl : c6 = .int .i64 b := by simpa using hb
    obtain ⟨rfl, rfl, rfl, rfl⟩ : c1 = .int .u64 s.f0 ∧ c2 = .int .u64 s.f1 ∧ c3 = .int .u64 s.f2 ∧ c4 = .int .u64 s.f3 := by simpa using hse
    exact ⟨⟨k, s, a, b⟩, rfl, hs⟩
theorem open_knodes {A : Option Addr} {len cap : Nat} {d : DataW H} {ps : List MemPlace} (h : DataW.Trod enc Try.prog w base spare held 22 (.slice A len cap) d ps) :
    ∃ l : List NdI, l.length = len ∧ Kd.C k63 w A len l ∧ len ≤ cap ∧ ndsWf l = true := by
  obtain ⟨l, hr, hl, hok, _⟩ := open_list ndCells ndWf (fun _ => rfl) ⟨0, ⟨0, 0, 0, 0⟩, 0, 0⟩ Try.underlying22 kcellsNode open_nd h
  have hC := kC_of (size := 7) k63 ndCells rfl (fun _ => rfl) (fun x => k63_mk w x) (by omega) hr (kslice_le Try.underlying22 h)
  exact ⟨l, hC.1, hC, hl, List.all_eq_true.2 fun x hx => decide_eq_true (hok x hx)⟩
end
end Go.Proofs.YtibabfgfahlekaaQ
