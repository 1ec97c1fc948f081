/- The walk of the laws of edit: awake. -/
import Derived.Test.YthdlgkpicgilhaaEd3
import Derived.Test.YthdlgkpicgilhaaEd4
import Derived.Test.YthdlgkpicgilhaaEd5
set_option linter.unusedVariables false
set_option linter.unusedSimpArgs false
namespace Go.Proofs.Ythdlgkpicgilhaa
open Go.RowKit

set_option maxRecDepth 100000 in
set_option maxHeartbeats 3200000 in
theorem awake_any (w : World) : Calls Try.prog 6 #[] w fun e w' => e = .returned (.bool true) ∧ Below w.heap.size w w' := by
  go_enter Try.func6, Try.ntmps6
  go_wp2_with fail
  refine (then_yes 2 1 ⟨#[97, 98]⟩ 3 2 ⟨#[120]⟩ _ (by decide) (by decide) (by decide)).mono ?_
  have ht : thenText ⟨#[97, 98]⟩ ⟨#[120]⟩ 2 3 2 = ⟨#[97, 120]⟩ := by decide
  rw [ht]
  rintro e w1 ⟨rfl, hb1⟩
  go_wp2_with fail
  refine (apply_yes ⟨#[48, 49, 50, 51]⟩ 1 2 ⟨#[97, 98]⟩ _ (by decide) (by decide) (by decide)).mono ?_
  have ha : applyB ⟨#[48, 49, 50, 51]⟩ 1 2 ⟨#[97, 98]⟩ = ⟨#[48, 97, 98, 51]⟩ := by decide
  rw [ha]
  rintro e w2 ⟨rfl, hb2⟩
  have hz1 := hb1.size
  have c0 : w2.cell? ⟨w1.heap.size, 0, none⟩ = some (.int .i64 2) := (hb2.cell (p := ⟨w1.heap.size, 0, none⟩) (by simp)).trans (by go_simp)
  have c1 : w2.cell? ⟨w1.heap.size, 1, none⟩ = some (.int .i64 2) := (hb2.cell (p := ⟨w1.heap.size, 1, none⟩) (by simp)).trans (by go_simp)
  have c2 : w2.cell? ⟨w1.heap.size, 2, none⟩ = some (.string ⟨#[97, 120]⟩) := (hb2.cell (p := ⟨w1.heap.size, 2, none⟩) (by simp)).trans (by go_simp)
  go_wp2_with fail
  go_ret
  exact ⟨rfl, bel_then (bel_alloc hb1 _) hb2⟩
end Go.Proofs.Ythdlgkpicgilhaa
