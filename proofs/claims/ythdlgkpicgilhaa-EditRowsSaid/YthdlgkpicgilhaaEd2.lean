/- The walks of package edit: Undo, Then; of the document's answer: Touches. -/
import Derived.Test.YthdlgkpicgilhaaEd1
set_option linter.unusedVariables false
set_option linter.unusedSimpArgs false
namespace Go.Proofs.Ythdlgkpicgilhaa
open Go.RowKit

def touchB (A D tl B E : Int) : Bool := nearB A D && nearB B E && decide (B ≤ A + tl) && decide (A ≤ B + E)

set_option maxHeartbeats 1600000 in
theorem touches_any (A D : Int) (T : ByteArray) (B E : Int) (U : ByteArray) (w : World) (hT : T.size ≤ 200) : Calls Try.prog 9 #[.agg #[.int .i64 A, .int .i64 D, .string T], .agg #[.int .i64 B, .int .i64 E, .string U]] w fun e w' => e = .returned (.bool (touchB A D T.size B E)) ∧ Below w.heap.size w w' := by
  go_enter Try.func9, Try.ntmps9
  go_wp2
  all_goals (go_ret; refine ⟨ret_bool ?_, bel_alloc (bel_alloc (Below.refl _ _) _) _⟩)
  all_goals (go_light; unfold touchB nearB; grind)

set_option maxHeartbeats 1600000 in
theorem undo_no (s : ByteArray) (A D : Int) (T : ByteArray) (w : World) (hs : s.size ≤ 200) (h : mayB A D s.size = false) : Calls Try.prog 14 #[.string s, .agg #[.int .i64 A, .int .i64 D, .string T]] w fun e w' => e = .returned (.tuple #[.agg #[.int .i64 0, .int .i64 0, .string ⟨#[]⟩], .int .i64 2]) ∧ Below w.heap.size w w' := by
  have H := Lib.hid h
  clear h
  go_enter Try.func14, Try.ntmps14
  go_wp2_with fail
  refine (may_any A D s.size T _ (by omega) (by omega)).mono ?_
  rw [H.out]
  rintro e w1 ⟨rfl, hb1⟩
  have hz := hb1.size
  have q0 : w1.cell? ⟨w.heap.size + 1, 0, none⟩ = some (.int .i64 0) := (hb1.cell (p := ⟨w.heap.size + 1, 0, none⟩) (by simp)).trans (by go_simp)
  have q1 : w1.cell? ⟨w.heap.size + 1, 1, none⟩ = some (.int .i64 0) := (hb1.cell (p := ⟨w.heap.size + 1, 1, none⟩) (by simp)).trans (by go_simp)
  have q2 : w1.cell? ⟨w.heap.size + 1, 2, none⟩ = some (.string ⟨#[]⟩) := (hb1.cell (p := ⟨w.heap.size + 1, 2, none⟩) (by simp)).trans (by go_simp)
  have f0 : ∀ j, w1.frozen? ⟨w.heap.size + 1, j, none⟩ = false := fun j => (hb1.frozen (p := ⟨w.heap.size + 1, j, none⟩) (by simp)).trans (by go_simp)
  go_wp2_with fail
  have hb0 := bel_then (bel_alloc (bel_alloc (Below.refl w.heap.size w) _) _) hb1
  refine bodyPost_ret (v := .tuple #[.agg #[.int .i64 0, .int .i64 0, .string ⟨#[]⟩], .int .i64 2]) (by simp [results, Try.results14, go_sem, q0, q1, q2]) rfl ⟨rfl, ?_⟩
  exact bel_set (bel_set (bel_set hb0 (by simp) _) (by simp) _) (by simp) _

set_option maxHeartbeats 1600000 in
theorem undo_yes (s : ByteArray) (A D : Int) (T : ByteArray) (w : World) (hs : s.size ≤ 200) (hT : T.size ≤ 200) (h : mayB A D s.size = true) : Calls Try.prog 14 #[.string s, .agg #[.int .i64 A, .int .i64 D, .string T]] w fun e w' => e = .returned (.tuple #[.agg #[.int .i64 A, .int .i64 T.size, .string (s.extract A.toNat (A + D).toNat)], .int .i64 0]) ∧ Below w.heap.size w w' := by
  have h' : 0 ≤ A ∧ 0 ≤ D ∧ A ≤ s.size ∧ D ≤ s.size - A := by simpa [mayB] using h
  obtain ⟨h1, h2, h3, h4⟩ := h'
  have H := Lib.hid h
  clear h
  obtain ⟨a, rfl⟩ := Int.eq_ofNat_of_zero_le h1
  obtain ⟨d, rfl⟩ := Int.eq_ofNat_of_zero_le h2
  have h5 : a + d ≤ s.size := by omega
  have h6 : (a : Int) + d ≤ s.size := by omega
  have g1 : IntKind.i64.wrap ((a : Int) + d) = (a : Int) + d := IntWalk.i64_in _ (by omega)
  have g2 : (0 : Int) ≤ (a : Int) + d := by omega
  have g3 : ((a : Int) + d).toNat = a + d := by omega
  go_enter Try.func14, Try.ntmps14
  go_wp2_with fail
  refine (may_any _ _ s.size T _ (by omega) (by omega)).mono ?_
  rw [H.out]
  rintro e w1 ⟨rfl, hb1⟩
  have hz := hb1.size
  have p0 : w1.cell? ⟨w.heap.size, 0, none⟩ = some (.int .i64 (a : Int)) := (hb1.cell (p := ⟨w.heap.size, 0, none⟩) (by simp; omega)).trans (by go_simp)
  have p1 : w1.cell? ⟨w.heap.size, 1, none⟩ = some (.int .i64 (d : Int)) := (hb1.cell (p := ⟨w.heap.size, 1, none⟩) (by simp; omega)).trans (by go_simp)
  have p2 : w1.cell? ⟨w.heap.size, 2, none⟩ = some (.string T) := (hb1.cell (p := ⟨w.heap.size, 2, none⟩) (by simp; omega)).trans (by go_simp)
  have q0 : w1.cell? ⟨w.heap.size + 1, 0, none⟩ = some (.int .i64 0) := (hb1.cell (p := ⟨w.heap.size + 1, 0, none⟩) (by simp)).trans (by go_simp)
  have q1 : w1.cell? ⟨w.heap.size + 1, 1, none⟩ = some (.int .i64 0) := (hb1.cell (p := ⟨w.heap.size + 1, 1, none⟩) (by simp)).trans (by go_simp)
  have q2 : w1.cell? ⟨w.heap.size + 1, 2, none⟩ = some (.string ⟨#[]⟩) := (hb1.cell (p := ⟨w.heap.size + 1, 2, none⟩) (by simp)).trans (by go_simp)
  have f0 : ∀ j, w1.frozen? ⟨w.heap.size + 1, j, none⟩ = false := fun j => (hb1.frozen (p := ⟨w.heap.size + 1, j, none⟩) (by simp)).trans (by go_simp)
  go_wp2_with fail
  go_region
  go_wp2
  have hb0 := bel_then (bel_alloc (bel_alloc (Below.refl w.heap.size w) _) _) hb1
  refine bodyPost_ret (v := .tuple #[.agg #[.int .i64 a, .int .i64 T.size, .string (s.extract a (a + d))], .int .i64 0]) (by simp [results, Try.results14, go_sem, q0, q1, q2]) rfl ⟨by rw [g3, Int.toNat_natCast], ?_⟩
  exact bel_drew (bel_set (bel_set (bel_set hb0 (by simp) _) (by simp) _) (by simp) _)

end Go.Proofs.Ythdlgkpicgilhaa
