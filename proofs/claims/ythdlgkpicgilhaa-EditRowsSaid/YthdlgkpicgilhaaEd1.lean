/- The walks of package edit, and of the document's answer for it. -/
import Derived.Test.YthdlgkpicgilhaaCore
set_option linter.unusedVariables false
set_option linter.unusedSimpArgs false
namespace Go.Proofs.Ythdlgkpicgilhaa
open Go.RowKit

def nearB (A D : Int) : Bool := decide (0 ≤ A ∧ A ≤ 1152921504606846976 ∧ 0 ≤ D ∧ D ≤ 1152921504606846976)
def mayB (A D n : Int) : Bool := decide (0 ≤ A ∧ 0 ≤ D ∧ A ≤ n ∧ D ≤ n - A)

set_option maxHeartbeats 800000 in
theorem near_any (A D : Int) (T : ByteArray) (w : World) : Calls Try.prog 20 #[.agg #[.int .i64 A, .int .i64 D, .string T]] w fun e w' => e = .returned (.bool (nearB A D)) ∧ Below w.heap.size w w' := by
  go_enter Try.func20, Try.ntmps20
  go_wp2
  all_goals (go_ret; refine ⟨ret_bool ?_, (Below.refl _ _).alloc (Nat.le_refl _) _⟩)
  all_goals (go_light; unfold nearB; grind)

set_option maxHeartbeats 800000 in
theorem may_any (A D n : Int) (T : ByteArray) (w : World) (hn0 : -9223372036854775808 ≤ n) (hn : n ≤ 9223372036854775807) : Calls Try.prog 15 #[.agg #[.int .i64 A, .int .i64 D, .string T], .int .i64 n] w fun e w' => e = .returned (.bool (mayB A D n)) ∧ Below w.heap.size w w' := by
  by_cases h1 : 0 ≤ A
  · by_cases h2 : A ≤ n
    all_goals
      go_enter Try.func15, Try.ntmps15
      go_wp2
      all_goals (go_ret; refine ⟨ret_bool ?_, (Below.refl _ _).alloc (Nat.le_refl _) _⟩)
      all_goals (go_light; unfold mayB; grind)
  · go_enter Try.func15, Try.ntmps15
    go_wp2
    all_goals (go_ret; refine ⟨ret_bool ?_, (Below.refl _ _).alloc (Nat.le_refl _) _⟩)
    all_goals (go_light; unfold mayB; grind)

set_option maxHeartbeats 800000 in
theorem rmay_any (A D n : Int) (T : ByteArray) (w : World) (hn0 : -9223372036854775808 ≤ n) (hn : n ≤ 9223372036854775807) : Calls Try.prog 11 #[.agg #[.int .i64 A, .int .i64 D, .string T], .int .i64 n] w fun e w' => e = .returned (.bool (mayB A D n)) ∧ Below w.heap.size w w' := by
  by_cases h1 : 0 ≤ D
  · by_cases h2 : D ≤ n
    all_goals
      go_enter Try.func11, Try.ntmps11
      go_wp2
      all_goals (go_ret; refine ⟨ret_bool ?_, (Below.refl _ _).alloc (Nat.le_refl _) _⟩)
      all_goals (go_light; unfold mayB; grind)
  · go_enter Try.func11, Try.ntmps11
    go_wp2
    all_goals (go_ret; refine ⟨ret_bool ?_, (Below.refl _ _).alloc (Nat.le_refl _) _⟩)
    all_goals (go_light; unfold mayB; grind)

set_option maxHeartbeats 800000 in
theorem few_any (A D : Int) (T : ByteArray) (w : World) (hT : T.size ≤ 140737488351232) : Calls Try.prog 7 #[.agg #[.int .i64 A, .int .i64 D, .string T]] w fun e w' => ∃ T', e = .returned (.agg #[.int .i64 A, .int .i64 D, .string T']) ∧ T'.size ≤ 40 ∧ Below w.heap.size w w' := by
  go_enter Try.func7, Try.ntmps7
  go_wp2
  · refine bodyPost_ret (v := .agg #[.int .i64 A, .int .i64 D, .string (T.extract 0 40)]) (by simp [results, Try.results7, go_sem]) rfl ⟨_, rfl, ?_, ?_⟩
    · simp; omega
    · exact bel_alloc (bel_alloc (Below.refl _ _) _) _
  · refine bodyPost_ret (v := .agg #[.int .i64 A, .int .i64 D, .string (T.extract 0 T.size)]) (by simp [results, Try.results7, go_sem]) rfl ⟨_, rfl, ?_, ?_⟩
    · simp; omega
    · exact bel_alloc (bel_alloc (Below.refl _ _) _) _

def applyB (s : ByteArray) (A D : Int) (T : ByteArray) : ByteArray := s.extract 0 A.toNat ++ T ++ s.extract (A + D).toNat s.size

set_option maxHeartbeats 800000 in
theorem rapply_any (s : ByteArray) (A D : Int) (T : ByteArray) (w : World) (hs : s.size ≤ 200) (hT : T.size ≤ 200) (h : mayB A D s.size = true) : Calls Try.prog 12 #[.string s, .agg #[.int .i64 A, .int .i64 D, .string T]] w fun e w' => e = .returned (.string (applyB s A D T)) ∧ Below w.heap.size w w' := by
  have h' : 0 ≤ A ∧ 0 ≤ D ∧ A ≤ s.size ∧ D ≤ s.size - A := by simpa [mayB] using h
  obtain ⟨h1, h2, h3, h4⟩ := h'
  clear h
  obtain ⟨a, rfl⟩ := Int.eq_ofNat_of_zero_le h1
  obtain ⟨d, rfl⟩ := Int.eq_ofNat_of_zero_le h2
  have h5 : a + d ≤ s.size := by omega
  have h6 : (a : Int) + d ≤ s.size := by omega
  have g1 : IntKind.i64.wrap ((a : Int) + d) = (a : Int) + d := IntWalk.i64_in _ (by omega)
  have g2 : (0 : Int) ≤ (a : Int) + d := by omega
  have g3 : ((a : Int) + d).toNat = a + d := by omega
  go_enter Try.func12, Try.ntmps12
  go_wp2_with fail
  go_quiet (fail)
  go_wp2
  go_ret
  refine ⟨?_, bel_drewN (bel_alloc (Below.refl _ _) _) _⟩
  unfold applyB
  rw [g3, Int.toNat_natCast]
  rfl

theorem apply_no (s : ByteArray) (A D : Int) (T : ByteArray) (w : World) (hs : s.size ≤ 200) (h : mayB A D s.size = false) : Calls Try.prog 13 #[.string s, .agg #[.int .i64 A, .int .i64 D, .string T]] w fun e w' => e = .returned (.tuple #[.string ⟨#[]⟩, .int .i64 2]) ∧ Below w.heap.size w w' := by
  have H := Lib.hid h
  clear h
  go_enter Try.func13, Try.ntmps13
  go_wp2_with fail
  refine (may_any A D s.size T _ (by omega) (by omega)).mono ?_
  rw [H.out]
  rintro e w1 ⟨rfl, hb1⟩
  go_wp2_with fail
  go_ret2
  exact ⟨rfl, bel_then (bel_alloc (Below.refl _ _) _) hb1⟩

set_option maxHeartbeats 800000 in
theorem apply_yes (s : ByteArray) (A D : Int) (T : ByteArray) (w : World) (hs : s.size ≤ 200) (hT : T.size ≤ 200) (h : mayB A D s.size = true) : Calls Try.prog 13 #[.string s, .agg #[.int .i64 A, .int .i64 D, .string T]] w fun e w' => e = .returned (.tuple #[.string (applyB s A D T), .int .i64 0]) ∧ Below w.heap.size w w' := by
  have h' : 0 ≤ A ∧ 0 ≤ D ∧ A ≤ s.size ∧ D ≤ s.size - A := by simpa [mayB] using h
  obtain ⟨h1, h2, h3, h4⟩ := h'
  have H := Lib.hid h
  clear h
  obtain ⟨a, rfl⟩ := Int.eq_ofNat_of_zero_le h1
  obtain ⟨d, rfl⟩ := Int.eq_ofNat_of_zero_le h2
  have h5 : a + d ≤ s.size := by omega
  have h6 : (a : Int) + d ≤ s.size := by omega
  have g1 : IntKind.i64.wrap ((a : Int) + d) = (a : Int) + d := IntWalk.i64_in _ (by omega)
  have g2 : (0 : Int) ≤ (a : Int) + d := by omega
  have g3 : ((a : Int) + d).toNat = a + d := by omega
  go_enter Try.func13, Try.ntmps13
  go_wp2_with fail
  refine (may_any _ _ s.size T _ (by omega) (by omega)).mono ?_
  rw [H.out]
  rintro e w1 ⟨rfl, hb1⟩
  have q0 : w1.cell? ⟨w.heap.size, 0, none⟩ = some (.int .i64 (a : Int)) := (hb1.cell (p := ⟨w.heap.size, 0, none⟩) (by simp)).trans (by go_simp)
  have q1 : w1.cell? ⟨w.heap.size, 1, none⟩ = some (.int .i64 (d : Int)) := (hb1.cell (p := ⟨w.heap.size, 1, none⟩) (by simp)).trans (by go_simp)
  have q2 : w1.cell? ⟨w.heap.size, 2, none⟩ = some (.string T) := (hb1.cell (p := ⟨w.heap.size, 2, none⟩) (by simp)).trans (by go_simp)
  go_wp2_with fail
  go_quiet (fail)
  go_wp2
  go_ret2
  refine ⟨?_, bel_drewN (bel_then (bel_alloc (Below.refl _ _) _) hb1) _⟩
  unfold applyB
  rw [g3, Int.toNat_natCast]
  rfl

end Go.Proofs.Ythdlgkpicgilhaa
