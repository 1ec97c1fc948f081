/- The walk of package edit: Then, the way in which the edits do not touch. -/
import Derived.Test.YthdlgkpicgilhaaEd2
set_option linter.unusedVariables false
set_option linter.unusedSimpArgs false
namespace Go.Proofs.Ythdlgkpicgilhaa
open Go.RowKit

set_option maxRecDepth 100000 in
set_option maxHeartbeats 3200000 in
theorem then_far (A D : Int) (T : ByteArray) (B E : Int) (U : ByteArray) (w : World) (hT : T.size ≤ 200) (h : nearB A D = false ∨ nearB B E = false) : Calls Try.prog 8 #[.agg #[.int .i64 A, .int .i64 D, .string T], .agg #[.int .i64 B, .int .i64 E, .string U]] w fun r w' =>
    r = .returned (.tuple #[.agg #[.int .i64 0, .int .i64 0, .string ⟨#[]⟩], .bool false]) ∧ Below w.heap.size w w' := by
  have H := Lib.hid h
  clear h
  go_enter Try.func8, Try.ntmps8
  go_wp2_with fail
  refine (near_any _ _ T _).mono ?_
  rcases hn1 : nearB A D with _ | _
  · have N1 := Lib.hid hn1
    clear hn1
    rintro r w1 ⟨rfl, hb1⟩
    have hz1 : w.heap.size + 2 < w1.heap.size := by have := hb1.size; simp at this; omega
    have r0 : w1.cell? ⟨w.heap.size + 2, 0, none⟩ = some (.int .i64 0) := (hb1.cell (p := ⟨w.heap.size + 2, 0, none⟩) (by simp)).trans (by go_simp)
    have r1 : w1.cell? ⟨w.heap.size + 2, 1, none⟩ = some (.int .i64 0) := (hb1.cell (p := ⟨w.heap.size + 2, 1, none⟩) (by simp)).trans (by go_simp)
    have r2 : w1.cell? ⟨w.heap.size + 2, 2, none⟩ = some (.string ⟨#[]⟩) := (hb1.cell (p := ⟨w.heap.size + 2, 2, none⟩) (by simp)).trans (by go_simp)
    have f0 : ∀ j, w1.frozen? ⟨w.heap.size + 2, j, none⟩ = false := fun j => (hb1.frozen (p := ⟨w.heap.size + 2, j, none⟩) (by simp)).trans (by go_simp)
    have hb01 := bel_then (bel_alloc (bel_alloc (bel_alloc (Below.refl w.heap.size w) _) _) _) hb1
    go_wp2_with fail
    refine bodyPost_ret (v := .tuple #[.agg #[.int .i64 0, .int .i64 0, .string ⟨#[]⟩], .bool false]) (by simp [results, Try.results8, go_sem, r0, r1, r2]) rfl ⟨rfl, ?_⟩
    exact bel_set (bel_set (bel_set hb01 (by simp; omega) _) (by simp; omega) _) (by simp; omega) _
  · have M1 : 0 ≤ A ∧ A ≤ 1152921504606846976 ∧ 0 ≤ D ∧ D ≤ 1152921504606846976 := by simpa [nearB] using hn1
    obtain ⟨m1, m2, m3, m4⟩ := M1
    have N1 := Lib.hid hn1
    clear hn1
    rintro r w1 ⟨rfl, hb1⟩
    have hz1 : w.heap.size + 2 < w1.heap.size := by have := hb1.size; simp at this; omega
    obtain ⟨hc1, hf1⟩ := (⟨fun b o h => hb1.cell (p := ⟨b, o, none⟩) h, fun b o h => hb1.frozen (p := ⟨b, o, none⟩) h⟩ : (∀ b o, b < _ → w1.cell? ⟨b, o, none⟩ = _) ∧ (∀ b o, b < _ → w1.frozen? ⟨b, o, none⟩ = _))
    have hb01 := bel_then (bel_alloc (bel_alloc (bel_alloc (Below.refl w.heap.size w) _) _) _) hb1
    go_wp2_with fail
    refine (near_any _ _ U _).mono ?_
    rcases hn2 : nearB B E with _ | _
    · have N2 := Lib.hid hn2
      clear hn2
      rintro r w2 ⟨rfl, hb2⟩
      have r0 : w2.cell? ⟨w.heap.size + 2, 0, none⟩ = some (.int .i64 0) := (hb2.cell (p := ⟨w.heap.size + 2, 0, none⟩) (by simp; omega)).trans (by go_simp)
      have r1 : w2.cell? ⟨w.heap.size + 2, 1, none⟩ = some (.int .i64 0) := (hb2.cell (p := ⟨w.heap.size + 2, 1, none⟩) (by simp; omega)).trans (by go_simp)
      have r2 : w2.cell? ⟨w.heap.size + 2, 2, none⟩ = some (.string ⟨#[]⟩) := (hb2.cell (p := ⟨w.heap.size + 2, 2, none⟩) (by simp; omega)).trans (by go_simp)
      have f0 : ∀ j, w2.frozen? ⟨w.heap.size + 2, j, none⟩ = false := fun j => (hb2.frozen (p := ⟨w.heap.size + 2, j, none⟩) (by simp; omega)).trans ((hf1 _ _ (by simp)).trans (by go_simp))
      have hb02 := bel_then hb01 hb2
      go_wp2_with fail
      refine bodyPost_ret (v := .tuple #[.agg #[.int .i64 0, .int .i64 0, .string ⟨#[]⟩], .bool false]) (by simp [results, Try.results8, go_sem, r0, r1, r2]) rfl ⟨rfl, ?_⟩
      exact bel_set (bel_set (bel_set hb02 (by simp; omega) _) (by simp; omega) _) (by simp; omega) _
    · exfalso; have z := H.out; rw [N1.out, hn2] at z; simp at z

set_option maxRecDepth 100000 in
set_option maxHeartbeats 3200000 in
theorem then_off (a d : Nat) (T : ByteArray) (b e : Nat) (U : ByteArray) (w : World) (hT : T.size ≤ 200) (n1 : nearB a d = true) (n2 : nearB b e = true) (hno : a + T.size < b ∨ (b ≤ a + T.size ∧ b + e < a)) : Calls Try.prog 8 #[.agg #[.int .i64 a, .int .i64 d, .string T], .agg #[.int .i64 b, .int .i64 e, .string U]] w fun r w' =>
    r = .returned (.tuple #[.agg #[.int .i64 0, .int .i64 0, .string ⟨#[]⟩], .bool false]) ∧ Below w.heap.size w w' := by
  have M1 : a ≤ 1152921504606846976 ∧ b ≤ 1152921504606846976 ∧ e ≤ 1152921504606846976 := by
    simp only [nearB, decide_eq_true_eq] at n1 n2
    omega
  obtain ⟨m1, m2, m3⟩ := M1
  have N1 := Lib.hid n1
  have N2 := Lib.hid n2
  clear n1 n2
  go_enter Try.func8, Try.ntmps8
  go_wp2_with fail
  refine (near_any _ _ T _).mono ?_
  rw [N1.out]
  rintro r w1 ⟨rfl, hb1⟩
  obtain ⟨hc1, hf1⟩ := (⟨fun b o h => hb1.cell (p := ⟨b, o, none⟩) h, fun b o h => hb1.frozen (p := ⟨b, o, none⟩) h⟩ : (∀ b o, b < _ → w1.cell? ⟨b, o, none⟩ = _) ∧ (∀ b o, b < _ → w1.frozen? ⟨b, o, none⟩ = _))
  have hz1 : w.heap.size + 2 < w1.heap.size := by have := hb1.size; simp at this; omega
  have hb01 := bel_then (bel_alloc (bel_alloc (bel_alloc (Below.refl w.heap.size w) _) _) _) hb1
  go_wp2_with fail
  refine (near_any _ _ U _).mono ?_
  rw [N2.out]
  rintro r w2 ⟨rfl, hb2⟩
  have p0 : w2.cell? ⟨w.heap.size, 0, none⟩ = some (.int .i64 (a : Int)) := (hb2.cell (p := ⟨w.heap.size, 0, none⟩) (by simp; omega)).trans (by go_simp)
  have q0 : w2.cell? ⟨w.heap.size + 1, 0, none⟩ = some (.int .i64 (b : Int)) := (hb2.cell (p := ⟨w.heap.size + 1, 0, none⟩) (by simp; omega)).trans (by go_simp)
  have q1 : w2.cell? ⟨w.heap.size + 1, 1, none⟩ = some (.int .i64 (e : Int)) := (hb2.cell (p := ⟨w.heap.size + 1, 1, none⟩) (by simp; omega)).trans (by go_simp)
  have r0 : w2.cell? ⟨w.heap.size + 2, 0, none⟩ = some (.int .i64 0) := (hb2.cell (p := ⟨w.heap.size + 2, 0, none⟩) (by simp; omega)).trans (by go_simp)
  have r1 : w2.cell? ⟨w.heap.size + 2, 1, none⟩ = some (.int .i64 0) := (hb2.cell (p := ⟨w.heap.size + 2, 1, none⟩) (by simp; omega)).trans (by go_simp)
  have r2 : w2.cell? ⟨w.heap.size + 2, 2, none⟩ = some (.string ⟨#[]⟩) := (hb2.cell (p := ⟨w.heap.size + 2, 2, none⟩) (by simp; omega)).trans (by go_simp)
  have f0 : ∀ j, w2.frozen? ⟨w.heap.size + 2, j, none⟩ = false := fun j => (hb2.frozen (p := ⟨w.heap.size + 2, j, none⟩) (by simp; omega)).trans ((hf1 _ _ (by simp)).trans (by go_simp))
  have hb02 := bel_then hb01 hb2
  clear hc1 hf1 hb1 hb2 hb01 hz1
  rcases hno with c | ⟨c0, c⟩
  all_goals
    go_wp2_with fail
    refine bodyPost_ret (v := .tuple #[.agg #[.int .i64 0, .int .i64 0, .string ⟨#[]⟩], .bool false]) (by simp [results, Try.results8, go_sem, r0, r1, r2]) rfl ⟨rfl, ?_⟩
    exact bel_set (bel_set (bel_set hb02 (by simp; omega) _) (by simp; omega) _) (by simp; omega) _

theorem then_no (A D : Int) (T : ByteArray) (B E : Int) (U : ByteArray) (w : World) (hT : T.size ≤ 200) (h : touchB A D T.size B E = false) : Calls Try.prog 8 #[.agg #[.int .i64 A, .int .i64 D, .string T], .agg #[.int .i64 B, .int .i64 E, .string U]] w fun r w' =>
    r = .returned (.tuple #[.agg #[.int .i64 0, .int .i64 0, .string ⟨#[]⟩], .bool false]) ∧ Below w.heap.size w w' := by
  by_cases hn : nearB A D = false ∨ nearB B E = false
  · exact then_far A D T B E U w hT hn
  · have n1 : nearB A D = true := by simpa using fun z => hn (.inl z)
    have n2 : nearB B E = true := by simpa using fun z => hn (.inr z)
    have k1 := n1
    have k2 := n2
    simp only [nearB, decide_eq_true_eq] at k1 k2
    obtain ⟨a, rfl⟩ := Int.eq_ofNat_of_zero_le k1.1
    obtain ⟨d, rfl⟩ := Int.eq_ofNat_of_zero_le k1.2.2.1
    obtain ⟨b, rfl⟩ := Int.eq_ofNat_of_zero_le k2.1
    obtain ⟨e, rfl⟩ := Int.eq_ofNat_of_zero_le k2.2.2.1
    refine then_off a d T b e U w hT n1 n2 ?_
    simp only [touchB, n1, n2, Bool.true_and, Bool.and_eq_false_iff, decide_eq_false_iff_not] at h
    omega
end Go.Proofs.Ythdlgkpicgilhaa
