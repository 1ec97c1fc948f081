/- The walk of package edit: Then. -/
import Derived.Test.YthdlgkpicgilhaaEd2
import Derived.StillTailTactics
import Derived.Deep.DeepCutAuto
set_option linter.unusedVariables false
set_option linter.unusedSimpArgs false
namespace Go.Proofs.Ythdlgkpicgilhaa
open Go.RowKit

theorem bcell {W w1 : World} (hb : Below W.heap.size W w1) : (∀ b o, b < W.heap.size → w1.cell? ⟨b, o, none⟩ = W.cell? ⟨b, o, none⟩) ∧ (∀ b o, b < W.heap.size → w1.frozen? ⟨b, o, none⟩ = W.frozen? ⟨b, o, none⟩) :=
  ⟨fun b o h => hb.cell (p := ⟨b, o, none⟩) h, fun b o h => hb.frozen (p := ⟨b, o, none⟩) h⟩

/-- What two edits that touch do together. -/
def thenText (T U : ByteArray) (a b e : Nat) : ByteArray := T.extract 0 (b - a) ++ U ++ T.extract (min (b + e) (a + T.size) - a) T.size
theorem ret_then {x x' y y' : Int} {T T' : ByteArray} (hx : x = x') (hy : y = y') (hT : T = T') : (Ending.returned (.tuple #[.agg #[.int .i64 x, .int .i64 y, .string T], .bool true])) = .returned (.tuple #[.agg #[.int .i64 x', .int .i64 y', .string T'], .bool true]) := by rw [hx, hy, hT]

theorem touch_parts {a d tl b e : Nat} (h : touchB a d tl b e = true) : nearB a d = true ∧ nearB b e = true ∧ b ≤ a + tl ∧ a ≤ b + e ∧ a ≤ 1152921504606846976 ∧ d ≤ 1152921504606846976 ∧ b ≤ 1152921504606846976 ∧ e ≤ 1152921504606846976 := by
  simp only [touchB, Bool.and_eq_true, decide_eq_true_eq] at h
  obtain ⟨⟨⟨h1, h2⟩, h3⟩, h4⟩ := h
  refine ⟨h1, h2, by omega, by omega, ?_⟩
  simp only [nearB, decide_eq_true_eq] at h1 h2
  omega

set_option maxRecDepth 100000 in
set_option maxHeartbeats 6400000 in
theorem then_yes (a d : Nat) (T : ByteArray) (b e : Nat) (U : ByteArray) (w : World) (hT : T.size ≤ 200) (hU : U.size ≤ 200) (h : touchB a d T.size b e = true) : Calls Try.prog 8 #[.agg #[.int .i64 a, .int .i64 d, .string T], .agg #[.int .i64 b, .int .i64 e, .string U]] w fun r w' =>
    r = .returned (.tuple #[.agg #[.int .i64 (min a b : Nat), .int .i64 (d + (a - b) + (b + e - (a + T.size)) : Nat), .string (thenText T U a b e)], .bool true]) ∧ Below w.heap.size w w' := by
  obtain ⟨n1, n2, h1, h2, m1a, m1d, m2b, m2e⟩ := touch_parts h
  have N1 := Lib.hid n1
  have N2 := Lib.hid n2
  clear h n1 n2
  go_enter Try.func8, Try.ntmps8
  go_wp2_with fail
  refine (near_any _ _ T _).mono ?_
  rw [N1.out]
  rintro r w1 ⟨rfl, hb1⟩
  obtain ⟨hc1, hf1⟩ := bcell hb1
  have hz1 : w.heap.size + 2 < w1.heap.size := by have := hb1.size; simp at this; omega
  have hb01 := bel_then (bel_alloc (bel_alloc (bel_alloc (Below.refl w.heap.size w) _) _) _) hb1
  go_wp2_with fail
  refine (near_any _ _ U _).mono ?_
  rw [N2.out]
  rintro r w2 ⟨rfl, hb2⟩
  have p0 : w2.cell? ⟨w.heap.size, 0, none⟩ = some (.int .i64 (a : Int)) := (hb2.cell (p := ⟨w.heap.size, 0, none⟩) (by simp; omega)).trans (by go_simp)
  have p1 : w2.cell? ⟨w.heap.size, 1, none⟩ = some (.int .i64 (d : Int)) := (hb2.cell (p := ⟨w.heap.size, 1, none⟩) (by simp; omega)).trans (by go_simp)
  have p2 : w2.cell? ⟨w.heap.size, 2, none⟩ = some (.string T) := (hb2.cell (p := ⟨w.heap.size, 2, none⟩) (by simp; omega)).trans (by go_simp)
  have q0 : w2.cell? ⟨w.heap.size + 1, 0, none⟩ = some (.int .i64 (b : Int)) := (hb2.cell (p := ⟨w.heap.size + 1, 0, none⟩) (by simp; omega)).trans (by go_simp)
  have q1 : w2.cell? ⟨w.heap.size + 1, 1, none⟩ = some (.int .i64 (e : Int)) := (hb2.cell (p := ⟨w.heap.size + 1, 1, none⟩) (by simp; omega)).trans (by go_simp)
  have q2 : w2.cell? ⟨w.heap.size + 1, 2, none⟩ = some (.string U) := (hb2.cell (p := ⟨w.heap.size + 1, 2, none⟩) (by simp; omega)).trans (by go_simp)
  have r0 : w2.cell? ⟨w.heap.size + 2, 0, none⟩ = some (.int .i64 0) := (hb2.cell (p := ⟨w.heap.size + 2, 0, none⟩) (by simp; omega)).trans (by go_simp)
  have r1 : w2.cell? ⟨w.heap.size + 2, 1, none⟩ = some (.int .i64 0) := (hb2.cell (p := ⟨w.heap.size + 2, 1, none⟩) (by simp; omega)).trans (by go_simp)
  have r2 : w2.cell? ⟨w.heap.size + 2, 2, none⟩ = some (.string ⟨#[]⟩) := (hb2.cell (p := ⟨w.heap.size + 2, 2, none⟩) (by simp; omega)).trans (by go_simp)
  have f0 : ∀ j, w2.frozen? ⟨w.heap.size + 2, j, none⟩ = false := fun j => (hb2.frozen (p := ⟨w.heap.size + 2, j, none⟩) (by simp; omega)).trans ((hf1 _ _ (by simp)).trans (by go_simp))
  have hb02 := bel_then hb01 hb2
  clear hc1 hf1 hb1 hb2 hb01 hz1
  obtain ⟨f, ef⟩ : ∃ f, f = b - a := ⟨_, rfl⟩
  obtain ⟨ah, eah⟩ : ∃ f, f = a - b := ⟨_, rfl⟩
  obtain ⟨tt, eto⟩ : ∃ f, f = min (b + e) (a + T.size) - a := ⟨_, rfl⟩
  obtain ⟨be, ebe⟩ : ∃ f, f = b + e - (a + T.size) := ⟨_, rfl⟩
  have Ef := Lib.hid ef
  have Eah := Lib.hid eah
  have Ett := Lib.hid eto
  have Ebe := Lib.hid ebe
  clear ef eah eto ebe
  go_upto_region 4 with fail
  go_cut [7] (fun s7 wx => s7 = .int .i64 (ah : Nat) ∧ w2 = wx)
  case first =>
    have c1 : a < b ∨ b ≤ a := by omega
    rcases c1 with c1 | c1
    all_goals (go_wp2_with fail; go_meet; refine ⟨?_, rfl⟩; congr 1; have eah := Eah.out; have ebe := Ebe.out; omega)
  case rest =>
  obtain ⟨rfl, hx⟩ := hcut
  subst hx
  go_upto_region 5 with fail
  go_cut [8] (fun s8 wx => s8 = .int .i64 (be : Nat) ∧ w2 = wx)
  case first =>
    have c1 : b + e < a + T.size ∨ a + T.size ≤ b + e := by omega
    rcases c1 with c1 | c1
    all_goals (go_wp2_with fail; go_meet; refine ⟨?_, rfl⟩; congr 1; have eah := Eah.out; have ebe := Ebe.out; omega)
  case rest =>
  obtain ⟨rfl, hx⟩ := hcut
  subst hx
  go_upto_region 6 with fail
  go_cut [9, 10] (fun s9 s10 wx => s9 = .int .i64 (f : Nat) ∧ s10 = .int .i64 (tt : Nat) ∧ w2.drew = wx)
  case first =>
    have s0 : w2.drew.cell? ⟨w.heap.size, 0, none⟩ = some (.int .i64 (a : Int)) := p0
    have s3 : w2.drew.cell? ⟨w.heap.size + 1, 0, none⟩ = some (.int .i64 (b : Int)) := q0
    have s4 : w2.drew.cell? ⟨w.heap.size + 1, 1, none⟩ = some (.int .i64 (e : Int)) := q1
    have c1 : a < b ∨ (a ≤ b ∧ b ≤ a) ∨ b < a := by omega
    have c2 : b + e < a + T.size ∨ (b + e ≤ a + T.size ∧ a + T.size ≤ b + e) ∨ a + T.size < b + e := by omega
    have v1 : IntKind.i64.wrap ((b : Int) - a) = (b : Int) - a := IntWalk.i64_in _ (by omega)
    have v2 : IntKind.i64.wrap ((b : Int) + e) = (b : Int) + e := IntWalk.i64_in _ (by omega)
    have v3 : IntKind.i64.wrap ((b : Int) + e - a) = (b : Int) + e - a := IntWalk.i64_in _ (by omega)
    have v4 : IntKind.i64.wrap ((a : Int) + T.size - a) = (a : Int) + T.size - a := IntWalk.i64_in _ (by omega)
    clear p0 p1 p2 q0 q1 q2 r0 r1 r2 f0 hb02
    refine wp_region_still_lit (by kernel_rfl) (by kernel_rfl) ?_
    change wpStill _ _ w2.drew (fun a' => _) _ _
    revert s0 s3 s4
    generalize hw3 : w2.drew = w3
    have HW := Lib.hid hw3
    clear hw3
    intro s0 s3 s4
    rcases c1 with c1 | ⟨c1, c1'⟩ | c1
    all_goals rcases c2 with c2 | ⟨c2, c2'⟩ | c2
    all_goals
      repeat still_step
      refine wpStill_nil ?_
      go_wp2_with fail
      go_meet
      refine ⟨?_, ?_, rfl⟩ <;> congr 1 <;> (have ef := Ef.out; have ett := Ett.out; omega)
  case rest =>
  obtain ⟨rfl, rfl, hx⟩ := hcut
  subst hx
  go_upto_region 7 with fail
  have ef := Ef.out
  have eah := Eah.out
  have ett := Ett.out
  have ebe := Ebe.out
  have lf : f ≤ T.size := by omega
  have lto : tt ≤ T.size := by omega
  have lc1 : f + U.size ≤ 9223372036854775807 := by omega
  have lc2 : f + U.size + (T.size - tt) ≤ 9223372036854775807 := by omega
  have lc3 : ¬ 9223372036854775807 < f + U.size := by omega
  have lc4 : ¬ 9223372036854775807 < f + U.size + (T.size - tt) := by omega
  have v1 : IntKind.i64.wrap ((d : Int) + ah) = (d : Int) + ah := IntWalk.i64_in _ (by omega)
  have v2 : IntKind.i64.wrap ((d : Int) + ah + be) = (d : Int) + ah + be := IntWalk.i64_in _ (by omega)
  have c1 : a < b ∨ (a ≤ b ∧ b ≤ a) ∨ b < a := by omega
  have s0 : w2.drew.drew.cell? ⟨w.heap.size, 0, none⟩ = some (.int .i64 (a : Int)) := p0
  have s1 : w2.drew.drew.cell? ⟨w.heap.size, 1, none⟩ = some (.int .i64 (d : Int)) := p1
  have s2 : w2.drew.drew.cell? ⟨w.heap.size, 2, none⟩ = some (.string T) := p2
  have s3 : w2.drew.drew.cell? ⟨w.heap.size + 1, 0, none⟩ = some (.int .i64 (b : Int)) := q0
  have s4 : w2.drew.drew.cell? ⟨w.heap.size + 1, 1, none⟩ = some (.int .i64 (e : Int)) := q1
  have s5 : w2.drew.drew.cell? ⟨w.heap.size + 1, 2, none⟩ = some (.string U) := q2
  have s6 : w2.drew.drew.cell? ⟨w.heap.size + 2, 0, none⟩ = some (.int .i64 0) := r0
  have s7 : w2.drew.drew.cell? ⟨w.heap.size + 2, 1, none⟩ = some (.int .i64 0) := r1
  have s8 : w2.drew.drew.cell? ⟨w.heap.size + 2, 2, none⟩ = some (.string ⟨#[]⟩) := r2
  have f1 : ∀ j, w2.drew.drew.frozen? ⟨w.heap.size + 2, j, none⟩ = false := f0
  have hb03 : Below w.heap.size w w2.drew.drew := bel_drew (bel_drew hb02)
  clear p0 p1 p2 q0 q1 q2 r0 r1 r2 f0 hb02 ef eah ett ebe
  refine wp_region_still_tail 24 (by kernel_rfl) (by kernel_rfl) ?_
  change wpStill _ _ w2.drew.drew (fun a' => wpList _ _ _ _ a' w2.drew.drew) _ _
  simp only [List.take_succ_cons, List.take_zero, List.drop_succ_cons, List.drop_zero]
  revert s0 s1 s2 s3 s4 s5 s6 s7 s8 f1 hb03
  generalize w2.drew.drew = w3
  intro s0 s1 s2 s3 s4 s5 s6 s7 s8 f1 hb03
  rcases c1 with c1 | ⟨c1, c1'⟩ | c1
  all_goals
    repeat still_step
    refine wpStill_nil ?_
    go_wp2
    refine bodyPost_ret (v := .tuple #[.agg #[.int .i64 (min a b : Nat), .int .i64 (d + ah + be), .string (T.extract 0 f ++ U ++ T.extract tt T.size)], .bool true]) ?_ rfl ⟨ret_then (by omega) ?_ ?_, bel_set (bel_set (bel_set hb03 (by simp; omega) _) (by simp; omega) _) (by simp; omega) _⟩
    · first
        | (rw [Nat.min_eq_left (by omega)]; simp [results, Try.results8, go_sem, s6, s7, s8]; done)
        | (rw [Nat.min_eq_right (by omega)]; simp [results, Try.results8, go_sem, s6, s7, s8]; done)
    · have q1 := Eah.out; have q2 := Ebe.out; omega
    · unfold thenText; rw [Ef.out, Ett.out]
end Go.Proofs.Ythdlgkpicgilhaa
