/- The walk of the document's answer: Then. -/
import Derived.Test.YthdlgkpicgilhaaEd2
import Derived.Deep.DeepCutAuto
set_option linter.unusedVariables false
set_option linter.unusedSimpArgs false
namespace Go.Proofs.Ythdlgkpicgilhaa
open Go.RowKit

theorem text_step (T : ByteArray) (i j : Nat) (h : i ≤ j) : T.extract i j ++ T.extract j (j + 1) = T.extract i (j + 1) := by
  rw [ByteArray.extract_append_extract, Nat.min_eq_left h, Nat.max_eq_right (by omega)]

theorem ext_big (T : ByteArray) (n : Nat) (h : T.size ≤ n) : T.extract 0 T.size = T.extract 0 n := by
  apply ByteArray.ext
  rw [ByteArray.data_extract, ByteArray.data_extract]
  have h' : T.data.size ≤ n := h
  apply Array.ext
  · rw [Array.size_extract, Array.size_extract]
    have : T.size = T.data.size := rfl
    omega
  · intro i h1 h2; simp
theorem ext_nil (T : ByteArray) (n : Nat) : T.extract n n = ⟨#[]⟩ := by
  apply ByteArray.ext
  rw [ByteArray.data_extract]; simp; try omega

set_option maxRecDepth 100000 in
set_option maxHeartbeats 6400000 in
theorem rthen_any (a d : Nat) (T : ByteArray) (b e : Nat) (U : ByteArray) (w : World) (hT : T.size ≤ 200) (hU : U.size ≤ 200) (h1 : b ≤ a + T.size) (h2 : a ≤ b + e)
    (m1 : a ≤ 1152921504606846976) (m2 : d ≤ 1152921504606846976) (m3 : b ≤ 1152921504606846976) (m4 : e ≤ 1152921504606846976) :
    Calls Try.prog 10 #[.agg #[.int .i64 a, .int .i64 d, .string T], .agg #[.int .i64 b, .int .i64 e, .string U]] w fun r w' =>
    r = .returned (.agg #[.int .i64 (min a b : Nat), .int .i64 (d + (a - b) + (b + e - (a + T.size)) : Nat), .string (T.extract 0 (b - a) ++ U ++ T.extract (min (b + e) (a + T.size) - a) T.size)]) ∧ Below w.heap.size w w' := by
  have g1 : IntKind.i64.wrap ((a : Int) - b) = (a : Int) - b := IntWalk.i64_in _ (by omega)
  have g2 : IntKind.i64.wrap ((b : Int) + e) = (b : Int) + e := IntWalk.i64_in _ (by omega)
  have g3 : IntKind.i64.wrap ((b : Int) + e - a) = (b : Int) + e - a := IntWalk.i64_in _ (by omega)
  have g4 : IntKind.i64.wrap ((b : Int) + e - a - T.size) = (b : Int) + e - a - T.size := IntWalk.i64_in _ (by omega)
  generalize hR : Ending.returned (.agg #[.int .i64 (min a b : Nat), .int .i64 (d + (a - b) + (b + e - (a + T.size)) : Nat), .string (T.extract 0 (b - a) ++ U ++ T.extract (min (b + e) (a + T.size) - a) T.size)]) = R
  have HR := Lib.hid hR
  clear hR
  go_enter Try.func10, Try.ntmps10
  go_wp2_with fail
  go_quiet (fail)
  clear g1 g2 g3 g4
  generalize hW : World.drewN _ nq = W
  have hb : Below w.heap.size w W := by rw [← hW]; exact bel_drewN (bel_alloc (bel_alloc (bel_alloc (Below.refl _ _) _) _) _) _
  have p0 : W.cell? ⟨w.heap.size, 0, none⟩ = some (.int .i64 (a : Int)) := by rw [← hW]; clear hW; go_simp
  have p1 : W.cell? ⟨w.heap.size, 1, none⟩ = some (.int .i64 (d : Int)) := by rw [← hW]; clear hW; go_simp
  have p2 : W.cell? ⟨w.heap.size, 2, none⟩ = some (.string T) := by rw [← hW]; clear hW; go_simp
  have q0 : W.cell? ⟨w.heap.size + 1, 0, none⟩ = some (.int .i64 (b : Int)) := by rw [← hW]; clear hW; go_simp
  have q1 : W.cell? ⟨w.heap.size + 1, 1, none⟩ = some (.int .i64 (e : Int)) := by rw [← hW]; clear hW; go_simp
  have q2 : W.cell? ⟨w.heap.size + 1, 2, none⟩ = some (.string U) := by rw [← hW]; clear hW; go_simp
  have r0 : W.cell? ⟨w.heap.size + 2, 0, none⟩ = some (.int .i64 0) := by rw [← hW]; clear hW; go_simp
  have r1 : W.cell? ⟨w.heap.size + 2, 1, none⟩ = some (.int .i64 0) := by rw [← hW]; clear hW; go_simp
  have r2 : W.cell? ⟨w.heap.size + 2, 2, none⟩ = some (.string ⟨#[]⟩) := by rw [← hW]; clear hW; go_simp
  have f0 : ∀ j, W.frozen? ⟨w.heap.size + 2, j, none⟩ = false := by rw [← hW]; clear hW; intro j; go_simp
  clear hW
  have c1 : a < b ∨ b ≤ a := by omega
  have c2 : b + e < a + T.size ∨ a + T.size ≤ b + e := by omega
  rcases c1 with c1 | c1
  all_goals rcases c2 with c2 | c2
  all_goals
    go_wp2_with fail
    go_loop [7, 8] (fun s i => ∃ k : Nat, i = .int .i64 (k : Int) ∧ s = .string (T.extract 0 k) ∧ k ≤ b - a ∧ k ≤ T.size) (fun _ i => T.size - (intOf i).toNat)
    case atStart => exact ⟨0, rfl, by simp; rfl, by omega, by omega⟩
    case round =>
      obtain ⟨k, rfl, rfl, hk1, hk2⟩ := hrel
      rcases (show (k < T.size ∧ k < b - a) ∨ (k < T.size ∧ b - a ≤ k) ∨ T.size ≤ k by omega) with ⟨hx, hy⟩ | ⟨hx, hy⟩ | hx
      · first
          | (exfalso; omega)
          | (have lc : ¬ 9223372036854775807 < k + (k + 1 - k) := by omega
             have g5 : (a : Int) + k < b := by omega
             go_wp2_with fail
             go_round
             case rel => exact ⟨k + 1, rfl, rfl, by omega, by omega⟩
             case measure => simp [intOf] <;> omega)
      all_goals try (exfalso; omega)
      all_goals
        have ex : T.extract 0 k = T.extract 0 (b - a) := by
          first
            | (rw [show k = b - a by omega]; done)
            | (rw [show k = T.size by omega]; exact ext_big T _ (by omega))
        rw [ex]
        have lX : (T.extract 0 (b - a)).size ≤ 200 := by simp; omega
        obtain ⟨X, hX⟩ : ∃ X, X = T.extract 0 (b - a) := ⟨_, rfl⟩
        rw [← hX] at lX ⊢
        have HX := Lib.hid hX
        clear ex hX
        obtain ⟨m, hm⟩ : ∃ m, m = b + e - a := ⟨_, rfl⟩
        have HM := Lib.hid hm
        have hm2 : (b : Int) + e = a + m := by omega
        clear hm
        have HM2 := Lib.hid hm2
        clear hm2
        have lc : ¬ 9223372036854775807 < X.size + U.size := by omega
        go_wp2_with fail
        go_loop [7, 9] (fun s i => ∃ k : Nat, i = .int .i64 (k : Int) ∧ s = .string (X ++ U ++ T.extract (min m k) k) ∧ k ≤ T.size) (fun _ i => T.size - (intOf i).toNat)
        case atStart => exact ⟨0, rfl, by rw [Nat.min_zero, ext_nil]; congr 1; apply ByteArray.ext; simp, by omega⟩
        case round =>
          obtain ⟨j, rfl, rfl, hj⟩ := hrel
          rcases (show (j < T.size ∧ j < m) ∨ (j < T.size ∧ m ≤ j) ∨ T.size = j by omega) with ⟨hx2, hy2⟩ | ⟨hx2, hy2⟩ | hx2
          · first
              | (exfalso; have := HM2.out; omega)
              | (rw [Nat.min_eq_right (by omega), ext_nil]
                 have g5 : (a : Int) + j < b + e := by have := HM2.out; omega
                 go_wp2_with fail
                 go_round
                 case rel => exact ⟨j + 1, rfl, by rw [Nat.min_eq_right (by omega), ext_nil], by omega⟩
                 case measure => simp [intOf] <;> omega)
          · first
              | (exfalso; have := HM2.out; omega)
              | (rw [Nat.min_eq_left (by omega)]
                 have g5 : (b : Int) + e ≤ a + j := by have := HM2.out; omega
                 have lc2 : ¬ 9223372036854775807 < X.size + U.size + (j - m) + (j + 1 - j) := by omega
                 go_wp2_with fail
                 go_round
                 case rel => exact ⟨j + 1, rfl, by rw [Nat.min_eq_left (by omega)]; congr 1; first | rfl | (rw [ByteArray.append_assoc, text_step _ _ _ (by omega)]), by omega⟩
                 case measure => simp [intOf] <;> omega)
          · have hx3 := Lib.hid hx2
            have hx4 : T.size ≤ j := by omega
            clear hx2
            have g6 : IntKind.i64.wrap ((a : Int) - b) = (a : Int) - b := IntWalk.i64_in _ (by omega)
            have g7 : IntKind.i64.wrap ((a : Int) - b + d) = (a : Int) - b + d := IntWalk.i64_in _ (by omega)
            go_wp2_with fail
            refine bodyPost_ret (v := .agg #[.int .i64 (min a b : Nat), .int .i64 (d + (a - b) + (b + e - (a + T.size)) : Nat), .string (X ++ U ++ T.extract (min m j) j)]) ?_ rfl ⟨?_, bel_set (bel_set (bel_set hb (by simp; omega) _) (by simp; omega) _) (by simp; omega) _⟩
            · simp [results, Try.results10, go_sem, r0, r1, r2]
              omega
            · have q : min (b + e) (a + T.size) - a = min m j := by
                have := HM.out
                have := hx3.out
                omega
              rw [← HR.out, q, hx3.out, HX.out]
end Go.Proofs.Ythdlgkpicgilhaa
