/- The walk of the law EditApplies. -/
import Derived.Test.YthdlgkpicgilhaaEd2
import Derived.Test.YthdlgkpicgilhaaEdBytes
import Derived.Deep.DeepCutAuto
import Derived.Deep.RegionWith
import Derived.Deep.RegionHeld3
set_option linter.unusedVariables false
set_option linter.unusedSimpArgs false
namespace Go.Proofs.Ythdlgkpicgilhaa
open Go.RowKit

set_option maxRecDepth 100000 in
set_option maxHeartbeats 6400000 in
theorem applies_walk (AW : ∀ w : World, Calls Try.prog 6 #[] w fun e w' => e = .returned (.bool true) ∧ Below w.heap.size w w')
    (t : ByteArray) (A D : Int) (T : ByteArray) (n : Int) (w : World) (ht : t.size ≤ 140737488351232) (hT : T.size ≤ 140737488351232) (hn0 : -9223372036854775808 ≤ n) (hn : n ≤ 9223372036854775807) :
    Calls Try.prog 4 #[.string t, .agg #[.int .i64 A, .int .i64 D, .string T], .int .i64 n] w fun e w' => e = .returned (.bool true) ∧ Below w.heap.size w w' := by
  go_enter Try.func4, Try.ntmps4
  go_wp2_with fail
  refine (AW _).mono ?_
  rintro e w1 ⟨rfl, hb1⟩
  have hz1 : w.heap.size < w1.heap.size := by have := hb1.size; simp at this; omega
  have p0 : w1.cell? ⟨w.heap.size, 0, none⟩ = some (.int .i64 A) := (hb1.cell (p := ⟨w.heap.size, 0, none⟩) (by simp)).trans (by go_simp)
  have p1 : w1.cell? ⟨w.heap.size, 1, none⟩ = some (.int .i64 D) := (hb1.cell (p := ⟨w.heap.size, 1, none⟩) (by simp)).trans (by go_simp)
  have p2 : w1.cell? ⟨w.heap.size, 2, none⟩ = some (.string T) := (hb1.cell (p := ⟨w.heap.size, 2, none⟩) (by simp)).trans (by go_simp)
  have f0 : ∀ j, w1.frozen? ⟨w.heap.size, j, none⟩ = false := fun j => (hb1.frozen (p := ⟨w.heap.size, j, none⟩) (by simp)).trans (by go_simp)
  have hb01 := bel_then (bel_alloc (Below.refl w.heap.size w) _) hb1
  go_upto_region 3 with fail
  go_cut [0] (fun s0 wx => ∃ (t' T' : ByteArray), s0 = .string t' ∧ t'.size ≤ 80 ∧ T'.size ≤ 40 ∧ wx.cell? ⟨w.heap.size, 0, none⟩ = some (.int .i64 A) ∧ wx.cell? ⟨w.heap.size, 1, none⟩ = some (.int .i64 D) ∧ wx.cell? ⟨w.heap.size, 2, none⟩ = some (.string T') ∧ w.heap.size < wx.heap.size ∧ Below w.heap.size w wx)
  case first =>
    rcases (show t.size < 80 ∨ (t.size ≤ 80 ∧ 80 ≤ t.size) ∨ 80 < t.size by omega) with c | ⟨c, c'⟩ | c
    all_goals
      go_region_with (go_at_call 7; refine (few_any A D T _ hT).mono ?_; rintro e w2 ⟨T', rfl, hT', hb2⟩; have y0 := (hb2.cell (p := ⟨w.heap.size, 0, none⟩) (by simp; omega)).trans p0; have y1 := (hb2.cell (p := ⟨w.heap.size, 1, none⟩) (by simp; omega)).trans p1; have y2 := (hb2.cell (p := ⟨w.heap.size, 2, none⟩) (by simp; omega)).trans p2; have y3 : ∀ j, w2.frozen? ⟨w.heap.size, j, none⟩ = false := fun j => (hb2.frozen (p := ⟨w.heap.size, j, none⟩) (by simp; omega)).trans (f0 j))
      all_goals
        go_wp2_with fail
        go_meet
        exact ⟨_, T', rfl, by first | omega | (simp; omega), hT', by go_simp, by go_simp, by go_simp, by have := hb2.size; simp at this ⊢; omega, bel_set (bel_set (bel_set (bel_then (bel_drew hb01) hb2) (by simp) _) (by simp) _) (by simp) _⟩
  case rest =>
    obtain ⟨t', T', rfl, ht', hT', q0, q1, q2, hz, hb02⟩ := hcut
    clear ht hT p0 p1 p2 f0 hb1 hz1
    rcases hm : mayB A D t'.size with _ | _
    · have HM := Lib.hid hm
      clear hm
      go_wp2_with fail
      refine (apply_no t' A D T' _ (by omega) HM.out).mono ?_
      rintro e w3 ⟨rfl, hb3⟩
      have q0' : w3.cell? ⟨w.heap.size, 0, none⟩ = some (.int .i64 A) := (hb3.cell (p := ⟨w.heap.size, 0, none⟩) (by simp; omega)).trans q0
      have q1' : w3.cell? ⟨w.heap.size, 1, none⟩ = some (.int .i64 D) := (hb3.cell (p := ⟨w.heap.size, 1, none⟩) (by simp; omega)).trans q1
      have q2' : w3.cell? ⟨w.heap.size, 2, none⟩ = some (.string T') := (hb3.cell (p := ⟨w.heap.size, 2, none⟩) (by simp; omega)).trans q2
      have hz3 : w.heap.size < w3.heap.size := by have := hb3.size; omega
      have hb03 := bel_then hb02 hb3
      clear q0 q1 q2 hb02 hb3 hz
      go_wp2_with fail
      refine (undo_no t' A D T' _ (by omega) HM.out).mono ?_
      rintro e w4 ⟨rfl, hb4⟩
      have q0 : w4.cell? ⟨w.heap.size, 0, none⟩ = some (.int .i64 A) := (hb4.cell (p := ⟨w.heap.size, 0, none⟩) (by simp; omega)).trans q0'
      have q1 : w4.cell? ⟨w.heap.size, 1, none⟩ = some (.int .i64 D) := (hb4.cell (p := ⟨w.heap.size, 1, none⟩) (by simp; omega)).trans q1'
      have q2 : w4.cell? ⟨w.heap.size, 2, none⟩ = some (.string T') := (hb4.cell (p := ⟨w.heap.size, 2, none⟩) (by simp; omega)).trans q2'
      have hz4 : w.heap.size < w4.heap.size := by have := hb4.size; omega
      have hb04 := bel_then hb03 hb4
      go_wp2_with fail
      have u0 : (w4.alloc (.cells #[.int .i64 0, .int .i64 0, .string ⟨#[]⟩] 23)).cell? ⟨w4.heap.size, 0, none⟩ = some (.int .i64 0) := by go_simp
      have u1 : (w4.alloc (.cells #[.int .i64 0, .int .i64 0, .string ⟨#[]⟩] 23)).cell? ⟨w4.heap.size, 1, none⟩ = some (.int .i64 0) := by go_simp
      have u2 : (w4.alloc (.cells #[.int .i64 0, .int .i64 0, .string ⟨#[]⟩] 23)).cell? ⟨w4.heap.size, 2, none⟩ = some (.string ⟨#[]⟩) := by go_simp
      have r0 := (Below.refl w4.heap.size w4).alloc (Nat.le_refl _) (.cells #[.int .i64 0, .int .i64 0, .string ⟨#[]⟩] 23)
      have q0' := (r0.cell (p := ⟨w.heap.size, 0, none⟩) hz4).trans q0
      have q1' := (r0.cell (p := ⟨w.heap.size, 1, none⟩) hz4).trans q1
      have q2' := (r0.cell (p := ⟨w.heap.size, 2, none⟩) hz4).trans q2
      have hb05 := bel_then hb04 r0
      have hz5 : w4.heap.size < (w4.alloc (.cells #[.int .i64 0, .int .i64 0, .string ⟨#[]⟩] 23)).heap.size := by simp
      clear r0
      generalize w4.alloc (.cells #[.int .i64 0, .int .i64 0, .string ⟨#[]⟩] 23) = w5 at *
      have hz6 : w.heap.size < w5.heap.size := by omega
      have keepS : ∀ w', Below w5.heap.size w5 w' → (w'.cell? ⟨w.heap.size, 0, none⟩ = some (.int .i64 A) ∧ w'.cell? ⟨w.heap.size, 1, none⟩ = some (.int .i64 D) ∧ w'.cell? ⟨w.heap.size, 2, none⟩ = some (.string T') ∧ Below w5.heap.size w5 w') := fun w' hX =>
        ⟨(hX.cell (p := ⟨w.heap.size, 0, none⟩) hz6).trans q0', (hX.cell (p := ⟨w.heap.size, 1, none⟩) hz6).trans q1', (hX.cell (p := ⟨w.heap.size, 2, none⟩) hz6).trans q2', hX⟩
      clear hb01 hb03 hb4 hb04 q0 q1 q2 hz3
      go_region_held3 (fun w' => w'.cell? ⟨w.heap.size, 0, none⟩ = some (.int .i64 A) ∧ w'.cell? ⟨w.heap.size, 1, none⟩ = some (.int .i64 D) ∧ w'.cell? ⟨w.heap.size, 2, none⟩ = some (.string T') ∧ Below w5.heap.size w5 w')
        (first | exact keepS _ hX | exact keepS _ (bel_drew (Below.refl _ _)))
        (first
          | (go_at_call 11; refine (rmay_any A D n T' _ hn0 hn).mono ?_; rintro e w' ⟨rfl, hb⟩; have hX : Below w5.heap.size w5 w' := (by first | exact bel_then (show Below w5.heap.size w5 _ by assumption) hb | exact bel_then (bel_drew (Below.refl _ _)) hb))
          | (go_at_call 15; refine (may_any A D n T' _ hn0 hn).mono ?_; rintro e w' ⟨rfl, hb⟩; have hX : Below w5.heap.size w5 w' := (by first | exact bel_then (show Below w5.heap.size w5 _ by assumption) hb | exact bel_then (bel_drew (Below.refl _ _)) hb)))
      go_wp2_with fail
      refine (rmay_any A D t'.size T' _ (by omega) (by omega)).mono ?_
      rw [HM.out]
      rintro e w6 ⟨rfl, hb6⟩
      have hX6 := bel_then hX hb6
      have y0 := (hX6.cell (p := ⟨w4.heap.size, 0, none⟩) hz5).trans u0
      have y1 := (hX6.cell (p := ⟨w4.heap.size, 1, none⟩) hz5).trans u1
      have y2 := (hX6.cell (p := ⟨w4.heap.size, 2, none⟩) hz5).trans u2
      go_wp2_with fail
      go_ret
      exact ⟨rfl, bel_then hb05 hX6⟩
    · have h' : 0 ≤ A ∧ 0 ≤ D ∧ A ≤ t'.size ∧ D ≤ t'.size - A := by simpa [mayB] using hm
      obtain ⟨k1, k2, k3, k4⟩ := h'
      have HM := Lib.hid hm
      clear hm
      obtain ⟨a, rfl⟩ := Int.eq_ofNat_of_zero_le k1
      obtain ⟨d, rfl⟩ := Int.eq_ofNat_of_zero_le k2
      have k5 : a + d ≤ t'.size := by omega
      have k6 := apply_size t' a d T' k5
      have k7 := apply_back t' a d T' k5
      obtain ⟨S, hS⟩ : ∃ S, S = applyB t' a d T' := ⟨_, rfl⟩
      obtain ⟨X, hX⟩ : ∃ X, X = t'.extract (a : Int).toNat ((a : Int) + d).toNat := ⟨_, rfl⟩
      have k8 : t'.extract a (a + d) = X := by rw [hX]; rfl
      rw [← hS] at k6 k7
      rw [k8] at k7
      have kX : X.size ≤ 80 := by rw [← k8, ByteArray.size_extract]; omega
      have kS : S.size ≤ 200 := by omega
      have kM : mayB a T'.size S.size = true := by simp only [mayB, decide_eq_true_eq]; omega
      have HS := Lib.hid hS
      have HX := Lib.hid hX
      have K7 := Lib.hid k7
      have KM := Lib.hid kM
      clear hS hX k7 k8 kM k6
      go_wp2_with fail
      refine (apply_yes t' a d T' _ (by omega) (by omega) HM.out).mono ?_
      rw [← HS.out]
      rintro e w3 ⟨rfl, hb3⟩
      have q0' : w3.cell? ⟨w.heap.size, 0, none⟩ = some (.int .i64 (a : Int)) := (hb3.cell (p := ⟨w.heap.size, 0, none⟩) (by simp; omega)).trans q0
      have q1' : w3.cell? ⟨w.heap.size, 1, none⟩ = some (.int .i64 (d : Int)) := (hb3.cell (p := ⟨w.heap.size, 1, none⟩) (by simp; omega)).trans q1
      have q2' : w3.cell? ⟨w.heap.size, 2, none⟩ = some (.string T') := (hb3.cell (p := ⟨w.heap.size, 2, none⟩) (by simp; omega)).trans q2
      have hz3 : w.heap.size < w3.heap.size := by have := hb3.size; omega
      have hb03 := bel_then hb02 hb3
      clear q0 q1 q2 hb02 hb3 hz
      go_wp2_with fail
      refine (undo_yes t' a d T' _ (by omega) (by omega) HM.out).mono ?_
      rw [← HX.out]
      rintro e w4 ⟨rfl, hb4⟩
      have q0 : w4.cell? ⟨w.heap.size, 0, none⟩ = some (.int .i64 (a : Int)) := (hb4.cell (p := ⟨w.heap.size, 0, none⟩) (by simp; omega)).trans q0'
      have q1 : w4.cell? ⟨w.heap.size, 1, none⟩ = some (.int .i64 (d : Int)) := (hb4.cell (p := ⟨w.heap.size, 1, none⟩) (by simp; omega)).trans q1'
      have q2 : w4.cell? ⟨w.heap.size, 2, none⟩ = some (.string T') := (hb4.cell (p := ⟨w.heap.size, 2, none⟩) (by simp; omega)).trans q2'
      have hz4 : w.heap.size < w4.heap.size := by have := hb4.size; omega
      have hb04 := bel_then hb03 hb4
      go_wp2_with fail
      have u0 : (w4.alloc (.cells #[.int .i64 (a : Int), .int .i64 T'.size, .string X] 23)).cell? ⟨w4.heap.size, 0, none⟩ = some (.int .i64 (a : Int)) := by go_simp
      have u1 : (w4.alloc (.cells #[.int .i64 (a : Int), .int .i64 T'.size, .string X] 23)).cell? ⟨w4.heap.size, 1, none⟩ = some (.int .i64 T'.size) := by go_simp
      have u2 : (w4.alloc (.cells #[.int .i64 (a : Int), .int .i64 T'.size, .string X] 23)).cell? ⟨w4.heap.size, 2, none⟩ = some (.string X) := by go_simp
      have r0 := (Below.refl w4.heap.size w4).alloc (Nat.le_refl _) (.cells #[.int .i64 (a : Int), .int .i64 T'.size, .string X] 23)
      have q0' := (r0.cell (p := ⟨w.heap.size, 0, none⟩) hz4).trans q0
      have q1' := (r0.cell (p := ⟨w.heap.size, 1, none⟩) hz4).trans q1
      have q2' := (r0.cell (p := ⟨w.heap.size, 2, none⟩) hz4).trans q2
      have hb05 := bel_then hb04 r0
      have hz5 : w4.heap.size < (w4.alloc (.cells #[.int .i64 (a : Int), .int .i64 T'.size, .string X] 23)).heap.size := by simp
      clear r0
      generalize w4.alloc (.cells #[.int .i64 (a : Int), .int .i64 T'.size, .string X] 23) = w5 at *
      have hz6 : w.heap.size < w5.heap.size := by omega
      have keepS : ∀ w', Below w5.heap.size w5 w' → (w'.cell? ⟨w.heap.size, 0, none⟩ = some (.int .i64 (a : Int)) ∧ w'.cell? ⟨w.heap.size, 1, none⟩ = some (.int .i64 (d : Int)) ∧ w'.cell? ⟨w.heap.size, 2, none⟩ = some (.string T') ∧ Below w5.heap.size w5 w') := fun w' hX =>
        ⟨(hX.cell (p := ⟨w.heap.size, 0, none⟩) hz6).trans q0', (hX.cell (p := ⟨w.heap.size, 1, none⟩) hz6).trans q1', (hX.cell (p := ⟨w.heap.size, 2, none⟩) hz6).trans q2', hX⟩
      clear hb01 hb03 hb4 hb04 q0 q1 q2 hz3
      go_region_held3 (fun w' => w'.cell? ⟨w.heap.size, 0, none⟩ = some (.int .i64 (a : Int)) ∧ w'.cell? ⟨w.heap.size, 1, none⟩ = some (.int .i64 (d : Int)) ∧ w'.cell? ⟨w.heap.size, 2, none⟩ = some (.string T') ∧ Below w5.heap.size w5 w')
        (first | exact keepS _ hX | exact keepS _ (bel_drew (Below.refl _ _)))
        (first
          | (go_at_call 11; refine (rmay_any a d n T' _ hn0 hn).mono ?_; rintro e w' ⟨rfl, hb⟩; have hX : Below w5.heap.size w5 w' := (by first | exact bel_then (show Below w5.heap.size w5 _ by assumption) hb | exact bel_then (bel_drew (Below.refl _ _)) hb))
          | (go_at_call 15; refine (may_any a d n T' _ hn0 hn).mono ?_; rintro e w' ⟨rfl, hb⟩; have hX : Below w5.heap.size w5 w' := (by first | exact bel_then (show Below w5.heap.size w5 _ by assumption) hb | exact bel_then (bel_drew (Below.refl _ _)) hb)))
      go_wp2_with fail
      refine (rmay_any a d t'.size T' _ (by omega) (by omega)).mono ?_
      rw [HM.out]
      rintro e w6 ⟨rfl, hb6⟩
      have hX6 := bel_then hX hb6
      have y0 := (hX6.cell (p := ⟨w4.heap.size, 0, none⟩) hz5).trans u0
      have y1 := (hX6.cell (p := ⟨w4.heap.size, 1, none⟩) hz5).trans u1
      have y2 := (hX6.cell (p := ⟨w4.heap.size, 2, none⟩) hz5).trans u2
      have z0 := (hX6.cell (p := ⟨w.heap.size, 0, none⟩) hz6).trans q0'
      have z1 := (hX6.cell (p := ⟨w.heap.size, 1, none⟩) hz6).trans q1'
      have z2 := (hX6.cell (p := ⟨w.heap.size, 2, none⟩) hz6).trans q2'
      have hb06 := bel_then hb05 hX6
      have hz7 : w4.heap.size < w6.heap.size := by have := hX6.size; omega
      go_wp2_with fail
      refine (apply_yes S a T'.size X _ kS (by omega) KM.out).mono ?_
      rw [K7.out]
      rintro e w7 ⟨rfl, hb7⟩
      have x0 := (hb7.cell (p := ⟨w4.heap.size, 0, none⟩) hz7).trans y0
      have x1 := (hb7.cell (p := ⟨w4.heap.size, 1, none⟩) hz7).trans y1
      have v0 := (hb7.cell (p := ⟨w.heap.size, 0, none⟩) (by show w.heap.size < _; omega)).trans z0
      have v1 := (hb7.cell (p := ⟨w.heap.size, 1, none⟩) (by show w.heap.size < _; omega)).trans z1
      have v2 := (hb7.cell (p := ⟨w.heap.size, 2, none⟩) (by show w.heap.size < _; omega)).trans z2
      have hz8 : w4.heap.size < w7.heap.size := by have := hb7.size; omega
      have hb07 := bel_then hb06 hb7
      go_wp2_with fail
      refine (rapply_any t' a d T' _ (by omega) (by omega) HM.out).mono ?_
      rw [← HS.out]
      rintro e w8 ⟨rfl, hb8⟩
      have o0 := (hb8.cell (p := ⟨w4.heap.size, 0, none⟩) hz8).trans x0
      have o1 := (hb8.cell (p := ⟨w4.heap.size, 1, none⟩) hz8).trans x1
      have o2 := (hb8.cell (p := ⟨w.heap.size, 0, none⟩) (by show w.heap.size < _; omega)).trans v0
      have o3 := (hb8.cell (p := ⟨w.heap.size, 2, none⟩) (by show w.heap.size < _; omega)).trans v2
      go_wp2_with fail
      go_ret
      exact ⟨rfl, bel_then hb07 hb8⟩
end Go.Proofs.Ythdlgkpicgilhaa
