/- The walk of the law EditThen. -/
import Derived.Test.YthdlgkpicgilhaaEd6
import Derived.Test.YthdlgkpicgilhaaEd9
import Derived.Test.YthdlgkpicgilhaaEdB
import Derived.Deep.RegionHeld3
set_option linter.unusedVariables false
set_option linter.unusedSimpArgs false
namespace Go.Proofs.Ythdlgkpicgilhaa
open Go.RowKit

theorem two_boxes {w wx w' : World} {v0 v1 v2 u0 u1 u2 : Option Value} (hb : Below wx.heap.size wx w') (hz : w.heap.size + 1 < wx.heap.size)
    (f0 : ∀ j, wx.frozen? ⟨w.heap.size, j, none⟩ = false) (f1 : ∀ j, wx.frozen? ⟨w.heap.size + 1, j, none⟩ = false)
    (p0 : wx.cell? ⟨w.heap.size, 0, none⟩ = v0) (p1 : wx.cell? ⟨w.heap.size, 1, none⟩ = v1) (p2 : wx.cell? ⟨w.heap.size, 2, none⟩ = v2)
    (q0 : wx.cell? ⟨w.heap.size + 1, 0, none⟩ = u0) (q1 : wx.cell? ⟨w.heap.size + 1, 1, none⟩ = u1) (q2 : wx.cell? ⟨w.heap.size + 1, 2, none⟩ = u2) :
    w.heap.size + 1 < w'.heap.size ∧ (∀ j, w'.frozen? ⟨w.heap.size, j, none⟩ = false) ∧ (∀ j, w'.frozen? ⟨w.heap.size + 1, j, none⟩ = false) ∧
    w'.cell? ⟨w.heap.size, 0, none⟩ = v0 ∧ w'.cell? ⟨w.heap.size, 1, none⟩ = v1 ∧ w'.cell? ⟨w.heap.size, 2, none⟩ = v2 ∧
    w'.cell? ⟨w.heap.size + 1, 0, none⟩ = u0 ∧ w'.cell? ⟨w.heap.size + 1, 1, none⟩ = u1 ∧ w'.cell? ⟨w.heap.size + 1, 2, none⟩ = u2 := by
  have h0 : w.heap.size < wx.heap.size := by omega
  exact ⟨Nat.lt_of_lt_of_le hz hb.size, fun j => (hb.frozen (p := ⟨w.heap.size, j, none⟩) h0).trans (f0 j), fun j => (hb.frozen (p := ⟨w.heap.size + 1, j, none⟩) hz).trans (f1 j),
    (hb.cell (p := ⟨w.heap.size, 0, none⟩) h0).trans p0, (hb.cell (p := ⟨w.heap.size, 1, none⟩) h0).trans p1, (hb.cell (p := ⟨w.heap.size, 2, none⟩) h0).trans p2,
    (hb.cell (p := ⟨w.heap.size + 1, 0, none⟩) hz).trans q0, (hb.cell (p := ⟨w.heap.size + 1, 1, none⟩) hz).trans q1, (hb.cell (p := ⟨w.heap.size + 1, 2, none⟩) hz).trans q2⟩

set_option maxHeartbeats 1600000 in
theorem stored {w wx : World} {v0 v1 v2 u0 u1 u2 x0 x1 x2 y0 y1 y2 : Value} (hb : Below w.heap.size w wx) (hz : w.heap.size + 1 < wx.heap.size)
    (p0 : wx.cell? ⟨w.heap.size, 0, none⟩ = some x0) (p1 : wx.cell? ⟨w.heap.size, 1, none⟩ = some x1) (p2 : wx.cell? ⟨w.heap.size, 2, none⟩ = some x2)
    (q0 : wx.cell? ⟨w.heap.size + 1, 0, none⟩ = some y0) (q1 : wx.cell? ⟨w.heap.size + 1, 1, none⟩ = some y1) (q2 : wx.cell? ⟨w.heap.size + 1, 2, none⟩ = some y2) {W : World}
    (hW : W = ((((((wx.setCell ⟨w.heap.size, 0, none⟩ v0).setCell ⟨w.heap.size, 1, none⟩ v1).setCell ⟨w.heap.size, 2, none⟩ v2).setCell ⟨w.heap.size + 1, 0, none⟩ u0).setCell ⟨w.heap.size + 1, 1, none⟩ u1).setCell ⟨w.heap.size + 1, 2, none⟩ u2)) :
    W.cell? ⟨w.heap.size, 0, none⟩ = some v0 ∧ W.cell? ⟨w.heap.size, 1, none⟩ = some v1 ∧ W.cell? ⟨w.heap.size, 2, none⟩ = some v2 ∧
    W.cell? ⟨w.heap.size + 1, 0, none⟩ = some u0 ∧ W.cell? ⟨w.heap.size + 1, 1, none⟩ = some u1 ∧ W.cell? ⟨w.heap.size + 1, 2, none⟩ = some u2 ∧ w.heap.size + 1 < W.heap.size ∧ Below w.heap.size w W := by
  subst hW
  refine ⟨by go_simp, by go_simp, by go_simp, by go_simp, by go_simp, by go_simp, by simp; omega, ?_⟩
  exact bel_set (bel_set (bel_set (bel_set (bel_set (bel_set hb (by simp) _) (by simp) _) (by simp) _) (by simp) _) (by simp) _) (by simp) _

theorem rthen_text (a d : Nat) (T : ByteArray) (b e : Nat) (U : ByteArray) (w : World) (hT : T.size ≤ 200) (hU : U.size ≤ 200) (h1 : b ≤ a + T.size) (h2 : a ≤ b + e)
    (m1 : a ≤ 1152921504606846976) (m2 : d ≤ 1152921504606846976) (m3 : b ≤ 1152921504606846976) (m4 : e ≤ 1152921504606846976) :
    Calls Try.prog 10 #[.agg #[.int .i64 a, .int .i64 d, .string T], .agg #[.int .i64 b, .int .i64 e, .string U]] w fun r w' =>
    r = .returned (.agg #[.int .i64 (min a b : Nat), .int .i64 (d + (a - b) + (b + e - (a + T.size)) : Nat), .string (thenText T U a b e)]) ∧ Below w.heap.size w w' :=
  rthen_any a d T b e U w hT hU h1 h2 m1 m2 m3 m4

theorem touch_nat {A D B E : Int} {n : Nat} (h : touchB A D n B E = true) : 0 ≤ A ∧ 0 ≤ D ∧ 0 ≤ B ∧ 0 ≤ E := by
  unfold touchB nearB at h
  simp only [Bool.and_eq_true, decide_eq_true_eq] at h
  omega

set_option maxRecDepth 100000 in
set_option maxHeartbeats 6400000 in
theorem then_walk (AW : ∀ w : World, Calls Try.prog 6 #[] w fun e w' => e = .returned (.bool true) ∧ Below w.heap.size w w')
    (t : ByteArray) (A D : Int) (T : ByteArray) (B E : Int) (U : ByteArray) (w : World) (ht : t.size ≤ 140737488351232) (hT : T.size ≤ 140737488351232) (hU : U.size ≤ 140737488351232) :
    Calls Try.prog 3 #[.string t, .agg #[.int .i64 A, .int .i64 D, .string T], .agg #[.int .i64 B, .int .i64 E, .string U]] w fun e w' => e = .returned (.bool true) ∧ Below w.heap.size w w' := by
  go_enter Try.func3, Try.ntmps3
  go_wp2_with fail
  refine (AW _).mono ?_
  rintro e w1 ⟨rfl, hb1⟩
  have hz1 : w.heap.size + 1 < w1.heap.size := by have := hb1.size; simp at this; omega
  have p0 : w1.cell? ⟨w.heap.size, 0, none⟩ = some (.int .i64 A) := (hb1.cell (p := ⟨w.heap.size, 0, none⟩) (by first | omega | (simp; omega))).trans (by go_simp)
  have p1 : w1.cell? ⟨w.heap.size, 1, none⟩ = some (.int .i64 D) := (hb1.cell (p := ⟨w.heap.size, 1, none⟩) (by first | omega | (simp; omega))).trans (by go_simp)
  have p2 : w1.cell? ⟨w.heap.size, 2, none⟩ = some (.string T) := (hb1.cell (p := ⟨w.heap.size, 2, none⟩) (by first | omega | (simp; omega))).trans (by go_simp)
  have q0 : w1.cell? ⟨w.heap.size + 1, 0, none⟩ = some (.int .i64 B) := (hb1.cell (p := ⟨w.heap.size + 1, 0, none⟩) (by simp)).trans (by go_simp)
  have q1 : w1.cell? ⟨w.heap.size + 1, 1, none⟩ = some (.int .i64 E) := (hb1.cell (p := ⟨w.heap.size + 1, 1, none⟩) (by simp)).trans (by go_simp)
  have q2 : w1.cell? ⟨w.heap.size + 1, 2, none⟩ = some (.string U) := (hb1.cell (p := ⟨w.heap.size + 1, 2, none⟩) (by simp)).trans (by go_simp)
  have f0 : ∀ j, w1.frozen? ⟨w.heap.size, j, none⟩ = false := fun j => (hb1.frozen (p := ⟨w.heap.size, j, none⟩) (by first | omega | (simp; omega))).trans (by go_simp)
  have f1 : ∀ j, w1.frozen? ⟨w.heap.size + 1, j, none⟩ = false := fun j => (hb1.frozen (p := ⟨w.heap.size + 1, j, none⟩) (by simp)).trans (by go_simp)
  have hb01 := bel_then (bel_alloc (bel_alloc (Below.refl w.heap.size w) _) _) hb1
  go_upto_region 3 with fail
  go_cut [0] (fun s0 wx => ∃ (t' : ByteArray), s0 = .string t' ∧ t'.size ≤ 80 ∧ wx.cell? ⟨w.heap.size, 0, none⟩ = some (.int .i64 A) ∧ wx.cell? ⟨w.heap.size, 1, none⟩ = some (.int .i64 D) ∧ wx.cell? ⟨w.heap.size, 2, none⟩ = some (.string (fewT T)) ∧ wx.cell? ⟨w.heap.size + 1, 0, none⟩ = some (.int .i64 B) ∧ wx.cell? ⟨w.heap.size + 1, 1, none⟩ = some (.int .i64 E) ∧ wx.cell? ⟨w.heap.size + 1, 2, none⟩ = some (.string (fewT U)) ∧ w.heap.size + 1 < wx.heap.size ∧ Below w.heap.size w wx)
  case first =>
    rename_i KK hKK J K' hJ hK'
    clear hKK
    rcases (show t.size ≤ 80 ∨ 80 < t.size by omega) with c | c
    all_goals have ci : (t.size : Int) ≤ 80 ∨ (80 : Int) < t.size := by omega
    all_goals
      first
      | (have c1 : (t.size : Int) ≤ 80 := by omega
         have c2 : ¬ ((80 : Int) < t.size) := by omega
         have c4 : ¬ (80 < t.size) := by omega)
      | (have c1 : (80 : Int) ≤ t.size := by omega
         have c2 : ¬ ((t.size : Int) < 80) := by omega
         have c3 : (80 : Int) < t.size := by omega)
    all_goals clear ci
    · refine wp_region_noPanic ?_
      refine wp_region_held_drew (S := fun _ => True) (by kernel_rfl) trivial (fun hHeld => ?_)
      refine wpAnyH_take (i := 0) (v := ?_) rfl (by kernel_rfl) (by kernel_rfl) (by kernel_rfl) (fun _ _ _ h => h) (Or.inl ⟨by kernel_rfl, ?_⟩) (by assumption) ?_
      rotate_left
      · intro w hSw
        try dsimp only at hSw
        go_simp
        try with_reducible rfl
      try simp only [List.getElem_toArray, List.getElem_cons_zero, List.getElem_cons_succ, Act.put, List.setIfInBounds_toArray, List.set_cons_zero, List.set_cons_succ]
      refine wpAnyH_take (i := 1) (v := ?_) rfl (by kernel_rfl) (by kernel_rfl) (by kernel_rfl) (fun _ _ _ h => h) (Or.inl ⟨by kernel_rfl, ?_⟩) (by assumption) ?_
      rotate_left
      · intro w hSw
        try dsimp only at hSw
        go_simp
        try with_reducible rfl
      try simp only [List.getElem_toArray, List.getElem_cons_zero, List.getElem_cons_succ, Act.put, List.setIfInBounds_toArray, List.set_cons_zero, List.set_cons_succ]
      refine wpAnyH_take (i := 2) (v := ?_) rfl (by kernel_rfl) (by kernel_rfl) (by kernel_rfl) (fun _ _ _ h => h) (Or.inl ⟨by kernel_rfl, ?_⟩) (by assumption) ?_
      rotate_left
      · intro w hSw
        try dsimp only at hSw
        go_simp
        try with_reducible rfl
      try simp only [List.getElem_toArray, List.getElem_cons_zero, List.getElem_cons_succ, Act.put, List.setIfInBounds_toArray, List.set_cons_zero, List.set_cons_succ]
      refine wpAnyH_take (i := 3) (v := ?_) rfl (by kernel_rfl) (by kernel_rfl) (by kernel_rfl) (fun _ _ _ h => h) (Or.inl ⟨by kernel_rfl, ?_⟩) (by assumption) ?_
      rotate_left
      · intro w hSw
        try dsimp only at hSw
        go_simp
        try with_reducible rfl
      try simp only [List.getElem_toArray, List.getElem_cons_zero, List.getElem_cons_succ, Act.put, List.setIfInBounds_toArray, List.set_cons_zero, List.set_cons_succ]
      refine wpAnyH_take (i := 4) (v := ?_) rfl (by kernel_rfl) (by kernel_rfl) (by kernel_rfl) (fun _ _ _ h => h) (Or.inl ⟨by kernel_rfl, ?_⟩) (by assumption) ?_
      rotate_left
      · intro w hSw
        try dsimp only at hSw
        go_simp
        try with_reducible rfl
      try simp only [List.getElem_toArray, List.getElem_cons_zero, List.getElem_cons_succ, Act.put, List.setIfInBounds_toArray, List.set_cons_zero, List.set_cons_succ]
      refine wpAnyH_ready (rs := [5, 7]) (by kernel_rfl) (by simp) ?_
      refine AllReadyH.cons rfl (fun K hK => ?_) (AllReadyH.cons rfl (fun K hK => ?_) AllReadyH.nil)
      · go_simp
        refine hK.out _ _ trivial (fun hHeld => ?_)
        clear hK K
        try simp only [List.getElem_toArray, List.getElem_cons_zero, List.getElem_cons_succ, Act.put, List.setIfInBounds_toArray, List.set_cons_zero, List.set_cons_succ]
        refine wpAnyH_ready (rs := [6, 7]) (by kernel_rfl) (by simp) ?_
        refine AllReadyH.cons rfl (fun K hK => ?_) (AllReadyH.cons rfl (fun K hK => ?_) AllReadyH.nil)
        · go_simp
          refine (few_eq A D T _ hT).mono ?_
          rintro e w2 ⟨rfl, hb2⟩
          have hX2 : Below w1.heap.size w1 w2 := bel_then (bel_drew (Below.refl _ _)) hb2
          obtain ⟨hzT, fT0, fT1, pT0, pT1, pT2, qT0, qT1, qT2⟩ := two_boxes hX2 hz1 f0 f1 p0 p1 p2 q0 q1 q2
          refine hK.out _ _ trivial (fun hHeld => ?_)
          clear hK K
          try simp only [List.getElem_toArray, List.getElem_cons_zero, List.getElem_cons_succ, Act.put, List.setIfInBounds_toArray, List.set_cons_zero, List.set_cons_succ]
          refine wpAnyH_ready (rs := [7]) (by kernel_rfl) (by simp) ?_
          refine AllReadyH.cons rfl (fun K hK => ?_) AllReadyH.nil
          go_simp
          refine hK.out _ _ trivial (fun hHeld => ?_)
          clear hK K
          try simp only [List.getElem_toArray, List.getElem_cons_zero, List.getElem_cons_succ, Act.put, List.setIfInBounds_toArray, List.set_cons_zero, List.set_cons_succ]
          refine wpAnyH_ready (rs := [8]) (by kernel_rfl) (by simp) ?_
          refine AllReadyH.cons rfl (fun K hK => ?_) AllReadyH.nil
          go_simp
          refine (few_eq B E U _ hU).mono ?_
          rintro e w3 ⟨rfl, hb3⟩
          have hbU : Below w.heap.size w w3 := bel_then (bel_then hb01 hX2) hb3
          obtain ⟨hzU, fU0, fU1, pU0, pU1, pU2, qU0, qU1, qU2⟩ := two_boxes hb3 hzT fT0 fT1 pT0 pT1 pT2 qT0 qT1 qT2
          refine hK.out _ _ trivial (fun hHeld => ?_)
          clear hK K
          try simp only [List.getElem_toArray, List.getElem_cons_zero, List.getElem_cons_succ, Act.put, List.setIfInBounds_toArray, List.set_cons_zero, List.set_cons_succ]
          refine wpAnyH_take (i := 9) (v := ?_) rfl (by kernel_rfl) (by kernel_rfl) (by kernel_rfl) (fun _ _ _ h => h) (Or.inl ⟨by kernel_rfl, ?_⟩) (by assumption) ?_
          rotate_left
          · intro w hSw
            try dsimp only at hSw
            go_simp
            try with_reducible rfl
          try simp only [List.getElem_toArray, List.getElem_cons_zero, List.getElem_cons_succ, Act.put, List.setIfInBounds_toArray, List.set_cons_zero, List.set_cons_succ]
          refine wpAnyH_ready (rs := [10]) (by kernel_rfl) (by simp) ?_
          refine AllReadyH.cons rfl (fun K hK => ?_) AllReadyH.nil
          go_simp
          refine hK.out _ _ trivial (fun hHeld => ?_)
          clear hK K
          try simp only [List.getElem_toArray, List.getElem_cons_zero, List.getElem_cons_succ, Act.put, List.setIfInBounds_toArray, List.set_cons_zero, List.set_cons_succ]
          refine wpAnyH_ready (rs := [11]) (by kernel_rfl) (by simp) ?_
          refine AllReadyH.cons rfl (fun K hK => ?_) AllReadyH.nil
          go_simp
          refine hK.out _ _ trivial (fun hHeld => ?_)
          clear hK K
          try simp only [List.getElem_toArray, List.getElem_cons_zero, List.getElem_cons_succ, Act.put, List.setIfInBounds_toArray, List.set_cons_zero, List.set_cons_succ]
          refine wpAnyH_done (by kernel_rfl) ?_ _
          refine NoPanic.normal ?_
          go_wp2_with fail
          go_meet
          exact ⟨_, rfl, (by first | omega | (simp; omega)), stored hbU hzU pU0 pU1 pU2 qU0 qU1 qU2 rfl⟩
        · go_simp
          refine hK.out _ _ trivial (fun hHeld => ?_)
          clear hK K
          try simp only [List.getElem_toArray, List.getElem_cons_zero, List.getElem_cons_succ, Act.put, List.setIfInBounds_toArray, List.set_cons_zero, List.set_cons_succ]
          refine wpAnyH_ready (rs := [6]) (by kernel_rfl) (by simp) ?_
          refine AllReadyH.cons rfl (fun K hK => ?_) AllReadyH.nil
          go_simp
          refine (few_eq A D T _ hT).mono ?_
          rintro e w2 ⟨rfl, hb2⟩
          have hX2 : Below w1.heap.size w1 w2 := bel_then (bel_drew (Below.refl _ _)) hb2
          obtain ⟨hzT, fT0, fT1, pT0, pT1, pT2, qT0, qT1, qT2⟩ := two_boxes hX2 hz1 f0 f1 p0 p1 p2 q0 q1 q2
          refine hK.out _ _ trivial (fun hHeld => ?_)
          clear hK K
          try simp only [List.getElem_toArray, List.getElem_cons_zero, List.getElem_cons_succ, Act.put, List.setIfInBounds_toArray, List.set_cons_zero, List.set_cons_succ]
          refine wpAnyH_ready (rs := [8]) (by kernel_rfl) (by simp) ?_
          refine AllReadyH.cons rfl (fun K hK => ?_) AllReadyH.nil
          go_simp
          refine (few_eq B E U _ hU).mono ?_
          rintro e w3 ⟨rfl, hb3⟩
          have hbU : Below w.heap.size w w3 := bel_then (bel_then hb01 hX2) hb3
          obtain ⟨hzU, fU0, fU1, pU0, pU1, pU2, qU0, qU1, qU2⟩ := two_boxes hb3 hzT fT0 fT1 pT0 pT1 pT2 qT0 qT1 qT2
          refine hK.out _ _ trivial (fun hHeld => ?_)
          clear hK K
          try simp only [List.getElem_toArray, List.getElem_cons_zero, List.getElem_cons_succ, Act.put, List.setIfInBounds_toArray, List.set_cons_zero, List.set_cons_succ]
          refine wpAnyH_take (i := 9) (v := ?_) rfl (by kernel_rfl) (by kernel_rfl) (by kernel_rfl) (fun _ _ _ h => h) (Or.inl ⟨by kernel_rfl, ?_⟩) (by assumption) ?_
          rotate_left
          · intro w hSw
            try dsimp only at hSw
            go_simp
            try with_reducible rfl
          try simp only [List.getElem_toArray, List.getElem_cons_zero, List.getElem_cons_succ, Act.put, List.setIfInBounds_toArray, List.set_cons_zero, List.set_cons_succ]
          refine wpAnyH_ready (rs := [10]) (by kernel_rfl) (by simp) ?_
          refine AllReadyH.cons rfl (fun K hK => ?_) AllReadyH.nil
          go_simp
          refine hK.out _ _ trivial (fun hHeld => ?_)
          clear hK K
          try simp only [List.getElem_toArray, List.getElem_cons_zero, List.getElem_cons_succ, Act.put, List.setIfInBounds_toArray, List.set_cons_zero, List.set_cons_succ]
          refine wpAnyH_ready (rs := [11]) (by kernel_rfl) (by simp) ?_
          refine AllReadyH.cons rfl (fun K hK => ?_) AllReadyH.nil
          go_simp
          refine hK.out _ _ trivial (fun hHeld => ?_)
          clear hK K
          try simp only [List.getElem_toArray, List.getElem_cons_zero, List.getElem_cons_succ, Act.put, List.setIfInBounds_toArray, List.set_cons_zero, List.set_cons_succ]
          refine wpAnyH_done (by kernel_rfl) ?_ _
          refine NoPanic.normal ?_
          go_wp2_with fail
          go_meet
          exact ⟨_, rfl, (by first | omega | (simp; omega)), stored hbU hzU pU0 pU1 pU2 qU0 qU1 qU2 rfl⟩
      · go_simp
        refine hK.out _ _ trivial (fun hHeld => ?_)
        clear hK K
        try simp only [List.getElem_toArray, List.getElem_cons_zero, List.getElem_cons_succ, Act.put, List.setIfInBounds_toArray, List.set_cons_zero, List.set_cons_succ]
        refine wpAnyH_ready (rs := [5]) (by kernel_rfl) (by simp) ?_
        refine AllReadyH.cons rfl (fun K hK => ?_) AllReadyH.nil
        go_simp
        refine hK.out _ _ trivial (fun hHeld => ?_)
        clear hK K
        try simp only [List.getElem_toArray, List.getElem_cons_zero, List.getElem_cons_succ, Act.put, List.setIfInBounds_toArray, List.set_cons_zero, List.set_cons_succ]
        refine wpAnyH_ready (rs := [6]) (by kernel_rfl) (by simp) ?_
        refine AllReadyH.cons rfl (fun K hK => ?_) AllReadyH.nil
        go_simp
        refine (few_eq A D T _ hT).mono ?_
        rintro e w2 ⟨rfl, hb2⟩
        have hX2 : Below w1.heap.size w1 w2 := bel_then (bel_drew (Below.refl _ _)) hb2
        obtain ⟨hzT, fT0, fT1, pT0, pT1, pT2, qT0, qT1, qT2⟩ := two_boxes hX2 hz1 f0 f1 p0 p1 p2 q0 q1 q2
        refine hK.out _ _ trivial (fun hHeld => ?_)
        clear hK K
        try simp only [List.getElem_toArray, List.getElem_cons_zero, List.getElem_cons_succ, Act.put, List.setIfInBounds_toArray, List.set_cons_zero, List.set_cons_succ]
        refine wpAnyH_ready (rs := [8]) (by kernel_rfl) (by simp) ?_
        refine AllReadyH.cons rfl (fun K hK => ?_) AllReadyH.nil
        go_simp
        refine (few_eq B E U _ hU).mono ?_
        rintro e w3 ⟨rfl, hb3⟩
        have hbU : Below w.heap.size w w3 := bel_then (bel_then hb01 hX2) hb3
        obtain ⟨hzU, fU0, fU1, pU0, pU1, pU2, qU0, qU1, qU2⟩ := two_boxes hb3 hzT fT0 fT1 pT0 pT1 pT2 qT0 qT1 qT2
        refine hK.out _ _ trivial (fun hHeld => ?_)
        clear hK K
        try simp only [List.getElem_toArray, List.getElem_cons_zero, List.getElem_cons_succ, Act.put, List.setIfInBounds_toArray, List.set_cons_zero, List.set_cons_succ]
        refine wpAnyH_take (i := 9) (v := ?_) rfl (by kernel_rfl) (by kernel_rfl) (by kernel_rfl) (fun _ _ _ h => h) (Or.inl ⟨by kernel_rfl, ?_⟩) (by assumption) ?_
        rotate_left
        · intro w hSw
          try dsimp only at hSw
          go_simp
          try with_reducible rfl
        try simp only [List.getElem_toArray, List.getElem_cons_zero, List.getElem_cons_succ, Act.put, List.setIfInBounds_toArray, List.set_cons_zero, List.set_cons_succ]
        refine wpAnyH_ready (rs := [10]) (by kernel_rfl) (by simp) ?_
        refine AllReadyH.cons rfl (fun K hK => ?_) AllReadyH.nil
        go_simp
        refine hK.out _ _ trivial (fun hHeld => ?_)
        clear hK K
        try simp only [List.getElem_toArray, List.getElem_cons_zero, List.getElem_cons_succ, Act.put, List.setIfInBounds_toArray, List.set_cons_zero, List.set_cons_succ]
        refine wpAnyH_ready (rs := [11]) (by kernel_rfl) (by simp) ?_
        refine AllReadyH.cons rfl (fun K hK => ?_) AllReadyH.nil
        go_simp
        refine hK.out _ _ trivial (fun hHeld => ?_)
        clear hK K
        try simp only [List.getElem_toArray, List.getElem_cons_zero, List.getElem_cons_succ, Act.put, List.setIfInBounds_toArray, List.set_cons_zero, List.set_cons_succ]
        refine wpAnyH_done (by kernel_rfl) ?_ _
        refine NoPanic.normal ?_
        go_wp2_with fail
        go_meet
        exact ⟨_, rfl, (by first | omega | (simp; omega)), stored hbU hzU pU0 pU1 pU2 qU0 qU1 qU2 rfl⟩
    · refine wp_region_noPanic ?_
      refine wp_region_held_drew (S := fun _ => True) (by kernel_rfl) trivial (fun hHeld => ?_)
      refine wpAnyH_take (i := 0) (v := ?_) rfl (by kernel_rfl) (by kernel_rfl) (by kernel_rfl) (fun _ _ _ h => h) (Or.inl ⟨by kernel_rfl, ?_⟩) (by assumption) ?_
      rotate_left
      · intro w hSw
        try dsimp only at hSw
        go_simp
        try with_reducible rfl
      try simp only [List.getElem_toArray, List.getElem_cons_zero, List.getElem_cons_succ, Act.put, List.setIfInBounds_toArray, List.set_cons_zero, List.set_cons_succ]
      refine wpAnyH_take (i := 1) (v := ?_) rfl (by kernel_rfl) (by kernel_rfl) (by kernel_rfl) (fun _ _ _ h => h) (Or.inl ⟨by kernel_rfl, ?_⟩) (by assumption) ?_
      rotate_left
      · intro w hSw
        try dsimp only at hSw
        go_simp
        try with_reducible rfl
      try simp only [List.getElem_toArray, List.getElem_cons_zero, List.getElem_cons_succ, Act.put, List.setIfInBounds_toArray, List.set_cons_zero, List.set_cons_succ]
      refine wpAnyH_take (i := 2) (v := ?_) rfl (by kernel_rfl) (by kernel_rfl) (by kernel_rfl) (fun _ _ _ h => h) (Or.inl ⟨by kernel_rfl, ?_⟩) (by assumption) ?_
      rotate_left
      · intro w hSw
        try dsimp only at hSw
        go_simp
        try with_reducible rfl
      try simp only [List.getElem_toArray, List.getElem_cons_zero, List.getElem_cons_succ, Act.put, List.setIfInBounds_toArray, List.set_cons_zero, List.set_cons_succ]
      refine wpAnyH_take (i := 3) (v := ?_) rfl (by kernel_rfl) (by kernel_rfl) (by kernel_rfl) (fun _ _ _ h => h) (Or.inl ⟨by kernel_rfl, ?_⟩) (by assumption) ?_
      rotate_left
      · intro w hSw
        try dsimp only at hSw
        go_simp
        try with_reducible rfl
      try simp only [List.getElem_toArray, List.getElem_cons_zero, List.getElem_cons_succ, Act.put, List.setIfInBounds_toArray, List.set_cons_zero, List.set_cons_succ]
      refine wpAnyH_take (i := 4) (v := ?_) rfl (by kernel_rfl) (by kernel_rfl) (by kernel_rfl) (fun _ _ _ h => h) (Or.inl ⟨by kernel_rfl, ?_⟩) (by assumption) ?_
      rotate_left
      · intro w hSw
        try dsimp only at hSw
        go_simp
        try with_reducible rfl
      try simp only [List.getElem_toArray, List.getElem_cons_zero, List.getElem_cons_succ, Act.put, List.setIfInBounds_toArray, List.set_cons_zero, List.set_cons_succ]
      refine wpAnyH_ready (rs := [5, 7]) (by kernel_rfl) (by simp) ?_
      refine AllReadyH.cons rfl (fun K hK => ?_) (AllReadyH.cons rfl (fun K hK => ?_) AllReadyH.nil)
      · go_simp
        refine hK.out _ _ trivial (fun hHeld => ?_)
        clear hK K
        try simp only [List.getElem_toArray, List.getElem_cons_zero, List.getElem_cons_succ, Act.put, List.setIfInBounds_toArray, List.set_cons_zero, List.set_cons_succ]
        refine wpAnyH_ready (rs := [6, 7]) (by kernel_rfl) (by simp) ?_
        refine AllReadyH.cons rfl (fun K hK => ?_) (AllReadyH.cons rfl (fun K hK => ?_) AllReadyH.nil)
        · go_simp
          refine (few_eq A D T _ hT).mono ?_
          rintro e w2 ⟨rfl, hb2⟩
          have hX2 : Below w1.heap.size w1 w2 := bel_then (bel_drew (Below.refl _ _)) hb2
          obtain ⟨hzT, fT0, fT1, pT0, pT1, pT2, qT0, qT1, qT2⟩ := two_boxes hX2 hz1 f0 f1 p0 p1 p2 q0 q1 q2
          refine hK.out _ _ trivial (fun hHeld => ?_)
          clear hK K
          try simp only [List.getElem_toArray, List.getElem_cons_zero, List.getElem_cons_succ, Act.put, List.setIfInBounds_toArray, List.set_cons_zero, List.set_cons_succ]
          refine wpAnyH_ready (rs := [7]) (by kernel_rfl) (by simp) ?_
          refine AllReadyH.cons rfl (fun K hK => ?_) AllReadyH.nil
          go_simp
          refine hK.out _ _ trivial (fun hHeld => ?_)
          clear hK K
          try simp only [List.getElem_toArray, List.getElem_cons_zero, List.getElem_cons_succ, Act.put, List.setIfInBounds_toArray, List.set_cons_zero, List.set_cons_succ]
          refine wpAnyH_ready (rs := [8]) (by kernel_rfl) (by simp) ?_
          refine AllReadyH.cons rfl (fun K hK => ?_) AllReadyH.nil
          go_simp
          refine (few_eq B E U _ hU).mono ?_
          rintro e w3 ⟨rfl, hb3⟩
          have hbU : Below w.heap.size w w3 := bel_then (bel_then hb01 hX2) hb3
          obtain ⟨hzU, fU0, fU1, pU0, pU1, pU2, qU0, qU1, qU2⟩ := two_boxes hb3 hzT fT0 fT1 pT0 pT1 pT2 qT0 qT1 qT2
          refine hK.out _ _ trivial (fun hHeld => ?_)
          clear hK K
          try simp only [List.getElem_toArray, List.getElem_cons_zero, List.getElem_cons_succ, Act.put, List.setIfInBounds_toArray, List.set_cons_zero, List.set_cons_succ]
          refine wpAnyH_take (i := 9) (v := ?_) rfl (by kernel_rfl) (by kernel_rfl) (by kernel_rfl) (fun _ _ _ h => h) (Or.inl ⟨by kernel_rfl, ?_⟩) (by assumption) ?_
          rotate_left
          · intro w hSw
            try dsimp only at hSw
            go_simp
            try with_reducible rfl
          try simp only [List.getElem_toArray, List.getElem_cons_zero, List.getElem_cons_succ, Act.put, List.setIfInBounds_toArray, List.set_cons_zero, List.set_cons_succ]
          refine wpAnyH_ready (rs := [10]) (by kernel_rfl) (by simp) ?_
          refine AllReadyH.cons rfl (fun K hK => ?_) AllReadyH.nil
          go_simp
          refine hK.out _ _ trivial (fun hHeld => ?_)
          clear hK K
          try simp only [List.getElem_toArray, List.getElem_cons_zero, List.getElem_cons_succ, Act.put, List.setIfInBounds_toArray, List.set_cons_zero, List.set_cons_succ]
          refine wpAnyH_ready (rs := [11]) (by kernel_rfl) (by simp) ?_
          refine AllReadyH.cons rfl (fun K hK => ?_) AllReadyH.nil
          go_simp
          refine hK.out _ _ trivial (fun hHeld => ?_)
          clear hK K
          try simp only [List.getElem_toArray, List.getElem_cons_zero, List.getElem_cons_succ, Act.put, List.setIfInBounds_toArray, List.set_cons_zero, List.set_cons_succ]
          refine wpAnyH_done (by kernel_rfl) ?_ _
          refine NoPanic.normal ?_
          go_wp2_with fail
          go_meet
          exact ⟨_, rfl, (by first | omega | (simp; omega)), stored hbU hzU pU0 pU1 pU2 qU0 qU1 qU2 rfl⟩
        · go_simp
          refine hK.out _ _ trivial (fun hHeld => ?_)
          clear hK K
          try simp only [List.getElem_toArray, List.getElem_cons_zero, List.getElem_cons_succ, Act.put, List.setIfInBounds_toArray, List.set_cons_zero, List.set_cons_succ]
          refine wpAnyH_ready (rs := [6]) (by kernel_rfl) (by simp) ?_
          refine AllReadyH.cons rfl (fun K hK => ?_) AllReadyH.nil
          go_simp
          refine (few_eq A D T _ hT).mono ?_
          rintro e w2 ⟨rfl, hb2⟩
          have hX2 : Below w1.heap.size w1 w2 := bel_then (bel_drew (Below.refl _ _)) hb2
          obtain ⟨hzT, fT0, fT1, pT0, pT1, pT2, qT0, qT1, qT2⟩ := two_boxes hX2 hz1 f0 f1 p0 p1 p2 q0 q1 q2
          refine hK.out _ _ trivial (fun hHeld => ?_)
          clear hK K
          try simp only [List.getElem_toArray, List.getElem_cons_zero, List.getElem_cons_succ, Act.put, List.setIfInBounds_toArray, List.set_cons_zero, List.set_cons_succ]
          refine wpAnyH_ready (rs := [8]) (by kernel_rfl) (by simp) ?_
          refine AllReadyH.cons rfl (fun K hK => ?_) AllReadyH.nil
          go_simp
          refine (few_eq B E U _ hU).mono ?_
          rintro e w3 ⟨rfl, hb3⟩
          have hbU : Below w.heap.size w w3 := bel_then (bel_then hb01 hX2) hb3
          obtain ⟨hzU, fU0, fU1, pU0, pU1, pU2, qU0, qU1, qU2⟩ := two_boxes hb3 hzT fT0 fT1 pT0 pT1 pT2 qT0 qT1 qT2
          refine hK.out _ _ trivial (fun hHeld => ?_)
          clear hK K
          try simp only [List.getElem_toArray, List.getElem_cons_zero, List.getElem_cons_succ, Act.put, List.setIfInBounds_toArray, List.set_cons_zero, List.set_cons_succ]
          refine wpAnyH_take (i := 9) (v := ?_) rfl (by kernel_rfl) (by kernel_rfl) (by kernel_rfl) (fun _ _ _ h => h) (Or.inl ⟨by kernel_rfl, ?_⟩) (by assumption) ?_
          rotate_left
          · intro w hSw
            try dsimp only at hSw
            go_simp
            try with_reducible rfl
          try simp only [List.getElem_toArray, List.getElem_cons_zero, List.getElem_cons_succ, Act.put, List.setIfInBounds_toArray, List.set_cons_zero, List.set_cons_succ]
          refine wpAnyH_ready (rs := [10]) (by kernel_rfl) (by simp) ?_
          refine AllReadyH.cons rfl (fun K hK => ?_) AllReadyH.nil
          go_simp
          refine hK.out _ _ trivial (fun hHeld => ?_)
          clear hK K
          try simp only [List.getElem_toArray, List.getElem_cons_zero, List.getElem_cons_succ, Act.put, List.setIfInBounds_toArray, List.set_cons_zero, List.set_cons_succ]
          refine wpAnyH_ready (rs := [11]) (by kernel_rfl) (by simp) ?_
          refine AllReadyH.cons rfl (fun K hK => ?_) AllReadyH.nil
          go_simp
          refine hK.out _ _ trivial (fun hHeld => ?_)
          clear hK K
          try simp only [List.getElem_toArray, List.getElem_cons_zero, List.getElem_cons_succ, Act.put, List.setIfInBounds_toArray, List.set_cons_zero, List.set_cons_succ]
          refine wpAnyH_done (by kernel_rfl) ?_ _
          refine NoPanic.normal ?_
          go_wp2_with fail
          go_meet
          exact ⟨_, rfl, (by first | omega | (simp; omega)), stored hbU hzU pU0 pU1 pU2 qU0 qU1 qU2 rfl⟩
      · go_simp
        refine hK.out _ _ trivial (fun hHeld => ?_)
        clear hK K
        try simp only [List.getElem_toArray, List.getElem_cons_zero, List.getElem_cons_succ, Act.put, List.setIfInBounds_toArray, List.set_cons_zero, List.set_cons_succ]
        refine wpAnyH_ready (rs := [5]) (by kernel_rfl) (by simp) ?_
        refine AllReadyH.cons rfl (fun K hK => ?_) AllReadyH.nil
        go_simp
        refine hK.out _ _ trivial (fun hHeld => ?_)
        clear hK K
        try simp only [List.getElem_toArray, List.getElem_cons_zero, List.getElem_cons_succ, Act.put, List.setIfInBounds_toArray, List.set_cons_zero, List.set_cons_succ]
        refine wpAnyH_ready (rs := [6]) (by kernel_rfl) (by simp) ?_
        refine AllReadyH.cons rfl (fun K hK => ?_) AllReadyH.nil
        go_simp
        refine (few_eq A D T _ hT).mono ?_
        rintro e w2 ⟨rfl, hb2⟩
        have hX2 : Below w1.heap.size w1 w2 := bel_then (bel_drew (Below.refl _ _)) hb2
        obtain ⟨hzT, fT0, fT1, pT0, pT1, pT2, qT0, qT1, qT2⟩ := two_boxes hX2 hz1 f0 f1 p0 p1 p2 q0 q1 q2
        refine hK.out _ _ trivial (fun hHeld => ?_)
        clear hK K
        try simp only [List.getElem_toArray, List.getElem_cons_zero, List.getElem_cons_succ, Act.put, List.setIfInBounds_toArray, List.set_cons_zero, List.set_cons_succ]
        refine wpAnyH_ready (rs := [8]) (by kernel_rfl) (by simp) ?_
        refine AllReadyH.cons rfl (fun K hK => ?_) AllReadyH.nil
        go_simp
        refine (few_eq B E U _ hU).mono ?_
        rintro e w3 ⟨rfl, hb3⟩
        have hbU : Below w.heap.size w w3 := bel_then (bel_then hb01 hX2) hb3
        obtain ⟨hzU, fU0, fU1, pU0, pU1, pU2, qU0, qU1, qU2⟩ := two_boxes hb3 hzT fT0 fT1 pT0 pT1 pT2 qT0 qT1 qT2
        refine hK.out _ _ trivial (fun hHeld => ?_)
        clear hK K
        try simp only [List.getElem_toArray, List.getElem_cons_zero, List.getElem_cons_succ, Act.put, List.setIfInBounds_toArray, List.set_cons_zero, List.set_cons_succ]
        refine wpAnyH_take (i := 9) (v := ?_) rfl (by kernel_rfl) (by kernel_rfl) (by kernel_rfl) (fun _ _ _ h => h) (Or.inl ⟨by kernel_rfl, ?_⟩) (by assumption) ?_
        rotate_left
        · intro w hSw
          try dsimp only at hSw
          go_simp
          try with_reducible rfl
        try simp only [List.getElem_toArray, List.getElem_cons_zero, List.getElem_cons_succ, Act.put, List.setIfInBounds_toArray, List.set_cons_zero, List.set_cons_succ]
        refine wpAnyH_ready (rs := [10]) (by kernel_rfl) (by simp) ?_
        refine AllReadyH.cons rfl (fun K hK => ?_) AllReadyH.nil
        go_simp
        refine hK.out _ _ trivial (fun hHeld => ?_)
        clear hK K
        try simp only [List.getElem_toArray, List.getElem_cons_zero, List.getElem_cons_succ, Act.put, List.setIfInBounds_toArray, List.set_cons_zero, List.set_cons_succ]
        refine wpAnyH_ready (rs := [11]) (by kernel_rfl) (by simp) ?_
        refine AllReadyH.cons rfl (fun K hK => ?_) AllReadyH.nil
        go_simp
        refine hK.out _ _ trivial (fun hHeld => ?_)
        clear hK K
        try simp only [List.getElem_toArray, List.getElem_cons_zero, List.getElem_cons_succ, Act.put, List.setIfInBounds_toArray, List.set_cons_zero, List.set_cons_succ]
        refine wpAnyH_done (by kernel_rfl) ?_ _
        refine NoPanic.normal ?_
        go_wp2_with fail
        go_meet
        exact ⟨_, rfl, (by first | omega | (simp; omega)), stored hbU hzU pU0 pU1 pU2 qU0 qU1 qU2 rfl⟩
  case rest =>
    obtain ⟨t', rfl, ht', p0, p1, p2, q0, q1, q2, hz, hb02⟩ := hcut
    have kT := fewT_size T
    have kU := fewT_size U
    clear hb1 ht hT hU
    generalize fewT T = T' at *
    generalize fewT U = U' at *
    rcases hm : touchB A D T'.size B E with _ | _
    · have HM := Lib.hid hm
      clear hm
      go_wp2_with fail
      refine (then_no A D T' B E U' _ (by omega) HM.out).mono ?_
      rintro e w2 ⟨rfl, hb2⟩
      have hk2 := bcell hb2
      have y0 := (hk2.1 w.heap.size 0 (by omega)).trans p0
      have y1 := (hk2.1 w.heap.size 1 (by omega)).trans p1
      have y2 := (hk2.1 w.heap.size 2 (by omega)).trans p2
      have x0 := (hk2.1 (w.heap.size + 1) 0 (by omega)).trans q0
      have x1 := (hk2.1 (w.heap.size + 1) 1 (by omega)).trans q1
      have x2 := (hk2.1 (w.heap.size + 1) 2 (by omega)).trans q2
      have hz2 : w.heap.size + 1 < w2.heap.size := by have := hb2.size; omega
      have hb03 := bel_then hb02 hb2
      clear p0 p1 p2 q0 q1 q2 hk2 hb2 hb02 hz
      have al := (Below.refl w2.heap.size w2).alloc (Nat.le_refl _) (.cells #[.int .i64 0, .int .i64 0, .string ⟨#[]⟩] 23)
      have v0 := (al.cell (p := ⟨w.heap.size, 0, none⟩) (by show w.heap.size < _; omega)).trans y0
      have v1 := (al.cell (p := ⟨w.heap.size, 1, none⟩) (by show w.heap.size < _; omega)).trans y1
      have v2 := (al.cell (p := ⟨w.heap.size, 2, none⟩) (by show w.heap.size < _; omega)).trans y2
      have s0 := (al.cell (p := ⟨w.heap.size + 1, 0, none⟩) (by show w.heap.size + 1 < _; omega)).trans x0
      have s1 := (al.cell (p := ⟨w.heap.size + 1, 1, none⟩) (by show w.heap.size + 1 < _; omega)).trans x1
      have s2 := (al.cell (p := ⟨w.heap.size + 1, 2, none⟩) (by show w.heap.size + 1 < _; omega)).trans x2
      go_wp2_with fail
      refine (touches_any A D T' B E U' _ (by omega)).mono ?_
      rw [HM.out]
      rintro e w3 ⟨rfl, hb3⟩
      have z0 : w3.cell? ⟨w2.heap.size, 0, none⟩ = some (.int .i64 0) := (hb3.cell (p := ⟨w2.heap.size, 0, none⟩) (by simp)).trans (by go_simp)
      have z1 : w3.cell? ⟨w2.heap.size, 1, none⟩ = some (.int .i64 0) := (hb3.cell (p := ⟨w2.heap.size, 1, none⟩) (by simp)).trans (by go_simp)
      have z2 : w3.cell? ⟨w2.heap.size, 2, none⟩ = some (.string ⟨#[]⟩) := (hb3.cell (p := ⟨w2.heap.size, 2, none⟩) (by simp)).trans (by go_simp)
      have hb04 := bel_then (bel_alloc hb03 _) hb3
      go_wp2_with fail
      go_ret
      exact ⟨rfl, hb04⟩
    · obtain ⟨k1, k2, k3, k4⟩ := touch_nat hm
      obtain ⟨a, rfl⟩ := Int.eq_ofNat_of_zero_le k1
      obtain ⟨d, rfl⟩ := Int.eq_ofNat_of_zero_le k2
      obtain ⟨b, rfl⟩ := Int.eq_ofNat_of_zero_le k3
      obtain ⟨e', rfl⟩ := Int.eq_ofNat_of_zero_le k4
      clear k1 k2 k3 k4
      obtain ⟨n1, n2, h1, h2, m1, m2, m3, m4⟩ := touch_parts hm
      clear n1 n2
      have C1 := fun w => then_yes a d T' b e' U' w (by omega) (by omega) hm
      have C2 := fun w => rthen_text a d T' b e' U' w (by omega) (by omega) h1 h2 m1 m2 m3 m4
      have L1 := fun g1 g2 => then_applies t' T' U' a d b e' g1 g2 h1 h2
      have L2 := fun g1 g2 => then_may t' T' a d b e' g1 g2 h1 h2
      have L3 := then_size T' U' a b e'
      generalize min a b = x at C1 C2 L1 L2
      generalize d + (a - b) + (b + e' - (a + T'.size)) = y at C1 C2 L1 L2
      generalize thenText T' U' a b e' = S at C1 C2 L1 L2 L3
      have HM := Lib.hid hm
      have C1' := Lib.hid C1
      have C2' := Lib.hid C2
      have L1' := Lib.hid L1
      have L2' := Lib.hid L2
      clear hm C1 C2 L1 L2 h1 h2 m1 m2 m3 m4
      go_wp2_with fail
      refine (C1'.out _).mono ?_
      rintro e w2 ⟨rfl, hb2⟩
      have hk2 := bcell hb2
      have y0 := (hk2.1 w.heap.size 0 (by omega)).trans p0
      have y1 := (hk2.1 w.heap.size 1 (by omega)).trans p1
      have y2 := (hk2.1 w.heap.size 2 (by omega)).trans p2
      have x0 := (hk2.1 (w.heap.size + 1) 0 (by omega)).trans q0
      have x1 := (hk2.1 (w.heap.size + 1) 1 (by omega)).trans q1
      have x2 := (hk2.1 (w.heap.size + 1) 2 (by omega)).trans q2
      have hz2 : w.heap.size + 1 < w2.heap.size := by have := hb2.size; omega
      have hb03 := bel_then hb02 hb2
      clear p0 p1 p2 q0 q1 q2 hk2 hb2 hb02 hz
      have al := (Below.refl w2.heap.size w2).alloc (Nat.le_refl _) (.cells #[.int .i64 (x : Int), .int .i64 (y : Int), .string S] 23)
      have v0 := (al.cell (p := ⟨w.heap.size, 0, none⟩) (by show w.heap.size < _; omega)).trans y0
      have v1 := (al.cell (p := ⟨w.heap.size, 1, none⟩) (by show w.heap.size < _; omega)).trans y1
      have v2 := (al.cell (p := ⟨w.heap.size, 2, none⟩) (by show w.heap.size < _; omega)).trans y2
      have s0 := (al.cell (p := ⟨w.heap.size + 1, 0, none⟩) (by show w.heap.size + 1 < _; omega)).trans x0
      have s1 := (al.cell (p := ⟨w.heap.size + 1, 1, none⟩) (by show w.heap.size + 1 < _; omega)).trans x1
      have s2 := (al.cell (p := ⟨w.heap.size + 1, 2, none⟩) (by show w.heap.size + 1 < _; omega)).trans x2
      go_wp2_with fail
      refine (touches_any a d T' b e' U' _ (by omega)).mono ?_
      rw [HM.out]
      rintro e w3 ⟨rfl, hb3⟩
      have hk3 := bcell hb3
      have z0 : w3.cell? ⟨w2.heap.size, 0, none⟩ = some (.int .i64 (x : Int)) := (hb3.cell (p := ⟨w2.heap.size, 0, none⟩) (by simp)).trans (by go_simp)
      have z1 : w3.cell? ⟨w2.heap.size, 1, none⟩ = some (.int .i64 (y : Int)) := (hb3.cell (p := ⟨w2.heap.size, 1, none⟩) (by simp)).trans (by go_simp)
      have z2 : w3.cell? ⟨w2.heap.size, 2, none⟩ = some (.string S) := (hb3.cell (p := ⟨w2.heap.size, 2, none⟩) (by simp)).trans (by go_simp)
      have p0 : w3.cell? ⟨w.heap.size, 0, none⟩ = some (.int .i64 (a : Int)) := (hb3.cell (p := ⟨w.heap.size, 0, none⟩) (by simp; omega)).trans (by go_simp)
      have p1 : w3.cell? ⟨w.heap.size, 1, none⟩ = some (.int .i64 (d : Int)) := (hb3.cell (p := ⟨w.heap.size, 1, none⟩) (by simp; omega)).trans (by go_simp)
      have p2 : w3.cell? ⟨w.heap.size, 2, none⟩ = some (.string T') := (hb3.cell (p := ⟨w.heap.size, 2, none⟩) (by simp; omega)).trans (by go_simp)
      have q0 : w3.cell? ⟨w.heap.size + 1, 0, none⟩ = some (.int .i64 (b : Int)) := (hb3.cell (p := ⟨w.heap.size + 1, 0, none⟩) (by simp; omega)).trans (by go_simp)
      have q1 : w3.cell? ⟨w.heap.size + 1, 1, none⟩ = some (.int .i64 (e' : Int)) := (hb3.cell (p := ⟨w.heap.size + 1, 1, none⟩) (by simp; omega)).trans (by go_simp)
      have q2 : w3.cell? ⟨w.heap.size + 1, 2, none⟩ = some (.string U') := (hb3.cell (p := ⟨w.heap.size + 1, 2, none⟩) (by simp; omega)).trans (by go_simp)
      have hz3 : w2.heap.size < w3.heap.size := by have := hb3.size; simp at this; omega
      have hz3' : w.heap.size + 1 < w3.heap.size := by omega
      have hz4 : w.heap.size < w3.heap.size := by omega
      have hb04 := bel_then (bel_alloc hb03 _) hb3
      clear y0 y1 y2 x0 x1 x2 v0 v1 v2 s0 s1 s2 al hk3 hb3 hb03
      have keepS : ∀ w', Below w3.heap.size w3 w' → (w'.cell? ⟨w.heap.size, 0, none⟩ = some (.int .i64 (a : Int)) ∧ w'.cell? ⟨w.heap.size, 1, none⟩ = some (.int .i64 (d : Int)) ∧ w'.cell? ⟨w.heap.size, 2, none⟩ = some (.string T') ∧ w'.cell? ⟨w.heap.size + 1, 0, none⟩ = some (.int .i64 (b : Int)) ∧ w'.cell? ⟨w.heap.size + 1, 1, none⟩ = some (.int .i64 (e' : Int)) ∧ w'.cell? ⟨w.heap.size + 1, 2, none⟩ = some (.string U') ∧ w'.cell? ⟨w2.heap.size, 0, none⟩ = some (.int .i64 (x : Int)) ∧ w'.cell? ⟨w2.heap.size, 1, none⟩ = some (.int .i64 (y : Int)) ∧ w'.cell? ⟨w2.heap.size, 2, none⟩ = some (.string S) ∧ Below w3.heap.size w3 w') := fun w' hX =>
        ⟨(hX.cell (p := ⟨w.heap.size, 0, none⟩) hz4).trans p0, (hX.cell (p := ⟨w.heap.size, 1, none⟩) hz4).trans p1, (hX.cell (p := ⟨w.heap.size, 2, none⟩) hz4).trans p2,
         (hX.cell (p := ⟨w.heap.size + 1, 0, none⟩) hz3').trans q0, (hX.cell (p := ⟨w.heap.size + 1, 1, none⟩) hz3').trans q1, (hX.cell (p := ⟨w.heap.size + 1, 2, none⟩) hz3').trans q2,
         (hX.cell (p := ⟨w2.heap.size, 0, none⟩) hz3).trans z0, (hX.cell (p := ⟨w2.heap.size, 1, none⟩) hz3).trans z1, (hX.cell (p := ⟨w2.heap.size, 2, none⟩) hz3).trans z2, hX⟩
      go_upto_region 7 with fail
      go_region_held3 (fun w' => w'.cell? ⟨w.heap.size, 0, none⟩ = some (.int .i64 (a : Int)) ∧ w'.cell? ⟨w.heap.size, 1, none⟩ = some (.int .i64 (d : Int)) ∧ w'.cell? ⟨w.heap.size, 2, none⟩ = some (.string T') ∧ w'.cell? ⟨w.heap.size + 1, 0, none⟩ = some (.int .i64 (b : Int)) ∧ w'.cell? ⟨w.heap.size + 1, 1, none⟩ = some (.int .i64 (e' : Int)) ∧ w'.cell? ⟨w.heap.size + 1, 2, none⟩ = some (.string U') ∧ w'.cell? ⟨w2.heap.size, 0, none⟩ = some (.int .i64 (x : Int)) ∧ w'.cell? ⟨w2.heap.size, 1, none⟩ = some (.int .i64 (y : Int)) ∧ w'.cell? ⟨w2.heap.size, 2, none⟩ = some (.string S) ∧ Below w3.heap.size w3 w')
        (first | exact keepS _ hX | exact keepS _ (bel_drew (Below.refl _ _)))
        (first
          | (go_at_call 10; refine (C2'.out _).mono ?_; rintro e w' ⟨rfl, hb⟩; have hX : Below w3.heap.size w3 w' := (by first | exact bel_then (show Below w3.heap.size w3 _ by assumption) hb | exact bel_then (bel_drew (Below.refl _ _)) hb)))
      have hb05 := bel_then hb04 hX
      obtain ⟨p0', p1', p2', q0', q1', q2', z0', z1', z2', _⟩ := keepS _ hX
      clear keepS hX p0 p1 p2 q0 q1 q2 z0 z1 z2 hb04 hz3 hz3' hz4 C1' C2'
      rcases hm1 : mayB (a : Int) (d : Int) (t'.size : Int) with _ | _
      · have HM1 := Lib.hid hm1
        clear hm1
        go_wp2_with fail
        refine (rmay_any a d t'.size T' _ (by omega) (by omega)).mono ?_
        rw [HM1.out]
        rintro e w5 ⟨rfl, hb5⟩
        go_wp2_with fail
        go_ret
        exact ⟨rfl, bel_then hb05 hb5⟩
      · have g1 : a + d ≤ t'.size := by
          have := hm1
          simp only [mayB, decide_eq_true_eq] at this
          omega
        have kx := apply_size t' a d T' g1
        obtain ⟨X, hX'⟩ : ∃ X, X = applyB t' a d T' := ⟨_, rfl⟩
        have L1 := L1'.out g1
        have L2 := L2'.out g1
        rw [← hX'] at kx L1 L2
        have kX : X.size ≤ 200 := by omega
        have HM1 := Lib.hid hm1
        have HX := Lib.hid hX'
        have M1 := Lib.hid L1
        have M2 := Lib.hid L2
        clear hm1 hX' L1 L2 L1' L2' kx g1
        go_wp2_with fail
        refine (rmay_any a d t'.size T' _ (by omega) (by omega)).mono ?_
        rw [HM1.out]
        rintro e w5 ⟨rfl, hb5⟩
        have p0 := cell_below hb5 p0'
        have p1 := cell_below hb5 p1'
        have p2 := cell_below hb5 p2'
        have q0 := cell_below hb5 q0'
        have q1 := cell_below hb5 q1'
        have q2 := cell_below hb5 q2'
        have z0 := cell_below hb5 z0'
        have z1 := cell_below hb5 z1'
        have z2 := cell_below hb5 z2'
        have hb06 := bel_then hb05 hb5
        clear p0' p1' p2' q0' q1' q2' z0' z1' z2' hb05 hb5
        go_wp2_with fail
        refine (rapply_any t' a d T' _ (by omega) (by omega) HM1.out).mono ?_
        rw [← HX.out]
        rintro e w6 ⟨rfl, hb6⟩
        have q0' := cell_below hb6 q0
        have q1' := cell_below hb6 q1
        have q2' := cell_below hb6 q2
        have z0' := cell_below hb6 z0
        have z1' := cell_below hb6 z1
        have z2' := cell_below hb6 z2
        have hb07 := bel_then hb06 hb6
        clear p0 p1 p2 q0 q1 q2 z0 z1 z2 hb06 hb6
        rcases hm2 : mayB (b : Int) (e' : Int) (X.size : Int) with _ | _
        · have HM2 := Lib.hid hm2
          clear hm2
          go_wp2_with fail
          refine (rmay_any b e' X.size U' _ (by omega) (by omega)).mono ?_
          rw [HM2.out]
          rintro e w7 ⟨rfl, hb7⟩
          go_wp2_with fail
          go_ret
          exact ⟨rfl, bel_then hb07 hb7⟩
        · have g2 : b + e' ≤ X.size := by
            have := hm2
            simp only [mayB, decide_eq_true_eq] at this
            omega
          have E1 := M1.out g2
          have E2 := M2.out g2
          obtain ⟨R, hR⟩ : ∃ R, R = applyB X b e' U' := ⟨_, rfl⟩
          rw [← hR] at E1
          have HM2 := Lib.hid hm2
          have HR := Lib.hid hR
          have HE1 := Lib.hid E1
          have HE2 := Lib.hid E2
          clear hm2 hR E1 E2 M1 M2 g2
          go_wp2_with fail
          refine (rmay_any b e' X.size U' _ (by omega) (by omega)).mono ?_
          rw [HM2.out]
          rintro e w7 ⟨rfl, hb7⟩
          have q0 := cell_below hb7 q0'
          have q1 := cell_below hb7 q1'
          have q2 := cell_below hb7 q2'
          have z0 := cell_below hb7 z0'
          have z1 := cell_below hb7 z1'
          have z2 := cell_below hb7 z2'
          have hb08 := bel_then hb07 hb7
          clear q0' q1' q2' z0' z1' z2' hb07 hb7
          go_wp2_with fail
          refine (apply_yes t' x y S _ (by omega) (by omega) HE2.out).mono ?_
          rw [HE1.out]
          rintro e w8 ⟨rfl, hb8⟩
          have q0' := cell_below hb8 q0
          have q1' := cell_below hb8 q1
          have q2' := cell_below hb8 q2
          have hb09 := bel_then hb08 hb8
          clear q0 q1 q2 z0 z1 z2 hb08 hb8
          go_wp2_with fail
          refine (rapply_any X b e' U' _ (by omega) (by omega) HM2.out).mono ?_
          rw [← HR.out]
          rintro e w9 ⟨rfl, hb9⟩
          go_wp2_with fail
          go_ret
          exact ⟨rfl, bel_then hb09 hb9⟩

theorem editThen_any (t : ByteArray) (A D : Int) (T : ByteArray) (B E : Int) (U : ByteArray) (w : World) (ht : t.size ≤ 140737488351232) (hT : T.size ≤ 140737488351232) (hU : U.size ≤ 140737488351232) :
    Calls Try.prog 3 #[.string t, .agg #[.int .i64 A, .int .i64 D, .string T], .agg #[.int .i64 B, .int .i64 E, .string U]] w fun e w' => e = .returned (.bool true) ∧ Below w.heap.size w w' :=
  then_walk awake_any t A D T B E U w ht hT hU
end Go.Proofs.Ythdlgkpicgilhaa
