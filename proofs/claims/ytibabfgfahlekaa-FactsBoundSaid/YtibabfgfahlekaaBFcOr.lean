/- Pruned from its seat's text: what the theorem hangs on. -/
import Derived.Test.YtibabfgfahlekaaBFc3
/- The walks of package facts: or. -/
set_option linter.unusedVariables false
set_option linter.unusedSimpArgs false
namespace Go.Proofs.Ytibabfgfahlekaa
open Go.RowKit Go.Proofs.Bs

set_option maxRecDepth 100000 in
set_option maxHeartbeats 6400000 in
theorem for_any (a b : Fa) (w : World) (ha : a.ok) (hb : b.ok) : Calls Try.prog 48 #[a.v, b.v] w fun e w' => e = .returned (faOr a b).v ∧ Below w.heap.size w w' := by
  have hna : a.never = true → (faOr a b).v = b.v := fun h => by unfold faOr; rw [if_pos h]
  have hnb : a.never = false → b.never = true → (faOr a b).v = a.v := fun h h2 => by unfold faOr; rw [if_neg (by rw [h]; simp), if_pos h2]
  have hyes : a.never = false → b.never = false → (faOr a b).v = .agg #[.bool false, .int .i64 (min a.least b.least), .int .i64 (if a.most < 0 ∨ b.most < 0 then -1 else max a.most b.most), .int .u64 (Bs.or a.first b.first).a, .int .u64 (Bs.or a.first b.first).b, .int .u64 (Bs.or a.first b.first).c, .int .u64 (Bs.or a.first b.first).d, .bool false] := fun h1 h2 => by unfold faOr; rw [if_neg (by rw [h1]; simp), if_neg (by rw [h2]; simp)]; rfl
  have hbox := boxed w a b 31
  generalize (faOr a b).v = R at *
  obtain ⟨an, al, am, ⟨a0, a1, a2, a3⟩, ae⟩ := a
  obtain ⟨bn, bl, bm, ⟨b0, b1, b2, b3⟩, be⟩ := b
  obtain ⟨p1, p2, p3, p4, p5⟩ := ha
  obtain ⟨q1, q2, q3, q4, q5⟩ := hb
  simp only at p1 p2 p3 p4 q1 q2 q3 q4 hna hnb hyes hbox p5 q5
  have HP := Lib.hid p5
  have HQ := Lib.hid q5
  have HN := Lib.hid hna
  have HM := Lib.hid hnb
  have HY := Lib.hid hyes
  have HBX := Lib.hid hbox
  clear p5 q5 hna hnb hyes hbox
  simp only [Fa.v]
  cases an
  case true =>
    have HR := HN.out rfl
    simp only [Fa.v] at HR
    go_enter Try.func48, Try.ntmps48
    go_wp2_with fail
    refine bodyPost_ret (v := _) (by simp [results, Try.results48, go_sem]) rfl ⟨rfl, ?_⟩
    repeat (first | with_reducible exact Below.refl _ _ | with_reducible assumption | with_reducible refine bel_drew ?_ | with_reducible refine bel_alloc ?_ _ | with_reducible refine bel_setb ?_ (by omega) _)
  cases bn
  case true =>
    have HR := HM.out rfl rfl
    simp only [Fa.v] at HR
    go_enter Try.func48, Try.ntmps48
    go_wp2_with fail
    refine bodyPost_ret (v := _) (by simp [results, Try.results48, go_sem]) rfl ⟨rfl, ?_⟩
    repeat (first | with_reducible exact Below.refl _ _ | with_reducible assumption | with_reducible refine bel_drew ?_ | with_reducible refine bel_alloc ?_ _ | with_reducible refine bel_setb ?_ (by omega) _)
  have HR := HY.out rfl rfl
  have hmin : (if bl < al then bl else al) = min al bl := by omega
  have hmax : (if am < bm then bm else am) = max am bm := by omega
  clear HY HN HM
  go_enter Try.func48, Try.ntmps48
  go_upto_region 5 with fail
  have hb0 : Below w.heap.size w (((w.alloc (.cells #[.bool false, .int .i64 al, .int .i64 am, .int .u64 a0, .int .u64 a1, .int .u64 a2, .int .u64 a3, .bool ae] 31)).alloc (.cells #[.bool false, .int .i64 bl, .int .i64 bm, .int .u64 b0, .int .u64 b1, .int .u64 b2, .int .u64 b3, .bool be] 31)).alloc (.cells #[.bool false, .int .i64 0, .int .i64 0, .int .u64 0, .int .u64 0, .int .u64 0, .int .u64 0, .bool false] 31)) := bel_alloc (bel_alloc (bel_alloc (Below.refl _ _) _) _) _
  have hbx := HBX.out
  clear HBX
  generalize (((w.alloc (.cells #[.bool false, .int .i64 al, .int .i64 am, .int .u64 a0, .int .u64 a1, .int .u64 a2, .int .u64 a3, .bool ae] 31)).alloc (.cells #[.bool false, .int .i64 bl, .int .i64 bm, .int .u64 b0, .int .u64 b1, .int .u64 b2, .int .u64 b3, .bool be] 31)).alloc (.cells #[.bool false, .int .i64 0, .int .i64 0, .int .u64 0, .int .u64 0, .int .u64 0, .int .u64 0, .bool false] 31)) = W0 at *
  obtain ⟨⟨c0, c1, c2, c3, c4, c5, c6, c7⟩, ⟨d0, d1, d2, d3, d4, d5, d6, d7⟩, hzero, fz, hz⟩ := hbx
  simp only at c0 c1 c2 c3 c4 c5 c6 c7 d0 d1 d2 d3 d4 d5 d6 d7
  go_cut [5] (fun s5 wx => ∃ p : Nat, s5 = .pointer (some ⟨p, 0, none⟩) ∧ W0.heap.size ≤ p ∧ Lies wx p ⟨false, min al bl, max am bm, Bs.or ⟨a0, a1, a2, a3⟩ ⟨b0, b1, b2, b3⟩, false⟩ ∧ (∀ j, wx.frozen? ⟨p, j, none⟩ = false) ∧ p < wx.heap.size ∧ Below W0.heap.size W0 wx)
  case first =>
    have keepS : ∀ w', Below W0.heap.size W0 w' → (w'.cell? ⟨w.heap.size, 0, none⟩ = some (.bool false) ∧ w'.cell? ⟨w.heap.size, 1, none⟩ = some (.int .i64 al) ∧ w'.cell? ⟨w.heap.size, 2, none⟩ = some (.int .i64 am) ∧ w'.cell? ⟨w.heap.size, 3, none⟩ = some (.int .u64 (a0 : Int)) ∧ w'.cell? ⟨w.heap.size, 4, none⟩ = some (.int .u64 (a1 : Int)) ∧ w'.cell? ⟨w.heap.size, 5, none⟩ = some (.int .u64 (a2 : Int)) ∧ w'.cell? ⟨w.heap.size, 6, none⟩ = some (.int .u64 (a3 : Int)) ∧ w'.cell? ⟨w.heap.size, 7, none⟩ = some (.bool ae) ∧ w'.cell? ⟨w.heap.size + 1, 0, none⟩ = some (.bool false) ∧ w'.cell? ⟨w.heap.size + 1, 1, none⟩ = some (.int .i64 bl) ∧ w'.cell? ⟨w.heap.size + 1, 2, none⟩ = some (.int .i64 bm) ∧ w'.cell? ⟨w.heap.size + 1, 3, none⟩ = some (.int .u64 (b0 : Int)) ∧ w'.cell? ⟨w.heap.size + 1, 4, none⟩ = some (.int .u64 (b1 : Int)) ∧ w'.cell? ⟨w.heap.size + 1, 5, none⟩ = some (.int .u64 (b2 : Int)) ∧ w'.cell? ⟨w.heap.size + 1, 6, none⟩ = some (.int .u64 (b3 : Int)) ∧ w'.cell? ⟨w.heap.size + 1, 7, none⟩ = some (.bool be)) := fun w' hX => ⟨cell_below hX c0, cell_below hX c1, cell_below hX c2, cell_below hX c3, cell_below hX c4, cell_below hX c5, cell_below hX c6, cell_below hX c7, cell_below hX d0, cell_below hX d1, cell_below hX d2, cell_below hX d3, cell_below hX d4, cell_below hX d5, cell_below hX d6, cell_below hX d7⟩
    refine wp_region_noPanic ?_
    refine wp_region_held_drew (S := fun w' => w'.cell? ⟨w.heap.size, 0, none⟩ = some (.bool false) ∧ w'.cell? ⟨w.heap.size, 1, none⟩ = some (.int .i64 al) ∧ w'.cell? ⟨w.heap.size, 2, none⟩ = some (.int .i64 am) ∧ w'.cell? ⟨w.heap.size, 3, none⟩ = some (.int .u64 (a0 : Int)) ∧ w'.cell? ⟨w.heap.size, 4, none⟩ = some (.int .u64 (a1 : Int)) ∧ w'.cell? ⟨w.heap.size, 5, none⟩ = some (.int .u64 (a2 : Int)) ∧ w'.cell? ⟨w.heap.size, 6, none⟩ = some (.int .u64 (a3 : Int)) ∧ w'.cell? ⟨w.heap.size, 7, none⟩ = some (.bool ae) ∧ w'.cell? ⟨w.heap.size + 1, 0, none⟩ = some (.bool false) ∧ w'.cell? ⟨w.heap.size + 1, 1, none⟩ = some (.int .i64 bl) ∧ w'.cell? ⟨w.heap.size + 1, 2, none⟩ = some (.int .i64 bm) ∧ w'.cell? ⟨w.heap.size + 1, 3, none⟩ = some (.int .u64 (b0 : Int)) ∧ w'.cell? ⟨w.heap.size + 1, 4, none⟩ = some (.int .u64 (b1 : Int)) ∧ w'.cell? ⟨w.heap.size + 1, 5, none⟩ = some (.int .u64 (b2 : Int)) ∧ w'.cell? ⟨w.heap.size + 1, 6, none⟩ = some (.int .u64 (b3 : Int)) ∧ w'.cell? ⟨w.heap.size + 1, 7, none⟩ = some (.bool be)) (by kernel_rfl) (keepS _ (bel_drew (Below.refl _ _))) (fun hHeld => ?_)
    refine wpAnyH_take (i := 0) (v := ?_) rfl (by kernel_rfl) (by kernel_rfl) (by kernel_rfl) (fun _ _ _ h => h) (Or.inl ⟨by kernel_rfl, ?_⟩) (by assumption) ?_
    rotate_left
    · intro w hSw
      try dsimp only at hSw
      go_simp
      try with_reducible rfl
    try simp only [List.getElem_toArray, List.getElem_cons_zero, List.getElem_cons_succ, Act.put, List.setIfInBounds_toArray, List.set_cons_zero, List.set_cons_succ]
    refine wpAnyH_take (i := 1) (v := ?_) rfl (by kernel_rfl) (by kernel_rfl) (by kernel_rfl) (fun _ _ _ h => h) (Or.inl ⟨by kernel_rfl, ?_⟩) (by assumption) ?_
    rotate_left
    · intro w hSw
      try dsimp only at hSw
      go_simp
      try with_reducible rfl
    try simp only [List.getElem_toArray, List.getElem_cons_zero, List.getElem_cons_succ, Act.put, List.setIfInBounds_toArray, List.set_cons_zero, List.set_cons_succ]
    refine wpAnyH_take (i := 2) (v := ?_) rfl (by kernel_rfl) (by kernel_rfl) (by kernel_rfl) (fun _ _ _ h => h) (Or.inl ⟨by kernel_rfl, ?_⟩) (by assumption) ?_
    rotate_left
    · intro w hSw
      try dsimp only at hSw
      go_simp
      try with_reducible rfl
    try simp only [List.getElem_toArray, List.getElem_cons_zero, List.getElem_cons_succ, Act.put, List.setIfInBounds_toArray, List.set_cons_zero, List.set_cons_succ]
    refine wpAnyH_take (i := 3) (v := ?_) rfl (by kernel_rfl) (by kernel_rfl) (by kernel_rfl) (fun _ _ _ h => h) (Or.inl ⟨by kernel_rfl, ?_⟩) (by assumption) ?_
    rotate_left
    · intro w hSw
      try dsimp only at hSw
      go_simp
      try with_reducible rfl
    try simp only [List.getElem_toArray, List.getElem_cons_zero, List.getElem_cons_succ, Act.put, List.setIfInBounds_toArray, List.set_cons_zero, List.set_cons_succ]
    refine wpAnyH_take (i := 4) (v := ?_) rfl (by kernel_rfl) (by kernel_rfl) (by kernel_rfl) (fun _ _ _ h => h) (Or.inl ⟨by kernel_rfl, ?_⟩) (by assumption) ?_
    rotate_left
    · intro w hSw
      try dsimp only at hSw
      go_simp
      try with_reducible rfl
    try simp only [List.getElem_toArray, List.getElem_cons_zero, List.getElem_cons_succ, Act.put, List.setIfInBounds_toArray, List.set_cons_zero, List.set_cons_succ]
    refine wpAnyH_take (i := 5) (v := ?_) rfl (by kernel_rfl) (by kernel_rfl) (by kernel_rfl) (fun _ _ _ h => h) (Or.inl ⟨by kernel_rfl, ?_⟩) (by assumption) ?_
    rotate_left
    · intro w hSw
      try dsimp only at hSw
      go_simp
      try with_reducible rfl
    try simp only [List.getElem_toArray, List.getElem_cons_zero, List.getElem_cons_succ, Act.put, List.setIfInBounds_toArray, List.set_cons_zero, List.set_cons_succ]
    refine wpAnyH_take (i := 6) (v := ?_) rfl (by kernel_rfl) (by kernel_rfl) (by kernel_rfl) (fun _ _ _ h => h) (Or.inl ⟨by kernel_rfl, ?_⟩) (by assumption) ?_
    rotate_left
    · intro w hSw
      try dsimp only at hSw
      go_simp
      try with_reducible rfl
    try simp only [List.getElem_toArray, List.getElem_cons_zero, List.getElem_cons_succ, Act.put, List.setIfInBounds_toArray, List.set_cons_zero, List.set_cons_succ]
    refine wpAnyH_take (i := 7) (v := ?_) rfl (by kernel_rfl) (by kernel_rfl) (by kernel_rfl) (fun _ _ _ h => h) (Or.inl ⟨by kernel_rfl, ?_⟩) (by assumption) ?_
    rotate_left
    · intro w hSw
      try dsimp only at hSw
      go_simp
      try with_reducible rfl
    try simp only [List.getElem_toArray, List.getElem_cons_zero, List.getElem_cons_succ, Act.put, List.setIfInBounds_toArray, List.set_cons_zero, List.set_cons_succ]
    refine wpAnyH_take (i := 8) (v := ?_) rfl (by kernel_rfl) (by kernel_rfl) (by kernel_rfl) (fun _ _ _ h => h) (Or.inl ⟨by kernel_rfl, ?_⟩) (by assumption) ?_
    rotate_left
    · intro w hSw
      try dsimp only at hSw
      go_simp
      try with_reducible rfl
    try simp only [List.getElem_toArray, List.getElem_cons_zero, List.getElem_cons_succ, Act.put, List.setIfInBounds_toArray, List.set_cons_zero, List.set_cons_succ]
    refine wpAnyH_take (i := 9) (v := ?_) rfl (by kernel_rfl) (by kernel_rfl) (by kernel_rfl) (fun _ _ _ h => h) (Or.inl ⟨by kernel_rfl, ?_⟩) (by assumption) ?_
    rotate_left
    · intro w hSw
      try dsimp only at hSw
      go_simp
      try with_reducible rfl
    try simp only [List.getElem_toArray, List.getElem_cons_zero, List.getElem_cons_succ, Act.put, List.setIfInBounds_toArray, List.set_cons_zero, List.set_cons_succ]
    refine wpAnyH_take (i := 10) (v := ?_) rfl (by kernel_rfl) (by kernel_rfl) (by kernel_rfl) (fun _ _ _ h => h) (Or.inl ⟨by kernel_rfl, ?_⟩) (by assumption) ?_
    rotate_left
    · intro w hSw
      try dsimp only at hSw
      go_simp
      try with_reducible rfl
    try simp only [List.getElem_toArray, List.getElem_cons_zero, List.getElem_cons_succ, Act.put, List.setIfInBounds_toArray, List.set_cons_zero, List.set_cons_succ]
    refine wpAnyH_take (i := 11) (v := ?_) rfl (by kernel_rfl) (by kernel_rfl) (by kernel_rfl) (fun _ _ _ h => h) (Or.inl ⟨by kernel_rfl, ?_⟩) (by assumption) ?_
    rotate_left
    · intro w hSw
      try dsimp only at hSw
      go_simp
      try with_reducible rfl
    try simp only [List.getElem_toArray, List.getElem_cons_zero, List.getElem_cons_succ, Act.put, List.setIfInBounds_toArray, List.set_cons_zero, List.set_cons_succ]
    refine wpAnyH_take (i := 12) (v := ?_) rfl (by kernel_rfl) (by kernel_rfl) (by kernel_rfl) (fun _ _ _ h => h) (Or.inl ⟨by kernel_rfl, ?_⟩) (by assumption) ?_
    rotate_left
    · intro w hSw
      try dsimp only at hSw
      go_simp
      try with_reducible rfl
    try simp only [List.getElem_toArray, List.getElem_cons_zero, List.getElem_cons_succ, Act.put, List.setIfInBounds_toArray, List.set_cons_zero, List.set_cons_succ]
    refine wpAnyH_take (i := 13) (v := ?_) rfl (by kernel_rfl) (by kernel_rfl) (by kernel_rfl) (fun _ _ _ h => h) (Or.inl ⟨by kernel_rfl, ?_⟩) (by assumption) ?_
    rotate_left
    · intro w hSw
      try dsimp only at hSw
      go_simp
      try with_reducible rfl
    try simp only [List.getElem_toArray, List.getElem_cons_zero, List.getElem_cons_succ, Act.put, List.setIfInBounds_toArray, List.set_cons_zero, List.set_cons_succ]
    refine wpAnyH_ready (rs := [14, 16]) (by kernel_rfl) (by simp) ?_
    refine AllReadyH.cons rfl (fun K hK => ?_) (AllReadyH.cons rfl (fun K hK => ?_) AllReadyH.nil)
    · go_simp
      refine (or_any ⟨a0, a1, a2, a3⟩ ⟨b0, b1, b2, b3⟩ _ HP.out HQ.out).mono ?_
      rintro e w' ⟨rfl, hb⟩
      have hX14 : Below W0.heap.size W0 w' := by
        refine bel_then ?_ hb
        repeat (first | with_reducible exact Below.refl _ _ | with_reducible assumption | with_reducible refine bel_drew ?_ | with_reducible refine bel_alloc ?_ _ | with_reducible refine bel_setb ?_ (by omega) _)
      clear hb
      refine hK.out _ _ (keepS _ hX14) (fun hHeld => ?_)
      clear hK K
      try simp only [List.getElem_toArray, List.getElem_cons_zero, List.getElem_cons_succ, Act.put, List.setIfInBounds_toArray, List.set_cons_zero, List.set_cons_succ]
      refine wpAnyH_take (i := 15) (v := ?_) rfl (by kernel_rfl) (by kernel_rfl) (by kernel_rfl) (fun _ _ _ h => h) (Or.inl ⟨by kernel_rfl, ?_⟩) (by assumption) ?_
      rotate_left
      · intro w hSw
        try dsimp only at hSw
        go_simp
        try with_reducible rfl
      try simp only [List.getElem_toArray, List.getElem_cons_zero, List.getElem_cons_succ, Act.put, List.setIfInBounds_toArray, List.set_cons_zero, List.set_cons_succ]
      refine wpAnyH_ready (rs := [16]) (by kernel_rfl) (by simp) ?_
      refine AllReadyH.cons rfl (fun K hK => ?_) AllReadyH.nil
      go_simp
      refine hK.out _ _ ?_ (fun hHeld => ?_)
      · refine keepS _ ?_
        repeat (first | with_reducible exact Below.refl _ _ | with_reducible assumption | with_reducible refine bel_drew ?_ | with_reducible refine bel_alloc ?_ _ | with_reducible refine bel_setb ?_ (by omega) _)
      clear hK K
      try simp only [List.getElem_toArray, List.getElem_cons_zero, List.getElem_cons_succ, Act.put, List.setIfInBounds_toArray, List.set_cons_zero, List.set_cons_succ]
      refine wpAnyH_ready (rs := [17]) (by kernel_rfl) (by simp) ?_
      refine AllReadyH.cons rfl (fun K hK => ?_) AllReadyH.nil
      go_simp
      refine hK.out _ _ ?_ (fun hHeld => ?_)
      · refine keepS _ ?_
        repeat (first | with_reducible exact Below.refl _ _ | with_reducible assumption | with_reducible refine bel_drew ?_ | with_reducible refine bel_alloc ?_ _ | with_reducible refine bel_setb ?_ (by omega) _)
      clear hK K
      try simp only [List.getElem_toArray, List.getElem_cons_zero, List.getElem_cons_succ, Act.put, List.setIfInBounds_toArray, List.set_cons_zero, List.set_cons_succ]
      refine wpAnyH_done (by kernel_rfl) ?_ _
      refine NoPanic.normal ?_
      clear hHeld keepS
      obtain ⟨s1, s2, s3⟩ := stored1 w' 31 ⟨false, min al bl, max am bm, Bs.or ⟨a0, a1, a2, a3⟩ ⟨b0, b1, b2, b3⟩, false⟩
      have hzz := hX14.size
      go_wp2_with fail
      go_meet
      refine ⟨w'.heap.size, rfl, by omega, s1, s2, s3, ?_⟩
      repeat (first | with_reducible exact Below.refl _ _ | with_reducible assumption | with_reducible refine bel_drew ?_ | with_reducible refine bel_alloc ?_ _ | with_reducible refine bel_setb ?_ (by omega) _)
    · go_simp
      refine hK.out _ _ ?_ (fun hHeld => ?_)
      · refine keepS _ ?_
        repeat (first | with_reducible exact Below.refl _ _ | with_reducible assumption | with_reducible refine bel_drew ?_ | with_reducible refine bel_alloc ?_ _ | with_reducible refine bel_setb ?_ (by omega) _)
      clear hK K
      try simp only [List.getElem_toArray, List.getElem_cons_zero, List.getElem_cons_succ, Act.put, List.setIfInBounds_toArray, List.set_cons_zero, List.set_cons_succ]
      refine wpAnyH_ready (rs := [14]) (by kernel_rfl) (by simp) ?_
      refine AllReadyH.cons rfl (fun K hK => ?_) AllReadyH.nil
      go_simp
      refine (or_any ⟨a0, a1, a2, a3⟩ ⟨b0, b1, b2, b3⟩ _ HP.out HQ.out).mono ?_
      rintro e w' ⟨rfl, hb⟩
      have hX14 : Below W0.heap.size W0 w' := by
        refine bel_then ?_ hb
        repeat (first | with_reducible exact Below.refl _ _ | with_reducible assumption | with_reducible refine bel_drew ?_ | with_reducible refine bel_alloc ?_ _ | with_reducible refine bel_setb ?_ (by omega) _)
      have g0 : w'.cell? ⟨W0.heap.size, 0, none⟩ = some (.bool false) := (hb.cell (p := ⟨W0.heap.size, 0, none⟩) (by simp)).trans (by go_simp)
      have g1 : w'.cell? ⟨W0.heap.size, 1, none⟩ = some (.int .i64 0) := (hb.cell (p := ⟨W0.heap.size, 1, none⟩) (by simp)).trans (by go_simp)
      have g2 : w'.cell? ⟨W0.heap.size, 2, none⟩ = some (.int .i64 0) := (hb.cell (p := ⟨W0.heap.size, 2, none⟩) (by simp)).trans (by go_simp)
      have g3 : w'.cell? ⟨W0.heap.size, 3, none⟩ = some (.int .u64 0) := (hb.cell (p := ⟨W0.heap.size, 3, none⟩) (by simp)).trans (by go_simp)
      have g4 : w'.cell? ⟨W0.heap.size, 4, none⟩ = some (.int .u64 0) := (hb.cell (p := ⟨W0.heap.size, 4, none⟩) (by simp)).trans (by go_simp)
      have g5 : w'.cell? ⟨W0.heap.size, 5, none⟩ = some (.int .u64 0) := (hb.cell (p := ⟨W0.heap.size, 5, none⟩) (by simp)).trans (by go_simp)
      have g6 : w'.cell? ⟨W0.heap.size, 6, none⟩ = some (.int .u64 0) := (hb.cell (p := ⟨W0.heap.size, 6, none⟩) (by simp)).trans (by go_simp)
      have g7 : w'.cell? ⟨W0.heap.size, 7, none⟩ = some (.bool false) := (hb.cell (p := ⟨W0.heap.size, 7, none⟩) (by simp)).trans (by go_simp)
      have gf : ∀ j, w'.frozen? ⟨W0.heap.size, j, none⟩ = false := fun j => (hb.frozen (p := ⟨W0.heap.size, j, none⟩) (by simp)).trans (by go_simp)
      have gz : W0.heap.size < w'.heap.size := Nat.lt_of_lt_of_le (by simp) hb.size
      clear hb
      refine hK.out _ _ (keepS _ hX14) (fun hHeld => ?_)
      clear hK K
      try simp only [List.getElem_toArray, List.getElem_cons_zero, List.getElem_cons_succ, Act.put, List.setIfInBounds_toArray, List.set_cons_zero, List.set_cons_succ]
      refine wpAnyH_take (i := 15) (v := ?_) rfl (by kernel_rfl) (by kernel_rfl) (by kernel_rfl) (fun _ _ _ h => h) (Or.inl ⟨by kernel_rfl, ?_⟩) (by assumption) ?_
      rotate_left
      · intro w hSw
        try dsimp only at hSw
        go_simp
        try with_reducible rfl
      try simp only [List.getElem_toArray, List.getElem_cons_zero, List.getElem_cons_succ, Act.put, List.setIfInBounds_toArray, List.set_cons_zero, List.set_cons_succ]
      refine wpAnyH_ready (rs := [17]) (by kernel_rfl) (by simp) ?_
      refine AllReadyH.cons rfl (fun K hK => ?_) AllReadyH.nil
      go_simp
      refine hK.out _ _ ?_ (fun hHeld => ?_)
      · refine keepS _ ?_
        repeat (first | with_reducible exact Below.refl _ _ | with_reducible assumption | with_reducible refine bel_drew ?_ | with_reducible refine bel_alloc ?_ _ | with_reducible refine bel_setb ?_ (by omega) _)
      clear hK K
      try simp only [List.getElem_toArray, List.getElem_cons_zero, List.getElem_cons_succ, Act.put, List.setIfInBounds_toArray, List.set_cons_zero, List.set_cons_succ]
      refine wpAnyH_done (by kernel_rfl) ?_ _
      refine NoPanic.normal ?_
      clear hHeld keepS
      go_wp2_with fail
      go_meet
      refine ⟨W0.heap.size, rfl, by omega, ⟨by go_simp, by go_simp, by go_simp, by go_simp, by go_simp, by go_simp, by go_simp, by go_simp⟩, fun j => by go_simp, by simpa using gz, ?_⟩
      repeat (first | with_reducible exact Below.refl _ _ | with_reducible assumption | with_reducible refine bel_drew ?_ | with_reducible refine bel_alloc ?_ _ | with_reducible refine bel_setb ?_ (by omega) _)
  case rest =>
    obtain ⟨p, rfl, hp, ⟨r0, r1, r2, r3, r4, r5, r6, r7⟩, frz, hzx, hX⟩ := hcut
    simp only at r0 r1 r2 r3 r4 r5 r6 r7
    have hbX := bel_then hb0 hX
    obtain ⟨z0, z1, z2, z3, z4, z5, z6, z7⟩ := hzero.below hX
    have x2 := cell_below hX c2
    have y2 := cell_below hX d2
    have fzx := fun (j : Nat) => (hX.frozen (p := ⟨w.heap.size + 1 + 1, j, none⟩) hz).trans (fz j)
    simp only [Fa.zero, S.zero] at z0 z1 z2 z3 z4 z5 z6 z7
    have hne : w.heap.size + 1 + 1 ≠ p := by omega
    have hne' : p ≠ w.heap.size + 1 + 1 := by omega
    have hle : w.heap.size ≤ p := by omega
    clear c0 c1 c2 c3 c4 c5 c6 c7 d0 d1 d2 d3 d4 d5 d6 d7 hzero hb0 hX fz hmin hmax
    by_cases h0 : am < 0
    · rw [if_pos (.inl h0)] at HR
      go_wp2_with fail
      refine bodyPost_ret (v := R) (by rw [HR]; simp [results, Try.results48, go_sem, z0, z1, z2, z3, z4, z5, z6, z7, frz, fzx, hne, hne']) rfl ⟨(by first | rfl | rw [HR]), ?_⟩
      repeat (first | with_reducible exact Below.refl _ _ | with_reducible assumption | with_reducible refine bel_drew ?_ | with_reducible refine bel_alloc ?_ _ | with_reducible refine bel_setb ?_ (by omega) _)
    · by_cases h1 : bm < 0
      · rw [if_pos (.inr h1)] at HR
        go_wp2_with fail
        refine bodyPost_ret (v := R) (by rw [HR]; simp [results, Try.results48, go_sem, z0, z1, z2, z3, z4, z5, z6, z7, frz, fzx, hne, hne']) rfl ⟨(by first | rfl | rw [HR]), ?_⟩
        repeat (first | with_reducible exact Below.refl _ _ | with_reducible assumption | with_reducible refine bel_drew ?_ | with_reducible refine bel_alloc ?_ _ | with_reducible refine bel_setb ?_ (by omega) _)
      · rw [if_neg (by omega)] at HR
        go_wp2_with fail
        refine bodyPost_ret (v := R) (by rw [HR]; simp [results, Try.results48, go_sem, z0, z1, z2, z3, z4, z5, z6, z7, frz, fzx, hne, hne']) rfl ⟨(by first | rfl | rw [HR]), ?_⟩
        repeat (first | with_reducible exact Below.refl _ _ | with_reducible assumption | with_reducible refine bel_drew ?_ | with_reducible refine bel_alloc ?_ _ | with_reducible refine bel_setb ?_ (by omega) _)
end Go.Proofs.Ytibabfgfahlekaa
