/- Pruned from its seat's text: what the theorem hangs on. -/
import Derived.Test.YtibabfgfahlekaaBFc1
import Derived.Deep.RegionHeld3
import Derived.KernelRfl
/- The walks of package facts: cat. -/
set_option linter.unusedVariables false
set_option linter.unusedSimpArgs false
namespace Go.Proofs.Ytibabfgfahlekaa
open Go.RowKit Go.Proofs.Bs

def Fa.v (a : Fa) : Value := .agg #[.bool a.never, .int .i64 a.least, .int .i64 a.most, .int .u64 a.first.a, .int .u64 a.first.b, .int .u64 a.first.c, .int .u64 a.first.d, .bool a.ends]
def Fa.ok (a : Fa) : Prop := 0 ≤ a.least ∧ a.least ≤ 1048576 ∧ -1 ≤ a.most ∧ a.most ≤ 1048576 ∧ a.first.wf

/-- What stands at a block of eight cells. -/
def Lies (w : World) (k : Nat) (a : Fa) : Prop :=
  w.cell? ⟨k, 0, none⟩ = some (.bool a.never) ∧ w.cell? ⟨k, 1, none⟩ = some (.int .i64 a.least) ∧ w.cell? ⟨k, 2, none⟩ = some (.int .i64 a.most) ∧
  w.cell? ⟨k, 3, none⟩ = some (.int .u64 a.first.a) ∧ w.cell? ⟨k, 4, none⟩ = some (.int .u64 a.first.b) ∧ w.cell? ⟨k, 5, none⟩ = some (.int .u64 a.first.c) ∧ w.cell? ⟨k, 6, none⟩ = some (.int .u64 a.first.d) ∧ w.cell? ⟨k, 7, none⟩ = some (.bool a.ends)
theorem Lies.below {w w' : World} {k : Nat} {a : Fa} (h : Lies w k a) (hb : Below w.heap.size w w') : Lies w' k a := by
  obtain ⟨h0, h1, h2, h3, h4, h5, h6, h7⟩ := h
  exact ⟨cell_below hb h0, cell_below hb h1, cell_below hb h2, cell_below hb h3, cell_below hb h4, cell_below hb h5, cell_below hb h6, cell_below hb h7⟩
theorem bel_setb {w W : World} (h : Below w.heap.size w W) {b o : Nat} (hp : w.heap.size ≤ b) (u : Value) : Below w.heap.size w (W.setCell ⟨b, o, none⟩ u) := h.setCell hp u
theorem boxed (w : World) (a b : Fa) (k : TypeId) : Lies (((w.alloc (.cells #[.bool a.never, .int .i64 a.least, .int .i64 a.most, .int .u64 a.first.a, .int .u64 a.first.b, .int .u64 a.first.c, .int .u64 a.first.d, .bool a.ends] k)).alloc (.cells #[.bool b.never, .int .i64 b.least, .int .i64 b.most, .int .u64 b.first.a, .int .u64 b.first.b, .int .u64 b.first.c, .int .u64 b.first.d, .bool b.ends] k)).alloc (.cells #[.bool false, .int .i64 0, .int .i64 0, .int .u64 0, .int .u64 0, .int .u64 0, .int .u64 0, .bool false] k)) w.heap.size a ∧
    Lies (((w.alloc (.cells #[.bool a.never, .int .i64 a.least, .int .i64 a.most, .int .u64 a.first.a, .int .u64 a.first.b, .int .u64 a.first.c, .int .u64 a.first.d, .bool a.ends] k)).alloc (.cells #[.bool b.never, .int .i64 b.least, .int .i64 b.most, .int .u64 b.first.a, .int .u64 b.first.b, .int .u64 b.first.c, .int .u64 b.first.d, .bool b.ends] k)).alloc (.cells #[.bool false, .int .i64 0, .int .i64 0, .int .u64 0, .int .u64 0, .int .u64 0, .int .u64 0, .bool false] k)) (w.heap.size + 1) b ∧
    Lies (((w.alloc (.cells #[.bool a.never, .int .i64 a.least, .int .i64 a.most, .int .u64 a.first.a, .int .u64 a.first.b, .int .u64 a.first.c, .int .u64 a.first.d, .bool a.ends] k)).alloc (.cells #[.bool b.never, .int .i64 b.least, .int .i64 b.most, .int .u64 b.first.a, .int .u64 b.first.b, .int .u64 b.first.c, .int .u64 b.first.d, .bool b.ends] k)).alloc (.cells #[.bool false, .int .i64 0, .int .i64 0, .int .u64 0, .int .u64 0, .int .u64 0, .int .u64 0, .bool false] k)) (w.heap.size + 1 + 1) Fa.zero ∧
    (∀ j, (((w.alloc (.cells #[.bool a.never, .int .i64 a.least, .int .i64 a.most, .int .u64 a.first.a, .int .u64 a.first.b, .int .u64 a.first.c, .int .u64 a.first.d, .bool a.ends] k)).alloc (.cells #[.bool b.never, .int .i64 b.least, .int .i64 b.most, .int .u64 b.first.a, .int .u64 b.first.b, .int .u64 b.first.c, .int .u64 b.first.d, .bool b.ends] k)).alloc (.cells #[.bool false, .int .i64 0, .int .i64 0, .int .u64 0, .int .u64 0, .int .u64 0, .int .u64 0, .bool false] k)).frozen? ⟨w.heap.size + 1 + 1, j, none⟩ = false) ∧
    w.heap.size + 1 + 1 < (((w.alloc (.cells #[.bool a.never, .int .i64 a.least, .int .i64 a.most, .int .u64 a.first.a, .int .u64 a.first.b, .int .u64 a.first.c, .int .u64 a.first.d, .bool a.ends] k)).alloc (.cells #[.bool b.never, .int .i64 b.least, .int .i64 b.most, .int .u64 b.first.a, .int .u64 b.first.b, .int .u64 b.first.c, .int .u64 b.first.d, .bool b.ends] k)).alloc (.cells #[.bool false, .int .i64 0, .int .i64 0, .int .u64 0, .int .u64 0, .int .u64 0, .int .u64 0, .bool false] k)).heap.size :=
  ⟨⟨by go_simp, by go_simp, by go_simp, by go_simp, by go_simp, by go_simp, by go_simp, by go_simp⟩, ⟨by go_simp, by go_simp, by go_simp, by go_simp, by go_simp, by go_simp, by go_simp, by go_simp⟩,
    ⟨by go_simp; rfl, by go_simp; rfl, by go_simp; rfl, by go_simp; rfl, by go_simp; rfl, by go_simp; rfl, by go_simp; rfl, by go_simp; rfl⟩, fun j => by go_simp, by simp⟩

theorem stored1 (W : World) (k : TypeId) (a : Fa) : Lies ((W.alloc (.cells #[.bool a.never, .int .i64 a.least, .int .i64 a.most, .int .u64 a.first.a, .int .u64 a.first.b, .int .u64 a.first.c, .int .u64 a.first.d, .bool a.ends] k)).drew) W.heap.size a ∧
    (∀ j, ((W.alloc (.cells #[.bool a.never, .int .i64 a.least, .int .i64 a.most, .int .u64 a.first.a, .int .u64 a.first.b, .int .u64 a.first.c, .int .u64 a.first.d, .bool a.ends] k)).drew).frozen? ⟨W.heap.size, j, none⟩ = false) ∧
    W.heap.size < ((W.alloc (.cells #[.bool a.never, .int .i64 a.least, .int .i64 a.most, .int .u64 a.first.a, .int .u64 a.first.b, .int .u64 a.first.c, .int .u64 a.first.d, .bool a.ends] k)).drew).heap.size :=
  ⟨⟨by go_simp, by go_simp, by go_simp, by go_simp, by go_simp, by go_simp, by go_simp, by go_simp⟩, fun j => by go_simp, by simp⟩

set_option maxRecDepth 100000 in
set_option maxHeartbeats 6400000 in
theorem cat_any (a b : Fa) (w : World) (ha : a.ok) (hb : b.ok) : Calls Try.prog 47 #[a.v, b.v] w fun e w' => e = .returned (faCat a b).v ∧ Below w.heap.size w w' := by
  have hnev : a.never = true ∨ b.never = true → (faCat a b).v = Fa.none_.v := fun h => by unfold faCat; rw [if_pos h]
  have hyes : a.never = false → b.never = false → a.least = 0 → (faCat a b).v = .agg #[.bool false, .int .i64 (min (a.least + b.least) 1048576), .int .i64 (upperI a.most b.most), .int .u64 (Bs.or a.first b.first).a, .int .u64 (Bs.or a.first b.first).b, .int .u64 (Bs.or a.first b.first).c, .int .u64 (Bs.or a.first b.first).d, .bool false] := fun h1 h2 h3 => by unfold faCat; rw [if_neg (by rw [h1, h2]; simp), if_pos h3]; rfl
  have hno : a.never = false → b.never = false → a.least ≠ 0 → (faCat a b).v = .agg #[.bool false, .int .i64 (min (a.least + b.least) 1048576), .int .i64 (upperI a.most b.most), .int .u64 a.first.a, .int .u64 a.first.b, .int .u64 a.first.c, .int .u64 a.first.d, .bool false] := fun h1 h2 h3 => by unfold faCat; rw [if_neg (by rw [h1, h2]; simp), if_neg h3]; rfl
  have hbox := boxed w a b 31
  generalize (faCat a b).v = R at *
  obtain ⟨an, al, am, ⟨a0, a1, a2, a3⟩, ae⟩ := a
  obtain ⟨bn, bl, bm, ⟨b0, b1, b2, b3⟩, be⟩ := b
  obtain ⟨p1, p2, p3, p4, p5⟩ := ha
  obtain ⟨q1, q2, q3, q4, q5⟩ := hb
  simp only at p1 p2 p3 p4 q1 q2 q3 q4 hnev hyes hno hbox p5 q5
  have HP := Lib.hid p5
  have HQ := Lib.hid q5
  have HN := Lib.hid hnev
  have HY := Lib.hid hyes
  have HO := Lib.hid hno
  have HBX := Lib.hid hbox
  clear p5 q5 hnev hyes hno hbox
  simp only [Fa.v]
  cases an
  case true =>
    go_enter Try.func47, Try.ntmps47
    go_wp2_with fail
    refine bodyPost_ret (v := Fa.none_.v) (by simp [results, Try.results47, go_sem]; rfl) rfl ⟨(by rw [HN.out (by simp)]), ?_⟩
    repeat (first | exact Below.refl _ _ | refine bel_alloc ?_ _ | refine bel_drew ?_ | refine bel_set ?_ (by simp) _ | refine bel_set ?_ (by simp; omega) _)
  cases bn
  case true =>
    go_enter Try.func47, Try.ntmps47
    go_wp2_with fail
    refine bodyPost_ret (v := Fa.none_.v) (by simp [results, Try.results47, go_sem]; rfl) rfl ⟨(by rw [HN.out (by simp)]), ?_⟩
    repeat (first | exact Below.refl _ _ | refine bel_alloc ?_ _ | refine bel_drew ?_ | refine bel_set ?_ (by simp) _ | refine bel_set ?_ (by simp; omega) _)
  go_enter Try.func47, Try.ntmps47
  go_upto_region 3 with fail
  have hb0 : Below w.heap.size w (((w.alloc (.cells #[.bool false, .int .i64 al, .int .i64 am, .int .u64 a0, .int .u64 a1, .int .u64 a2, .int .u64 a3, .bool ae] 31)).alloc (.cells #[.bool false, .int .i64 bl, .int .i64 bm, .int .u64 b0, .int .u64 b1, .int .u64 b2, .int .u64 b3, .bool be] 31)).alloc (.cells #[.bool false, .int .i64 0, .int .i64 0, .int .u64 0, .int .u64 0, .int .u64 0, .int .u64 0, .bool false] 31)) := bel_alloc (bel_alloc (bel_alloc (Below.refl _ _) _) _) _
  have hbx := HBX.out
  clear HBX
  generalize (((w.alloc (.cells #[.bool false, .int .i64 al, .int .i64 am, .int .u64 a0, .int .u64 a1, .int .u64 a2, .int .u64 a3, .bool ae] 31)).alloc (.cells #[.bool false, .int .i64 bl, .int .i64 bm, .int .u64 b0, .int .u64 b1, .int .u64 b2, .int .u64 b3, .bool be] 31)).alloc (.cells #[.bool false, .int .i64 0, .int .i64 0, .int .u64 0, .int .u64 0, .int .u64 0, .int .u64 0, .bool false] 31)) = W0 at *
  obtain ⟨⟨c0, c1, c2, c3, c4, c5, c6, c7⟩, ⟨d0, d1, d2, d3, d4, d5, d6, d7⟩, hzero, fz, hz⟩ := hbx
  simp only at c0 c1 c2 c3 c4 c5 c6 c7 d0 d1 d2 d3 d4 d5 d6 d7
  go_cut [5] (fun s5 wx => s5 = .pointer (some ⟨W0.heap.size, 0, none⟩) ∧ Lies wx W0.heap.size ⟨false, min (al + bl) 1048576, upperI am bm, ⟨a0, a1, a2, a3⟩, false⟩ ∧ (∀ j, wx.frozen? ⟨W0.heap.size, j, none⟩ = false) ∧ W0.heap.size < wx.heap.size ∧ Below W0.heap.size W0 wx)
  case first =>
    have keepS : ∀ w', Below W0.heap.size W0 w' → (w'.cell? ⟨w.heap.size, 0, none⟩ = some (.bool false) ∧ w'.cell? ⟨w.heap.size, 1, none⟩ = some (.int .i64 al) ∧ w'.cell? ⟨w.heap.size, 2, none⟩ = some (.int .i64 am) ∧ w'.cell? ⟨w.heap.size, 3, none⟩ = some (.int .u64 (a0 : Int)) ∧ w'.cell? ⟨w.heap.size, 4, none⟩ = some (.int .u64 (a1 : Int)) ∧ w'.cell? ⟨w.heap.size, 5, none⟩ = some (.int .u64 (a2 : Int)) ∧ w'.cell? ⟨w.heap.size, 6, none⟩ = some (.int .u64 (a3 : Int)) ∧ w'.cell? ⟨w.heap.size, 7, none⟩ = some (.bool ae) ∧ w'.cell? ⟨w.heap.size + 1, 0, none⟩ = some (.bool false) ∧ w'.cell? ⟨w.heap.size + 1, 1, none⟩ = some (.int .i64 bl) ∧ w'.cell? ⟨w.heap.size + 1, 2, none⟩ = some (.int .i64 bm) ∧ w'.cell? ⟨w.heap.size + 1, 3, none⟩ = some (.int .u64 (b0 : Int)) ∧ w'.cell? ⟨w.heap.size + 1, 4, none⟩ = some (.int .u64 (b1 : Int)) ∧ w'.cell? ⟨w.heap.size + 1, 5, none⟩ = some (.int .u64 (b2 : Int)) ∧ w'.cell? ⟨w.heap.size + 1, 6, none⟩ = some (.int .u64 (b3 : Int)) ∧ w'.cell? ⟨w.heap.size + 1, 7, none⟩ = some (.bool be)) := fun w' hX => ⟨cell_below hX c0, cell_below hX c1, cell_below hX c2, cell_below hX c3, cell_below hX c4, cell_below hX c5, cell_below hX c6, cell_below hX c7, cell_below hX d0, cell_below hX d1, cell_below hX d2, cell_below hX d3, cell_below hX d4, cell_below hX d5, cell_below hX d6, cell_below hX d7⟩
    refine wp_region_noPanic ?_
    refine wp_region_held_drew (S := fun w' => w'.cell? ⟨w.heap.size, 0, none⟩ = some (.bool false) ∧ w'.cell? ⟨w.heap.size, 1, none⟩ = some (.int .i64 al) ∧ w'.cell? ⟨w.heap.size, 2, none⟩ = some (.int .i64 am) ∧ w'.cell? ⟨w.heap.size, 3, none⟩ = some (.int .u64 (a0 : Int)) ∧ w'.cell? ⟨w.heap.size, 4, none⟩ = some (.int .u64 (a1 : Int)) ∧ w'.cell? ⟨w.heap.size, 5, none⟩ = some (.int .u64 (a2 : Int)) ∧ w'.cell? ⟨w.heap.size, 6, none⟩ = some (.int .u64 (a3 : Int)) ∧ w'.cell? ⟨w.heap.size, 7, none⟩ = some (.bool ae) ∧ w'.cell? ⟨w.heap.size + 1, 0, none⟩ = some (.bool false) ∧ w'.cell? ⟨w.heap.size + 1, 1, none⟩ = some (.int .i64 bl) ∧ w'.cell? ⟨w.heap.size + 1, 2, none⟩ = some (.int .i64 bm) ∧ w'.cell? ⟨w.heap.size + 1, 3, none⟩ = some (.int .u64 (b0 : Int)) ∧ w'.cell? ⟨w.heap.size + 1, 4, none⟩ = some (.int .u64 (b1 : Int)) ∧ w'.cell? ⟨w.heap.size + 1, 5, none⟩ = some (.int .u64 (b2 : Int)) ∧ w'.cell? ⟨w.heap.size + 1, 6, none⟩ = some (.int .u64 (b3 : Int)) ∧ w'.cell? ⟨w.heap.size + 1, 7, none⟩ = some (.bool be)) (by kernel_rfl) (keepS _ (bel_drew (Below.refl _ _))) (fun hHeld => ?_)
    refine wpAnyH_take (i := 0) (v := ?_) rfl (by kernel_rfl) (by kernel_rfl) (by kernel_rfl) (fun _ _ _ h => h) (Or.inl ⟨by kernel_rfl, ?_⟩) (by assumption) ?_
    rotate_left
    · intro w hSw
      try dsimp only at hSw
      go_simp
      try with_reducible rfl
    try simp only [List.getElem_toArray, List.getElem_cons_zero, List.getElem_cons_succ, Act.put, List.setIfInBounds_toArray, List.set_cons_zero, List.set_cons_succ]
    refine wpAnyH_take (i := 1) (v := ?_) rfl (by kernel_rfl) (by kernel_rfl) (by kernel_rfl) (fun _ _ _ h => h) (Or.inl ⟨by kernel_rfl, ?_⟩) (by assumption) ?_
    rotate_left
    · intro w hSw
      try dsimp only at hSw
      go_simp
      try with_reducible rfl
    try simp only [List.getElem_toArray, List.getElem_cons_zero, List.getElem_cons_succ, Act.put, List.setIfInBounds_toArray, List.set_cons_zero, List.set_cons_succ]
    refine wpAnyH_take (i := 2) (v := ?_) rfl (by kernel_rfl) (by kernel_rfl) (by kernel_rfl) (fun _ _ _ h => h) (Or.inl ⟨by kernel_rfl, ?_⟩) (by assumption) ?_
    rotate_left
    · intro w hSw
      try dsimp only at hSw
      go_simp
      try with_reducible rfl
    try simp only [List.getElem_toArray, List.getElem_cons_zero, List.getElem_cons_succ, Act.put, List.setIfInBounds_toArray, List.set_cons_zero, List.set_cons_succ]
    refine wpAnyH_take (i := 3) (v := ?_) rfl (by kernel_rfl) (by kernel_rfl) (by kernel_rfl) (fun _ _ _ h => h) (Or.inl ⟨by kernel_rfl, ?_⟩) (by assumption) ?_
    rotate_left
    · intro w hSw
      try dsimp only at hSw
      go_simp
      try with_reducible rfl
    try simp only [List.getElem_toArray, List.getElem_cons_zero, List.getElem_cons_succ, Act.put, List.setIfInBounds_toArray, List.set_cons_zero, List.set_cons_succ]
    refine wpAnyH_take (i := 5) (v := ?_) rfl (by kernel_rfl) (by kernel_rfl) (by kernel_rfl) (fun _ _ _ h => h) (Or.inl ⟨by kernel_rfl, ?_⟩) (by assumption) ?_
    rotate_left
    · intro w hSw
      try dsimp only at hSw
      go_simp
      try with_reducible rfl
    try simp only [List.getElem_toArray, List.getElem_cons_zero, List.getElem_cons_succ, Act.put, List.setIfInBounds_toArray, List.set_cons_zero, List.set_cons_succ]
    refine wpAnyH_take (i := 6) (v := ?_) rfl (by kernel_rfl) (by kernel_rfl) (by kernel_rfl) (fun _ _ _ h => h) (Or.inl ⟨by kernel_rfl, ?_⟩) (by assumption) ?_
    rotate_left
    · intro w hSw
      try dsimp only at hSw
      go_simp
      try with_reducible rfl
    try simp only [List.getElem_toArray, List.getElem_cons_zero, List.getElem_cons_succ, Act.put, List.setIfInBounds_toArray, List.set_cons_zero, List.set_cons_succ]
    refine wpAnyH_take (i := 7) (v := ?_) rfl (by kernel_rfl) (by kernel_rfl) (by kernel_rfl) (fun _ _ _ h => h) (Or.inl ⟨by kernel_rfl, ?_⟩) (by assumption) ?_
    rotate_left
    · intro w hSw
      try dsimp only at hSw
      go_simp
      try with_reducible rfl
    try simp only [List.getElem_toArray, List.getElem_cons_zero, List.getElem_cons_succ, Act.put, List.setIfInBounds_toArray, List.set_cons_zero, List.set_cons_succ]
    refine wpAnyH_take (i := 8) (v := ?_) rfl (by kernel_rfl) (by kernel_rfl) (by kernel_rfl) (fun _ _ _ h => h) (Or.inl ⟨by kernel_rfl, ?_⟩) (by assumption) ?_
    rotate_left
    · intro w hSw
      try dsimp only at hSw
      go_simp
      try with_reducible rfl
    try simp only [List.getElem_toArray, List.getElem_cons_zero, List.getElem_cons_succ, Act.put, List.setIfInBounds_toArray, List.set_cons_zero, List.set_cons_succ]
    refine wpAnyH_take (i := 10) (v := ?_) rfl (by kernel_rfl) (by kernel_rfl) (by kernel_rfl) (fun _ _ _ h => h) (Or.inl ⟨by kernel_rfl, ?_⟩) (by assumption) ?_
    rotate_left
    · intro w hSw
      try dsimp only at hSw
      go_simp
      try with_reducible rfl
    try simp only [List.getElem_toArray, List.getElem_cons_zero, List.getElem_cons_succ, Act.put, List.setIfInBounds_toArray, List.set_cons_zero, List.set_cons_succ]
    refine wpAnyH_take (i := 11) (v := ?_) rfl (by kernel_rfl) (by kernel_rfl) (by kernel_rfl) (fun _ _ _ h => h) (Or.inl ⟨by kernel_rfl, ?_⟩) (by assumption) ?_
    rotate_left
    · intro w hSw
      try dsimp only at hSw
      go_simp
      try with_reducible rfl
    try simp only [List.getElem_toArray, List.getElem_cons_zero, List.getElem_cons_succ, Act.put, List.setIfInBounds_toArray, List.set_cons_zero, List.set_cons_succ]
    refine wpAnyH_ready (rs := [4, 13]) (by kernel_rfl) (by simp) ?_
    refine AllReadyH.cons rfl (fun K hK => ?_) (AllReadyH.cons rfl (fun K hK => ?_) AllReadyH.nil)
    · go_simp
      refine (sum_any al bl _ (by omega) (by omega)).mono ?_
      rintro e w' ⟨rfl, hw⟩
      subst hw
      refine hK.out _ _ (keepS _ (bel_drew (Below.refl _ _))) (fun hHeld => ?_)
      clear hK K
      try simp only [List.getElem_toArray, List.getElem_cons_zero, List.getElem_cons_succ, Act.put, List.setIfInBounds_toArray, List.set_cons_zero, List.set_cons_succ]
      refine wpAnyH_ready (rs := [9, 13]) (by kernel_rfl) (by simp) ?_
      refine AllReadyH.cons rfl (fun K hK => ?_) (AllReadyH.cons rfl (fun K hK => ?_) AllReadyH.nil)
      · go_simp
        refine (upper_any am bm _ ⟨by omega, by omega⟩ ⟨by omega, by omega⟩).mono ?_
        rintro e w' ⟨rfl, hw⟩
        subst hw
        refine hK.out _ _ (keepS _ (bel_drew (Below.refl _ _))) (fun hHeld => ?_)
        clear hK K
        try simp only [List.getElem_toArray, List.getElem_cons_zero, List.getElem_cons_succ, Act.put, List.setIfInBounds_toArray, List.set_cons_zero, List.set_cons_succ]
        refine wpAnyH_take (i := 12) (v := ?_) rfl (by kernel_rfl) (by kernel_rfl) (by kernel_rfl) (fun _ _ _ h => h) (Or.inl ⟨by kernel_rfl, ?_⟩) (by assumption) ?_
        rotate_left
        · intro w hSw
          try dsimp only at hSw
          go_simp
          try with_reducible rfl
        try simp only [List.getElem_toArray, List.getElem_cons_zero, List.getElem_cons_succ, Act.put, List.setIfInBounds_toArray, List.set_cons_zero, List.set_cons_succ]
        refine wpAnyH_ready (rs := [13]) (by kernel_rfl) (by simp) ?_
        refine AllReadyH.cons rfl (fun K hK => ?_) AllReadyH.nil
        go_simp
        refine hK.out _ _ ?_ (fun hHeld => ?_)
        · exact keepS _ (bel_alloc (bel_drew (Below.refl _ _)) _)
        clear hK K
        try simp only [List.getElem_toArray, List.getElem_cons_zero, List.getElem_cons_succ, Act.put, List.setIfInBounds_toArray, List.set_cons_zero, List.set_cons_succ]
        refine wpAnyH_ready (rs := [14]) (by kernel_rfl) (by simp) ?_
        refine AllReadyH.cons rfl (fun K hK => ?_) AllReadyH.nil
        go_simp
        refine hK.out _ _ ?_ (fun hHeld => ?_)
        · refine keepS _ ?_
          repeat (first | with_reducible exact Below.refl _ _ | with_reducible assumption | with_reducible refine bel_drew ?_ | with_reducible refine bel_alloc ?_ _ | with_reducible refine bel_set ?_ (by simp) _)
        clear hK K
        try simp only [List.getElem_toArray, List.getElem_cons_zero, List.getElem_cons_succ, Act.put, List.setIfInBounds_toArray, List.set_cons_zero, List.set_cons_succ]
        refine wpAnyH_done (by kernel_rfl) ?_ _
        refine NoPanic.normal ?_
        obtain ⟨s1, s2, s3⟩ := stored1 W0 31 ⟨false, min (al + bl) 1048576, upperI am bm, ⟨a0, a1, a2, a3⟩, false⟩
        clear hHeld keepS
        go_wp2_with fail
        go_meet
        refine ⟨rfl, s1, s2, s3, ?_⟩
        repeat (first | with_reducible exact Below.refl _ _ | with_reducible assumption | with_reducible refine bel_drew ?_ | with_reducible refine bel_alloc ?_ _ | with_reducible refine bel_set ?_ (by simp) _)
      · go_simp
        refine hK.out _ _ ?_ (fun hHeld => ?_)
        · exact keepS _ (bel_alloc (bel_drew (Below.refl _ _)) _)
        clear hK K
        try simp only [List.getElem_toArray, List.getElem_cons_zero, List.getElem_cons_succ, Act.put, List.setIfInBounds_toArray, List.set_cons_zero, List.set_cons_succ]
        refine wpAnyH_ready (rs := [9]) (by kernel_rfl) (by simp) ?_
        refine AllReadyH.cons rfl (fun K hK => ?_) AllReadyH.nil
        go_simp
        refine (upper_any am bm _ ⟨by omega, by omega⟩ ⟨by omega, by omega⟩).mono ?_
        rintro e w' ⟨rfl, hw⟩
        subst hw
        refine hK.out _ _ (keepS _ (bel_alloc (bel_drew (Below.refl _ _)) _)) (fun hHeld => ?_)
        clear hK K
        try simp only [List.getElem_toArray, List.getElem_cons_zero, List.getElem_cons_succ, Act.put, List.setIfInBounds_toArray, List.set_cons_zero, List.set_cons_succ]
        refine wpAnyH_take (i := 12) (v := ?_) rfl (by kernel_rfl) (by kernel_rfl) (by kernel_rfl) (fun _ _ _ h => h) (Or.inl ⟨by kernel_rfl, ?_⟩) (by assumption) ?_
        rotate_left
        · intro w hSw
          try dsimp only at hSw
          go_simp
          try with_reducible rfl
        try simp only [List.getElem_toArray, List.getElem_cons_zero, List.getElem_cons_succ, Act.put, List.setIfInBounds_toArray, List.set_cons_zero, List.set_cons_succ]
        refine wpAnyH_ready (rs := [14]) (by kernel_rfl) (by simp) ?_
        refine AllReadyH.cons rfl (fun K hK => ?_) AllReadyH.nil
        go_simp
        refine hK.out _ _ ?_ (fun hHeld => ?_)
        · refine keepS _ ?_
          repeat (first | with_reducible exact Below.refl _ _ | with_reducible assumption | with_reducible refine bel_drew ?_ | with_reducible refine bel_alloc ?_ _ | with_reducible refine bel_set ?_ (by simp) _)
        clear hK K
        try simp only [List.getElem_toArray, List.getElem_cons_zero, List.getElem_cons_succ, Act.put, List.setIfInBounds_toArray, List.set_cons_zero, List.set_cons_succ]
        refine wpAnyH_done (by kernel_rfl) ?_ _
        refine NoPanic.normal ?_
        obtain ⟨s1, s2, s3⟩ := stored1 W0 31 ⟨false, min (al + bl) 1048576, upperI am bm, ⟨a0, a1, a2, a3⟩, false⟩
        clear hHeld keepS
        go_wp2_with fail
        go_meet
        refine ⟨rfl, s1, s2, s3, ?_⟩
        repeat (first | with_reducible exact Below.refl _ _ | with_reducible assumption | with_reducible refine bel_drew ?_ | with_reducible refine bel_alloc ?_ _ | with_reducible refine bel_set ?_ (by simp) _)
    · go_simp
      refine hK.out _ _ ?_ (fun hHeld => ?_)
      · exact keepS _ (bel_alloc (bel_drew (Below.refl _ _)) _)
      clear hK K
      try simp only [List.getElem_toArray, List.getElem_cons_zero, List.getElem_cons_succ, Act.put, List.setIfInBounds_toArray, List.set_cons_zero, List.set_cons_succ]
      refine wpAnyH_ready (rs := [4]) (by kernel_rfl) (by simp) ?_
      refine AllReadyH.cons rfl (fun K hK => ?_) AllReadyH.nil
      go_simp
      refine (sum_any al bl _ (by omega) (by omega)).mono ?_
      rintro e w' ⟨rfl, hw⟩
      subst hw
      refine hK.out _ _ (keepS _ (bel_alloc (bel_drew (Below.refl _ _)) _)) (fun hHeld => ?_)
      clear hK K
      try simp only [List.getElem_toArray, List.getElem_cons_zero, List.getElem_cons_succ, Act.put, List.setIfInBounds_toArray, List.set_cons_zero, List.set_cons_succ]
      refine wpAnyH_ready (rs := [9]) (by kernel_rfl) (by simp) ?_
      refine AllReadyH.cons rfl (fun K hK => ?_) AllReadyH.nil
      go_simp
      refine (upper_any am bm _ ⟨by omega, by omega⟩ ⟨by omega, by omega⟩).mono ?_
      rintro e w' ⟨rfl, hw⟩
      subst hw
      refine hK.out _ _ (keepS _ (bel_alloc (bel_drew (Below.refl _ _)) _)) (fun hHeld => ?_)
      clear hK K
      try simp only [List.getElem_toArray, List.getElem_cons_zero, List.getElem_cons_succ, Act.put, List.setIfInBounds_toArray, List.set_cons_zero, List.set_cons_succ]
      refine wpAnyH_take (i := 12) (v := ?_) rfl (by kernel_rfl) (by kernel_rfl) (by kernel_rfl) (fun _ _ _ h => h) (Or.inl ⟨by kernel_rfl, ?_⟩) (by assumption) ?_
      rotate_left
      · intro w hSw
        try dsimp only at hSw
        go_simp
        try with_reducible rfl
      try simp only [List.getElem_toArray, List.getElem_cons_zero, List.getElem_cons_succ, Act.put, List.setIfInBounds_toArray, List.set_cons_zero, List.set_cons_succ]
      refine wpAnyH_ready (rs := [14]) (by kernel_rfl) (by simp) ?_
      refine AllReadyH.cons rfl (fun K hK => ?_) AllReadyH.nil
      go_simp
      refine hK.out _ _ ?_ (fun hHeld => ?_)
      · refine keepS _ ?_
        repeat (first | with_reducible exact Below.refl _ _ | with_reducible assumption | with_reducible refine bel_drew ?_ | with_reducible refine bel_alloc ?_ _ | with_reducible refine bel_set ?_ (by simp) _)
      clear hK K
      try simp only [List.getElem_toArray, List.getElem_cons_zero, List.getElem_cons_succ, Act.put, List.setIfInBounds_toArray, List.set_cons_zero, List.set_cons_succ]
      refine wpAnyH_done (by kernel_rfl) ?_ _
      refine NoPanic.normal ?_
      obtain ⟨s1, s2, s3⟩ := stored1 W0 31 ⟨false, min (al + bl) 1048576, upperI am bm, ⟨a0, a1, a2, a3⟩, false⟩
      clear hHeld keepS
      go_wp2_with fail
      go_meet
      refine ⟨rfl, s1, s2, s3, ?_⟩
      repeat (first | with_reducible exact Below.refl _ _ | with_reducible assumption | with_reducible refine bel_drew ?_ | with_reducible refine bel_alloc ?_ _ | with_reducible refine bel_set ?_ (by simp) _)
  case rest =>
    obtain ⟨rfl, ⟨r0, r1, r2, r3, r4, r5, r6, r7⟩, frz, hzx, hX⟩ := hcut
    simp only at r0 r1 r2 r3 r4 r5 r6 r7
    have hbX := bel_then hb0 hX
    obtain ⟨z0, z1, z2, z3, z4, z5, z6, z7⟩ := hzero.below hX
    have y3 := cell_below hX d3
    have y4 := cell_below hX d4
    have y5 := cell_below hX d5
    have y6 := cell_below hX d6
    have x1 := cell_below hX c1
    have fzx := fun (j : Nat) => (hX.frozen (p := ⟨w.heap.size + 1 + 1, j, none⟩) hz).trans (fz j)
    simp only [Fa.zero, S.zero] at z0 z1 z2 z3 z4 z5 z6 z7
    by_cases h0 : al = 0
    · have HR := HY.out rfl rfl h0
      clear HY HO HN c0 c1 c2 c3 c4 c5 c6 c7 d0 d1 d2 d3 d4 d5 d6 d7 hzero
      subst h0
      go_wp2_with fail
      refine (or_any ⟨a0, a1, a2, a3⟩ ⟨b0, b1, b2, b3⟩ _ HP.out HQ.out).mono ?_
      rintro e w2 ⟨rfl, hb2⟩
      have hs2 := hb2.size
      have frz2 := fun (j : Nat) => (hb2.frozen (p := ⟨W0.heap.size, j, none⟩) hzx).trans (frz j)
      have fzx2 := fun (j : Nat) => (hb2.frozen (p := ⟨w.heap.size + 1 + 1, j, none⟩) (Nat.lt_of_lt_of_le hz hX.size)).trans (fzx j)
      replace r0 := cell_below hb2 r0
      replace r1 := cell_below hb2 r1
      replace r2 := cell_below hb2 r2
      replace r3 := cell_below hb2 r3
      replace r4 := cell_below hb2 r4
      replace r5 := cell_below hb2 r5
      replace r6 := cell_below hb2 r6
      replace r7 := cell_below hb2 r7
      replace z0 := cell_below hb2 z0
      replace z1 := cell_below hb2 z1
      replace z2 := cell_below hb2 z2
      replace z3 := cell_below hb2 z3
      replace z4 := cell_below hb2 z4
      replace z5 := cell_below hb2 z5
      replace z6 := cell_below hb2 z6
      replace z7 := cell_below hb2 z7
      have hne : w.heap.size + 1 + 1 ≠ W0.heap.size := by omega
      have hne' : W0.heap.size ≠ w.heap.size + 1 + 1 := by omega
      have hbY := bel_then hbX hb2
      have hle : w.heap.size ≤ W0.heap.size := by omega
      clear hb2 hbX hX frz fzx fz y3 y4 y5 y6 hb0
      go_wp2_with fail
      refine bodyPost_ret (v := R) (by rw [HR]; simp [results, Try.results47, go_sem, z0, z1, z2, z3, z4, z5, z6, z7, frz2, fzx2, hne, hne']) rfl ⟨rfl, ?_⟩
      repeat (first | with_reducible exact Below.refl _ _ | with_reducible assumption | with_reducible refine bel_drew ?_ | with_reducible refine bel_alloc ?_ _ | with_reducible refine bel_set ?_ (by simp; omega) _)
    · have HR := HO.out rfl rfl h0
      clear HY HO HN
      have h0' : (al == 0) = false := by simpa using h0
      clear c0 c2 c3 c4 c5 c6 c7 d0 d1 d2 d3 d4 d5 d6 d7 hzero y3 y4 y5 y6 hb0 fz
      go_wp2_with fail
      refine bodyPost_ret (v := R) (by rw [HR]; simp [results, Try.results47, go_sem, z0, z1, z2, z3, z4, z5, z6, z7, fzx]) rfl ⟨rfl, ?_⟩
      repeat (first | with_reducible exact Below.refl _ _ | with_reducible assumption | with_reducible refine bel_drew ?_ | with_reducible refine bel_alloc ?_ _ | with_reducible refine bel_set ?_ (by simp; omega) _)
end Go.Proofs.Ytibabfgfahlekaa
