/- Pruned from its seat's text: what the theorem hangs on. -/
import Derived.Test.YtibabfgfahlekaaBFcOr
import Derived.Test.YtibabfgfahlekaaBQXFactsRep
/- The walks of package facts: one. -/
set_option linter.unusedVariables false
set_option linter.unusedSimpArgs false
namespace Go.Proofs.Ytibabfgfahlekaa
open Go.RowKit Go.Proofs.Bs
attribute [local go_sem] eqSet

def Fa.cells (a : Fa) : List Value := [.bool a.never, .int .i64 a.least, .int .i64 a.most, .int .u64 a.first.a, .int .u64 a.first.b, .int .u64 a.first.c, .int .u64 a.first.d, .bool a.ends]
theorem Fa.cells_length (a : Fa) : a.cells.length = 8 := rfl
def Nd.v (x : Nd) : Value := .agg #[.int .i64 x.kind, .int .u64 x.set.a, .int .u64 x.set.b, .int .u64 x.set.c, .int .u64 x.set.d, .int .i64 x.lo, .int .i64 x.hi]
theorem set_far8 {w : World} {q : Addr} {b : Nat} {v : Option Value} (h : w.cell? q = v) (hq : q.block ≠ b) (u0 u1 u2 u3 u4 u5 u6 u7 : Value) :
    ((((((((w.setCell ⟨b, 0, none⟩ u0).setCell ⟨b, 1, none⟩ u1).setCell ⟨b, 2, none⟩ u2).setCell ⟨b, 3, none⟩ u3).setCell ⟨b, 4, none⟩ u4).setCell ⟨b, 5, none⟩ u5).setCell ⟨b, 6, none⟩ u6).setCell ⟨b, 7, none⟩ u7).cell? q = v := by
  have f : ∀ (W : World) (o : Nat) (u : Value), W.cell? q = v → (W.setCell ⟨b, o, none⟩ u).cell? q = v := fun W o u hW => (World.cell?_setCell_other _ _ _ _ (fun e => hq (congrArg Addr.block e).symm)).trans hW
  exact f _ _ _ (f _ _ _ (f _ _ _ (f _ _ _ (f _ _ _ (f _ _ _ (f _ _ _ (f _ _ _ h)))))))
/-- The blocks that facts.one begins with. -/
theorem one_box (w : World) (k : Int) (s0 s1 s2 s3 : Nat) (lo hi : Int) (t u : TypeId) :
    (((w.alloc (.cells #[.int .i64 k, .int .u64 (s0 : Int), .int .u64 (s1 : Int), .int .u64 (s2 : Int), .int .u64 (s3 : Int), .int .i64 lo, .int .i64 hi] t)).alloc (.cells #[.bool false, .int .i64 0, .int .i64 0, .int .u64 0, .int .u64 0, .int .u64 0, .int .u64 0, .bool false] u)).cell? ⟨w.heap.size, 0, none⟩ = some (.int .i64 k) ∧
      ((w.alloc (.cells #[.int .i64 k, .int .u64 (s0 : Int), .int .u64 (s1 : Int), .int .u64 (s2 : Int), .int .u64 (s3 : Int), .int .i64 lo, .int .i64 hi] t)).alloc (.cells #[.bool false, .int .i64 0, .int .i64 0, .int .u64 0, .int .u64 0, .int .u64 0, .int .u64 0, .bool false] u)).cell? ⟨w.heap.size, 1, none⟩ = some (.int .u64 (s0 : Int)) ∧
      ((w.alloc (.cells #[.int .i64 k, .int .u64 (s0 : Int), .int .u64 (s1 : Int), .int .u64 (s2 : Int), .int .u64 (s3 : Int), .int .i64 lo, .int .i64 hi] t)).alloc (.cells #[.bool false, .int .i64 0, .int .i64 0, .int .u64 0, .int .u64 0, .int .u64 0, .int .u64 0, .bool false] u)).cell? ⟨w.heap.size, 2, none⟩ = some (.int .u64 (s1 : Int)) ∧
      ((w.alloc (.cells #[.int .i64 k, .int .u64 (s0 : Int), .int .u64 (s1 : Int), .int .u64 (s2 : Int), .int .u64 (s3 : Int), .int .i64 lo, .int .i64 hi] t)).alloc (.cells #[.bool false, .int .i64 0, .int .i64 0, .int .u64 0, .int .u64 0, .int .u64 0, .int .u64 0, .bool false] u)).cell? ⟨w.heap.size, 3, none⟩ = some (.int .u64 (s2 : Int)) ∧
      ((w.alloc (.cells #[.int .i64 k, .int .u64 (s0 : Int), .int .u64 (s1 : Int), .int .u64 (s2 : Int), .int .u64 (s3 : Int), .int .i64 lo, .int .i64 hi] t)).alloc (.cells #[.bool false, .int .i64 0, .int .i64 0, .int .u64 0, .int .u64 0, .int .u64 0, .int .u64 0, .bool false] u)).cell? ⟨w.heap.size, 4, none⟩ = some (.int .u64 (s3 : Int)) ∧
      ((w.alloc (.cells #[.int .i64 k, .int .u64 (s0 : Int), .int .u64 (s1 : Int), .int .u64 (s2 : Int), .int .u64 (s3 : Int), .int .i64 lo, .int .i64 hi] t)).alloc (.cells #[.bool false, .int .i64 0, .int .i64 0, .int .u64 0, .int .u64 0, .int .u64 0, .int .u64 0, .bool false] u)).cell? ⟨w.heap.size, 5, none⟩ = some (.int .i64 lo) ∧
      ((w.alloc (.cells #[.int .i64 k, .int .u64 (s0 : Int), .int .u64 (s1 : Int), .int .u64 (s2 : Int), .int .u64 (s3 : Int), .int .i64 lo, .int .i64 hi] t)).alloc (.cells #[.bool false, .int .i64 0, .int .i64 0, .int .u64 0, .int .u64 0, .int .u64 0, .int .u64 0, .bool false] u)).cell? ⟨w.heap.size, 6, none⟩ = some (.int .i64 hi)) ∧
    Lies ((w.alloc (.cells #[.int .i64 k, .int .u64 (s0 : Int), .int .u64 (s1 : Int), .int .u64 (s2 : Int), .int .u64 (s3 : Int), .int .i64 lo, .int .i64 hi] t)).alloc (.cells #[.bool false, .int .i64 0, .int .i64 0, .int .u64 0, .int .u64 0, .int .u64 0, .int .u64 0, .bool false] u)) (w.heap.size + 1) Fa.zero ∧
    (∀ j, ((w.alloc (.cells #[.int .i64 k, .int .u64 (s0 : Int), .int .u64 (s1 : Int), .int .u64 (s2 : Int), .int .u64 (s3 : Int), .int .i64 lo, .int .i64 hi] t)).alloc (.cells #[.bool false, .int .i64 0, .int .i64 0, .int .u64 0, .int .u64 0, .int .u64 0, .int .u64 0, .bool false] u)).frozen? ⟨w.heap.size + 1, j, none⟩ = false) ∧
    w.heap.size + 1 < ((w.alloc (.cells #[.int .i64 k, .int .u64 (s0 : Int), .int .u64 (s1 : Int), .int .u64 (s2 : Int), .int .u64 (s3 : Int), .int .i64 lo, .int .i64 hi] t)).alloc (.cells #[.bool false, .int .i64 0, .int .i64 0, .int .u64 0, .int .u64 0, .int .u64 0, .int .u64 0, .bool false] u)).heap.size ∧
    Below w.heap.size w ((w.alloc (.cells #[.int .i64 k, .int .u64 (s0 : Int), .int .u64 (s1 : Int), .int .u64 (s2 : Int), .int .u64 (s3 : Int), .int .i64 lo, .int .i64 hi] t)).alloc (.cells #[.bool false, .int .i64 0, .int .i64 0, .int .u64 0, .int .u64 0, .int .u64 0, .int .u64 0, .bool false] u)) ∧
    (∀ (p : Addr) (v : Value), w.cell? p = some v → ((w.alloc (.cells #[.int .i64 k, .int .u64 (s0 : Int), .int .u64 (s1 : Int), .int .u64 (s2 : Int), .int .u64 (s3 : Int), .int .i64 lo, .int .i64 hi] t)).alloc (.cells #[.bool false, .int .i64 0, .int .i64 0, .int .u64 0, .int .u64 0, .int .u64 0, .int .u64 0, .bool false] u)).cell? p = some v) :=
  ⟨⟨by go_simp, by go_simp, by go_simp, by go_simp, by go_simp, by go_simp, by go_simp⟩,
    ⟨by go_simp; rfl, by go_simp; rfl, by go_simp; rfl, by go_simp; rfl, by go_simp; rfl, by go_simp; rfl, by go_simp; rfl, by go_simp; rfl⟩, fun j => by go_simp, by simp, bel_alloc (bel_alloc (Below.refl _ _) _) _, fun p v h => cell_alloc (cell_alloc h _) _⟩

set_option maxRecDepth 100000 in
set_option maxHeartbeats 6400000 in
theorem one_cat (s0 s1 s2 s3 : Nat) (lo hi : Int) (a : Fa) (b : Fa) (R : Fa) (A : Option Addr) (c : Nat) (w : World) (h : Reads w 8 A 2 (a.cells ++ b.cells))
    (hcall : ∀ w : World, Calls Try.prog 47 #[a.v, b.v] w fun e w' => e = .returned R.v ∧ Below w.heap.size w w') :
    Calls Try.prog 37 #[.agg #[.int .i64 5, .int .u64 (s0 : Int), .int .u64 (s1 : Int), .int .u64 (s2 : Int), .int .u64 (s3 : Int), .int .i64 lo, .int .i64 hi], .slice A 2 c] w fun e w' => e = .returned R.v ∧ Below w.heap.size w w' := by
  obtain ⟨ad, rfl, hc⟩ := h.2 (by omega)
  have c0 : w.cell? ad = some (.bool a.never) := hc 0 _ rfl
  have c1 : w.cell? ⟨ad.block, ad.off + 1, none⟩ = some (.int .i64 a.least) := hc 1 _ rfl
  have c2 : w.cell? ⟨ad.block, ad.off + 2, none⟩ = some (.int .i64 a.most) := hc 2 _ rfl
  have c3 : w.cell? ⟨ad.block, ad.off + 3, none⟩ = some (.int .u64 (a.first.a : Int)) := hc 3 _ rfl
  have c4 : w.cell? ⟨ad.block, ad.off + 4, none⟩ = some (.int .u64 (a.first.b : Int)) := hc 4 _ rfl
  have c5 : w.cell? ⟨ad.block, ad.off + 5, none⟩ = some (.int .u64 (a.first.c : Int)) := hc 5 _ rfl
  have c6 : w.cell? ⟨ad.block, ad.off + 6, none⟩ = some (.int .u64 (a.first.d : Int)) := hc 6 _ rfl
  have c7 : w.cell? ⟨ad.block, ad.off + 7, none⟩ = some (.bool a.ends) := hc 7 _ rfl
  have c8 : w.cell? ⟨ad.block, ad.off + 8, none⟩ = some (.bool b.never) := hc 8 _ rfl
  have c9 : w.cell? ⟨ad.block, ad.off + 8 + 1, none⟩ = some (.int .i64 b.least) := hc 9 _ rfl
  have c10 : w.cell? ⟨ad.block, ad.off + 8 + 2, none⟩ = some (.int .i64 b.most) := hc 10 _ rfl
  have c11 : w.cell? ⟨ad.block, ad.off + 8 + 3, none⟩ = some (.int .u64 (b.first.a : Int)) := hc 11 _ rfl
  have c12 : w.cell? ⟨ad.block, ad.off + 8 + 4, none⟩ = some (.int .u64 (b.first.b : Int)) := hc 12 _ rfl
  have c13 : w.cell? ⟨ad.block, ad.off + 8 + 5, none⟩ = some (.int .u64 (b.first.c : Int)) := hc 13 _ rfl
  have c14 : w.cell? ⟨ad.block, ad.off + 8 + 6, none⟩ = some (.int .u64 (b.first.d : Int)) := hc 14 _ rfl
  have c15 : w.cell? ⟨ad.block, ad.off + 8 + 7, none⟩ = some (.bool b.ends) := hc 15 _ rfl
  clear h hc
  simp only [Fa.v] at hcall
  go_enter Try.func37, Try.ntmps37
  go_wp2_with fail
  obtain ⟨hnd, hq, fq, hz, hbw, hmv⟩ := one_box w 5 s0 s1 s2 s3 lo hi 63 31
  have hne : ad.block ≠ w.heap.size + 1 := by have := World.block_lt_of_cell? w ad c0; omega
  have hnn : w.heap.size ≠ w.heap.size + 1 := by omega
  replace c0 := hmv _ _ c0
  replace c1 := hmv _ _ c1
  replace c2 := hmv _ _ c2
  replace c3 := hmv _ _ c3
  replace c4 := hmv _ _ c4
  replace c5 := hmv _ _ c5
  replace c6 := hmv _ _ c6
  replace c7 := hmv _ _ c7
  replace c8 := hmv _ _ c8
  replace c9 := hmv _ _ c9
  replace c10 := hmv _ _ c10
  replace c11 := hmv _ _ c11
  replace c12 := hmv _ _ c12
  replace c13 := hmv _ _ c13
  replace c14 := hmv _ _ c14
  replace c15 := hmv _ _ c15
  clear hmv
  generalize ((w.alloc (.cells #[.int .i64 5, .int .u64 (s0 : Int), .int .u64 (s1 : Int), .int .u64 (s2 : Int), .int .u64 (s3 : Int), .int .i64 lo, .int .i64 hi] 63)).alloc (.cells #[.bool false, .int .i64 0, .int .i64 0, .int .u64 0, .int .u64 0, .int .u64 0, .int .u64 0, .bool false] 31)) = W2 at *
  obtain ⟨q0, q1, q2, q3, q4, q5, q6, q7⟩ := hq
  obtain ⟨n0, n1, n2, n3, n4, n5, n6⟩ := hnd
  simp only [Fa.zero, S.zero] at q0 q1 q2 q3 q4 q5 q6 q7
  have keepS : ∀ w', Below W2.heap.size W2 w' → (w'.cell? ad = some (.bool a.never) ∧ w'.cell? ⟨ad.block, ad.off + 1, none⟩ = some (.int .i64 a.least) ∧ w'.cell? ⟨ad.block, ad.off + 2, none⟩ = some (.int .i64 a.most) ∧ w'.cell? ⟨ad.block, ad.off + 3, none⟩ = some (.int .u64 (a.first.a : Int)) ∧ w'.cell? ⟨ad.block, ad.off + 4, none⟩ = some (.int .u64 (a.first.b : Int)) ∧ w'.cell? ⟨ad.block, ad.off + 5, none⟩ = some (.int .u64 (a.first.c : Int)) ∧ w'.cell? ⟨ad.block, ad.off + 6, none⟩ = some (.int .u64 (a.first.d : Int)) ∧ w'.cell? ⟨ad.block, ad.off + 7, none⟩ = some (.bool a.ends) ∧ w'.cell? ⟨ad.block, ad.off + 8, none⟩ = some (.bool b.never) ∧ w'.cell? ⟨ad.block, ad.off + 8 + 1, none⟩ = some (.int .i64 b.least) ∧ w'.cell? ⟨ad.block, ad.off + 8 + 2, none⟩ = some (.int .i64 b.most) ∧ w'.cell? ⟨ad.block, ad.off + 8 + 3, none⟩ = some (.int .u64 (b.first.a : Int)) ∧ w'.cell? ⟨ad.block, ad.off + 8 + 4, none⟩ = some (.int .u64 (b.first.b : Int)) ∧ w'.cell? ⟨ad.block, ad.off + 8 + 5, none⟩ = some (.int .u64 (b.first.c : Int)) ∧ w'.cell? ⟨ad.block, ad.off + 8 + 6, none⟩ = some (.int .u64 (b.first.d : Int)) ∧ w'.cell? ⟨ad.block, ad.off + 8 + 7, none⟩ = some (.bool b.ends)) := fun w' hX => ⟨cell_below hX c0, cell_below hX c1, cell_below hX c2, cell_below hX c3, cell_below hX c4, cell_below hX c5, cell_below hX c6, cell_below hX c7, cell_below hX c8, cell_below hX c9, cell_below hX c10, cell_below hX c11, cell_below hX c12, cell_below hX c13, cell_below hX c14, cell_below hX c15⟩
  refine wp_region_noPanic ?_
  refine wp_region_held_drew (S := fun w' => w'.cell? ad = some (.bool a.never) ∧ w'.cell? ⟨ad.block, ad.off + 1, none⟩ = some (.int .i64 a.least) ∧ w'.cell? ⟨ad.block, ad.off + 2, none⟩ = some (.int .i64 a.most) ∧ w'.cell? ⟨ad.block, ad.off + 3, none⟩ = some (.int .u64 (a.first.a : Int)) ∧ w'.cell? ⟨ad.block, ad.off + 4, none⟩ = some (.int .u64 (a.first.b : Int)) ∧ w'.cell? ⟨ad.block, ad.off + 5, none⟩ = some (.int .u64 (a.first.c : Int)) ∧ w'.cell? ⟨ad.block, ad.off + 6, none⟩ = some (.int .u64 (a.first.d : Int)) ∧ w'.cell? ⟨ad.block, ad.off + 7, none⟩ = some (.bool a.ends) ∧ w'.cell? ⟨ad.block, ad.off + 8, none⟩ = some (.bool b.never) ∧ w'.cell? ⟨ad.block, ad.off + 8 + 1, none⟩ = some (.int .i64 b.least) ∧ w'.cell? ⟨ad.block, ad.off + 8 + 2, none⟩ = some (.int .i64 b.most) ∧ w'.cell? ⟨ad.block, ad.off + 8 + 3, none⟩ = some (.int .u64 (b.first.a : Int)) ∧ w'.cell? ⟨ad.block, ad.off + 8 + 4, none⟩ = some (.int .u64 (b.first.b : Int)) ∧ w'.cell? ⟨ad.block, ad.off + 8 + 5, none⟩ = some (.int .u64 (b.first.c : Int)) ∧ w'.cell? ⟨ad.block, ad.off + 8 + 6, none⟩ = some (.int .u64 (b.first.d : Int)) ∧ w'.cell? ⟨ad.block, ad.off + 8 + 7, none⟩ = some (.bool b.ends)) (by kernel_rfl) (keepS _ (bel_drew (Below.refl _ _))) (fun hHeld => ?_)
  refine wpAnyH_take (i := 0) (v := ?_) rfl (by kernel_rfl) (by kernel_rfl) (by kernel_rfl) (fun _ _ _ h => h) (Or.inl ⟨by kernel_rfl, ?_⟩) (by assumption) ?_
  rotate_left
  · intro w hSw
    try dsimp only at hSw
    go_simp
    try with_reducible rfl
  try simp only [List.getElem_toArray, List.getElem_cons_zero, List.getElem_cons_succ, Act.put, List.setIfInBounds_toArray, List.set_cons_zero, List.set_cons_succ]
  refine wpAnyH_take (i := 1) (v := ?_) rfl (by kernel_rfl) (by kernel_rfl) (by kernel_rfl) (fun _ _ _ h => h) (Or.inl ⟨by kernel_rfl, ?_⟩) (by assumption) ?_
  rotate_left
  · intro w hSw
    try dsimp only at hSw
    go_simp
    try with_reducible rfl
  try simp only [List.getElem_toArray, List.getElem_cons_zero, List.getElem_cons_succ, Act.put, List.setIfInBounds_toArray, List.set_cons_zero, List.set_cons_succ]
  refine wpAnyH_take (i := 2) (v := ?_) rfl (by kernel_rfl) (by kernel_rfl) (by kernel_rfl) (fun _ _ _ h => h) (Or.inl ⟨by kernel_rfl, ?_⟩) (by assumption) ?_
  rotate_left
  · intro w hSw
    try dsimp only at hSw
    go_simp
    try with_reducible rfl
  try simp only [List.getElem_toArray, List.getElem_cons_zero, List.getElem_cons_succ, Act.put, List.setIfInBounds_toArray, List.set_cons_zero, List.set_cons_succ]
  refine wpAnyH_take (i := 3) (v := ?_) rfl (by kernel_rfl) (by kernel_rfl) (by kernel_rfl) (fun _ _ _ h => h) (Or.inl ⟨by kernel_rfl, ?_⟩) (by assumption) ?_
  rotate_left
  · intro w hSw
    try dsimp only at hSw
    go_simp
    try with_reducible rfl
  try simp only [List.getElem_toArray, List.getElem_cons_zero, List.getElem_cons_succ, Act.put, List.setIfInBounds_toArray, List.set_cons_zero, List.set_cons_succ]
  refine wpAnyH_take (i := 4) (v := ?_) rfl (by kernel_rfl) (by kernel_rfl) (by kernel_rfl) (fun _ _ _ h => h) (Or.inl ⟨by kernel_rfl, ?_⟩) (by assumption) ?_
  rotate_left
  · intro w hSw
    try dsimp only at hSw
    go_simp
    try with_reducible rfl
  try simp only [List.getElem_toArray, List.getElem_cons_zero, List.getElem_cons_succ, Act.put, List.setIfInBounds_toArray, List.set_cons_zero, List.set_cons_succ]
  refine wpAnyH_take (i := 5) (v := ?_) rfl (by kernel_rfl) (by kernel_rfl) (by kernel_rfl) (fun _ _ _ h => h) (Or.inl ⟨by kernel_rfl, ?_⟩) (by assumption) ?_
  rotate_left
  · intro w hSw
    try dsimp only at hSw
    go_simp
    try with_reducible rfl
  try simp only [List.getElem_toArray, List.getElem_cons_zero, List.getElem_cons_succ, Act.put, List.setIfInBounds_toArray, List.set_cons_zero, List.set_cons_succ]
  refine wpAnyH_ready (rs := [6]) (by kernel_rfl) (by simp) ?_
  refine AllReadyH.cons rfl (fun K hK => ?_) AllReadyH.nil
  go_simp
  refine (hcall _).mono ?_
  rintro e w' ⟨rfl, hb⟩
  have hX : Below W2.heap.size W2 w' := by
    refine bel_then ?_ hb
    repeat (first | with_reducible exact Below.refl _ _ | with_reducible assumption | with_reducible refine bel_drew ?_ | with_reducible refine bel_alloc ?_ _ | with_reducible refine bel_setb ?_ (by omega) _)
  refine hK.out _ _ (keepS _ hX) (fun hHeld => ?_)
  clear hb
  have fz : ∀ j, w'.frozen? ⟨w.heap.size + 1, j, none⟩ = false := fun j => (hX.frozen (p := ⟨w.heap.size + 1, j, none⟩) hz).trans (fq j)
  have r0 := cell_below hX q0
  have r1 := cell_below hX q1
  have r2 := cell_below hX q2
  have r3 := cell_below hX q3
  have r4 := cell_below hX q4
  have r5 := cell_below hX q5
  have r6 := cell_below hX q6
  have r7 := cell_below hX q7
  clear hK K
  try simp only [List.getElem_toArray, List.getElem_cons_zero, List.getElem_cons_succ, Act.put, List.setIfInBounds_toArray, List.set_cons_zero, List.set_cons_succ]
  refine wpAnyH_ready (rs := [7]) (by kernel_rfl) (by simp) ?_
  refine AllReadyH.cons rfl (fun K hK => ?_) AllReadyH.nil
  go_simp
  refine hK.out _ _ ?_ (fun hHeld => ?_)
  · obtain ⟨g0, g1, g2, g3, g4, g5, g6, g7, g8, g9, g10, g11, g12, g13, g14, g15⟩ := keepS _ hX
    exact ⟨set_far8 g0 (by exact hne) _ _ _ _ _ _ _ _, set_far8 g1 (by exact hne) _ _ _ _ _ _ _ _, set_far8 g2 (by exact hne) _ _ _ _ _ _ _ _, set_far8 g3 (by exact hne) _ _ _ _ _ _ _ _, set_far8 g4 (by exact hne) _ _ _ _ _ _ _ _, set_far8 g5 (by exact hne) _ _ _ _ _ _ _ _, set_far8 g6 (by exact hne) _ _ _ _ _ _ _ _, set_far8 g7 (by exact hne) _ _ _ _ _ _ _ _, set_far8 g8 (by exact hne) _ _ _ _ _ _ _ _, set_far8 g9 (by exact hne) _ _ _ _ _ _ _ _, set_far8 g10 (by exact hne) _ _ _ _ _ _ _ _, set_far8 g11 (by exact hne) _ _ _ _ _ _ _ _, set_far8 g12 (by exact hne) _ _ _ _ _ _ _ _, set_far8 g13 (by exact hne) _ _ _ _ _ _ _ _, set_far8 g14 (by exact hne) _ _ _ _ _ _ _ _, set_far8 g15 (by exact hne) _ _ _ _ _ _ _ _⟩
  clear hK K
  try simp only [List.getElem_toArray, List.getElem_cons_zero, List.getElem_cons_succ, Act.put, List.setIfInBounds_toArray, List.set_cons_zero, List.set_cons_succ]
  refine wpAnyH_done (by kernel_rfl) ?_ _
  refine NoPanic.normal ?_
  clear hHeld keepS
  have hbX := bel_then hbw hX
  go_wp2_with fail
  refine bodyPost_ret (v := R.v) (by simp [results, Try.results37, go_sem, Fa.v, r0, r1, r2, r3, r4, r5, r6, r7, fz]) rfl ⟨rfl, ?_⟩
  repeat (first | with_reducible exact Below.refl _ _ | with_reducible assumption | with_reducible refine bel_drew ?_ | with_reducible refine bel_alloc ?_ _ | with_reducible refine bel_setb ?_ (by omega) _)
set_option maxRecDepth 100000 in
set_option maxHeartbeats 6400000 in
theorem one_or (s0 s1 s2 s3 : Nat) (lo hi : Int) (a : Fa) (b : Fa) (R : Fa) (A : Option Addr) (c : Nat) (w : World) (h : Reads w 8 A 2 (a.cells ++ b.cells))
    (hcall : ∀ w : World, Calls Try.prog 48 #[a.v, b.v] w fun e w' => e = .returned R.v ∧ Below w.heap.size w w') :
    Calls Try.prog 37 #[.agg #[.int .i64 6, .int .u64 (s0 : Int), .int .u64 (s1 : Int), .int .u64 (s2 : Int), .int .u64 (s3 : Int), .int .i64 lo, .int .i64 hi], .slice A 2 c] w fun e w' => e = .returned R.v ∧ Below w.heap.size w w' := by
  obtain ⟨ad, rfl, hc⟩ := h.2 (by omega)
  have c0 : w.cell? ad = some (.bool a.never) := hc 0 _ rfl
  have c1 : w.cell? ⟨ad.block, ad.off + 1, none⟩ = some (.int .i64 a.least) := hc 1 _ rfl
  have c2 : w.cell? ⟨ad.block, ad.off + 2, none⟩ = some (.int .i64 a.most) := hc 2 _ rfl
  have c3 : w.cell? ⟨ad.block, ad.off + 3, none⟩ = some (.int .u64 (a.first.a : Int)) := hc 3 _ rfl
  have c4 : w.cell? ⟨ad.block, ad.off + 4, none⟩ = some (.int .u64 (a.first.b : Int)) := hc 4 _ rfl
  have c5 : w.cell? ⟨ad.block, ad.off + 5, none⟩ = some (.int .u64 (a.first.c : Int)) := hc 5 _ rfl
  have c6 : w.cell? ⟨ad.block, ad.off + 6, none⟩ = some (.int .u64 (a.first.d : Int)) := hc 6 _ rfl
  have c7 : w.cell? ⟨ad.block, ad.off + 7, none⟩ = some (.bool a.ends) := hc 7 _ rfl
  have c8 : w.cell? ⟨ad.block, ad.off + 8, none⟩ = some (.bool b.never) := hc 8 _ rfl
  have c9 : w.cell? ⟨ad.block, ad.off + 8 + 1, none⟩ = some (.int .i64 b.least) := hc 9 _ rfl
  have c10 : w.cell? ⟨ad.block, ad.off + 8 + 2, none⟩ = some (.int .i64 b.most) := hc 10 _ rfl
  have c11 : w.cell? ⟨ad.block, ad.off + 8 + 3, none⟩ = some (.int .u64 (b.first.a : Int)) := hc 11 _ rfl
  have c12 : w.cell? ⟨ad.block, ad.off + 8 + 4, none⟩ = some (.int .u64 (b.first.b : Int)) := hc 12 _ rfl
  have c13 : w.cell? ⟨ad.block, ad.off + 8 + 5, none⟩ = some (.int .u64 (b.first.c : Int)) := hc 13 _ rfl
  have c14 : w.cell? ⟨ad.block, ad.off + 8 + 6, none⟩ = some (.int .u64 (b.first.d : Int)) := hc 14 _ rfl
  have c15 : w.cell? ⟨ad.block, ad.off + 8 + 7, none⟩ = some (.bool b.ends) := hc 15 _ rfl
  clear h hc
  simp only [Fa.v] at hcall
  go_enter Try.func37, Try.ntmps37
  go_wp2_with fail
  obtain ⟨hnd, hq, fq, hz, hbw, hmv⟩ := one_box w 6 s0 s1 s2 s3 lo hi 63 31
  have hne : ad.block ≠ w.heap.size + 1 := by have := World.block_lt_of_cell? w ad c0; omega
  have hnn : w.heap.size ≠ w.heap.size + 1 := by omega
  replace c0 := hmv _ _ c0
  replace c1 := hmv _ _ c1
  replace c2 := hmv _ _ c2
  replace c3 := hmv _ _ c3
  replace c4 := hmv _ _ c4
  replace c5 := hmv _ _ c5
  replace c6 := hmv _ _ c6
  replace c7 := hmv _ _ c7
  replace c8 := hmv _ _ c8
  replace c9 := hmv _ _ c9
  replace c10 := hmv _ _ c10
  replace c11 := hmv _ _ c11
  replace c12 := hmv _ _ c12
  replace c13 := hmv _ _ c13
  replace c14 := hmv _ _ c14
  replace c15 := hmv _ _ c15
  clear hmv
  generalize ((w.alloc (.cells #[.int .i64 6, .int .u64 (s0 : Int), .int .u64 (s1 : Int), .int .u64 (s2 : Int), .int .u64 (s3 : Int), .int .i64 lo, .int .i64 hi] 63)).alloc (.cells #[.bool false, .int .i64 0, .int .i64 0, .int .u64 0, .int .u64 0, .int .u64 0, .int .u64 0, .bool false] 31)) = W2 at *
  obtain ⟨q0, q1, q2, q3, q4, q5, q6, q7⟩ := hq
  obtain ⟨n0, n1, n2, n3, n4, n5, n6⟩ := hnd
  simp only [Fa.zero, S.zero] at q0 q1 q2 q3 q4 q5 q6 q7
  have keepS : ∀ w', Below W2.heap.size W2 w' → (w'.cell? ad = some (.bool a.never) ∧ w'.cell? ⟨ad.block, ad.off + 1, none⟩ = some (.int .i64 a.least) ∧ w'.cell? ⟨ad.block, ad.off + 2, none⟩ = some (.int .i64 a.most) ∧ w'.cell? ⟨ad.block, ad.off + 3, none⟩ = some (.int .u64 (a.first.a : Int)) ∧ w'.cell? ⟨ad.block, ad.off + 4, none⟩ = some (.int .u64 (a.first.b : Int)) ∧ w'.cell? ⟨ad.block, ad.off + 5, none⟩ = some (.int .u64 (a.first.c : Int)) ∧ w'.cell? ⟨ad.block, ad.off + 6, none⟩ = some (.int .u64 (a.first.d : Int)) ∧ w'.cell? ⟨ad.block, ad.off + 7, none⟩ = some (.bool a.ends) ∧ w'.cell? ⟨ad.block, ad.off + 8, none⟩ = some (.bool b.never) ∧ w'.cell? ⟨ad.block, ad.off + 8 + 1, none⟩ = some (.int .i64 b.least) ∧ w'.cell? ⟨ad.block, ad.off + 8 + 2, none⟩ = some (.int .i64 b.most) ∧ w'.cell? ⟨ad.block, ad.off + 8 + 3, none⟩ = some (.int .u64 (b.first.a : Int)) ∧ w'.cell? ⟨ad.block, ad.off + 8 + 4, none⟩ = some (.int .u64 (b.first.b : Int)) ∧ w'.cell? ⟨ad.block, ad.off + 8 + 5, none⟩ = some (.int .u64 (b.first.c : Int)) ∧ w'.cell? ⟨ad.block, ad.off + 8 + 6, none⟩ = some (.int .u64 (b.first.d : Int)) ∧ w'.cell? ⟨ad.block, ad.off + 8 + 7, none⟩ = some (.bool b.ends)) := fun w' hX => ⟨cell_below hX c0, cell_below hX c1, cell_below hX c2, cell_below hX c3, cell_below hX c4, cell_below hX c5, cell_below hX c6, cell_below hX c7, cell_below hX c8, cell_below hX c9, cell_below hX c10, cell_below hX c11, cell_below hX c12, cell_below hX c13, cell_below hX c14, cell_below hX c15⟩
  refine wp_region_noPanic ?_
  refine wp_region_held_drew (S := fun w' => w'.cell? ad = some (.bool a.never) ∧ w'.cell? ⟨ad.block, ad.off + 1, none⟩ = some (.int .i64 a.least) ∧ w'.cell? ⟨ad.block, ad.off + 2, none⟩ = some (.int .i64 a.most) ∧ w'.cell? ⟨ad.block, ad.off + 3, none⟩ = some (.int .u64 (a.first.a : Int)) ∧ w'.cell? ⟨ad.block, ad.off + 4, none⟩ = some (.int .u64 (a.first.b : Int)) ∧ w'.cell? ⟨ad.block, ad.off + 5, none⟩ = some (.int .u64 (a.first.c : Int)) ∧ w'.cell? ⟨ad.block, ad.off + 6, none⟩ = some (.int .u64 (a.first.d : Int)) ∧ w'.cell? ⟨ad.block, ad.off + 7, none⟩ = some (.bool a.ends) ∧ w'.cell? ⟨ad.block, ad.off + 8, none⟩ = some (.bool b.never) ∧ w'.cell? ⟨ad.block, ad.off + 8 + 1, none⟩ = some (.int .i64 b.least) ∧ w'.cell? ⟨ad.block, ad.off + 8 + 2, none⟩ = some (.int .i64 b.most) ∧ w'.cell? ⟨ad.block, ad.off + 8 + 3, none⟩ = some (.int .u64 (b.first.a : Int)) ∧ w'.cell? ⟨ad.block, ad.off + 8 + 4, none⟩ = some (.int .u64 (b.first.b : Int)) ∧ w'.cell? ⟨ad.block, ad.off + 8 + 5, none⟩ = some (.int .u64 (b.first.c : Int)) ∧ w'.cell? ⟨ad.block, ad.off + 8 + 6, none⟩ = some (.int .u64 (b.first.d : Int)) ∧ w'.cell? ⟨ad.block, ad.off + 8 + 7, none⟩ = some (.bool b.ends)) (by kernel_rfl) (keepS _ (bel_drew (Below.refl _ _))) (fun hHeld => ?_)
  refine wpAnyH_take (i := 0) (v := ?_) rfl (by kernel_rfl) (by kernel_rfl) (by kernel_rfl) (fun _ _ _ h => h) (Or.inl ⟨by kernel_rfl, ?_⟩) (by assumption) ?_
  rotate_left
  · intro w hSw
    try dsimp only at hSw
    go_simp
    try with_reducible rfl
  try simp only [List.getElem_toArray, List.getElem_cons_zero, List.getElem_cons_succ, Act.put, List.setIfInBounds_toArray, List.set_cons_zero, List.set_cons_succ]
  refine wpAnyH_take (i := 1) (v := ?_) rfl (by kernel_rfl) (by kernel_rfl) (by kernel_rfl) (fun _ _ _ h => h) (Or.inl ⟨by kernel_rfl, ?_⟩) (by assumption) ?_
  rotate_left
  · intro w hSw
    try dsimp only at hSw
    go_simp
    try with_reducible rfl
  try simp only [List.getElem_toArray, List.getElem_cons_zero, List.getElem_cons_succ, Act.put, List.setIfInBounds_toArray, List.set_cons_zero, List.set_cons_succ]
  refine wpAnyH_take (i := 2) (v := ?_) rfl (by kernel_rfl) (by kernel_rfl) (by kernel_rfl) (fun _ _ _ h => h) (Or.inl ⟨by kernel_rfl, ?_⟩) (by assumption) ?_
  rotate_left
  · intro w hSw
    try dsimp only at hSw
    go_simp
    try with_reducible rfl
  try simp only [List.getElem_toArray, List.getElem_cons_zero, List.getElem_cons_succ, Act.put, List.setIfInBounds_toArray, List.set_cons_zero, List.set_cons_succ]
  refine wpAnyH_take (i := 3) (v := ?_) rfl (by kernel_rfl) (by kernel_rfl) (by kernel_rfl) (fun _ _ _ h => h) (Or.inl ⟨by kernel_rfl, ?_⟩) (by assumption) ?_
  rotate_left
  · intro w hSw
    try dsimp only at hSw
    go_simp
    try with_reducible rfl
  try simp only [List.getElem_toArray, List.getElem_cons_zero, List.getElem_cons_succ, Act.put, List.setIfInBounds_toArray, List.set_cons_zero, List.set_cons_succ]
  refine wpAnyH_take (i := 4) (v := ?_) rfl (by kernel_rfl) (by kernel_rfl) (by kernel_rfl) (fun _ _ _ h => h) (Or.inl ⟨by kernel_rfl, ?_⟩) (by assumption) ?_
  rotate_left
  · intro w hSw
    try dsimp only at hSw
    go_simp
    try with_reducible rfl
  try simp only [List.getElem_toArray, List.getElem_cons_zero, List.getElem_cons_succ, Act.put, List.setIfInBounds_toArray, List.set_cons_zero, List.set_cons_succ]
  refine wpAnyH_take (i := 5) (v := ?_) rfl (by kernel_rfl) (by kernel_rfl) (by kernel_rfl) (fun _ _ _ h => h) (Or.inl ⟨by kernel_rfl, ?_⟩) (by assumption) ?_
  rotate_left
  · intro w hSw
    try dsimp only at hSw
    go_simp
    try with_reducible rfl
  try simp only [List.getElem_toArray, List.getElem_cons_zero, List.getElem_cons_succ, Act.put, List.setIfInBounds_toArray, List.set_cons_zero, List.set_cons_succ]
  refine wpAnyH_ready (rs := [6]) (by kernel_rfl) (by simp) ?_
  refine AllReadyH.cons rfl (fun K hK => ?_) AllReadyH.nil
  go_simp
  refine (hcall _).mono ?_
  rintro e w' ⟨rfl, hb⟩
  have hX : Below W2.heap.size W2 w' := by
    refine bel_then ?_ hb
    repeat (first | with_reducible exact Below.refl _ _ | with_reducible assumption | with_reducible refine bel_drew ?_ | with_reducible refine bel_alloc ?_ _ | with_reducible refine bel_setb ?_ (by omega) _)
  refine hK.out _ _ (keepS _ hX) (fun hHeld => ?_)
  clear hb
  have fz : ∀ j, w'.frozen? ⟨w.heap.size + 1, j, none⟩ = false := fun j => (hX.frozen (p := ⟨w.heap.size + 1, j, none⟩) hz).trans (fq j)
  have r0 := cell_below hX q0
  have r1 := cell_below hX q1
  have r2 := cell_below hX q2
  have r3 := cell_below hX q3
  have r4 := cell_below hX q4
  have r5 := cell_below hX q5
  have r6 := cell_below hX q6
  have r7 := cell_below hX q7
  clear hK K
  try simp only [List.getElem_toArray, List.getElem_cons_zero, List.getElem_cons_succ, Act.put, List.setIfInBounds_toArray, List.set_cons_zero, List.set_cons_succ]
  refine wpAnyH_ready (rs := [7]) (by kernel_rfl) (by simp) ?_
  refine AllReadyH.cons rfl (fun K hK => ?_) AllReadyH.nil
  go_simp
  refine hK.out _ _ ?_ (fun hHeld => ?_)
  · obtain ⟨g0, g1, g2, g3, g4, g5, g6, g7, g8, g9, g10, g11, g12, g13, g14, g15⟩ := keepS _ hX
    exact ⟨set_far8 g0 (by exact hne) _ _ _ _ _ _ _ _, set_far8 g1 (by exact hne) _ _ _ _ _ _ _ _, set_far8 g2 (by exact hne) _ _ _ _ _ _ _ _, set_far8 g3 (by exact hne) _ _ _ _ _ _ _ _, set_far8 g4 (by exact hne) _ _ _ _ _ _ _ _, set_far8 g5 (by exact hne) _ _ _ _ _ _ _ _, set_far8 g6 (by exact hne) _ _ _ _ _ _ _ _, set_far8 g7 (by exact hne) _ _ _ _ _ _ _ _, set_far8 g8 (by exact hne) _ _ _ _ _ _ _ _, set_far8 g9 (by exact hne) _ _ _ _ _ _ _ _, set_far8 g10 (by exact hne) _ _ _ _ _ _ _ _, set_far8 g11 (by exact hne) _ _ _ _ _ _ _ _, set_far8 g12 (by exact hne) _ _ _ _ _ _ _ _, set_far8 g13 (by exact hne) _ _ _ _ _ _ _ _, set_far8 g14 (by exact hne) _ _ _ _ _ _ _ _, set_far8 g15 (by exact hne) _ _ _ _ _ _ _ _⟩
  clear hK K
  try simp only [List.getElem_toArray, List.getElem_cons_zero, List.getElem_cons_succ, Act.put, List.setIfInBounds_toArray, List.set_cons_zero, List.set_cons_succ]
  refine wpAnyH_done (by kernel_rfl) ?_ _
  refine NoPanic.normal ?_
  clear hHeld keepS
  have hbX := bel_then hbw hX
  go_wp2_with fail
  refine bodyPost_ret (v := R.v) (by simp [results, Try.results37, go_sem, Fa.v, r0, r1, r2, r3, r4, r5, r6, r7, fz]) rfl ⟨rfl, ?_⟩
  repeat (first | with_reducible exact Below.refl _ _ | with_reducible assumption | with_reducible refine bel_drew ?_ | with_reducible refine bel_alloc ?_ _ | with_reducible refine bel_setb ?_ (by omega) _)
set_option maxRecDepth 100000 in
set_option maxHeartbeats 6400000 in
theorem one_rep (s0 s1 s2 s3 : Nat) (lo hi : Int) (a : Fa) (R : Fa) (A : Option Addr) (c : Nat) (w : World) (h : Reads w 8 A 1 (a.cells))
    (hcall : ∀ w : World, Calls Try.prog 49 #[.agg #[.int .i64 7, .int .u64 (s0 : Int), .int .u64 (s1 : Int), .int .u64 (s2 : Int), .int .u64 (s3 : Int), .int .i64 lo, .int .i64 hi], a.v] w fun e w' => e = .returned R.v ∧ Below w.heap.size w w') :
    Calls Try.prog 37 #[.agg #[.int .i64 7, .int .u64 (s0 : Int), .int .u64 (s1 : Int), .int .u64 (s2 : Int), .int .u64 (s3 : Int), .int .i64 lo, .int .i64 hi], .slice A 1 c] w fun e w' => e = .returned R.v ∧ Below w.heap.size w w' := by
  obtain ⟨ad, rfl, hc⟩ := h.2 (by omega)
  have c0 : w.cell? ad = some (.bool a.never) := hc 0 _ rfl
  have c1 : w.cell? ⟨ad.block, ad.off + 1, none⟩ = some (.int .i64 a.least) := hc 1 _ rfl
  have c2 : w.cell? ⟨ad.block, ad.off + 2, none⟩ = some (.int .i64 a.most) := hc 2 _ rfl
  have c3 : w.cell? ⟨ad.block, ad.off + 3, none⟩ = some (.int .u64 (a.first.a : Int)) := hc 3 _ rfl
  have c4 : w.cell? ⟨ad.block, ad.off + 4, none⟩ = some (.int .u64 (a.first.b : Int)) := hc 4 _ rfl
  have c5 : w.cell? ⟨ad.block, ad.off + 5, none⟩ = some (.int .u64 (a.first.c : Int)) := hc 5 _ rfl
  have c6 : w.cell? ⟨ad.block, ad.off + 6, none⟩ = some (.int .u64 (a.first.d : Int)) := hc 6 _ rfl
  have c7 : w.cell? ⟨ad.block, ad.off + 7, none⟩ = some (.bool a.ends) := hc 7 _ rfl
  clear h hc
  simp only [Fa.v] at hcall
  go_enter Try.func37, Try.ntmps37
  go_wp2_with fail
  obtain ⟨hnd, hq, fq, hz, hbw, hmv⟩ := one_box w 7 s0 s1 s2 s3 lo hi 63 31
  have hne : ad.block ≠ w.heap.size + 1 := by have := World.block_lt_of_cell? w ad c0; omega
  have hnn : w.heap.size ≠ w.heap.size + 1 := by omega
  replace c0 := hmv _ _ c0
  replace c1 := hmv _ _ c1
  replace c2 := hmv _ _ c2
  replace c3 := hmv _ _ c3
  replace c4 := hmv _ _ c4
  replace c5 := hmv _ _ c5
  replace c6 := hmv _ _ c6
  replace c7 := hmv _ _ c7
  clear hmv
  generalize ((w.alloc (.cells #[.int .i64 7, .int .u64 (s0 : Int), .int .u64 (s1 : Int), .int .u64 (s2 : Int), .int .u64 (s3 : Int), .int .i64 lo, .int .i64 hi] 63)).alloc (.cells #[.bool false, .int .i64 0, .int .i64 0, .int .u64 0, .int .u64 0, .int .u64 0, .int .u64 0, .bool false] 31)) = W2 at *
  obtain ⟨q0, q1, q2, q3, q4, q5, q6, q7⟩ := hq
  obtain ⟨n0, n1, n2, n3, n4, n5, n6⟩ := hnd
  simp only [Fa.zero, S.zero] at q0 q1 q2 q3 q4 q5 q6 q7
  have keepS : ∀ w', Below W2.heap.size W2 w' → (w'.cell? ad = some (.bool a.never) ∧ w'.cell? ⟨ad.block, ad.off + 1, none⟩ = some (.int .i64 a.least) ∧ w'.cell? ⟨ad.block, ad.off + 2, none⟩ = some (.int .i64 a.most) ∧ w'.cell? ⟨ad.block, ad.off + 3, none⟩ = some (.int .u64 (a.first.a : Int)) ∧ w'.cell? ⟨ad.block, ad.off + 4, none⟩ = some (.int .u64 (a.first.b : Int)) ∧ w'.cell? ⟨ad.block, ad.off + 5, none⟩ = some (.int .u64 (a.first.c : Int)) ∧ w'.cell? ⟨ad.block, ad.off + 6, none⟩ = some (.int .u64 (a.first.d : Int)) ∧ w'.cell? ⟨ad.block, ad.off + 7, none⟩ = some (.bool a.ends) ∧ w'.cell? ⟨w.heap.size, 0, none⟩ = some (.int .i64 7) ∧ w'.cell? ⟨w.heap.size, 1, none⟩ = some (.int .u64 (s0 : Int)) ∧ w'.cell? ⟨w.heap.size, 2, none⟩ = some (.int .u64 (s1 : Int)) ∧ w'.cell? ⟨w.heap.size, 3, none⟩ = some (.int .u64 (s2 : Int)) ∧ w'.cell? ⟨w.heap.size, 4, none⟩ = some (.int .u64 (s3 : Int)) ∧ w'.cell? ⟨w.heap.size, 5, none⟩ = some (.int .i64 lo) ∧ w'.cell? ⟨w.heap.size, 6, none⟩ = some (.int .i64 hi)) := fun w' hX => ⟨cell_below hX c0, cell_below hX c1, cell_below hX c2, cell_below hX c3, cell_below hX c4, cell_below hX c5, cell_below hX c6, cell_below hX c7, cell_below hX n0, cell_below hX n1, cell_below hX n2, cell_below hX n3, cell_below hX n4, cell_below hX n5, cell_below hX n6⟩
  refine wp_region_noPanic ?_
  refine wp_region_held_drew (S := fun w' => w'.cell? ad = some (.bool a.never) ∧ w'.cell? ⟨ad.block, ad.off + 1, none⟩ = some (.int .i64 a.least) ∧ w'.cell? ⟨ad.block, ad.off + 2, none⟩ = some (.int .i64 a.most) ∧ w'.cell? ⟨ad.block, ad.off + 3, none⟩ = some (.int .u64 (a.first.a : Int)) ∧ w'.cell? ⟨ad.block, ad.off + 4, none⟩ = some (.int .u64 (a.first.b : Int)) ∧ w'.cell? ⟨ad.block, ad.off + 5, none⟩ = some (.int .u64 (a.first.c : Int)) ∧ w'.cell? ⟨ad.block, ad.off + 6, none⟩ = some (.int .u64 (a.first.d : Int)) ∧ w'.cell? ⟨ad.block, ad.off + 7, none⟩ = some (.bool a.ends) ∧ w'.cell? ⟨w.heap.size, 0, none⟩ = some (.int .i64 7) ∧ w'.cell? ⟨w.heap.size, 1, none⟩ = some (.int .u64 (s0 : Int)) ∧ w'.cell? ⟨w.heap.size, 2, none⟩ = some (.int .u64 (s1 : Int)) ∧ w'.cell? ⟨w.heap.size, 3, none⟩ = some (.int .u64 (s2 : Int)) ∧ w'.cell? ⟨w.heap.size, 4, none⟩ = some (.int .u64 (s3 : Int)) ∧ w'.cell? ⟨w.heap.size, 5, none⟩ = some (.int .i64 lo) ∧ w'.cell? ⟨w.heap.size, 6, none⟩ = some (.int .i64 hi)) (by kernel_rfl) (keepS _ (bel_drew (Below.refl _ _))) (fun hHeld => ?_)
  refine wpAnyH_take (i := 0) (v := ?_) rfl (by kernel_rfl) (by kernel_rfl) (by kernel_rfl) (fun _ _ _ h => h) (Or.inl ⟨by kernel_rfl, ?_⟩) (by assumption) ?_
  rotate_left
  · intro w hSw
    try dsimp only at hSw
    go_simp
    try with_reducible rfl
  try simp only [List.getElem_toArray, List.getElem_cons_zero, List.getElem_cons_succ, Act.put, List.setIfInBounds_toArray, List.set_cons_zero, List.set_cons_succ]
  refine wpAnyH_take (i := 1) (v := ?_) rfl (by kernel_rfl) (by kernel_rfl) (by kernel_rfl) (fun _ _ _ h => h) (Or.inl ⟨by kernel_rfl, ?_⟩) (by assumption) ?_
  rotate_left
  · intro w hSw
    try dsimp only at hSw
    go_simp
    try with_reducible rfl
  try simp only [List.getElem_toArray, List.getElem_cons_zero, List.getElem_cons_succ, Act.put, List.setIfInBounds_toArray, List.set_cons_zero, List.set_cons_succ]
  refine wpAnyH_take (i := 2) (v := ?_) rfl (by kernel_rfl) (by kernel_rfl) (by kernel_rfl) (fun _ _ _ h => h) (Or.inl ⟨by kernel_rfl, ?_⟩) (by assumption) ?_
  rotate_left
  · intro w hSw
    try dsimp only at hSw
    go_simp
    try with_reducible rfl
  try simp only [List.getElem_toArray, List.getElem_cons_zero, List.getElem_cons_succ, Act.put, List.setIfInBounds_toArray, List.set_cons_zero, List.set_cons_succ]
  refine wpAnyH_take (i := 3) (v := ?_) rfl (by kernel_rfl) (by kernel_rfl) (by kernel_rfl) (fun _ _ _ h => h) (Or.inl ⟨by kernel_rfl, ?_⟩) (by assumption) ?_
  rotate_left
  · intro w hSw
    try dsimp only at hSw
    go_simp
    try with_reducible rfl
  try simp only [List.getElem_toArray, List.getElem_cons_zero, List.getElem_cons_succ, Act.put, List.setIfInBounds_toArray, List.set_cons_zero, List.set_cons_succ]
  refine wpAnyH_ready (rs := [4]) (by kernel_rfl) (by simp) ?_
  refine AllReadyH.cons rfl (fun K hK => ?_) AllReadyH.nil
  go_simp
  refine (hcall _).mono ?_
  rintro e w' ⟨rfl, hb⟩
  have hX : Below W2.heap.size W2 w' := by
    refine bel_then ?_ hb
    repeat (first | with_reducible exact Below.refl _ _ | with_reducible assumption | with_reducible refine bel_drew ?_ | with_reducible refine bel_alloc ?_ _ | with_reducible refine bel_setb ?_ (by omega) _)
  refine hK.out _ _ (keepS _ hX) (fun hHeld => ?_)
  clear hb
  have fz : ∀ j, w'.frozen? ⟨w.heap.size + 1, j, none⟩ = false := fun j => (hX.frozen (p := ⟨w.heap.size + 1, j, none⟩) hz).trans (fq j)
  have r0 := cell_below hX q0
  have r1 := cell_below hX q1
  have r2 := cell_below hX q2
  have r3 := cell_below hX q3
  have r4 := cell_below hX q4
  have r5 := cell_below hX q5
  have r6 := cell_below hX q6
  have r7 := cell_below hX q7
  clear hK K
  try simp only [List.getElem_toArray, List.getElem_cons_zero, List.getElem_cons_succ, Act.put, List.setIfInBounds_toArray, List.set_cons_zero, List.set_cons_succ]
  refine wpAnyH_ready (rs := [5]) (by kernel_rfl) (by simp) ?_
  refine AllReadyH.cons rfl (fun K hK => ?_) AllReadyH.nil
  go_simp
  refine hK.out _ _ ?_ (fun hHeld => ?_)
  · obtain ⟨g0, g1, g2, g3, g4, g5, g6, g7, g8, g9, g10, g11, g12, g13, g14⟩ := keepS _ hX
    exact ⟨set_far8 g0 (by exact hne) _ _ _ _ _ _ _ _, set_far8 g1 (by exact hne) _ _ _ _ _ _ _ _, set_far8 g2 (by exact hne) _ _ _ _ _ _ _ _, set_far8 g3 (by exact hne) _ _ _ _ _ _ _ _, set_far8 g4 (by exact hne) _ _ _ _ _ _ _ _, set_far8 g5 (by exact hne) _ _ _ _ _ _ _ _, set_far8 g6 (by exact hne) _ _ _ _ _ _ _ _, set_far8 g7 (by exact hne) _ _ _ _ _ _ _ _, set_far8 g8 (by exact hnn) _ _ _ _ _ _ _ _, set_far8 g9 (by exact hnn) _ _ _ _ _ _ _ _, set_far8 g10 (by exact hnn) _ _ _ _ _ _ _ _, set_far8 g11 (by exact hnn) _ _ _ _ _ _ _ _, set_far8 g12 (by exact hnn) _ _ _ _ _ _ _ _, set_far8 g13 (by exact hnn) _ _ _ _ _ _ _ _, set_far8 g14 (by exact hnn) _ _ _ _ _ _ _ _⟩
  clear hK K
  try simp only [List.getElem_toArray, List.getElem_cons_zero, List.getElem_cons_succ, Act.put, List.setIfInBounds_toArray, List.set_cons_zero, List.set_cons_succ]
  refine wpAnyH_done (by kernel_rfl) ?_ _
  refine NoPanic.normal ?_
  clear hHeld keepS
  have hbX := bel_then hbw hX
  go_wp2_with fail
  refine bodyPost_ret (v := R.v) (by simp [results, Try.results37, go_sem, Fa.v, r0, r1, r2, r3, r4, r5, r6, r7, fz]) rfl ⟨rfl, ?_⟩
  repeat (first | with_reducible exact Below.refl _ _ | with_reducible assumption | with_reducible refine bel_drew ?_ | with_reducible refine bel_alloc ?_ _ | with_reducible refine bel_setb ?_ (by omega) _)
theorem frep_any (x : Nd) (a : Fa) (w : World) (hx : 0 ≤ x.lo ∧ x.lo ≤ 32 ∧ (x.hi = -1 ∨ x.lo ≤ x.hi ∧ x.hi ≤ 32)) (ha : a.ok) : Calls Try.prog 49 #[x.v, a.v] w fun e w' => e = .returned (faRep x a).v ∧ Below w.heap.size w w' := by
  obtain ⟨p1, p2, p3, p4, p5⟩ := ha
  have h := Go.Proofs.YtibabfgfahlekaaQ.rep_walk x.kind x.set.a x.set.b x.set.c x.set.d x.lo x.hi a.least a.most a.first.a a.first.b a.first.c a.first.d a.never a.ends w ⟨⟨by omega, by omega⟩, ⟨by omega, by omega⟩, ⟨p1, p2⟩, p3, p4⟩
  have e : Go.Proofs.YtibabfgfahlekaaQ.faV (Go.Proofs.YtibabfgfahlekaaQ.repV x.lo x.hi a.never a.least a.most a.first.a a.first.b a.first.c a.first.d a.ends) = (faRep x a).v := by
    unfold Go.Proofs.YtibabfgfahlekaaQ.repV faRep
    split
    · rfl
    · split
      · rfl
      · rfl
  rw [e] at h
  exact h

set_option maxRecDepth 100000 in
set_option maxHeartbeats 3200000 in
theorem one_leaf (k : Int) (hk : k = 1 ∨ k = 2 ∨ k = 3 ∨ k = 4) (s0 s1 s2 s3 : Nat) (lo hi : Int) (A : Option Addr) (n c : Nat) (w : World) :
    Calls Try.prog 37 #[.agg #[.int .i64 k, .int .u64 (s0 : Int), .int .u64 (s1 : Int), .int .u64 (s2 : Int), .int .u64 (s3 : Int), .int .i64 lo, .int .i64 hi], .slice A n c] w fun e w' => e = .returned (fFact ⟨k, ⟨s0, s1, s2, s3⟩, lo, hi⟩ []).v ∧ Below w.heap.size w w' := by
  rcases hk with rfl | rfl | rfl | rfl
  · by_cases hz : s0 = 0 ∧ s1 = 0 ∧ s2 = 0 ∧ s3 = 0
    · have e : fFact ⟨1, ⟨s0, s1, s2, s3⟩, lo, hi⟩ [] = Fa.none_ := by
        unfold fFact noSet
        rw [if_pos rfl, if_pos (by rw [decide_eq_true_eq]; exact hz)]
      rw [e]
      obtain ⟨rfl, rfl, rfl, rfl⟩ := hz
      go_enter Try.func37, Try.ntmps37
      go_wp2_with fail
      refine bodyPost_ret (v := Fa.none_.v) (by simp [results, Try.results37, go_sem]; rfl) rfl ⟨rfl, ?_⟩
      repeat (first | with_reducible exact Below.refl _ _ | with_reducible refine bel_drew ?_ | with_reducible refine bel_alloc ?_ _ | with_reducible refine bel_setb ?_ (by omega) _)
    · have e : fFact ⟨1, ⟨s0, s1, s2, s3⟩, lo, hi⟩ [] = ⟨false, 1, 1, ⟨s0, s1, s2, s3⟩, false⟩ := by
        unfold fFact noSet
        rw [if_pos rfl, if_neg (by rw [decide_eq_true_eq]; exact hz)]
      rw [e]
      have hz' : ((s0 : Int) == 0 && ((s1 : Int) == 0 && ((s2 : Int) == 0 && (s3 : Int) == 0))) = false := by
        cases hq : ((s0 : Int) == 0 && ((s1 : Int) == 0 && ((s2 : Int) == 0 && (s3 : Int) == 0))) with
        | false => rfl
        | true => simp only [Bool.and_eq_true, beq_iff_eq] at hq; exact absurd ⟨by omega, by omega, by omega, by omega⟩ hz
      go_enter Try.func37, Try.ntmps37
      go_wp2_with fail
      refine bodyPost_ret (v := Fa.v ⟨false, 1, 1, ⟨s0, s1, s2, s3⟩, false⟩) (by simp [results, Try.results37, go_sem]; rfl) rfl ⟨rfl, ?_⟩
      repeat (first | with_reducible exact Below.refl _ _ | with_reducible refine bel_drew ?_ | with_reducible refine bel_alloc ?_ _ | with_reducible refine bel_setb ?_ (by omega) _)
  all_goals
    go_enter Try.func37, Try.ntmps37
    go_wp2_with fail
    refine bodyPost_ret (v := Fa.zero.v) (by simp [results, Try.results37, go_sem]; rfl) rfl ⟨rfl, ?_⟩
    repeat (first | with_reducible exact Below.refl _ _ | with_reducible refine bel_drew ?_ | with_reducible refine bel_alloc ?_ _ | with_reducible refine bel_setb ?_ (by omega) _)
end Go.Proofs.Ytibabfgfahlekaa
