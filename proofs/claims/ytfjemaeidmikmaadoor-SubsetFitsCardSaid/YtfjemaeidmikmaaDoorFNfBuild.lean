import Derived.Test.YtfjemaeidmikmaaDoorFNfPart3
import Derived.Test.YtfjemaeidmikmaaDoorFM2
import Derived.Test.YtfjemaeidmikmaaDoorFM3
set_option linter.unusedVariables false
set_option linter.unusedSimpArgs false
namespace Go.Proofs.YtfjemaeidmikmaaDoorQ
open Go.RowKit Go.Proofs.YtfjemaeidmikmaaDoorW.PrintWords Go.Proofs.YtfjemaeidmikmaaDoorW.PrintLast Go.Proofs.Bs Go.Proofs.YtfjemaeidmikmaaDoor
def sets7 (l : List Value) (k : Nat) (v0 v1 v2 v3 v4 v5 v6 : Value) : List Value := ((((((l.set k v0).set (k + 1) v1).set (k + 2) v2).set (k + 3) v3).set (k + 4) v4).set (k + 5) v5).set (k + 6) v6
theorem sets7_at (s : St) (v0 v1 v2 v3 v4 v5 v6 : Value) (t : List Value) : sets7 (stCells s ++ t) 0 v0 v1 v2 v3 v4 v5 v6 = [v0, v1, v2, v3, v4, v5, v6] ++ t := rfl
theorem sets7_up (s : St) (k : Nat) (v0 v1 v2 v3 v4 v5 v6 : Value) (t : List Value) : sets7 (stCells s ++ t) (7 + k) v0 v1 v2 v3 v4 v5 v6 = stCells s ++ sets7 t k v0 v1 v2 v3 v4 v5 v6 := by
  unfold sets7;have h := stCells_length s;rw [List.set_append_right _ _ (by omega), List.set_append_right _ _ (by omega), List.set_append_right _ _ (by omega), List.set_append_right _ _ (by omega), List.set_append_right _ _ (by omega), List.set_append_right _ _ (by omega), List.set_append_right _ _ (by omega), h];rw [show 7 + k - 7 = k by omega, show 7 + k + 1 - 7 = k + 1 by omega, show 7 + k + 2 - 7 = k + 2 by omega, show 7 + k + 3 - 7 = k + 3 by omega, show 7 + k + 4 - 7 = k + 4 by omega, show 7 + k + 5 - 7 = k + 5 by omega, show 7 + k + 6 - 7 = k + 6 by omega]
theorem sets7_flat (y : St) : ∀ (l : List St) (k : Nat), k < l.length → sets7 (l.flatMap stCells) (k * 7) (.int .i64 y.f0) (.int .i64 y.f1) (.int .i64 y.f2) (.int .u64 y.f3.f0) (.int .u64 y.f3.f1) (.int .u64 y.f3.f2) (.int .u64 y.f3.f3) = (l.set k y).flatMap stCells
  | [], k, h => by simp at h
  | s :: l, 0, h => by
    rw [List.flatMap_cons, Nat.zero_mul, sets7_at, List.set_cons_zero, List.flatMap_cons]
    rfl
  | s :: l, k + 1, h => by
    have ih := sets7_flat y l k (by simpa using h)
    rw [List.flatMap_cons, show (k + 1) * 7 = 7 + k * 7 by omega, sets7_up, ih, List.set_cons_succ, List.flatMap_cons]
theorem reps_st' (w : World) (base : Nat) (ok : Nat → Prop) : ∀ sts : List St, Reps (Kd.M k64 w base ok) 7 sts (sts.flatMap stCells)
  | [] => Reps.none _ _
  | s :: l => by
    rw [List.flatMap_cons]
    exact Reps.c7 (k64_mkM w base ok s) (reps_st' w base ok l)
theorem own_R' {w : World} {base : Nat} {v : Value} {sts : List St} (h : w.ownsRow base 64 7 v sts.length (sts.flatMap stCells)) : Kd.R k64 64 w base (fun _ => True) v sts :=
  ⟨fun _ _ => trivial, sts.flatMap stCells, h, reps_st' w base _ sts⟩
def buildN (l : List Nd) : List St × Int × Int × Int :=
  if rightB l = true then
    (if attr fSz l (l.length - 1) ≤ 600 then (((attr fMk l (l.length - 1) []).out.set (attr fMk l (l.length - 1) []).last fSt), ((attr fMk l (l.length - 1) []).first : Int), ((attr fMk l (l.length - 1) []).last : Int), 0) else ([], 0, 0, 4))
  else ([], 0, 0, 3)
set_option maxRecDepth 100000 in
set_option maxHeartbeats 400000 in
theorem build_err (A0 : Option Addr) (c0 : Nat) (l0 : List S71) (w : World) (hr : Kd.C k71 w A0 l0.length l0) (hc : l0.length ≤ c0) (z : Int) (hz : facts_Size.f l0 = some z) (e0 : Int) (he : z < 0 ∧ e0 = 3 ∨ 600 < z ∧ e0 = 4) :
    Calls Tryd.prog 15 #[.slice A0 l0.length c0] w fun e w' => ∃ v, e = .returned (.tuple #[.agg #[v, .int .i64 0, .int .i64 0], .int .i64 e0]) ∧ Kd.R k64 64 w' w.heap.size (fun _ => True) v [] ∧ Below w.heap.size w w' := by
  have HR := Lib.hid hr;clear hr;rcases he with ⟨h1, rfl⟩ | ⟨h1, rfl⟩
  all_goals
    go_enter Tryd.func15, Tryd.ntmps15
    go_wp2_with fail
    refine (facts_Size.calls A0 c0 l0 z _ (Kd.C_alloc HR.out _) hc hz).mono ?_
    rintro e w1 ⟨rfl, hb⟩
    have HB1 := Lib.hid (Go.Proofs.YtfjemaeidmikmaaDoor.bel_then (Go.Proofs.YtfjemaeidmikmaaDoor.bel_alloc (Below.refl _ _) _) hb)
    have hrow : w1.heap[w.heap.size]? = some (.cells #[.slice none 0 0, .int .i64 0, .int .i64 0] 24 (0, 0)) := (hb.block w.heap.size (by simp)).trans (heap_alloc_new w _)
    have q0 : w1.cell? ⟨w.heap.size, 0, none⟩ = some (.slice none 0 0) := by rw [cell_of_row w1 _ 0 _ _ _ hrow]; rfl
    have q1 : w1.cell? ⟨w.heap.size, 1, none⟩ = some (.int .i64 0) := by rw [cell_of_row w1 _ 1 _ _ _ hrow]; rfl
    have q2 : w1.cell? ⟨w.heap.size, 2, none⟩ = some (.int .i64 0) := by rw [cell_of_row w1 _ 2 _ _ _ hrow]; rfl
    have k0 := frozen_of_row w1 _ 0 _ _ hrow
    have k1 := frozen_of_row w1 _ 1 _ _ hrow
    have k2 := frozen_of_row w1 _ 2 _ _ hrow
    clear hrow hb
    try (have h2 : ¬ (z < 0) := by omega)
    go_wp2_with fail
    refine bodyPost_ret (v := .tuple #[.agg #[.slice none 0 0, .int .i64 0, .int .i64 0], .int .i64 _]) (by simp [results, Tryd.results15, go_sem, q0, q1, q2, k0, k1, k2, Tryd.underlying24]) rfl ⟨_, rfl, own_R' (World.ownsRow_nil _ _ _ _), ?_⟩
    repeat refine Below.setCell ?_ (by simp) _
    exact HB1.out
set_option maxRecDepth 100000 in
set_option maxHeartbeats 800000 in
theorem build_yes (A0 : Option Addr) (c0 : Nat) (l0 : List S71) (w : World) (hr : Kd.C k71 w A0 l0.length l0) (hc : l0.length ≤ c0) (hw : ndsWf l0 = true) (hR : rightB (l0.map ndOf) = true) (hs : attr fSz (l0.map ndOf) (l0.length - 1) ≤ 600) (R : Mk) (hRM : attr fMk (l0.map ndOf) (l0.length - 1) [] = R) :
    Calls Tryd.prog 15 #[.slice A0 l0.length c0] w fun e w' => ∃ v, e = .returned (.tuple #[.agg #[v, .int .i64 R.first, .int .i64 R.last], .int .i64 0]) ∧ Kd.R k64 64 w' w.heap.size (fun _ => True) v (R.out.set R.last fSt) ∧ Below w.heap.size w w' := by
  have hb0 := (rightB_iff _).1 hR;(have hlen : 0 < l0.length := by have := hb0.2.2.1; rwa [List.length_map] at this);(have hl512 : l0.length ≤ 512 := by have := hb0.1; rwa [List.length_map] at this);have hsz := size_sz (l0.map ndOf) hR (l0.length - 1) (by rw [List.length_map]; omega);have hok := mk_ok (l0.map ndOf) hR (l0.length - 1) (by rw [List.length_map]; omega) [];(have hpart := fun (w0 : World) (h : Reads w0 7 A0 l0.length ((l0.map ndOf).flatMap Nd.cells)) (p : Nat) (hp : w0.heap.size ≤ p) => part_st A0 l0.length c0 (l0.map ndOf) hR (by omega) w0 h p hp (l0.length - 1) (by rw [List.length_map]; omega));have hrd := reads_nds hr hw;rw [hRM] at hok;generalize hN : attr fSz (l0.map ndOf) (l0.length - 1) = N at *
  have hz : facts_Size.f l0 = some (N : Int) := by
    unfold facts_Size.f;rw [if_pos ⟨by omega, hw⟩, sizeN_yes hR, List.length_map, hsz];congr 1;omega
  (have hla : R.last < R.out.length := by rw [hok.1]; simpa using hok.2.2.2.2);(have hol : R.out.length ≤ 600 := by rw [hok.1]; simpa using hs);have HR := Lib.hid hr;have HRD := Lib.hid hrd;have HP := Lib.hid hpart;have HRM := Lib.hid hRM;(have hn1 : ¬ ((N : Int) < 0) := by omega);(have hn2 : ¬ ((N : Int) > 600) := by omega);(have hn3 : (N : Int) ≤ 600 := by omega);(have hl1 : ((l0.length : Int) - 1) = ((l0.length - 1 : Nat) : Int) := by omega);have HL1 := Lib.hid hl1;clear hr hrd hpart hb0 hsz hok hN hRM hl1;go_enter Tryd.func15, Tryd.ntmps15;go_wp2_with fail;refine (facts_Size.calls A0 c0 l0 N _ (Kd.C_alloc HR.out _) hc hz).mono ?_;rintro e w1 ⟨rfl, hb⟩;have HB1 := Lib.hid (Go.Proofs.YtfjemaeidmikmaaDoor.bel_then (Go.Proofs.YtfjemaeidmikmaaDoor.bel_alloc (Below.refl _ _) _) hb);have hzz : w.heap.size < w1.heap.size := Nat.lt_of_lt_of_le (by simp) hb.size;have hrow : w1.heap[w.heap.size]? = some (.cells #[.slice none 0 0, .int .i64 0, .int .i64 0] 24 (0, 0)) := (hb.block w.heap.size (by simp)).trans (heap_alloc_new w _);have HROW := Lib.hid hrow;clear hrow hb;go_wp2_with fail;rw [HL1.out];have hB2 : BldG (w1.alloc (.cells #[.slice A0 l0.length c0, .slice none 0 0] 77)) w1.heap.size (.slice A0 l0.length c0) [] none := ⟨none, 0, heap_alloc_new w1 _, World.ownsRow_nil _ _ _ _, rfl⟩;refine (HP.out w1 (HRD.out.below HB1.out) w1.heap.size (Nat.le_refl _) _ [] none hB2 (Go.Proofs.YtfjemaeidmikmaaDoor.bel_alloc (Below.refl _ _) _) (by simp; omega)).mono ?_;rintro e w3 ⟨rfl, g3, hB3, hS3⟩;rw [HRM.out] at hB3;rw [HRM.out];have hrow3 : w3.heap[w.heap.size]? = some (.cells #[.slice none 0 0, .int .i64 0, .int .i64 0] 24 (0, 0)) := (hS3.below.block w.heap.size hzz).trans ((((Below.refl w1.heap.size w1).alloc (Nat.le_refl _) _).block w.heap.size hzz).trans HROW.out);have hbb : Below w.heap.size w w3 := Go.Proofs.YtfjemaeidmikmaaDoor.bel_then HB1.out (((Below.refl w1.heap.size w1).alloc (Nat.le_refl _) _).trans hS3.below);have hgr := hB3.row;obtain ⟨A, c, hh, HO, hgg⟩ := hB3;have hP5 := (Array.getElem?_eq_some_iff.1 hh).1;obtain ⟨h0, h1, f0, f1⟩ := row2 hh;obtain ⟨g, cap, hv, hg, hlt⟩ := HO.form (by omega);injection hv with hA _ hcap;subst hA;subst hcap;clear hgg hgr hS3 hB2 HROW HP HL1;generalize hP : w1.heap.size = P at *;(have hne : ¬ P = g := by omega);(have hne2 : ¬ g = P := by omega);(have hne3 : ¬ w.heap.size = g := by omega);(have hne4 : ¬ g = w.heap.size := by omega);(have hne5 : ¬ w.heap.size = P := by omega);(have hne6 : ¬ P = w.heap.size := by omega);have hlf : (R.out.flatMap stCells).length = R.out.length * 7 := flat_length stCells 7 stCells_length _
  obtain ⟨u0, x0⟩ : ∃ u, w3.cell? ⟨g, R.last * 7, none⟩ = some u := by
    obtain ⟨u, hu⟩ : ∃ u, (R.out.flatMap stCells)[R.last * 7]? = some u := ⟨_, List.getElem?_eq_getElem (by omega)⟩;have := HO.cellAt (R.last * 7) (by omega);rw [hu] at this;exact ⟨u, this⟩
  obtain ⟨u1, x1⟩ : ∃ u, w3.cell? ⟨g, R.last * 7 + 1, none⟩ = some u := by
    obtain ⟨u, hu⟩ : ∃ u, (R.out.flatMap stCells)[R.last * 7 + 1]? = some u := ⟨_, List.getElem?_eq_getElem (by omega)⟩;have := HO.cellAt (R.last * 7 + 1) (by omega);rw [hu] at this;exact ⟨u, this⟩
  obtain ⟨u2, x2⟩ : ∃ u, w3.cell? ⟨g, R.last * 7 + 2, none⟩ = some u := by
    obtain ⟨u, hu⟩ : ∃ u, (R.out.flatMap stCells)[R.last * 7 + 2]? = some u := ⟨_, List.getElem?_eq_getElem (by omega)⟩;have := HO.cellAt (R.last * 7 + 2) (by omega);rw [hu] at this;exact ⟨u, this⟩
  obtain ⟨u3, x3⟩ : ∃ u, w3.cell? ⟨g, R.last * 7 + 3, none⟩ = some u := by
    obtain ⟨u, hu⟩ : ∃ u, (R.out.flatMap stCells)[R.last * 7 + 3]? = some u := ⟨_, List.getElem?_eq_getElem (by omega)⟩;have := HO.cellAt (R.last * 7 + 3) (by omega);rw [hu] at this;exact ⟨u, this⟩
  obtain ⟨u4, x4⟩ : ∃ u, w3.cell? ⟨g, R.last * 7 + 4, none⟩ = some u := by
    obtain ⟨u, hu⟩ : ∃ u, (R.out.flatMap stCells)[R.last * 7 + 4]? = some u := ⟨_, List.getElem?_eq_getElem (by omega)⟩;have := HO.cellAt (R.last * 7 + 4) (by omega);rw [hu] at this;exact ⟨u, this⟩
  obtain ⟨u5, x5⟩ : ∃ u, w3.cell? ⟨g, R.last * 7 + 5, none⟩ = some u := by
    obtain ⟨u, hu⟩ : ∃ u, (R.out.flatMap stCells)[R.last * 7 + 5]? = some u := ⟨_, List.getElem?_eq_getElem (by omega)⟩;have := HO.cellAt (R.last * 7 + 5) (by omega);rw [hu] at this;exact ⟨u, this⟩
  obtain ⟨u6, x6⟩ : ∃ u, w3.cell? ⟨g, R.last * 7 + 6, none⟩ = some u := by
    obtain ⟨u, hu⟩ : ∃ u, (R.out.flatMap stCells)[R.last * 7 + 6]? = some u := ⟨_, List.getElem?_eq_getElem (by omega)⟩;have := HO.cellAt (R.last * 7 + 6) (by omega);rw [hu] at this;exact ⟨u, this⟩
  have z0 := HO.frozenAt (R.last * 7);have z1 := HO.frozenAt (R.last * 7 + 1);have z2 := HO.frozenAt (R.last * 7 + 2);have z3 := HO.frozenAt (R.last * 7 + 3);have z4 := HO.frozenAt (R.last * 7 + 4);have z5 := HO.frozenAt (R.last * 7 + 5);have z6 := HO.frozenAt (R.last * 7 + 6);have hs7 := (((((((HO.stored (R.last * 7) (.int .i64 6)).1.stored (R.last * 7 + 1) (.int .i64 0)).1.stored (R.last * 7 + 2) (.int .i64 0)).1.stored (R.last * 7 + 3) (.int .u64 0)).1.stored (R.last * 7 + 4) (.int .u64 0)).1.stored (R.last * 7 + 5) (.int .u64 0)).1.stored (R.last * 7 + 6) (.int .u64 0)).1
  have hs8 : ((((((((w3.setCell ⟨g, R.last * 7, none⟩ (.int .i64 6)).setCell ⟨g, R.last * 7 + 1, none⟩ (.int .i64 0)).setCell ⟨g, R.last * 7 + 2, none⟩ (.int .i64 0)).setCell ⟨g, R.last * 7 + 3, none⟩ (.int .u64 0)).setCell ⟨g, R.last * 7 + 4, none⟩ (.int .u64 0)).setCell ⟨g, R.last * 7 + 5, none⟩ (.int .u64 0)).setCell ⟨g, R.last * 7 + 6, none⟩ (.int .u64 0))).ownsRow (P + 1) 64 7 (.slice (some ⟨g, 0, none⟩) R.out.length c) R.out.length ((R.out.set R.last fSt).flatMap stCells) := by
    rw [← sets7_flat fSt R.out R.last hla];exact hs7
  have HS := Lib.hid hs8
  have hot : ∀ q : Nat, q ≠ g → ((((((((w3.setCell ⟨g, R.last * 7, none⟩ (.int .i64 6)).setCell ⟨g, R.last * 7 + 1, none⟩ (.int .i64 0)).setCell ⟨g, R.last * 7 + 2, none⟩ (.int .i64 0)).setCell ⟨g, R.last * 7 + 3, none⟩ (.int .u64 0)).setCell ⟨g, R.last * 7 + 4, none⟩ (.int .u64 0)).setCell ⟨g, R.last * 7 + 5, none⟩ (.int .u64 0)).setCell ⟨g, R.last * 7 + 6, none⟩ (.int .u64 0))).heap[q]? = w3.heap[q]? := fun q hq => by
    repeat rw [heap_setCell_other _ _ _ _ (by exact hq)]
  have HH := Lib.hid ((hot P hne).trans hh);have HR3 := Lib.hid ((hot w.heap.size hne3).trans hrow3)
  have hb7 : Below w.heap.size w ((((((((w3.setCell ⟨g, R.last * 7, none⟩ (.int .i64 6)).setCell ⟨g, R.last * 7 + 1, none⟩ (.int .i64 0)).setCell ⟨g, R.last * 7 + 2, none⟩ (.int .i64 0)).setCell ⟨g, R.last * 7 + 3, none⟩ (.int .u64 0)).setCell ⟨g, R.last * 7 + 4, none⟩ (.int .u64 0)).setCell ⟨g, R.last * 7 + 5, none⟩ (.int .u64 0)).setCell ⟨g, R.last * 7 + 6, none⟩ (.int .u64 0))) := by
    (repeat refine Below.setCell ?_ (by simp; omega) _);exact hbb
  have HB7 := Lib.hid hb7;clear HO hh hbb hrow3 hot hb7 hs7 hs8 hlf;go_upto_region 9 with fail;generalize (((((((w3.setCell ⟨g, R.last * 7, none⟩ (.int .i64 6)).setCell ⟨g, R.last * 7 + 1, none⟩ (.int .i64 0)).setCell ⟨g, R.last * 7 + 2, none⟩ (.int .i64 0)).setCell ⟨g, R.last * 7 + 3, none⟩ (.int .u64 0)).setCell ⟨g, R.last * 7 + 4, none⟩ (.int .u64 0)).setCell ⟨g, R.last * 7 + 5, none⟩ (.int .u64 0)).setCell ⟨g, R.last * 7 + 6, none⟩ (.int .u64 0)) = W7 at *;clear x0 x1 x2 x3 x4 x5 x6 z0 z1 z2 z3 z4 z5 z6 h0 h1 f0 f1;obtain ⟨h0, h1, f0, f1⟩ := row2 HH.out;(have q0 : W7.cell? ⟨w.heap.size, 0, none⟩ = some (.slice none 0 0) := by rw [cell_of_row W7 _ 0 _ _ _ HR3.out]; rfl);(have q1 : W7.cell? ⟨w.heap.size, 1, none⟩ = some (.int .i64 0) := by rw [cell_of_row W7 _ 1 _ _ _ HR3.out]; rfl);(have q2 : W7.cell? ⟨w.heap.size, 2, none⟩ = some (.int .i64 0) := by rw [cell_of_row W7 _ 2 _ _ _ HR3.out]; rfl);have k0 := frozen_of_row W7 _ 0 _ _ HR3.out;have k1 := frozen_of_row W7 _ 1 _ _ HR3.out;have k2 := frozen_of_row W7 _ 2 _ _ HR3.out;have hsl : (R.out.set R.last fSt).length = R.out.length := List.length_set;have HSL := Lib.hid hsl;clear hsl;go_wp2_with fail;refine bodyPost_ret (v := .tuple #[.agg #[.slice (some ⟨g, 0, none⟩) R.out.length c, .int .i64 R.first, .int .i64 R.last], .int .i64 0]) (by simp [results, Tryd.results15, go_sem, h0, h1, q0, q1, q2, k0, k1, k2, Tryd.underlying24]) rfl ⟨_, rfl, own_R' ?_, ?_⟩
  · rw [HSL.out];have h10 : W7.ownsRow (w.heap.size + 1) 64 7 (.slice (some ⟨g, 0, none⟩) R.out.length c) R.out.length ((R.out.set R.last fSt).flatMap stCells) := Go.Proofs.YtfjemaeidmikmaaDoor.own_mono HS.out (by omega);exact Go.Proofs.YtfjemaeidmikmaaDoor.own_mono (ownsRow_setCell_below (ownsRow_setCell_below (ownsRow_setCell_below h10 (by simp) _) (by simp) _) (by simp) _) (by omega)
  · (repeat refine Below.setCell ?_ (by simp) _);exact HB7.out
end Go.Proofs.YtfjemaeidmikmaaDoorQ
