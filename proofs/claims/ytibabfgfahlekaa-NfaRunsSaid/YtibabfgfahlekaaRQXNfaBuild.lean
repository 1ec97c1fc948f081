/- Pruned from its seat's text: what the theorem hangs on. -/
import Derived.Test.YtibabfgfahlekaaRNfBu1
import Derived.Test.YtibabfgfahlekaaRQTreeKids
import Derived.Test.YtibabfgfahlekaaRQFactsSize
/- nfa.Build at the page's example. -/
set_option linter.unusedVariables false
set_option linter.unusedSimpArgs false
namespace Go.Proofs.YtibabfgfahlekaaQ
open Go.RowKit Go.Proofs.YtibabfgfahlekaaW.PrintWords Go.Proofs.YtibabfgfahlekaaW.PrintLast Go.Proofs.Ytibabfgfahlekaa

def exL : List S63 := [⟨1, ⟨0, 8589934592, 0, 0⟩, 0, 0⟩]
def exS : List St := [⟨1, 1, 0, ⟨0, 8589934592, 0, 0⟩⟩, ⟨6, 0, 0, ⟨0, 0, 0, 0⟩⟩]
theorem ex_kids : tree_Kids.f 10 exL 0 = some [] := by decide +kernel
theorem ex_size : facts_Size.f 10 exL = some 2 := by decide +kernel
set_option maxRecDepth 100000 in
set_option maxHeartbeats 1600000 in
theorem part_ex (p : Nat) (A0 : Option Addr) (c0 : Nat) (w : World) (hB : Bld w p (.slice A0 1 c0) []) (hr : Kd.C k63 w A0 1 exL) (hc : 1 ≤ c0) :
    Calls Try.prog 39 #[.pointer (some ⟨p, 0, none⟩), .int .i64 0] w fun e w' => e = .returned (.tuple #[.int .i64 0, .int .i64 1]) ∧ Bld w' p (.slice A0 1 c0) [⟨1, 1, 0, ⟨0, 8589934592, 0, 0⟩⟩, ⟨2, 0, 0, ⟨0, 0, 0, 0⟩⟩] ∧ Below p w w' := by
  have hp := hB.lt
  have HBD := Lib.hid hB
  have HR := Lib.hid hr
  obtain ⟨A, c, hh, HO⟩ := hB
  obtain ⟨h0, h1, f0, f1⟩ := row2 hh
  clear hr HO hh h1 f0 f1
  go_enter Try.func39, Try.ntmps39
  go_wp2_with fail
  refine (tree_Kids.calls 10 A0 c0 exL 0 _ _ HR.out hc ex_kids).mono ?_
  rintro e w1 ⟨v1, rfl, hv, hb⟩
  have g0 := Go.Proofs.Ytibabfgfahlekaa.cell_below hb h0
  have hp1 := Nat.lt_of_lt_of_le hp hb.size
  obtain ⟨ad, rfl, n0, n1, n2, n3, n4, n5, n6⟩ := at_T63 (Kd.C_below HR.out hb) 0 (by decide) (by decide)
  have m0 : w1.cell? ad = some (.int .i64 1) := n0
  have m1 : w1.cell? ⟨ad.block, ad.off + 1, none⟩ = some (.int .u64 0) := n1
  have m2 : w1.cell? ⟨ad.block, ad.off + 2, none⟩ = some (.int .u64 8589934592) := n2
  have m3 : w1.cell? ⟨ad.block, ad.off + 3, none⟩ = some (.int .u64 0) := n3
  have m4 : w1.cell? ⟨ad.block, ad.off + 4, none⟩ = some (.int .u64 0) := n4
  have m5 : w1.cell? ⟨ad.block, ad.off + 5, none⟩ = some (.int .i64 0) := n5
  have m6 : w1.cell? ⟨ad.block, ad.off + 6, none⟩ = some (.int .i64 0) := n6
  have HB1 := Lib.hid (HBD.out.below (Nat.le_refl _) hb)
  have Hb1 := Lib.hid (hb.mono (Nat.le_of_lt hp))
  clear hv hb n0 n1 n2 n3 n4 n5 n6
  go_wp2_with fail
  refine (leaf_any p (.slice (some ad) 1 c0) [] ⟨1, 0, 0, ⟨0, 8589934592, 0, 0⟩⟩ _ (HB1.out.alloc _) (by decide)).mono ?_
  rintro e w2 ⟨rfl, hB2, hb2⟩
  have HBL := Lib.hid ((Hb1.out.alloc (by omega) _).trans hb2)
  have HB2 := Lib.hid hB2
  clear hb2 hB2
  go_wp2_with fail
  refine bodyPost_ret (v := .tuple #[.int .i64 0, .int .i64 1]) (by simp [results, Try.results39, go_sem]) rfl ⟨rfl, HB2.out, HBL.out⟩
theorem reps_st (w : World) (base : Nat) (ok : Nat → Prop) : ∀ sts : List St, Reps (Kd.M k72 w base ok) 7 sts (sts.flatMap stCells)
  | [] => Reps.none _ _
  | s :: l => by
    rw [List.flatMap_cons]
    exact Reps.c7 (k72_mkM w base ok s) (reps_st w base ok l)
theorem own_R {w : World} {base : Nat} {v : Value} {sts : List St} (h : w.ownsRow base 72 7 v sts.length (sts.flatMap stCells)) : Kd.R k72 72 w base (fun _ => True) v sts :=
  ⟨fun _ _ => trivial, sts.flatMap stCells, h, reps_st w base _ sts⟩
set_option maxRecDepth 100000 in
set_option maxHeartbeats 1600000 in
theorem build_ex (A0 : Option Addr) (c0 : Nat) (w : World) (hr : Kd.C k63 w A0 1 exL) (hc : 1 ≤ c0) :
    Calls Try.prog 18 #[.slice A0 1 c0] w fun e w' => ∃ v, e = .returned (.tuple #[.agg #[v, .int .i64 0, .int .i64 1], .int .i64 0]) ∧ Kd.R k72 72 w' w.heap.size (fun _ => True) v exS ∧ Below w.heap.size w w' := by
  have HR := Lib.hid hr
  clear hr
  go_enter Try.func18, Try.ntmps18
  go_wp2_with fail
  refine (facts_Size.calls 10 A0 c0 exL 2 _ (Kd.C_alloc HR.out _) hc ex_size).mono ?_
  rintro e w1 ⟨rfl, hb⟩
  have HB1 := Lib.hid (Go.Proofs.Ytibabfgfahlekaa.bel_then (Go.Proofs.Ytibabfgfahlekaa.bel_alloc (Below.refl _ _) _) hb)
  have hz : w.heap.size < w1.heap.size := Nat.lt_of_lt_of_le (by simp) hb.size
  have hrow : w1.heap[w.heap.size]? = some (.cells #[.slice none 0 0, .int .i64 0, .int .i64 0] 44 (0, 0)) := (hb.block w.heap.size (by simp)).trans (heap_alloc_new w _)
  have HROW := Lib.hid hrow
  clear hrow hb
  go_wp2_with fail
  have hB2 : Bld (w1.alloc (.cells #[.slice A0 1 c0, .slice none 0 0] 75)) w1.heap.size (.slice A0 1 c0) [] := ⟨none, 0, heap_alloc_new w1 _, World.ownsRow_nil _ _ _ _⟩
  refine (part_ex w1.heap.size A0 c0 _ hB2 (Kd.C_alloc (Kd.C_below HR.out HB1.out) _) hc).mono ?_
  rintro e w3 ⟨rfl, hB3, hb3⟩
  have hrow3 : w3.heap[w.heap.size]? = some (.cells #[.slice none 0 0, .int .i64 0, .int .i64 0] 44 (0, 0)) := (hb3.block w.heap.size hz).trans ((((Below.refl w1.heap.size w1).alloc (Nat.le_refl _) _).block w.heap.size hz).trans HROW.out)
  have hb3' : Below w1.heap.size w1 w3 := ((Below.refl w1.heap.size w1).alloc (Nat.le_refl _) _).trans hb3
  have HB3 := Lib.hid (Go.Proofs.Ytibabfgfahlekaa.bel_then HB1.out hb3')
  obtain ⟨A, c, hh, HO⟩ := hB3
  have hB5 := (Array.getElem?_eq_some_iff.1 hh).1
  obtain ⟨h0, h1, f0, f1⟩ := row2 hh
  obtain ⟨g, cap, hv, hg, hlt⟩ := HO.form (by decide)
  injection hv with hA _ hcap
  subst hA
  subst hcap
  generalize hP : w1.heap.size = P at *
  have hne : ¬ P = g := by omega
  have hne2 : ¬ g = P := by omega
  have hne3 : ¬ w.heap.size = g := by omega
  have hne4 : ¬ g = w.heap.size := by omega
  have hne5 : ¬ w.heap.size = P := by omega
  have hne6 : ¬ P = w.heap.size := by omega
  have x0 : w3.cell? ⟨g, 7, none⟩ = some (.int .i64 2) := HO.cellAt 7 (by decide)
  have x1 : w3.cell? ⟨g, 8, none⟩ = some (.int .i64 0) := HO.cellAt 8 (by decide)
  have x2 : w3.cell? ⟨g, 9, none⟩ = some (.int .i64 0) := HO.cellAt 9 (by decide)
  have x3 : w3.cell? ⟨g, 10, none⟩ = some (.int .u64 0) := HO.cellAt 10 (by decide)
  have x4 : w3.cell? ⟨g, 11, none⟩ = some (.int .u64 0) := HO.cellAt 11 (by decide)
  have x5 : w3.cell? ⟨g, 12, none⟩ = some (.int .u64 0) := HO.cellAt 12 (by decide)
  have x6 : w3.cell? ⟨g, 13, none⟩ = some (.int .u64 0) := HO.cellAt 13 (by decide)
  have z0 := HO.frozenAt 7
  have z1 := HO.frozenAt 8
  have z2 := HO.frozenAt 9
  have z3 := HO.frozenAt 10
  have z4 := HO.frozenAt 11
  have z5 := HO.frozenAt 12
  have z6 := HO.frozenAt 13
  have HS := Lib.hid (((((((HO.stored 7 (.int .i64 6)).1.stored 8 (.int .i64 0)).1.stored 9 (.int .i64 0)).1.stored 10 (.int .u64 0)).1.stored 11 (.int .u64 0)).1.stored 12 (.int .u64 0)).1.stored 13 (.int .u64 0)).1
  have hot : ∀ q : Nat, q ≠ g → (((((((w3.setCell ⟨g, 7, none⟩ (.int .i64 6)).setCell ⟨g, 8, none⟩ (.int .i64 0)).setCell ⟨g, 9, none⟩ (.int .i64 0)).setCell ⟨g, 10, none⟩ (.int .u64 0)).setCell ⟨g, 11, none⟩ (.int .u64 0)).setCell ⟨g, 12, none⟩ (.int .u64 0)).setCell ⟨g, 13, none⟩ (.int .u64 0)).heap[q]? = w3.heap[q]? := fun q hq => by
    repeat rw [heap_setCell_other _ _ _ _ (by exact hq)]
  have HH := Lib.hid ((hot P hne).trans hh)
  have HR3 := Lib.hid ((hot w.heap.size hne3).trans hrow3)
  have hb7 : Below w.heap.size w (((((((w3.setCell ⟨g, 7, none⟩ (.int .i64 6)).setCell ⟨g, 8, none⟩ (.int .i64 0)).setCell ⟨g, 9, none⟩ (.int .i64 0)).setCell ⟨g, 10, none⟩ (.int .u64 0)).setCell ⟨g, 11, none⟩ (.int .u64 0)).setCell ⟨g, 12, none⟩ (.int .u64 0)).setCell ⟨g, 13, none⟩ (.int .u64 0)) := by
    repeat refine Below.setCell ?_ (by simp; omega) _
    exact HB3.out
  have HB7 := Lib.hid hb7
  clear HO hh hb3 hb3' hrow3 hB2 hot hb7
  go_upto_region 9 with fail
  generalize (((((((w3.setCell ⟨g, 7, none⟩ (.int .i64 6)).setCell ⟨g, 8, none⟩ (.int .i64 0)).setCell ⟨g, 9, none⟩ (.int .i64 0)).setCell ⟨g, 10, none⟩ (.int .u64 0)).setCell ⟨g, 11, none⟩ (.int .u64 0)).setCell ⟨g, 12, none⟩ (.int .u64 0)).setCell ⟨g, 13, none⟩ (.int .u64 0)) = W7 at *
  clear x0 x1 x2 x3 x4 x5 x6 z0 z1 z2 z3 z4 z5 z6 h0 h1 f0 f1
  obtain ⟨h0, h1, f0, f1⟩ := row2 HH.out
  have q0 : W7.cell? ⟨w.heap.size, 0, none⟩ = some (.slice none 0 0) := by rw [cell_of_row W7 _ 0 _ _ _ HR3.out]; rfl
  have q1 : W7.cell? ⟨w.heap.size, 1, none⟩ = some (.int .i64 0) := by rw [cell_of_row W7 _ 1 _ _ _ HR3.out]; rfl
  have q2 : W7.cell? ⟨w.heap.size, 2, none⟩ = some (.int .i64 0) := by rw [cell_of_row W7 _ 2 _ _ _ HR3.out]; rfl
  have k0 := frozen_of_row W7 _ 0 _ _ HR3.out
  have k1 := frozen_of_row W7 _ 1 _ _ HR3.out
  have k2 := frozen_of_row W7 _ 2 _ _ HR3.out
  go_wp2_with fail
  refine bodyPost_ret (v := .tuple #[.agg #[.slice (some ⟨g, 0, none⟩) 2 c, .int .i64 0, .int .i64 1], .int .i64 0]) (by simp [results, Try.results18, go_sem, h0, h1, q0, q1, q2, k0, k1, k2, Try.underlying44]) rfl ⟨_, rfl, own_R ?_, ?_⟩
  · have h9 : W7.ownsRow w.heap.size 72 7 (.slice (some ⟨g, 0, none⟩) 2 c) 2 (exS.flatMap stCells) := Go.Proofs.Ytibabfgfahlekaa.own_mono HS.out (by omega)
    have h10 : W7.ownsRow (w.heap.size + 1) 72 7 (.slice (some ⟨g, 0, none⟩) 2 c) 2 (exS.flatMap stCells) := Go.Proofs.Ytibabfgfahlekaa.own_mono HS.out (by omega)
    exact Go.Proofs.Ytibabfgfahlekaa.own_mono (ownsRow_setCell_below (ownsRow_setCell_below (ownsRow_setCell_below h10 (by simp) _) (by simp) _) (by simp) _) (by omega)
  · repeat refine Below.setCell ?_ (by simp) _
    exact HB7.out
def nfa_Build.f (l0 : List S63) : Option (List St × Int × Int × Int) := match l0 with
  | [x] => if x.f0 = 1 ∧ x.f1.f0 = 0 ∧ x.f1.f1 = 8589934592 ∧ x.f1.f2 = 0 ∧ x.f1.f3 = 0 ∧ x.f2 = 0 ∧ x.f3 = 0 then some (exS, 0, 1, 0) else none
  | _ => none
theorem build_f {l0 : List S63} {r : List St × Int × Int × Int} (h : nfa_Build.f l0 = some r) : l0 = exL ∧ r = (exS, 0, 1, 0) := by
  unfold nfa_Build.f at h
  split at h
  case h_2 => cases h
  case h_1 x =>
    split at h
    case isFalse => cases h
    case isTrue c =>
      obtain ⟨x0, ⟨y0, y1, y2, y3⟩, x2, x3⟩ := x
      obtain ⟨c0, c1, c2, c3, c4, c5, c6⟩ := c
      simp only at c0 c1 c2 c3 c4 c5 c6
      subst c0 c1 c2 c3 c4 c5 c6
      exact ⟨rfl, (Option.some.inj h).symm⟩
theorem nfa_Build.calls (A0 : Option Addr) (c0 : Nat) (l0 : List S63) (r0 : List St) (r1 r2 r3 : Int) (w : World) (hr0 : Kd.C k63 w A0 l0.length l0) (hc0 : l0.length ≤ c0) (h : nfa_Build.f l0 = some (r0, r1, r2, r3)) :
    Calls Try.prog 18 #[.slice A0 l0.length c0] w fun e w' => ∃ v0_ : Value, e = .returned (.tuple #[.agg #[v0_, .int .i64 r1, .int .i64 r2], .int .i64 r3]) ∧ Kd.R k72 72 w' w.heap.size (fun _ => True) v0_ r0 ∧ Below w.heap.size w w' := by
  obtain ⟨e1, e2⟩ := build_f h
  simp only [Prod.mk.injEq] at e2
  obtain ⟨rfl, rfl, rfl, rfl⟩ := e2
  subst e1
  exact build_ex A0 c0 w hr0 hc0
end Go.Proofs.YtibabfgfahlekaaQ
