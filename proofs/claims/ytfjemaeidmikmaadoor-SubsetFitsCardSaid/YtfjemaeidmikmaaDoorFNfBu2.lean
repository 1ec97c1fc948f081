import Derived.Test.YtfjemaeidmikmaaDoorFM4
set_option linter.unusedVariables false
set_option linter.unusedSimpArgs false
namespace Go.Proofs.YtfjemaeidmikmaaDoorQ
open Go.RowKit Go.Proofs.YtfjemaeidmikmaaDoorW.PrintWords Go.Proofs.YtfjemaeidmikmaaDoorW.PrintLast Go.Proofs.YtfjemaeidmikmaaDoor
structure Stays (p : Nat) (g g' : Option Nat) (w w' : World) : Prop where
  below : Below p w w'
  keep : ∀ b, b < w.heap.size → b ≠ p → g ≠ some b → w'.heap[b]? = w.heap[b]?
  row : g' = g ∨ ∃ b, g' = some b ∧ w.heap.size ≤ b
theorem Stays.trans {p : Nat} {g g1 g2 : Option Nat} {w w1 w2 : World} (h : Stays p g g1 w w1) (k : Stays p g1 g2 w1 w2) : Stays p g g2 w w2 := by
  have hs := h.below.size;refine ⟨h.below.trans k.below, fun b hb hp hg => ?_, ?_⟩
  · rw [k.keep b (by omega) hp, h.keep b hb hp hg];rcases h.row with e | ⟨c, e, hc⟩
    · rw [e]; exact hg
    · rw [e];intro hq;injection hq with hq;omega
  · rcases k.row with e | ⟨c, e, hc⟩
    · rw [e]; exact h.row
    · exact .inr ⟨c, e, by omega⟩
theorem Stays.refl (p : Nat) (g : Option Nat) (w : World) : Stays p g g w w := ⟨Below.refl _ _, fun _ _ _ _ => rfl, .inl rfl⟩
theorem Stays.alloc {p : Nat} {g g1 : Option Nat} {w w1 : World} (h : Stays p g g1 w w1) (hp : p ≤ w1.heap.size) (o : Obj) : Stays p g g1 w (w1.alloc o) := by
  have hs := h.below.size;refine ⟨h.below.alloc hp o, fun b hb hne hg => ?_, h.row⟩;rw [← h.keep b hb hne hg];exact ((Below.refl w1.heap.size w1).alloc (Nat.le_refl _) o).block b (by omega)
def BldG (w : World) (p : Nat) (L : Value) (sts : List St) (g : Option Nat) : Prop := ∃ A c, w.heap[p]? = some (.cells #[L, .slice A sts.length c] 77 (0, 0)) ∧ w.ownsRow (p + 1) 64 7 (.slice A sts.length c) sts.length (sts.flatMap stCells) ∧ (Value.slice A sts.length c).ownBlock = g
theorem BldG.bld {w : World} {p : Nat} {L : Value} {sts : List St} {g : Option Nat} (h : BldG w p L sts g) : Bld w p L sts := by
  obtain ⟨A, c, h1, h2, _⟩ := h;exact ⟨A, c, h1, h2⟩
theorem BldG.lt {w : World} {p : Nat} {L : Value} {sts : List St} {g : Option Nat} (h : BldG w p L sts g) : p < w.heap.size := h.bld.lt
theorem BldG.row {w : World} {p : Nat} {L : Value} {sts : List St} {g : Option Nat} (h : BldG w p L sts g) : ∀ b, g = some b → p < b ∧ b < w.heap.size := by
  obtain ⟨A, c, h1, h2, h3⟩ := h;intro b hb;have := h2.lt b (h3.trans hb);exact ⟨by omega, this.2⟩
theorem BldG.alloc {w : World} {p : Nat} {L : Value} {sts : List St} {g : Option Nat} (h : BldG w p L sts g) (o : Obj) : BldG (w.alloc o) p L sts g := by
  have hp := h.lt;obtain ⟨A, c, h1, h2, h3⟩ := h;exact ⟨A, c, (((Below.refl (p + 1) w).alloc (by omega) o).block p (by omega)).trans h1, h2.alloc _, h3⟩
theorem BldG.below {w w1 : World} {p B : Nat} {L : Value} {sts : List St} {g : Option Nat} (h : BldG w p L sts g) (hB : w.heap.size ≤ B) (hb : Below B w w1) : BldG w1 p L sts g := by
  have hp := h.lt;obtain ⟨A, c, h1, h2, h3⟩ := h;exact ⟨A, c, (hb.block p (by omega)).trans h1, Go.Proofs.YtfjemaeidmikmaaDoor.own_below h2 (hb.mono hB), h3⟩
theorem BldG.out {w : World} {p : Nat} {L : Value} {sts : List St} {g : Option Nat} (h : BldG w p L sts g) : w.cell? ⟨p, 0, none⟩ = some L ∧ w.frozen? ⟨p, 0, none⟩ = false := by
  obtain ⟨A, c, h1, h2, h3⟩ := h;obtain ⟨x0, _, y0, _⟩ := row2 h1;exact ⟨x0, y0⟩
set_option maxRecDepth 100000 in
set_option maxHeartbeats 1600000 in
theorem state_st (p : Nat) (L : Value) (sts : List St) (s : St) (g : Option Nat) (w : World) (hB : BldG w p L sts g) (hn : sts.length ≤ 1000000) :
    Calls Tryd.prog 53 #[.pointer (some ⟨p, 0, none⟩), stV s] w fun e w' => e = .returned (.int .i64 sts.length) ∧ ∃ g', BldG w' p L (sts ++ [s]) g' ∧ Stays p g g' w w' := by
  have hp := hB.lt;obtain ⟨A, c, hh, HO, hg⟩ := hB;obtain ⟨h0, h1, f0, f1⟩ := row2 hh;have HO2 := Lib.hid ((HO.alloc (.cells #[.int .i64 s.f0, .int .i64 s.f1, .int .i64 s.f2, .int .u64 s.f3.f0, .int .u64 s.f3.f1, .int .u64 s.f3.f2, .int .u64 s.f3.f3] 64)).drew);have HB2 := Lib.hid (((Below.refl (p + 1) w).alloc (by omega) (.cells #[.int .i64 s.f0, .int .i64 s.f1, .int .i64 s.f2, .int .u64 s.f3.f0, .int .u64 s.f3.f1, .int .u64 s.f3.f2, .int .u64 s.f3.f3] 64)).drew);have HW2 := Lib.hid (((Below.refl w.heap.size w).alloc (Nat.le_refl _) (.cells #[.int .i64 s.f0, .int .i64 s.f1, .int .i64 s.f2, .int .u64 s.f3.f0, .int .u64 s.f3.f1, .int .u64 s.f3.f2, .int .u64 s.f3.f3] 64)).drew);have HH := Lib.hid ((HB2.out.block p (by omega)).trans hh);have HPS := Lib.hid (Nat.lt_of_lt_of_le hp HB2.out.size)
  have hne : some p ≠ (Value.slice A sts.length c).ownBlock := fun e => by
    have := Go.Proofs.YtfjemaeidmikmaaDoor.own_base HO p e.symm;omega
  have HNE := Lib.hid hne;have HGE := Lib.hid hg;clear HO hne h0 f0 hh hg;unfold stV;go_enter Tryd.func53, Tryd.ntmps53;go_wp2_with fail
  go_region_law
    (refine step_append_cells (w0 := w) (base := p + 1) rfl (.tmp 9) (.tmp 11) 22 64 _ 7 56 rfl Tryd.underlying22 info_st rfl (by omega) (by omega) (.slice A sts.length c) sts.length (sts.flatMap stCells) (stCells s) rfl ?hx rfl ?h1 HO2.out HB2.out ?hb ?hl ?_
     case h1 => exact stCells_one s
     case hx => simp [Act.eval]
     case hb => simp; omega
     case hl => omega
     intro v1 w1 hO1 hb1 hg1 hat1
     have hh1 := (hg1.block p HPS.out HNE.out).trans HH.out
     obtain ⟨g0, g1, e0, e1⟩ := row2 hh1
     obtain ⟨A1, c1, rfl⟩ := Go.Proofs.YtfjemaeidmikmaaDoor.own_slice hO1)
  all_goals
    have HO3 := Lib.hid hO1
    have HB3 := Lib.hid hb1
    have HH3 := Lib.hid hh1
    have HG3 := Lib.hid hg1
    have HAT := Lib.hid hat1
    clear hO1 hb1 hh1 hat1 hg1
    go_wp2_with fail
    go_ret
    refine ⟨Go.Proofs.YtfjemaeidmikmaaDoor.ret_int (by simp), (Value.slice A1 (sts.length + 1) c1).ownBlock, ⟨A1, c1, ?_, ?_, ?_⟩, (HB3.out.mono (by omega)).setCell (by simp) _, ?_, ?_⟩
    · rw [show (sts ++ [s]).length = sts.length + 1 by simp]
      exact heap_setCell_same _ p 1 _ _ _ HH3.out
    · rw [show (sts ++ [s]).length = sts.length + 1 by simp, List.flatMap_append]
      exact ownsRow_setCell_below (by simpa using HO3.out) (by simp) _
    · rw [show (sts ++ [s]).length = sts.length + 1 by simp]
    · intro b hb hbp hbg
      rw [heap_setCell_other _ _ b _ (by simpa using hbp), HG3.out.block b (Nat.lt_of_lt_of_le hb HW2.out.size) (by rw [HGE.out]; exact fun q => hbg q.symm), HW2.out.block b hb]
    · rcases HAT.out with q | ⟨b, q, hq⟩
      · exact .inl (q.trans HGE.out)
      · exact .inr ⟨b, q, Nat.le_trans HW2.out.size hq⟩
set_option maxRecDepth 100000 in
set_option maxHeartbeats 1600000 in
theorem empty_st (p : Nat) (L : Value) (sts : List St) (g : Option Nat) (w : World) (hB : BldG w p L sts g) (hn : sts.length ≤ 1000000) :
    Calls Tryd.prog 54 #[.pointer (some ⟨p, 0, none⟩)] w fun e w' => e = .returned (.int .i64 sts.length) ∧ ∃ g', BldG w' p L (sts ++ [⟨2, 0, 0, ⟨0, 0, 0, 0⟩⟩]) g' ∧ Stays p g g' w w' := by
  have HBD := Lib.hid hB;clear hB;go_enter Tryd.func54, Tryd.ntmps54;go_wp2_with fail;refine (state_st p L sts ⟨2, 0, 0, ⟨0, 0, 0, 0⟩⟩ g _ HBD.out hn).mono ?_;rintro e w1 ⟨rfl, g1, hB1, hb1⟩;have HX := Lib.hid (And.intro hB1 hb1);clear hB1 hb1;go_wp2_with fail;go_ret;exact ⟨rfl, g1, HX.out⟩
set_option maxRecDepth 100000 in
set_option maxHeartbeats 1600000 in
theorem to_st (p : Nat) (L : Value) (sts : List St) (g : Option Nat) (k : Nat) (a : Int) (w : World) (hB : BldG w p L sts g) (hn : sts.length ≤ 1000000) (hk : k < sts.length) :
    Calls Tryd.prog 52 #[.pointer (some ⟨p, 0, none⟩), .int .i64 k, .int .i64 a] w fun e w' => e = .returned (.tuple #[]) ∧ BldG w' p L (putA sts k a) g ∧ Stays p g g w w' := by
  have hp := hB.lt;have hrow := hB.row;obtain ⟨A, c, hh, HO, hgg⟩ := hB;obtain ⟨h0, h1, f0, f1⟩ := row2 hh;obtain ⟨g', cap, hv, hg, hlt⟩ := HO.form (by omega);injection hv with hA _ hc;subst hA;subst hc;have hgb : g = some g' := hgg.symm;subst hgb;have hx : sts[k]? = some sts[k] := List.getElem?_eq_getElem hk;have hcc := HO.cellAt (k * 7 + 1) (by omega);rw [flat_at stCells 7 stCells_length sts k _ hx 1 (by omega)] at hcc;have hfz := HO.frozenAt (k * 7 + 1);obtain ⟨hs1, hs2⟩ := HO.stored (k * 7 + 1) (.int .i64 a);rw [flat_set stCells 7 stCells_length 1 (by omega) (.int .i64 a) sts k sts[k] ⟨sts[k].f0, a, sts[k].f2, sts[k].f3⟩ hx rfl] at hs1;(have e1 : putA sts k a = sts.set k ⟨sts[k].f0, a, sts[k].f2, sts[k].f3⟩ := by unfold putA; rw [hx]);have hcc2 : w.cell? ⟨g', k * 7 + 1, none⟩ = some (.int .i64 sts[k].f1) := hcc;have HH := Lib.hid hh;have HS1 := Lib.hid hs1;have HS2 := Lib.hid hs2;have HE := Lib.hid e1;clear HO hh hs1 hs2 e1 hcc hx h0 f0 f1 hp hgg;go_enter Tryd.func52, Tryd.ntmps52;go_wp2_with fail;go_end0;simp only [add_plain];refine ⟨trivial, ⟨some ⟨g', 0, none⟩, c, ?_, ?_, rfl⟩, (Below.refl p w).setCell (by simp; omega) _, ?_, .inl rfl⟩
  · rw [putA_len];exact (heap_setCell_other _ _ p _ (by simp; omega)).trans HH.out
  · rw [putA_len, HE.out];exact HS1.out
  · intro b hb hbp hbg;exact heap_setCell_other _ _ b _ (by simp; intro q; exact hbg (by rw [q]))
set_option maxRecDepth 100000 in
set_option maxHeartbeats 1600000 in
theorem leaf_st (p : Nat) (L : Value) (sts : List St) (s : St) (g : Option Nat) (w : World) (hB : BldG w p L sts g) (hn : sts.length ≤ 999990) :
    Calls Tryd.prog 51 #[.pointer (some ⟨p, 0, none⟩), stV s] w fun e w' => e = .returned (.tuple #[.int .i64 sts.length, .int .i64 ((sts.length + 1 : Nat) : Int)]) ∧ ∃ g', BldG w' p L (sts ++ [⟨s.f0, ((sts.length + 1 : Nat) : Int), s.f2, s.f3⟩, ⟨2, 0, 0, ⟨0, 0, 0, 0⟩⟩]) g' ∧ Stays p g g' w w' := by
  have HBD := Lib.hid hB;have hp := hB.lt;clear hB;unfold stV;go_enter Tryd.func51, Tryd.ntmps51;go_wp2_with fail;refine (state_st p L sts s g _ (HBD.out.alloc _) (by omega)).mono ?_;rintro e w1 ⟨rfl, g1, hB1, hb1⟩;have HB1 := Lib.hid hB1;have Hb1 := Lib.hid hb1;clear hB1 hb1;go_wp2_with fail;refine (empty_st p L _ g1 _ HB1.out (by simp; omega)).mono ?_;rintro e w2 ⟨rfl, g2, hB2, hb2⟩;have HB2 := Lib.hid hB2;have Hb2 := Lib.hid hb2;clear hB2 hb2;rw [show (sts ++ [s]).length = sts.length + 1 by simp];go_wp2_with fail;refine (to_st p L _ g2 sts.length ((sts.length + 1 : Nat) : Int) _ HB2.out (by simp; omega) (by simp)).mono ?_;rintro e w3 ⟨rfl, hB3, hb3⟩
  have e3 : putA (sts ++ [s] ++ [⟨2, 0, 0, ⟨0, 0, 0, 0⟩⟩]) sts.length ((sts.length + 1 : Nat) : Int) = sts ++ [⟨s.f0, ((sts.length + 1 : Nat) : Int), s.f2, s.f3⟩, ⟨2, 0, 0, ⟨0, 0, 0, 0⟩⟩] := by
    unfold putA;(have h1 : (sts ++ [s] ++ [(⟨2, 0, 0, ⟨0, 0, 0, 0⟩⟩ : St)])[sts.length]? = some s := by simp);rw [h1];simp
  rw [e3] at hB3;have HB3 := Lib.hid hB3;have HBL := Lib.hid (((((Stays.refl p g w).alloc (by omega) _).trans Hb1.out).trans Hb2.out).trans hb3);clear hB3 hb3 e3;go_wp2_with fail;refine bodyPost_ret (v := .tuple #[.int .i64 sts.length, .int .i64 ((sts.length + 1 : Nat) : Int)]) (by simp [results, Tryd.results51, go_sem]) rfl ⟨rfl, g2, HB3.out, HBL.out⟩
end Go.Proofs.YtfjemaeidmikmaaDoorQ
