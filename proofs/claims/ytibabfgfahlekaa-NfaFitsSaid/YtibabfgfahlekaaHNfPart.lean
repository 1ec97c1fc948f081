/- Pruned from its seat's text: what the theorem hangs on. -/
import Derived.Test.YtibabfgfahlekaaHMkPure
import Derived.Test.YtibabfgfahlekaaHM2
import Derived.Test.YtibabfgfahlekaaHM4
import Derived.Laws.BitsAllLaws
import Derived.Deep.RegionWith
/- The builder of automata: what repeats, walked. -/
set_option linter.unusedVariables false
set_option linter.unusedSimpArgs false
namespace Go.Proofs.YtibabfgfahlekaaQ
open Go.RowKit Go.Proofs.YtibabfgfahlekaaW.PrintWords Go.Proofs.YtibabfgfahlekaaW.PrintLast Go.Proofs.Ytibabfgfahlekaa

theorem Stays.cell {p : Nat} {g g' : Option Nat} {w w' : World} (h : Stays p g g' w w') {b j : Nat} {v : Value} (hp : b ≠ p) (hg : g ≠ some b) (hc : w.cell? ⟨b, j, none⟩ = some v) : w'.cell? ⟨b, j, none⟩ = some v := by
  rw [World.cell?_of_block (w := w) (h.keep b (World.block_lt_of_cell? w _ hc) hp hg)]
  exact hc
theorem Stays.own {p : Nat} {g g' : Option Nat} {w w' : World} (h : Stays p g g' w w') {base e size n : Nat} {v : Value} {xs : List Value} (ho : w.ownsRow base e size v n xs) (hp : p < base) (hg : v.ownBlock = none ∨ v.ownBlock ≠ g) : w'.ownsRow base e size v n xs := by
  have hs := h.below.size
  refine ⟨ho.1, ?_⟩
  rcases ho.2 with h2 | ⟨q, cap, cur, rfl, hq, hh, r⟩
  · exact .inl h2
  · refine .inr ⟨q, cap, cur, rfl, hq, ?_, r⟩
    rw [h.keep q (Array.getElem?_eq_some_iff.1 hh).1 (by omega) (fun e => by rcases hg with k | k <;> simp [Value.ownBlock] at k; exact k e.symm)]
    exact hh
theorem BldG.grown {w w1 : World} {p : Nat} {L : Value} {sts : List St} {g row : Option Nat} (h : BldG w p L sts g) (hg : w.grownBy w1 row) (hp : row ≠ some p) (hr : g = none ∨ g ≠ row) : BldG w1 p L sts g := by
  have hlt := h.lt
  obtain ⟨A, c, h1, h2, h3⟩ := h
  refine ⟨A, c, (hg.block p hlt (fun e => hp e.symm)).trans h1, h2.kept hg (by rw [h3]; exact hr), h3⟩
theorem Stays.grown {p : Nat} {g g' row : Option Nat} {w w1 w2 : World} (h : Stays p g g' w w1) (hg : w1.grownBy w2 row) (hp : p ≤ w.heap.size) (hr : ∀ b, row = some b → w.heap.size ≤ b) : Stays p g g' w w2 := by
  have hs := h.below.size
  refine ⟨⟨hg.os.trans h.below.os, hg.tape.trans h.below.tape, hg.output.trans h.below.output, Nat.le_trans h.below.size hg.size, fun i hi => ?_⟩, fun b hb hp hgb => ?_, h.row⟩
  · rw [hg.block i (by omega) (fun e => by have := hr i e.symm; omega)]
    exact h.below.block i hi
  · rw [hg.block b (by omega) (fun e => by have := hr b e.symm; omega)]
    exact h.keep b hb hp hgb
theorem Stays.app_ {p : Nat} {g g' : Option Nat} {w w' : World} (h : Stays p g g' w w') {b : Nat} (hb : b < w.heap.size) (hg : g ≠ some b) : g' ≠ some b := by
  rcases h.row with e | ⟨c, e, hc⟩
  · rw [e]; exact hg
  · rw [e]; intro q; injection q with q; omega
/-- append(v, x): the new element lies in a block of its own, just laid. -/
theorem app_lit0 {P : Program} {ops : Array Oper} {rest : List Oper} {o : Oper} {a : Act} {Q : Exit → Act → World → Prop} {W : World} (hgd : o.guard = none) (s x : Operand) (t : TypeId)
    (ho : o.op = .call { callee := .builtin .append, args := #[s, x], argTypes := #[t, t] })
    (base : Nat) (e : TypeId) {z : Value} {size bytes : Nat} (ht : P.underlying t = some (.slice e)) (hinfo : (P.info? e).map (fun i => (i.zero, i.size, i.bytes)) = some (some z, size, bytes)) (hzs : z.cells.size = size) (hsz : 0 < size) (hby : 0 < bytes)
    (v : Value) (n : Nat) (xs : List Value) (hs : a.eval s = v) (HO : W.ownsRow base e size v n xs) (ys : List Value) (m c : Nat) (hx : a.eval x = .slice (some ⟨W.heap.size, 0, none⟩) m c)
    (hl : ys.length = m * size) (h1 : ys.all Value.oneCell' = true) (hlim : (n + m) * bytes ≤ 140737488355328) (hbase : base ≤ W.heap.size)
    (h : ∀ A1 c1 w1, w1.ownsRow base e size (.slice A1 (n + m) c1) (n + m) (xs ++ ys) → W.grownBy w1 v.ownBlock → wpList P ops Q rest (a.put o.dst (.slice A1 (n + m) c1)) w1) :
    wpList P ops Q (o :: rest) a (W.alloc (.cells ys.toArray e)) := by
  obtain ⟨i0, hi, hz0, hz1, hz2⟩ := info_parts hinfo
  have hlen : n + m ≤ 140737488355328 := Nat.le_trans (Nat.le_mul_of_pos_right _ hby) hlim
  refine wpList_append_own (W.alloc (.cells ys.toArray e)) hgd s x t ho base e i0 z size bytes ht hi hz0 hz1 hz2 hzs hsz v n xs hs (HO.alloc _) ⟨W.heap.size, 0, none⟩ m c ys hx hl
    (fun j u hu => ?_) (fun u hu => List.all_eq_true.1 h1 u hu) (by simp only [maxLen]; omega) hlim (by simp; omega) ?_
  · have hadd : (⟨W.heap.size, 0, none⟩ : Addr).add j = ⟨W.heap.size, j, none⟩ := by unfold Addr.add; split <;> simp_all
    rw [hadd, cell_of_row _ W.heap.size j ys.toArray e (0, 0) (heap_alloc_new W _)]
    simpa using hu
  · intro v1 w1 hown hg _
    obtain ⟨A1, c1, rfl⟩ := Go.Proofs.Ytibabfgfahlekaa.own_slice hown
    exact h A1 c1 w1 hown (World.grownBy.trans (World.grownBy_alloc W _ _) hg)
/-- What a part's call does. -/
def PartC (L : Value) (p : Nat) (i : Nat) (a : PMk) (n : Nat) (w0 : World) : Prop := ∀ (w : World) (sts : List St) (g : Option Nat), BldG w p L sts g → Below w0.heap.size w0 w → sts.length + n ≤ 900000 →
  Calls Try.prog 39 #[.pointer (some ⟨p, 0, none⟩), .int .i64 i] w fun e w' => e = .returned (.tuple #[.int .i64 (a sts).first, .int .i64 (a sts).last]) ∧ ∃ g', BldG w' p L (a sts).out g' ∧ Stays p g g' w w'

/-- A store of a state's second way out, through the builder's row. -/
theorem BldG.setB {w : World} {p : Nat} {L : Value} {sts : List St} {g : Option Nat} (h : BldG w p L sts g) (k : Nat) (hk : k < sts.length) (b : Int) :
    ∃ q c, g = some q ∧ p < q ∧ w.cell? ⟨p, 1, none⟩ = some (.slice (some ⟨q, 0, none⟩) sts.length c) ∧ (∃ u, w.cell? ⟨q, k * 7 + 2, none⟩ = some u) ∧ w.frozen? ⟨q, k * 7 + 2, none⟩ = false ∧ BldG (w.setCell ⟨q, k * 7 + 2, none⟩ (.int .i64 b)) p L (putB sts k b) (some q) ∧ Stays p (some q) (some q) w (w.setCell ⟨q, k * 7 + 2, none⟩ (.int .i64 b)) := by
  have hp := h.lt
  have hrow := h.row
  obtain ⟨A, c, hh, HO, hgg⟩ := h
  obtain ⟨h0, h1, f0, f1⟩ := row2 hh
  obtain ⟨q, cap, hv, hg, hlt⟩ := HO.form (by omega)
  injection hv with hA _ hc
  subst hA
  subst hc
  have hgb : g = some q := hgg.symm
  subst hgb
  have hx : sts[k]? = some sts[k] := List.getElem?_eq_getElem hk
  have hcc := HO.cellAt (k * 7 + 2) (by omega)
  rw [flat_at stCells 7 stCells_length sts k _ hx 2 (by omega)] at hcc
  obtain ⟨hs1, hs2⟩ := HO.stored (k * 7 + 2) (.int .i64 b)
  rw [flat_set stCells 7 stCells_length 2 (by omega) (.int .i64 b) sts k sts[k] ⟨sts[k].f0, sts[k].f1, b, sts[k].f3⟩ hx rfl] at hs1
  have e1 : putB sts k b = sts.set k ⟨sts[k].f0, sts[k].f1, b, sts[k].f3⟩ := by unfold putB; rw [hx]
  have hpq := (hrow q rfl).1
  refine ⟨q, c, rfl, hpq, h1, ⟨_, hcc⟩, HO.frozenAt (k * 7 + 2), ⟨some ⟨q, 0, none⟩, c, ?_, ?_, rfl⟩, (Below.refl p w).setCell (by simp; omega) _, ?_, .inl rfl⟩
  · rw [putB_len]
    exact (heap_setCell_other _ _ p _ (by simp; omega)).trans hh
  · rw [putB_len, e1]
    exact hs1
  · intro b' hb hbp hbg
    exact heap_setCell_other _ _ b' _ (by simp; intro e; exact hbg (by rw [e]))

theorem BldG.apart {w : World} {p : Nat} {L : Value} {sts : List St} {g : Option Nat} (h : BldG w p L sts g) {b n : Nat} {v : Value} {xs : List Value} (ho : w.ownsRow b 3 1 v n xs) : v.ownBlock = none ∨ v.ownBlock ≠ g := by
  obtain ⟨A, c, h1, h2, h3⟩ := h
  rcases Go.Proofs.Ytibabfgfahlekaa.own_type_ne ho h2 (by decide) with e | e
  · exact .inl e
  · exact .inr (by rw [← h3]; exact e)
theorem BldG.apart' {w : World} {p : Nat} {L : Value} {sts : List St} {g : Option Nat} (h : BldG w p L sts g) {b n : Nat} {v : Value} {xs : List Value} (ho : w.ownsRow b 3 1 v n xs) : g = none ∨ g ≠ v.ownBlock := by
  obtain ⟨A, c, h1, h2, h3⟩ := h
  rcases Go.Proofs.Ytibabfgfahlekaa.own_type_ne h2 ho (by decide) with e | e
  · exact .inl (h3.symm.trans e)
  · exact .inr (by rw [← h3]; exact e)
set_option maxRecDepth 100000 in
set_option maxHeartbeats 6400000 in
theorem rep_neg (p : Nat) (L : Value) (k : Nat) (a : PMk) (n : Nat) (ha : Ok a n) (w0 : World) (hp0 : w0.heap.size ≤ p) (kd : Int) (s0 s1 s2 s3 lo : Nat) (hC : PartC L p k a n w0) (hlo : lo ≤ 32) (w : World) (sts : List St) (g : Option Nat) (hB : BldG w p L sts g) (h0 : Below w0.heap.size w0 w) (hsz : sts.length + (3 + (lo + 1) * n) ≤ 900000) :
    Calls Try.prog 59 #[.pointer (some ⟨p, 0, none⟩), .agg #[.int .i64 kd, .int .u64 s0, .int .u64 s1, .int .u64 s2, .int .u64 s3, .int .i64 lo, .int .i64 (-1)], .int .i64 k] w fun e w' => e = .returned (.tuple #[.int .i64 (repM lo (-1) a sts).first, .int .i64 (repM lo (-1) a sts).last]) ∧ ∃ g', BldG w' p L (repM lo (-1) a sts).out g' ∧ Stays p g g' w w' := by
  have hp := hB.lt
  have hrow := hB.row
  have hgN : g ≠ some w.heap.size := fun e => by have := hrow _ e; omega
  have HBD := Lib.hid hB
  have H0 := Lib.hid h0
  obtain ⟨R, hR⟩ : ∃ R, repM lo (-1) a sts = R := ⟨_, rfl⟩
  rw [hR]
  have HR := Lib.hid hR
  have HC := Lib.hid hC
  clear hB h0 hrow hR hC
  go_enter Try.func59, Try.ntmps59
  go_wp2_with fail
  refine (empty_st p L sts g _ (HBD.out.alloc _) (by omega)).mono ?_
  rintro e w1 ⟨rfl, g1, hB1, hS1⟩
  have hS := ((Stays.refl p g w).alloc (by omega) _).trans hS1
  have b5 : w1.cell? ⟨w.heap.size, 5, none⟩ = some (.int .i64 lo) := hS1.cell (by omega) hgN (by rw [cell_of_row _ _ 5 _ _ _ (heap_alloc_new w _)]; rfl)
  have b6 : w1.cell? ⟨w.heap.size, 6, none⟩ = some (.int .i64 (-1)) := hS1.cell (by omega) hgN (by rw [cell_of_row _ _ 6 _ _ _ (heap_alloc_new w _)]; rfl)
  have hg1 := hS1.app_ (b := w.heap.size) (by simp) hgN
  generalize hN : w.heap.size = N at *
  have HS := Lib.hid hS
  have HB1 := Lib.hid hB1
  have HG1 := Lib.hid hg1
  have HGN := Lib.hid hgN
  clear hS hS1 hB1 hg1 hgN
  go_wp2_with fail
  go_loopw [8, 25] (fun ah ct wr => ∃ (j : Nat) (gk : Option Nat), ah = .int .i64 (loP a lo sts j).ahead ∧ ct = .int .i64 j ∧ j ≤ lo ∧ BldG wr p L (loP a lo sts j).out gk ∧ Stays p g gk w wr ∧ gk ≠ some N ∧ wr.cell? ⟨N, 5, none⟩ = some (.int .i64 lo) ∧ wr.cell? ⟨N, 6, none⟩ = some (.int .i64 (-1))) (fun _ ct _ => lo - (intOf ct).toNat)
  case atStart => exact ⟨0, g1, rfl, rfl, by omega, HB1.out, HS.out, HG1.out, b5, b6⟩
  case round =>
    clear b5 b6
    obtain ⟨j, gk, rfl, rfl, hj, hBk, hSk, hgk, b5, b6⟩ := hrel
    have hok := loP_ok ha lo sts j
    have HB2 := Lib.hid hBk
    have HS2 := Lib.hid hSk
    have HG2 := Lib.hid hgk
    have HOK := Lib.hid hok
    clear hBk hSk hgk
    by_cases hlt : j < lo
    · have hmul : (j + 1) * n ≤ lo * n := Nat.mul_le_mul_right n (by omega)
      rw [Nat.succ_mul] at hmul
      have hsz2 : (loP a lo sts j).out.length + n ≤ 900000 := by rw [Nat.succ_mul] at hsz; omega
      obtain ⟨q, hq⟩ : ∃ q, loP a lo sts j = q := ⟨_, rfl⟩
      rw [hq] at hsz2 hok HOK HB2
      have HQ := Lib.hid hq
      simp only [hq]
      clear hq hmul hok
      go_wp2_with fail
      refine (HC.out wr _ gk HB2.out (H0.out.trans (HS2.out.below.mono hp0)) hsz2).mono ?_
      rintro e w2 ⟨rfl, g2, hB3, hS3⟩
      have HB3 := Lib.hid hB3
      have HS3 := Lib.hid hS3
      clear hB3 hS3
      have haq := ha q.out
      have HAQ := Lib.hid haq
      go_wp2_with fail
      refine (to_st p L _ g2 q.ahead (a q.out).first _ HB3.out (by omega) (by have := HOK.out; omega)).mono ?_
      rintro e w3 ⟨rfl, hB4, hS4⟩
      have HB4 := Lib.hid hB4
      have HS4 := Lib.hid ((HS2.out.trans HS3.out).trans hS4)
      have hNw : N < wr.heap.size := World.block_lt_of_cell? _ _ b5
      have hg3 := HS3.out.app_ hNw HG2.out
      have b5' := hS4.cell (by omega) hg3 (HS3.out.cell (by omega) HG2.out b5)
      have b6' := hS4.cell (by omega) hg3 (HS3.out.cell (by omega) HG2.out b6)
      have HG3 := Lib.hid hg3
      clear hB4 hS4 hg3 haq b5 b6
      go_wp2_with fail
      go_roundw
      case rel =>
        have e1 : loP a lo sts (j + 1) = loS a q := by rw [← HQ.out]; rfl
        refine ⟨j + 1, g2, by rw [e1]; rfl, by go_num, by omega, by rw [e1]; exact HB4.out, HS4.out, HG3.out, b5', b6'⟩
      case measure => simp [intOf] <;> omega
    · obtain rfl : j = lo := by omega
      obtain ⟨q, hq⟩ : ∃ q, loP a j sts j = q := ⟨_, rfl⟩
      rw [hq] at hok HOK HB2
      have HQ := Lib.hid hq
      simp only [hq]
      have hsz2 : q.out.length + n ≤ 900000 := by rw [Nat.succ_mul] at hsz; omega
      go_wp2_with fail
      refine (HC.out wr _ gk HB2.out (H0.out.trans (HS2.out.below.mono hp0)) hsz2).mono ?_
      rintro e w2 ⟨rfl, g2, hB3, hS3⟩
      have HB3 := Lib.hid hB3
      have HS3 := Lib.hid (HS2.out.trans hS3)
      have hNw : N < wr.heap.size := World.block_lt_of_cell? _ _ b5
      have HG3 := Lib.hid (hS3.app_ hNw HG2.out)
      have hN2 : N < w2.heap.size := Nat.lt_of_lt_of_le hNw hS3.below.size
      clear hB3 hS3 hNw
      have haq := ha q.out
      obtain ⟨out, hout⟩ : ∃ out, (a q.out).out = out := ⟨_, rfl⟩
      obtain ⟨fi, hfi⟩ : ∃ fi, (a q.out).first = fi := ⟨_, rfl⟩
      obtain ⟨la, hla⟩ : ∃ la, (a q.out).last = la := ⟨_, rfl⟩
      have HOUT := Lib.hid (And.intro hout (And.intro hfi hla))
      rw [hout] at HB3
      rw [hout, hfi, hla] at haq
      rw [hfi, hla]
      have hln : out.length ≤ 900000 := by omega
      have hah : q.ahead < out.length := by omega
      have hla2 : la < out.length := by omega
      clear haq hok hq hout hfi hla
      go_wp2_with fail
      refine (state_st p L _ (kSt 3 fi 0) g2 _ HB3.out (by omega)).mono ?_
      rintro e w3 ⟨rfl, g3, hB4, hS4⟩
      have HB4 := Lib.hid hB4
      have HS4 := Lib.hid (HS3.out.trans hS4)
      have hN3 : N < w3.heap.size := Nat.lt_of_lt_of_le hN2 hS4.below.size
      have hl3 : (out ++ [kSt 3 fi 0]).length = out.length + 1 := by rw [List.length_append]; rfl
      have HL3 := Lib.hid hl3
      clear hB4 hS4 hl3
      go_wp2_with fail
      refine (to_st p L _ g3 q.ahead out.length w3 HB4.out (by rw [HL3.out]; omega) (by rw [HL3.out]; omega)).mono ?_
      rintro e w4 ⟨rfl, hB5, hS5⟩
      have HB5 := Lib.hid hB5
      have HS5 := Lib.hid (HS4.out.trans hS5)
      have hN4 : N + 1 ≤ w4.heap.size := Nat.lt_of_lt_of_le hN3 hS5.below.size
      clear hB5 hS5
      go_wp2_with (at_builtin; refine app_lit0 rfl (.tmp 56) (.tmp 58) 52 rfl (N + 1) 3 Try.underlying52 info_int rfl (by omega) (by omega) (.slice none 0 0) 0 [] rfl (World.ownsRow_nil _ _ _ _) [.int .i64 _] 1 1 rfl rfl rfl (by omega) hN4 ?_; intro A5 c5 w5 hO5 hg5)
      have HB6 := Lib.hid (HB5.out.grown hg5 (by simp [Value.ownBlock]) (by cases g3 <;> simp [Value.ownBlock]))
      have HL4 : (putA (out ++ [kSt 3 fi 0]) q.ahead out.length).length = out.length + 1 := by rw [putA_len]; exact HL3.out
      have HO5 := Lib.hid hO5
      have HS6 := Lib.hid (HS5.out.grown hg5 (by omega) (by simp [Value.ownBlock]))
      have HL4 := Lib.hid HL4
      have hl4 := HL4.out
      clear hO5 hg5 hl4
      go_wp2_with fail
      refine (empty_st p L _ g3 _ HB6.out (by rw [HL4.out]; omega)).mono ?_
      rintro e w6 ⟨rfl, g6, hB7, hS7⟩
      rw [HL4.out]
      have HB7 := Lib.hid hB7
      have HS7 := Lib.hid (HS6.out.trans hS7)
      have HO7 := Lib.hid (hS7.own HO5.out (by omega) (HB6.out.apart HO5.out))
      have hl7 : (putA (out ++ [kSt 3 fi 0]) q.ahead out.length ++ [eSt]).length = out.length + 2 := by rw [List.length_append, HL4.out]; rfl
      have HL7 := Lib.hid hl7
      clear hB7 hS7 hl7
      go_wp2_with fail
      refine (to_st p L (putA (out ++ [kSt 3 fi 0]) q.ahead out.length ++ [eSt]) g6 la out.length w6 HB7.out (by rw [HL7.out]; omega) (by rw [HL7.out]; omega)).mono ?_
      rintro e w7 ⟨rfl, hB8, hS8⟩
      have HB8 := Lib.hid hB8
      have HS8 := Lib.hid (HS7.out.trans hS8)
      have HO8 := Lib.hid (hS8.own HO7.out (by omega) (HB7.out.apart HO7.out))
      clear hB8 hS8
      go_wp2_with fail
      obtain ⟨o8, ho8⟩ : ∃ o8, putA (putA (out ++ [kSt 3 fi 0]) q.ahead out.length ++ [eSt]) la out.length = o8 := ⟨_, rfl⟩
      have hl8 : o8.length = out.length + 2 := by rw [← ho8, putA_len]; exact HL7.out
      rw [ho8] at HB8
      have HE8 := Lib.hid ho8
      have HL8 := Lib.hid hl8
      clear ho8 hl8
      obtain ⟨sp, hsp⟩ : ∃ sp, [out.length] = sp := ⟨_, rfl⟩
      have hO9 : w7.ownsRow (N + 1) 3 1 (.slice A5 1 c5) 1 (Go.Proofs.Ytibabfgfahlekaa.ints (sp.map Int.ofNat)) := by
        rw [← hsp]
        exact HO8.out
      have HO10 := Lib.hid hO9
      have hspl : sp.length = 1 := by rw [← hsp]; rfl
      have hspm : ∀ x ∈ sp, x < o8.length := by rw [← hsp, HL8.out]; intro x hx; simp only [List.mem_cons, List.not_mem_nil, or_false] at hx; omega
      have HSP := Lib.hid hsp
      have HSPM := Lib.hid hspm
      clear hsp hspm hO9
      go_loopw [102] (fun ct wq => ∃ (i : Nat) (gq : Option Nat), ct = .int .i64 i ∧ i ≤ sp.length ∧ BldG wq p L (putBs ((out.length + 1 : Nat) : Int) o8 (sp.take i)) gq ∧ Stays p g gq w wq ∧ wq.ownsRow (N + 1) 3 1 (.slice A5 1 c5) 1 (Go.Proofs.Ytibabfgfahlekaa.ints (sp.map Int.ofNat))) (fun ct _ => sp.length - (intOf ct).toNat)
      case atStart => exact ⟨0, _, rfl, by omega, HB8.out, HS8.out, HO10.out⟩
      case round =>
        obtain ⟨i, gq, rfl, hi, hBq, hSq, hOq⟩ := hrel
        by_cases hlt : i < 1
        · obtain ⟨ad1, y, rfl, hy, cy⟩ := (Go.Proofs.Ytibabfgfahlekaa.Reads.of_own hOq).int hlt
          have hil : i < sp.length := by omega
          obtain rfl : (sp[i] : Int) = y := by simpa [hil] using hy
          have hm9 := HSPM.out _ (List.getElem_mem hil)
          have htk : putB (putBs ((out.length + 1 : Nat) : Int) o8 (sp.take i)) sp[i] ((out.length + 1 : Nat) : Int) = putBs ((out.length + 1 : Nat) : Int) o8 (sp.take (i + 1)) := by
            rw [List.take_succ_eq_append_getElem hil, putBs_snoc]
          obtain ⟨q', c', rfl, hpq, hc1, ⟨u, hcu⟩, hfz, hB9, hS9⟩ := hBq.setB sp[i] (by rw [putBs_len]; omega) ((out.length + 1 : Nat) : Int)
          rw [htk] at hB9
          rw [putBs_len, HL8.out] at hc1
          have hsi : sp[i] < out.length + 2 := by rw [HL8.out] at hm9; exact hm9
          have HB9 := Lib.hid hB9
          have HS9 := Lib.hid (hSq.trans hS9)
          have HO9 := Lib.hid (hS9.own hOq (by omega) (hBq.apart hOq))
          generalize sp[i] = xi at *
          clear hy hB9 hS9 hSq hBq hOq htk hm9
          go_wp2_with fail
          go_roundw
          case rel =>
            try simp only [add_plain]
            exact ⟨i + 1, _, by go_num, by omega, HB9.out, HS9.out, HO9.out⟩
          case measure => simp [intOf] <;> omega
        · have hi2 : sp.take i = sp := List.take_of_length_le (by omega)
          rw [hi2] at hBq
          go_wp2_with fail
          have hR := HR.out
          have hrep : repM (j : Int) (-1) a sts = ⟨putBs ((out.length + 1 : Nat) : Int) o8 sp, sts.length, out.length + 1⟩ := by
            unfold repM
            rw [if_pos (by decide), Int.toNat_natCast, HQ.out]
            unfold hiS endM
            simp only [HOUT.out.1, HOUT.out.2.1, HOUT.out.2.2, HL4.out, HOK.out.2.2.2, List.nil_append, HE8.out, HSP.out]
          rw [hrep] at hR
          subst hR
          refine bodyPost_ret (v := .tuple #[.int .i64 sts.length, .int .i64 ((out.length + 1 : Nat) : Int)]) (by simp [results, Try.results59, go_sem]) rfl ⟨rfl, gq, hBq, hSq⟩
end Go.Proofs.YtibabfgfahlekaaQ
