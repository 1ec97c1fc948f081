import Derived.Test.YtfjemaeidmikmaaDoorFM2
import Derived.Test.YtfjemaeidmikmaaDoorFCore
import Derived.OneCell
import Derived.Lib.Hide
set_option linter.unusedVariables false
set_option linter.unusedSimpArgs false
namespace Go.Proofs.YtfjemaeidmikmaaDoorQ
open Go.RowKit Go.Proofs.YtfjemaeidmikmaaDoor
theorem WKeep_w0 {P : Prop} (h : P := by
 go_wp2_with fail;go_roundg (wmeas p')
 case rel =>
  have e5 : p' = wput (p.1, p.2.dropLast) st.f1 := HST5.out.trans (wvisit_go h3 hgo);exact ⟨p', Lib.hid rfl, by rw [e5]; exact Lib.hid (onOk_put HOK5.out _), by rw [e5]; exact Lib.hid hK6, Lib.hid (HKP5.out.trans hKP6), HF5⟩
 case measure => exact HMS2.out) : P := h
theorem WKeep_w1 {P : Prop} (h : P := by
 (have hgo : goesA st sym = false := by unfold goesA; exact decide_eq_false (by omega));(try clear s1); (try clear s0); (try clear h5); (try clear h4); (try clear h2);go_wp2_with fail;go_roundg (wmeas p')
 case rel =>
  have e5 : p' = (p.1, p.2.dropLast) := HST5.out.trans (wvisit_no h3 hgo);exact ⟨p', Lib.hid rfl, by rw [e5]; exact HOK5, by rw [e5]; exact HW5, HKP5, HF5⟩
 case measure => exact HMS2.out) : P := h
theorem own_ne_blk {w : World} {base n : Nat} {e : TypeId} {size : Nat} {v : Value} {xs : List Value} (h : w.ownsRow base e size v n xs) {b : Nat} {cs : Array Value} {t : TypeId} {fr : Nat × Nat} (hb : w.heap[b]? = some (.cells cs t fr)) (ht : e ≠ t) : v.ownBlock ≠ some b := by
 intro hk;rcases h.2 with ⟨rfl, _⟩ | ⟨g, cap, cur, rfl, _, hh, _⟩
 ·simp [Value.ownBlock] at hk
 ·(have : g = b := by simpa [Value.ownBlock] using hk);subst this;rw [hh] at hb;injection hb with hb;injection hb with _ hb;exact ht hb
def bools (l : List Bool) : List Value := l.map Value.bool
def WK (w0 : World) (b7 b8 gi n : Nat) (p : List Bool × List Int) (w : World) : Prop :=
 w.heap[b7]? = some (.cells #[.slice (some ⟨gi, 0, none⟩) n n] 28 (0, 0)) ∧ w.ownsRow w0.heap.size 4 1 (.slice (some ⟨gi, 0, none⟩) n n) n (bools p.1) ∧
 (∃ v, w.heap[b8]? = some (.cells #[v] 27 (0, 0)) ∧ w.ownsRow w0.heap.size 3 1 v p.2.length (ints p.2)) ∧ Below w0.heap.size w0 w ∧ w0.heap.size ≤ b7 ∧ w0.heap.size ≤ b8
def WKeep (w w' : World) : Prop := ∀ (b : Nat) (cs : Array Value) (t : TypeId) (fr : Nat × Nat), w.heap[b]? = some (.cells cs t fr) → 4 ≠ t → 3 ≠ t → 27 ≠ t → w'.heap[b]? = some (.cells cs t fr)
theorem WKeep.refl (w : World) : WKeep w w := fun _ _ _ _ h _ _ _ => h
theorem WKeep.trans {w w1 w2 : World} (h : WKeep w w1) (k : WKeep w1 w2) : WKeep w w2 := fun b cs t fr hb h1 h2 h3 => k b cs t fr (h b cs t fr hb h1 h2 h3) h1 h2 h3
theorem bools_at (l : List Bool) (k : Nat) (h : k < l.length) : (bools l)[k]? = some (.bool (Go.Proofs.YtfjemaeidmikmaaDoorW.PrintWords.rdOf false l k)) := by
 simp [bools, Go.Proofs.YtfjemaeidmikmaaDoorW.PrintWords.rdOf, List.getD_eq_getElem?_getD, List.getElem?_eq_getElem h]
set_option maxRecDepth 100000 in
theorem put_no (w0 : World) (b7 b8 gi n : Nat) (p : List Bool × List Int) (s : Int) (w : World) (hk : WK w0 b7 b8 gi n p w) (hp : p.1.length = n) (hn : n ≤ 1000000) (h : ¬ (0 ≤ s ∧ s < n ∧ Go.Proofs.YtfjemaeidmikmaaDoorW.PrintWords.rdOf false p.1 s = false)) :
  Calls Tryd.prog 68 #[.int .i64 s, .pointer (some ⟨b7, 0, none⟩), .pointer (some ⟨b8, 0, none⟩)] w fun e w' => e = .returned (.tuple #[]) ∧ w = w' := by
 obtain ⟨k7, kin, _, _, _, _⟩ := hk;have c7 := cell_of_one k7;by_cases h0 : 0 ≤ s
 ·by_cases h1 : s < n
  ·obtain ⟨k, rfl⟩ := Int.eq_ofNat_of_zero_le h0;(have hk : k < n := by omega)
   have ht : Go.Proofs.YtfjemaeidmikmaaDoorW.PrintWords.rdOf false p.1 (k : Int) = true := by
    rcases Bool.eq_false_or_eq_true (Go.Proofs.YtfjemaeidmikmaaDoorW.PrintWords.rdOf false p.1 (k : Int)) with e | e
    ·exact e
    ·exact absurd ⟨h0, h1, e⟩ h
   have c := (kin.cellAt k (by omega)).trans (bools_at p.1 k (by omega));rw [ht] at c;clear h kin k7 ht;go_enter Tryd.func68, Tryd.ntmps68;go_wp2_with fail;go_end0;exact ⟨rfl, rfl⟩
  ·go_enter Tryd.func68, Tryd.ntmps68;go_wp2_with fail;go_end0;exact ⟨rfl, rfl⟩
 ·go_enter Tryd.func68, Tryd.ntmps68;go_wp2_with fail;go_end0;exact ⟨rfl, rfl⟩
theorem bools_set (l : List Bool) (k : Nat) (b : Bool) : (bools l).set k (.bool b) = bools (l.set k b) := by simp [bools, List.map_set]
theorem ints_snoc (l : List Int) (s : Int) : ints l ++ [.int .i64 s] = ints (l ++ [s]) := by simp [ints]
theorem heap_set_ne {w : World} {a : Addr} {u : Value} {b : Nat} (h : b ≠ a.block) : (w.setCell a u).heap[b]? = w.heap[b]? := Below.heap_setCell w a u b h
set_option maxRecDepth 100000 in
theorem put_yes (w0 : World) (b7 b8 gi n : Nat) (p : List Bool × List Int) (k : Nat) (w : World) (hk : WK w0 b7 b8 gi n p w) (hp : p.1.length = n) (hn : n ≤ 1000000) (ht : p.2.length ≤ n) (h0 : k < n) (hf : Go.Proofs.YtfjemaeidmikmaaDoorW.PrintWords.rdOf false p.1 (k : Int) = false) :
  Calls Tryd.prog 68 #[.int .i64 (k : Int), .pointer (some ⟨b7, 0, none⟩), .pointer (some ⟨b8, 0, none⟩)] w fun e w' => e = .returned (.tuple #[]) ∧ WK w0 b7 b8 gi n (p.1.set k true, p.2 ++ [(k : Int)]) w' ∧ WKeep w w' := by
 obtain ⟨k7, kin, ⟨v, k8, ktd⟩, hb, hb7, hb8⟩ := hk;have c7 := cell_of_one k7;have c := (kin.cellAt k (by omega)).trans (bools_at p.1 k (by omega));rw [hf] at c;have fz := kin.frozenAt k;(have hgi7 : gi ≠ b7 := fun e => own_ne_blk kin k7 (by decide) (by simp [Value.ownBlock, e]));(have hgi8 : gi ≠ b8 := fun e => own_ne_blk kin k8 (by decide) (by simp [Value.ownBlock, e]))
 have h78 : b7 ≠ b8 := by
  intro e;subst e;rw [k7] at k8;injection k8 with k8;injection k8 with _ k8;exact absurd k8 (by decide)
 have hin1 := kin.stored k (.bool true);have hne := own_type_ne ktd kin (by decide);have htd1 := ktd.kept hin1.2 (by simpa [Value.ownBlock] using hne);have hb1 : Below w0.heap.size w0 (w.setCell ⟨gi, k, none⟩ (.bool true)) := bel_set hb (own_base kin gi rfl) _;have k71 : (w.setCell ⟨gi, k, none⟩ (.bool true)).heap[b7]? = _ := (heap_set_ne (Ne.symm hgi7)).trans k7;have k81 : (w.setCell ⟨gi, k, none⟩ (.bool true)).heap[b8]? = _ := (heap_set_ne (Ne.symm hgi8)).trans k8;have c81 := cell_of_one k81;have f81 := free_of_one k81;have hin := hin1.1;rw [bools_set] at hin;clear hf hin1 hne htd1;have hTD := Lib.hid ((ktd.kept (kin.stored k (.bool true)).2 (by simpa [Value.ownBlock] using own_type_ne ktd kin (by decide))))
 have hkeep : ∀ w3 : World, (w.setCell ⟨gi, k, none⟩ (.bool true)).grownBy w3 v.ownBlock → ∀ u, WKeep w (w3.setCell ⟨b8, 0, none⟩ u) := by
  intro w3 hg u b cs t fr hbb n1 n2 n3;(have e1 : b ≠ gi := fun e => own_ne_blk kin hbb n1 (by simp [Value.ownBlock, e]));(have e2 : some b ≠ v.ownBlock := fun e => own_ne_blk ktd hbb n2 e.symm)
  have e3 : b ≠ b8 := by
   intro e;subst e;rw [k8] at hbb;injection hbb with hbb;injection hbb with _ hbb;exact n3 hbb
  (have hlt : b < (w.setCell ⟨gi, k, none⟩ (.bool true)).heap.size := by have := lt_of_block hbb; simpa using this);exact (heap_set_ne e3).trans ((hg.block b hlt e2).trans ((heap_set_ne e1).trans hbb))
 have HKP := Lib.hid hkeep;clear hkeep;have K7 := Lib.hid k71;have K8 := Lib.hid k81;have HIN := Lib.hid hin;clear ktd kin k7 k8 k71 k81 hin;go_enter Tryd.func68, Tryd.ntmps68;go_upto_region 2 with fail;generalize w.setCell ⟨gi, k, none⟩ (.bool true) = w1 at *;have htd := hTD.out;(have hne7 : some b7 ≠ v.ownBlock := fun e => own_ne_blk htd K7.out (by decide) e.symm);(have hne8 : some b8 ≠ v.ownBlock := fun e => own_ne_blk htd K8.out (by decide) e.symm);have hlt7 := lt_of_block K7.out;have hlt8 := lt_of_block K8.out;have hneI := own_type_ne HIN.out htd (by decide);have NI := Lib.hid hneI;clear c7 c fz hb hTD hneI;go_wp2_with (at_builtin; refine app_lit rfl (.tmp 22) (.tmp 24) 27 rfl w0.heap.size 3 Tryd.underlying27 info_int rfl (by omega) (by omega) _ p.2.length (ints p.2) rfl htd [.int .i64 (k : Int)] 1 1 rfl rfl rfl (by omega) hb1 (Nat.le_refl _) hb1.size ?_; intro A3 c3 w3 HO3 hg3 hb3; have c83 := cell_of_one ((hg3.block b8 hlt8 hne8).trans K8.out); have f83 := free_of_one ((hg3.block b8 hlt8 hne8).trans K8.out));go_end0;have K83 := (hg3.block b8 hlt8 hne8).trans K8.out;have K73 := (hg3.block b7 hlt7 hne7).trans K7.out;have hin3 := HIN.out.kept hg3 NI.out;rw [ints_snoc] at HO3;refine ⟨rfl, ⟨(heap_set_ne h78).trans K73, ownsRow_setCell_other hin3 (by simpa [Value.ownBlock] using hgi8) _, ⟨_, one_setCell K83, ?_⟩, bel_set hb3 hb8 _, hb7, hb8⟩, HKP.out w3 hg3 _⟩;rw [List.length_append];exact ownsRow_setCell_other HO3 (own_ne_blk HO3 K83 (by decide)) _
theorem put_any (w0 : World) (b7 b8 gi n : Nat) (p : List Bool × List Int) (s : Int) (w : World) (hk : WK w0 b7 b8 gi n p w) (hp : onOk n p) (hn : n ≤ 1000000) :
  Calls Tryd.prog 68 #[.int .i64 s, .pointer (some ⟨b7, 0, none⟩), .pointer (some ⟨b8, 0, none⟩)] w fun e w' => e = .returned (.tuple #[]) ∧ WK w0 b7 b8 gi n (wput p s) w' ∧ WKeep w w' := by
 by_cases h : 0 ≤ s ∧ s < n ∧ Go.Proofs.YtfjemaeidmikmaaDoorW.PrintWords.rdOf false p.1 s = false
 ·obtain ⟨h0, h1, h2⟩ := h;obtain ⟨k, rfl⟩ := Int.eq_ofNat_of_zero_le h0
  have e : wput p (k : Int) = (p.1.set k true, p.2 ++ [(k : Int)]) := by
   unfold wput;rw [if_pos ⟨h0, by rw [hp.1]; exact h1, h2⟩, Int.toNat_natCast]
  rw [e];exact put_yes w0 b7 b8 gi n p k w hk hp.1 hn hp.2.1 (by omega) h2
 ·have e : wput p s = p := by
   unfold wput;rw [if_neg (by rw [hp.1]; exact h)]
  rw [e];refine (put_no w0 b7 b8 gi n p s w hk hp.1 hn h).mono ?_;rintro e w' ⟨rfl, rfl⟩;exact ⟨rfl, hk, WKeep.refl _⟩
theorem cell_of_one3 {w : World} {b : Nat} {a0 a1 a2 : Value} {t : TypeId} {fr : Nat × Nat} (h : w.heap[b]? = some (.cells #[a0, a1, a2] t fr)) : w.cell? ⟨b, 0, none⟩ = some a0 := by simp [World.cell?, h]
theorem cells_of7 {w : World} {b : Nat} {a0 a1 a2 a3 a4 a5 a6 : Value} {t : TypeId} {fr : Nat × Nat} (h : w.heap[b]? = some (.cells #[a0, a1, a2, a3, a4, a5, a6] t fr)) : w.cell? ⟨b, 0, none⟩ = some a0 ∧ w.cell? ⟨b, 1, none⟩ = some a1 ∧ w.cell? ⟨b, 2, none⟩ = some a2 := by simp [World.cell?, h]
theorem wvisit_go {st : St} {sym : Int} {q : List Bool × List Int} (h : ¬ st.f0 = 3) (hg : goesA st sym = true) : wvisit st sym q = wput q st.f1 := by unfold wvisit; rw [if_neg h, if_pos hg]
theorem wvisit_no {st : St} {sym : Int} {q : List Bool × List Int} (h : ¬ st.f0 = 3) (hg : goesA st sym = false) : wvisit st sym q = q := by unfold wvisit; rw [if_neg h, if_neg (by rw [hg]; decide)]
theorem info_bool : (Tryd.prog.info? 4).map (fun i => (i.zero, i.size, i.bytes)) = some (some (.bool false), 1, 1) := by kernel_rfl
theorem made_bools (n : Nat) : (madeCells (Value.bool false).cells (n * 1)).toList = bools (List.replicate n false) := by
 rw [Nat.mul_one]
 show (madeCells #[Value.bool false] n).toList = _
 rw [toList_madeCells_one];simp [bools]
open Go.Proofs.YtfjemaeidmikmaaDoorW.PrintWords in
set_option maxRecDepth 100000 in
set_option maxHeartbeats 3200000 in
theorem walk_any (A0 : Option Addr) (c0 : Nat) (sts : List St) (a01 a02 : Int) (A1 : Option Addr) (c1 : Nat) (l : List Int) (sym : Int) (w : World) (hr0 : Kd.C k64 w A0 sts.length sts) (hr1 : Kd.C (Kd.int .i64) w A1 l.length l) (hn : sts.length ≤ 1000000) (hl : l.length ≤ 140737488355328) :
  Calls Tryd.prog 63 #[.agg #[.slice A0 sts.length c0, .int .i64 a01, .int .i64 a02], .slice A1 l.length c1, .int .i64 sym] w fun e w' => ∃ v, e = .returned v ∧ w'.ownsRow w.heap.size 4 1 v sts.length (bools (walkF sts l sym)) ∧ Below w.heap.size w w' := by
 obtain ⟨i0, hi, hz0, hz1, hz2⟩ := info_parts info_bool;go_enter Tryd.func63, Tryd.ntmps63;go_wp2_with (at_make; refine wpList_make_full _ rfl _ _ 28 rfl w.heap.size 4 i0 (.bool false) 1 Tryd.underlying28 hi hz0 hz1 _ _ _ _ sts.length rfl rfl rfl rfl (by rw [hz2]; omega) (by unfold maxLen; omega) (by simp) ?_; intro w2 HO2 hg2);rw [made_bools] at HO2;have hb2 : Below w.heap.size w w2 := (bel_alloc (Below.refl _ _) _).grown hg2 (by simp) (fun j hj => by cases hj);have hbx : w2.heap[w.heap.size]? = some (.cells #[.slice A0 sts.length c0, .int .i64 a01, .int .i64 a02] 24 (0, 0)) := (hg2.block w.heap.size (by simp) (by simp)).trans (heap_alloc_new w _);have hlt2 : w.heap.size < w2.heap.size := lt_of_block hbx;obtain ⟨w4, hw4⟩ : ∃ w4, w4 = ((w2.alloc (.cells #[.slice (some ⟨w.heap.size + 1, 0, none⟩) sts.length sts.length] 28)).alloc (.cells #[.slice none 0 0] 27)) := ⟨_, rfl⟩;(have hz4 : w4.heap.size = w2.heap.size + 2 := by rw [hw4]; simp)
 have hbx4 : w4.heap[w.heap.size]? = some (.cells #[.slice A0 sts.length c0, .int .i64 a01, .int .i64 a02] 24 (0, 0)) := by
  rw [hw4];exact (Below.heap_alloc _ _ _ (by simp; omega)).trans ((Below.heap_alloc _ _ _ hlt2).trans hbx)
 have hWK : WK w w2.heap.size (w2.heap.size + 1) (w.heap.size + 1) sts.length (List.replicate sts.length false, []) w4 := by
  rw [hw4];refine ⟨(Below.heap_alloc _ _ _ (by simp)).trans (heap_alloc_new w2 _), ?_, ⟨.slice none 0 0, ?_, own_new⟩, bel_alloc (bel_alloc hb2 _) _, by omega, by omega⟩
  ·rw [show (w.alloc (.cells #[.slice A0 sts.length c0, .int .i64 a01, .int .i64 a02] 24)).heap.size = w.heap.size + 1 by simp] at HO2;exact ((own_mono HO2 (by omega)).alloc _).alloc _
  ·have := heap_alloc_new (w2.alloc (.cells #[.slice (some ⟨w.heap.size + 1, 0, none⟩) sts.length sts.length] 28)) (.cells #[.slice none 0 0] 27);simpa using this
 rw [← hw4];clear hw4 HO2 hbx hg2 hb2;have H4 := Lib.hid hz4;clear hz4;go_loopw [11, 20] (fun _ v20 wr => ∃ k : Nat, v20 = .int .i64 k ∧ k ≤ l.length ∧ WK w w2.heap.size (w2.heap.size + 1) (w.heap.size + 1) sts.length ((l.take k).foldl wput (List.replicate sts.length false, [])) wr ∧ WKeep w4 wr) (fun _ v20 _ => l.length - (intOf v20).toNat)
 case atStart => exact ⟨0, rfl, by omega, hWK, WKeep.refl _⟩
 case round =>
  clear hWK;obtain ⟨k, rfl, hk, hWK, hKP⟩ := hrel;by_cases hlt : k < l.length
  ·obtain ⟨ad, rfl, hx⟩ := Kd.at_int hr1 (k : Int) (by omega) (by omega);rw [Int.toNat_natCast] at hx;have hx' := (hWK.2.2.2.1.cell (World.block_lt_of_cell? w _ hx)).trans hx;have hok := onOk_fold (l.take k) (onOk_new sts.length)
   have hnext : (l.take (k + 1)).foldl wput (List.replicate sts.length false, []) = wput ((l.take k).foldl wput (List.replicate sts.length false, [])) (rd l (k : Int)) := by
    rw [List.take_succ_eq_append_getElem hlt, List.foldl_append];simp [rd, List.getD_eq_getElem?_getD, List.getElem?_eq_getElem hlt]
   have HN := Lib.hid hnext;have HOK := Lib.hid hok;have HWK := Lib.hid hWK;have HKP := Lib.hid hKP;clear hx hr0 hr1 hnext hok hWK hKP;go_wp2_with (go_at_call 68; refine (put_any w _ _ _ _ _ _ _ HWK.out HOK.out hn).mono ?_; rintro e w' ⟨rfl, hK, hKP2⟩);go_roundw
   case rel => exact ⟨k + 1, by go_num, by omega, by rw [HN.out]; exact hK, HKP.out.trans hKP2⟩
   case measure => simp [intOf]; omega
  ·(obtain rfl : k = l.length := by omega);go_wp2_with fail;rw [List.take_of_length_le (Nat.le_refl _)] at hWK;have hok0 := onOk_from sts.length l;have hfin : (wrun sts sym (wmeas (wfrom sts.length l)) (wfrom sts.length l)).1 = walkF sts l sym := rfl;have HWK0 := Lib.hid (show WK w w2.heap.size (w2.heap.size + 1) (w.heap.size + 1) sts.length (wfrom sts.length l) wr from hWK);have HOK0 := Lib.hid hok0;have HF0 := Lib.hid hfin;have HK0 := Lib.hid hKP;clear hWK hok0 hfin hKP;go_loopg [12] (wmeas (wfrom sts.length l)) (fun g _ w' => ∃ p, Hid (wmeas p = g) ∧ Hid (onOk sts.length p) ∧ Hid (WK w w2.heap.size (w2.heap.size + 1) (w.heap.size + 1) sts.length p w') ∧ Hid (WKeep w4 w') ∧ Hid ((wrun sts sym (wmeas p) p).1 = walkF sts l sym))
   case atStart => exact ⟨_, Lib.hid rfl, HOK0, HWK0, HK0, HF0⟩
   case round =>
    clear HWK0 HOK0 HF0 HK0;obtain ⟨p, HG, HOK, HWK, HKP, HF⟩ := hrel;obtain ⟨k7, kin, ⟨v, k8, ktd⟩, hb, hb7, hb8⟩ := HWK.out;have c7 := cell_of_one k7;have c8 := cell_of_one k8;by_cases hp : p.2 = []
    ·obtain ⟨A, c, rfl⟩ := Go.Proofs.YtfjemaeidmikmaaDoor.own_slice ktd;(have hm : p.2.length = 0 := by rw [hp]; rfl);rw [hm] at ktd k8 c8;clear hm;have KIN := Lib.hid kin;have HB := Lib.hid hb;clear k7 k8 kin ktd hb;go_wp2_with fail;go_ret;have hR := HF.out;(have : wrun sts sym (wmeas p) p = p := by cases hq : wmeas p <;> simp [wrun, hp]);rw [this] at hR;rw [← hR];exact ⟨_, rfl, KIN.out, HB.out⟩
    ·obtain ⟨q, hm⟩ : ∃ q, p.2.length = q := ⟨_, rfl⟩;(have hq1 : 1 ≤ q := by have := List.length_pos_iff.2 hp; omega);obtain ⟨s, hs⟩ : ∃ s, p.2[q - 1]? = some s := ⟨_, List.getElem?_eq_getElem (by omega)⟩
     have hlast : p.2.getLastD 0 = s := by
      rw [List.getLastD_eq_getLast?, List.getLast?_eq_getElem?, hm, hs];rfl
     obtain ⟨hs0, hs1⟩ := HOK.out.2.2.1 s (List.mem_of_getElem? hs);obtain ⟨g, cap, rfl, _⟩ := ktd.form (by omega);rw [hm] at ktd k8 c8;have ct := (ktd.cellAt (q - 1) (by omega)).trans (by rw [Go.Proofs.YtfjemaeidmikmaaDoor.ints_at, hs]; rfl : (ints p.2)[q - 1]? = some (.int .i64 s));obtain ⟨ad, rfl, e0, e1, e2, e3, e4, e5, e6⟩ := at_T64 hr0 s hs0 hs1;have HR0 := Lib.hid hr0;generalize hst : rd_T64 sts s = st at *;have cb := cell_of_one3 (HKP.out _ _ _ _ hbx4 (by decide) (by decide) (by decide));have E0 := (hb.cell (World.block_lt_of_cell? w _ e0)).trans e0;have E1 := (hb.cell (World.block_lt_of_cell? w _ e1)).trans e1;have E2 := (hb.cell (World.block_lt_of_cell? w _ e2)).trans e2;have E3 := (hb.cell (World.block_lt_of_cell? w _ e3)).trans e3;have E4 := (hb.cell (World.block_lt_of_cell? w _ e4)).trans e4;have E5 := (hb.cell (World.block_lt_of_cell? w _ e5)).trans e5;have E6 := (hb.cell (World.block_lt_of_cell? w _ e6)).trans e6;have hm2 := HOK.out.2.1;rw [hm] at hm2;(have hqn : q ≤ sts.length := by omega);(have I0 : (0 : Int) ≤ (q : Int) - 1 := by omega);(have I0' : (1 : Int) ≤ (q : Int) := by omega);(have I1 : (q : Int) - 1 < (q : Int) := by omega);have W1 : IntKind.i64.wrap ((q : Int) - 1) = (q : Int) - 1 := IntWalk.i64_in _ (by omega);(have W2 : ((q : Int) - 1).toNat = q - 1 := by omega);have hcap := (Go.Proofs.YtfjemaeidmikmaaDoor.own_le ktd).2;(have I2 : (q : Int) - 1 ≤ (cap : Int) := by omega);(have I3 : q - 1 ≤ cap := by omega);have HS := Lib.hid hs;have HLAST := Lib.hid hlast;have HM := Lib.hid hm;have HST := Lib.hid hst;have KIN := Lib.hid kin;have KTD := Lib.hid ktd;have HB := Lib.hid hb;have K7 := Lib.hid k7;have K8 := Lib.hid k8;have f8 := free_of_one k8;have hlt8 := lt_of_block k8;(have hlt8' : ¬ (w2.heap.size + 1 = wr.heap.size) := by omega);have f8' : (wr.alloc (.cells #[.int .i64 st.f0, .int .i64 st.f1, .int .i64 st.f2, .int .u64 st.f3.f0, .int .u64 st.f3.f1, .int .u64 st.f3.f2, .int .u64 st.f3.f3] 64)).frozen? ⟨w2.heap.size + 1, 0, none⟩ = false := ((bel_alloc (Below.refl wr.heap.size wr) _).frozen (p := ⟨w2.heap.size + 1, 0, none⟩) hlt8).trans f8;clear hr0 hr1 hs hlast hm hst kin ktd hb k7 k8 e0 e1 e2 e3 e4 e5 e6 hbx4;go_wp2_with fail
     go_region_held3 (fun w' => w'.cell? ⟨w.heap.size, 0, none⟩ = some (.slice (some ad) sts.length c0) ∧ w'.cell? ⟨w2.heap.size + 1, 0, none⟩ = some (.slice (some ⟨g, 0, none⟩) q cap) ∧ w'.cell? ⟨g, q - 1, none⟩ = some (.int .i64 s) ∧
      w'.cell? (ad.add (s.toNat * 7)) = some (.int .i64 st.f0) ∧ w'.cell? ⟨(ad.add (s.toNat * 7)).block, (ad.add (s.toNat * 7)).off + 1, none⟩ = some (.int .i64 st.f1) ∧ w'.cell? ⟨(ad.add (s.toNat * 7)).block, (ad.add (s.toNat * 7)).off + 2, none⟩ = some (.int .i64 st.f2) ∧
      w'.cell? ⟨(ad.add (s.toNat * 7)).block, (ad.add (s.toNat * 7)).off + 3, none⟩ = some (.int .u64 st.f3.f0) ∧ w'.cell? ⟨(ad.add (s.toNat * 7)).block, (ad.add (s.toNat * 7)).off + 4, none⟩ = some (.int .u64 st.f3.f1) ∧ w'.cell? ⟨(ad.add (s.toNat * 7)).block, (ad.add (s.toNat * 7)).off + 5, none⟩ = some (.int .u64 st.f3.f2) ∧ w'.cell? ⟨(ad.add (s.toNat * 7)).block, (ad.add (s.toNat * 7)).off + 6, none⟩ = some (.int .u64 st.f3.f3)) (go_keep) (fail)
     go_upto_block 4 with (fail);obtain ⟨w5, hw5⟩ : ∃ w5, w5 = ((wr.setCell ⟨w2.heap.size + 1, 0, none⟩ (.slice (some ⟨g, 0, none⟩) (q - 1) cap)).alloc (.cells #[.int .i64 st.f0, .int .i64 st.f1, .int .i64 st.f2, .int .u64 st.f3.f0, .int .u64 st.f3.f1, .int .u64 st.f3.f2, .int .u64 st.f3.f3] 64)).drew := ⟨_, rfl⟩
     have hB5 : w5.heap[wr.heap.size]? = some (.cells #[.int .i64 st.f0, .int .i64 st.f1, .int .i64 st.f2, .int .u64 st.f3.f0, .int .u64 st.f3.f1, .int .u64 st.f3.f2, .int .u64 st.f3.f3] 64 (0, 0)) := by
      rw [hw5];have := heap_alloc_new (wr.setCell ⟨w2.heap.size + 1, 0, none⟩ (.slice (some ⟨g, 0, none⟩) (q - 1) cap)) (.cells #[.int .i64 st.f0, .int .i64 st.f1, .int .i64 st.f2, .int .u64 st.f3.f0, .int .u64 st.f3.f1, .int .u64 st.f3.f2, .int .u64 st.f3.f3] 64);rw [show (wr.setCell ⟨w2.heap.size + 1, 0, none⟩ (.slice (some ⟨g, 0, none⟩) (q - 1) cap)).heap.size = wr.heap.size by simp] at this;exact this
     have hset : ∀ b, b < wr.heap.size → b ≠ w2.heap.size + 1 → w5.heap[b]? = wr.heap[b]? := by
      intro b hbl hbn;rw [hw5];exact (Below.heap_alloc _ _ _ (by simpa using hbl)).trans (heap_set_ne hbn)
     have hK5 : WKeep wr w5 := by
      intro b cs t fr hbb n1 n2 n3
      have e3 : b ≠ w2.heap.size + 1 := by
       intro e;subst e;rw [K8.out] at hbb;injection hbb with hbb;injection hbb with _ hbb;exact n3 hbb
      exact (hset b (lt_of_block hbb) e3).trans hbb
     (have hne7 : w2.heap.size ≠ w2.heap.size + 1 := by omega)
     have hW5 : WK w w2.heap.size (w2.heap.size + 1) (w.heap.size + 1) sts.length (p.1, p.2.dropLast) w5 := by
      refine ⟨(hset _ (lt_of_block K7.out) hne7).trans K7.out, ?_, ⟨.slice (some ⟨g, 0, none⟩) (q - 1) cap, ?_, ?_⟩, ?_, hb7, hb8⟩
      ·rw [hw5];exact ((ownsRow_setCell_other KIN.out (own_ne_blk KIN.out K8.out (by decide)) _).alloc _).drew
      ·rw [hw5];exact (Below.heap_alloc _ _ _ (by simpa using lt_of_block K8.out)).trans (one_setCell K8.out)
      ·have h1 := own_take KTD.out (q - 1) (by omega);(have e1 : (ints p.2).take ((q - 1) * 1) = ints p.2.dropLast := by rw [List.dropLast_eq_take, HM.out, Nat.mul_one]; simp [ints, List.map_take]);(have e2 : p.2.dropLast.length = q - 1 := by rw [List.length_dropLast, HM.out]);rw [e1] at h1;rw [e2, hw5];exact ((ownsRow_setCell_other h1 (own_ne_blk h1 K8.out (by decide)) _).alloc _).drew
      ·rw [hw5];exact bel_drew (bel_alloc (bel_set HB.out hb8 _) _)
     have hok5 := onOk_pop HOK.out;(have hst5 : wstep sts sym p = wvisit st sym (p.1, p.2.dropLast) := by unfold wstep; rw [HLAST.out, HST.out]);have hms := wstep_meas sts sym p hp
     have hF5 : (wrun sts sym (wmeas (wstep sts sym p)) (wstep sts sym p)).1 = walkF sts l sym := by
      rw [← HF.out];obtain ⟨m, em⟩ : ∃ m, wmeas p = m + 1 := ⟨wmeas p - 1, by omega⟩;rw [em];simp only [wrun, if_neg hp];rw [wrun_enough sts sym m _ (by omega)]
     rw [← hw5];(have hms2 : wmeas (wstep sts sym p) < gk := by rw [← HG.out]; omega);have hKP5 := HKP.out.trans hK5;obtain ⟨d0, d1, d2⟩ := cells_of7 hB5;have HB5 := Lib.hid hB5;have HW5 := Lib.hid hW5;have HOK5 := Lib.hid hok5;have HST5 := Lib.hid hst5;have HF5 := Lib.hid hF5;have HMS2 := Lib.hid hms2;have HKP5 := Lib.hid hKP5;generalize wstep sts sym p = p' at *;clear hw5 hset hK5 hW5 hok5 hst5 hms hF5 hms2 hKP5 hB5 c7 c8 ct cb f8 f8' hlt8 hlt8' W1 W2 I0 I0' I1 I2 I3 E0 E1 E2 E3 E4 E5 E6;have n0 := Lib.hid hn;clear hn;by_cases h3 : st.f0 = 3
     ·(have t3 : (st.f0 == 3) = true := by simpa using h3);go_wp2_with fail;refine (put_any w _ _ _ _ _ _ _ HW5.out HOK5.out n0.out).mono ?_;rintro e w6 ⟨rfl, hK6, hKP6⟩;obtain ⟨x0, x1, x2⟩ := cells_of7 (hKP6 _ _ _ _ HB5.out (by decide) (by decide) (by decide));have HK6 := Lib.hid hK6;have HKP6 := Lib.hid hKP6;clear hK6 hKP6 d0 d1 d2;go_wp2_with fail;refine (put_any w _ _ _ _ _ _ _ HK6.out (onOk_put HOK5.out _) n0.out).mono ?_;rintro e w7 ⟨rfl, hK7, hKP7⟩;go_wp2_with fail;go_roundg (wmeas p')
      case rel =>
       (have e5 : p' = wput (wput (p.1, p.2.dropLast) st.f2) st.f1 := by rw [HST5.out]; unfold wvisit; rw [if_pos h3]);exact ⟨p', Lib.hid rfl, by rw [e5]; exact Lib.hid (onOk_put (onOk_put HOK5.out _) _), by rw [e5]; exact Lib.hid hK7, Lib.hid ((HKP5.out.trans HKP6.out).trans hKP7), HF5⟩
      case measure => exact HMS2.out
     ·(have t3 : (st.f0 == 3) = false := by simpa using h3);by_cases h2 : st.f0 = 2
      ·(have t2 : (st.f0 == 2) = true := by simpa using (show st.f0 = 2 from by omega));(have hgo : goesA st sym = true := by unfold goesA; exact decide_eq_true (by omega));(try clear s1); (try clear s0); (try clear h5); (try clear h4); (try clear h2);go_wp2_with fail;refine (put_any w _ _ _ _ _ _ _ HW5.out HOK5.out n0.out).mono ?_;rintro e w6 ⟨rfl, hK6, hKP6⟩;exact WKeep_w0
      ·by_cases h4 : st.f0 = 4
       ·by_cases s0 : sym = 256
        ·(have t2 : (st.f0 == 2) = false := by simpa using (show st.f0 ≠ 2 from by omega));(have t4 : (st.f0 == 4) = true := by simpa using (show st.f0 = 4 from by omega));(have ts : (sym == 256) = true := by simpa using (show sym = 256 from by omega));(have hgo : goesA st sym = true := by unfold goesA; exact decide_eq_true (by omega));(try clear s1); (try clear s0); (try clear h5); (try clear h4); (try clear h2);go_wp2_with fail;refine (put_any w _ _ _ _ _ _ _ HW5.out HOK5.out n0.out).mono ?_;rintro e w6 ⟨rfl, hK6, hKP6⟩;exact WKeep_w0
        ·by_cases s1 : sym = 258
         ·(have t2 : (st.f0 == 2) = false := by simpa using (show st.f0 ≠ 2 from by omega));(have t4 : (st.f0 == 4) = true := by simpa using (show st.f0 = 4 from by omega));(have ts : (sym == 256) = false := by simpa using (show sym ≠ 256 from by omega));(have tt : (sym == 258) = true := by simpa using (show sym = 258 from by omega));(have hgo : goesA st sym = true := by unfold goesA; exact decide_eq_true (by omega));(try clear s1); (try clear s0); (try clear h5); (try clear h4); (try clear h2);go_wp2_with fail;refine (put_any w _ _ _ _ _ _ _ HW5.out HOK5.out n0.out).mono ?_;rintro e w6 ⟨rfl, hK6, hKP6⟩;exact WKeep_w0
         ·(have t2 : (st.f0 == 2) = false := by simpa using (show st.f0 ≠ 2 from by omega));(have t4 : (st.f0 == 4) = true := by simpa using (show st.f0 = 4 from by omega));(have t5 : (st.f0 == 5) = false := by simpa using (show st.f0 ≠ 5 from by omega));(have ts : (sym == 256) = false := by simpa using (show sym ≠ 256 from by omega));(have tt : (sym == 258) = false := by simpa using (show sym ≠ 258 from by omega));exact WKeep_w1
       ·by_cases h5 : st.f0 = 5
        ·by_cases s0 : sym = 257
         ·(have t2 : (st.f0 == 2) = false := by simpa using (show st.f0 ≠ 2 from by omega));(have t4 : (st.f0 == 4) = false := by simpa using (show st.f0 ≠ 4 from by omega));(have t5 : (st.f0 == 5) = true := by simpa using (show st.f0 = 5 from by omega));(have ts : (sym == 257) = true := by simpa using (show sym = 257 from by omega));(have hgo : goesA st sym = true := by unfold goesA; exact decide_eq_true (by omega));(try clear s1); (try clear s0); (try clear h5); (try clear h4); (try clear h2);go_wp2_with fail;refine (put_any w _ _ _ _ _ _ _ HW5.out HOK5.out n0.out).mono ?_;rintro e w6 ⟨rfl, hK6, hKP6⟩;exact WKeep_w0
         ·by_cases s1 : sym = 258
          ·(have t2 : (st.f0 == 2) = false := by simpa using (show st.f0 ≠ 2 from by omega));(have t4 : (st.f0 == 4) = false := by simpa using (show st.f0 ≠ 4 from by omega));(have t5 : (st.f0 == 5) = true := by simpa using (show st.f0 = 5 from by omega));(have ts : (sym == 257) = false := by simpa using (show sym ≠ 257 from by omega));(have tt : (sym == 258) = true := by simpa using (show sym = 258 from by omega));(have hgo : goesA st sym = true := by unfold goesA; exact decide_eq_true (by omega));(try clear s1); (try clear s0); (try clear h5); (try clear h4); (try clear h2);go_wp2_with fail;refine (put_any w _ _ _ _ _ _ _ HW5.out HOK5.out n0.out).mono ?_;rintro e w6 ⟨rfl, hK6, hKP6⟩;exact WKeep_w0
          ·(have t2 : (st.f0 == 2) = false := by simpa using (show st.f0 ≠ 2 from by omega));(have t4 : (st.f0 == 4) = false := by simpa using (show st.f0 ≠ 4 from by omega));(have t5 : (st.f0 == 5) = true := by simpa using (show st.f0 = 5 from by omega));(have ts : (sym == 257) = false := by simpa using (show sym ≠ 257 from by omega));(have tt : (sym == 258) = false := by simpa using (show sym ≠ 258 from by omega));exact WKeep_w1
        ·(have t2 : (st.f0 == 2) = false := by simpa using (show st.f0 ≠ 2 from by omega));(have t4 : (st.f0 == 4) = false := by simpa using (show st.f0 ≠ 4 from by omega));(have t5 : (st.f0 == 5) = false := by simpa using (show st.f0 ≠ 5 from by omega));exact WKeep_w1
open Go.Proofs.YtfjemaeidmikmaaDoorW.PrintWords in
def nfa_walk.f (l0_0 : List S64) (a0_1 a0_2 : Int) (l1 : List Int) (a2 : Int) : Option (List Bool) := if l0_0.length ≤ 1000000 ∧ l1.length ≤ 140737488355328 then some (walkF l0_0 l1 a2) else none
open Go.Proofs.YtfjemaeidmikmaaDoorW.PrintWords in
theorem nfa_walk.calls (A0_0 : Option Addr) (c0_0 : Nat) (l0_0 : List S64) (a0_1 a0_2 : Int) (A1 : Option Addr) (c1 : Nat) (l1 : List Int) (a2 : Int) (r : List Bool) (w : World) (hr0_0 : Kd.C k64 w A0_0 l0_0.length l0_0) (hc0_0 : l0_0.length ≤ c0_0) (hr1 : Kd.C (Kd.int .i64) w A1 l1.length l1) (hc1 : l1.length ≤ c1) (h : nfa_walk.f l0_0 a0_1 a0_2 l1 a2 = some r) :
  Calls Tryd.prog 63 #[.agg #[.slice A0_0 l0_0.length c0_0, .int .i64 a0_1, .int .i64 a0_2], .slice A1 l1.length c1, .int .i64 a2] w fun e w' => ∃ v0_ : Value, e = .returned (v0_) ∧ Kd.R Kd.bool 4 w' w.heap.size (fun _ => True) v0_ r ∧ Below w.heap.size w w' := by
 unfold nfa_walk.f at h;split at h
 case isFalse => cases h
 case isTrue c =>
  injection h with h;subst h;refine (walk_any A0_0 c0_0 l0_0 a0_1 a0_2 A1 c1 l1 a2 w hr0_0 hr1 c.1 c.2).mono ?_;rintro e w' ⟨v, rfl, ho, hb⟩
  have hlen : (walkF l0_0 l1 a2).length = l0_0.length := by
   have := ho.1;simpa [bools] using this
  refine ⟨v, rfl, Kd.R_of_own (enc := Value.bool) (h1 := fun _ => rfl) ?_ (fun _ _ => trivial), hb⟩;rw [hlen];exact ho
end Go.Proofs.YtfjemaeidmikmaaDoorQ
