import Derived.Test.YtfjemaeidmikmaaDoorFM1
import Derived.Test.YtfjemaeidmikmaaDoorFM4
import Derived.Test.YtfjemaeidmikmaaDoorFM2
import Derived.Test.YtfjemaeidmikmaaDoorFQXBytesetBytes
import Derived.Test.YtfjemaeidmikmaaDoorFQAlphaClasses
set_option linter.unusedVariables false
set_option linter.unusedSimpArgs false
namespace Go.Proofs.YtfjemaeidmikmaaDoorQ
open Go.RowKit Go.Proofs.YtfjemaeidmikmaaDoorW.PrintWords Go.Proofs.YtfjemaeidmikmaaDoorW.PrintLast Go.Proofs.Bs
theorem up_wrap {i : Nat} (h : i ≤ 1000000000) : wrap64 ((i : Int) + 1) = ((i + 1 : Nat) : Int) := by rw [wrap_in (by omega) (by omega)]; omega
def stS (st : St) : S := setI st.f3.f0 st.f3.f1 st.f3.f2 st.f3.f3
theorem sbytes_f {st : St} (h : wfSt st) : byteset_Bytes.f st.f3.f0 st.f3.f1 st.f3.f2 st.f3.f3 = some ((Bs.bytes (stS st)).map Int.ofNat) := by
  unfold byteset_Bytes.f;rw [if_pos (show wfI _ _ _ _ from h)];rfl
def ind (st : St) (i : Nat) : Bool := decide (i < 256) && has (stS st) i
def c0 (i : Nat) : Nat := if i < 256 then 0 else i - 255
structure Lb where
  c : Nat
  m : List Bool
deriving DecidableEq
def lab (sts : List St) (i : Nat) : Lb := ⟨c0 i, sts.map fun st => ind st i⟩
def labs (sts : List St) : List Lb := (List.range 259).map (lab sts)
theorem labs_len (sts : List St) : (labs sts).length = 259 := by simp [labs]
theorem labs_get (sts : List St) (i : Nat) (h : i < (labs sts).length) : (labs sts)[i] = lab sts i := by simp [labs]
def cls (sts : List St) : List Int := (Al.run (labs sts)).2.map Int.ofNat
def wid (sts : List St) : Int := ((Al.run (labs sts)).1.length : Nat)
theorem cls_len (sts : List St) : (cls sts).length = 259 := by unfold cls; rw [List.length_map, Al.run_len, labs_len]
theorem cls_get (sts : List St) (i : Nat) (h : i < (cls sts).length) : (cls sts)[i] = Int.ofNat ((Al.run (labs sts)).2[i]'(by rw [cls_len] at h; rw [Al.run_len, labs_len]; exact h)) := List.getElem_map Int.ofNat
theorem cls_same (sts : List St) (i j : Nat) (hi : i < (cls sts).length) (hj : j < (cls sts).length) : (cls sts)[i] = (cls sts)[j] ↔ lab sts i = lab sts j := by
  have hi' := hi;have hj' := hj;rw [cls_len] at hi' hj';have h := Al.run_same (labs sts) i j (by rw [labs_len]; exact hi') (by rw [labs_len]; exact hj');rw [labs_get, labs_get] at h;rw [← h, cls_get, cls_get];exact ⟨fun e => Int.ofNat.inj e, fun e => congrArg Int.ofNat e⟩
theorem cls_in (sts : List St) : inI (cls sts) = true := by
  unfold inI;rw [List.all_eq_true];intro x hx;unfold cls at hx;obtain ⟨n, hn, rfl⟩ := List.mem_map.1 hx;have h1 := Al.run_le _ n hn;rw [labs_len] at h1;have h3 : Int.ofNat n = (n : Int) := rfl;rw [h3];simp only [Bool.and_eq_true, decide_eq_true_eq];omega
def marks (p : Nat → Bool) : List Int := (List.range 259).map fun i => if p i then 1 else 0
theorem marks_len (p : Nat → Bool) : (marks p).length = 259 := by simp [marks]
theorem marks_in (p : Nat → Bool) : inI (marks p) = true := by
  unfold inI;rw [List.all_eq_true];intro x hx;obtain ⟨i, _, rfl⟩ := List.mem_map.1 hx;split <;> decide
theorem joined (x : List Int) (y : List Int) (sts : List St) (hx : x.length = 259) (hy : y.length = 259) (ix : inI x = true) (iy : inI y = true)
    (h : ∀ i j (hi : i < 259) (hj : j < 259), (x[i]'(hx ▸ hi) = x[j]'(hx ▸ hj) ∧ y[i]'(hy ▸ hi) = y[j]'(hy ▸ hj)) ↔ lab sts i = lab sts j) : alpha_Join.f x y = some (cls sts, wid sts) := by
  unfold alpha_Join.f;rw [if_pos ⟨by omega, by omega, ix, iy⟩, if_pos (by omega)];(have hz : (x.zip y).length = (labs sts).length := by rw [List.length_zip, labs_len]; omega)
  obtain ⟨e1, e2⟩ := Al.run_pattern (x.zip y) (labs sts) hz fun i j hi hj => by
    rw [List.length_zip] at hi hj;rw [List.getElem_zip, List.getElem_zip, Prod.mk.injEq, labs_get, labs_get];exact h i j (by omega) (by omega)
  unfold joinN cls wid;rw [e1, e2]
def start0 : List Int := (List.range 259).map fun i => ((c0 i : Nat) : Int)
theorem start_join : alpha_Join.f start0 start0 = some (cls [], wid []) := by
  (have hl : start0.length = 259 := by simp [start0]);(refine joined start0 start0 [] hl hl (by decide +kernel) (by decide +kernel) fun i j hi hj => ?_);simp only [start0, List.getElem_map, List.getElem_range, and_self, lab, List.map_nil, Lb.mk.injEq, and_true];omega
theorem lab_snoc (sts : List St) (st : St) (i j : Nat) : lab (sts ++ [st]) i = lab (sts ++ [st]) j ↔ lab sts i = lab sts j ∧ ind st i = ind st j := by
  unfold lab;simp only [List.map_append, List.map_cons, List.map_nil, Lb.mk.injEq];constructor
  · rintro ⟨h1, h2⟩;have := List.append_inj h2 (by simp);simp at this;exact ⟨⟨h1, List.map_inj_left.2 this.1⟩, this.2⟩
  · rintro ⟨⟨h1, h2⟩, h3⟩;rw [h2, h3];exact ⟨h1, rfl⟩
theorem step_join (sts : List St) (st : St) : alpha_Join.f (cls sts) (marks (ind st)) = some (cls (sts ++ [st]), wid (sts ++ [st])) := by
  (refine joined _ _ _ (cls_len _) (marks_len _) (cls_in _) (marks_in _) fun i j hi hj => ?_);rw [cls_same, lab_snoc]
  have : (marks (ind st))[i]'(by rw [marks_len]; exact hi) = (marks (ind st))[j]'(by rw [marks_len]; exact hj) ↔ ind st i = ind st j := by
    simp only [marks, List.getElem_map, List.getElem_range];cases ind st i <;> cases ind st j <;> simp
  rw [this]
theorem step_none (sts : List St) (st : St) (h : ∀ i, ind st i = false) : cls (sts ++ [st]) = cls sts ∧ wid (sts ++ [st]) = wid sts := by
  obtain ⟨e1, e2⟩ := Al.run_pattern (labs (sts ++ [st])) (labs sts) (by rw [labs_len, labs_len]) fun i j hi hj => by
    rw [labs_get, labs_get, labs_get, labs_get, lab_snoc, h, h];simp
  unfold cls wid;rw [e1, e2];exact ⟨rfl, rfl⟩
theorem ind_none {st : St} (h : st.f3.f0 = 0 ∧ st.f3.f1 = 0 ∧ st.f3.f2 = 0 ∧ st.f3.f3 = 0) (i : Nat) : ind st i = false := by
  obtain ⟨h0, h1, h2, h3⟩ := h
  have : stS st = S.zero := by
    unfold stS setI;rw [h0, h1, h2, h3];rfl
  unfold ind;rw [this, has_zero, Bool.and_false]
theorem rdInt (l : List Nat) (i : Nat) (h : i < l.length) : rd (l.map Int.ofNat) (i : Int) = ((l[i] : Nat) : Int) := by
  unfold rd;rw [List.getD_eq_getElem?_getD, Int.toNat_natCast, List.getElem?_eq_getElem (by rw [List.length_map]; exact h)];simp
theorem marks_set (p : Nat → Bool) (b : Nat) (hb : b < 259) : (marks p).set b 1 = marks fun i => p i || decide (i = b) := by
  apply List.ext_getElem (by simp [marks]);intro i h1 h2;rw [List.getElem_set];simp only [marks, List.getElem_map, List.getElem_range];by_cases e : b = i
  · subst e; simp
  · rw [if_neg e];(have : ¬ i = b := fun h => e h.symm);simp [this]
theorem classes_l2 (sts : List St) (x4 : List Int) (j : Nat) (bs : List Nat) (hbs : ∀ b ∈ bs, b < 256) (hn : bs.length ≤ 256) (r : List Int × Int) (hr : ∀ y, alpha_Join.f x4 (marks fun i => decide (i ∈ bs)) = some y → EV (fun k => alpha_Classes.l1 k y.1 y.2 sts (sts.length : Int) (wrap64 ((j : Int) + 1))) r)
    (hj : ∃ y, alpha_Join.f x4 (marks fun i => decide (i ∈ bs)) = some y) : ∀ (d q : Nat), bs.length - q = d → q ≤ bs.length →
    EV (fun k => alpha_Classes.l2 k x4 (marks fun i => decide (i ∈ bs.take q)) sts (sts.length : Int) j (bs.map Int.ofNat) ((bs.map Int.ofNat).length : Int) q) r := by
  intro d
  induction d with
  | zero =>
    intro q hd hq;(obtain rfl : q = bs.length := by omega);obtain ⟨y, hy⟩ := hj;rw [List.take_length];have h := EV.bind (EV.now (g := fun _ => alpha_Join.f x4 (marks fun i => decide (i ∈ bs))) fun _ => hy) (h := fun k (bt121 : List Int × Int) => alpha_Classes.l1 k bt121.1 bt121.2 sts (sts.length : Int) (wrap64 ((j : Int) + 1))) (r := r) (hr y hy);(refine EV.step h fun k => ?_);simp only [alpha_Classes.l2];rw [if_neg (by rw [List.length_map]; omega)]
  | succ d ih =>
    intro q hd hq;(have hlt : q < bs.length := by omega);have hb := hbs _ (List.getElem_mem hlt);have ih := ih (q + 1) (by omega) (by omega);have hrd := rdInt bs q hlt
    have e : (fun i => decide (i ∈ bs.take (q + 1))) = fun i => decide (i ∈ bs.take q) || decide (i = bs[q]) := by
      funext i;rw [Bool.eq_iff_iff];simp only [Bool.or_eq_true, decide_eq_true_eq];rw [List.take_succ_eq_append_getElem hlt, List.mem_append, List.mem_singleton]
    rw [e] at ih;generalize bs[q] = b at *;rw [← marks_set _ b (by omega)] at ih;(refine EV.step ih fun k => ?_);simp only [alpha_Classes.l2];rw [if_pos (by rw [List.length_map]; omega), if_pos (by omega), if_pos (by rw [List.length_map]; omega), hrd, if_pos (by omega), if_pos (by rw [marks_len]; omega), up_wrap (by omega), Int.toNat_natCast]
theorem rdSt (sts : List St) (i : Nat) (h : i < sts.length) : rd_T64 sts (i : Int) = sts[i] := by
  unfold rd_T64;rw [List.getD_eq_getElem?_getD, Int.toNat_natCast, List.getElem?_eq_getElem h];rfl
theorem marks_zero : List.replicate 259 (0 : Int) = marks fun i => decide (i ∈ ([] : List Nat)) := by decide +kernel
theorem classes_l1 (sts : List St) (hn : sts.length ≤ 600) (hok : ∀ j (h : j < sts.length), sts[j].f0 = 1 ∨ sts[j].f3.f0 = 0 ∧ sts[j].f3.f1 = 0 ∧ sts[j].f3.f2 = 0 ∧ sts[j].f3.f3 = 0) (hw : wfSts sts) : ∀ (d j : Nat), sts.length - j = d → j ≤ sts.length →
    EV (fun k => alpha_Classes.l1 k (cls (sts.take j)) (wid (sts.take j)) sts (sts.length : Int) j) (cls sts, wid sts) := by
  intro d
  induction d with
  | zero =>
    intro j hd hj;(obtain rfl : j = sts.length := by omega);(refine EV.stop fun k => ?_);simp only [alpha_Classes.l1];rw [if_neg (by omega), List.take_length]
  | succ d ih =>
    intro j hd hj;(have hlt : j < sts.length := by omega);have ih := ih (j + 1) (by omega) (by omega);rw [List.take_succ_eq_append_getElem hlt] at ih;have hrd := rdSt sts j hlt;(have hwf : wfSt sts[j] := by have := hw (j : Int) (by omega) (by omega); rwa [hrd] at this);have hkj := hok j hlt;generalize sts[j] = st at *;by_cases hk : st.f0 = 1
    · have hlen : (Bs.bytes (stS st)).length ≤ 256 := by
        have := List.length_filter_le (fun j => has (stS st) j) (List.range 256);rwa [List.length_range] at this
      have hm : (marks fun i => decide (i ∈ Bs.bytes (stS st))) = marks (ind st) := by
        congr 1;funext i;unfold ind;rw [Bool.eq_iff_iff, decide_eq_true_eq, mem_bytes];simp
      have hJ := step_join (sts.take j) st;rw [← hm] at hJ
      have h := classes_l2 sts (cls (sts.take j)) j (Bs.bytes (stS st)) (fun b hb => bytes_lt hb) hlen (cls sts, wid sts) (fun y hy => by
        obtain rfl := Option.some.inj (hJ.symm.trans hy);rw [up_wrap (by omega)];dsimp only
        exact ih) ⟨_, hJ⟩ _ 0 rfl (by omega)
      (refine EV.step h fun k => ?_);simp only [alpha_Classes.l1];rw [if_pos (by omega), if_pos (by omega), if_pos (by omega), hrd, if_pos hk, if_pos (by omega), sbytes_f hwf, marks_zero];rfl
    · have hz := hkj.resolve_left hk;obtain ⟨e1, e2⟩ := step_none (sts.take j) st (ind_none hz);rw [e1, e2] at ih;(refine EV.step ih fun k => ?_);simp only [alpha_Classes.l1];rw [if_pos (by omega), if_pos (by omega), if_pos (by omega), hrd, if_neg hk, up_wrap (by omega)]
theorem start_sets : ((((List.replicate 259 (0 : Int)).set 256 1).set 257 2).set 258 3) = start0 := by decide +kernel
theorem classes_l0 (sts : List St) (s f : Int) (r : List Int × Int) (h : EV (fun k => alpha_Classes.l1 k (cls []) (wid []) sts (sts.length : Int) 0) r) : EV (fun k => alpha_Classes.l0 k (List.replicate 259 0) 256 sts s f) r := by
  have h3' : ∀ X : List Int, alpha_Join.f X X = some (cls [], wid []) → EV (fun k => alpha_Classes.l0 k X 259 sts s f) r := fun X hX => by
    have hb := EV.bind (EV.now (g := fun _ => alpha_Join.f X X) fun _ => hX) (h := fun k (bt107 : List Int × Int) => alpha_Classes.l1 k bt107.1 bt107.2 sts (sts.length : Int) 0) (r := r) (by dsimp only; exact h);(refine EV.step hb fun k => ?_);simp only [alpha_Classes.l0];rw [if_neg (by omega)]
  have h3 := h3' start0 start_join;rw [← start_sets] at h3;(have w1 : wrap64 (256 + 1) = 257 := by decide +kernel);(have w2 : wrap64 (257 + 1) = 258 := by decide +kernel);(have w3 : wrap64 (258 + 1) = 259 := by decide +kernel);(have v1 : wrap64 (wrap64 (256 - 256) + 1) = 1 := by decide +kernel);(have v2 : wrap64 (wrap64 (257 - 256) + 1) = 2 := by decide +kernel);(have v3 : wrap64 (wrap64 (258 - 256) + 1) = 3 := by decide +kernel)
  have h2 : EV (fun k => alpha_Classes.l0 k (((List.replicate 259 (0 : Int)).set 256 1).set 257 2) 258 sts s f) r := EV.step h3 fun k => by
    simp only [alpha_Classes.l0];rw [if_pos (by omega), if_pos (by omega), if_pos (by rw [List.length_set, List.length_set, List.length_replicate]; omega), w3, v3];rfl
  have h1 : EV (fun k => alpha_Classes.l0 k ((List.replicate 259 (0 : Int)).set 256 1) 257 sts s f) r := EV.step h2 fun k => by
    simp only [alpha_Classes.l0];rw [if_pos (by omega), if_pos (by omega), if_pos (by rw [List.length_set, List.length_replicate]; omega), w2, v2];rfl
  exact EV.step h1 fun k => by
    simp only [alpha_Classes.l0];rw [if_pos (by omega), if_pos (by omega), if_pos (by rw [List.length_replicate]; omega), w1, v1];rfl
theorem rightN_sets {sts : List St} {s f : Int} (h : rightN sts s f = true) : ∀ j (hj : j < sts.length), sts[j].f0 = 1 ∨ sts[j].f3.f0 = 0 ∧ sts[j].f3.f1 = 0 ∧ sts[j].f3.f2 = 0 ∧ sts[j].f3.f3 = 0 := by
  intro j hj;unfold rightN at h;rw [Bool.and_eq_true] at h;have h2 := ((rightAt_iff sts f _ _).1 h.2 j (by omega) (by omega)).1;rw [rdSt sts j hj] at h2;unfold fieldsN at h2;rw [decide_eq_true_eq] at h2;exact h2.2.2.1
theorem classes_yes (sts : List St) (s f : Int) (hR : rightN sts s f = true) (hw : wfSts sts) : EV (fun k => alpha_Classes.f k sts s f) (cls sts, wid sts) := by
  have hn := rightN_len hR;unfold alpha_Classes.f;refine EV.bind (right_eq sts s f) ?_;rw [hR];refine EV.congr (fun k => if_pos rfl) ?_;refine EV.congr (fun k => if_pos (by omega)) ?_;exact classes_l0 sts s f _ (classes_l1 sts hn (rightN_sets hR) hw sts.length 0 rfl (by omega))
theorem classes_no (sts : List St) (s f : Int) (hR : rightN sts s f = false) : EV (fun k => alpha_Classes.f k sts s f) ([], 0) := by
  unfold alpha_Classes.f;refine EV.bind (right_eq sts s f) ?_;rw [hR];exact EV.congr (fun k => if_neg (by decide)) EV.const
theorem map_all {α β : Type} [DecidableEq β] (l : List α) (f g : α → β) : l.map f = l.map g ↔ ∀ x ∈ l, f x = g x := List.map_inj_left
theorem lab_low (sts : List St) (a b : Nat) (ha : a < 256) (hb : b < 256) : lab sts a = lab sts b ↔ ∀ st ∈ sts, has (stS st) a = has (stS st) b := by
  unfold lab;rw [Lb.mk.injEq, map_all];simp only [c0, ha, hb, if_true, true_and, ind, decide_true, Bool.true_and]
theorem lab_high (sts : List St) (a b : Nat) (h : 256 ≤ a ∨ 256 ≤ b) : lab sts a = lab sts b ↔ a = b := by
  constructor
  · intro e;have := congrArg Lb.c e;simp only [lab, c0] at this;split at this <;> split at this <;> omega
  · intro e; rw [e]
def firstsTo (sts : List St) (i : Nat) : List Nat := Al.firsts ((List.range i).map (lab sts))
end Go.Proofs.YtfjemaeidmikmaaDoorQ
