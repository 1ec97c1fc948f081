import Derived.Test.YtfjemaeidmikmaaDoorBM2
import Derived.Test.YtfjemaeidmikmaaDoorBM4
import Derived.Test.YtfjemaeidmikmaaDoorBM3
import Derived.Test.YtfjemaeidmikmaaDoorBQXBytesetBytes
import Derived.Test.YtfjemaeidmikmaaDoorBQAlphaClasses
import Derived.Test.YtfjemaeidmikmaaDoorBQTattingref10Classes
import Derived.Test.YtfjemaeidmikmaaDoorBQTattingref10Same
set_option linter.unusedVariables false
set_option linter.unusedSimpArgs false
namespace Go.Proofs.YtfjemaeidmikmaaDoorQ
open Go.RowKit Go.Proofs.YtfjemaeidmikmaaDoorW.PrintWords Go.Proofs.YtfjemaeidmikmaaDoorW.PrintLast Go.Proofs.Bs
theorem up_wrap {i : Nat} (h : i ≤ 1000000000) : wrap64 ((i : Int) + 1) = ((i + 1 : Nat) : Int) := by rw [wrap_in (by omega) (by omega)]; omega
def stS (st : St) : S := setI st.f3.f0 st.f3.f1 st.f3.f2 st.f3.f3
theorem sbytes_f {st : St} (h : wfSt st) : byteset_Bytes.f st.f3.f0 st.f3.f1 st.f3.f2 st.f3.f3 = some ((Bs.bytes (stS st)).map Int.ofNat) := by
  unfold byteset_Bytes.f
  rw [if_pos (show wfI _ _ _ _ from h)]
  rfl
theorem shas_f {st : St} (h : wfSt st) (i : Nat) (hi : i < 256) : tattingref01_Has.f st.f3.f0 st.f3.f1 st.f3.f2 st.f3.f3 i = some (has (stS st) i) := by
  unfold tattingref01_Has.f
  rw [if_pos ⟨(show wfI _ _ _ _ from h), by omega, by omega⟩, Int.toNat_natCast]
  rfl
def ind (st : St) (i : Nat) : Bool := decide (i < 256) && has (stS st) i
def c0 (i : Nat) : Nat := if i < 256 then 0 else i - 255
structure Lb where
  c : Nat
  m : List Bool
deriving DecidableEq
def lab (sts : List St) (i : Nat) : Lb := ⟨c0 i, sts.map fun st => ind st i⟩
def labs (sts : List St) : List Lb := (List.range 259).map (lab sts)
theorem labs_len (sts : List St) : (labs sts).length = 259 := by simp [labs]
theorem labs_get (sts : List St) (i : Nat) (h : i < (labs sts).length) : (labs sts)[i] = lab sts i := by simp [labs]
def cls (sts : List St) : List Int := (Al.run (labs sts)).2.map Int.ofNat
def wid (sts : List St) : Int := ((Al.run (labs sts)).1.length : Nat)
theorem cls_len (sts : List St) : (cls sts).length = 259 := by unfold cls; rw [List.length_map, Al.run_len, labs_len]
theorem cls_get (sts : List St) (i : Nat) (h : i < (cls sts).length) : (cls sts)[i] = Int.ofNat ((Al.run (labs sts)).2[i]'(by rw [cls_len] at h; rw [Al.run_len, labs_len]; exact h)) := List.getElem_map Int.ofNat
theorem cls_same (sts : List St) (i j : Nat) (hi : i < (cls sts).length) (hj : j < (cls sts).length) : (cls sts)[i] = (cls sts)[j] ↔ lab sts i = lab sts j := by
  have hi' := hi
  have hj' := hj
  rw [cls_len] at hi' hj'
  have h := Al.run_same (labs sts) i j (by rw [labs_len]; exact hi') (by rw [labs_len]; exact hj')
  rw [labs_get, labs_get] at h
  rw [← h, cls_get, cls_get]
  exact ⟨fun e => Int.ofNat.inj e, fun e => congrArg Int.ofNat e⟩
theorem cls_in (sts : List St) : inI (cls sts) = true := by
  unfold inI
  rw [List.all_eq_true]
  intro x hx
  unfold cls at hx
  obtain ⟨n, hn, rfl⟩ := List.mem_map.1 hx
  have h1 := Al.run_le _ n hn
  rw [labs_len] at h1
  have h3 : Int.ofNat n = (n : Int) := rfl
  rw [h3]
  simp only [Bool.and_eq_true, decide_eq_true_eq]
  omega
def marks (p : Nat → Bool) : List Int := (List.range 259).map fun i => if p i then 1 else 0
theorem marks_len (p : Nat → Bool) : (marks p).length = 259 := by simp [marks]
theorem marks_in (p : Nat → Bool) : inI (marks p) = true := by
  unfold inI
  rw [List.all_eq_true]
  intro x hx
  obtain ⟨i, _, rfl⟩ := List.mem_map.1 hx
  split <;> decide
theorem joined (x : List Int) (y : List Int) (sts : List St) (hx : x.length = 259) (hy : y.length = 259) (ix : inI x = true) (iy : inI y = true)
    (h : ∀ i j (hi : i < 259) (hj : j < 259), (x[i]'(hx ▸ hi) = x[j]'(hx ▸ hj) ∧ y[i]'(hy ▸ hi) = y[j]'(hy ▸ hj)) ↔ lab sts i = lab sts j) : alpha_Join.f x y = some (cls sts, wid sts) := by
  unfold alpha_Join.f
  rw [if_pos ⟨by omega, by omega, ix, iy⟩, if_pos (by omega)]
  have hz : (x.zip y).length = (labs sts).length := by rw [List.length_zip, labs_len]; omega
  obtain ⟨e1, e2⟩ := Al.run_pattern (x.zip y) (labs sts) hz fun i j hi hj => by
    rw [List.length_zip] at hi hj
    rw [List.getElem_zip, List.getElem_zip, Prod.mk.injEq, labs_get, labs_get]
    exact h i j (by omega) (by omega)
  unfold joinN cls wid
  rw [e1, e2]
def start0 : List Int := (List.range 259).map fun i => ((c0 i : Nat) : Int)
theorem start_join : alpha_Join.f start0 start0 = some (cls [], wid []) := by
  have hl : start0.length = 259 := by simp [start0]
  refine joined start0 start0 [] hl hl (by decide +kernel) (by decide +kernel) fun i j hi hj => ?_
  simp only [start0, List.getElem_map, List.getElem_range, and_self, lab, List.map_nil, Lb.mk.injEq, and_true]
  omega
theorem lab_snoc (sts : List St) (st : St) (i j : Nat) : lab (sts ++ [st]) i = lab (sts ++ [st]) j ↔ lab sts i = lab sts j ∧ ind st i = ind st j := by
  unfold lab
  simp only [List.map_append, List.map_cons, List.map_nil, Lb.mk.injEq]
  constructor
  · rintro ⟨h1, h2⟩
    have := List.append_inj h2 (by simp)
    simp at this
    exact ⟨⟨h1, List.map_inj_left.2 this.1⟩, this.2⟩
  · rintro ⟨⟨h1, h2⟩, h3⟩
    rw [h2, h3]
    exact ⟨h1, rfl⟩
theorem step_join (sts : List St) (st : St) : alpha_Join.f (cls sts) (marks (ind st)) = some (cls (sts ++ [st]), wid (sts ++ [st])) := by
  refine joined _ _ _ (cls_len _) (marks_len _) (cls_in _) (marks_in _) fun i j hi hj => ?_
  rw [cls_same, lab_snoc]
  have : (marks (ind st))[i]'(by rw [marks_len]; exact hi) = (marks (ind st))[j]'(by rw [marks_len]; exact hj) ↔ ind st i = ind st j := by
    simp only [marks, List.getElem_map, List.getElem_range]
    cases ind st i <;> cases ind st j <;> simp
  rw [this]
theorem step_none (sts : List St) (st : St) (h : ∀ i, ind st i = false) : cls (sts ++ [st]) = cls sts ∧ wid (sts ++ [st]) = wid sts := by
  obtain ⟨e1, e2⟩ := Al.run_pattern (labs (sts ++ [st])) (labs sts) (by rw [labs_len, labs_len]) fun i j hi hj => by
    rw [labs_get, labs_get, labs_get, labs_get, lab_snoc, h, h]
    simp
  unfold cls wid
  rw [e1, e2]
  exact ⟨rfl, rfl⟩
theorem ind_none {st : St} (h : st.f3.f0 = 0 ∧ st.f3.f1 = 0 ∧ st.f3.f2 = 0 ∧ st.f3.f3 = 0) (i : Nat) : ind st i = false := by
  obtain ⟨h0, h1, h2, h3⟩ := h
  have : stS st = S.zero := by
    unfold stS setI
    rw [h0, h1, h2, h3]
    rfl
  unfold ind
  rw [this, has_zero, Bool.and_false]
theorem rdInt (l : List Nat) (i : Nat) (h : i < l.length) : rd (l.map Int.ofNat) (i : Int) = ((l[i] : Nat) : Int) := by
  unfold rd
  rw [List.getD_eq_getElem?_getD, Int.toNat_natCast, List.getElem?_eq_getElem (by rw [List.length_map]; exact h)]
  simp
theorem marks_set (p : Nat → Bool) (b : Nat) (hb : b < 259) : (marks p).set b 1 = marks fun i => p i || decide (i = b) := by
  apply List.ext_getElem (by simp [marks])
  intro i h1 h2
  rw [List.getElem_set]
  simp only [marks, List.getElem_map, List.getElem_range]
  by_cases e : b = i
  · subst e; simp
  · rw [if_neg e]
    have : ¬ i = b := fun h => e h.symm
    simp [this]
theorem classes_l2 (sts : List St) (x4 : List Int) (j : Nat) (bs : List Nat) (hbs : ∀ b ∈ bs, b < 256) (hn : bs.length ≤ 256) (r : List Int × Int) (hr : ∀ y, alpha_Join.f x4 (marks fun i => decide (i ∈ bs)) = some y → EV (fun k => alpha_Classes.l1 k y.1 y.2 sts (sts.length : Int) (wrap64 ((j : Int) + 1))) r)
    (hj : ∃ y, alpha_Join.f x4 (marks fun i => decide (i ∈ bs)) = some y) : ∀ (d q : Nat), bs.length - q = d → q ≤ bs.length →
    EV (fun k => alpha_Classes.l2 k x4 (marks fun i => decide (i ∈ bs.take q)) sts (sts.length : Int) j (bs.map Int.ofNat) ((bs.map Int.ofNat).length : Int) q) r := by
  intro d
  induction d with
  | zero =>
    intro q hd hq
    obtain rfl : q = bs.length := by omega
    obtain ⟨y, hy⟩ := hj
    rw [List.take_length]
    have h := EV.bind (EV.now (g := fun _ => alpha_Join.f x4 (marks fun i => decide (i ∈ bs))) fun _ => hy) (h := fun k (bt121 : List Int × Int) => alpha_Classes.l1 k bt121.1 bt121.2 sts (sts.length : Int) (wrap64 ((j : Int) + 1))) (r := r) (hr y hy)
    refine EV.step h fun k => ?_
    simp only [alpha_Classes.l2]
    rw [if_neg (by rw [List.length_map]; omega)]
  | succ d ih =>
    intro q hd hq
    have hlt : q < bs.length := by omega
    have hb := hbs _ (List.getElem_mem hlt)
    have ih := ih (q + 1) (by omega) (by omega)
    have hrd := rdInt bs q hlt
    have e : (fun i => decide (i ∈ bs.take (q + 1))) = fun i => decide (i ∈ bs.take q) || decide (i = bs[q]) := by
      funext i
      rw [Bool.eq_iff_iff]
      simp only [Bool.or_eq_true, decide_eq_true_eq]
      rw [List.take_succ_eq_append_getElem hlt, List.mem_append, List.mem_singleton]
    rw [e] at ih
    generalize bs[q] = b at *
    rw [← marks_set _ b (by omega)] at ih
    refine EV.step ih fun k => ?_
    simp only [alpha_Classes.l2]
    rw [if_pos (by rw [List.length_map]; omega), if_pos (by omega), if_pos (by rw [List.length_map]; omega), hrd, if_pos (by omega), if_pos (by rw [marks_len]; omega), up_wrap (by omega), Int.toNat_natCast]
theorem rdSt (sts : List St) (i : Nat) (h : i < sts.length) : rd_T64 sts (i : Int) = sts[i] := by
  unfold rd_T64
  rw [List.getD_eq_getElem?_getD, Int.toNat_natCast, List.getElem?_eq_getElem h]
  rfl
theorem marks_zero : List.replicate 259 (0 : Int) = marks fun i => decide (i ∈ ([] : List Nat)) := by decide +kernel
theorem classes_l1 (sts : List St) (hn : sts.length ≤ 600) (hok : ∀ j (h : j < sts.length), sts[j].f0 = 1 ∨ sts[j].f3.f0 = 0 ∧ sts[j].f3.f1 = 0 ∧ sts[j].f3.f2 = 0 ∧ sts[j].f3.f3 = 0) (hw : wfSts sts) : ∀ (d j : Nat), sts.length - j = d → j ≤ sts.length →
    EV (fun k => alpha_Classes.l1 k (cls (sts.take j)) (wid (sts.take j)) sts (sts.length : Int) j) (cls sts, wid sts) := by
  intro d
  induction d with
  | zero =>
    intro j hd hj
    obtain rfl : j = sts.length := by omega
    refine EV.stop fun k => ?_
    simp only [alpha_Classes.l1]
    rw [if_neg (by omega), List.take_length]
  | succ d ih =>
    intro j hd hj
    have hlt : j < sts.length := by omega
    have ih := ih (j + 1) (by omega) (by omega)
    rw [List.take_succ_eq_append_getElem hlt] at ih
    have hrd := rdSt sts j hlt
    have hwf : wfSt sts[j] := by have := hw (j : Int) (by omega) (by omega); rwa [hrd] at this
    have hkj := hok j hlt
    generalize sts[j] = st at *
    by_cases hk : st.f0 = 1
    · have hlen : (Bs.bytes (stS st)).length ≤ 256 := by
        have := List.length_filter_le (fun j => has (stS st) j) (List.range 256)
        rwa [List.length_range] at this
      have hm : (marks fun i => decide (i ∈ Bs.bytes (stS st))) = marks (ind st) := by
        congr 1
        funext i
        unfold ind
        rw [Bool.eq_iff_iff, decide_eq_true_eq, mem_bytes]
        simp
      have hJ := step_join (sts.take j) st
      rw [← hm] at hJ
      have h := classes_l2 sts (cls (sts.take j)) j (Bs.bytes (stS st)) (fun b hb => bytes_lt hb) hlen (cls sts, wid sts) (fun y hy => by
        obtain rfl := Option.some.inj (hJ.symm.trans hy)
        rw [up_wrap (by omega)]
        dsimp only
        exact ih) ⟨_, hJ⟩ _ 0 rfl (by omega)
      refine EV.step h fun k => ?_
      simp only [alpha_Classes.l1]
      rw [if_pos (by omega), if_pos (by omega), if_pos (by omega), hrd, if_pos hk, if_pos (by omega), sbytes_f hwf, marks_zero]
      rfl
    · have hz := hkj.resolve_left hk
      obtain ⟨e1, e2⟩ := step_none (sts.take j) st (ind_none hz)
      rw [e1, e2] at ih
      refine EV.step ih fun k => ?_
      simp only [alpha_Classes.l1]
      rw [if_pos (by omega), if_pos (by omega), if_pos (by omega), hrd, if_neg hk, up_wrap (by omega)]
theorem start_sets : ((((List.replicate 259 (0 : Int)).set 256 1).set 257 2).set 258 3) = start0 := by decide +kernel
theorem classes_l0 (sts : List St) (s f : Int) (r : List Int × Int) (h : EV (fun k => alpha_Classes.l1 k (cls []) (wid []) sts (sts.length : Int) 0) r) : EV (fun k => alpha_Classes.l0 k (List.replicate 259 0) 256 sts s f) r := by
  have h3' : ∀ X : List Int, alpha_Join.f X X = some (cls [], wid []) → EV (fun k => alpha_Classes.l0 k X 259 sts s f) r := fun X hX => by
    have hb := EV.bind (EV.now (g := fun _ => alpha_Join.f X X) fun _ => hX) (h := fun k (bt107 : List Int × Int) => alpha_Classes.l1 k bt107.1 bt107.2 sts (sts.length : Int) 0) (r := r) (by dsimp only; exact h)
    refine EV.step hb fun k => ?_
    simp only [alpha_Classes.l0]
    rw [if_neg (by omega)]
  have h3 := h3' start0 start_join
  rw [← start_sets] at h3
  have w1 : wrap64 (256 + 1) = 257 := by decide +kernel
  have w2 : wrap64 (257 + 1) = 258 := by decide +kernel
  have w3 : wrap64 (258 + 1) = 259 := by decide +kernel
  have v1 : wrap64 (wrap64 (256 - 256) + 1) = 1 := by decide +kernel
  have v2 : wrap64 (wrap64 (257 - 256) + 1) = 2 := by decide +kernel
  have v3 : wrap64 (wrap64 (258 - 256) + 1) = 3 := by decide +kernel
  have h2 : EV (fun k => alpha_Classes.l0 k (((List.replicate 259 (0 : Int)).set 256 1).set 257 2) 258 sts s f) r := EV.step h3 fun k => by
    simp only [alpha_Classes.l0]
    rw [if_pos (by omega), if_pos (by omega), if_pos (by rw [List.length_set, List.length_set, List.length_replicate]; omega), w3, v3]
    rfl
  have h1 : EV (fun k => alpha_Classes.l0 k ((List.replicate 259 (0 : Int)).set 256 1) 257 sts s f) r := EV.step h2 fun k => by
    simp only [alpha_Classes.l0]
    rw [if_pos (by omega), if_pos (by omega), if_pos (by rw [List.length_set, List.length_replicate]; omega), w2, v2]
    rfl
  exact EV.step h1 fun k => by
    simp only [alpha_Classes.l0]
    rw [if_pos (by omega), if_pos (by omega), if_pos (by rw [List.length_replicate]; omega), w1, v1]
    rfl
theorem rightN_sets {sts : List St} {s f : Int} (h : rightN sts s f = true) : ∀ j (hj : j < sts.length), sts[j].f0 = 1 ∨ sts[j].f3.f0 = 0 ∧ sts[j].f3.f1 = 0 ∧ sts[j].f3.f2 = 0 ∧ sts[j].f3.f3 = 0 := by
  intro j hj
  unfold rightN at h
  rw [Bool.and_eq_true] at h
  have h2 := ((rightAt_iff sts f _ _).1 h.2 j (by omega) (by omega)).1
  rw [rdSt sts j hj] at h2
  unfold fieldsN at h2
  rw [decide_eq_true_eq] at h2
  exact h2.2.2.1
theorem classes_yes (sts : List St) (s f : Int) (hR : rightN sts s f = true) (hw : wfSts sts) : EV (fun k => alpha_Classes.f k sts s f) (cls sts, wid sts) := by
  have hn := rightN_len hR
  unfold alpha_Classes.f
  refine EV.bind (right_eq sts s f) ?_
  rw [hR]
  refine EV.congr (fun k => if_pos rfl) ?_
  refine EV.congr (fun k => if_pos (by omega)) ?_
  exact classes_l0 sts s f _ (classes_l1 sts hn (rightN_sets hR) hw sts.length 0 rfl (by omega))
theorem classes_no (sts : List St) (s f : Int) (hR : rightN sts s f = false) : EV (fun k => alpha_Classes.f k sts s f) ([], 0) := by
  unfold alpha_Classes.f
  refine EV.bind (right_eq sts s f) ?_
  rw [hR]
  exact EV.congr (fun k => if_neg (by decide)) EV.const
theorem map_all {α β : Type} [DecidableEq β] (l : List α) (f g : α → β) : l.map f = l.map g ↔ ∀ x ∈ l, f x = g x := List.map_inj_left
theorem alike_l0 (sts : List St) (s f : Int) (hn : sts.length ≤ 600) (hw : wfSts sts) (a b : Nat) (ha : a < 256) (hb : b < 256) : ∀ (d j : Nat), sts.length - j = d → j ≤ sts.length → EV (fun k => tattingref10_alike.l0 k a b j sts s f) ((sts.drop j).all fun st => has (stS st) a == has (stS st) b) := by
  intro d
  induction d with
  | zero =>
    intro j hd hj
    obtain rfl : j = sts.length := by omega
    refine EV.stop fun k => ?_
    simp only [tattingref10_alike.l0]
    rw [if_neg (by omega), List.drop_length]
    simp
  | succ d ih =>
    intro j hd hj
    have hlt : j < sts.length := by omega
    have ih := ih (j + 1) (by omega) (by omega)
    have hrd := rdSt sts j hlt
    have hwf : wfSt sts[j] := by have := hw (j : Int) (by omega) (by omega); rwa [hrd] at this
    rw [List.drop_eq_getElem_cons hlt]
    generalize sts[j] = st at *
    by_cases e : has (stS st) a = has (stS st) b
    · have e2 : (st :: sts.drop (j + 1)).all (fun st => has (stS st) a == has (stS st) b) = (sts.drop (j + 1)).all fun st => has (stS st) a == has (stS st) b := by
        rw [List.all_cons, e]
        simp
      rw [e2]
      refine EV.step ih fun k => ?_
      simp only [tattingref10_alike.l0]
      rw [if_pos (by omega), if_pos (by omega), hrd, shas_f hwf a ha, shas_f hwf b hb, up_wrap (by omega)]
      simp only [Option.bind_some]
      rw [e, if_neg (by simp)]
    · have e2 : (st :: sts.drop (j + 1)).all (fun st => has (stS st) a == has (stS st) b) = false := by
        rw [List.all_cons, beq_eq_false_iff_ne.2 e, Bool.false_and]
      rw [e2]
      refine EV.stop fun k => ?_
      simp only [tattingref10_alike.l0]
      rw [if_pos (by omega), if_pos (by omega), hrd, shas_f hwf a ha, shas_f hwf b hb]
      simp only [Option.bind_some]
      rw [if_pos (by simpa using e)]
theorem lab_low (sts : List St) (a b : Nat) (ha : a < 256) (hb : b < 256) : lab sts a = lab sts b ↔ ∀ st ∈ sts, has (stS st) a = has (stS st) b := by
  unfold lab
  rw [Lb.mk.injEq, map_all]
  simp only [c0, ha, hb, if_true, true_and, ind, decide_true, Bool.true_and]
theorem lab_high (sts : List St) (a b : Nat) (h : 256 ≤ a ∨ 256 ≤ b) : lab sts a = lab sts b ↔ a = b := by
  constructor
  · intro e
    have := congrArg Lb.c e
    simp only [lab, c0] at this
    split at this <;> split at this <;> omega
  · intro e; rw [e]
theorem alike_ev (sts : List St) (s f : Int) (hn : sts.length ≤ 600) (hw : wfSts sts) (a b : Nat) : EV (fun k => tattingref10_alike.f k sts s f a b) (decide (lab sts a = lab sts b)) := by
  unfold tattingref10_alike.f
  by_cases e : a = b
  · subst e
    refine EV.congr (fun k => if_pos rfl) (EV.const.cast ?_)
    simp
  · refine EV.congr (fun k => if_neg (by omega)) ?_
    have bad : (256 ≤ a ∨ 256 ≤ b) → EV (fun k => tattingref10_alike.j0 k a b true sts s f) (decide (lab sts a = lab sts b)) := fun h => by
      refine EV.stop fun k => ?_
      simp only [tattingref10_alike.j0, if_true]
      rw [decide_eq_false]
      rw [lab_high sts a b h]
      exact e
    by_cases ha : a < 256
    · refine EV.congr (fun k => if_neg (by omega)) ?_
      by_cases hb : b < 256
      · have h := alike_l0 sts s f hn hw a b ha hb sts.length 0 rfl (by omega)
        rw [List.drop_zero] at h
        have e2 : (sts.all fun st => has (stS st) a == has (stS st) b) = decide (lab sts a = lab sts b) := by
          rw [Bool.eq_iff_iff, decide_eq_true_eq, lab_low sts a b ha hb, List.all_eq_true]
          simp only [beq_iff_eq]
        rw [e2] at h
        refine EV.step h fun k => ?_
        rw [decide_eq_false (by omega)]
        simp only [tattingref10_alike.j0, Bool.false_eq_true, if_false]
        rfl
      · rw [decide_eq_true (show (b : Int) > 255 by omega)]
        exact bad (.inr (by omega))
    · refine EV.congr (fun k => if_pos (by omega)) ?_
      exact bad (.inl (by omega))
def firstsTo (sts : List St) (i : Nat) : List Nat := Al.firsts ((List.range i).map (lab sts))
theorem firstsTo_len (sts : List St) (i : Nat) : (firstsTo sts i).length = i := by simp [firstsTo, Al.firsts]
theorem firstsTo_succ (sts : List St) (i : Nat) : firstsTo sts (i + 1) = firstsTo sts i ++ [if lab sts i ∈ (List.range i).map (lab sts) then ((List.range i).map (lab sts)).idxOf (lab sts i) else i] := by
  unfold firstsTo
  rw [List.range_succ, List.map_append, List.map_cons, List.map_nil, Al.firsts_snoc, List.length_map, List.length_range]
theorem head_first (sts : List St) (i h : Nat) (hh : h ∈ Al.heads (lab sts) i) (e : lab sts h = lab sts i) : lab sts i ∈ (List.range i).map (lab sts) ∧ ((List.range i).map (lab sts)).idxOf (lab sts i) = h := by
  obtain ⟨h1, h2⟩ := Al.mem_heads.1 hh
  obtain ⟨g1, g2, g3⟩ := Al.map_idxOf (lab sts) i h h1
  rw [e] at g1 g2 g3
  refine ⟨List.mem_map.2 ⟨h, List.mem_range.2 h1, e⟩, ?_⟩
  rcases Nat.lt_or_ge (((List.range i).map (lab sts)).idxOf (lab sts i)) h with h3 | h3
  · exact absurd (g2.trans e.symm) (h2 _ h3)
  · omega
theorem no_head (sts : List St) (i : Nat) (h : ∀ x ∈ Al.heads (lab sts) i, lab sts x ≠ lab sts i) : lab sts i ∉ (List.range i).map (lab sts) := by
  intro hm
  obtain ⟨j, hj, e⟩ := List.mem_map.1 hm
  have hj := List.mem_range.1 hj
  obtain ⟨g1, g2, g3⟩ := Al.map_idxOf (lab sts) i j hj
  refine h _ (Al.mem_heads.2 ⟨by omega, fun q hq e2 => ?_⟩) (g2.trans e)
  exact g3 q hq (e2.trans g2)
theorem heads_len (sts : List St) (i : Nat) : (Al.heads (lab sts) i).length ≤ i := by
  unfold Al.heads
  have := List.length_filter_le (fun i => (List.range i).all fun j => decide (lab sts j ≠ lab sts i)) (List.range i)
  rwa [List.length_range] at this
theorem rclasses_l1 (sts : List St) (s f : Int) (hn : sts.length ≤ 600) (hw : wfSts sts) (i : Nat) (hi : i < 259) (r : List Int × Int)
    (hr : EV (fun k => tattingref10_Classes.l0 k ((firstsTo sts (i + 1)).map Int.ofNat) ((Al.heads (lab sts) (i + 1)).map Int.ofNat) ((i + 1 : Nat) : Int) sts s f) r) : ∀ (d q : Nat), (Al.heads (lab sts) i).length - q = d → q ≤ (Al.heads (lab sts) i).length → (∀ x ∈ (Al.heads (lab sts) i).take q, lab sts x ≠ lab sts i) →
    EV (fun k => tattingref10_Classes.l1 k ((firstsTo sts i).map Int.ofNat) ((Al.heads (lab sts) i).map Int.ofNat) i i q sts s f) r := by
  have hlen := heads_len sts i
  have hfl := firstsTo_len sts i
  intro d
  induction d with
  | zero =>
    intro q hd hq hno
    obtain rfl : q = (Al.heads (lab sts) i).length := by omega
    rw [List.take_length] at hno
    have hm := no_head sts i hno
    rw [firstsTo_succ, if_neg hm, Al.heads_succ, if_pos (by
      rw [List.all_eq_true]
      intro j hj
      rw [decide_eq_true_eq]
      intro e
      exact hm (List.mem_map.2 ⟨j, hj, e⟩)), List.map_append, List.map_append] at hr
    refine EV.step hr fun k => ?_
    simp only [tattingref10_Classes.l1]
    rw [if_neg (by rw [List.length_map]; omega)]
    simp only [if_true]
    rw [if_pos (by rw [List.length_map]; omega), if_pos (by rw [List.length_map]; omega), up_wrap (by omega)]
    rfl
  | succ d ih =>
    intro q hd hq hno
    have hlt : q < (Al.heads (lab sts) i).length := by omega
    have ih := ih (q + 1) (by omega) (by omega)
    have hrd := rdInt (Al.heads (lab sts) i) q hlt
    have hmem := List.getElem_mem hlt
    have htk := List.take_succ_eq_append_getElem hlt
    generalize (Al.heads (lab sts) i)[q] = x at *
    have hxi := (Al.mem_heads.1 hmem).1
    by_cases e : lab sts x = lab sts i
    · obtain ⟨h1, h2⟩ := head_first sts i x hmem e
      rw [firstsTo_succ, if_pos h1, h2, Al.heads_succ, if_neg (by
        rw [List.all_eq_true]
        intro h
        have := h x (List.mem_range.2 hxi)
        rw [decide_eq_true_eq] at this
        exact this e), List.map_append, List.append_nil] at hr
      have hb := EV.bind (alike_ev sts s f hn hw x i) (h := fun k (t107 : Bool) => (if t107 = true then tattingref10_Classes.l0 k (((firstsTo sts i).map Int.ofNat) ++ [(x : Int)]) ((Al.heads (lab sts) i).map Int.ofNat) ((i + 1 : Nat) : Int) sts s f else tattingref10_Classes.l1 k ((firstsTo sts i).map Int.ofNat) ((Al.heads (lab sts) i).map Int.ofNat) i i ((q + 1 : Nat) : Int) sts s f)) (r := r) (by
        rw [decide_eq_true e]
        exact EV.congr (fun k => if_pos rfl) hr)
      refine EV.step hb fun k => ?_
      simp only [tattingref10_Classes.l1]
      rw [if_pos (by rw [List.length_map]; omega), if_pos (by omega), hrd]
      have hne : ¬ (x : Int) = (i : Int) := by omega
      simp only [hne, if_false]
      rw [up_wrap (by omega), up_wrap (by omega)]
      have hc : ((firstsTo sts i).map Int.ofNat).length < 17592186044416 := by rw [List.length_map]; omega
      simp only [hc, if_true]
    · have ih := ih (by
        intro y hy
        rw [htk] at hy
        rcases List.mem_append.1 hy with hy | hy
        · exact hno y hy
        · rw [List.mem_singleton] at hy; subst hy; exact e)
      have hb := EV.bind (alike_ev sts s f hn hw x i) (h := fun k (t107 : Bool) => (if t107 = true then tattingref10_Classes.l0 k (((firstsTo sts i).map Int.ofNat) ++ [(x : Int)]) ((Al.heads (lab sts) i).map Int.ofNat) ((i + 1 : Nat) : Int) sts s f else tattingref10_Classes.l1 k ((firstsTo sts i).map Int.ofNat) ((Al.heads (lab sts) i).map Int.ofNat) i i ((q + 1 : Nat) : Int) sts s f)) (r := r) (by
        rw [decide_eq_false e]
        exact EV.congr (fun k => if_neg (by decide)) ih)
      refine EV.step hb fun k => ?_
      simp only [tattingref10_Classes.l1]
      rw [if_pos (by rw [List.length_map]; omega), if_pos (by omega), hrd]
      have hne : ¬ (x : Int) = (i : Int) := by omega
      simp only [hne, if_false]
      rw [up_wrap (by omega), up_wrap (by omega)]
      have hc : ((firstsTo sts i).map Int.ofNat).length < 17592186044416 := by rw [List.length_map]; omega
      simp only [hc, if_true]
theorem number_l0 (F : List Nat) (hF : ∀ a x : Nat, F[a]? = some x → x ≤ a) (hn : F.length ≤ 1000000) : ∀ (d q : Nat), F.length - q = d → q ≤ F.length →
    EV (fun k => tattingref10_Number.l0 k (F.map Int.ofNat) ((Al.number (F.take q)).1.map Int.ofNat) ((Al.number (F.take q)).2 : Nat) q) ((Al.number F).1.map Int.ofNat, ((Al.number F).2 : Nat)) := by
  intro d
  induction d with
  | zero =>
    intro q hd hq
    obtain rfl : q = F.length := by omega
    refine EV.stop fun k => ?_
    simp only [tattingref10_Number.l0]
    rw [if_neg (by rw [List.length_map]; omega), List.take_length]
  | succ d ih =>
    intro q hd hq
    have hlt : q < F.length := by omega
    have ih := ih (q + 1) (by omega) (by omega)
    have hle := hF q _ (List.getElem?_eq_getElem hlt)
    have hrd := rdInt F q hlt
    rw [List.take_succ_eq_append_getElem hlt, Al.number_snoc] at ih
    generalize F[q] = x at *
    have hl : (Al.number (F.take q)).1.length = q := by rw [Al.number_len, List.length_take]; omega
    have hfew := Al.number_few (F.take q)
    rw [List.length_take] at hfew
    unfold Al.numStep at ih
    rw [hl] at ih
    by_cases e : x = q
    · rw [if_pos e, List.map_append] at ih
      refine EV.step ih fun k => ?_
      simp only [tattingref10_Number.l0]
      rw [if_pos (by rw [List.length_map]; omega), if_pos (by omega), hrd, if_pos (by omega), if_pos (by rw [List.length_map]; omega), up_wrap (by omega), up_wrap (by omega)]
      rfl
    · rw [if_neg e, List.map_append] at ih
      have hr2 := rdInt (Al.number (F.take q)).1 x (by omega)
      have hg : (Al.number (F.take q)).1.getD x 0 = (Al.number (F.take q)).1[x]'(by omega) := by
        rw [List.getD_eq_getElem?_getD, List.getElem?_eq_getElem (by omega)]
        rfl
      rw [hg] at ih
      refine EV.step ih fun k => ?_
      simp only [tattingref10_Number.l0]
      rw [if_pos (by rw [List.length_map]; omega), if_pos (by omega), hrd, if_neg (by omega), if_pos (by omega), if_pos (by rw [List.length_map]; omega), if_pos (by rw [List.length_map]; omega), up_wrap (by omega), hr2]
      rfl
theorem number_ev (F : List Nat) (hF : ∀ a x : Nat, F[a]? = some x → x ≤ a) (hn : F.length ≤ 1000000) (y : List Nat × Nat) (hy : Al.number F = y) : EV (fun k => tattingref10_Number.f k (F.map Int.ofNat)) (y.1.map Int.ofNat, (y.2 : Int)) := by
  subst hy
  exact number_l0 F hF hn F.length 0 rfl (by omega)
theorem rclasses_ev (sts : List St) (s f : Int) (hn : sts.length ≤ 600) (hw : wfSts sts) : EV (fun k => tattingref10_Classes.f k sts s f) (cls sts, wid sts) := by
  have key : ∀ (d i : Nat), 259 - i = d → i ≤ 259 → EV (fun k => tattingref10_Classes.l0 k ((firstsTo sts i).map Int.ofNat) ((Al.heads (lab sts) i).map Int.ofNat) i sts s f) (cls sts, wid sts) := by
    intro d
    induction d with
    | zero =>
      intro i hd hi
      obtain rfl : i = 259 := by omega
      have e : firstsTo sts 259 = Al.firsts (labs sts) := by unfold firstsTo labs; rfl
      have h1 := number_ev (firstsTo sts 259) (fun a x h => Al.firsts_le (l := (List.range 259).map (lab sts)) h) (by rw [firstsTo_len]; omega) ((Al.run (labs sts)).2, (Al.run (labs sts)).1.length) (by rw [e]; exact Al.number_firsts (labs sts))
      have hnum2 : EV (fun k => tattingref10_Number.f k ((firstsTo sts 259).map Int.ofNat)) (cls sts, wid sts) := by
        unfold cls wid
        dsimp only at h1
        exact h1
      generalize cls sts = C at hnum2 ⊢
      generalize wid sts = D at hnum2 ⊢
      have hb := EV.bind hnum2 (h := fun k (bt102 : List Int × Int) => some (bt102.1, bt102.2)) (r := (C, D)) EV.const
      refine EV.step hb fun k => ?_
      simp only [tattingref10_Classes.l0]
      rw [if_neg (by omega)]
    | succ d ih =>
      intro i hd hi
      have h := rclasses_l1 sts s f hn hw i (by omega) _ (ih (i + 1) (by omega) (by omega)) _ 0 rfl (by omega) (by simp)
      refine EV.step h fun k => ?_
      simp only [tattingref10_Classes.l0]
      rw [if_pos (by omega)]
      rfl
  exact key 259 0 rfl (by omega)
end Go.Proofs.YtfjemaeidmikmaaDoorQ
