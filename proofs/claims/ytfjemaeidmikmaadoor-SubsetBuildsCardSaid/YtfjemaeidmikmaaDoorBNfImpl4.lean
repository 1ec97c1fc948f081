import Derived.Test.YtfjemaeidmikmaaDoorBM4
import Derived.Test.YtfjemaeidmikmaaDoorBQTattingref09Close
import Derived.Test.YtfjemaeidmikmaaDoorBQTattingref09Step
set_option linter.unusedVariables false
set_option linter.unusedSimpArgs false
namespace Go.Proofs.YtfjemaeidmikmaaDoorQ
open Go.RowKit Go.Proofs.YtfjemaeidmikmaaDoorW.PrintWords Go.Proofs.YtfjemaeidmikmaaDoorW.PrintLast Go.Proofs.Bs
abbrev stAt (sts : List St) (i : Nat) : St := rd_T64 sts (i : Int)
def edge (sts : List St) (sym : Int) (i j : Nat) : Bool := (goesA (stAt sts i) sym && decide ((j : Int) = (stAt sts i).f1)) || (decide ((stAt sts i).f0 = 3) && decide ((j : Int) = (stAt sts i).f2))
def tab (n : Nat) (p : Nat → Bool) : List Bool := (List.range n).map p
def pOf (l : List Bool) (j : Nat) : Bool := rdOf false l (j : Int)
theorem tab_len (n : Nat) (p : Nat → Bool) : (tab n p).length = n := by simp [tab]
theorem tab_at (n : Nat) (p : Nat → Bool) (j : Nat) (h : j < n) : rdOf false (tab n p) (j : Int) = p j := by
  simp [tab, rdOf, List.getD_eq_getElem?_getD, List.getElem?_map, List.getElem?_range h]
theorem tab_set (n : Nat) (p : Nat → Bool) (a : Nat) (h : a < n) : (tab n p).set a true = tab n (fun j => p j || decide (j = a)) := by
  apply List.ext_getElem?
  intro j
  rw [List.getElem?_set]
  by_cases hj : j < n
  · by_cases e : a = j
    · subst e
      simp [tab, hj]
    · simp [tab, hj, e, Ne.symm e]
  · simp [tab, hj]
    intro e; omega
theorem tab_ext {n : Nat} {p q : Nat → Bool} (h : ∀ j, j < n → p j = q j) : tab n p = tab n q := by
  unfold tab
  apply List.map_congr_left
  intro j hj
  exact h j (List.mem_range.1 hj)
theorem tab_pOf (l : List Bool) : tab l.length (pOf l) = l := by
  apply List.ext_getElem?
  intro j
  by_cases hj : j < l.length
  · simp [tab, pOf, rdOf, hj, List.getD_eq_getElem?_getD]
  · simp [tab, hj]
theorem cj2_eq (k : Nat) (sym : Int) (x7 : List Bool) (t i : Int) (b : Bool) (sts : List St) (s f : Int) (st : St) (h1 : 0 ≤ st.f1 ∧ st.f1 < x7.length) (h2 : 0 ≤ st.f2 ∧ st.f2 < x7.length) :
    tattingref09_Close.j2 (k + 1) sym x7 t i b sts s f st.f0 st.f1 st.f2 st.f3.f0 st.f3.f1 st.f3.f2 st.f3.f3 =
    tattingref09_Close.l1 k sym (if b = true then (if st.f0 = 3 then (x7.set st.f1.toNat true).set st.f2.toNat true else x7.set st.f1.toNat true) else if st.f0 = 3 then x7.set st.f2.toNat true else x7) t (wrap64 (i + 1)) sts s f := by
  simp only [tattingref09_Close.j2]
  cases b
  · simp only [Bool.false_eq_true, if_false]
    by_cases c : st.f0 = 3
    · rw [if_pos c, if_pos h2.1, if_pos h2.2, if_pos c]
    · rw [if_neg c, if_neg c]
  · simp only [if_true]
    rw [if_pos h1.1, if_pos h1.2, Option.bind_some]
    by_cases c : st.f0 = 3
    · rw [if_pos c, if_pos h2.1, if_pos h2.2, if_pos c]
    · rw [if_neg c, if_neg c]
theorem cl1_eq (k : Nat) (sym : Int) (x7 : List Bool) (t i : Int) (sts : List St) (s f : Int) (h0 : 0 ≤ i) (h1 : i < x7.length) (h2 : i < sts.length) (hb : rdOf false x7 i = true) :
    tattingref09_Close.l1 (k + 1) sym x7 t i sts s f = tattingref09_Close.j2 k sym x7 t i (goesA (rd_T64 sts i) sym) sts s f (rd_T64 sts i).f0 (rd_T64 sts i).f1 (rd_T64 sts i).f2 (rd_T64 sts i).f3.f0 (rd_T64 sts i).f3.f1 (rd_T64 sts i).f3.f2 (rd_T64 sts i).f3.f3 := by
  simp only [tattingref09_Close.l1]
  rw [if_pos h2, if_pos h0, if_pos h1, if_pos hb]
  generalize rd_T64 sts i = st
  unfold goesA
  by_cases a1 : st.f0 = 2
  · rw [if_pos a1, decide_eq_true (.inr (.inl a1))]
  · rw [if_neg a1]
    by_cases a2 : st.f0 = 3
    · rw [if_pos a2, decide_eq_true (.inl a2)]
    · rw [if_neg a2]
      by_cases a3 : st.f0 = 4
      · rw [if_pos a3]
        by_cases s1 : sym = 256
        · rw [if_pos s1, decide_eq_true (by omega)]
        · rw [if_neg s1]
          by_cases s2 : sym = 258
          · rw [if_pos s2, decide_eq_true (by omega)]
          · rw [if_neg s2, if_neg (by omega), decide_eq_false (by omega)]
      · rw [if_neg a3]
        by_cases a4 : st.f0 = 5
        · rw [if_pos a4]
          by_cases s1 : sym = 257
          · rw [if_pos s1, decide_eq_true (by omega)]
          · rw [if_neg s1]
            congr 1
            rw [Bool.eq_iff_iff]
            simp only [beq_iff_eq, decide_eq_true_eq]
            omega
        · rw [if_neg a4, decide_eq_false (by omega)]
theorem cl1_no (k : Nat) (sym : Int) (x7 : List Bool) (t i : Int) (sts : List St) (s f : Int) (h0 : 0 ≤ i) (h1 : i < x7.length) (h2 : i < sts.length) (hb : ¬ rdOf false x7 i = true) :
    tattingref09_Close.l1 (k + 1) sym x7 t i sts s f = tattingref09_Close.l1 k sym x7 t (wrap64 (i + 1)) sts s f := by
  simp only [tattingref09_Close.l1]
  rw [if_pos h2, if_pos h0, if_pos h1, if_neg hb]
def okSts (sts : List St) : Prop := ∀ i : Nat, i < sts.length → (0 ≤ (stAt sts i).f1 ∧ (stAt sts i).f1 < sts.length) ∧ 0 ≤ (stAt sts i).f2 ∧ (stAt sts i).f2 < sts.length
theorem okSts_of {sts : List St} {s f : Int} (h : rightN sts s f = true) : okSts sts := by
  unfold rightN at h
  rw [Bool.and_eq_true] at h
  have h2 := (rightAt_iff sts f _ _).1 h.2
  intro i hi
  have h3 := (h2 i (by omega) (by omega)).1
  unfold fieldsN at h3
  rw [decide_eq_true_eq] at h3
  exact ⟨h3.2.2.2.2.2.1, h3.2.2.2.2.2.2⟩
theorem mark_tab (sts : List St) (sym : Int) (hok : okSts sts) (i : Nat) (hi : i < sts.length) (p : Nat → Bool) (hp : p i = true) :
    (if goesA (stAt sts i) sym = true then (if (stAt sts i).f0 = 3 then ((tab sts.length p).set (stAt sts i).f1.toNat true).set (stAt sts i).f2.toNat true else (tab sts.length p).set (stAt sts i).f1.toNat true) else if (stAt sts i).f0 = 3 then (tab sts.length p).set (stAt sts i).f2.toNat true else tab sts.length p) = tab sts.length (Nf.mark (edge sts sym) i p) := by
  obtain ⟨⟨a0, a1⟩, b0, b1⟩ := hok i hi
  unfold Nf.mark edge
  generalize stAt sts i = st at *
  rw [hp]
  have g3 : st.f0 = 3 → goesA st sym = true := fun h => by unfold goesA; exact decide_eq_true (.inl h)
  have e1 : ∀ j : Nat, decide (j = st.f1.toNat) = decide ((j : Int) = st.f1) := fun j => by rw [Bool.eq_iff_iff]; simp only [decide_eq_true_eq]; omega
  have e2 : ∀ j : Nat, decide (j = st.f2.toNat) = decide ((j : Int) = st.f2) := fun j => by rw [Bool.eq_iff_iff]; simp only [decide_eq_true_eq]; omega
  by_cases c3 : st.f0 = 3
  · rw [if_pos (g3 c3), if_pos c3, tab_set _ _ _ (by omega), tab_set _ _ _ (by omega)]
    refine tab_ext fun j _ => ?_
    rw [e1, e2, g3 c3, decide_eq_true c3]
    simp [Bool.or_assoc]
  · rw [decide_eq_false c3]
    cases goesA st sym
    · rw [if_neg (by decide), if_neg c3]
      refine tab_ext fun j _ => by simp
    · rw [if_pos rfl, if_neg c3, tab_set _ _ _ (by omega)]
      refine tab_ext fun j _ => ?_
      rw [e1]
      simp
theorem close_l1 (sts : List St) (sym s f : Int) (hn : sts.length ≤ 600) (hok : okSts sts) (t : Nat) (ht : t < sts.length) (p : Nat → Bool) (r : List Bool)
    (hnext : EV (fun k => tattingref09_Close.l0 k sym (tab sts.length (Nf.turn (edge sts sym) sts.length p)) ((t + 1 : Nat) : Int) sts s f) r) : ∀ d i : Nat, sts.length - i = d → i ≤ sts.length →
    EV (fun k => tattingref09_Close.l1 k sym (tab sts.length (Nf.turn (edge sts sym) i p)) (t : Int) (i : Int) sts s f) r := by
  intro d
  induction d with
  | zero =>
    intro i hd hi
    obtain rfl : i = sts.length := by omega
    refine EV.step hnext fun k => ?_
    simp only [tattingref09_Close.l1]
    rw [if_neg (by omega), wrap_in (by omega) (by omega)]
    rfl
  | succ d ih =>
    intro i hd hi
    have hh := ih (i + 1) (by omega) (by omega)
    by_cases hb : Nf.turn (edge sts sym) i p i = true
    · refine EV.succ (EV.step hh fun k => ?_)
      rw [cl1_eq _ _ _ _ _ _ _ _ (by omega) (by rw [tab_len]; omega) (by omega) (by rw [tab_at _ _ _ (by omega)]; exact hb)]
      obtain ⟨h1, h2⟩ := hok i (by omega)
      rw [cj2_eq _ _ _ _ _ _ _ _ _ _ (by rw [tab_len]; exact h1) (by rw [tab_len]; exact h2), mark_tab sts sym hok i (by omega) _ hb, wrap_in (by omega) (by omega)]
      rfl
    · refine EV.step hh fun k => ?_
      rw [cl1_no _ _ _ _ _ _ _ _ (by omega) (by rw [tab_len]; omega) (by omega) (by rw [tab_at _ _ _ (by omega)]; exact hb), wrap_in (by omega) (by omega)]
      have : tab sts.length (Nf.turn (edge sts sym) (i + 1) p) = tab sts.length (Nf.turn (edge sts sym) i p) := by
        refine tab_ext fun j _ => ?_
        show Nf.mark _ _ _ _ = _
        unfold Nf.mark
        rw [show Nf.turn (edge sts sym) i p i = false by simpa using hb]
        simp
      rw [this]
      rfl
theorem close_l0 (sts : List St) (sym s f : Int) (hn : sts.length ≤ 600) (hok : okSts sts) (p : Nat → Bool) : ∀ d t : Nat, sts.length - t = d → t ≤ sts.length →
    EV (fun k => tattingref09_Close.l0 k sym (tab sts.length (Nf.turns sts.length (edge sts sym) t p)) (t : Int) sts s f) (tab sts.length (Nf.turns sts.length (edge sts sym) sts.length p)) := by
  intro d
  induction d with
  | zero =>
    intro t hd ht
    obtain rfl : t = sts.length := by omega
    refine EV.stop fun k => ?_
    simp only [tattingref09_Close.l0]
    rw [if_neg (by omega)]
  | succ d ih =>
    intro t hd ht
    have hh := close_l1 sts sym s f hn hok t (by omega) (Nf.turns sts.length (edge sts sym) t p) _ (ih (t + 1) (by omega) (by omega)) sts.length 0 (by omega) (by omega)
    refine EV.step hh fun k => ?_
    simp only [tattingref09_Close.l0]
    rw [if_pos (by omega)]
    rfl
def closeR (sts : List St) (sym : Int) (l : List Bool) : List Bool := tab sts.length (Nf.turns sts.length (edge sts sym) sts.length (pOf l))
theorem closeR_len (sts : List St) (sym : Int) (l : List Bool) : (closeR sts sym l).length = sts.length := tab_len _ _
theorem rclose_eq (sts : List St) (sym s f : Int) (l : List Bool) (hn : sts.length ≤ 600) (hok : okSts sts) (hl : l.length = sts.length) : EV (fun k => tattingref09_Close.f k sts s f l sym) (closeR sts sym l) := by
  have h := close_l0 sts sym s f hn hok (pOf l) sts.length 0 (by omega) (by omega)
  refine EV.congr (fun k => ?_) h
  unfold tattingref09_Close.f
  rw [Option.bind_some, if_pos (by simp; omega)]
  have : tab sts.length (Nf.turns sts.length (edge sts sym) 0 (pOf l)) = l := by
    show tab sts.length (pOf l) = l
    rw [← hl]
    exact tab_pOf l
  rw [this]
  rfl
def toP (sts : List St) (b : Int) (p : Nat → Bool) : Nat → Nat → Bool
  | 0 => fun _ => false
  | i + 1 => fun j => toP sts b p i j || (p i && (decide ((stAt sts i).f0 = 1) && (hasSt (stAt sts i) b && decide ((j : Int) = (stAt sts i).f1))))
theorem rstep_l0 (sts : List St) (b s f : Int) (l : List Bool) (hn : sts.length ≤ 600) (hok : okSts sts) (hw : wfSts sts) (hb : 0 ≤ b ∧ b < 256) (hl : l.length = sts.length) : ∀ d i : Nat, sts.length - i = d → i ≤ sts.length →
    EV (fun k => tattingref09_Step.l0 k l b (tab sts.length (toP sts b (pOf l) i)) (i : Int) sts s f) (closeR sts 0 (tab sts.length (toP sts b (pOf l) sts.length))) := by
  intro d
  induction d with
  | zero =>
    intro i hd hi
    obtain rfl : i = sts.length := by omega
    refine EV.step (EV.bind (rclose_eq sts 0 s f _ hn hok (tab_len _ _)) EV.const) fun k => ?_
    simp only [tattingref09_Step.l0]
    rw [if_neg (by omega)]
  | succ d ih =>
    intro i hd hi
    have hh := ih (i + 1) (by omega) (by omega)
    refine EV.step hh fun k => ?_
    simp only [tattingref09_Step.l0]
    rw [if_pos (by omega), if_pos (by omega), if_pos (by omega), wrap_in (by omega) (by omega)]
    obtain ⟨h1, h2⟩ := hok i (by omega)
    have hH : tattingref01_Has.f (stAt sts i).f3.f0 (stAt sts i).f3.f1 (stAt sts i).f3.f2 (stAt sts i).f3.f3 b = some (hasSt (stAt sts i) b) := by
      unfold tattingref01_Has.f
      rw [if_pos ⟨hw i (by omega) (by omega), hb⟩]
      rfl
    have e1 : ∀ j : Nat, decide (j = (stAt sts i).f1.toNat) = decide ((j : Int) = (stAt sts i).f1) := fun j => by rw [Bool.eq_iff_iff]; simp only [decide_eq_true_eq]; omega
    by_cases c0 : rdOf false l (i : Int) = true
    · rw [if_pos c0]
      by_cases c1 : (stAt sts i).f0 = 1
      · rw [if_pos c1, hH, Option.bind_some]
        cases c2 : hasSt (stAt sts i) b
        · simp only [Bool.false_eq_true, if_false]
          rw [tab_ext (p := toP sts b (pOf l) (i + 1)) (q := toP sts b (pOf l) i) (fun j _ => by simp [toP, c2])]
          rfl
        · rw [if_pos rfl, if_pos h1.1, if_pos (by rw [tab_len]; exact h1.2), tab_set _ _ _ (by show ((stAt sts i).f1).toNat < sts.length; omega)]
          rw [tab_ext (p := toP sts b (pOf l) (i + 1)) (q := fun j => toP sts b (pOf l) i j || decide (j = (stAt sts i).f1.toNat)) (fun j _ => by rw [e1]; simp [toP, c2, c1, pOf, c0])]
          rfl
      · rw [if_neg c1]
        rw [tab_ext (p := toP sts b (pOf l) (i + 1)) (q := toP sts b (pOf l) i) (fun j _ => by simp [toP, c1])]
        rfl
    · rw [if_neg c0]
      rw [tab_ext (p := toP sts b (pOf l) (i + 1)) (q := toP sts b (pOf l) i) (fun j _ => by simp [toP, pOf, c0])]
      rfl
def stepR (sts : List St) (b : Int) (l : List Bool) : List Bool := closeR sts 0 (tab sts.length (toP sts b (pOf l) sts.length))
theorem rstep_eq (sts : List St) (b s f : Int) (l : List Bool) (hn : sts.length ≤ 600) (hok : okSts sts) (hw : wfSts sts) (hb : 0 ≤ b ∧ b < 256) (hl : l.length = sts.length) : EV (fun k => tattingref09_Step.f k sts s f l b) (stepR sts b l) := by
  unfold tattingref09_Step.f stepR
  refine EV.congr (fun k => ?_) (rstep_l0 sts b s f l hn hok hw hb hl sts.length 0 (by omega) (by omega))
  rw [if_pos (by omega), if_pos (by omega), Int.toNat_natCast]
  have : List.replicate sts.length false = tab sts.length (toP sts b (pOf l) 0) := by
    show _ = tab sts.length (fun _ => false)
    unfold tab
    rw [List.map_const', List.length_range]
  rw [this]
  rfl
end Go.Proofs.YtfjemaeidmikmaaDoorQ
