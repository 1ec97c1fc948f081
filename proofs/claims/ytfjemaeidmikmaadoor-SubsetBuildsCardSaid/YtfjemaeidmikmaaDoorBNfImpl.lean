import Derived.Test.YtfjemaeidmikmaaDoorBM1
import Derived.Test.YtfjemaeidmikmaaDoorBM3
import Derived.Test.YtfjemaeidmikmaaDoorBQNfaStep
import Derived.Test.YtfjemaeidmikmaaDoorBQNfaClose
set_option linter.unusedVariables false
set_option linter.unusedSimpArgs false
namespace Go.Proofs.YtfjemaeidmikmaaDoorQ
open Go.RowKit Go.Proofs.YtfjemaeidmikmaaDoorW.PrintWords Go.Proofs.YtfjemaeidmikmaaDoorW.PrintLast Go.Proofs.Bs
theorem wrap_in {x : Int} (h0 : -9223372036854775808 ≤ x) (h1 : x ≤ 9223372036854775807) : wrap64 x = x := by unfold wrap64; omega
def fieldsN (st : St) (m : Int) : Bool :=
  decide (1 ≤ st.f0 ∧ st.f0 ≤ 6 ∧ (st.f0 = 1 ∨ st.f3.f0 = 0 ∧ st.f3.f1 = 0 ∧ st.f3.f2 = 0 ∧ st.f3.f3 = 0) ∧ (st.f0 = 3 ∨ st.f2 = 0) ∧ (st.f0 = 6 → st.f1 = 0) ∧ (0 ≤ st.f1 ∧ st.f1 < m) ∧ 0 ≤ st.f2 ∧ st.f2 < m)
theorem fields_eq (st : St) (m : Int) : nfa_fields.f st.f0 st.f1 st.f2 st.f3.f0 st.f3.f1 st.f3.f2 st.f3.f3 m = some (fieldsN st m) := by
  unfold nfa_fields.f fieldsN
  grind
def rightAt (sts : List St) (f : Int) : Nat → Nat → Bool
  | 0, _ => true
  | d + 1, i => fieldsN (rd_T64 sts i) sts.length && (!(((rd_T64 sts i).f0 == 6) != ((i : Int) == f)) && rightAt sts f d (i + 1))
def rightFrom (sts : List St) (f : Int) : Bool := rightAt sts f sts.length 0
theorem rightAt_iff (sts : List St) (f : Int) : ∀ d i : Nat, rightAt sts f d i = true ↔ ∀ j : Nat, i ≤ j → j < i + d → fieldsN (rd_T64 sts j) sts.length = true ∧ ((rd_T64 sts j).f0 = 6 ↔ (j : Int) = f) := by
  intro d
  induction d with
  | zero => intro i; exact ⟨fun _ j h1 h2 => by omega, fun _ => rfl⟩
  | succ d ih =>
    intro i
    have hb : ∀ j : Nat, (!(((rd_T64 sts j).f0 == 6) != ((j : Int) == f))) = true ↔ ((rd_T64 sts j).f0 = 6 ↔ (j : Int) = f) := by
      intro j
      rw [← beq_iff_eq (a := (rd_T64 sts j).f0) (b := 6), ← beq_iff_eq (a := (j : Int)) (b := f)]
      cases (rd_T64 sts j).f0 == 6 <;> cases (j : Int) == f <;> simp
    simp only [rightAt, Bool.and_eq_true, hb, ih]
    constructor
    · rintro ⟨h1, h2, h3⟩ j h4 h5
      by_cases e : j = i
      · subst e; exact ⟨h1, h2⟩
      · exact h3 j (by omega) (by omega)
    · intro h
      exact ⟨(h i (by omega) (by omega)).1, (h i (by omega) (by omega)).2, fun j h1 h2 => h j (by omega) (by omega)⟩
def rightN (sts : List St) (s f : Int) : Bool := decide (sts.length ≤ 600 ∧ (0 ≤ s ∧ s < sts.length) ∧ (0 ≤ f ∧ f < sts.length)) && rightFrom sts f
theorem right_l0 (sts : List St) (s f : Int) (hl : sts.length ≤ 600) : ∀ d i : Nat, sts.length - i = d → i ≤ sts.length → EV (fun k => nfa_Right.l0 k (sts.length : Int) sts (sts.length : Int) (i : Int) sts s f) (rightAt sts f d i) := by
  intro d
  induction d with
  | zero =>
    intro i hd hi
    refine (EV.stop fun k => ?_).cast (r := true) rfl
    simp only [nfa_Right.l0]
    rw [if_neg (by omega)]
  | succ d ih =>
    intro i hd hi
    have hE : ∀ k, nfa_Right.l0 (k + 1) (sts.length : Int) sts (sts.length : Int) (i : Int) sts s f = if fieldsN (rd_T64 sts i) sts.length = true then (if ((((rd_T64 sts i).f0) == 6) != ((i : Int) == f)) = true then some false else nfa_Right.l0 k (sts.length : Int) sts (sts.length : Int) ((i + 1 : Nat) : Int) sts s f) else some false := by
      intro k
      simp only [nfa_Right.l0, fields_eq, Option.bind_some]
      rw [if_pos (by omega), if_pos (by omega), if_pos (by omega), wrap_in (by omega) (by omega)]
      rfl
    refine EV.succ (EV.congr hE ?_)
    have ih := ih (i + 1) (by omega) (by omega)
    simp only [rightAt]
    cases fieldsN (rd_T64 sts i) sts.length
    · exact EV.const
    · cases (((rd_T64 sts i).f0) == 6) != ((i : Int) == f)
      · exact ih
      · exact EV.const
theorem right_j0 (sts : List St) (s f : Int) (b : Bool) (hl : b = false → sts.length ≤ 600) : EV (fun k => nfa_Right.j0 k (sts.length : Int) b sts s f) (!b && rightFrom sts f) := by
  refine EV.succ ?_
  simp only [nfa_Right.j0]
  cases b
  · simp only [Bool.false_eq_true, if_false, Bool.not_false, Bool.true_and]
    exact right_l0 sts s f (hl rfl) _ 0 (by omega) (by omega)
  · simp only [if_true, Bool.not_true, Bool.false_and]
    exact EV.const
theorem right_eq (sts : List St) (s f : Int) : EV (fun k => nfa_Right.f k sts s f) (rightN sts s f) := by
  unfold nfa_Right.f rightN
  by_cases h1 : (sts.length : Int) > 600
  · simp only [if_pos h1]
    refine (right_j0 sts s f true (fun h => by cases h)).cast ?_
    rw [decide_eq_false (by omega)]; rfl
  · simp only [if_neg h1]
    by_cases h2 : s < 0
    · simp only [if_pos h2]
      refine (right_j0 sts s f true (fun h => by cases h)).cast ?_
      rw [decide_eq_false (by omega)]; rfl
    · simp only [if_neg h2]
      by_cases h3 : s ≥ (sts.length : Int)
      · simp only [if_pos h3]
        refine (right_j0 sts s f true (fun h => by cases h)).cast ?_
        rw [decide_eq_false (by omega)]; rfl
      · simp only [if_neg h3]
        by_cases h4 : f < 0
        · simp only [if_pos h4]
          refine (right_j0 sts s f true (fun h => by cases h)).cast ?_
          rw [decide_eq_false (by omega)]; rfl
        · simp only [if_neg h4]
          refine (right_j0 sts s f _ (fun _ => by omega)).cast ?_
          congr 1
          by_cases h5 : f ≥ (sts.length : Int)
          · rw [decide_eq_true h5, decide_eq_false (by omega)]; rfl
          · rw [decide_eq_false h5, decide_eq_true (by omega)]; rfl
def places (l : List Bool) : Nat → Nat → List Int
  | 0, _ => []
  | d + 1, i => (if rdOf false l (i : Int) = true then [(i : Int)] else []) ++ places l d (i + 1)
theorem list_l0 (l : List Bool) (hl : l.length ≤ 1000000) : ∀ (d i : Nat) (acc : List Int), l.length - i = d → i ≤ l.length → acc.length ≤ i → EV (fun k => nfa_list.l0 k acc l (l.length : Int) (i : Int)) (acc ++ places l d i) := by
  intro d
  induction d with
  | zero =>
    intro i acc hd hi ha
    refine (EV.stop fun k => ?_).cast (r := acc) (by simp [places])
    simp only [nfa_list.l0]
    rw [if_neg (by omega)]
  | succ d ih =>
    intro i acc hd hi ha
    by_cases hb : rdOf false l (i : Int) = true
    · refine (EV.step (ih (i + 1) (acc ++ [(i : Int)]) (by omega) (by omega) (by simp; omega)) fun k => ?_).cast (by simp [places, hb])
      simp only [nfa_list.l0]
      rw [if_pos (by omega), if_pos (by omega), if_pos (by omega), wrap_in (by omega) (by omega), if_pos hb, if_pos (by omega)]
      rfl
    · refine (EV.step (ih (i + 1) acc (by omega) (by omega) (by omega)) fun k => ?_).cast (by simp [places, hb])
      simp only [nfa_list.l0]
      rw [if_pos (by omega), if_pos (by omega), if_pos (by omega), wrap_in (by omega) (by omega), if_neg hb]
      rfl
def listN (l : List Bool) : List Int := places l l.length 0
theorem list_eq (l : List Bool) (hl : l.length ≤ 1000000) : EV (fun k => nfa_list.f k l) (listN l) := by
  unfold nfa_list.f listN
  exact (list_l0 l hl l.length 0 [] (by omega) (by omega) (by simp)).cast (by simp)
theorem walkF_len (sts : List St) (l : List Int) (sym : Int) : (walkF sts l sym).length = sts.length := by
  have h : ∀ k p, (wrun sts sym k p).1.length = p.1.length := by
    intro k
    induction k with
    | zero => intro p; rfl
    | succ k ih =>
      intro p
      unfold wrun
      split
      · rfl
      · rw [ih, wstep, wvisit_len]
  rw [walkF, h]
  exact (onOk_from sts.length l).1
def closeN (sts : List St) (s f : Int) (l : List Int) (sym : Int) : List Int := if rightN sts s f = true then listN (walkF sts l sym) else []
theorem rightN_len {sts : List St} {s f : Int} (h : rightN sts s f = true) : sts.length ≤ 600 := by
  unfold rightN at h
  rw [Bool.and_eq_true, decide_eq_true_eq] at h
  exact h.1.1
theorem close_eq (sts : List St) (s f : Int) (l : List Int) (sym : Int) (hl : l.length ≤ 140737488355328) : EV (fun k => nfa_Close.f k sts s f l sym) (closeN sts s f l sym) := by
  unfold nfa_Close.f closeN
  refine EV.bind (right_eq sts s f) ?_
  by_cases h : rightN sts s f = true
  · simp only [if_pos h]
    have hn := rightN_len h
    have hw : nfa_walk.f sts s f l sym = some (walkF sts l sym) := by
      unfold nfa_walk.f
      rw [if_pos ⟨by omega, hl⟩]
    simp only [hw, Option.bind_some]
    exact EV.bind (list_eq _ (by rw [walkF_len]; omega)) EV.const
  · simp only [if_neg h]
    exact EV.const
end Go.Proofs.YtfjemaeidmikmaaDoorQ
