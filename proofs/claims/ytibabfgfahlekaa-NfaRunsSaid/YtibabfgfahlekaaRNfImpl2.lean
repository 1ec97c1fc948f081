/- Pruned from its seat's text: what the theorem hangs on. -/
import Derived.Test.YtibabfgfahlekaaRNfImpl
import Derived.Test.YtibabfgfahlekaaRQTattingref09Right
import Derived.Test.YtibabfgfahlekaaRQ0
import Derived.Test.YtibabfgfahlekaaRQTattingref09Of
import Derived.Test.YtibabfgfahlekaaRQTattingref09Fits
/- Plain: what the printed functions of package nfa and of the document's chapter 9 compute. -/
set_option linter.unusedVariables false
set_option linter.unusedSimpArgs false
namespace Go.Proofs.YtibabfgfahlekaaQ
open Go.RowKit Go.Proofs.YtibabfgfahlekaaW.PrintWords Go.Proofs.YtibabfgfahlekaaW.PrintLast Go.Proofs.Bs

def wfSt (st : St) : Prop := wfI st.f3.f0 st.f3.f1 st.f3.f2 st.f3.f3
def hasSt (st : St) (b : Int) : Bool := has (setI st.f3.f0 st.f3.f1 st.f3.f2 st.f3.f3) b.toNat
def wfSts (sts : List St) : Prop := ∀ i : Int, 0 ≤ i → i < sts.length → wfSt (rd_T72 sts i)
def stepOne (sts : List St) (b s : Int) : List Int := if 0 ≤ s ∧ s < sts.length ∧ (rd_T72 sts s).f0 = 1 ∧ hasSt (rd_T72 sts s) b = true then [(rd_T72 sts s).f1] else []
theorem stepOne_le (sts : List St) (b s : Int) : (stepOne sts b s).length ≤ 1 := by unfold stepOne; split <;> simp
theorem step_l0 (sts : List St) (s f b : Int) (l : List Int) (hl : l.length ≤ 1000000) (hn : sts.length ≤ 600) (hw : wfSts sts) (hb : 0 ≤ b ∧ b < 256) : ∀ (d i : Nat) (acc : List Int), l.length - i = d → i ≤ l.length → acc.length ≤ i →
    EV (fun k => nfa_Step.l0 k b acc l (l.length : Int) (i : Int) sts s f) (listN (walkF sts (acc ++ (l.drop i).flatMap (stepOne sts b)) 0)) := by
  intro d
  induction d with
  | zero =>
    intro i acc hd hi ha
    have hE : ∀ k, nfa_Step.l0 (k + 1) b acc l (l.length : Int) (i : Int) sts s f = (nfa_list.f k (walkF sts acc 0)).bind fun t => some t := by
      intro k
      simp only [nfa_Step.l0]
      rw [if_neg (by omega)]
      unfold nfa_walk.f
      rw [if_pos ⟨by omega, by omega⟩]
      rfl
    refine (EV.step (EV.bind (list_eq _ (by rw [walkF_len]; omega)) EV.const) hE).cast ?_
    rw [List.drop_eq_nil_of_le (by omega)]
    simp
  | succ d ih =>
    intro i acc hd hi ha
    have hcons : l.drop i = rd l (i : Int) :: l.drop (i + 1) := by
      rw [List.drop_eq_getElem_cons (by omega)]
      simp [rd, List.getD_eq_getElem?_getD, List.getElem?_eq_getElem (show i < l.length by omega)]
    have h1 := stepOne_le sts b (rd l (i : Int))
    refine (EV.step (ih (i + 1) (acc ++ stepOne sts b (rd l (i : Int))) (by omega) (by omega) (by simp; omega)) fun k => ?_).cast (by rw [hcons]; simp)
    simp only [nfa_Step.l0]
    rw [if_pos (by omega), if_pos (by omega), if_pos (by omega), wrap_in (by omega) (by omega)]
    generalize rd l (i : Int) = x
    unfold stepOne
    by_cases c0 : 0 ≤ x
    · by_cases c1 : x < (sts.length : Int)
      · by_cases c2 : (rd_T72 sts x).f0 = 1
        · have hH : byteset_Has.f (rd_T72 sts x).f3.f0 (rd_T72 sts x).f3.f1 (rd_T72 sts x).f3.f2 (rd_T72 sts x).f3.f3 b = some (hasSt (rd_T72 sts x) b) := by
            unfold byteset_Has.f
            rw [if_pos ⟨hw x c0 c1, hb⟩]
            rfl
          rw [if_pos (by omega), if_pos c1, if_pos c0, if_pos c2, hH, Option.bind_some]
          cases hasSt (rd_T72 sts x) b
          · simp
          · rw [if_pos rfl, if_pos (by omega), if_pos ⟨c0, c1, c2, rfl⟩]
            rfl
        · rw [if_pos (by omega), if_pos c1, if_pos c0, if_neg c2, if_neg (fun h => c2 h.2.2.1)]
          simp
      · rw [if_pos (by omega), if_neg c1, if_neg (fun h => c1 h.2.1)]
        simp
    · rw [if_neg (by omega), if_neg (fun h => c0 h.1)]
      simp
def stepN (sts : List St) (s f : Int) (l : List Int) (b : Int) : List Int := if rightN sts s f = true then listN (walkF sts (l.flatMap (stepOne sts b)) 0) else []
theorem step_eq (sts : List St) (s f b : Int) (l : List Int) (hl : l.length ≤ 1000000) (hw : wfSts sts) (hb : 0 ≤ b ∧ b < 256) : EV (fun k => nfa_Step.f k sts s f l b) (stepN sts s f l b) := by
  unfold nfa_Step.f stepN
  refine EV.bind (right_eq sts s f) ?_
  by_cases h : rightN sts s f = true
  · simp only [if_pos h]
    exact (step_l0 sts s f b l hl (rightN_len h) hw hb l.length 0 [] (by omega) (by omega) (by simp)).cast (by simp)
  · simp only [if_neg h]
    exact EV.const

def badA (st : St) (m : Int) : Bool := decide (st.f0 < 1 ∨ st.f0 > 6 ∨ st.f1 < 0 ∨ st.f1 ≥ m ∨ st.f2 < 0 ∨ st.f2 ≥ m)
def goodB (st : St) : Bool := decide ((st.f0 = 1 ∨ st.f3.f0 = 0 ∧ st.f3.f1 = 0 ∧ st.f3.f2 = 0 ∧ st.f3.f3 = 0) ∧ (st.f0 = 3 ∨ st.f2 = 0) ∧ (st.f0 = 6 → st.f1 = 0))
theorem fields_two (st : St) (m : Int) : fieldsN st m = (!badA st m && goodB st) := by
  unfold fieldsN badA goodB
  rw [Bool.eq_iff_iff]
  simp only [Bool.and_eq_true, Bool.not_eq_true', decide_eq_true_eq, decide_eq_false_iff_not]
  omega
theorem j2_eq (k : Nat) (m c i : Int) (b : Bool) (sts : List St) (s f : Int) (st : St) : tattingref09_Right.j2 (k + 1) m c i b sts s f st.f0 st.f1 st.f2 st.f3.f0 st.f3.f1 st.f3.f2 st.f3.f3 =
    if b = true then some false else if goodB st = true then tattingref09_Right.l0 k m (if st.f0 = 6 then wrap64 (c + 1) else c) (wrap64 (i + 1)) sts s f else some false := by
  simp only [tattingref09_Right.j2]
  generalize tattingref09_Right.l0 k m = L
  unfold goodB
  grind
theorem rl0_eq (k : Nat) (m c i : Int) (sts : List St) (s f : Int) (h0 : 0 ≤ i) (h1 : i < m) (h2 : i < sts.length) : tattingref09_Right.l0 (k + 1) m c i sts s f =
    tattingref09_Right.j2 k m c i (badA (rd_T72 sts i) m) sts s f (rd_T72 sts i).f0 (rd_T72 sts i).f1 (rd_T72 sts i).f2 (rd_T72 sts i).f3.f0 (rd_T72 sts i).f3.f1 (rd_T72 sts i).f3.f2 (rd_T72 sts i).f3.f3 := by
  simp only [tattingref09_Right.l0]
  rw [if_pos h1, if_pos h0, if_pos h2]
  generalize rd_T72 sts i = st
  unfold badA
  by_cases a1 : st.f0 < 1
  · rw [if_pos a1, decide_eq_true (.inl a1)]
  · rw [if_neg a1]
    by_cases a2 : st.f0 > 6
    · rw [if_pos a2, decide_eq_true (.inr (.inl a2))]
    · rw [if_neg a2]
      by_cases a3 : st.f1 < 0
      · rw [if_pos a3, decide_eq_true (.inr (.inr (.inl a3)))]
      · rw [if_neg a3]
        by_cases a4 : st.f1 ≥ m
        · rw [if_pos a4, decide_eq_true (.inr (.inr (.inr (.inl a4))))]
        · rw [if_neg a4]
          by_cases a5 : st.f2 < 0
          · rw [if_pos a5, decide_eq_true (.inr (.inr (.inr (.inr (.inl a5)))))]
          · rw [if_neg a5]
            congr 1
            rw [Bool.eq_iff_iff]
            simp only [decide_eq_true_eq]
            omega
end Go.Proofs.YtibabfgfahlekaaQ
