/- Pruned from its seat's text: what the theorem hangs on. -/
import Derived.Test.YtjgdpcblenahkaaDoorSNfImpl
import Derived.Test.YtjgdpcblenahkaaDoorSQ0
import Derived.Test.YtjgdpcblenahkaaDoorSQG
import Derived.Test.YtjgdpcblenahkaaDoorSQEq0
/- Plain: what the printed functions of package nfa and of the document's chapter 9 compute. -/
set_option linter.unusedVariables false
set_option linter.unusedSimpArgs false
namespace Go.Proofs.YtjgdpcblenahkaaDoorQ
open Go.RowKit Go.Proofs.YtjgdpcblenahkaaDoorW.PrintWords Go.Proofs.YtjgdpcblenahkaaDoorW.PrintLast Go.Proofs.Bs

def wfSt (st : St) : Prop := wfI st.f3.f0 st.f3.f1 st.f3.f2 st.f3.f3
def hasSt (st : St) (b : Int) : Bool := has (setI st.f3.f0 st.f3.f1 st.f3.f2 st.f3.f3) b.toNat
def wfSts (sts : List St) : Prop := ∀ i : Int, 0 ≤ i → i < sts.length → wfSt (rd_T88 sts i)
def stepOne (sts : List St) (b s : Int) : List Int := if 0 ≤ s ∧ s < sts.length ∧ (rd_T88 sts s).f0 = 1 ∧ hasSt (rd_T88 sts s) b = true then [(rd_T88 sts s).f1] else []
theorem stepOne_le (sts : List St) (b s : Int) : (stepOne sts b s).length ≤ 1 := by unfold stepOne; split <;> simp
theorem step_l0 (sts : List St) (s f b : Int) (l : List Int) (hl : l.length ≤ 1000000) (hn : sts.length ≤ 600) (hw : wfSts sts) (hb : 0 ≤ b ∧ b < 256) : ∀ (d i : Nat) (acc : List Int), l.length - i = d → i ≤ l.length → acc.length ≤ i →
    EV (fun k => nfa_Step.l0 k b acc l (l.length : Int) (i : Int) sts s f) (listN (walkF sts (acc ++ (l.drop i).flatMap (stepOne sts b)) 0)) := by
  intro d
  induction d with
  | zero =>
    intro i acc hd hi ha
    have hE : ∀ k, nfa_Step.l0 (k + 1) b acc l (l.length : Int) (i : Int) sts s f = (nfa_list.f k (walkF sts acc 0)).bind fun t => some t := by
      intro k
      simp only [nfa_Step.l0]
      rw [if_neg (by omega)]
      unfold nfa_walk.f
      rw [if_pos ⟨by omega, by omega⟩]
      rfl
    refine (EV.step (EV.bind (list_eq _ (by rw [walkF_len]; omega)) EV.const) hE).cast ?_
    rw [List.drop_eq_nil_of_le (by omega)]
    simp
  | succ d ih =>
    intro i acc hd hi ha
    have hcons : l.drop i = rd l (i : Int) :: l.drop (i + 1) := by
      rw [List.drop_eq_getElem_cons (by omega)]
      simp [rd, List.getD_eq_getElem?_getD, List.getElem?_eq_getElem (show i < l.length by omega)]
    have h1 := stepOne_le sts b (rd l (i : Int))
    refine (EV.step (ih (i + 1) (acc ++ stepOne sts b (rd l (i : Int))) (by omega) (by omega) (by simp; omega)) fun k => ?_).cast (by rw [hcons]; simp)
    simp only [nfa_Step.l0]
    rw [if_pos (by omega), if_pos (by omega), if_pos (by omega), wrap_in (by omega) (by omega)]
    generalize rd l (i : Int) = x
    unfold stepOne
    by_cases c0 : 0 ≤ x
    · by_cases c1 : x < (sts.length : Int)
      · by_cases c2 : (rd_T88 sts x).f0 = 1
        · have hH : byteset_Has.f (rd_T88 sts x).f3.f0 (rd_T88 sts x).f3.f1 (rd_T88 sts x).f3.f2 (rd_T88 sts x).f3.f3 b = some (hasSt (rd_T88 sts x) b) := by
            unfold byteset_Has.f
            rw [if_pos ⟨hw x c0 c1, hb⟩]
            rfl
          rw [if_pos (by omega), if_pos c1, if_pos c0, if_pos c2, hH, Option.bind_some]
          cases hasSt (rd_T88 sts x) b
          · simp
          · rw [if_pos rfl, if_pos (by omega), if_pos ⟨c0, c1, c2, rfl⟩]
            rfl
        · rw [if_pos (by omega), if_pos c1, if_pos c0, if_neg c2, if_neg (fun h => c2 h.2.2.1)]
          simp
      · rw [if_pos (by omega), if_neg c1, if_neg (fun h => c1 h.2.1)]
        simp
    · rw [if_neg (by omega), if_neg (fun h => c0 h.1)]
      simp
def stepN (sts : List St) (s f : Int) (l : List Int) (b : Int) : List Int := if rightN sts s f = true then listN (walkF sts (l.flatMap (stepOne sts b)) 0) else []
theorem step_eq (sts : List St) (s f b : Int) (l : List Int) (hl : l.length ≤ 1000000) (hw : wfSts sts) (hb : 0 ≤ b ∧ b < 256) : EV (fun k => nfa_Step.f k sts s f l b) (stepN sts s f l b) := by
  unfold nfa_Step.f stepN
  refine EV.bind (right_eq sts s f) ?_
  by_cases h : rightN sts s f = true
  · simp only [if_pos h]
    exact (step_l0 sts s f b l hl (rightN_len h) hw hb l.length 0 [] (by omega) (by omega) (by simp)).cast (by simp)
  · simp only [if_neg h]
    exact EV.const

end Go.Proofs.YtjgdpcblenahkaaDoorQ
