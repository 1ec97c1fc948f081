/- Pruned from its seat's text: what the theorem hangs on. -/
import Derived.Test.YtjgdpcblenahkaaDoorCNfImpl
import Derived.Test.YtjgdpcblenahkaaDoorCQTattingref09Right
/- Plain: what the printed functions of package nfa and of the document's chapter 9 compute. -/
set_option linter.unusedVariables false
set_option linter.unusedSimpArgs false
namespace Go.Proofs.YtjgdpcblenahkaaDoorQ
open Go.RowKit Go.Proofs.YtjgdpcblenahkaaDoorW.PrintWords Go.Proofs.YtjgdpcblenahkaaDoorW.PrintLast Go.Proofs.Bs

def wfSt (st : St) : Prop := wfI st.f3.f0 st.f3.f1 st.f3.f2 st.f3.f3
def wfSts (sts : List St) : Prop := ∀ i : Int, 0 ≤ i → i < sts.length → wfSt (rd_T88 sts i)

def badA (st : St) (m : Int) : Bool := decide (st.f0 < 1 ∨ st.f0 > 6 ∨ st.f1 < 0 ∨ st.f1 ≥ m ∨ st.f2 < 0 ∨ st.f2 ≥ m)
def goodB (st : St) : Bool := decide ((st.f0 = 1 ∨ st.f3.f0 = 0 ∧ st.f3.f1 = 0 ∧ st.f3.f2 = 0 ∧ st.f3.f3 = 0) ∧ (st.f0 = 3 ∨ st.f2 = 0) ∧ (st.f0 = 6 → st.f1 = 0))
theorem fields_two (st : St) (m : Int) : fieldsN st m = (!badA st m && goodB st) := by
  unfold fieldsN badA goodB
  rw [Bool.eq_iff_iff]
  simp only [Bool.and_eq_true, Bool.not_eq_true', decide_eq_true_eq, decide_eq_false_iff_not]
  omega
theorem j2_eq (k : Nat) (m c i : Int) (b : Bool) (sts : List St) (s f : Int) (st : St) : tattingref09_Right.j2 (k + 1) m c i b sts s f st.f0 st.f1 st.f2 st.f3.f0 st.f3.f1 st.f3.f2 st.f3.f3 =
    if b = true then some false else if goodB st = true then tattingref09_Right.l0 k m (if st.f0 = 6 then wrap64 (c + 1) else c) (wrap64 (i + 1)) sts s f else some false := by
  simp only [tattingref09_Right.j2]
  generalize tattingref09_Right.l0 k m = L
  unfold goodB
  grind
theorem rl0_eq (k : Nat) (m c i : Int) (sts : List St) (s f : Int) (h0 : 0 ≤ i) (h1 : i < m) (h2 : i < sts.length) : tattingref09_Right.l0 (k + 1) m c i sts s f =
    tattingref09_Right.j2 k m c i (badA (rd_T88 sts i) m) sts s f (rd_T88 sts i).f0 (rd_T88 sts i).f1 (rd_T88 sts i).f2 (rd_T88 sts i).f3.f0 (rd_T88 sts i).f3.f1 (rd_T88 sts i).f3.f2 (rd_T88 sts i).f3.f3 := by
  simp only [tattingref09_Right.l0]
  rw [if_pos h1, if_pos h0, if_pos h2]
  generalize rd_T88 sts i = st
  unfold badA
  by_cases a1 : st.f0 < 1
  · rw [if_pos a1, decide_eq_true (.inl a1)]
  · rw [if_neg a1]
    by_cases a2 : st.f0 > 6
    · rw [if_pos a2, decide_eq_true (.inr (.inl a2))]
    · rw [if_neg a2]
      by_cases a3 : st.f1 < 0
      · rw [if_pos a3, decide_eq_true (.inr (.inr (.inl a3)))]
      · rw [if_neg a3]
        by_cases a4 : st.f1 ≥ m
        · rw [if_pos a4, decide_eq_true (.inr (.inr (.inr (.inl a4))))]
        · rw [if_neg a4]
          by_cases a5 : st.f2 < 0
          · rw [if_pos a5, decide_eq_true (.inr (.inr (.inr (.inr (.inl a5)))))]
          · rw [if_neg a5]
            congr 1
            rw [Bool.eq_iff_iff]
            simp only [decide_eq_true_eq]
            omega
end Go.Proofs.YtjgdpcblenahkaaDoorQ
