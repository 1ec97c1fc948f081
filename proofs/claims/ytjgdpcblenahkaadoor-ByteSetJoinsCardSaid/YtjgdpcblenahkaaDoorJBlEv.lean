/- Pruned from its seat's text: what the theorem hangs on. -/
import Derived.Test.YtjgdpcblenahkaaDoorJEvPure
import Derived.Test.YtjgdpcblenahkaaDoorJBsRuns
import Derived.Test.YtjgdpcblenahkaaDoorJQXBytesetOr
import Derived.Test.YtjgdpcblenahkaaDoorJQXBytesetAnd
import Derived.Test.YtjgdpcblenahkaaDoorJQXBytesetLess
import Derived.Test.YtjgdpcblenahkaaDoorJQXBytesetNot
import Derived.Test.YtjgdpcblenahkaaDoorJQXBytesetOf
import Derived.Test.YtjgdpcblenahkaaDoorJQXBytesetRange
import Derived.Test.YtjgdpcblenahkaaDoorJQXBytesetBytes
import Derived.Test.YtjgdpcblenahkaaDoorJQXBytesetCount
import Derived.Test.YtjgdpcblenahkaaDoorJQXTattingref01Put
import Derived.Test.YtjgdpcblenahkaaDoorJQXTattingref01Has
import Derived.Test.YtjgdpcblenahkaaDoorJQBytesetRuns
import Derived.Test.YtjgdpcblenahkaaDoorJQBytesetUnion
import Derived.Test.YtjgdpcblenahkaaDoorJQTattingref01Range
import Derived.Test.YtjgdpcblenahkaaDoorJQTattingref01Join
import Derived.Test.YtjgdpcblenahkaaDoorJQTattingref01Not
import Derived.Test.YtjgdpcblenahkaaDoorJQ0
import Derived.Test.YtjgdpcblenahkaaDoorJQG
import Derived.Test.YtjgdpcblenahkaaDoorJQEq1
import Derived.Test.YtjgdpcblenahkaaDoorJQTattingref01Union
/- Plain: what the printed functions of byteset and its reference compute. -/
set_option linter.unusedVariables false
set_option linter.unusedSimpArgs false
namespace Go.Proofs.YtjgdpcblenahkaaDoorQ
open Go.RowKit Go.Proofs.YtjgdpcblenahkaaDoorW.PrintWords Go.Proofs.YtjgdpcblenahkaaDoorW.PrintLast Go.Proofs.Bs

theorem wrap_in {x : Int} (h0 : -9223372036854775808 ≤ x) (h1 : x ≤ 9223372036854775807) : wrap64 x = x := by unfold wrap64; omega
theorem wrap_up {i : Nat} (h : i ≤ 1000000000) : wrap64 ((i : Int) + 1) = ((i + 1 : Nat) : Int) := by rw [wrap_in (by omega) (by omega)]; omega
theorem setI_n (s : S) : setI (s.a : Int) (s.b : Int) (s.c : Int) (s.d : Int) = s := setI_of s
theorem or_f (s t : S) (hs : s.wf) (ht : t.wf) : byteset_Or.f s.a s.b s.c s.d t.a t.b t.c t.d = some (four (Bs.or s t)) := by
  unfold byteset_Or.f
  rw [if_pos ⟨wfI_of s hs, wfI_of t ht⟩, setI_n, setI_n]
theorem and_f (s t : S) (hs : s.wf) (ht : t.wf) : byteset_And.f s.a s.b s.c s.d t.a t.b t.c t.d = some (four (Bs.and s t)) := by
  unfold byteset_And.f
  rw [if_pos ⟨wfI_of s hs, wfI_of t ht⟩, setI_n, setI_n]
theorem less_f (s t : S) (hs : s.wf) (ht : t.wf) : byteset_Less.f s.a s.b s.c s.d t.a t.b t.c t.d = some (four (Bs.less s t)) := by
  unfold byteset_Less.f
  rw [if_pos ⟨wfI_of s hs, wfI_of t ht⟩, setI_n, setI_n]
theorem not_f (s : S) (hs : s.wf) : byteset_Not.f s.a s.b s.c s.d = some (four (Bs.not s)) := by
  unfold byteset_Not.f
  rw [if_pos (wfI_of s hs), setI_n]
theorem has_f (s : S) (hs : s.wf) (i : Nat) (hi : i < 256) : byteset_Has.f s.a s.b s.c s.d i = some (has s i) := by
  unfold byteset_Has.f
  rw [if_pos ⟨wfI_of s hs, by omega, by omega⟩, setI_n, Int.toNat_natCast]
theorem rhas_f (s : S) (hs : s.wf) (i : Nat) (hi : i < 256) : tattingref01_Has.f s.a s.b s.c s.d i = some (has s i) := by
  unfold tattingref01_Has.f
  rw [if_pos ⟨wfI_of s hs, by omega, by omega⟩, setI_n, Int.toNat_natCast]
theorem put_f (s : S) (hs : s.wf) (i : Nat) (hi : i < 256) : tattingref01_Put.f s.a s.b s.c s.d i = some (four (put s i)) := by
  unfold tattingref01_Put.f
  rw [if_pos ⟨wfI_of s hs, by omega, by omega⟩, setI_n, Int.toNat_natCast]

def joinP (s t : S) (kind : Int) (i : Nat) : Bool := decide (kind = 0) && (has s i || has t i) || decide (kind = 1) && has s i && has t i || decide (kind = 2) && has s i && !has t i
def joinS (s t : S) (kind : Int) : S := upto (joinP s t kind) 256
theorem join_l0 (s t : S) (hs : s.wf) (ht : t.wf) (kind : Int) : ∀ (d i : Nat), 256 - i = d → i ≤ 256 →
    EV (fun k => tattingref01_Join.l0 k kind i s.a s.b s.c s.d t.a t.b t.c t.d (upto (joinP s t kind) i).a (upto (joinP s t kind) i).b (upto (joinP s t kind) i).c (upto (joinP s t kind) i).d) (four (joinS s t kind)) := by
  intro d
  induction d with
  | zero =>
    intro i hd hi
    obtain rfl : i = 256 := by omega
    refine EV.stop fun k => ?_
    simp only [tattingref01_Join.l0]
    rw [if_neg (by omega)]
    rfl
  | succ d ih =>
    intro i hd hi
    have ih := ih (i + 1) (by omega) (by omega)
    have hwf := wf_upto (joinP s t kind) i
    refine EV.step ih fun k => ?_
    simp only [tattingref01_Join.l0]
    rw [if_pos (show (i : Int) < 256 by omega), rhas_f s hs i (by omega), rhas_f t ht i (by omega), put_f _ hwf i (by omega), wrap_up (by omega)]
    have hP : joinP s t kind i = (decide (kind = 0) && (has s i || has t i) || decide (kind = 1) && has s i && has t i || decide (kind = 2) && has s i && !has t i) := rfl
    simp only [Option.bind_some, four]
    have h1 : ∀ b : Bool, joinP s t kind i = b → upto (joinP s t kind) (i + 1) = if b = true then put (upto (joinP s t kind) i) i else upto (joinP s t kind) i := by
      intro b hb
      rw [← hb]
      rfl
    by_cases k0 : kind = 0
    · subst k0
      cases ha : has s i <;> cases hb : has t i <;> rw [ha, hb] at hP <;> rw [h1 _ hP] <;> simp
    · by_cases k1 : kind = 1
      · subst k1
        cases ha : has s i <;> cases hb : has t i <;> rw [ha, hb] at hP <;> rw [h1 _ hP] <;> simp
      · by_cases k2 : kind = 2
        · subst k2
          cases ha : has s i <;> cases hb : has t i <;> rw [ha, hb] at hP <;> rw [h1 _ hP] <;> simp
        · simp only [k0, k1, k2, decide_false, Bool.false_and, Bool.or_false] at hP
          rw [h1 _ hP]
          simp [k0, k1, k2]
theorem join_ev (s t : S) (hs : s.wf) (ht : t.wf) (kind : Int) : EV (fun k => tattingref01_Join.f k s.a s.b s.c s.d t.a t.b t.c t.d kind) (four (joinS s t kind)) := join_l0 s t hs ht kind 256 0 rfl (by omega)
theorem join_wf (s t : S) (kind : Int) : (joinS s t kind).wf := wf_upto _ _
theorem has_join (s t : S) (kind : Int) (i : Nat) (hi : i < 256) : has (joinS s t kind) i = joinP s t kind i := by
  unfold joinS
  rw [has_upto _ _ _ (by omega) hi]
  simp [hi]
theorem join_or (s t : S) (hs : s.wf) (ht : t.wf) : joinS s t 0 = Bs.or s t := by
  apply ext (join_wf s t 0) (wf_or hs ht)
  intro i hi
  rw [has_join _ _ _ _ hi, has_or]
  unfold joinP
  simp
theorem join_and (s t : S) (hs : s.wf) (ht : t.wf) : joinS s t 1 = Bs.and s t := by
  apply ext (join_wf s t 1) (wf_and ht)
  intro i hi
  rw [has_join _ _ _ _ hi, has_and]
  unfold joinP
  simp
theorem join_less (s t : S) (hs : s.wf) (ht : t.wf) : joinS s t 2 = Bs.less s t := by
  apply ext (join_wf s t 2) (wf_less s t)
  intro i hi
  rw [has_join _ _ _ _ hi, has_less s t ht]
  unfold joinP
  simp
theorem rrange_l0 (lo hi : Nat) (h1 : hi < 256) : ∀ (d n : Nat), hi + 1 - (lo + n) = d → lo + n ≤ 256 →
    EV (fun k => tattingref01_Range.l0 k hi ((lo + n : Nat) : Int) (span S.zero lo n).a (span S.zero lo n).b (span S.zero lo n).c (span S.zero lo n).d) (four (span S.zero lo (n + d))) := by
  intro d
  induction d with
  | zero =>
    intro n hd hn
    refine EV.stop fun k => ?_
    simp only [tattingref01_Range.l0]
    rw [if_neg (by omega)]
    rfl
  | succ d ih =>
    intro n hd hn
    have ih := ih (n + 1) (by omega) (by omega)
    have hwf := wf_span S.wf_zero lo n
    refine EV.step (ih.cast (by rw [show n + 1 + d = n + (d + 1) by omega])) fun k => ?_
    simp only [tattingref01_Range.l0]
    rw [if_pos (show ((lo + n : Nat) : Int) ≤ (hi : Int) by omega), put_f _ hwf (lo + n) (by omega), wrap_up (by omega)]
    rfl
theorem rrange_ev (lo hi : Nat) (h0 : lo < 256) (h1 : hi < 256) : EV (fun k => tattingref01_Range.f k lo hi) (four (rangeS lo hi)) := by
  have h := rrange_l0 lo hi h1 (hi + 1 - lo) 0 (by omega) (by omega)
  refine (h.cast ?_)
  rw [Nat.zero_add]
  rfl
theorem rnot_ev (s : S) (hs : s.wf) : EV (fun k => tattingref01_Not.f k s.a s.b s.c s.d) (four (Bs.not s)) := by
  unfold tattingref01_Not.f
  refine EV.bind (rrange_ev 0 255 (by omega) (by omega)) ?_
  refine EV.bind (join_ev (rangeS 0 255) s (rangeS_wf 0 255) hs 2) ?_
  have e : joinS (rangeS 0 255) s 2 = Bs.not s := by
    rw [join_less _ _ (rangeS_wf 0 255) hs]
    apply ext (wf_less _ _) (wf_not s)
    intro i hi
    rw [has_less _ _ hs, has_not s hs]
    have h : has (rangeS 0 255) i = true := by
      unfold rangeS
      rw [has_range 0 255 i (by omega) hi]
      simp; omega
    rw [h, Bool.true_and]
  rw [e]
  exact EV.const

end Go.Proofs.YtjgdpcblenahkaaDoorQ
