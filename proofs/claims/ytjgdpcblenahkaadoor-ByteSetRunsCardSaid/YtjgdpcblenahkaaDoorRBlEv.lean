/- Pruned from its seat's text: what the theorem hangs on. -/
import Derived.Test.YtjgdpcblenahkaaDoorREvPure
import Derived.Test.YtjgdpcblenahkaaDoorRBsRuns
import Derived.Test.YtjgdpcblenahkaaDoorRQXBytesetOr
import Derived.Laws.BitsAllLaws
import Derived.Deep.RegionWith
import Derived.Test.YtjgdpcblenahkaaDoorRQXBytesetNot
import Derived.Test.YtjgdpcblenahkaaDoorRQXBytesetOf
import Derived.Test.YtjgdpcblenahkaaDoorRQXBytesetRange
import Derived.Test.YtjgdpcblenahkaaDoorRQXBytesetBytes
import Derived.Test.YtjgdpcblenahkaaDoorRQXBytesetCount
import Derived.Test.YtjgdpcblenahkaaDoorRQXTattingref01Put
import Derived.Test.YtjgdpcblenahkaaDoorRQXTattingref01Has
import Derived.Test.YtjgdpcblenahkaaDoorRQBytesetRuns
import Derived.Test.YtjgdpcblenahkaaDoorRQBytesetUnion
import Derived.Test.YtjgdpcblenahkaaDoorRQTattingref01Range
import Derived.Test.YtjgdpcblenahkaaDoorRQTattingref01Join
import Derived.Test.YtjgdpcblenahkaaDoorRQ0
import Derived.Test.YtjgdpcblenahkaaDoorRQG
import Derived.Test.YtjgdpcblenahkaaDoorRQEq1
import Derived.Test.YtjgdpcblenahkaaDoorRQTattingref01Union
/- Plain: what the printed functions of byteset and its reference compute. -/
set_option linter.unusedVariables false
set_option linter.unusedSimpArgs false
namespace Go.Proofs.YtjgdpcblenahkaaDoorQ
open Go.RowKit Go.Proofs.YtjgdpcblenahkaaDoorW.PrintWords Go.Proofs.YtjgdpcblenahkaaDoorW.PrintLast Go.Proofs.Bs

theorem wrap_in {x : Int} (h0 : -9223372036854775808 ≤ x) (h1 : x ≤ 9223372036854775807) : wrap64 x = x := by unfold wrap64; omega
theorem wrap_up {i : Nat} (h : i ≤ 1000000000) : wrap64 ((i : Int) + 1) = ((i + 1 : Nat) : Int) := by rw [wrap_in (by omega) (by omega)]; omega
theorem wrap_dn {i : Nat} (h : i ≤ 1000000000) (h0 : 0 < i) : wrap64 ((i : Int) - 1) = ((i - 1 : Nat) : Int) := by rw [wrap_in (by omega) (by omega)]; omega
theorem setI_n (s : S) : setI (s.a : Int) (s.b : Int) (s.c : Int) (s.d : Int) = s := setI_of s
theorem or_f (s t : S) (hs : s.wf) (ht : t.wf) : byteset_Or.f s.a s.b s.c s.d t.a t.b t.c t.d = some (four (Bs.or s t)) := by
  unfold byteset_Or.f
  rw [if_pos ⟨wfI_of s hs, wfI_of t ht⟩, setI_n, setI_n]
theorem bytes_f (s : S) (hs : s.wf) : byteset_Bytes.f s.a s.b s.c s.d = some ((Bs.bytes s).map Int.ofNat) := by
  unfold byteset_Bytes.f
  rw [if_pos (wfI_of s hs), setI_n]
theorem rhas_f (s : S) (hs : s.wf) (i : Nat) (hi : i < 256) : tattingref01_Has.f s.a s.b s.c s.d i = some (has s i) := by
  unfold tattingref01_Has.f
  rw [if_pos ⟨wfI_of s hs, by omega, by omega⟩, setI_n, Int.toNat_natCast]
theorem put_f (s : S) (hs : s.wf) (i : Nat) (hi : i < 256) : tattingref01_Put.f s.a s.b s.c s.d i = some (four (put s i)) := by
  unfold tattingref01_Put.f
  rw [if_pos ⟨wfI_of s hs, by omega, by omega⟩, setI_n, Int.toNat_natCast]
theorem range_f (lo hi : Nat) (h0 : lo < 256) (h1 : hi < 256) : byteset_Range.f lo hi = some (four (rangeS lo hi)) := by
  unfold byteset_Range.f
  rw [if_pos ⟨⟨by omega, by omega⟩, by omega, by omega⟩, Int.toNat_natCast, Int.toNat_natCast]

def joinP (s t : S) (kind : Int) (i : Nat) : Bool := decide (kind = 0) && (has s i || has t i) || decide (kind = 1) && has s i && has t i || decide (kind = 2) && has s i && !has t i
def joinS (s t : S) (kind : Int) : S := upto (joinP s t kind) 256
theorem join_l0 (s t : S) (hs : s.wf) (ht : t.wf) (kind : Int) : ∀ (d i : Nat), 256 - i = d → i ≤ 256 →
    EV (fun k => tattingref01_Join.l0 k kind i s.a s.b s.c s.d t.a t.b t.c t.d (upto (joinP s t kind) i).a (upto (joinP s t kind) i).b (upto (joinP s t kind) i).c (upto (joinP s t kind) i).d) (four (joinS s t kind)) := by
  intro d
  induction d with
  | zero =>
    intro i hd hi
    obtain rfl : i = 256 := by omega
    refine EV.stop fun k => ?_
    simp only [tattingref01_Join.l0]
    rw [if_neg (by omega)]
    rfl
  | succ d ih =>
    intro i hd hi
    have ih := ih (i + 1) (by omega) (by omega)
    have hwf := wf_upto (joinP s t kind) i
    refine EV.step ih fun k => ?_
    simp only [tattingref01_Join.l0]
    rw [if_pos (show (i : Int) < 256 by omega), rhas_f s hs i (by omega), rhas_f t ht i (by omega), put_f _ hwf i (by omega), wrap_up (by omega)]
    have hP : joinP s t kind i = (decide (kind = 0) && (has s i || has t i) || decide (kind = 1) && has s i && has t i || decide (kind = 2) && has s i && !has t i) := rfl
    simp only [Option.bind_some, four]
    have h1 : ∀ b : Bool, joinP s t kind i = b → upto (joinP s t kind) (i + 1) = if b = true then put (upto (joinP s t kind) i) i else upto (joinP s t kind) i := by
      intro b hb
      rw [← hb]
      rfl
    by_cases k0 : kind = 0
    · subst k0
      cases ha : has s i <;> cases hb : has t i <;> rw [ha, hb] at hP <;> rw [h1 _ hP] <;> simp
    · by_cases k1 : kind = 1
      · subst k1
        cases ha : has s i <;> cases hb : has t i <;> rw [ha, hb] at hP <;> rw [h1 _ hP] <;> simp
      · by_cases k2 : kind = 2
        · subst k2
          cases ha : has s i <;> cases hb : has t i <;> rw [ha, hb] at hP <;> rw [h1 _ hP] <;> simp
        · simp only [k0, k1, k2, decide_false, Bool.false_and, Bool.or_false] at hP
          rw [h1 _ hP]
          simp [k0, k1, k2]
theorem join_ev (s t : S) (hs : s.wf) (ht : t.wf) (kind : Int) : EV (fun k => tattingref01_Join.f k s.a s.b s.c s.d t.a t.b t.c t.d kind) (four (joinS s t kind)) := join_l0 s t hs ht kind 256 0 rfl (by omega)
theorem join_wf (s t : S) (kind : Int) : (joinS s t kind).wf := wf_upto _ _
theorem has_join (s t : S) (kind : Int) (i : Nat) (hi : i < 256) : has (joinS s t kind) i = joinP s t kind i := by
  unfold joinS
  rw [has_upto _ _ _ (by omega) hi]
  simp [hi]
theorem join_or (s t : S) (hs : s.wf) (ht : t.wf) : joinS s t 0 = Bs.or s t := by
  apply ext (join_wf s t 0) (wf_or hs ht)
  intro i hi
  rw [has_join _ _ _ _ hi, has_or]
  unfold joinP
  simp
theorem rrange_l0 (lo hi : Nat) (h1 : hi < 256) : ∀ (d n : Nat), hi + 1 - (lo + n) = d → lo + n ≤ 256 →
    EV (fun k => tattingref01_Range.l0 k hi ((lo + n : Nat) : Int) (span S.zero lo n).a (span S.zero lo n).b (span S.zero lo n).c (span S.zero lo n).d) (four (span S.zero lo (n + d))) := by
  intro d
  induction d with
  | zero =>
    intro n hd hn
    refine EV.stop fun k => ?_
    simp only [tattingref01_Range.l0]
    rw [if_neg (by omega)]
    rfl
  | succ d ih =>
    intro n hd hn
    have ih := ih (n + 1) (by omega) (by omega)
    have hwf := wf_span S.wf_zero lo n
    refine EV.step (ih.cast (by rw [show n + 1 + d = n + (d + 1) by omega])) fun k => ?_
    simp only [tattingref01_Range.l0]
    rw [if_pos (show ((lo + n : Nat) : Int) ≤ (hi : Int) by omega), put_f _ hwf (lo + n) (by omega), wrap_up (by omega)]
    rfl
theorem rrange_ev (lo hi : Nat) (h0 : lo < 256) (h1 : hi < 256) : EV (fun k => tattingref01_Range.f k lo hi) (four (rangeS lo hi)) := by
  have h := rrange_l0 lo hi h1 (hi + 1 - lo) 0 (by omega) (by omega)
  refine (h.cast ?_)
  rw [Nat.zero_add]
  rfl

abbrev Rn := S53
def runI (r : Nat × Nat) : Rn := ⟨r.1, r.2⟩
theorem runs_l0 (l : List Nat) (hl : ∀ x ∈ l, x < 256) (hn : l.length ≤ 256) : ∀ (d i : Nat) (acc : List (Nat × Nat)), l.length - i = d → i ≤ l.length → acc.length ≤ i → (∀ r ∈ acc, r.2 < 256) → 
    EV (fun k => byteset_Runs.l0 k (acc.map runI) (l.map Int.ofNat) ((l.map Int.ofNat).length : Int) i) (((l.drop i).foldl runStep acc).map runI) := by
  intro d
  induction d with
  | zero =>
    intro i acc hd hi ha hr
    obtain rfl : i = l.length := by omega
    refine EV.stop fun k => ?_
    simp only [byteset_Runs.l0]
    rw [if_neg (by rw [List.length_map]; omega), List.drop_length]
    rfl
  | succ d ih =>
    intro i acc hd hi ha hr
    have hlt : i < l.length := by omega
    have hb := hl _ (List.getElem_mem hlt)
    have e : l.drop i = l[i] :: l.drop (i + 1) := List.drop_eq_getElem_cons hlt
    have erd : rd (l.map Int.ofNat) (i : Int) = ((l[i] : Nat) : Int) := by
      unfold rd
      rw [List.getD_eq_getElem?_getD, Int.toNat_natCast, List.getElem?_eq_getElem (by rw [List.length_map]; exact hlt)]
      simp
    rw [e, List.foldl_cons]
    have hlen : (runStep acc l[i]).length ≤ i + 1 := by
      unfold runStep
      split
      · simp; omega
      · split
        · simp; omega
        · simp; omega
    have hr2 : ∀ r ∈ runStep acc l[i], r.2 < 256 := by
      intro r h
      unfold runStep at h
      split at h
      · rcases List.mem_append.1 h with h | h
        · exact hr r h
        · simp at h; subst h; exact hb
      · split at h
        · rcases List.mem_append.1 h with h | h
          · exact hr r (List.dropLast_sublist _ |>.subset h)
          · simp at h; subst h; exact hb
        · rcases List.mem_append.1 h with h | h
          · exact hr r h
          · simp at h; subst h; exact hb
    have ih := ih (i + 1) (runStep acc l[i]) (by omega) (by omega) hlen hr2
    generalize l[i] = b at *
    refine EV.step ih fun k => ?_
    simp only [byteset_Runs.l0]
    rw [if_pos (show (i : Int) < ((l.map Int.ofNat).length : Int) by rw [List.length_map]; omega), if_pos (by omega), if_pos (by rw [List.length_map]; omega), erd, wrap_up (by omega)]
    rcases List.eq_nil_or_concat acc with e | ⟨pre, ⟨lo, hi'⟩, e⟩
    · subst e
      have h0 : ¬ ((([] : List (Nat × Nat)).map runI).length : Int) > 0 := by simp
      rw [if_neg h0, if_pos (by simp)]
      rfl
    · rw [List.concat_eq_append] at e
      subst e
      have hh := hr (lo, hi') (by simp)
      have hl1 : ((pre ++ [(lo, hi')]).map runI).length = pre.length + 1 := by simp
      have hw : wrap64 ((((pre ++ [(lo, hi')]).map runI).length : Int) - 1) = (pre.length : Int) := by
        rw [hl1, wrap_in (by simp at ha; omega) (by simp at ha; omega)]
        omega
      have hrd : rd_T53 ((pre ++ [(lo, hi')]).map runI) (pre.length : Int) = runI (lo, hi') := by
        unfold rd_T53
        rw [List.getD_eq_getElem?_getD, Int.toNat_natCast]
        simp
      have hset : ∀ v : Rn, ((pre ++ [(lo, hi')]).map runI).set pre.length v = pre.map runI ++ [v] := by
        intro v
        rw [List.map_append, List.set_append_right _ _ (by simp)]
        simp
      rw [if_pos (by rw [hl1]; omega), hw, if_pos (by omega), if_pos (by rw [hl1]; omega), hrd, Int.toNat_natCast, hset, runStep_end]
      by_cases hc : hi' + 1 = b
      · have c1 : (runI (lo, hi')).f1 = ((b : Int) - 1) % 256 := by show (hi' : Int) = _; omega
        have c2 : (b : Int) > 0 := by omega
        rw [if_pos c1, if_pos c2, if_pos hc]
        simp [runI]
      · rw [if_neg hc]
        have tail : (if ((pre ++ [(lo, hi')]).map runI).length < 70368744177664 then byteset_Runs.l0 k (((pre ++ [(lo, hi')]).map runI) ++ [⟨(b : Int), (b : Int)⟩]) (l.map Int.ofNat) ((l.map Int.ofNat).length : Int) ((i + 1 : Nat) : Int) else none) = byteset_Runs.l0 k ((pre ++ [(lo, hi')] ++ [(b, b)]).map runI) (l.map Int.ofNat) ((l.map Int.ofNat).length : Int) ((i + 1 : Nat) : Int) := by
          rw [if_pos (by rw [hl1]; simp at ha; omega), List.map_append (l₂ := [(b, b)])]
          rfl
        by_cases c1 : (runI (lo, hi')).f1 = ((b : Int) - 1) % 256
        · have c2 : ¬ (b : Int) > 0 := by
            have c3 : (hi' : Int) = ((b : Int) - 1) % 256 := c1
            omega
          rw [if_pos c1, if_neg c2]
          exact tail
        · rw [if_neg c1]
          exact tail
theorem runs_ev (s : S) (hs : s.wf) : EV (fun k => byteset_Runs.f k s.a s.b s.c s.d) ((runsS s).map runI) := by
  unfold byteset_Runs.f
  rw [bytes_f s hs]
  simp only [Option.bind_some]
  have hn : (Bs.bytes s).length ≤ 256 := by
    have := List.length_filter_le (fun j => has s j) (List.range 256)
    rwa [List.length_range] at this
  have h := runs_l0 (Bs.bytes s) (fun x hx => bytes_lt hx) hn (Bs.bytes s).length 0 [] rfl (by omega) (by simp) (by simp)
  rw [List.drop_zero, fold_runs] at h
  exact h
end Go.Proofs.YtjgdpcblenahkaaDoorQ
