import Derived.Test.YtfjemaeidmikmaaDoorBM1
import Derived.Test.YtfjemaeidmikmaaDoorBAlPure
import Derived.Test.YtfjemaeidmikmaaDoorBNfImpl
import Derived.Test.YtfjemaeidmikmaaDoorBQAlphaFirsts
import Derived.Test.YtfjemaeidmikmaaDoorBQTattingref10Firsts
set_option linter.unusedVariables false
set_option linter.unusedSimpArgs false
namespace Go.Proofs.YtfjemaeidmikmaaDoorQ
open Go.RowKit Go.Proofs.YtfjemaeidmikmaaDoorW.PrintWords Go.Proofs.YtfjemaeidmikmaaDoorW.PrintLast
theorem up_w {i : Nat} (h : i ≤ 1000000000) : wrap64 ((i : Int) + 1) = ((i + 1 : Nat) : Int) := by rw [wrap_in (by omega) (by omega)]; omega
theorem rd_at (l : List Int) (i : Nat) (h : i < l.length) : rd l (i : Int) = l[i] := by
  unfold rd
  rw [Int.toNat_natCast, List.getD_eq_getElem?_getD, List.getElem?_eq_getElem h]
  rfl
theorem take_one (l : List Int) (i : Nat) (h : i < l.length) : l.take (i + 1) = l.take i ++ [l[i]] := by
  rw [List.take_add_one, List.getElem?_eq_getElem h]
  rfl
theorem afirsts_l1 (l : List Int) (hl : l.length ≤ 1000000) (m : Nat) : ∀ d i : Nat, l.length - i = d → i ≤ l.length → EV (fun k => alpha_Firsts.l1 k (Al.firstsRow m (l.take i)) l (l.length : Int) (i : Int)) (Al.firstsRow m l) := by
  intro d
  induction d with
  | zero =>
    intro i hd hi
    have e : l.take i = l := List.take_of_length_le (by omega)
    rw [e]
    refine EV.stop fun k => ?_
    simp only [alpha_Firsts.l1]
    rw [if_neg (by omega)]
  | succ d ih =>
    intro i hd hi
    have hlt : i < l.length := by omega
    have hh := ih (i + 1) (by omega) (by omega)
    have hlen : (Al.firstsRow m (l.take i)).length = m := Al.firstsRow_len _ _
    refine EV.step hh fun k => ?_
    simp only [alpha_Firsts.l1]
    rw [if_pos (by omega), if_pos (by omega), if_pos (by omega), rd_at l i hlt, up_w (by omega), take_one l i hlt]
    by_cases h0 : l[i] ≥ 0
    · rw [if_pos h0]
      by_cases h1 : l[i] < ((Al.firstsRow m (l.take i)).length : Int)
      · rw [if_pos h1, if_pos (by omega)]
        obtain ⟨c, hc⟩ : ∃ c : Nat, l[i] = (c : Int) := ⟨l[i].toNat, by omega⟩
        rw [hc] at h1 ⊢
        rw [hlen] at h1
        have hr : rd (Al.firstsRow m (l.take i)) (c : Int) = Al.firstAt (l.take i) c := by
          unfold rd
          rw [Int.toNat_natCast]
          exact Al.firstsRow_get m _ c (by omega)
        rw [hr]
        by_cases h2 : Al.firstAt (l.take i) c < 0
        · rw [if_pos h2, Al.firstsRow_set m _ c ((Al.firstAt_neg _ _).1 h2), Int.toNat_natCast, List.length_take, Nat.min_eq_left (by omega)]
        · rw [if_neg h2, Al.firstsRow_same m _ _ (.inr (.inr (Classical.byContradiction fun h => h2 ((Al.firstAt_neg _ _).2 h))))]
      · rw [if_neg h1, Al.firstsRow_same m _ _ (.inr (.inl (by rw [hlen] at h1; omega)))]
    · rw [if_neg h0, Al.firstsRow_same m _ _ (.inl (by omega))]
theorem afirsts_ev (l : List Int) (hl : l.length ≤ 1000000) (a : Int) (ha : 0 ≤ a) : EV (fun k => alpha_Firsts.f k l a) (Al.firstsRow (min a.toNat 259) l) := by
  unfold alpha_Firsts.f
  have hm : mn a 259 = ((min a.toNat 259 : Nat) : Int) := by unfold mn; omega
  rw [hm]
  generalize hM : min a.toNat 259 = m
  have hm2 : m ≤ 259 := by omega
  have h1 := afirsts_l1 l hl m l.length 0 (by omega) (by omega)
  rw [show Al.firstsRow m (l.take 0) = List.replicate m (-1) from Al.firstsRow_nil m] at h1
  have h0 : ∀ d i : Nat, m - i = d → i ≤ m → EV (fun k => alpha_Firsts.l0 k l (List.replicate i (-1)) (m : Int) (i : Int)) (Al.firstsRow m l) := by
    intro d
    induction d with
    | zero =>
      intro i hd hi
      obtain rfl : i = m := by omega
      refine EV.step h1 fun k => ?_
      simp only [alpha_Firsts.l0]
      rw [if_neg (by omega)]
      rfl
    | succ d ih =>
      intro i hd hi
      refine EV.step (ih (i + 1) (by omega) (by omega)) fun k => ?_
      simp only [alpha_Firsts.l0]
      rw [if_pos (by omega), if_pos (by rw [List.length_replicate]; omega), up_w (by omega), ← List.replicate_succ']
  exact h0 m 0 (by omega) (by omega)
def firstFrom (l : List Int) (c i : Nat) : Int := if (c : Int) ∈ l.drop i then ((i + (l.drop i).idxOf (c : Int) : Nat) : Int) else -1
theorem firstFrom_zero (l : List Int) (c : Nat) : firstFrom l c 0 = Al.firstAt l c := by
  unfold firstFrom Al.firstAt
  rw [List.drop_zero, Nat.zero_add]
theorem firstFrom_end (l : List Int) (c : Nat) : firstFrom l c l.length = -1 := by
  unfold firstFrom
  rw [if_neg (by rw [List.drop_length]; simp)]
theorem firstFrom_step (l : List Int) (c i : Nat) (h : i < l.length) : firstFrom l c i = if l[i] = (c : Int) then (i : Int) else firstFrom l c (i + 1) := by
  unfold firstFrom
  rw [List.drop_eq_getElem_cons h, List.idxOf_cons]
  by_cases e : l[i] = (c : Int)
  · rw [if_pos (by rw [e]; exact List.mem_cons_self), if_pos e]
    simp [e]
  · rw [if_neg e]
    have hb : (l[i] == (c : Int)) = false := by simpa using e
    rw [hb]
    by_cases hm : (c : Int) ∈ l.drop (i + 1)
    · rw [if_pos (List.mem_cons_of_mem _ hm), if_pos hm]
      show ((i + ((l.drop (i + 1)).idxOf (c : Int) + 1) : Nat) : Int) = _
      omega
    · rw [if_neg hm, if_neg (fun k => ?_)]
      rcases List.mem_cons.1 k with k | k
      · exact e k.symm
      · exact hm k
theorem rfirsts_l1 (l : List Int) (hl : l.length ≤ 1000000) (a : Int) (c : Nat) (out r : List Int) (ho : out.length ≤ 1000) (hc : c ≤ 1000) (h : EV (fun k => tattingref10_Firsts.l0 k l a (out ++ [Al.firstAt l c]) ((c + 1 : Nat) : Int)) r) : ∀ i : Nat, i ≤ l.length → EV (fun k => tattingref10_Firsts.l1 k l a out (c : Int) (firstFrom l c i) (wrap64 ((i : Int) - 1))) r := by
  intro i
  induction i with
  | zero =>
    intro _
    refine EV.step h fun k => ?_
    have e : wrap64 (((0 : Nat) : Int) - 1) = -1 := by rw [wrap_in (by omega) (by omega)]; rfl
    rw [e, firstFrom_zero]
    simp only [tattingref10_Firsts.l1]
    rw [if_neg (by decide), if_pos (by omega), up_w (by omega)]
  | succ i ih =>
    intro hi
    refine EV.step (ih (by omega)) fun k => ?_
    have e : wrap64 (((i + 1 : Nat) : Int) - 1) = (i : Int) := by rw [wrap_in (by omega) (by omega)]; omega
    rw [e]
    simp only [tattingref10_Firsts.l1]
    rw [if_pos (by omega), if_pos (by omega), if_pos (by omega), rd_at l i (by omega), firstFrom_step l c i (by omega)]
    by_cases hx : l[i] = (c : Int)
    · rw [if_pos hx, if_pos hx]
    · rw [if_neg hx, if_neg hx]
theorem rfirsts_ev (l : List Int) (hl : l.length ≤ 1000000) (a : Int) (ha : 0 ≤ a) : EV (fun k => tattingref10_Firsts.f k l a) (Al.firstsRow (min a.toNat 259) l) := by
  unfold tattingref10_Firsts.f
  generalize hM : min a.toNat 259 = m
  have hm2 : m ≤ 259 := by omega
  have h0 : ∀ d c : Nat, m - c = d → c ≤ m → EV (fun k => tattingref10_Firsts.l0 k l a (Al.firstsRow c l) (c : Int)) (Al.firstsRow m l) := by
    intro d
    induction d with
    | zero =>
      intro c hd hc
      obtain rfl : c = m := by omega
      have hj : EV (fun k => tattingref10_Firsts.j1 k l a (Al.firstsRow c l) (c : Int) false) (Al.firstsRow c l) := EV.stop fun k => by simp [tattingref10_Firsts.j1]
      refine EV.step hj fun k => ?_
      simp only [tattingref10_Firsts.l0]
      by_cases h1 : (c : Int) < a
      · rw [if_pos h1, decide_eq_false (by omega)]
      · rw [if_neg h1]
    | succ d ih =>
      intro c hd hc
      have hn := ih (c + 1) (by omega) (by omega)
      rw [Al.firstsRow_snoc] at hn
      have h1 := rfirsts_l1 l hl a c (Al.firstsRow c l) _ (by rw [Al.firstsRow_len]; omega) (by omega) hn l.length (Nat.le_refl _)
      rw [firstFrom_end] at h1
      refine EV.step (EV.step h1 (g := fun k => tattingref10_Firsts.j1 k l a (Al.firstsRow c l) (c : Int) (decide ((c : Int) < 259))) fun k => ?_) fun k => ?_
      · rw [decide_eq_true (by omega)]
        simp only [tattingref10_Firsts.j1, if_true]
      · simp only [tattingref10_Firsts.l0]
        rw [if_pos (by omega)]
  exact h0 m 0 (by omega) (by omega)
end Go.Proofs.YtfjemaeidmikmaaDoorQ
