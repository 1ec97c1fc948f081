/- Several short texts of this proof, one behind the other. -/
import Derived.Test.YtfjemaeidmikmaaDoorFM1
import Derived.Test.YtfjemaeidmikmaaDoorFM2
import Derived.Test.YtfjemaeidmikmaaDoorFQNfaStep
import Derived.Test.YtfjemaeidmikmaaDoorFQNfaClose
import Derived.Test.YtfjemaeidmikmaaDoorFCore
import Derived.Deep.RegionLaw
import Derived.Test.YtfjemaeidmikmaaDoorFQAlphaFirsts
section
set_option linter.unusedVariables false
set_option linter.unusedSimpArgs false
namespace Go.Proofs.YtfjemaeidmikmaaDoorQ
open Go.RowKit Go.Proofs.YtfjemaeidmikmaaDoorW.PrintWords Go.Proofs.YtfjemaeidmikmaaDoorW.PrintLast Go.Proofs.Bs
theorem wrap_in {x : Int} (h0 : -9223372036854775808 ≤ x) (h1 : x ≤ 9223372036854775807) : wrap64 x = x := by unfold wrap64; omega
def fieldsN (st : St) (m : Int) : Bool :=
  decide (1 ≤ st.f0 ∧ st.f0 ≤ 6 ∧ (st.f0 = 1 ∨ st.f3.f0 = 0 ∧ st.f3.f1 = 0 ∧ st.f3.f2 = 0 ∧ st.f3.f3 = 0) ∧ (st.f0 = 3 ∨ st.f2 = 0) ∧ (st.f0 = 6 → st.f1 = 0) ∧ (0 ≤ st.f1 ∧ st.f1 < m) ∧ 0 ≤ st.f2 ∧ st.f2 < m)
theorem fields_eq (st : St) (m : Int) : nfa_fields.f st.f0 st.f1 st.f2 st.f3.f0 st.f3.f1 st.f3.f2 st.f3.f3 m = some (fieldsN st m) := by
  unfold nfa_fields.f fieldsN;grind
def rightAt (sts : List St) (f : Int) : Nat → Nat → Bool
  | 0, _ => true
  | d + 1, i => fieldsN (rd_T64 sts i) sts.length && (!(((rd_T64 sts i).f0 == 6) != ((i : Int) == f)) && rightAt sts f d (i + 1))
def rightFrom (sts : List St) (f : Int) : Bool := rightAt sts f sts.length 0
theorem rightAt_iff (sts : List St) (f : Int) : ∀ d i : Nat, rightAt sts f d i = true ↔ ∀ j : Nat, i ≤ j → j < i + d → fieldsN (rd_T64 sts j) sts.length = true ∧ ((rd_T64 sts j).f0 = 6 ↔ (j : Int) = f) := by
  intro d
  induction d with
  | zero => intro i; exact ⟨fun _ j h1 h2 => by omega, fun _ => rfl⟩
  | succ d ih =>
    intro i
    have hb : ∀ j : Nat, (!(((rd_T64 sts j).f0 == 6) != ((j : Int) == f))) = true ↔ ((rd_T64 sts j).f0 = 6 ↔ (j : Int) = f) := by
      intro j;rw [← beq_iff_eq (a := (rd_T64 sts j).f0) (b := 6), ← beq_iff_eq (a := (j : Int)) (b := f)];cases (rd_T64 sts j).f0 == 6 <;> cases (j : Int) == f <;> simp
    simp only [rightAt, Bool.and_eq_true, hb, ih];constructor
    · rintro ⟨h1, h2, h3⟩ j h4 h5;by_cases e : j = i
      · subst e; exact ⟨h1, h2⟩
      · exact h3 j (by omega) (by omega)
    · intro h;exact ⟨(h i (by omega) (by omega)).1, (h i (by omega) (by omega)).2, fun j h1 h2 => h j (by omega) (by omega)⟩
def rightN (sts : List St) (s f : Int) : Bool := decide (sts.length ≤ 600 ∧ (0 ≤ s ∧ s < sts.length) ∧ (0 ≤ f ∧ f < sts.length)) && rightFrom sts f
theorem right_l0 (sts : List St) (s f : Int) (hl : sts.length ≤ 600) : ∀ d i : Nat, sts.length - i = d → i ≤ sts.length → EV (fun k => nfa_Right.l0 k (sts.length : Int) sts (sts.length : Int) (i : Int) sts s f) (rightAt sts f d i) := by
  intro d
  induction d with
  | zero =>
    intro i hd hi;refine (EV.stop fun k => ?_).cast (r := true) rfl;simp only [nfa_Right.l0];rw [if_neg (by omega)]
  | succ d ih =>
    intro i hd hi
    have hE : ∀ k, nfa_Right.l0 (k + 1) (sts.length : Int) sts (sts.length : Int) (i : Int) sts s f = if fieldsN (rd_T64 sts i) sts.length = true then (if ((((rd_T64 sts i).f0) == 6) != ((i : Int) == f)) = true then some false else nfa_Right.l0 k (sts.length : Int) sts (sts.length : Int) ((i + 1 : Nat) : Int) sts s f) else some false := by
      intro k;simp only [nfa_Right.l0, fields_eq, Option.bind_some];rw [if_pos (by omega), if_pos (by omega), if_pos (by omega), wrap_in (by omega) (by omega)];rfl
    refine EV.succ (EV.congr hE ?_);have ih := ih (i + 1) (by omega) (by omega);simp only [rightAt];cases fieldsN (rd_T64 sts i) sts.length
    · exact EV.const
    · cases (((rd_T64 sts i).f0) == 6) != ((i : Int) == f)
      · exact ih
      · exact EV.const
theorem right_j0 (sts : List St) (s f : Int) (b : Bool) (hl : b = false → sts.length ≤ 600) : EV (fun k => nfa_Right.j0 k (sts.length : Int) b sts s f) (!b && rightFrom sts f) := by
  refine EV.succ ?_;simp only [nfa_Right.j0];cases b
  · simp only [Bool.false_eq_true, if_false, Bool.not_false, Bool.true_and];exact right_l0 sts s f (hl rfl) _ 0 (by omega) (by omega)
  · simp only [if_true, Bool.not_true, Bool.false_and];exact EV.const
theorem right_eq (sts : List St) (s f : Int) : EV (fun k => nfa_Right.f k sts s f) (rightN sts s f) := by
  unfold nfa_Right.f rightN;by_cases h1 : (sts.length : Int) > 600
  · simp only [if_pos h1];refine (right_j0 sts s f true (fun h => by cases h)).cast ?_;rw [decide_eq_false (by omega)]; rfl
  · simp only [if_neg h1];by_cases h2 : s < 0
    · simp only [if_pos h2];refine (right_j0 sts s f true (fun h => by cases h)).cast ?_;rw [decide_eq_false (by omega)]; rfl
    · simp only [if_neg h2];by_cases h3 : s ≥ (sts.length : Int)
      · simp only [if_pos h3];refine (right_j0 sts s f true (fun h => by cases h)).cast ?_;rw [decide_eq_false (by omega)]; rfl
      · simp only [if_neg h3];by_cases h4 : f < 0
        · simp only [if_pos h4];refine (right_j0 sts s f true (fun h => by cases h)).cast ?_;rw [decide_eq_false (by omega)]; rfl
        · simp only [if_neg h4];refine (right_j0 sts s f _ (fun _ => by omega)).cast ?_;congr 1;by_cases h5 : f ≥ (sts.length : Int)
          · rw [decide_eq_true h5, decide_eq_false (by omega)]; rfl
          · rw [decide_eq_false h5, decide_eq_true (by omega)]; rfl
def places (l : List Bool) : Nat → Nat → List Int
  | 0, _ => []
  | d + 1, i => (if rdOf false l (i : Int) = true then [(i : Int)] else []) ++ places l d (i + 1)
theorem list_l0 (l : List Bool) (hl : l.length ≤ 1000000) : ∀ (d i : Nat) (acc : List Int), l.length - i = d → i ≤ l.length → acc.length ≤ i → EV (fun k => nfa_list.l0 k acc l (l.length : Int) (i : Int)) (acc ++ places l d i) := by
  intro d
  induction d with
  | zero =>
    intro i acc hd hi ha;refine (EV.stop fun k => ?_).cast (r := acc) (by simp [places]);simp only [nfa_list.l0];rw [if_neg (by omega)]
  | succ d ih =>
    intro i acc hd hi ha;by_cases hb : rdOf false l (i : Int) = true
    · refine (EV.step (ih (i + 1) (acc ++ [(i : Int)]) (by omega) (by omega) (by simp; omega)) fun k => ?_).cast (by simp [places, hb]);simp only [nfa_list.l0];rw [if_pos (by omega), if_pos (by omega), if_pos (by omega), wrap_in (by omega) (by omega), if_pos hb, if_pos (by omega)];rfl
    · refine (EV.step (ih (i + 1) acc (by omega) (by omega) (by omega)) fun k => ?_).cast (by simp [places, hb]);simp only [nfa_list.l0];rw [if_pos (by omega), if_pos (by omega), if_pos (by omega), wrap_in (by omega) (by omega), if_neg hb];rfl
def listN (l : List Bool) : List Int := places l l.length 0
theorem list_eq (l : List Bool) (hl : l.length ≤ 1000000) : EV (fun k => nfa_list.f k l) (listN l) := by
  unfold nfa_list.f listN;exact (list_l0 l hl l.length 0 [] (by omega) (by omega) (by simp)).cast (by simp)
theorem walkF_len (sts : List St) (l : List Int) (sym : Int) : (walkF sts l sym).length = sts.length := by
  have h : ∀ k p, (wrun sts sym k p).1.length = p.1.length := by
    intro k
    induction k with
    | zero => intro p; rfl
    | succ k ih =>
      intro p;unfold wrun;split
      · rfl
      · rw [ih, wstep, wvisit_len]
  rw [walkF, h];exact (onOk_from sts.length l).1
def closeN (sts : List St) (s f : Int) (l : List Int) (sym : Int) : List Int := if rightN sts s f = true then listN (walkF sts l sym) else []
theorem rightN_len {sts : List St} {s f : Int} (h : rightN sts s f = true) : sts.length ≤ 600 := by
  unfold rightN at h;rw [Bool.and_eq_true, decide_eq_true_eq] at h;exact h.1.1
theorem close_eq (sts : List St) (s f : Int) (l : List Int) (sym : Int) (hl : l.length ≤ 140737488355328) : EV (fun k => nfa_Close.f k sts s f l sym) (closeN sts s f l sym) := by
  unfold nfa_Close.f closeN;refine EV.bind (right_eq sts s f) ?_;by_cases h : rightN sts s f = true
  · simp only [if_pos h];have hn := rightN_len h
    have hw : nfa_walk.f sts s f l sym = some (walkF sts l sym) := by
      unfold nfa_walk.f;rw [if_pos ⟨by omega, hl⟩]
    simp only [hw, Option.bind_some];exact EV.bind (list_eq _ (by rw [walkF_len]; omega)) EV.const
  · simp only [if_neg h];exact EV.const
end Go.Proofs.YtfjemaeidmikmaaDoorQ
end
section
set_option linter.unusedVariables false
set_option linter.unusedSimpArgs false
namespace Go.Proofs.YtfjemaeidmikmaaDoorQ
open Go.RowKit Go.Proofs.YtfjemaeidmikmaaDoorW.PrintWords Go.Proofs.YtfjemaeidmikmaaDoorW.PrintLast Go.Proofs.YtfjemaeidmikmaaDoor
def Bld (w : World) (p : Nat) (L : Value) (sts : List St) : Prop := ∃ A c, w.heap[p]? = some (.cells #[L, .slice A sts.length c] 77 (0, 0)) ∧ w.ownsRow (p + 1) 64 7 (.slice A sts.length c) sts.length (sts.flatMap stCells)
theorem Bld.lt {w : World} {p : Nat} {L : Value} {sts : List St} (h : Bld w p L sts) : p < w.heap.size := by
  obtain ⟨A, c, h, _⟩ := h;exact (Array.getElem?_eq_some_iff.1 h).1
theorem row2 {w : World} {p t : Nat} {u v : Value} (h : w.heap[p]? = some (.cells #[u, v] t (0, 0))) : w.cell? ⟨p, 0, none⟩ = some u ∧ w.cell? ⟨p, 1, none⟩ = some v ∧ w.frozen? ⟨p, 0, none⟩ = false ∧ w.frozen? ⟨p, 1, none⟩ = false :=
  ⟨by rw [cell_of_row w p 0 _ t _ h]; rfl, by rw [cell_of_row w p 1 _ t _ h]; rfl, frozen_of_row w p 0 _ t h, frozen_of_row w p 1 _ t h⟩
theorem Bld.alloc {w : World} {p : Nat} {L : Value} {sts : List St} (h : Bld w p L sts) (o : Obj) : Bld (w.alloc o) p L sts := by
  have hp := h.lt;obtain ⟨A, c, h1, h2⟩ := h;exact ⟨A, c, (((Below.refl (p + 1) w).alloc (by omega) o).block p (by omega)).trans h1, h2.alloc _⟩
theorem Bld.below {w w1 : World} {p B : Nat} {L : Value} {sts : List St} (h : Bld w p L sts) (hB : w.heap.size ≤ B) (hb : Below B w w1) : Bld w1 p L sts := by
  have hp := h.lt;obtain ⟨A, c, h1, h2⟩ := h;exact ⟨A, c, (hb.block p (by omega)).trans h1, Go.Proofs.YtfjemaeidmikmaaDoor.own_below h2 (hb.mono hB)⟩
theorem flat_set {α : Type} (f : α → List Value) (size : Nat) (hf : ∀ x, (f x).length = size) (j : Nat) (hj : j < size) (u : Value) : ∀ (l : List α) (k : Nat) (x y : α), l[k]? = some x → f y = (f x).set j u → (l.flatMap f).set (k * size + j) u = (l.set k y).flatMap f
  | [], k, x, y, h, _ => by simp at h
  | z :: l, 0, x, y, h, hy => by
    obtain rfl : z = x := by simpa using h
    rw [List.flatMap_cons, List.set_cons_zero, List.flatMap_cons, Nat.zero_mul, Nat.zero_add, List.set_append_left _ _ (by rw [hf]; exact hj), hy]
  | z :: l, k + 1, x, y, h, hy => by
    have ih := flat_set f size hf j hj u l k x y (by simpa using h) hy
    rw [List.flatMap_cons, List.set_cons_succ, List.flatMap_cons, List.set_append_right _ _ (by rw [hf, Nat.succ_mul]; omega), hf, show (k + 1) * size + j - size = k * size + j by rw [Nat.succ_mul]; omega, ih]
def putA (sts : List St) (k : Nat) (a : Int) : List St := match sts[k]? with
  | some x => sts.set k ⟨x.f0, a, x.f2, x.f3⟩
  | none => sts
theorem putA_len (sts : List St) (k : Nat) (a : Int) : (putA sts k a).length = sts.length := by
  unfold putA;split <;> simp
end Go.Proofs.YtfjemaeidmikmaaDoorQ
end
section
set_option linter.unusedVariables false
set_option linter.unusedSimpArgs false
namespace Go.Proofs.YtfjemaeidmikmaaDoorQ
open Go.RowKit Go.Proofs.YtfjemaeidmikmaaDoorW.PrintWords Go.Proofs.YtfjemaeidmikmaaDoorW.PrintLast Go.Proofs.Bs
def wfSt (st : St) : Prop := wfI st.f3.f0 st.f3.f1 st.f3.f2 st.f3.f3
def hasSt (st : St) (b : Int) : Bool := has (setI st.f3.f0 st.f3.f1 st.f3.f2 st.f3.f3) b.toNat
def wfSts (sts : List St) : Prop := ∀ i : Int, 0 ≤ i → i < sts.length → wfSt (rd_T64 sts i)
def stepOne (sts : List St) (b s : Int) : List Int := if 0 ≤ s ∧ s < sts.length ∧ (rd_T64 sts s).f0 = 1 ∧ hasSt (rd_T64 sts s) b = true then [(rd_T64 sts s).f1] else []
theorem stepOne_le (sts : List St) (b s : Int) : (stepOne sts b s).length ≤ 1 := by unfold stepOne; split <;> simp
theorem step_l0 (sts : List St) (s f b : Int) (l : List Int) (hl : l.length ≤ 1000000) (hn : sts.length ≤ 600) (hw : wfSts sts) (hb : 0 ≤ b ∧ b < 256) : ∀ (d i : Nat) (acc : List Int), l.length - i = d → i ≤ l.length → acc.length ≤ i →
    EV (fun k => nfa_Step.l0 k b acc l (l.length : Int) (i : Int) sts s f) (listN (walkF sts (acc ++ (l.drop i).flatMap (stepOne sts b)) 0)) := by
  intro d
  induction d with
  | zero =>
    intro i acc hd hi ha
    have hE : ∀ k, nfa_Step.l0 (k + 1) b acc l (l.length : Int) (i : Int) sts s f = (nfa_list.f k (walkF sts acc 0)).bind fun t => some t := by
      intro k;simp only [nfa_Step.l0];rw [if_neg (by omega)];unfold nfa_walk.f;rw [if_pos ⟨by omega, by omega⟩];rfl
    refine (EV.step (EV.bind (list_eq _ (by rw [walkF_len]; omega)) EV.const) hE).cast ?_;rw [List.drop_eq_nil_of_le (by omega)];simp
  | succ d ih =>
    intro i acc hd hi ha
    have hcons : l.drop i = rd l (i : Int) :: l.drop (i + 1) := by
      rw [List.drop_eq_getElem_cons (by omega)];simp [rd, List.getD_eq_getElem?_getD, List.getElem?_eq_getElem (show i < l.length by omega)]
    have h1 := stepOne_le sts b (rd l (i : Int));refine (EV.step (ih (i + 1) (acc ++ stepOne sts b (rd l (i : Int))) (by omega) (by omega) (by simp; omega)) fun k => ?_).cast (by rw [hcons]; simp);simp only [nfa_Step.l0];rw [if_pos (by omega), if_pos (by omega), if_pos (by omega), wrap_in (by omega) (by omega)];generalize rd l (i : Int) = x;unfold stepOne;by_cases c0 : 0 ≤ x
    · by_cases c1 : x < (sts.length : Int)
      · by_cases c2 : (rd_T64 sts x).f0 = 1
        · have hH : byteset_Has.f (rd_T64 sts x).f3.f0 (rd_T64 sts x).f3.f1 (rd_T64 sts x).f3.f2 (rd_T64 sts x).f3.f3 b = some (hasSt (rd_T64 sts x) b) := by
            unfold byteset_Has.f;rw [if_pos ⟨hw x c0 c1, hb⟩];rfl
          rw [if_pos (by omega), if_pos c1, if_pos c0, if_pos c2, hH, Option.bind_some];cases hasSt (rd_T64 sts x) b
          · simp
          · rw [if_pos rfl, if_pos (by omega), if_pos ⟨c0, c1, c2, rfl⟩];rfl
        · rw [if_pos (by omega), if_pos c1, if_pos c0, if_neg c2, if_neg (fun h => c2 h.2.2.1)];simp
      · rw [if_pos (by omega), if_neg c1, if_neg (fun h => c1 h.2.1)];simp
    · rw [if_neg (by omega), if_neg (fun h => c0 h.1)];simp
def stepN (sts : List St) (s f : Int) (l : List Int) (b : Int) : List Int := if rightN sts s f = true then listN (walkF sts (l.flatMap (stepOne sts b)) 0) else []
theorem step_eq (sts : List St) (s f b : Int) (l : List Int) (hl : l.length ≤ 1000000) (hw : wfSts sts) (hb : 0 ≤ b ∧ b < 256) : EV (fun k => nfa_Step.f k sts s f l b) (stepN sts s f l b) := by
  unfold nfa_Step.f stepN;refine EV.bind (right_eq sts s f) ?_;by_cases h : rightN sts s f = true
  · simp only [if_pos h];exact (step_l0 sts s f b l hl (rightN_len h) hw hb l.length 0 [] (by omega) (by omega) (by simp)).cast (by simp)
  · simp only [if_neg h];exact EV.const
end Go.Proofs.YtfjemaeidmikmaaDoorQ
end
section
set_option linter.unusedVariables false
set_option linter.unusedSimpArgs false
namespace Go.Proofs.YtfjemaeidmikmaaDoorQ
open Go.RowKit Go.Proofs.YtfjemaeidmikmaaDoorW.PrintWords Go.Proofs.YtfjemaeidmikmaaDoorW.PrintLast
theorem up_w {i : Nat} (h : i ≤ 1000000000) : wrap64 ((i : Int) + 1) = ((i + 1 : Nat) : Int) := by rw [wrap_in (by omega) (by omega)]; omega
theorem rd_at (l : List Int) (i : Nat) (h : i < l.length) : rd l (i : Int) = l[i] := by
  unfold rd;rw [Int.toNat_natCast, List.getD_eq_getElem?_getD, List.getElem?_eq_getElem h];rfl
theorem take_one (l : List Int) (i : Nat) (h : i < l.length) : l.take (i + 1) = l.take i ++ [l[i]] := by
  rw [List.take_add_one, List.getElem?_eq_getElem h];rfl
theorem afirsts_l1 (l : List Int) (hl : l.length ≤ 1000000) (m : Nat) : ∀ d i : Nat, l.length - i = d → i ≤ l.length → EV (fun k => alpha_Firsts.l1 k (Al.firstsRow m (l.take i)) l (l.length : Int) (i : Int)) (Al.firstsRow m l) := by
  intro d
  induction d with
  | zero =>
    intro i hd hi;have e : l.take i = l := List.take_of_length_le (by omega);rw [e];(refine EV.stop fun k => ?_);simp only [alpha_Firsts.l1];rw [if_neg (by omega)]
  | succ d ih =>
    intro i hd hi;(have hlt : i < l.length := by omega);have hh := ih (i + 1) (by omega) (by omega);have hlen : (Al.firstsRow m (l.take i)).length = m := Al.firstsRow_len _ _;(refine EV.step hh fun k => ?_);simp only [alpha_Firsts.l1];rw [if_pos (by omega), if_pos (by omega), if_pos (by omega), rd_at l i hlt, up_w (by omega), take_one l i hlt];by_cases h0 : l[i] ≥ 0
    · rw [if_pos h0];by_cases h1 : l[i] < ((Al.firstsRow m (l.take i)).length : Int)
      · rw [if_pos h1, if_pos (by omega)];obtain ⟨c, hc⟩ : ∃ c : Nat, l[i] = (c : Int) := ⟨l[i].toNat, by omega⟩;rw [hc] at h1 ⊢;rw [hlen] at h1
        have hr : rd (Al.firstsRow m (l.take i)) (c : Int) = Al.firstAt (l.take i) c := by
          unfold rd;rw [Int.toNat_natCast];exact Al.firstsRow_get m _ c (by omega)
        rw [hr];by_cases h2 : Al.firstAt (l.take i) c < 0
        · rw [if_pos h2, Al.firstsRow_set m _ c ((Al.firstAt_neg _ _).1 h2), Int.toNat_natCast, List.length_take, Nat.min_eq_left (by omega)]
        · rw [if_neg h2, Al.firstsRow_same m _ _ (.inr (.inr (Classical.byContradiction fun h => h2 ((Al.firstAt_neg _ _).2 h))))]
      · rw [if_neg h1, Al.firstsRow_same m _ _ (.inr (.inl (by rw [hlen] at h1; omega)))]
    · rw [if_neg h0, Al.firstsRow_same m _ _ (.inl (by omega))]
theorem afirsts_ev (l : List Int) (hl : l.length ≤ 1000000) (a : Int) (ha : 0 ≤ a) : EV (fun k => alpha_Firsts.f k l a) (Al.firstsRow (min a.toNat 259) l) := by
  unfold alpha_Firsts.f;(have hm : mn a 259 = ((min a.toNat 259 : Nat) : Int) := by unfold mn; omega);rw [hm];generalize hM : min a.toNat 259 = m;(have hm2 : m ≤ 259 := by omega);have h1 := afirsts_l1 l hl m l.length 0 (by omega) (by omega);rw [show Al.firstsRow m (l.take 0) = List.replicate m (-1) from Al.firstsRow_nil m] at h1
  have h0 : ∀ d i : Nat, m - i = d → i ≤ m → EV (fun k => alpha_Firsts.l0 k l (List.replicate i (-1)) (m : Int) (i : Int)) (Al.firstsRow m l) := by
    intro d
    induction d with
    | zero =>
      intro i hd hi;(obtain rfl : i = m := by omega);(refine EV.step h1 fun k => ?_);simp only [alpha_Firsts.l0];rw [if_neg (by omega)];rfl
    | succ d ih =>
      intro i hd hi;(refine EV.step (ih (i + 1) (by omega) (by omega)) fun k => ?_);simp only [alpha_Firsts.l0];rw [if_pos (by omega), if_pos (by rw [List.length_replicate]; omega), up_w (by omega), ← List.replicate_succ']
  exact h0 m 0 (by omega) (by omega)
end Go.Proofs.YtfjemaeidmikmaaDoorQ
end
section
set_option linter.unusedVariables false
set_option linter.unusedSimpArgs false
namespace Go.Proofs.YtfjemaeidmikmaaDoorQ
open Go.RowKit Go.Proofs.YtfjemaeidmikmaaDoorW.PrintWords Go.Proofs.YtfjemaeidmikmaaDoorW.PrintLast Go.Proofs.Bs
def ofStep (n : Nat) (acc : List Bool) (s : Int) : List Bool := if 0 ≤ s ∧ s < n then acc.set s.toNat true else acc
def ofN (n : Nat) (l : List Int) : List Bool := l.foldl (ofStep n) (List.replicate n false)
end Go.Proofs.YtfjemaeidmikmaaDoorQ
end
section
set_option linter.unusedVariables false
set_option linter.unusedSimpArgs false
namespace Go.Proofs.YtfjemaeidmikmaaDoorQ
open Go.RowKit Go.Proofs.YtfjemaeidmikmaaDoorW.PrintWords Go.Proofs.YtfjemaeidmikmaaDoorW.PrintLast Go.Proofs.Bs
abbrev stAt (sts : List St) (i : Nat) : St := rd_T64 sts (i : Int)
def edge (sts : List St) (sym : Int) (i j : Nat) : Bool := (goesA (stAt sts i) sym && decide ((j : Int) = (stAt sts i).f1)) || (decide ((stAt sts i).f0 = 3) && decide ((j : Int) = (stAt sts i).f2))
def tab (n : Nat) (p : Nat → Bool) : List Bool := (List.range n).map p
def pOf (l : List Bool) (j : Nat) : Bool := rdOf false l (j : Int)
theorem tab_len (n : Nat) (p : Nat → Bool) : (tab n p).length = n := by simp [tab]
theorem tab_at (n : Nat) (p : Nat → Bool) (j : Nat) (h : j < n) : rdOf false (tab n p) (j : Int) = p j := by
  simp [tab, rdOf, List.getD_eq_getElem?_getD, List.getElem?_map, List.getElem?_range h]
theorem tab_ext {n : Nat} {p q : Nat → Bool} (h : ∀ j, j < n → p j = q j) : tab n p = tab n q := by
  unfold tab;apply List.map_congr_left;intro j hj;exact h j (List.mem_range.1 hj)
theorem tab_pOf (l : List Bool) : tab l.length (pOf l) = l := by
  apply List.ext_getElem?;intro j;by_cases hj : j < l.length
  · simp [tab, pOf, rdOf, hj, List.getD_eq_getElem?_getD]
  · simp [tab, hj]
def okSts (sts : List St) : Prop := ∀ i : Nat, i < sts.length → (0 ≤ (stAt sts i).f1 ∧ (stAt sts i).f1 < sts.length) ∧ 0 ≤ (stAt sts i).f2 ∧ (stAt sts i).f2 < sts.length
theorem okSts_of {sts : List St} {s f : Int} (h : rightN sts s f = true) : okSts sts := by
  unfold rightN at h;rw [Bool.and_eq_true] at h;have h2 := (rightAt_iff sts f _ _).1 h.2;intro i hi;have h3 := (h2 i (by omega) (by omega)).1;unfold fieldsN at h3;rw [decide_eq_true_eq] at h3;exact ⟨h3.2.2.2.2.2.1, h3.2.2.2.2.2.2⟩
def closeR (sts : List St) (sym : Int) (l : List Bool) : List Bool := tab sts.length (Nf.turns sts.length (edge sts sym) sts.length (pOf l))
theorem closeR_len (sts : List St) (sym : Int) (l : List Bool) : (closeR sts sym l).length = sts.length := tab_len _ _
def toP (sts : List St) (b : Int) (p : Nat → Bool) : Nat → Nat → Bool
  | 0 => fun _ => false
  | i + 1 => fun j => toP sts b p i j || (p i && (decide ((stAt sts i).f0 = 1) && (hasSt (stAt sts i) b && decide ((j : Int) = (stAt sts i).f1))))
def stepR (sts : List St) (b : Int) (l : List Bool) : List Bool := closeR sts 0 (tab sts.length (toP sts b (pOf l) sts.length))
end Go.Proofs.YtfjemaeidmikmaaDoorQ
end
