/- Several short texts of this proof, one behind the other. -/
import Derived.Test.YtibabfgfahlekaaHCore
import Derived.Test.YtibabfgfahlekaaHQ0
import Derived.Test.YtibabfgfahlekaaHNfImpl
import Derived.Test.YtibabfgfahlekaaHM4
import Derived.Deep.RegionLaw
import Derived.Test.YtibabfgfahlekaaHM3
import Derived.Test.YtibabfgfahlekaaHNfPure
section
/- Pruned from its seat's text: what the theorem hangs on. -/
/- The builder of automata: its small methods, walked. -/
set_option linter.unusedVariables false
set_option linter.unusedSimpArgs false
namespace Go.Proofs.YtibabfgfahlekaaQ
open Go.RowKit Go.Proofs.YtibabfgfahlekaaW.PrintWords Go.Proofs.YtibabfgfahlekaaW.PrintLast Go.Proofs.Ytibabfgfahlekaa

/-- The builder at block p: its tree, and the states so far, which lie behind it. -/
def Bld (w : World) (p : Nat) (L : Value) (sts : List St) : Prop := ∃ A c, w.heap[p]? = some (.cells #[L, .slice A sts.length c] 75 (0, 0)) ∧ w.ownsRow (p + 1) 72 7 (.slice A sts.length c) sts.length (sts.flatMap stCells)
theorem Bld.lt {w : World} {p : Nat} {L : Value} {sts : List St} (h : Bld w p L sts) : p < w.heap.size := by
  obtain ⟨A, c, h, _⟩ := h
  exact (Array.getElem?_eq_some_iff.1 h).1
theorem row2 {w : World} {p t : Nat} {u v : Value} (h : w.heap[p]? = some (.cells #[u, v] t (0, 0))) : w.cell? ⟨p, 0, none⟩ = some u ∧ w.cell? ⟨p, 1, none⟩ = some v ∧ w.frozen? ⟨p, 0, none⟩ = false ∧ w.frozen? ⟨p, 1, none⟩ = false :=
  ⟨by rw [cell_of_row w p 0 _ t _ h]; rfl, by rw [cell_of_row w p 1 _ t _ h]; rfl, frozen_of_row w p 0 _ t h, frozen_of_row w p 1 _ t h⟩
theorem Bld.alloc {w : World} {p : Nat} {L : Value} {sts : List St} (h : Bld w p L sts) (o : Obj) : Bld (w.alloc o) p L sts := by
  have hp := h.lt
  obtain ⟨A, c, h1, h2⟩ := h
  exact ⟨A, c, (((Below.refl (p + 1) w).alloc (by omega) o).block p (by omega)).trans h1, h2.alloc _⟩
theorem Bld.below {w w1 : World} {p B : Nat} {L : Value} {sts : List St} (h : Bld w p L sts) (hB : w.heap.size ≤ B) (hb : Below B w w1) : Bld w1 p L sts := by
  have hp := h.lt
  obtain ⟨A, c, h1, h2⟩ := h
  exact ⟨A, c, (hb.block p (by omega)).trans h1, Go.Proofs.Ytibabfgfahlekaa.own_below h2 (hb.mono hB)⟩
theorem flat_set {α : Type} (f : α → List Value) (size : Nat) (hf : ∀ x, (f x).length = size) (j : Nat) (hj : j < size) (u : Value) : ∀ (l : List α) (k : Nat) (x y : α), l[k]? = some x → f y = (f x).set j u → (l.flatMap f).set (k * size + j) u = (l.set k y).flatMap f
  | [], k, x, y, h, _ => by simp at h
  | z :: l, 0, x, y, h, hy => by
    obtain rfl : z = x := by simpa using h
    rw [List.flatMap_cons, List.set_cons_zero, List.flatMap_cons, Nat.zero_mul, Nat.zero_add, List.set_append_left _ _ (by rw [hf]; exact hj), hy]
  | z :: l, k + 1, x, y, h, hy => by
    have ih := flat_set f size hf j hj u l k x y (by simpa using h) hy
    rw [List.flatMap_cons, List.set_cons_succ, List.flatMap_cons, List.set_append_right _ _ (by rw [hf, Nat.succ_mul]; omega), hf, show (k + 1) * size + j - size = k * size + j by rw [Nat.succ_mul]; omega, ih]
def putA (sts : List St) (k : Nat) (a : Int) : List St := match sts[k]? with
  | some x => sts.set k ⟨x.f0, a, x.f2, x.f3⟩
  | none => sts
theorem putA_len (sts : List St) (k : Nat) (a : Int) : (putA sts k a).length = sts.length := by
  unfold putA
  split <;> simp
end Go.Proofs.YtibabfgfahlekaaQ
end
section
/- Pruned from its seat's text: what the theorem hangs on. -/
/- Plain: what the printed functions of package nfa and of the document's chapter 9 compute. -/
set_option linter.unusedVariables false
set_option linter.unusedSimpArgs false
namespace Go.Proofs.YtibabfgfahlekaaQ
open Go.RowKit Go.Proofs.YtibabfgfahlekaaW.PrintWords Go.Proofs.YtibabfgfahlekaaW.PrintLast Go.Proofs.Bs

def wfSt (st : St) : Prop := wfI st.f3.f0 st.f3.f1 st.f3.f2 st.f3.f3
def hasSt (st : St) (b : Int) : Bool := has (setI st.f3.f0 st.f3.f1 st.f3.f2 st.f3.f3) b.toNat
def wfSts (sts : List St) : Prop := ∀ i : Int, 0 ≤ i → i < sts.length → wfSt (rd_T72 sts i)
def stepOne (sts : List St) (b s : Int) : List Int := if 0 ≤ s ∧ s < sts.length ∧ (rd_T72 sts s).f0 = 1 ∧ hasSt (rd_T72 sts s) b = true then [(rd_T72 sts s).f1] else []
theorem stepOne_le (sts : List St) (b s : Int) : (stepOne sts b s).length ≤ 1 := by unfold stepOne; split <;> simp
theorem step_l0 (sts : List St) (s f b : Int) (l : List Int) (hl : l.length ≤ 1000000) (hn : sts.length ≤ 600) (hw : wfSts sts) (hb : 0 ≤ b ∧ b < 256) : ∀ (d i : Nat) (acc : List Int), l.length - i = d → i ≤ l.length → acc.length ≤ i →
    EV (fun k => nfa_Step.l0 k b acc l (l.length : Int) (i : Int) sts s f) (listN (walkF sts (acc ++ (l.drop i).flatMap (stepOne sts b)) 0)) := by
  intro d
  induction d with
  | zero =>
    intro i acc hd hi ha
    have hE : ∀ k, nfa_Step.l0 (k + 1) b acc l (l.length : Int) (i : Int) sts s f = (nfa_list.f k (walkF sts acc 0)).bind fun t => some t := by
      intro k
      simp only [nfa_Step.l0]
      rw [if_neg (by omega)]
      unfold nfa_walk.f
      rw [if_pos ⟨by omega, by omega⟩]
      rfl
    refine (EV.step (EV.bind (list_eq _ (by rw [walkF_len]; omega)) EV.const) hE).cast ?_
    rw [List.drop_eq_nil_of_le (by omega)]
    simp
  | succ d ih =>
    intro i acc hd hi ha
    have hcons : l.drop i = rd l (i : Int) :: l.drop (i + 1) := by
      rw [List.drop_eq_getElem_cons (by omega)]
      simp [rd, List.getD_eq_getElem?_getD, List.getElem?_eq_getElem (show i < l.length by omega)]
    have h1 := stepOne_le sts b (rd l (i : Int))
    refine (EV.step (ih (i + 1) (acc ++ stepOne sts b (rd l (i : Int))) (by omega) (by omega) (by simp; omega)) fun k => ?_).cast (by rw [hcons]; simp)
    simp only [nfa_Step.l0]
    rw [if_pos (by omega), if_pos (by omega), if_pos (by omega), wrap_in (by omega) (by omega)]
    generalize rd l (i : Int) = x
    unfold stepOne
    by_cases c0 : 0 ≤ x
    · by_cases c1 : x < (sts.length : Int)
      · by_cases c2 : (rd_T72 sts x).f0 = 1
        · have hH : byteset_Has.f (rd_T72 sts x).f3.f0 (rd_T72 sts x).f3.f1 (rd_T72 sts x).f3.f2 (rd_T72 sts x).f3.f3 b = some (hasSt (rd_T72 sts x) b) := by
            unfold byteset_Has.f
            rw [if_pos ⟨hw x c0 c1, hb⟩]
            rfl
          rw [if_pos (by omega), if_pos c1, if_pos c0, if_pos c2, hH, Option.bind_some]
          cases hasSt (rd_T72 sts x) b
          · simp
          · rw [if_pos rfl, if_pos (by omega), if_pos ⟨c0, c1, c2, rfl⟩]
            rfl
        · rw [if_pos (by omega), if_pos c1, if_pos c0, if_neg c2, if_neg (fun h => c2 h.2.2.1)]
          simp
      · rw [if_pos (by omega), if_neg c1, if_neg (fun h => c1 h.2.1)]
        simp
    · rw [if_neg (by omega), if_neg (fun h => c0 h.1)]
      simp
def stepN (sts : List St) (s f : Int) (l : List Int) (b : Int) : List Int := if rightN sts s f = true then listN (walkF sts (l.flatMap (stepOne sts b)) 0) else []
theorem step_eq (sts : List St) (s f b : Int) (l : List Int) (hl : l.length ≤ 1000000) (hw : wfSts sts) (hb : 0 ≤ b ∧ b < 256) : EV (fun k => nfa_Step.f k sts s f l b) (stepN sts s f l b) := by
  unfold nfa_Step.f stepN
  refine EV.bind (right_eq sts s f) ?_
  by_cases h : rightN sts s f = true
  · simp only [if_pos h]
    exact (step_l0 sts s f b l hl (rightN_len h) hw hb l.length 0 [] (by omega) (by omega) (by simp)).cast (by simp)
  · simp only [if_neg h]
    exact EV.const

end Go.Proofs.YtibabfgfahlekaaQ
end
section
/- Pruned from its seat's text: what the theorem hangs on. -/
/- Plain: what the printed functions of the document's chapter 9 compute: Told, Of. -/
set_option linter.unusedVariables false
set_option linter.unusedSimpArgs false
namespace Go.Proofs.YtibabfgfahlekaaQ
open Go.RowKit Go.Proofs.YtibabfgfahlekaaW.PrintWords Go.Proofs.YtibabfgfahlekaaW.PrintLast Go.Proofs.Bs

def ofStep (n : Nat) (acc : List Bool) (s : Int) : List Bool := if 0 ≤ s ∧ s < n then acc.set s.toNat true else acc
def ofN (n : Nat) (l : List Int) : List Bool := l.foldl (ofStep n) (List.replicate n false)
end Go.Proofs.YtibabfgfahlekaaQ
end
section
/- Pruned from its seat's text: what the theorem hangs on. -/
/- Plain: what the printed functions of the document's chapter 9 compute: Close, Step. -/
set_option linter.unusedVariables false
set_option linter.unusedSimpArgs false
namespace Go.Proofs.YtibabfgfahlekaaQ
open Go.RowKit Go.Proofs.YtibabfgfahlekaaW.PrintWords Go.Proofs.YtibabfgfahlekaaW.PrintLast Go.Proofs.Bs

abbrev stAt (sts : List St) (i : Nat) : St := rd_T72 sts (i : Int)
def edge (sts : List St) (sym : Int) (i j : Nat) : Bool := (goesA (stAt sts i) sym && decide ((j : Int) = (stAt sts i).f1)) || (decide ((stAt sts i).f0 = 3) && decide ((j : Int) = (stAt sts i).f2))
def tab (n : Nat) (p : Nat → Bool) : List Bool := (List.range n).map p
def pOf (l : List Bool) (j : Nat) : Bool := rdOf false l (j : Int)
theorem tab_len (n : Nat) (p : Nat → Bool) : (tab n p).length = n := by simp [tab]
theorem tab_at (n : Nat) (p : Nat → Bool) (j : Nat) (h : j < n) : rdOf false (tab n p) (j : Int) = p j := by
  simp [tab, rdOf, List.getD_eq_getElem?_getD, List.getElem?_map, List.getElem?_range h]
theorem tab_ext {n : Nat} {p q : Nat → Bool} (h : ∀ j, j < n → p j = q j) : tab n p = tab n q := by
  unfold tab
  apply List.map_congr_left
  intro j hj
  exact h j (List.mem_range.1 hj)
theorem tab_pOf (l : List Bool) : tab l.length (pOf l) = l := by
  apply List.ext_getElem?
  intro j
  by_cases hj : j < l.length
  · simp [tab, pOf, rdOf, hj, List.getD_eq_getElem?_getD]
  · simp [tab, hj]
def okSts (sts : List St) : Prop := ∀ i : Nat, i < sts.length → (0 ≤ (stAt sts i).f1 ∧ (stAt sts i).f1 < sts.length) ∧ 0 ≤ (stAt sts i).f2 ∧ (stAt sts i).f2 < sts.length
theorem okSts_of {sts : List St} {s f : Int} (h : rightN sts s f = true) : okSts sts := by
  unfold rightN at h
  rw [Bool.and_eq_true] at h
  have h2 := (rightAt_iff sts f _ _).1 h.2
  intro i hi
  have h3 := (h2 i (by omega) (by omega)).1
  unfold fieldsN at h3
  rw [decide_eq_true_eq] at h3
  exact ⟨h3.2.2.2.2.2.1, h3.2.2.2.2.2.2⟩
def closeR (sts : List St) (sym : Int) (l : List Bool) : List Bool := tab sts.length (Nf.turns sts.length (edge sts sym) sts.length (pOf l))
theorem closeR_len (sts : List St) (sym : Int) (l : List Bool) : (closeR sts sym l).length = sts.length := tab_len _ _

/-- The states to which a byte leads, of the first so many. -/
def toP (sts : List St) (b : Int) (p : Nat → Bool) : Nat → Nat → Bool
  | 0 => fun _ => false
  | i + 1 => fun j => toP sts b p i j || (p i && (decide ((stAt sts i).f0 = 1) && (hasSt (stAt sts i) b && decide ((j : Int) = (stAt sts i).f1))))
def stepR (sts : List St) (b : Int) (l : List Bool) : List Bool := closeR sts 0 (tab sts.length (toP sts b (pOf l) sts.length))
end Go.Proofs.YtibabfgfahlekaaQ
end
