/- Several short texts of this proof, one behind the other. -/
import Derived.Test.YtfjemaeidmikmaaDoorBNfImpl
import Derived.Test.YtfjemaeidmikmaaDoorBQTattingref09Right
import Derived.Test.YtfjemaeidmikmaaDoorBM1
import Derived.Test.YtfjemaeidmikmaaDoorBM2
import Derived.Test.YtfjemaeidmikmaaDoorBM3
import Derived.Lib.SmallJoins
import Derived.Test.YtfjemaeidmikmaaDoorBQTattingref09Of
section
set_option linter.unusedVariables false
set_option linter.unusedSimpArgs false
namespace Go.Proofs.YtfjemaeidmikmaaDoorQ
open Go.RowKit Go.Proofs.YtfjemaeidmikmaaDoorW.PrintWords Go.Proofs.YtfjemaeidmikmaaDoorW.PrintLast Go.Proofs.Bs
def wfSt (st : St) : Prop := wfI st.f3.f0 st.f3.f1 st.f3.f2 st.f3.f3
def hasSt (st : St) (b : Int) : Bool := has (setI st.f3.f0 st.f3.f1 st.f3.f2 st.f3.f3) b.toNat
def wfSts (sts : List St) : Prop := ∀ i : Int, 0 ≤ i → i < sts.length → wfSt (rd_T64 sts i)
def stepOne (sts : List St) (b s : Int) : List Int := if 0 ≤ s ∧ s < sts.length ∧ (rd_T64 sts s).f0 = 1 ∧ hasSt (rd_T64 sts s) b = true then [(rd_T64 sts s).f1] else []
theorem stepOne_le (sts : List St) (b s : Int) : (stepOne sts b s).length ≤ 1 := by unfold stepOne; split <;> simp
theorem step_l0 (sts : List St) (s f b : Int) (l : List Int) (hl : l.length ≤ 1000000) (hn : sts.length ≤ 600) (hw : wfSts sts) (hb : 0 ≤ b ∧ b < 256) : ∀ (d i : Nat) (acc : List Int), l.length - i = d → i ≤ l.length → acc.length ≤ i →
    EV (fun k => nfa_Step.l0 k b acc l (l.length : Int) (i : Int) sts s f) (listN (walkF sts (acc ++ (l.drop i).flatMap (stepOne sts b)) 0)) := by
  intro d
  induction d with
  | zero =>
    intro i acc hd hi ha
    have hE : ∀ k, nfa_Step.l0 (k + 1) b acc l (l.length : Int) (i : Int) sts s f = (nfa_list.f k (walkF sts acc 0)).bind fun t => some t := by
      intro k
      simp only [nfa_Step.l0]
      rw [if_neg (by omega)]
      unfold nfa_walk.f
      rw [if_pos ⟨by omega, by omega⟩]
      rfl
    refine (EV.step (EV.bind (list_eq _ (by rw [walkF_len]; omega)) EV.const) hE).cast ?_
    rw [List.drop_eq_nil_of_le (by omega)]
    simp
  | succ d ih =>
    intro i acc hd hi ha
    have hcons : l.drop i = rd l (i : Int) :: l.drop (i + 1) := by
      rw [List.drop_eq_getElem_cons (by omega)]
      simp [rd, List.getD_eq_getElem?_getD, List.getElem?_eq_getElem (show i < l.length by omega)]
    have h1 := stepOne_le sts b (rd l (i : Int))
    refine (EV.step (ih (i + 1) (acc ++ stepOne sts b (rd l (i : Int))) (by omega) (by omega) (by simp; omega)) fun k => ?_).cast (by rw [hcons]; simp)
    simp only [nfa_Step.l0]
    rw [if_pos (by omega), if_pos (by omega), if_pos (by omega), wrap_in (by omega) (by omega)]
    generalize rd l (i : Int) = x
    unfold stepOne
    by_cases c0 : 0 ≤ x
    · by_cases c1 : x < (sts.length : Int)
      · by_cases c2 : (rd_T64 sts x).f0 = 1
        · have hH : byteset_Has.f (rd_T64 sts x).f3.f0 (rd_T64 sts x).f3.f1 (rd_T64 sts x).f3.f2 (rd_T64 sts x).f3.f3 b = some (hasSt (rd_T64 sts x) b) := by
            unfold byteset_Has.f
            rw [if_pos ⟨hw x c0 c1, hb⟩]
            rfl
          rw [if_pos (by omega), if_pos c1, if_pos c0, if_pos c2, hH, Option.bind_some]
          cases hasSt (rd_T64 sts x) b
          · simp
          · rw [if_pos rfl, if_pos (by omega), if_pos ⟨c0, c1, c2, rfl⟩]
            rfl
        · rw [if_pos (by omega), if_pos c1, if_pos c0, if_neg c2, if_neg (fun h => c2 h.2.2.1)]
          simp
      · rw [if_pos (by omega), if_neg c1, if_neg (fun h => c1 h.2.1)]
        simp
    · rw [if_neg (by omega), if_neg (fun h => c0 h.1)]
      simp
def stepN (sts : List St) (s f : Int) (l : List Int) (b : Int) : List Int := if rightN sts s f = true then listN (walkF sts (l.flatMap (stepOne sts b)) 0) else []
theorem step_eq (sts : List St) (s f b : Int) (l : List Int) (hl : l.length ≤ 1000000) (hw : wfSts sts) (hb : 0 ≤ b ∧ b < 256) : EV (fun k => nfa_Step.f k sts s f l b) (stepN sts s f l b) := by
  unfold nfa_Step.f stepN
  refine EV.bind (right_eq sts s f) ?_
  by_cases h : rightN sts s f = true
  · simp only [if_pos h]
    exact (step_l0 sts s f b l hl (rightN_len h) hw hb l.length 0 [] (by omega) (by omega) (by simp)).cast (by simp)
  · simp only [if_neg h]
    exact EV.const
def badA (st : St) (m : Int) : Bool := decide (st.f0 < 1 ∨ st.f0 > 6 ∨ st.f1 < 0 ∨ st.f1 ≥ m ∨ st.f2 < 0 ∨ st.f2 ≥ m)
def goodB (st : St) : Bool := decide ((st.f0 = 1 ∨ st.f3.f0 = 0 ∧ st.f3.f1 = 0 ∧ st.f3.f2 = 0 ∧ st.f3.f3 = 0) ∧ (st.f0 = 3 ∨ st.f2 = 0) ∧ (st.f0 = 6 → st.f1 = 0))
theorem fields_two (st : St) (m : Int) : fieldsN st m = (!badA st m && goodB st) := by
  unfold fieldsN badA goodB
  rw [Bool.eq_iff_iff]
  simp only [Bool.and_eq_true, Bool.not_eq_true', decide_eq_true_eq, decide_eq_false_iff_not]
  omega
theorem j2_eq (k : Nat) (m c i : Int) (b : Bool) (sts : List St) (s f : Int) (st : St) : tattingref09_Right.j2 (k + 1) m c i b sts s f st.f0 st.f1 st.f2 st.f3.f0 st.f3.f1 st.f3.f2 st.f3.f3 =
    if b = true then some false else if goodB st = true then tattingref09_Right.l0 k m (if st.f0 = 6 then wrap64 (c + 1) else c) (wrap64 (i + 1)) sts s f else some false := by
  simp only [tattingref09_Right.j2]
  generalize tattingref09_Right.l0 k m = L
  unfold goodB
  grind
theorem rl0_eq (k : Nat) (m c i : Int) (sts : List St) (s f : Int) (h0 : 0 ≤ i) (h1 : i < m) (h2 : i < sts.length) : tattingref09_Right.l0 (k + 1) m c i sts s f =
    tattingref09_Right.j2 k m c i (badA (rd_T64 sts i) m) sts s f (rd_T64 sts i).f0 (rd_T64 sts i).f1 (rd_T64 sts i).f2 (rd_T64 sts i).f3.f0 (rd_T64 sts i).f3.f1 (rd_T64 sts i).f3.f2 (rd_T64 sts i).f3.f3 := by
  simp only [tattingref09_Right.l0]
  rw [if_pos h1, if_pos h0, if_pos h2]
  generalize rd_T64 sts i = st
  unfold badA
  by_cases a1 : st.f0 < 1
  · rw [if_pos a1, decide_eq_true (.inl a1)]
  · rw [if_neg a1]
    by_cases a2 : st.f0 > 6
    · rw [if_pos a2, decide_eq_true (.inr (.inl a2))]
    · rw [if_neg a2]
      by_cases a3 : st.f1 < 0
      · rw [if_pos a3, decide_eq_true (.inr (.inr (.inl a3)))]
      · rw [if_neg a3]
        by_cases a4 : st.f1 ≥ m
        · rw [if_pos a4, decide_eq_true (.inr (.inr (.inr (.inl a4))))]
        · rw [if_neg a4]
          by_cases a5 : st.f2 < 0
          · rw [if_pos a5, decide_eq_true (.inr (.inr (.inr (.inr (.inl a5)))))]
          · rw [if_neg a5]
            congr 1
            rw [Bool.eq_iff_iff]
            simp only [decide_eq_true_eq]
            omega
end Go.Proofs.YtfjemaeidmikmaaDoorQ
end
section
set_option linter.unusedVariables false
set_option linter.unusedSimpArgs false
namespace Go.Proofs.YtfjemaeidmikmaaDoorQ
open Go.RowKit Go.Proofs.YtfjemaeidmikmaaDoorW.PrintWords Go.Proofs.YtfjemaeidmikmaaDoorW.PrintLast Go.Proofs.Bs
def is6 (sts : List St) (j : Nat) : Bool := decide ((rd_T64 sts (j : Int)).f0 = 6)
def allF (sts : List St) : Nat → Nat → Bool
  | 0, _ => true
  | d + 1, i => fieldsN (rd_T64 sts (i : Int)) sts.length && allF sts d (i + 1)
theorem allF_iff (sts : List St) : ∀ d i : Nat, allF sts d i = true ↔ ∀ j : Nat, i ≤ j → j < i + d → fieldsN (rd_T64 sts j) sts.length = true := by
  intro d
  induction d with
  | zero => intro i; exact ⟨fun _ j h1 h2 => by omega, fun _ => rfl⟩
  | succ d ih =>
    intro i
    simp only [allF, Bool.and_eq_true, ih]
    constructor
    · rintro ⟨h1, h2⟩ j h3 h4
      by_cases e : j = i
      · subst e; exact h1
      · exact h2 j (by omega) (by omega)
    · intro h
      exact ⟨h i (by omega) (by omega), fun j h1 h2 => h j (by omega) (by omega)⟩
theorem rright_l0 (sts : List St) (s f : Int) (hl : sts.length ≤ 600) (hf : 0 ≤ f ∧ f < sts.length) : ∀ d i : Nat, sts.length - i = d → i ≤ sts.length →
    EV (fun k => tattingref09_Right.l0 k (sts.length : Int) (Nf.count (is6 sts) i : Nat) (i : Int) sts s f) (allF sts d i && (decide (Nf.count (is6 sts) sts.length = 1) && ((rd_T64 sts f).f0 == 6))) := by
  intro d
  induction d with
  | zero =>
    intro i hd hi
    obtain rfl : i = sts.length := by omega
    refine EV.stop fun k => ?_
    simp only [tattingref09_Right.l0]
    rw [if_neg (by omega)]
    by_cases h : Nf.count (is6 sts) sts.length = 1
    · rw [if_pos (by omega), if_pos hf.1, if_pos hf.2, decide_eq_true h]
      simp [allF]
    · rw [if_neg (by omega), decide_eq_false h]
      simp
  | succ d ih =>
    intro i hd hi
    have hc := Nf.count_le (is6 sts) i
    have ih := ih (i + 1) (by omega) (by omega)
    have hE : ∀ k, tattingref09_Right.l0 (k + 1 + 1) (sts.length : Int) (Nf.count (is6 sts) i : Nat) (i : Int) sts s f =
        if fieldsN (rd_T64 sts i) sts.length = true then tattingref09_Right.l0 k (sts.length : Int) (Nf.count (is6 sts) (i + 1) : Nat) ((i + 1 : Nat) : Int) sts s f else some false := by
      intro k
      rw [rl0_eq _ _ _ _ _ _ _ (by omega) (by omega) (by omega), j2_eq, fields_two]
      cases badA (rd_T64 sts i) sts.length
      · cases goodB (rd_T64 sts i)
        · rfl
        · simp only [Bool.false_eq_true, if_false, if_true, Bool.not_false, Bool.and_true]
          congr 1
          · rw [show Nf.count (is6 sts) (i + 1) = Nf.count (is6 sts) i + (if is6 sts i = true then 1 else 0) from rfl]
            by_cases h6 : (rd_T64 sts (i : Int)).f0 = 6
            · rw [if_pos h6, if_pos (show is6 sts i = true from decide_eq_true h6), wrap_in (by omega) (by omega)]
              rfl
            · rw [if_neg h6, if_neg (show ¬ is6 sts i = true from by unfold is6; simp [h6])]
              rfl
          · rw [wrap_in (by omega) (by omega)]; rfl
      · rfl
    refine EV.succ (EV.succ (EV.congr hE ?_))
    simp only [allF]
    cases fieldsN (rd_T64 sts i) sts.length
    · exact EV.const
    · exact ih
theorem count_single (f n : Nat) (p : Nat → Bool) (h : ∀ j, j < n → (p j = true ↔ j = f)) : Nf.count p n = if f < n then 1 else 0 := by
  induction n with
  | zero => rfl
  | succ n ih =>
    have h1 := ih fun j hj => h j (by omega)
    have h2 := h n (by omega)
    unfold Nf.count
    rw [h1]
    by_cases e : n = f
    · subst e
      rw [if_neg (by omega), if_pos (h2.2 rfl), if_pos (by omega)]
    · rw [if_neg (fun h => e (h2.1 h))]
      by_cases e2 : f < n
      · rw [if_pos e2, if_pos (by omega)]
      · rw [if_neg e2, if_neg (by omega)]
theorem count_one {p : Nat → Bool} {n f j : Nat} (h : Nf.count p n = 1) (hf : f < n) (hj : j < n) (h1 : p f = true) (h2 : p j = true) : j = f := by
  apply Classical.byContradiction
  intro hne
  have a := Nf.count_lt (p := fun i => p i && decide (i ≠ f)) (q := p) n (fun i _ hi => by simp only [Bool.and_eq_true] at hi; exact hi.1) hf (by simp) h1
  have b := Nf.count_lt (p := fun _ => false) (q := fun i => p i && decide (i ≠ f)) n (fun _ _ h => by cases h) hj rfl (by simp [h2, hne])
  omega
theorem rights (sts : List St) (f : Int) (hf : 0 ≤ f ∧ f < sts.length) : (allF sts sts.length 0 && (decide (Nf.count (is6 sts) sts.length = 1) && ((rd_T64 sts f).f0 == 6))) = rightFrom sts f := by
  obtain ⟨F, rfl⟩ := Int.eq_ofNat_of_zero_le hf.1
  rw [Bool.eq_iff_iff]
  unfold rightFrom
  simp only [Bool.and_eq_true, decide_eq_true_eq, beq_iff_eq, rightAt_iff, allF_iff]
  constructor
  · rintro ⟨h1, h2, h3⟩ j h4 h5
    refine ⟨h1 j h4 h5, fun h6 => ?_, fun h6 => ?_⟩
    · have := count_one h2 (f := F) (j := j) (by omega) (by omega) (by unfold is6; exact decide_eq_true h3) (by unfold is6; exact decide_eq_true h6)
      omega
    · have : j = F := by omega
      subst this
      exact h3
  · intro h
    refine ⟨fun j h1 h2 => (h j h1 h2).1, ?_, (h F (by omega) (by omega)).2.2 rfl⟩
    rw [count_single F sts.length (is6 sts) (fun j hj => ?_), if_pos (by omega)]
    have := (h j (by omega) (by omega)).2
    unfold is6
    rw [decide_eq_true_eq, this]
    omega
theorem rright_j0 (sts : List St) (s f : Int) (b : Bool) (hl : b = false → sts.length ≤ 600 ∧ 0 ≤ f ∧ f < sts.length) : EV (fun k => tattingref09_Right.j0 k (sts.length : Int) b sts s f) (!b && rightFrom sts f) := by
  cases b
  · obtain ⟨h1, h2⟩ := hl rfl
    have h := rright_l0 sts s f h1 h2 sts.length 0 (by omega) (by omega)
    rw [rights sts f h2] at h
    exact EV.step h fun k => by simp only [tattingref09_Right.j0, Bool.false_eq_true, if_false]; rfl
  · exact EV.stop fun k => by simp only [tattingref09_Right.j0, if_true]; rfl
theorem rright_eq (sts : List St) (s f : Int) : EV (fun k => tattingref09_Right.f k sts s f) (rightN sts s f) := by
  unfold tattingref09_Right.f rightN
  by_cases h0 : (sts.length : Int) = 0
  · simp only [if_pos h0]
    refine (rright_j0 sts s f true (fun h => by cases h)).cast ?_
    rw [decide_eq_false (by omega)]; rfl
  · simp only [if_neg h0]
    by_cases h1 : (sts.length : Int) > 600
    · simp only [if_pos h1]
      refine (rright_j0 sts s f true (fun h => by cases h)).cast ?_
      rw [decide_eq_false (by omega)]; rfl
    · simp only [if_neg h1]
      by_cases h2 : s < 0
      · simp only [if_pos h2]
        refine (rright_j0 sts s f true (fun h => by cases h)).cast ?_
        rw [decide_eq_false (by omega)]; rfl
      · simp only [if_neg h2]
        by_cases h3 : s ≥ (sts.length : Int)
        · simp only [if_pos h3]
          refine (rright_j0 sts s f true (fun h => by cases h)).cast ?_
          rw [decide_eq_false (by omega)]; rfl
        · simp only [if_neg h3]
          by_cases h4 : f < 0
          · simp only [if_pos h4]
            refine (rright_j0 sts s f true (fun h => by cases h)).cast ?_
            rw [decide_eq_false (by omega)]; rfl
          · simp only [if_neg h4]
            refine (rright_j0 sts s f _ (fun h => by simp only [decide_eq_false_iff_not] at h; omega)).cast ?_
            congr 1
            by_cases h5 : f ≥ (sts.length : Int)
            · rw [decide_eq_true h5, decide_eq_false (by omega)]; rfl
            · rw [decide_eq_false h5, decide_eq_true (by omega)]; rfl
end Go.Proofs.YtfjemaeidmikmaaDoorQ
end
section
set_option linter.unusedVariables false
set_option linter.unusedSimpArgs false
namespace Go.Proofs.YtfjemaeidmikmaaDoorQ
open Go.ChangeShapes Go.WideShapes Go.ChangeAt Go.RowKit Go.Deep Go.Proofs.YtfjemaeidmikmaaDoor
open Go.Proofs.YtfjemaeidmikmaaDoorW.PrintWords (Kd)
section
variable {H : Type} {enc : TypeId × Value → H} {w : World} {base : Nat} {spare : Nat → Bool} {held : Bool}
theorem slice_le {t e : TypeId} (ht : Tryd.prog.underlying t = some (.slice e)) {A : Option Addr} {len cap : Nat} {d : DataW H} {ps : List MemPlace} (h : DataW.Trod enc Tryd.prog w base spare held t (.slice A len cap) d ps) : len ≤ 9223372036854775807 := by
  obtain ⟨fuel, h⟩ := h
  rcases open_slice ht h with ⟨hcs, hx⟩ | ⟨a, len', cap', m, n, D, Pl, hcs, _, hl, hm, _⟩
  · have hcs : Value.slice A len cap = .slice none 0 0 := by simpa [Value.cells] using hcs
    injection hcs with h1 h2 h3
    omega
  · have hcs : Value.slice A len cap = .slice (some a) len' cap' := by simpa [Value.cells] using hcs
    injection hcs with h1 h2 h3
    have : maxLen ≤ 9223372036854775807 := by simp only [maxLen]; omega
    omega
theorem C_of {α : Type} (d : Kd α) (f : α → List Value) {size : Nat} (hs : d.sz = size) (hf : ∀ x, (f x).length = size) (hk : ∀ x, d.K w x (f x)) {A : Option Addr} {n : Nat} {l : List α} (hp : 0 < size) (h : Reads w size A n (l.flatMap f)) (hn : n ≤ 9223372036854775807) : Kd.C d w A n l := by
  subst hs
  refine ⟨Reads.length f hf hp h, by omega, fun h0 => ?_⟩
  obtain ⟨ad, e, hc⟩ := h.2 h0
  refine ⟨ad, e, fun j p hj => ⟨f p, hf p, hk p, fun i u hu => hc _ u ?_⟩⟩
  have hi := (List.getElem?_eq_some_iff.1 hu).1
  rw [hf] at hi
  rw [flat_at f d.sz hf l j p hj i hi]
  exact hu
theorem cellsU64 : Tryd.prog.cellsOf 60 = 1 := by kernel_rfl
theorem cellsSet : Tryd.prog.cellsOf 62 = 4 := by kernel_rfl
theorem cellsSt : Tryd.prog.cellsOf 64 = 7 := by kernel_rfl
theorem open_u64 {fuel : Nat} {cs : List Value} {x : DataW H × List MemPlace} (h : DataW.trod enc Tryd.prog w base spare held fuel 60 cs = some x) : ∃ a : Int, cs = [.int .u64 a] ∧ 0 ≤ a ∧ a < 18446744073709551616 := by
  obtain ⟨n, rfl, _, hw⟩ := DataW.trod_int Tryd.underlying60 h
  have hb := bounds_u64 hw
  exact ⟨n, rfl, by omega, by omega⟩
theorem open_set {fuel : Nat} {cs : List Value} {x : DataW H × List MemPlace} (h : DataW.trod enc Tryd.prog w base spare held fuel 62 cs = some x) :
    ∃ s : S62, wfI s.f0 s.f1 s.f2 s.f3 ∧ cs = [.int .u64 s.f0, .int .u64 s.f1, .int .u64 s.f2, .int .u64 s.f3] := by
  obtain ⟨xs, m, _, _, hlen, hxl, hf⟩ := DataW.trod_array Tryd.underlying62 h
  rw [cellsSet] at hlen
  simp only [cellsU64, Nat.mul_one] at hf
  match cs, hlen, xs, hxl with
  | [c0, c1, c2, c3], _, [x0, x1, x2, x3], _ =>
    obtain ⟨a, ha, wa⟩ := open_u64 (by simpa using hf 0 (by omega))
    obtain ⟨b, hb, wb⟩ := open_u64 (by simpa using hf 1 (by omega))
    obtain ⟨c, hc, wc⟩ := open_u64 (by simpa using hf 2 (by omega))
    obtain ⟨d, hd, wd⟩ := open_u64 (by simpa using hf 3 (by omega))
    injection ha with ha
    injection hb with hb
    injection hc with hc
    injection hd with hd
    subst ha hb hc hd
    exact ⟨⟨a, b, c, d⟩, ⟨wa, wb, wc, wd⟩, rfl⟩
set_option maxRecDepth 100000 in
theorem open_st {fuel : Nat} {cs : List Value} {x : DataW H × List MemPlace} (h : DataW.trod enc Tryd.prog w base spare held fuel 64 cs = some x) : ∃ n : St, cs = stCells n ∧ wfSt n := by
  obtain ⟨xs, m, _, _, hlen, hxl, hf⟩ := DataW.trod_struct Tryd.underlying64 h
  rw [cellsSt] at hlen
  have hxl : xs.length = 4 := hxl
  match cs, hlen, xs, hxl with
  | [c0, c1, c2, c3, c4, c5, c6], _, [x0, x1, x2, x3], _ =>
    have h0 := hf 0 _ rfl
    have h1 := hf 1 _ rfl
    have h2 := hf 2 _ rfl
    have h3 := hf 3 _ rfl
    simp [cellsInt] at h0
    simp [cellsInt] at h1
    simp [cellsInt] at h2
    simp [cellsSet] at h3
    obtain ⟨k, hk, k0, k1⟩ := open_i64 h0
    obtain ⟨a, ha, l0, l1⟩ := open_i64 h1
    obtain ⟨b, hb, q0, q1⟩ := open_i64 h2
    obtain ⟨s, hs, hse⟩ := open_set h3
    obtain rfl : c0 = .int .i64 k := by simpa using hk
    obtain rfl : c1 = .int .i64 a := by simpa using ha
    obtain rfl : c2 = .int .i64 b := by simpa using hb
    obtain ⟨rfl, rfl, rfl, rfl⟩ : c3 = .int .u64 s.f0 ∧ c4 = .int .u64 s.f1 ∧ c5 = .int .u64 s.f2 ∧ c6 = .int .u64 s.f3 := by simpa using hse
    exact ⟨⟨k, a, b, s⟩, rfl, hs⟩
set_option maxRecDepth 100000 in
theorem open_nfa {r : Reach} {b0 : Nat} {v : Value} {d : DataW H} {p : List MemPlace} (hv : Value.okWide Tryd.prog w r b0 24 v) (h : DataW.Trod enc Tryd.prog w base spare held 24 v d p) :
    ∃ (A : Option Addr) (sts : List St) (c : Nat) (s f : Int), v = .agg #[.slice A sts.length c, .int .i64 s, .int .i64 f] ∧ Kd.C k64 w A sts.length sts ∧ sts.length ≤ c ∧ wfSts sts := by
  obtain ⟨v0, v1, v2, y0, y1, y2, n, rfl, hd, hp, h0, h1, h2⟩ := Joins.open_agg3 Tryd.underlying24 (by kernel_rfl) (by kernel_rfl) hv h
  obtain ⟨s, e1, x1, w1⟩ := DataW.trod_int Tryd.underlying3 h1
  obtain ⟨f, e2, x2, w2⟩ := DataW.trod_int Tryd.underlying3 h2
  injection e1 with e1
  injection e2 with e2
  subst e1 e2
  obtain ⟨A, len, cap, rfl⟩ : ∃ A len cap, v0 = .slice A len cap := by
    rcases open_slice Tryd.underlying22 h0 with ⟨hcs, hx⟩ | ⟨a, len', cap', m, n, D, Pl, hcs, _⟩
    · injection hcs with hcs
      exact ⟨_, _, _, hcs⟩
    · injection hcs with hcs
      exact ⟨_, _, _, hcs⟩
  have ht : DataW.Trod enc Tryd.prog w base spare held 22 (.slice A len cap) y0.1 y0.2 := ⟨n, by simpa [Value.cells] using h0⟩
  obtain ⟨l, hr, hl, hok, _⟩ := open_list stCells wfSt stCells_length z64 Tryd.underlying22 cellsSt open_st ht
  have hb := slice_le Tryd.underlying22 ht
  have hC : Kd.C k64 w A len l := C_of (size := 7) k64 stCells rfl stCells_length (fun x => k64_mk w x) (by omega) hr hb
  have hlen : l.length = len := hC.1
  subst hlen
  refine ⟨A, l, cap, s, f, rfl, hC, hl, fun i h0 h1 => ?_⟩
  have hi : i.toNat < l.length := by omega
  have e : rd_T64 l i = l[i.toNat] := by
    unfold rd_T64
    rw [List.getD_eq_getElem?_getD, List.getElem?_eq_getElem hi]
    rfl
  rw [e]
  exact hok _ (List.getElem_mem hi)
end
end Go.Proofs.YtfjemaeidmikmaaDoorQ
end
section
set_option linter.unusedVariables false
set_option linter.unusedSimpArgs false
namespace Go.Proofs.YtfjemaeidmikmaaDoorQ
open Go.RowKit Go.Proofs.YtfjemaeidmikmaaDoorW.PrintWords Go.Proofs.YtfjemaeidmikmaaDoorW.PrintLast Go.Proofs.Bs
def ofStep (n : Nat) (acc : List Bool) (s : Int) : List Bool := if 0 ≤ s ∧ s < n then acc.set s.toNat true else acc
def ofN (n : Nat) (l : List Int) : List Bool := l.foldl (ofStep n) (List.replicate n false)
theorem of_l0 (n : Nat) (l : List Int) (hl : l.length ≤ 1000000) : ∀ (d i : Nat) (acc : List Bool), l.length - i = d → i ≤ l.length → acc.length = n → EV (fun k => tattingref09_Of.l0 k l acc (i : Int)) ((l.drop i).foldl (ofStep n) acc) := by
  intro d
  induction d with
  | zero =>
    intro i acc hd hi ha
    refine (EV.stop fun k => ?_).cast (r := acc) (by rw [List.drop_eq_nil_of_le (by omega)]; rfl)
    simp only [tattingref09_Of.l0]
    rw [if_neg (by omega)]
  | succ d ih =>
    intro i acc hd hi ha
    have hcons : l.drop i = rd l (i : Int) :: l.drop (i + 1) := by
      rw [List.drop_eq_getElem_cons (by omega)]
      simp [rd, List.getD_eq_getElem?_getD, List.getElem?_eq_getElem (show i < l.length by omega)]
    refine (EV.step (ih (i + 1) (ofStep n acc (rd l (i : Int))) (by omega) (by omega) (by unfold ofStep; split <;> simp [ha])) fun k => ?_).cast (by rw [hcons]; rfl)
    simp only [tattingref09_Of.l0]
    rw [if_pos (by omega), if_pos (by omega), wrap_in (by omega) (by omega)]
    generalize rd l (i : Int) = x
    unfold ofStep
    by_cases c0 : 0 ≤ x
    · by_cases c1 : x < (n : Int)
      · rw [if_pos (by omega), if_pos (by omega), if_pos c0, if_pos ⟨c0, c1⟩]
        rfl
      · rw [if_pos (by omega), if_neg (by omega), if_neg (fun h => c1 h.2)]
        rfl
    · rw [if_neg (by omega), if_neg (fun h => c0 h.1)]
      rfl
theorem of_eq (sts : List St) (s f : Int) (l : List Int) (hn : sts.length ≤ 1000000) (hl : l.length ≤ 1000000) : EV (fun k => tattingref09_Of.f k sts s f l) (ofN sts.length l) := by
  unfold tattingref09_Of.f ofN
  have h := of_l0 sts.length l hl l.length 0 (List.replicate sts.length false) (by omega) (by omega) (by simp)
  simp only [Int.toNat_natCast]
  rw [show (l.drop 0) = l from rfl] at h
  refine EV.congr (fun k => ?_) h
  rw [if_pos (by omega), if_pos (by omega)]
  rfl
end Go.Proofs.YtfjemaeidmikmaaDoorQ
end
