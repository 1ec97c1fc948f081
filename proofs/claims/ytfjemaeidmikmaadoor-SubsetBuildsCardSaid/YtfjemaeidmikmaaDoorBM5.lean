/- Several short texts of this proof, one behind the other. -/
import Derived.Test.YtfjemaeidmikmaaDoorBNfImpl5
import Derived.Test.YtfjemaeidmikmaaDoorBQXNfaWalk
import Derived.Test.YtfjemaeidmikmaaDoorBSbState
section
set_option linter.unusedVariables false
set_option linter.unusedSimpArgs false
namespace Go.Proofs.YtfjemaeidmikmaaDoorQ
open Go.RowKit Go.Proofs.YtfjemaeidmikmaaDoorW.PrintWords Go.Proofs.YtfjemaeidmikmaaDoorW.PrintLast Go.Proofs.Bs
theorem places_le (l : List Bool) : ∀ d i, (places l d i).length ≤ d := by
  intro d
  induction d with
  | zero => intro i; simp [places]
  | succ d ih =>
    intro i
    have := ih (i + 1)
    simp only [places, List.length_append]
    split <;> simp <;> omega
theorem listN_le (l : List Bool) : (listN l).length ≤ l.length := places_le l _ _
def atStart (sts : List St) (s : Int) : List Int := listN (walkF sts [s] 0)
def wfB (sts : List St) : Bool := sts.all fun s => decide (wfI s.f3.f0 s.f3.f1 s.f3.f2 s.f3.f3)
theorem wfB_iff (sts : List St) : wfB sts = true ↔ wfSts sts := by
  unfold wfB wfSts
  rw [List.all_eq_true]
  constructor
  · intro h i h0 h1
    have hl : i.toNat < sts.length := by omega
    have e : rd_T64 sts i = sts[i.toNat] := by
      unfold rd_T64
      rw [List.getD_eq_getElem?_getD, List.getElem?_eq_getElem hl]
      rfl
    rw [e]
    exact (of_decide_eq_true (h _ (List.getElem_mem hl)) : wfI _ _ _ _)
  · intro h x hx
    obtain ⟨k, hk, rfl⟩ := List.getElem_of_mem hx
    have h2 := h (k : Int) (by omega) (by omega)
    have e : rd_T64 sts (k : Int) = sts[k] := by
      unfold rd_T64
      rw [List.getD_eq_getElem?_getD, Int.toNat_natCast, List.getElem?_eq_getElem hk]
      rfl
    rw [e] at h2
    exact decide_eq_true (show wfI _ _ _ _ from h2)
end Go.Proofs.YtfjemaeidmikmaaDoorQ
end
section
set_option linter.unusedVariables false
set_option linter.unusedSimpArgs false
namespace Go.Proofs.YtfjemaeidmikmaaDoorQ
open Go.RowKit Go.Proofs.YtfjemaeidmikmaaDoorW.PrintWords Go.Proofs.YtfjemaeidmikmaaDoorW.PrintLast Go.Proofs.Bs
section
variable (A0 : Option Addr) (c0 : Nat) (sts : List St) (s f : Int) (w : World)
abbrev nV (A0 : Option Addr) (c0 : Nat) (sts : List St) (s f : Int) : Value := .agg #[.slice A0 sts.length c0, .int .i64 s, .int .i64 f]
theorem right_c (hr : Kd.C k64 w A0 sts.length sts) (hc : sts.length ≤ c0) : Calls Tryd.prog 30 #[nV A0 c0 sts s f] w fun e w' => e = .returned (.bool (rightN sts s f)) ∧ Below w.heap.size w w' := by
  obtain ⟨k, hk⟩ := (right_eq sts s f).ex
  exact nfa_Right.calls k A0 c0 sts s f _ w hr hc hk
end
end Go.Proofs.YtfjemaeidmikmaaDoorQ
end
section
set_option linter.unusedVariables false
set_option linter.unusedSimpArgs false
namespace Go.Proofs.YtfjemaeidmikmaaDoorQ
open Go.RowKit Go.Proofs.YtfjemaeidmikmaaDoorW.PrintWords Go.Proofs.YtfjemaeidmikmaaDoorW.PrintLast Go.Proofs.Bs
theorem mem_places (l : List Bool) : ∀ d i : Nat, ∀ x : Int, x ∈ places l d i ↔ ∃ j : Nat, i ≤ j ∧ j < i + d ∧ x = (j : Int) ∧ pOf l j = true := by
  intro d
  induction d with
  | zero =>
    intro i x
    simp only [places, List.not_mem_nil, false_iff, not_exists]
    intro j h
    omega
  | succ d ih =>
    intro i x
    simp only [places, List.mem_append, ih]
    constructor
    · rintro (h | ⟨j, h1, h2, h3, h4⟩)
      · split at h
        · rename_i hb
          have hx : x = (i : Int) := by simpa using h
          exact ⟨i, by omega, by omega, hx, hb⟩
        · simp at h
      · exact ⟨j, by omega, by omega, h3, h4⟩
    · rintro ⟨j, h1, h2, h3, h4⟩
      by_cases e : j = i
      · subst e
        left
        have h5 : rdOf false l (j : Int) = true := h4
        rw [if_pos h5]
        simp [h3]
      · exact Or.inr ⟨j, by omega, by omega, h3, h4⟩
theorem of_list (m : List Bool) : ofN m.length (listN m) = m := by
  have e1 := tab_pOf (ofN m.length (listN m))
  rw [ofN_len] at e1
  rw [← e1]
  have e2 := tab_pOf m
  refine Eq.trans (tab_ext fun j hj => ?_) e2
  rw [ofN_at]
  unfold pIn
  rw [Bool.eq_iff_iff, decide_eq_true_eq]
  unfold listN
  rw [mem_places]
  constructor
  · rintro ⟨_, k, _, _, h3, h4⟩
    have : j = k := by omega
    subst this
    exact h4
  · intro h
    exact ⟨hj, j, by omega, by omega, rfl, h⟩
end Go.Proofs.YtfjemaeidmikmaaDoorQ
end
section
set_option linter.unusedVariables false
set_option linter.unusedSimpArgs false
namespace Go.Proofs.YtfjemaeidmikmaaDoorQ
open Go.RowKit Go.Maps Go.Proofs.YtfjemaeidmikmaaDoorW.PrintWords Go.Proofs.YtfjemaeidmikmaaDoorW.PrintLast Go.Proofs.YtfjemaeidmikmaaDoor
section
variable (A0 : Option Addr) (c0 : Nat) (sts : List St) (s f : Int) (w : World)
theorem close_r (hr : Kd.C k64 w A0 sts.length sts) (hc : sts.length ≤ c0) (hR : rightN sts s f = true) (A1 : Option Addr) (c1 : Nat) (l : List Int) (sym : Int) (hl : Kd.C (Kd.int .i64) w A1 l.length l) (hlc : l.length ≤ c1) (hll : l.length ≤ 1000000) :
    Calls Tryd.prog 41 #[nV A0 c0 sts s f, .slice A1 l.length c1, .int .i64 sym] w fun e w' => ∃ A c, e = .returned (.slice A (listN (walkF sts l sym)).length c) ∧ Kd.R (Kd.int .i64) 3 w' w.heap.size (fun _ => True) (.slice A (listN (walkF sts l sym)).length c) (listN (walkF sts l sym)) ∧ Below w.heap.size w w' := by
  obtain ⟨k, hk⟩ := (close_eq sts s f l sym (by omega)).ex
  unfold closeN at hk
  rw [if_pos hR] at hk
  refine (nfa_Close.calls k A0 c0 sts s f A1 c1 l sym _ w hr hc hl hlc hk).mono ?_
  rintro e w' ⟨v, rfl, hv, hb⟩
  obtain ⟨A, c, rfl⟩ := Kd.R_slice hv
  exact ⟨A, c, rfl, hv, hb⟩
theorem step_r (hr : Kd.C k64 w A0 sts.length sts) (hc : sts.length ≤ c0) (hR : rightN sts s f = true) (hw : wfSts sts) (A1 : Option Addr) (c1 : Nat) (l : List Int) (b : Int) (hb : 0 ≤ b ∧ b < 256) (hl : Kd.C (Kd.int .i64) w A1 l.length l) (hlc : l.length ≤ c1) (hll : l.length ≤ 1000000) :
    Calls Tryd.prog 64 #[nV A0 c0 sts s f, .slice A1 l.length c1, .int .u8 b] w fun e w' => ∃ A c, e = .returned (.slice A (listN (walkF sts (l.flatMap (stepOne sts b)) 0)).length c) ∧ Kd.R (Kd.int .i64) 3 w' w.heap.size (fun _ => True) (.slice A (listN (walkF sts (l.flatMap (stepOne sts b)) 0)).length c) (listN (walkF sts (l.flatMap (stepOne sts b)) 0)) ∧ Below w.heap.size w w' := by
  obtain ⟨k, hk⟩ := (step_eq sts s f b l hll hw hb).ex
  unfold stepN at hk
  rw [if_pos hR] at hk
  refine (nfa_Step.calls k A0 c0 sts s f A1 c1 l b _ w hr hc hl hlc hk).mono ?_
  rintro e w' ⟨v, rfl, hv, hb⟩
  obtain ⟨A, c, rfl⟩ := Kd.R_slice hv
  exact ⟨A, c, rfl, hv, hb⟩
end
def toT (sts : List St) (t : List Int) (sym : Int) : List Int := if sym < 256 then listN (walkF sts (t.flatMap (stepOne sts sym)) 0) else listN (walkF sts t sym)
set_option maxRecDepth 100000 in
set_option maxHeartbeats 1600000 in
theorem to_sb (A0 : Option Addr) (c0 : Nat) (sts : List St) (s f : Int) (p : Nat) (A : Option Addr) (c : Nat) (t : List Int) (sym : Int) (w : World) (hr : Kd.C k64 w A0 sts.length sts) (hc : sts.length ≤ c0) (hR : rightN sts s f = true) (hw : wfSts sts)
    (g0 : w.cell? ⟨p, 0, none⟩ = some (.slice A0 sts.length c0)) (g1 : w.cell? ⟨p, 1, none⟩ = some (.int .i64 s)) (g2 : w.cell? ⟨p, 2, none⟩ = some (.int .i64 f)) (ht : Kd.C (Kd.int .i64) w A t.length t) (htc : t.length ≤ c) (htl : t.length ≤ 1000000) (hs0 : 0 ≤ sym) (hs1 : sym ≤ 258) :
    Calls Tryd.prog 42 #[.pointer (some ⟨p, 0, none⟩), .slice A t.length c, .int .i64 sym] w fun e w' => ∃ A' c', e = .returned (.slice A' (toT sts t sym).length c') ∧ Kd.R (Kd.int .i64) 3 w' w.heap.size (fun _ => True) (.slice A' (toT sts t sym).length c') (toT sts t sym) ∧ Below w.heap.size w w' := by
  by_cases h : sym < 256
  · have e : toT sts t sym = listN (walkF sts (t.flatMap (stepOne sts sym)) 0) := if_pos h
    rw [e]
    have hx := step_r A0 c0 sts s f w hr hc hR hw A c t sym ⟨hs0, h⟩ ht htc htl
    have HX := Lib.hid hx
    have e2 : sym % 256 = sym := by omega
    clear hx hr hc hR hw ht htc htl e
    go_enter Tryd.func42, Tryd.ntmps42
    go_wp2_with fail
    refine HX.out.mono ?_
    rintro e w1 ⟨A', c', rfl, hR1, hb⟩
    have HZ := Lib.hid (And.intro hR1 hb)
    clear hR1 hb
    go_wp2_with fail
    go_ret
    exact ⟨A', c', rfl, HZ.out⟩
  · have e : toT sts t sym = listN (walkF sts t sym) := if_neg h
    rw [e]
    have hx := close_r A0 c0 sts s f w hr hc hR A c t sym ht htc htl
    have HX := Lib.hid hx
    clear hx hr hc hR hw ht htc htl e
    go_enter Tryd.func42, Tryd.ntmps42
    go_wp2_with fail
    refine HX.out.mono ?_
    rintro e w1 ⟨A', c', rfl, hR1, hb⟩
    have HZ := Lib.hid (And.intro hR1 hb)
    clear hR1 hb
    go_wp2_with fail
    go_ret
    exact ⟨A', c', rfl, HZ.out⟩
end Go.Proofs.YtfjemaeidmikmaaDoorQ
end
section
set_option linter.unusedVariables false
set_option linter.unusedSimpArgs false
namespace Go.Proofs.YtfjemaeidmikmaaDoorQ
open Go.RowKit Go.Maps Go.Proofs.YtfjemaeidmikmaaDoorW.PrintWords Go.Proofs.YtfjemaeidmikmaaDoorW.PrintLast Go.Proofs.YtfjemaeidmikmaaDoor
abbrev Qt := List (List Int) × List Int
def inStep (sts : List St) (a : Nat) (q : Qt) (sym : Int) : Qt := ((knS q.1 (toT sts (q.1.getD a []) sym)).1, q.2 ++ [((knS q.1 (toT sts (q.1.getD a []) sym)).2 : Int)])
def inN (sts : List St) (a : Nat) (firsts : List Int) (q : Qt) : Qt := firsts.foldl (inStep sts a) q
def outN (sts : List St) (firsts : List Int) (most : Int) : Nat → Nat → Qt → Qt
  | 0, _, q => q
  | k + 1, a, q => if a < q.1.length ∧ (q.1.length : Int) ≤ most then outN sts firsts most k (a + 1) (inN sts a firsts q) else q
def runQ (sts : List St) (s : Int) (firsts : List Int) (most : Int) : Qt := outN sts firsts most (most + 1).toNat 0 ([listN (walkF sts [s] 0)], [])
theorem knS_len (S : List (List Int)) (t : List Int) : S.length ≤ (knS S t).1.length ∧ (knS S t).1.length ≤ S.length + 1 := by
  unfold knS
  split <;> simp
theorem knS_mem {P : List Int → Prop} {S : List (List Int)} {t : List Int} (h : ∀ x ∈ S, P x) (ht : P t) : ∀ x ∈ (knS S t).1, P x := by
  unfold knS
  split
  · exact h
  · intro x hx
    rcases List.mem_append.1 hx with hx | hx
    · exact h x hx
    · rw [List.mem_singleton.1 hx]; exact ht
theorem okT_list (sts : List St) (l : List Int) (sym : Int) (hn : sts.length ≤ 600) : okT (listN (walkF sts l sym)) := by
  have h1 := listN_le (walkF sts l sym)
  rw [walkF_len] at h1
  refine ⟨by omega, fun x hx => ?_⟩
  have key : ∀ (b : List Bool) (d i : Nat), ∀ x ∈ places b d i, 0 ≤ x ∧ x < ((i + d : Nat) : Int) := by
    intro b d
    induction d with
    | zero => intro i x hx; cases hx
    | succ d ih =>
      intro i x hx
      simp only [places, List.mem_append] at hx
      rcases hx with hx | hx
      · split at hx
        · rw [List.mem_singleton.1 hx]; omega
        · cases hx
      · have := ih (i + 1) x hx
        omega
  have := key (walkF sts l sym) _ 0 x hx
  rw [walkF_len] at this
  omega
theorem okT_to (sts : List St) (t : List Int) (sym : Int) (hn : sts.length ≤ 600) : okT (toT sts t sym) := by
  unfold toT
  split
  · exact okT_list _ _ _ hn
  · exact okT_list _ _ _ hn
def okN (p m : Nat) (vN : Value) (k : Nat) : Prop := (k ≠ p ∧ k ≠ m) ∧ some k ≠ vN.ownBlock
structure RI (w0 w : World) (b0 p m : Nat) (h0 h1 h2 h3 v vN : Value) (S : List (List Int)) (next : List Int) (D : DataW Unit) (n : Nat) : Prop where
  sb : SB w b0 p m h0 h1 h2 h3 v S D n (okN p m vN)
  nx : Kd.R (Kd.int .i64) 3 w b0 (fun k => (True ∧ k ≠ p ∧ k ≠ m) ∧ some k ≠ v.ownBlock) vN next
  vlow : ∀ k, v.ownBlock = some k → w0.heap.size ≤ k
  nlow : ∀ k, vN.ownBlock = some k → w0.heap.size ≤ k
  size : w0.heap.size ≤ w.heap.size
  keep : ∀ b, b < w0.heap.size → b ≠ p → b ≠ m → w.heap[b]? = w0.heap[b]?
  pw : p < w0.heap.size ∧ m < w0.heap.size ∧ b0 ≤ w0.heap.size
section
variable {w0 w w1 : World} {b0 p m : Nat} {h0 h1 h2 h3 v v1 vN vN1 : Value} {S S1 : List (List Int)} {next next1 : List Int} {D D1 : DataW Unit} {n n1 : Nat}
theorem RI.call (h : RI w0 w b0 p m h0 h1 h2 h3 v vN S next D n) (hb : Below w.heap.size w w1) : RI w0 w1 b0 p m h0 h1 h2 h3 v vN S next D n :=
  ⟨h.sb.step hb, Kd.R_below h.nx hb, h.vlow, h.nlow, Nat.le_trans h.size hb.size, fun b hlt hp hm => by have := h.size; rw [hb.block b (by omega), h.keep b hlt hp hm], h.pw⟩
theorem RI.fresh (h : RI w0 w b0 p m h0 h1 h2 h3 v vN S next D n) : ∀ k, w.heap.size ≤ k → okN p m vN k := fun k hk => by
  have := h.size
  have := h.pw
  refine ⟨⟨by omega, by omega⟩, fun e => ?_⟩
  have := Kd.R_lt h.nx k e.symm
  omega
theorem RI.freshN (h : RI w0 w b0 p m h0 h1 h2 h3 v vN S next D n) : ∀ k, w.heap.size ≤ k → (True ∧ k ≠ p ∧ k ≠ m) ∧ some k ≠ v.ownBlock := fun k hk => by
  have := h.size
  have := h.pw
  refine ⟨⟨trivial, by omega, by omega⟩, fun e => ?_⟩
  have := Kd.R_lt h.sb.sets k e.symm
  omega
theorem RI.state (h : RI w0 w b0 p m h0 h1 h2 h3 v vN S next D n) (hB : SB w1 b0 p m h0 h1 h2 h3 v1 S1 D1 n1 (okN p m vN)) (hS : Sty p m v v1 w w1) : RI w0 w1 b0 p m h0 h1 h2 h3 v1 vN S1 next D1 n1 := by
  have hz := h.size
  refine ⟨hB, R_sty h.nx hS, fun k hk => ?_, h.nlow, Nat.le_trans hz hS.size, fun b hlt hp hm => ?_, h.pw⟩
  · rcases hS.row with e | ⟨b, e, hb⟩
    · exact h.vlow k (e ▸ hk)
    · rw [e] at hk
      injection hk with hk
      omega
  · rw [hS.keep b (by omega) hp hm (fun e => by have := h.vlow b e.symm; omega), h.keep b hlt hp hm]
theorem RI.app (h : RI w0 w b0 p m h0 h1 h2 h3 v vN S next D n) (hN : Kd.R (Kd.int .i64) 3 w1 b0 (fun k => (True ∧ k ≠ p ∧ k ≠ m) ∧ some k ≠ v.ownBlock) vN1 next1) (hg : w.grownBy w1 vN.ownBlock) (hat : vN1.ownBlock = vN.ownBlock ∨ ∃ b, vN1.ownBlock = some b ∧ w.heap.size ≤ b) : RI w0 w1 b0 p m h0 h1 h2 h3 v vN1 S next1 D n := by
  have hz := h.size
  have hnp : ∀ k, vN.ownBlock = some k → k ≠ p ∧ k ≠ m := fun k hk => ⟨(h.nx.1 k hk).1.2.1, (h.nx.1 k hk).1.2.2⟩
  refine ⟨⟨?_, h.sb.own.kept hg (fun e => (hnp m e.symm).2 rfl), h.sb.map, ?_, fun k hk => hk.1, h.sb.pm, h.sb.le, h.sb.nn⟩, hN, h.vlow, fun k hk => ?_, Nat.le_trans hz hg.size, fun b hlt hp hm => ?_, h.pw⟩
  · rw [hg.block p h.sb.lt (fun e => (hnp p e.symm).1 rfl)]
    exact h.sb.blk
  · exact Kd.R_after (ok := fun k => k ≠ p ∧ k ≠ m) h.sb.sets hg hat
  · rcases hat with e | ⟨b, e, hb⟩
    · exact h.nlow k (e ▸ hk)
    · rw [e] at hk
      injection hk with hk
      omega
  · rw [hg.block b (by omega) (fun e => by have := h.nlow b e.symm; omega), h.keep b hlt hp hm]
theorem RI.elem (h : RI w0 w b0 p m h0 h1 h2 h3 v vN S next D n) {a : Nat} (ha : a < S.length) : ∃ ad cs A1 c1, v = .slice (some ad) S.length cs ∧ w.cell? (ad.add a) = some (.slice A1 (S.getD a []).length c1) ∧ (S.getD a []).length ≤ c1 ∧ Kd.C (Kd.int .i64) w A1 (S.getD a []).length (S.getD a []) := by
  obtain ⟨As, cs, rfl⟩ := Kd.R_slice h.sb.sets
  obtain ⟨ad, c, rfl, hc, ⟨A1, c1, rfl, hl, hC⟩, hcell⟩ := Kd.C_get (Kd.R_reads' h.sb.sets).2.2 ([] : List Int) (a : Int) (by omega) (by omega)
  rw [Int.toNat_natCast] at hl hC hcell
  refine ⟨ad, cs, A1, c1, rfl, ?_, hl, hC⟩
  have := hcell 0 _ rfl
  rw [show KS.sz = 1 from rfl, Nat.mul_one, Nat.add_zero] at this
  exact this
end
theorem info_i64 : (Tryd.prog.info? 3).map (fun i => (i.zero, i.size, i.bytes)) = some (some (.int .i64 0), 1, 8) := by kernel_rfl
end Go.Proofs.YtfjemaeidmikmaaDoorQ
end
