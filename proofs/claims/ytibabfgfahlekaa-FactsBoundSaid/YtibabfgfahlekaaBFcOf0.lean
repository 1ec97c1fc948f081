/- Pruned from its seat's text: what the theorem hangs on. -/
import Derived.Test.YtibabfgfahlekaaBFcOne
/- facts.one for any node; what a stack of facts keeps. -/
set_option linter.unusedVariables false
set_option linter.unusedSimpArgs false
namespace Go.Proofs.Ytibabfgfahlekaa
open Go.RowKit Go.Proofs.Bs

theorem ok_zero : Fa.zero.ok := ⟨by decide, by decide, by decide, by decide, S.wf_zero⟩
theorem ok_none : Fa.none_.ok := ⟨by decide, by decide, by decide, by decide, S.wf_zero⟩
theorem ok_cat {a b : Fa} (ha : a.ok) (hb : b.ok) : (faCat a b).ok := by
  obtain ⟨p1, p2, p3, p4, p5⟩ := ha
  obtain ⟨q1, q2, q3, q4, q5⟩ := hb
  unfold faCat
  split
  · exact ok_none
  · refine ⟨by show 0 ≤ min _ _; omega, by show min _ _ ≤ _; omega, ?_, ?_, ?_⟩
    · dsimp only; split <;> omega
    · dsimp only; split <;> omega
    · dsimp only; split
      · exact wf_or p5 q5
      · exact p5
theorem ok_or {a b : Fa} (ha : a.ok) (hb : b.ok) : (faOr a b).ok := by
  unfold faOr
  split
  · exact hb
  · split
    · exact ha
    · obtain ⟨p1, p2, p3, p4, p5⟩ := ha
      obtain ⟨q1, q2, q3, q4, q5⟩ := hb
      refine ⟨by show 0 ≤ min _ _; omega, by show min _ _ ≤ _; omega, ?_, ?_, wf_or p5 q5⟩
      · dsimp only; split <;> omega
      · dsimp only; split <;> omega
theorem ok_rep {x : Nd} {a : Fa} (hx : 0 ≤ x.lo ∧ x.lo ≤ 32 ∧ (x.hi = -1 ∨ x.lo ≤ x.hi ∧ x.hi ≤ 32)) (ha : a.ok) : (faRep x a).ok := by
  unfold faRep
  split
  · exact ok_zero
  · split
    · exact ha
    · rename_i h0 h1
      obtain ⟨p1, p2, p3, p4, p5⟩ := ha
      have hm : 0 ≤ x.lo * a.least := Int.mul_nonneg hx.1 p1
      refine ⟨by show 0 ≤ min _ _; omega, by show min _ _ ≤ _; omega, ?_, ?_, p5⟩
      · dsimp only
        split
        · omega
        · rename_i hc
          rcases hx.2.2 with e | e
          · have : a.most = 0 := by omega
            rw [this, Int.mul_zero]; omega
          · have : 0 ≤ x.hi * a.most := Int.mul_nonneg (by omega) (by omega)
            omega
      · dsimp only; split <;> omega
theorem ok_fact {x : Nd} (hf : fieldsB x = true) (ha : 0 ≤ arity x.kind) (hw : x.set.wf) {ks : List Fa} (hk : ks.length = (arity x.kind).toNat) (hok : ∀ f ∈ ks, f.ok) : (fFact x ks).ok := by
  have hg : ∀ i, (ks.getD i Fa.zero).ok := fun i => by
    rw [List.getD_eq_getElem?_getD]
    cases h : ks[i]? with
    | none => exact ok_zero
    | some f => exact hok f (List.mem_of_getElem? h)
  unfold fFact
  split
  · split
    · exact ok_none
    · exact ⟨by show (0 : Int) ≤ 1; decide, by show (1 : Int) ≤ _; decide, by show (-1 : Int) ≤ 1; decide, by show (1 : Int) ≤ _; decide, hw⟩
  · split
    · exact ok_cat (hg 0) (hg 1)
    · split
      · exact ok_or (hg 0) (hg 1)
      · split
        · rename_i h7
          exact ok_rep (rep_fields hf h7) (hg 0)
        · exact ok_zero
theorem fone_any (x : Nd) (ks : List Fa) (hf : fieldsB x = true) (ha : 0 ≤ arity x.kind) (hk : ks.length = (arity x.kind).toNat) (hok : ∀ f ∈ ks, f.ok) (A : Option Addr) (n c : Nat) (hn : n = ks.length) (w : World) (h : Reads w 8 A n (ks.flatMap Fa.cells)) :
    Calls Try.prog 37 #[.agg #[.int .i64 x.kind, .int .u64 x.set.a, .int .u64 x.set.b, .int .u64 x.set.c, .int .u64 x.set.d, .int .i64 x.lo, .int .i64 x.hi], .slice A n c] w fun e w' => e = .returned (fFact x ks).v ∧ Below w.heap.size w w' := by
  subst hn
  obtain ⟨k, ⟨s0, s1, s2, s3⟩, lo, hi⟩ := x
  rcases kind_cases ha with ⟨hk1, h0⟩ | ⟨hk1, h0⟩ | ⟨hk1, h0⟩
  · rw [h0] at hk
    obtain rfl : ks = [] := List.eq_nil_of_length_eq_zero hk
    exact one_leaf k hk1 s0 s1 s2 s3 lo hi A 0 c w
  · rw [h0] at hk
    obtain ⟨a, b, rfl⟩ : ∃ a b, ks = [a, b] := by
      match ks, hk with
      | [a, b], _ => exact ⟨a, b, rfl⟩
    have oa := hok a (by simp)
    have ob := hok b (by simp)
    have hR : Reads w 8 A 2 (a.cells ++ b.cells) := by simpa using h
    simp only at hk1
    rcases hk1 with rfl | rfl
    · exact one_cat s0 s1 s2 s3 lo hi a b (faCat a b) A c w hR fun w => cat_any a b w oa ob
    · exact one_or s0 s1 s2 s3 lo hi a b (faOr a b) A c w hR fun w => for_any a b w oa ob
  · rw [h0] at hk
    obtain ⟨a, rfl⟩ : ∃ a, ks = [a] := by
      match ks, hk with
      | [a], _ => exact ⟨a, rfl⟩
    have oa := hok a (by simp)
    have hR : Reads w 8 A 1 a.cells := by simpa using h
    have hr := rep_fields hf hk1
    simp only at hk1
    subst hk1
    exact one_rep s0 s1 s2 s3 lo hi a (faRep ⟨7, ⟨s0, s1, s2, s3⟩, lo, hi⟩ a) A c w hR fun w => frep_any ⟨7, ⟨s0, s1, s2, s3⟩, lo, hi⟩ a w hr oa
def endsB (l : List Nd) : Bool := l.any fun x => decide (x.kind = 3 ∨ x.kind = 4)
theorem endsB_succ {l : List Nd} {k : Nat} {x : Nd} (hx : l[k]? = some x) : endsB (l.take (k + 1)) = (endsB (l.take k) || decide (x.kind = 3 ∨ x.kind = 4)) := by
  unfold endsB
  have hk := (List.getElem?_eq_some_iff.1 hx).1
  have he : l[k] = x := (List.getElem?_eq_some_iff.1 hx).2
  rw [List.take_succ_eq_append_getElem hk, List.any_append, he]
  simp
def ofFa (l : List Nd) : Fa := { attr fFact l (l.length - 1) with ends := endsB l }
end Go.Proofs.Ytibabfgfahlekaa
