import Derived.Test.YtfjemaeidmikmaaDoorFMkPure
import Derived.Test.YtfjemaeidmikmaaDoorFM2
set_option linter.unusedVariables false
namespace Go.Proofs.YtfjemaeidmikmaaDoorQ
open Go.Proofs.Bs Go.Proofs.YtfjemaeidmikmaaDoor
def Edge (n : Nat) (tx : Nat → Nat) (st : St) (i u k : Nat) : Prop :=
  k = i ∧ ((st.f0 = 2 ∨ st.f0 = 3 ∨ st.f0 = 4 ∧ i = 0 ∨ st.f0 = 5 ∧ i = n) ∧ (u : Int) = st.f1 ∨ st.f0 = 3 ∧ (u : Int) = st.f2) ∨
  k = i + 1 ∧ i < n ∧ st.f0 = 1 ∧ has (setI st.f3.f0 st.f3.f1 st.f3.f2 st.f3.f3) (tx i) = true ∧ (u : Int) = st.f1
inductive Run (F : List St) (Q : Nat → Prop) (n : Nat) (tx : Nat → Nat) : Nat → Nat → Nat → Nat → Nat → Prop
  | refl (s i : Nat) : Run F Q n tx 0 s i s i
  | step {m s i u k t j : Nat} {st : St} (hq : Q s) (hs : F[s]? = some st) (e : Edge n tx st i u k) (r : Run F Q n tx m u k t j) : Run F Q n tx (m + 1) s i t j
def Runs (F : List St) (Q : Nat → Prop) (n : Nat) (tx : Nat → Nat) (s i t j : Nat) : Prop := ∃ m, Run F Q n tx m s i t j
section
variable {F : List St} {Q Q1 : Nat → Prop} {n : Nat} {tx : Nat → Nat}
theorem Edge.le {st : St} {i u k : Nat} (h : Edge n tx st i u k) (hi : i ≤ n) : i ≤ k ∧ k ≤ n := by
  rcases h with ⟨h, _⟩ | ⟨h, h2, _⟩ <;> omega
theorem Run.le {m s i t j : Nat} (h : Run F Q n tx m s i t j) (hi : i ≤ n) : i ≤ j ∧ j ≤ n := by
  induction h with
  | refl => omega
  | step hq hs e r ih =>
    have := e.le hi;have := ih (by omega);omega
theorem Run.mono (hQ : ∀ s, Q1 s → Q s) {m s i t j : Nat} (h : Run F Q1 n tx m s i t j) : Run F Q n tx m s i t j := by
  induction h with
  | refl => exact .refl _ _
  | step hq hs e r ih => exact .step (hQ _ hq) hs e ih
theorem Run.trans {m s i t j : Nat} (h : Run F Q n tx m s i t j) {m2 u k : Nat} (h2 : Run F Q n tx m2 t j u k) : Run F Q n tx (m + m2) s i u k := by
  induction h with
  | refl => rw [Nat.zero_add]; exact h2
  | step hq hs e r ih =>
    have := Run.step hq hs e (ih h2);rwa [Nat.succ_add]
theorem Runs.trans {s i t j u k : Nat} (h : Runs F Q n tx s i t j) (h2 : Runs F Q n tx t j u k) : Runs F Q n tx s i u k := by
  obtain ⟨a, h⟩ := h;obtain ⟨b, h2⟩ := h2;exact ⟨_, h.trans h2⟩
theorem Runs.refl (s i : Nat) : Runs F Q n tx s i s i := ⟨0, .refl _ _⟩
theorem Run.at_end {m t i j : Nat} (ht : ¬ Q t) (h : Run F Q n tx m t i t j) : i = j := by
  cases h with
  | refl => rfl
  | step hq => exact absurd hq ht
theorem runs_end {t i j : Nat} (ht : ¬ Q t) : Runs F Q n tx t i t j ↔ i = j :=
  ⟨fun ⟨m, h⟩ => h.at_end ht, fun h => by subst h; exact Runs.refl _ _⟩
theorem Run.first {m s i t j : Nat} (h : Run F Q n tx m s i t j) (hne : s ≠ t) {st : St} (hs : F[s]? = some st) : ∃ m2 u k, m = m2 + 1 ∧ Edge n tx st i u k ∧ Run F Q n tx m2 u k t j := by
  cases h with
  | refl => exact absurd rfl hne
  | step hq hs2 e r =>
    rw [hs] at hs2;injection hs2 with hs2;subst hs2;exact ⟨_, _, _, rfl, e, r⟩
theorem Runs.cons {s i u k t j : Nat} {st : St} (hq : Q s) (hs : F[s]? = some st) (e : Edge n tx st i u k) (h : Runs F Q n tx u k t j) : Runs F Q n tx s i t j := by
  obtain ⟨m, h⟩ := h;exact ⟨_, .step hq hs e h⟩
theorem Run.jump {m s u i t j : Nat} {b : Int} {z : S62} (h : Run F Q n tx m s i t j) (hne : s ≠ t) (hs : F[s]? = some ⟨2, (u : Int), b, z⟩) : ∃ m2, m2 < m ∧ Run F Q n tx m2 u i t j := by
  obtain ⟨m2, v, k, rfl, e, r⟩ := h.first hne hs
  have hv : k = i ∧ v = u := by
    rcases e with ⟨h1, ⟨h2, h3⟩ | ⟨h2, h3⟩⟩ | ⟨h1, h2, h3, h4⟩
    · exact ⟨h1, by simp only at h3; omega⟩
    · exact absurd (show (2 : Int) = 3 from h2) (by decide)
    · exact absurd (show (2 : Int) = 1 from h3) (by decide)
  obtain ⟨rfl, rfl⟩ := hv;exact ⟨m2, by omega, r⟩
theorem jump_edge (u i : Nat) (b : Int) (z : S62) : Edge n tx ⟨2, (u : Int), b, z⟩ i u i := .inl ⟨rfl, .inl ⟨.inl rfl, rfl⟩⟩
theorem runs_jump {s u i t j : Nat} {b : Int} {z : S62} (hq : Q s) (hne : s ≠ t) (hs : F[s]? = some ⟨2, (u : Int), b, z⟩) : Runs F Q n tx s i t j ↔ Runs F Q n tx u i t j := by
  constructor
  · rintro ⟨m, h⟩;obtain ⟨m2, _, r⟩ := h.jump hne hs;exact ⟨m2, r⟩
  · exact fun h => h.cons hq hs (jump_edge u i b z)
theorem Run.split {m s u v i t j : Nat} {z : S62} (h : Run F Q n tx m s i t j) (hne : s ≠ t) (hs : F[s]? = some ⟨3, (u : Int), (v : Int), z⟩) : ∃ m2, m2 < m ∧ (Run F Q n tx m2 u i t j ∨ Run F Q n tx m2 v i t j) := by
  obtain ⟨m2, x, k, rfl, e, r⟩ := h.first hne hs;refine ⟨m2, by omega, ?_⟩;rcases e with ⟨h1, ⟨h2, h3⟩ | ⟨h2, h3⟩⟩ | ⟨h1, h2, h3, h4⟩
  · (have : x = u := by simp only at h3; omega);subst this; subst h1;exact .inl r
  · (have : x = v := by simp only at h3; omega);subst this; subst h1;exact .inr r
  · exact absurd (show (3 : Int) = 1 from h3) (by decide)
theorem split_edge (u v i : Nat) (z : S62) : Edge n tx ⟨3, (u : Int), (v : Int), z⟩ i u i ∧ Edge n tx ⟨3, (u : Int), (v : Int), z⟩ i v i := ⟨.inl ⟨rfl, .inl ⟨.inr (.inl rfl), rfl⟩⟩, .inl ⟨rfl, .inr ⟨rfl, rfl⟩⟩⟩
theorem runs_split {s u v i t j : Nat} {z : S62} (hq : Q s) (hne : s ≠ t) (hs : F[s]? = some ⟨3, (u : Int), (v : Int), z⟩) : Runs F Q n tx s i t j ↔ Runs F Q n tx u i t j ∨ Runs F Q n tx v i t j := by
  constructor
  · rintro ⟨m, h⟩;obtain ⟨m2, _, r⟩ := h.split hne hs;(exact r.imp (fun r => ⟨m2, r⟩) fun r => ⟨m2, r⟩)
  · rintro (h | h)
    · exact h.cons hq hs (split_edge u v i z).1
    · exact h.cons hq hs (split_edge u v i z).2
theorem Run.leave (hQ : ∀ s, Q1 s → Q s) {l1 : Nat} (hcl : ∀ s, Q1 s → ∀ st, F[s]? = some st → ∀ i u k, Edge n tx st i u k → Q1 u ∨ u = l1) {m s i t j : Nat} (h : Run F Q n tx m s i t j) (ht : ¬ Q1 t) (hs : Q1 s ∨ s = l1) : ∃ k m1 m2, m1 + m2 = m ∧ Run F Q1 n tx m1 s i l1 k ∧ Run F Q n tx m2 l1 k t j := by
  induction h with
  | refl s i =>
    rcases hs with hs | hs
    · exact absurd hs ht
    · subst hs; exact ⟨i, 0, 0, rfl, .refl _ _, .refl _ _⟩
  | step hq hs1 e r ih =>
    rename_i m s i u k t j st;by_cases hs2 : Q1 s
    · obtain ⟨k2, m1, m2, hm, r1, r2⟩ := ih ht (hcl _ hs2 _ hs1 _ _ _ e);exact ⟨k2, m1 + 1, m2, by omega, .step hs2 hs1 e r1, r2⟩
    · have := hs.resolve_left hs2;subst this;exact ⟨i, 0, m + 1, by omega, .refl _ _, .step hq hs1 e r⟩
end
structure Pt (F : List St) (Q : Nat → Prop) (n : Nat) (tx : Nat → Nat) (Q1 : Nat → Prop) (f1 l1 : Nat) (g : Grid) : Prop where
  sub : ∀ s, Q1 s → Q s
  cl : ∀ s, Q1 s → ∀ st, F[s]? = some st → ∀ i u k, Edge n tx st i u k → Q1 u ∨ u = l1
  st : Q1 f1 ∨ f1 = l1
  lang : ∀ i j, i ≤ n → (Runs F Q1 n tx f1 i l1 j ↔ g i j = true)
section
variable {F : List St} {Q Q1 : Nat → Prop} {n : Nat} {tx : Nat → Nat} {f1 l1 : Nat} {g : Grid}
theorem Pt.through (h : Pt F Q n tx Q1 f1 l1 g) {m i t j : Nat} (ht : ¬ Q1 t) (hi : i ≤ n) (r : Run F Q n tx m f1 i t j) : ∃ k m2, m2 ≤ m ∧ k ≤ n ∧ g i k = true ∧ Run F Q n tx m2 l1 k t j := by
  obtain ⟨k, m1, m2, hm, r1, r2⟩ := r.leave h.sub h.cl ht h.st;exact ⟨k, m2, by omega, (r1.le hi).2, (h.lang i k hi).1 ⟨m1, r1⟩, r2⟩
theorem Pt.lead (h : Pt F Q n tx Q1 f1 l1 g) {i k : Nat} (hi : i ≤ n) (hg : g i k = true) : Runs F Q n tx f1 i l1 k := by
  obtain ⟨m, r⟩ := (h.lang i k hi).2 hg;exact ⟨m, r.mono h.sub⟩
theorem Pt.iff (h : Pt F Q n tx Q1 f1 l1 g) {i t j : Nat} (ht : ¬ Q1 t) (hi : i ≤ n) : Runs F Q n tx f1 i t j ↔ ∃ k, k ≤ n ∧ g i k = true ∧ Runs F Q n tx l1 k t j := by
  constructor
  · rintro ⟨m, r⟩;obtain ⟨k, m2, _, h1, h2, r2⟩ := h.through ht hi r;exact ⟨k, h1, h2, m2, r2⟩
  · rintro ⟨k, h1, h2, r⟩;exact (h.lead hi h2).trans r
end
theorem wfI_zero : wfI 0 0 0 0 := by decide
def Blk (lo hi last q : Nat) : Prop := lo ≤ q ∧ q < hi ∧ q ≠ last
structure FineS (lo hi : Nat) (st : St) : Prop where
  k : 1 ≤ st.f0 ∧ st.f0 ≤ 5
  z : st.f0 ≠ 1 → st.f3 = ⟨0, 0, 0, 0⟩
  a : (lo : Int) ≤ st.f1 ∧ st.f1 < hi
  b : st.f0 ≠ 3 → st.f2 = 0
  b3 : st.f0 = 3 → (lo : Int) ≤ st.f2 ∧ st.f2 < hi
  wf : wfI st.f3.f0 st.f3.f1 st.f3.f2 st.f3.f3
theorem FineS.mono {lo hi lo2 hi2 : Nat} {st : St} (h : FineS lo hi st) (h1 : lo2 ≤ lo) (h2 : hi ≤ hi2) : FineS lo2 hi2 st :=
  ⟨h.k, h.z, by have := h.a; omega, h.b, fun e => by have := h.b3 e; omega, h.wf⟩
theorem FineS.edge {lo hi : Nat} {st : St} (h : FineS lo hi st) {n : Nat} {tx : Nat → Nat} {i u k : Nat} (e : Edge n tx st i u k) : lo ≤ u ∧ u < hi := by
  have ha := h.a;rcases e with ⟨_, ⟨_, h3⟩ | ⟨h2, h3⟩⟩ | ⟨_, _, _, _, h3⟩
  · omega
  · have := h.b3 h2; omega
  · omega
structure Good (n : Nat) (tx : Nat → Nat) (a : PMk) (g : Grid) : Prop where
  fst : ∀ s, s.length ≤ (a s).first ∧ (a s).first < (a s).out.length
  lst : ∀ s, s.length ≤ (a s).last ∧ (a s).last < (a s).out.length
  pre : ∀ s p, p < s.length → (a s).out[p]? = s[p]?
  en : ∀ s, (a s).out[(a s).last]? = some eSt
  fine : ∀ s p, Blk s.length (a s).out.length (a s).last p → ∃ st, (a s).out[p]? = some st ∧ FineS s.length (a s).out.length st
  lang : ∀ s F, (∀ p, Blk s.length (a s).out.length (a s).last p → F[p]? = (a s).out[p]?) → ∀ i j, i ≤ n → (Runs F (Blk s.length (a s).out.length (a s).last) n tx (a s).first i (a s).last j ↔ g i j = true)
theorem Good.pt {n : Nat} {tx : Nat → Nat} {a : PMk} {g : Grid} (h : Good n tx a g) (s : List St) {F : List St} {Q : Nat → Prop} (hF : ∀ p, Blk s.length (a s).out.length (a s).last p → F[p]? = (a s).out[p]?) (hQ : ∀ p, Blk s.length (a s).out.length (a s).last p → Q p) : Pt F Q n tx (Blk s.length (a s).out.length (a s).last) (a s).first (a s).last g := by
  refine ⟨hQ, fun q hq st hs i u k e => ?_, ?_, h.lang s F hF⟩
  · obtain ⟨st2, h1, h2⟩ := h.fine s q hq;rw [hF q hq, h1] at hs;injection hs with hs;subst hs;have := h2.edge e;by_cases e2 : u = (a s).last
    · exact .inr e2
    · exact .inl ⟨this.1, this.2, e2⟩
  · have := h.fst s;by_cases e2 : (a s).first = (a s).last
    · exact .inr e2
    · exact .inl ⟨this.1, this.2, e2⟩
theorem putA_ne (l : List St) {k p : Nat} (a : Int) (h : p ≠ k) : (putA l k a)[p]? = l[p]? := by
  unfold putA;split
  · rw [List.getElem?_set_ne (Ne.symm h)]
  · rfl
theorem putA_at {l : List St} {k : Nat} {x : St} (h : l[k]? = some x) (a : Int) : (putA l k a)[k]? = some ⟨x.f0, a, x.f2, x.f3⟩ := by
  have hk := (List.getElem?_eq_some_iff.1 h).1;unfold putA;rw [h];simp [hk]
theorem putB_ne (l : List St) {k p : Nat} (a : Int) (h : p ≠ k) : (putB l k a)[p]? = l[p]? := by
  unfold putB;split
  · rw [List.getElem?_set_ne (Ne.symm h)]
  · rfl
theorem putB_at {l : List St} {k : Nat} {x : St} (h : l[k]? = some x) (a : Int) : (putB l k a)[k]? = some ⟨x.f0, x.f1, a, x.f3⟩ := by
  have hk := (List.getElem?_eq_some_iff.1 h).1;unfold putB;rw [h];simp [hk]
theorem putBs_ne (last : Int) (l : List Nat) : ∀ (o : List St) {p : Nat}, ¬ p ∈ l → (putBs last o l)[p]? = o[p]? := by
  induction l with
  | nil => intro o p _; rfl
  | cons x l ih =>
    intro o p h
    show (putBs last (putB o x last) l)[p]? = _
    rw [ih _ (fun k => h (List.mem_cons_of_mem _ k)), putB_ne _ _ (fun k => h (by rw [k]; exact List.mem_cons_self))]
theorem putBs_at (last : Int) (l : List Nat) : ∀ (o : List St) {p : Nat} {a b : Int}, o[p]? = some (kSt 3 a b) → p ∈ l ∨ b = last → (putBs last o l)[p]? = some (kSt 3 a last) := by
  induction l with
  | nil =>
    intro o p a b h h2;rcases h2 with h2 | h2
    · cases h2
    · subst h2; exact h
  | cons x l ih =>
    intro o p a b h h2
    show (putBs last (putB o x last) l)[p]? = _
    by_cases e : p = x
    · subst e;exact ih _ (putB_at h last) (.inr rfl)
    · refine ih _ (by rw [putB_ne _ _ e]; exact h) ?_;rcases h2 with h2 | h2
      · rcases List.mem_cons.1 h2 with h3 | h3
        · exact absurd h3 e
        · exact .inl h3
      · exact .inr h2
theorem app_at (l : List St) (x : St) : (l ++ [x])[l.length]? = some x := by simp
theorem app_lt (l m : List St) {p : Nat} (h : p < l.length) : (l ++ m)[p]? = l[p]? := List.getElem?_append_left h
theorem good_leaf (n : Nat) (tx : Nat → Nat) (k : Int) (z : S62) (g : Grid) (hk : k = 1 ∨ k = 2 ∨ k = 4 ∨ k = 5) (hz : k ≠ 1 → z = ⟨0, 0, 0, 0⟩) (hw : wfI z.f0 z.f1 z.f2 z.f3)
    (hg : ∀ i j u : Nat, i ≤ n → (Edge n tx ⟨k, (u : Int), 0, z⟩ i u j ↔ g i j = true)) : Good n tx (leafM k z) g := by
  (have hlen : ∀ s, (leafM k z s).out.length = s.length + 2 := fun s => by simp [leafM]);(have h1 : ∀ s, (leafM k z s).out[s.length]? = some ⟨k, ((s.length + 1 : Nat) : Int), 0, z⟩ := fun s => by simp [leafM]);(have h2 : ∀ s, (leafM k z s).out[s.length + 1]? = some eSt := fun s => by simp [leafM]);(have e1 : ∀ s, (leafM k z s).first = s.length := fun s => rfl);(have e2 : ∀ s, (leafM k z s).last = s.length + 1 := fun s => rfl);refine ⟨fun s => by rw [hlen, e1]; omega, fun s => by rw [hlen, e2]; omega, fun s p hp => app_lt _ _ hp, fun s => by rw [e2]; exact h2 s, fun s p hp => ?_, fun s F hF i j hi => ?_⟩
  · rw [hlen, e2] at hp;unfold Blk at hp;(have : p = s.length := by omega);subst this;refine ⟨_, h1 s, ⟨?_, hz, ?_, fun _ => rfl, ?_, hw⟩⟩
    · show 1 ≤ k ∧ k ≤ 5
      omega
    · show ((s.length : Nat) : Int) ≤ ((s.length + 1 : Nat) : Int) ∧ ((s.length + 1 : Nat) : Int) < _
      rw [hlen]; omega
    · show k = 3 → _
      omega
  · rw [hlen, e1, e2] at *;have hq : Blk s.length (s.length + 2) (s.length + 1) s.length := ⟨by omega, by omega, by omega⟩;(have hs : F[s.length]? = some ⟨k, ((s.length + 1 : Nat) : Int), 0, z⟩ := by rw [hF _ hq, h1]);rw [← hg i j (s.length + 1) hi];constructor
    · rintro ⟨m, r⟩;obtain ⟨m2, u, p, rfl, e, r⟩ := r.first (by omega) hs
      have hu : u = s.length + 1 := by
        rcases e with ⟨_, ⟨_, h3⟩ | ⟨h3, _⟩⟩ | ⟨_, _, _, _, h3⟩
        · simp only at h3; omega
        · have : k = 3 := h3;omega
        · simp only at h3; omega
      subst hu;have := r.at_end (fun h => h.2.2 rfl);subst this;exact e
    · exact fun e => (Runs.refl _ _).cons hq hs e
theorem good_cat {n : Nat} {tx : Nat → Nat} {a b : PMk} {g h : Grid} (ha : Good n tx a g) (hb : Good n tx b h) : Good n tx (catM a b) (behindG n g h) := by
  (have hlen : ∀ s, (catM a b s).out.length = (b (a s).out).out.length := fun s => putA_len _ _ _);(have e1 : ∀ s, (catM a b s).first = (a s).first := fun s => rfl);(have e2 : ∀ s, (catM a b s).last = (b (a s).out).last := fun s => rfl);have hal := ha.lst;have haf := ha.fst;(have hbl := fun s => hb.lst (a s).out);(have hbf := fun s => hb.fst (a s).out)
  have g1 : ∀ s p, p ≠ (a s).last → p < (a s).out.length → (catM a b s).out[p]? = (a s).out[p]? := fun s p h1 h2 => by
    show (putA _ _ _)[p]? = _
    rw [putA_ne _ _ h1, hb.pre _ _ h2]
  have g2 : ∀ s, (catM a b s).out[(a s).last]? = some ⟨2, ((b (a s).out).first : Int), 0, ⟨0, 0, 0, 0⟩⟩ := fun s => by
    have := hal s;refine putA_at (x := eSt) ?_ _;rw [hb.pre _ _ this.2, ha.en]
  have g3 : ∀ s p, (a s).out.length ≤ p → (catM a b s).out[p]? = (b (a s).out).out[p]? := fun s p h1 => by
    have := hal s;exact putA_ne _ _ (by omega)
  refine ⟨fun s => ?_, fun s => ?_, fun s p hp => ?_, fun s => ?_, fun s p hp => ?_, fun s F hF i j hi => ?_⟩
  · have := hal s; have := haf s; have := hbl s;rw [hlen, e1]; omega
  · have := hal s; have := hbl s;rw [hlen, e2]; omega
  · have := hal s;rw [g1 s p (by omega) (by omega), ha.pre _ _ hp]
  · have := hbl s;rw [e2, g3 s _ (by omega), hb.en]
  · have := hal s; have := haf s; have := hbl s; have := hbf s;rw [hlen, e2] at hp;rw [hlen];obtain ⟨p1, p2, p3⟩ := hp;by_cases c1 : p < (a s).out.length
    · by_cases c2 : p = (a s).last
      · subst c2;refine ⟨_, g2 s, ⟨by show (1 : Int) ≤ 2 ∧ (2 : Int) ≤ 5; omega, fun _ => rfl, ?_, fun _ => rfl, fun e => absurd (show (2 : Int) = 3 from e) (by decide), wfI_zero⟩⟩
        show ((s.length : Nat) : Int) ≤ (((b (a s).out).first : Nat) : Int) ∧ (((b (a s).out).first : Nat) : Int) < _
        omega
      · obtain ⟨st, h1, h2⟩ := ha.fine s p ⟨p1, c1, c2⟩;exact ⟨st, by rw [g1 s p c2 c1]; exact h1, h2.mono (by omega) (by omega)⟩
    · obtain ⟨st, h1, h2⟩ := hb.fine (a s).out p ⟨by omega, p2, p3⟩;exact ⟨st, by rw [g3 s p (by omega)]; exact h1, h2.mono (by omega) (by omega)⟩
  · have := hal s; have := haf s; have := hbl s; have := hbf s;rw [hlen, e1, e2] at *
    have pa := ha.pt s (F := F) (Q := Blk s.length (b (a s).out).out.length (b (a s).out).last) (fun p hp => by
      rw [hF p ⟨hp.1, by have := hp.2.1; omega, by have := hp.2.1; omega⟩]
      exact g1 s p hp.2.2 hp.2.1) (fun p hp => ⟨hp.1, by have := hp.2.1; omega, by have := hp.2.1; omega⟩)
    have pb := hb.pt (a s).out (F := F) (Q := Blk s.length (b (a s).out).out.length (b (a s).out).last) (fun p hp => by
      rw [hF p ⟨by have := hp.1; omega, hp.2.1, hp.2.2⟩]
      exact g3 s p hp.1) (fun p hp => ⟨by have := hp.1; omega, hp.2.1, hp.2.2⟩)
    have hql : Blk s.length (b (a s).out).out.length (b (a s).out).last (a s).last := ⟨by omega, by omega, by omega⟩;(have hjl : F[(a s).last]? = some ⟨2, ((b (a s).out).first : Int), 0, ⟨0, 0, 0, 0⟩⟩ := by rw [hF _ hql, g2]);rw [pa.iff (fun h => by have := h.2.1; omega) hi, behindG_iff];constructor
    · rintro ⟨k, hk, hg, r⟩;rw [runs_jump hql (by omega) hjl, pb.iff (fun h => h.2.2 rfl) hk] at r;obtain ⟨m, hm, hh, r⟩ := r;have := (runs_end (fun h => h.2.2 rfl)).1 r;subst this;obtain ⟨x1, y1⟩ := (pa.lead hi hg);have l1 := y1.le hi;obtain ⟨x2, y2⟩ := (pb.lead hk hh);have l2 := y2.le hk;exact ⟨by omega, hm, k, by omega, by omega, hg, hh⟩
    · rintro ⟨h1, h2, k, h3, h4, hg, hh⟩;refine ⟨k, by omega, hg, ?_⟩;rw [runs_jump hql (by omega) hjl, pb.iff (fun h => h.2.2 rfl) (by omega)];exact ⟨j, h2, hh, Runs.refl _ _⟩
theorem good_or {n : Nat} {tx : Nat → Nat} {a b : PMk} {g h : Grid} (ha : Good n tx a g) (hb : Good n tx b h) : Good n tx (orM a b) (eitherG n g h) := by
  have hlen : ∀ s, (orM a b s).out.length = (b (a s).out).out.length + 2 := fun s => by
    show (putA (putA _ _ _) _ _).length = _
    rw [putA_len, putA_len]; simp
  (have e1 : ∀ s, (orM a b s).first = (b (a s).out).out.length := fun s => rfl);(have e2 : ∀ s, (orM a b s).last = (b (a s).out).out.length + 1 := fun s => rfl);have hal := ha.lst;have haf := ha.fst;(have hbl := fun s => hb.lst (a s).out);(have hbf := fun s => hb.fst (a s).out)
  have g1 : ∀ s p, p ≠ (a s).last → p < (a s).out.length → (orM a b s).out[p]? = (a s).out[p]? := fun s p h1 h2 => by
    have := hbl s
    show (putA (putA _ _ _) _ _)[p]? = _
    rw [putA_ne _ _ (by omega), putA_ne _ _ h1, app_lt _ _ (by simp; omega), app_lt _ _ (by omega), hb.pre _ _ h2]
  have g2 : ∀ s, (orM a b s).out[(a s).last]? = some ⟨2, (((b (a s).out).out.length + 1 : Nat) : Int), 0, ⟨0, 0, 0, 0⟩⟩ := fun s => by
    have := hal s;have := hbl s
    show (putA (putA _ _ _) _ _)[_]? = _
    rw [putA_ne _ _ (by omega)];refine putA_at (x := eSt) ?_ _;rw [app_lt _ _ (by simp; omega), app_lt _ _ (by omega), hb.pre _ _ (by omega), ha.en]
  have g3 : ∀ s p, (a s).out.length ≤ p → p < (b (a s).out).out.length → p ≠ (b (a s).out).last → (orM a b s).out[p]? = (b (a s).out).out[p]? := fun s p h1 h2 h3 => by
    have := hal s
    show (putA (putA _ _ _) _ _)[p]? = _
    rw [putA_ne _ _ h3, putA_ne _ _ (by omega), app_lt _ _ (by simp; omega), app_lt _ _ (by omega)]
  have g4 : ∀ s, (orM a b s).out[(b (a s).out).last]? = some ⟨2, (((b (a s).out).out.length + 1 : Nat) : Int), 0, ⟨0, 0, 0, 0⟩⟩ := fun s => by
    have := hal s;have := hbl s;refine putA_at (x := eSt) ?_ _;rw [putA_ne _ _ (by omega), app_lt _ _ (by simp; omega), app_lt _ _ (by omega), hb.en]
  have g5 : ∀ s, (orM a b s).out[(b (a s).out).out.length]? = some ⟨3, ((a s).first : Int), ((b (a s).out).first : Int), ⟨0, 0, 0, 0⟩⟩ := fun s => by
    have := hal s;have := hbl s
    show (putA (putA _ _ _) _ _)[_]? = _
    rw [putA_ne _ _ (by omega), putA_ne _ _ (by omega), app_lt _ _ (by simp), app_at];rfl
  have g6 : ∀ s, (orM a b s).out[(b (a s).out).out.length + 1]? = some eSt := fun s => by
    have := hal s;have := hbl s
    show (putA (putA _ _ _) _ _)[_]? = _
    rw [putA_ne _ _ (by omega), putA_ne _ _ (by omega)];have := app_at ((b (a s).out).out ++ [kSt 3 (a s).first (b (a s).out).first]) eSt;rwa [List.length_append] at this
  refine ⟨fun s => ?_, fun s => ?_, fun s p hp => ?_, fun s => ?_, fun s p hp => ?_, fun s F hF i j hi => ?_⟩
  · have := hal s; have := hbl s;rw [hlen, e1]; omega
  · have := hal s; have := hbl s;rw [hlen, e2]; omega
  · have := hal s;rw [g1 s p (by omega) (by omega), ha.pre _ _ hp]
  · rw [e2]; exact g6 s
  · have := hal s; have := haf s; have := hbl s; have := hbf s;rw [hlen, e2] at hp;rw [hlen];obtain ⟨p1, p2, p3⟩ := hp
    have hj : FineS s.length ((b (a s).out).out.length + 2) ⟨2, (((b (a s).out).out.length + 1 : Nat) : Int), 0, ⟨0, 0, 0, 0⟩⟩ := by
      refine ⟨by show (1 : Int) ≤ 2 ∧ (2 : Int) ≤ 5; omega, fun _ => rfl, ?_, fun _ => rfl, fun e => absurd (show (2 : Int) = 3 from e) (by decide), wfI_zero⟩
      show ((s.length : Nat) : Int) ≤ (((b (a s).out).out.length + 1 : Nat) : Int) ∧ (((b (a s).out).out.length + 1 : Nat) : Int) < _
      omega
    by_cases c1 : p < (a s).out.length
    · by_cases c2 : p = (a s).last
      · subst c2; exact ⟨_, g2 s, hj⟩
      · obtain ⟨st, h1, h2⟩ := ha.fine s p ⟨p1, c1, c2⟩;exact ⟨st, by rw [g1 s p c2 c1]; exact h1, h2.mono (by omega) (by omega)⟩
    · by_cases c3 : p < (b (a s).out).out.length
      · by_cases c2 : p = (b (a s).out).last
        · subst c2; exact ⟨_, g4 s, hj⟩
        · obtain ⟨st, h1, h2⟩ := hb.fine (a s).out p ⟨by omega, c3, c2⟩;exact ⟨st, by rw [g3 s p (by omega) c3 c2]; exact h1, h2.mono (by omega) (by omega)⟩
      · (have : p = (b (a s).out).out.length := by omega);subst this;refine ⟨_, g5 s, ⟨by show (1 : Int) ≤ 3 ∧ (3 : Int) ≤ 5; omega, fun _ => rfl, ?_, fun e => absurd rfl e, fun _ => ?_, wfI_zero⟩⟩
        · show ((s.length : Nat) : Int) ≤ (((a s).first : Nat) : Int) ∧ (((a s).first : Nat) : Int) < _
          omega
        · show ((s.length : Nat) : Int) ≤ (((b (a s).out).first : Nat) : Int) ∧ (((b (a s).out).first : Nat) : Int) < _
          omega
  · have := hal s; have := haf s; have := hbl s; have := hbf s;rw [hlen, e1, e2] at *
    have pa := ha.pt s (F := F) (Q := Blk s.length ((b (a s).out).out.length + 2) ((b (a s).out).out.length + 1)) (fun p hp => by
      rw [hF p ⟨hp.1, by have := hp.2.1; omega, by have := hp.2.1; omega⟩]
      exact g1 s p hp.2.2 hp.2.1) (fun p hp => ⟨hp.1, by have := hp.2.1; omega, by have := hp.2.1; omega⟩)
    have pb := hb.pt (a s).out (F := F) (Q := Blk s.length ((b (a s).out).out.length + 2) ((b (a s).out).out.length + 1)) (fun p hp => by
      rw [hF p ⟨by have := hp.1; omega, by have := hp.2.1; omega, by have := hp.2.1; omega⟩]
      exact g3 s p hp.1 hp.2.1 hp.2.2) (fun p hp => ⟨by have := hp.1; omega, by have := hp.2.1; omega, by have := hp.2.1; omega⟩)
    have q0 : Blk s.length ((b (a s).out).out.length + 2) ((b (a s).out).out.length + 1) (b (a s).out).out.length := ⟨by omega, by omega, by omega⟩;have qa : Blk s.length ((b (a s).out).out.length + 2) ((b (a s).out).out.length + 1) (a s).last := ⟨by omega, by omega, by omega⟩;have qb : Blk s.length ((b (a s).out).out.length + 2) ((b (a s).out).out.length + 1) (b (a s).out).last := ⟨by omega, by omega, by omega⟩;(have j0 : F[(b (a s).out).out.length]? = some ⟨3, ((a s).first : Int), ((b (a s).out).first : Int), ⟨0, 0, 0, 0⟩⟩ := by rw [hF _ q0, g5]);(have ja : F[(a s).last]? = some ⟨2, (((b (a s).out).out.length + 1 : Nat) : Int), 0, ⟨0, 0, 0, 0⟩⟩ := by rw [hF _ qa, g2]);(have jb : F[(b (a s).out).last]? = some ⟨2, (((b (a s).out).out.length + 1 : Nat) : Int), 0, ⟨0, 0, 0, 0⟩⟩ := by rw [hF _ qb, g4]);rw [runs_split q0 (by omega) j0, pa.iff (fun h => by have := h.2.1; omega) hi, pb.iff (fun h => by have := h.2.1; omega) hi, eitherG_iff];constructor
    · rintro (⟨k, hk, hg, r⟩ | ⟨k, hk, hg, r⟩)
      · rw [runs_jump qa (by omega) ja] at r;have := (runs_end (fun h => h.2.2 rfl)).1 r;subst this;obtain ⟨x1, y1⟩ := (pa.lead hi hg);have l1 := y1.le hi;exact ⟨by omega, hk, .inl hg⟩
      · rw [runs_jump qb (by omega) jb] at r;have := (runs_end (fun h => h.2.2 rfl)).1 r;subst this;obtain ⟨x1, y1⟩ := (pb.lead hi hg);have l1 := y1.le hi;exact ⟨by omega, hk, .inr hg⟩
    · rintro ⟨h1, h2, hg | hg⟩
      · refine .inl ⟨j, h2, hg, ?_⟩;rw [runs_jump qa (by omega) ja];exact Runs.refl _ _
      · refine .inr ⟨j, h2, hg, ?_⟩;rw [runs_jump qb (by omega) jb];exact Runs.refl _ _
end Go.Proofs.YtfjemaeidmikmaaDoorQ
