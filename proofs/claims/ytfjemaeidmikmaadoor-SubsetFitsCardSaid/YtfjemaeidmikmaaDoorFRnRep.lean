import Derived.Test.YtfjemaeidmikmaaDoorFRnPure
set_option linter.unusedVariables false
namespace Go.Proofs.YtfjemaeidmikmaaDoorQ
open Go.Proofs.Bs Go.Proofs.YtfjemaeidmikmaaDoor
theorem pow_bounds {n : Nat} {g : Grid} (k : Nat) {i j : Nat} (h : powG n g k i j = true) : i ≤ j ∧ j ≤ n := by
  cases k with
  | zero =>
    simp only [powG, evenG, decide_eq_true_eq] at h;omega
  | succ k =>
    have := behindG_iff.1 h;omega
theorem repG_iff {n : Nat} {g : Grid} (lo : Nat) : ∀ (m : Nat) {i j : Nat}, repG n g lo m i j = true ↔ ∃ c, lo ≤ c ∧ c ≤ lo + m ∧ powG n g c i j = true := by
  intro m
  induction m with
  | zero =>
    intro i j;constructor
    · intro h; exact ⟨lo, by omega, by omega, h⟩
    · rintro ⟨c, h1, h2, h⟩;(have : c = lo := by omega);subst this;exact h
  | succ m ih =>
    intro i j
    show eitherG n (repG n g lo m) (powG n g (lo + m + 1)) i j = true ↔ _
    rw [eitherG_iff, ih];constructor
    · rintro ⟨_, _, ⟨c, h1, h2, h⟩ | h⟩
      · exact ⟨c, h1, by omega, h⟩
      · exact ⟨lo + m + 1, by omega, by omega, h⟩
    · rintro ⟨c, h1, h2, h⟩;have := pow_bounds c h;refine ⟨this.1, this.2, ?_⟩;by_cases e : c = lo + m + 1
      · subst e; exact .inr h
      · exact .inl ⟨c, h1, by omega, h⟩
theorem pow_cut {n : Nat} {g : Grid} (lo : Nat) : ∀ (d : Nat) {i j : Nat}, powG n g (lo + d) i j = true → ∃ d2, d2 ≤ j - i ∧ powG n g (lo + d2) i j = true := by
  intro d
  induction d with
  | zero => intro i j h; exact ⟨0, by omega, h⟩
  | succ d ih =>
    intro i j h;obtain ⟨h1, h2, m, h3, h4, h5, h6⟩ := behindG_iff.1 (show behindG n (powG n g (lo + d)) g i j = true from h);obtain ⟨d2, h7, h8⟩ := ih h5;by_cases e : m = j
    · subst e; exact ⟨d2, h7, h8⟩
    · exact ⟨d2 + 1, by omega, behindG_iff.2 ⟨h1, h2, m, h3, h4, h8, h6⟩⟩
theorem rep_all {n : Nat} {g : Grid} (lo : Nat) {i j : Nat} : repG n g lo n i j = true ↔ ∃ c, lo ≤ c ∧ powG n g c i j = true := by
  rw [repG_iff];constructor
  · rintro ⟨c, h1, _, h⟩; exact ⟨c, h1, h⟩
  · rintro ⟨c, h1, h⟩;obtain ⟨d, rfl⟩ := Nat.le.dest h1;obtain ⟨d2, h2, h3⟩ := pow_cut lo d h;have := pow_bounds _ h;exact ⟨lo + d2, by omega, by omega, h3⟩
structure LpI (s : List St) (q : Lp) : Prop where
  al : s.length ≤ q.ahead ∧ q.ahead < q.out.length
  pre : ∀ p, p < s.length → q.out[p]? = s[p]?
  ae : q.out[q.ahead]? = some eSt
  fine : ∀ p, Blk s.length q.out.length q.ahead p → ¬ p ∈ q.splits → ∃ st, q.out[p]? = some st ∧ FineS s.length q.out.length st
  spl : ∀ p, p ∈ q.splits → Blk s.length q.out.length q.ahead p ∧ ∃ a : Nat, q.out[p]? = some (kSt 3 a 0) ∧ s.length ≤ a ∧ a < q.out.length
structure Keeps (x y : Lp) : Prop where
  le : x.out.length ≤ y.out.length
  at_ : ∀ p, p < x.out.length → p ≠ x.ahead → y.out[p]? = x.out[p]?
  al : y.ahead = x.ahead ∨ x.out.length ≤ y.ahead
  new : ∀ p, p ∈ y.splits → p ∈ x.splits ∨ x.out.length ≤ p
  old : ∀ p, p ∈ x.splits → p ∈ y.splits
theorem Keeps.refl (x : Lp) : Keeps x x := ⟨Nat.le_refl _, fun _ _ _ => rfl, .inl rfl, fun _ h => .inl h, fun _ h => h⟩
theorem Keeps.trans {x y z : Lp} (h : Keeps x y) (k : Keeps y z) : Keeps x z := by
  have h1 := h.le;have h2 := k.le;refine ⟨by omega, fun p hp hne => ?_, ?_, fun p hp => ?_, fun p hp => k.old p (h.old p hp)⟩
  · have ha := h.al;rw [k.at_ p (by omega) (by omega), h.at_ p hp hne]
  · have ha := h.al;have hb := k.al;omega
  · rcases k.new p hp with h3 | h3
    · exact h.new p h3
    · exact .inr (by omega)
section
variable {n : Nat} {tx : Nat → Nat} {a : PMk} {g : Grid}
theorem lo_keeps (ha : Good n tx a g) (q : Lp) : Keeps q (loS a q) := by
  have h1 := ha.lst q.out;have hl : (loS a q).out.length = (a q.out).out.length := putA_len _ _ _;refine ⟨by rw [hl]; omega, fun p hp hne => ?_, .inr h1.1, fun p hp => .inl hp, fun p hp => hp⟩
  show (putA _ _ _)[p]? = _
  rw [putA_ne _ _ hne, ha.pre _ _ hp]
theorem hi_len (q : Lp) : (hiS a q).out.length = (a q.out).out.length + 1 := by
  show (putA _ _ _).length = _
  rw [putA_len]; simp
theorem hi_keeps (ha : Good n tx a g) (q : Lp) : Keeps q (hiS a q) := by
  have h1 := ha.lst q.out;have hl := hi_len (a := a) q;refine ⟨by omega, fun p hp hne => ?_, .inr h1.1, fun p hp => ?_, fun p hp => List.mem_append_left _ hp⟩
  · show (putA _ _ _)[p]? = _
    rw [putA_ne _ _ hne, app_lt _ _ (by omega), ha.pre _ _ hp]
  · rcases List.mem_append.1 hp with h | h
    · exact .inl h
    · rw [List.mem_singleton] at h;exact .inr (by omega)
theorem lo_first (s : List St) : LpI s ⟨s ++ [eSt], s.length, []⟩ := by
  refine ⟨⟨Nat.le_refl _, by simp⟩, fun p hp => app_lt _ _ hp, app_at _ _, fun p hp _ => ?_, fun p hp => by cases hp⟩;obtain ⟨h1, h2, h3⟩ := hp;simp at h1 h2 h3;omega
theorem fine_jump {lo hi : Nat} {u : Nat} (h1 : lo ≤ u) (h2 : u < hi) : FineS lo hi (kSt 2 (u : Int) 0) := by
  refine ⟨by show (1 : Int) ≤ 2 ∧ (2 : Int) ≤ 5; omega, fun _ => rfl, ?_, fun _ => rfl, fun e => absurd (show (2 : Int) = 3 from e) (by decide), wfI_zero⟩
  show ((lo : Nat) : Int) ≤ (u : Int) ∧ (u : Int) < hi
  omega
theorem fine_split {lo hi : Nat} {u v : Nat} (h1 : lo ≤ u) (h2 : u < hi) (h3 : lo ≤ v) (h4 : v < hi) : FineS lo hi (kSt 3 (u : Int) (v : Int)) := by
  refine ⟨by show (1 : Int) ≤ 3 ∧ (3 : Int) ≤ 5; omega, fun _ => rfl, ?_, fun e => absurd rfl e, fun _ => ?_, wfI_zero⟩
  · show ((lo : Nat) : Int) ≤ (u : Int) ∧ (u : Int) < hi
    omega
  · show ((lo : Nat) : Int) ≤ (v : Int) ∧ (v : Int) < hi
    omega
theorem lo_next (ha : Good n tx a g) {s : List St} {q : Lp} (h : LpI s q) : LpI s (loS a q) := by
  have h1 := ha.lst q.out;have h2 := ha.fst q.out;have hl : (loS a q).out.length = (a q.out).out.length := putA_len _ _ _;have he : (loS a q).ahead = (a q.out).last := rfl;have hs : (loS a q).splits = q.splits := rfl;have hal := h.al;have hK := lo_keeps ha q;(have gn : ∀ p, q.out.length ≤ p → (loS a q).out[p]? = (a q.out).out[p]? := fun p hp => putA_ne _ _ (by omega));have ga : (loS a q).out[q.ahead]? = some (kSt 2 (a q.out).first 0) := putA_at (x := eSt) (by rw [ha.pre _ _ hal.2]; exact h.ae) _;refine ⟨by rw [he, hl]; omega, fun p hp => ?_, ?_, fun p hp hns => ?_, fun p hp => ?_⟩
  · rw [hK.at_ p (by omega) (by omega), h.pre p hp]
  · rw [he, gn _ (by omega), ha.en]
  · rw [hl, he] at hp;rw [hl];obtain ⟨p1, p2, p3⟩ := hp;by_cases c1 : p < q.out.length
    · by_cases c2 : p = q.ahead
      · subst c2;exact ⟨_, ga, fine_jump (by omega) (by omega)⟩
      · obtain ⟨st, f1, f2⟩ := h.fine p ⟨p1, c1, c2⟩ hns;exact ⟨st, by rw [hK.at_ p c1 c2]; exact f1, f2.mono (by omega) (by omega)⟩
    · obtain ⟨st, f1, f2⟩ := ha.fine q.out p ⟨by omega, p2, p3⟩;exact ⟨st, by rw [gn p (by omega)]; exact f1, f2.mono (by omega) (by omega)⟩
  · obtain ⟨⟨p1, p2, p3⟩, b, f1, f2, f3⟩ := h.spl p hp;rw [hl, he];exact ⟨⟨p1, by omega, by omega⟩, b, by rw [hK.at_ p p2 p3]; exact f1, f2, by omega⟩
theorem hi_next (ha : Good n tx a g) {s : List St} {q : Lp} (h : LpI s q) : LpI s (hiS a q) := by
  have h1 := ha.lst q.out;have h2 := ha.fst q.out;have hl := hi_len (a := a) q;have he : (hiS a q).ahead = (a q.out).last := rfl;have hs : (hiS a q).splits = q.splits ++ [(a q.out).out.length] := rfl;have hal := h.al;have hK := hi_keeps ha q
  have gn : ∀ p, q.out.length ≤ p → p < (a q.out).out.length → (hiS a q).out[p]? = (a q.out).out[p]? := fun p hp hp2 => by
    show (putA _ _ _)[p]? = _
    rw [putA_ne _ _ (by omega), app_lt _ _ hp2]
  have ga : (hiS a q).out[q.ahead]? = some (kSt 2 (a q.out).out.length 0) := putA_at (x := eSt) (by rw [app_lt _ _ (by omega), ha.pre _ _ hal.2]; exact h.ae) _
  have gs : (hiS a q).out[(a q.out).out.length]? = some (kSt 3 (a q.out).first 0) := by
    show (putA _ _ _)[_]? = _
    rw [putA_ne _ _ (by omega), app_at]
  refine ⟨by rw [he, hl]; omega, fun p hp => ?_, ?_, fun p hp hns => ?_, fun p hp => ?_⟩
  · rw [hK.at_ p (by omega) (by omega), h.pre p hp]
  · rw [he, gn _ (by omega) (by omega), ha.en]
  · rw [hl, he] at hp;rw [hl];rw [hs, List.mem_append, List.mem_singleton] at hns;obtain ⟨p1, p2, p3⟩ := hp;by_cases c1 : p < q.out.length
    · by_cases c2 : p = q.ahead
      · subst c2;exact ⟨_, ga, fine_jump (by omega) (by omega)⟩
      · obtain ⟨st, f1, f2⟩ := h.fine p ⟨p1, c1, c2⟩ (fun k => hns (.inl k));exact ⟨st, by rw [hK.at_ p c1 c2]; exact f1, f2.mono (by omega) (by omega)⟩
    · have c3 : p < (a q.out).out.length := by
        (have : p ≠ (a q.out).out.length := fun k => hns (.inr k));omega
      obtain ⟨st, f1, f2⟩ := ha.fine q.out p ⟨by omega, c3, p3⟩;exact ⟨st, by rw [gn p (by omega) c3]; exact f1, f2.mono (by omega) (by omega)⟩
  · rw [hs, List.mem_append, List.mem_singleton] at hp;rw [hl, he];rcases hp with hp | hp
    · obtain ⟨⟨p1, p2, p3⟩, b, f1, f2, f3⟩ := h.spl p hp;exact ⟨⟨p1, by omega, by omega⟩, b, by rw [hK.at_ p p2 p3]; exact f1, f2, by omega⟩
    · subst hp;exact ⟨⟨by omega, by omega, by omega⟩, (a q.out).first, gs, by omega, by omega⟩
theorem loP_I (ha : Good n tx a g) (lo : Int) (s : List St) (k : Nat) : LpI s (loP a lo s k) := by
  induction k with
  | zero => exact lo_first s
  | succ k ih => exact lo_next ha ih
theorem hiP_I (ha : Good n tx a g) (lo : Int) (s : List St) (k : Nat) : LpI s (hiP a lo s k) := by
  induction k with
  | zero => exact loP_I ha lo s _
  | succ k ih => exact hi_next ha ih
theorem loP_keeps (ha : Good n tx a g) (lo : Int) (s : List St) (k m : Nat) : Keeps (loP a lo s k) (loP a lo s (k + m)) := by
  induction m with
  | zero => exact Keeps.refl _
  | succ m ih => exact ih.trans (lo_keeps ha _)
theorem hiP_keeps (ha : Good n tx a g) (lo : Int) (s : List St) (k m : Nat) : Keeps (hiP a lo s k) (hiP a lo s (k + m)) := by
  induction m with
  | zero => exact Keeps.refl _
  | succ m ih => exact ih.trans (hi_keeps ha _)
theorem end_len (f : Nat) (r : Lp) (go : Nat) : (endM f r go).out.length = r.out.length + 1 := by
  show (putBs _ _ _).length = _
  rw [putBs_len, putA_len]; simp
theorem end_old {s : List St} {r : Lp} (h : LpI s r) (f go : Nat) {p : Nat} (h1 : p < r.out.length) (h2 : p ≠ r.ahead) (h3 : ¬ p ∈ r.splits) : (endM f r go).out[p]? = r.out[p]? := by
  show (putBs _ _ _)[p]? = _
  rw [putBs_ne _ _ _ h3, putA_ne _ _ h2, app_lt _ _ h1]
theorem end_spl {s : List St} {r : Lp} (h : LpI s r) (f go : Nat) {p u : Nat} (h3 : p ∈ r.splits) (h1 : r.out[p]? = some (kSt 3 u 0)) : (endM f r go).out[p]? = some (kSt 3 u (r.out.length : Nat)) := by
  obtain ⟨⟨p1, p2, p3⟩, _⟩ := h.spl p h3;refine putBs_at _ _ _ (b := 0) ?_ (.inl h3);rw [putA_ne _ _ p3, app_lt _ _ p2, h1]
theorem end_ahead {s : List St} {r : Lp} (h : LpI s r) (f go : Nat) : (endM f r go).out[r.ahead]? = some (kSt 2 go 0) := by
  show (putBs _ _ _)[_]? = _
  rw [putBs_ne _ _ _ (fun k => (h.spl _ k).1.2.2 rfl)];exact putA_at (x := eSt) (by rw [app_lt _ _ h.al.2, h.ae]) _
theorem end_last {s : List St} {r : Lp} (h : LpI s r) (f go : Nat) : (endM f r go).out[r.out.length]? = some eSt := by
  have := h.al
  show (putBs _ _ _)[_]? = _
  rw [putBs_ne _ _ _ (fun k => by have := (h.spl _ k).1.2.1; omega), putA_ne _ _ (by omega), app_at]
theorem end_fine {s : List St} {r : Lp} (h : LpI s r) (f : Nat) {go : Nat} (g1 : s.length ≤ go) (g2 : go ≤ r.out.length) (p : Nat) (hp : Blk s.length (r.out.length + 1) r.out.length p) : ∃ st, (endM f r go).out[p]? = some st ∧ FineS s.length (r.out.length + 1) st := by
  obtain ⟨p1, p2, p3⟩ := hp;have hal := h.al;by_cases c1 : p = r.ahead
  · subst c1;exact ⟨_, end_ahead h f go, fine_jump g1 (by omega)⟩
  · by_cases c2 : p ∈ r.splits
    · obtain ⟨_, u, f1, f2, f3⟩ := h.spl p c2;exact ⟨_, end_spl h f go c2 f1, fine_split f2 (by omega) (by omega) (by omega)⟩
    · obtain ⟨st, f1, f2⟩ := h.fine p ⟨p1, by omega, c1⟩ c2;exact ⟨st, by rw [end_old h f go (by omega) c1 c2]; exact f1, f2.mono (Nat.le_refl _) (by omega)⟩
structure LoR (F : List St) (a : PMk) (q : Lp) : Prop where
  pt : ∀ p, Blk q.out.length (a q.out).out.length (a q.out).last p → F[p]? = (a q.out).out[p]?
  jump : F[q.ahead]? = some (kSt 2 (a q.out).first 0)
structure HiR (F : List St) (a : PMk) (q : Lp) (last : Nat) : Prop where
  pt : ∀ p, Blk q.out.length (a q.out).out.length (a q.out).last p → F[p]? = (a q.out).out[p]?
  jump : F[q.ahead]? = some (kSt 2 (a q.out).out.length 0)
  split : F[(a q.out).out.length]? = some (kSt 3 (a q.out).first (last : Nat))
theorem lo_round (ha : Good n tx a g) {s : List St} {q r : Lp} (h : LpI s q) (hr : LpI s r) (hK : Keeps (loS a q) r) (f go : Nat) {F : List St} (hF : ∀ p, Blk s.length (r.out.length + 1) r.out.length p → F[p]? = (endM f r go).out[p]?) : LoR F a q := by
  have h1 := ha.lst q.out;have h2 := ha.fst q.out;have hl : (loS a q).out.length = (a q.out).out.length := putA_len _ _ _;have he : (loS a q).ahead = (a q.out).last := rfl;have hs : (loS a q).splits = q.splits := rfl;have hal := h.al;have hle := hK.le;have hka := hK.al;have hnew := hK.new;rw [hl] at hle hka hnew;rw [he] at hka
  have key : ∀ p, s.length ≤ p → p < (a q.out).out.length → p ≠ (a q.out).last → (¬ p ∈ q.splits) → F[p]? = (loS a q).out[p]? := fun p p0 p1 p2 p3 => by
    rw [hF p ⟨p0, by omega, by omega⟩, end_old hr f go (by omega) (by omega) (fun k => ?_), hK.at_ p (by omega) (by rw [he]; exact p2)];rcases hnew p k with k | k
    · exact p3 k
    · omega
  refine ⟨fun p hp => ?_, ?_⟩
  · obtain ⟨p1, p2, p3⟩ := hp;rw [key p (by omega) p2 p3 (fun k => by have := (h.spl p k).1.2.1; omega)];exact putA_ne _ _ (by omega)
  · rw [key q.ahead (by omega) (by omega) (by omega) (fun k => (h.spl _ k).1.2.2 rfl)];exact putA_at (x := eSt) (by rw [ha.pre _ _ hal.2]; exact h.ae) _
theorem hi_round (ha : Good n tx a g) {s : List St} {q r : Lp} (h : LpI s q) (hr : LpI s r) (hK : Keeps (hiS a q) r) (f go : Nat) {F : List St} (hF : ∀ p, Blk s.length (r.out.length + 1) r.out.length p → F[p]? = (endM f r go).out[p]?) : HiR F a q r.out.length := by
  have h1 := ha.lst q.out;have h2 := ha.fst q.out;have hl := hi_len (a := a) q;have he : (hiS a q).ahead = (a q.out).last := rfl;have hs : (hiS a q).splits = q.splits ++ [(a q.out).out.length] := rfl;have hal := h.al;have hle := hK.le;have hka := hK.al;have hnew := hK.new;have hral := hr.al;rw [hl] at hle hka hnew;rw [he] at hka
  have key : ∀ p, s.length ≤ p → p < (a q.out).out.length → p ≠ (a q.out).last → (¬ p ∈ q.splits) → F[p]? = (hiS a q).out[p]? := fun p p0 p1 p2 p3 => by
    rw [hF p ⟨p0, by omega, by omega⟩, end_old hr f go (by omega) (by omega) (fun k => ?_), hK.at_ p (by omega) (by rw [he]; exact p2)];rcases hnew p k with k | k
    · rw [hs, List.mem_append, List.mem_singleton] at k;rcases k with k | k
      · exact p3 k
      · omega
    · omega
  refine ⟨fun p hp => ?_, ?_, ?_⟩
  · obtain ⟨p1, p2, p3⟩ := hp;rw [key p (by omega) p2 p3 (fun k => by have := (h.spl p k).1.2.1; omega)]
    show (putA _ _ _)[p]? = _
    rw [putA_ne _ _ (by omega), app_lt _ _ p2]
  · rw [key q.ahead (by omega) (by omega) (by omega) (fun k => (h.spl _ k).1.2.2 rfl)];exact putA_at (x := eSt) (by rw [app_lt _ _ (by omega), ha.pre _ _ hal.2]; exact h.ae) _
  · have hsp : (a q.out).out.length ∈ r.splits := hK.old _ (by rw [hs]; exact List.mem_append_right _ (List.mem_singleton.2 rfl))
    have h0 : r.out[(a q.out).out.length]? = some (kSt 3 (a q.out).first 0) := by
      rw [hK.at_ _ (by omega) (by rw [he]; omega)]
      show (putA _ _ _)[_]? = _
      rw [putA_ne _ _ (by omega), app_at]
    rw [hF _ ⟨by omega, by omega, by omega⟩, end_spl hr f go hsp h0]
variable {s : List St} {F : List St} {Q : Nat → Prop} {last : Nat}
theorem lo_runs (ha : Good n tx a g) (lo : Int) (hlast : ¬ Q last) (hlow : s.length ≤ last)
    (hR : ∀ k, k < lo.toNat → LoR F a (loP a lo s k)) (hQ : ∀ k, k ≤ lo.toNat → ∀ p, s.length ≤ p → p < (loP a lo s k).out.length → Q p) (hL : ∀ k, k ≤ lo.toNat → (loP a lo s k).out.length ≤ last)
    (k : Nat) (hk : k ≤ lo.toNat) (i j : Nat) (hi : i ≤ n) : Runs F Q n tx s.length i last j ↔ ∃ m, m ≤ n ∧ powG n g k i m = true ∧ Runs F Q n tx (loP a lo s k).ahead m last j := by
  induction k with
  | zero =>
    constructor
    · intro r;exact ⟨i, hi, decide_eq_true ⟨rfl, hi⟩, r⟩
    · rintro ⟨m, hm, hp, r⟩;simp only [powG, evenG, decide_eq_true_eq] at hp;obtain ⟨rfl, _⟩ := hp;exact r
  | succ k ih =>
    have hI := loP_I ha lo s k;have hal := hI.al;have h1 := ha.lst (loP a lo s k).out;have h2 := ha.fst (loP a lo s k).out;have hl : (loP a lo s (k + 1)).out.length = (a (loP a lo s k).out).out.length := putA_len _ _ _;have hlen := hL (k + 1) hk;have hR' := hR k (by omega);have hqa : Q (loP a lo s k).ahead := hQ k (by omega) _ hal.1 hal.2;have pt := ha.pt (loP a lo s k).out (F := F) (Q := Q) hR'.pt (fun p hp => hQ (k + 1) hk p (by have := hp.1; omega) (by rw [hl]; exact hp.2.1));rw [ih (by omega)]
    have e : ∀ m, m ≤ n → (Runs F Q n tx (loP a lo s k).ahead m last j ↔ ∃ m2, m2 ≤ n ∧ g m m2 = true ∧ Runs F Q n tx (loP a lo s (k + 1)).ahead m2 last j) := fun m hm => by
      rw [runs_jump hqa (by omega) hR'.jump, pt.iff (fun h => by have := h.2.1; omega) hm];rfl
    constructor
    · rintro ⟨m, hm, hp, r⟩;obtain ⟨m2, hm2, hg, r⟩ := (e m hm).1 r;have b1 := pow_bounds k hp;obtain ⟨x1, y1⟩ := pt.lead hm hg;have l1 := y1.le hm;exact ⟨m2, hm2, behindG_iff.2 ⟨by omega, hm2, m, b1.1, l1.1, hp, hg⟩, r⟩
    · rintro ⟨m2, hm2, hp, r⟩;obtain ⟨_, _, m, h3, h4, h5, h6⟩ := behindG_iff.1 hp;exact ⟨m, by omega, h5, (e m (by omega)).2 ⟨m2, hm2, h6, r⟩⟩
theorem hi_runs (ha : Good n tx a g) (lo : Int) (more : Nat) (hlast : ¬ Q last) (hlow : s.length ≤ last)
    (hR : ∀ k, k < lo.toNat → LoR F a (loP a lo s k)) (hQ : ∀ k, k ≤ lo.toNat → ∀ p, s.length ≤ p → p < (loP a lo s k).out.length → Q p) (hL : ∀ k, k ≤ lo.toNat → (loP a lo s k).out.length ≤ last)
    (hR2 : ∀ k, k < more → HiR F a (hiP a lo s k) last) (hQ2 : ∀ k, k ≤ more → ∀ p, s.length ≤ p → p < (hiP a lo s k).out.length → Q p) (hL2 : ∀ k, k ≤ more → (hiP a lo s k).out.length ≤ last)
    (k : Nat) (hk : k ≤ more) (i j : Nat) (hi : i ≤ n) : Runs F Q n tx s.length i last j ↔ (∃ c, c < k ∧ powG n g (lo.toNat + c) i j = true) ∨ ∃ m, m ≤ n ∧ powG n g (lo.toNat + k) i m = true ∧ Runs F Q n tx (hiP a lo s k).ahead m last j := by
  induction k with
  | zero =>
    rw [lo_runs ha lo hlast hlow hR hQ hL lo.toNat (Nat.le_refl _) i j hi];constructor
    · exact fun h => .inr h
    · rintro (⟨c, hc, _⟩ | h)
      · omega
      · exact h
  | succ k ih =>
    have hI := hiP_I ha lo s k;have hal := hI.al;have h1 := ha.lst (hiP a lo s k).out;have h2 := ha.fst (hiP a lo s k).out;have hl : (hiP a lo s (k + 1)).out.length = (a (hiP a lo s k).out).out.length + 1 := hi_len _;have hlen := hL2 (k + 1) hk;have hR' := hR2 k (by omega);have hqa : Q (hiP a lo s k).ahead := hQ2 k (by omega) _ hal.1 hal.2;have hqs : Q (a (hiP a lo s k).out).out.length := hQ2 (k + 1) hk _ (by omega) (by omega);have pt := ha.pt (hiP a lo s k).out (F := F) (Q := Q) hR'.pt (fun p hp => hQ2 (k + 1) hk p (by have := hp.1; omega) (by have := hp.2.1; omega));rw [ih (by omega)]
    have e : ∀ m, m ≤ n → (Runs F Q n tx (hiP a lo s k).ahead m last j ↔ m = j ∨ ∃ m2, m2 ≤ n ∧ g m m2 = true ∧ Runs F Q n tx (hiP a lo s (k + 1)).ahead m2 last j) := fun m hm => by
      rw [runs_jump hqa (by omega) hR'.jump, runs_split hqs (by omega) hR'.split, pt.iff (fun h => by have := h.2.1; omega) hm, runs_end hlast];exact Or.comm
    constructor
    · rintro (⟨c, hc, hp⟩ | ⟨m, hm, hp, r⟩)
      · exact .inl ⟨c, by omega, hp⟩
      · rcases (e m hm).1 r with r | ⟨m2, hm2, hg, r⟩
        · subst r;exact .inl ⟨k, by omega, hp⟩
        · have b1 := pow_bounds _ hp;obtain ⟨x1, y1⟩ := pt.lead hm hg;have l1 := y1.le hm;exact .inr ⟨m2, hm2, behindG_iff.2 ⟨by omega, hm2, m, b1.1, l1.1, hp, hg⟩, r⟩
    · rintro (⟨c, hc, hp⟩ | ⟨m2, hm2, hp, r⟩)
      · by_cases e2 : c = k
        · subst e2;have b1 := pow_bounds _ hp;exact .inr ⟨j, b1.2, hp, (e j b1.2).2 (.inl rfl)⟩
        · exact .inl ⟨c, by omega, hp⟩
      · obtain ⟨_, _, m, h3, h4, h5, h6⟩ := behindG_iff.1 (show behindG n (powG n g (lo.toNat + k)) g i m2 = true from hp);exact .inr ⟨m, by omega, h5, (e m (by omega)).2 (.inr ⟨m2, hm2, h6, r⟩)⟩
theorem star_runs (ha : Good n tx a g) {q : Lp} (hlast : ¬ Q last) (pt : Pt F Q n tx (Blk q.out.length (a q.out).out.length (a q.out).last) (a q.out).first (a q.out).last g)
    (hqs : Q (a q.out).out.length) (hql : Q (a q.out).last) (hlt : (a q.out).out.length < last) (hsp : F[(a q.out).out.length]? = some (kSt 3 (a q.out).first (last : Nat))) (hb : F[(a q.out).last]? = some (kSt 2 (a q.out).out.length 0))
    (p0 i j : Nat) : ∀ L m c, m ≤ n → powG n g c i m = true → Run F Q n tx L (a q.out).out.length m last j → ∃ d, c ≤ d ∧ powG n g d i j = true := by
  have h1 := ha.lst q.out;intro L
  induction L using Nat.strongRecOn with
  | ind L ih =>
    intro m c hm hp r;obtain ⟨L2, hL2, r | r⟩ := r.split (by omega) hsp
    · obtain ⟨k, L3, hL3, hk, hg, r3⟩ := pt.through (fun h => by have := h.2.1; omega) hm r;obtain ⟨L4, hL4, r4⟩ := r3.jump (by omega) hb;have b1 := pow_bounds _ hp;obtain ⟨x1, y1⟩ := pt.lead hm hg;have l1 := y1.le hm;obtain ⟨d, hd, hp2⟩ := ih L4 (by omega) k (c + 1) hk (behindG_iff.2 ⟨by omega, hk, m, b1.1, l1.1, hp, hg⟩) r4;exact ⟨d, by omega, hp2⟩
    · have := r.at_end hlast;subst this;exact ⟨c, Nat.le_refl _, hp⟩
theorem runs_star (ha : Good n tx a g) {q : Lp} (pt : Pt F Q n tx (Blk q.out.length (a q.out).out.length (a q.out).last) (a q.out).first (a q.out).last g)
    (hqs : Q (a q.out).out.length) (hql : Q (a q.out).last) (hlt : (a q.out).out.length < last) (hsp : F[(a q.out).out.length]? = some (kSt 3 (a q.out).first (last : Nat))) (hb : F[(a q.out).last]? = some (kSt 2 (a q.out).out.length 0))
    (lo i j : Nat) : ∀ d m, powG n g (lo + d) i m = true → Runs F Q n tx (a q.out).out.length m last j → ∃ m2, m2 ≤ n ∧ powG n g lo i m2 = true ∧ Runs F Q n tx (a q.out).out.length m2 last j := by
  have h1 := ha.lst q.out;intro d
  induction d with
  | zero =>
    intro m hp r;exact ⟨m, (pow_bounds _ hp).2, hp, r⟩
  | succ d ih =>
    intro m hp r;obtain ⟨_, _, k, h3, h4, h5, h6⟩ := behindG_iff.1 (show behindG n (powG n g (lo + d)) g i m = true from hp);refine ih k h5 ?_;have hk := (pow_bounds _ h5).2;rw [runs_split hqs (by omega) hsp];left;rw [pt.iff (fun h => by have := h.2.1; omega) hk];refine ⟨m, (pow_bounds _ hp).2, h6, ?_⟩;rw [runs_jump hql (by omega) hb];exact r
end
theorem good_rep {n : Nat} {tx : Nat → Nat} {a : PMk} {g : Grid} (ha : Good n tx a g) (lo hi : Int) (h0 : 0 ≤ lo) (hh : hi = -1 ∨ lo ≤ hi) : Good n tx (repM lo hi a) (repG n g lo.toNat (if hi = -1 then n else (hi - lo).toNat)) := by
  by_cases hneg : hi < 0
  · (have e1 : hi = -1 := by omega);rw [if_pos e1];(have eM : ∀ s, repM lo hi a s = endM s.length (hiS a (loP a lo s lo.toNat)) (a (loP a lo s lo.toNat).out).out.length := fun s => if_pos hneg);(have hI := fun s => hi_next ha (loP_I ha lo s lo.toNat));(have hal := fun s => (hI s).al);(have hl := fun s => hi_len (a := a) (loP a lo s lo.toNat));(have h1 := fun s => ha.lst (loP a lo s lo.toNat).out);(have h2 := fun s => (loP_I ha lo s lo.toNat).al);refine ⟨fun s => ?_, fun s => ?_, fun s p hp => ?_, fun s => ?_, fun s p hp => ?_, fun s F hF i j hin => ?_⟩
    · have := hal s;rw [eM, end_len];exact ⟨Nat.le_refl _, by show s.length < _; omega⟩
    · have := hal s;rw [eM, end_len];exact ⟨by show s.length ≤ (hiS a _).out.length; omega, by show (hiS a _).out.length < _; omega⟩
    · have := hal s;rw [eM, end_old (hI s) _ _ (by omega) (by omega) (fun k => by have := ((hI s).spl _ k).1.1; omega), (hI s).pre p hp]
    · rw [eM]; exact end_last (hI s) _ _
    · rw [eM, end_len] at hp;rw [eM, end_len];have := h1 s; have := h2 s; have := hl s;exact end_fine (hI s) _ (by omega) (by omega) p hp
    · have a1 := h1 s;have a2 := h2 s;have a3 := hl s;have a4 := hal s;have a5 := ha.fst (loP a lo s lo.toNat).out;rw [eM, end_len] at hF ⊢;have eF : (endM s.length (hiS a (loP a lo s lo.toNat)) (a (loP a lo s lo.toNat).out).out.length).first = s.length := rfl;have eL : (endM s.length (hiS a (loP a lo s lo.toNat)) (a (loP a lo s lo.toNat).out).out.length).last = (hiS a (loP a lo s lo.toNat)).out.length := rfl;rw [eL] at hF;rw [eF, eL];(have kl := fun k (hk : k ≤ lo.toNat) => loP_keeps ha lo s k (lo.toNat - k))
      have kle : ∀ k, k ≤ lo.toNat → (loP a lo s k).out.length ≤ (loP a lo s lo.toNat).out.length := fun k hk => by
        have := (kl k hk).le;rwa [show k + (lo.toNat - k) = lo.toNat by omega] at this
      have hR : ∀ k, k < lo.toNat → LoR F a (loP a lo s k) := fun k hk => by
        have hk2 := loP_keeps ha lo s (k + 1) (lo.toNat - (k + 1));rw [show k + 1 + (lo.toNat - (k + 1)) = lo.toNat by omega] at hk2;exact lo_round ha (loP_I ha lo s k) (hI s) (hk2.trans (hi_keeps ha _)) _ _ hF
      have hS := hi_round ha (loP_I ha lo s lo.toNat) (hI s) (Keeps.refl _) _ _ hF;(have hQ : ∀ p, s.length ≤ p → p < (hiS a (loP a lo s lo.toNat)).out.length → Blk s.length ((hiS a (loP a lo s lo.toNat)).out.length + 1) (hiS a (loP a lo s lo.toNat)).out.length p := fun p p1 p2 => ⟨p1, by omega, by omega⟩);(have hlast : ¬ Blk s.length ((hiS a (loP a lo s lo.toNat)).out.length + 1) (hiS a (loP a lo s lo.toNat)).out.length (hiS a (loP a lo s lo.toNat)).out.length := fun h => h.2.2 rfl);have pt := ha.pt (loP a lo s lo.toNat).out (F := F) (Q := Blk s.length ((hiS a (loP a lo s lo.toNat)).out.length + 1) (hiS a (loP a lo s lo.toNat)).out.length) hS.pt (fun p hp => hQ p (by have := hp.1; omega) (by have := hp.2.1; omega));have hqs := hQ (a (loP a lo s lo.toNat).out).out.length (by omega) (by omega);have hql := hQ (a (loP a lo s lo.toNat).out).last (by omega) (by omega)
      have hb : F[(a (loP a lo s lo.toNat).out).last]? = some (kSt 2 (a (loP a lo s lo.toNat).out).out.length 0) := by
        rw [hF _ hql];exact end_ahead (hI s) _ _
      rw [lo_runs ha lo hlast (by omega) hR (fun k hk p p1 p2 => hQ p p1 (by have := kle k hk; omega)) (fun k hk => by have := kle k hk; omega) lo.toNat (Nat.le_refl _) i j hin, rep_all];have hqa := hQ (loP a lo s lo.toNat).ahead (by omega) (by omega);constructor
      · rintro ⟨m, hm, hp, r⟩;rw [runs_jump hqa (by omega) hS.jump] at r;obtain ⟨L, r⟩ := r;exact star_runs ha hlast pt hqs hql (by omega) hS.split hb 0 i j L m lo.toNat hm hp r
      · rintro ⟨c, hc, hp⟩;obtain ⟨d, rfl⟩ := Nat.le.dest hc
        have hend : Runs F (Blk s.length ((hiS a (loP a lo s lo.toNat)).out.length + 1) (hiS a (loP a lo s lo.toNat)).out.length) n tx (a (loP a lo s lo.toNat).out).out.length j (hiS a (loP a lo s lo.toNat)).out.length j := by
          rw [runs_split hqs (by omega) hS.split];exact .inr (Runs.refl _ _)
        obtain ⟨m2, h3, h4, r⟩ := runs_star ha pt hqs hql (by omega) hS.split hb lo.toNat i j d j hp hend;refine ⟨m2, h3, h4, ?_⟩;rw [runs_jump hqa (by omega) hS.jump];exact r
  · (have e1 : ¬ hi = -1 := by omega);rw [if_neg e1];(have eM : ∀ s, repM lo hi a s = endM s.length (hiP a lo s (hi - lo).toNat) (hiP a lo s (hi - lo).toNat).out.length := fun s => if_neg hneg);generalize (hi - lo).toNat = more at eM ⊢;(have hI := fun s => hiP_I ha lo s more);(have hal := fun s => (hI s).al);refine ⟨fun s => ?_, fun s => ?_, fun s p hp => ?_, fun s => ?_, fun s p hp => ?_, fun s F hF i j hin => ?_⟩
    · have := hal s;rw [eM, end_len];exact ⟨Nat.le_refl _, by show s.length < _; omega⟩
    · have := hal s;rw [eM, end_len];exact ⟨by show s.length ≤ (hiP a lo s more).out.length; omega, by show (hiP a lo s more).out.length < _; omega⟩
    · have := hal s;rw [eM, end_old (hI s) _ _ (by omega) (by omega) (fun k => by have := ((hI s).spl _ k).1.1; omega), (hI s).pre p hp]
    · rw [eM]; exact end_last (hI s) _ _
    · rw [eM, end_len] at hp;rw [eM, end_len];have := hal s;exact end_fine (hI s) _ (by omega) (by omega) p hp
    · have a4 := hal s;rw [eM, end_len] at hF ⊢;have eF : (endM s.length (hiP a lo s more) (hiP a lo s more).out.length).first = s.length := rfl;have eL : (endM s.length (hiP a lo s more) (hiP a lo s more).out.length).last = (hiP a lo s more).out.length := rfl;rw [eL] at hF;rw [eF, eL]
      have k0 : Keeps (loP a lo s lo.toNat) (hiP a lo s more) := by
        have := hiP_keeps ha lo s 0 more;rw [Nat.zero_add] at this;exact this
      have kle : ∀ k, k ≤ lo.toNat → (loP a lo s k).out.length ≤ (hiP a lo s more).out.length := fun k hk => by
        have := (loP_keeps ha lo s k (lo.toNat - k)).le;rw [show k + (lo.toNat - k) = lo.toNat by omega] at this;have := k0.le;omega
      have kle2 : ∀ k, k ≤ more → (hiP a lo s k).out.length ≤ (hiP a lo s more).out.length := fun k hk => by
        have := (hiP_keeps ha lo s k (more - k)).le;rwa [show k + (more - k) = more by omega] at this
      have hR : ∀ k, k < lo.toNat → LoR F a (loP a lo s k) := fun k hk => by
        have hk2 := loP_keeps ha lo s (k + 1) (lo.toNat - (k + 1));rw [show k + 1 + (lo.toNat - (k + 1)) = lo.toNat by omega] at hk2;exact lo_round ha (loP_I ha lo s k) (hI s) (hk2.trans k0) _ _ hF
      have hR2 : ∀ k, k < more → HiR F a (hiP a lo s k) (hiP a lo s more).out.length := fun k hk => by
        have hk2 := hiP_keeps ha lo s (k + 1) (more - (k + 1));rw [show k + 1 + (more - (k + 1)) = more by omega] at hk2;exact hi_round ha (hiP_I ha lo s k) (hI s) hk2 _ _ hF
      (have hQ : ∀ p, s.length ≤ p → p < (hiP a lo s more).out.length → Blk s.length ((hiP a lo s more).out.length + 1) (hiP a lo s more).out.length p := fun p p1 p2 => ⟨p1, by omega, by omega⟩);(have hlast : ¬ Blk s.length ((hiP a lo s more).out.length + 1) (hiP a lo s more).out.length (hiP a lo s more).out.length := fun h => h.2.2 rfl)
      have hb : F[(hiP a lo s more).ahead]? = some (kSt 2 (hiP a lo s more).out.length 0) := by
        rw [hF _ (hQ _ a4.1 a4.2)];exact end_ahead (hI s) _ _
      rw [hi_runs ha lo more hlast (by omega) hR (fun k hk p p1 p2 => hQ p p1 (by have := kle k hk; omega)) kle hR2 (fun k hk p p1 p2 => hQ p p1 (by have := kle2 k hk; omega)) kle2 more (Nat.le_refl _) i j hin, repG_iff]
      have hend : ∀ m, Runs F (Blk s.length ((hiP a lo s more).out.length + 1) (hiP a lo s more).out.length) n tx (hiP a lo s more).ahead m (hiP a lo s more).out.length j ↔ m = j := fun m => by
        rw [runs_jump (hQ _ a4.1 a4.2) (by omega) hb, runs_end hlast]
      constructor
      · rintro (⟨c, hc, hp⟩ | ⟨m, hm, hp, r⟩)
        · exact ⟨lo.toNat + c, by omega, by omega, hp⟩
        · have := (hend m).1 r;subst this;exact ⟨lo.toNat + more, by omega, by omega, hp⟩
      · rintro ⟨c, h1, h2, hp⟩;obtain ⟨d, rfl⟩ := Nat.le.dest h1;by_cases e : d = more
        · subst e;exact .inr ⟨j, (pow_bounds _ hp).2, hp, (hend j).2 rfl⟩
        · exact .inl ⟨d, by omega, hp⟩
theorem good_node (x : Nd) (hx : fieldsB x = true) (ha : 0 ≤ arity x.kind) (hw : x.set.wf) (n : Nat) (tx : Nat → Nat) (ms : List PMk) (gs : List Grid) (hl : ms.length = (arity x.kind).toNat) (hl2 : gs.length = ms.length) (h : ∀ j, j < ms.length → Good n tx (ms.getD j default) (gs.getD j (evenG n))) : Good n tx (fMk x ms) (fitG n tx x gs) := by
  rcases kind_cases ha with ⟨hk, h0⟩ | ⟨hk, h0⟩ | ⟨hk, h0⟩
  · unfold fMk fitG;rcases hk with e | e | e | e <;> rw [e]
    · (refine good_leaf n tx 1 _ _ (.inl rfl) (fun k => absurd rfl k) (wfI_of _ hw) fun i j u hi => ?_);have eS : setI ((setZ x.set).f0) ((setZ x.set).f1) ((setZ x.set).f2) ((setZ x.set).f3) = x.set := setI_of _
      show Edge n tx ⟨1, (u : Int), 0, setZ x.set⟩ i u j ↔ (decide (j = i + 1 ∧ j ≤ n) && has x.set (tx i)) = true
      rw [Bool.and_eq_true, decide_eq_true_eq];constructor
      · rintro (⟨_, ⟨h1, _⟩ | ⟨h1, _⟩⟩ | ⟨h1, h2, _, h3, _⟩)
        · simp at h1
        · exact absurd (show (1 : Int) = 3 from h1) (by decide)
        · exact ⟨⟨h1, by omega⟩, by rw [← eS]; exact h3⟩
      · rintro ⟨⟨h1, h2⟩, h3⟩;exact .inr ⟨h1, by omega, rfl, by show has (setI ((setZ x.set).f0) ((setZ x.set).f1) ((setZ x.set).f2) ((setZ x.set).f3)) _ = true; rw [eS]; exact h3, rfl⟩
    · refine good_leaf n tx 2 _ _ (.inr (.inl rfl)) (fun _ => rfl) wfI_zero fun i j u hi => ?_
      show Edge n tx ⟨2, (u : Int), 0, ⟨0, 0, 0, 0⟩⟩ i u j ↔ evenG n i j = true
      unfold evenG;rw [decide_eq_true_eq];constructor
      · rintro (⟨h1, _⟩ | ⟨_, _, h1, _⟩)
        · omega
        · exact absurd (show (2 : Int) = 1 from h1) (by decide)
      · rintro ⟨h1, _⟩;exact .inl ⟨h1.symm, .inl ⟨.inl rfl, rfl⟩⟩
    · refine good_leaf n tx 4 _ _ (.inr (.inr (.inl rfl))) (fun _ => rfl) wfI_zero fun i j u hi => ?_
      show Edge n tx ⟨4, (u : Int), 0, ⟨0, 0, 0, 0⟩⟩ i u j ↔ decide (i = 0 ∧ j = 0) = true
      rw [decide_eq_true_eq];constructor
      · rintro (⟨h1, ⟨h2, _⟩ | ⟨h2, _⟩⟩ | ⟨_, _, h1, _⟩)
        · simp at h2; omega
        · exact absurd (show (4 : Int) = 3 from h2) (by decide)
        · exact absurd (show (4 : Int) = 1 from h1) (by decide)
      · rintro ⟨h1, h2⟩;exact .inl ⟨by omega, .inl ⟨.inr (.inr (.inl ⟨rfl, h1⟩)), rfl⟩⟩
    · refine good_leaf n tx 5 _ _ (.inr (.inr (.inr rfl))) (fun _ => rfl) wfI_zero fun i j u hi => ?_
      show Edge n tx ⟨5, (u : Int), 0, ⟨0, 0, 0, 0⟩⟩ i u j ↔ decide (i = n ∧ j = n) = true
      rw [decide_eq_true_eq];constructor
      · rintro (⟨h1, ⟨h2, _⟩ | ⟨h2, _⟩⟩ | ⟨_, _, h1, _⟩)
        · simp at h2; omega
        · exact absurd (show (5 : Int) = 3 from h2) (by decide)
        · exact absurd (show (5 : Int) = 1 from h1) (by decide)
      · rintro ⟨h1, h2⟩;exact .inl ⟨by omega, .inl ⟨.inr (.inr (.inr ⟨rfl, h1⟩)), rfl⟩⟩
  · have a0 := h 0 (by omega);have a1 := h 1 (by omega);unfold fMk fitG;rcases hk with e | e <;> rw [e]
    · exact good_cat a0 a1
    · exact good_or a0 a1
  · have a0 := h 0 (by omega);obtain ⟨h1, h2, h3⟩ := rep_fields hx hk;unfold fMk fitG;rw [hk];exact good_rep a0 x.lo x.hi h1 (by omega)
theorem mk_good (l : List Nd) (hr : rightB l = true) (hw : ∀ x ∈ l, x.set.wf) (n : Nat) (tx : Nat → Nat) (i : Nat) : i < l.length → Good n tx (attr fMk l i) (attr (fitG n tx) l i) := by
  obtain ⟨_, hall, _⟩ := (rightB_iff l).1 hr
  induction i using Nat.strongRecOn with
  | ind i ih =>
    intro hi;have hf := (hall i hi).1;have hx : l[i]? = some l[i] := List.getElem?_eq_getElem hi;(have hg : l.getD i zNd = l[i] := by rw [List.getD_eq_getElem?_getD, hx]; rfl);obtain ⟨ha, _⟩ := stack_room l hr i _ hx;have hlen := kidsP_length l i _ hx hf;have hfl := (hall i hi).2;rw [attr_eq fMk l i hi hf, attr_eq (fitG n tx) l i hi hf];(refine good_node _ hfl (by rw [hg]; exact ha) (by rw [hg]; exact hw _ (List.getElem_mem hi)) n tx _ _ (by rw [hg, List.length_map, hlen]) (by rw [List.length_map, List.length_map]) fun j hj => ?_);rw [List.length_map] at hj;have hy := kidsP_ok l i hi hf (kidsP l i)[j] (List.getElem_mem hj);(have e1 : ((kidsP l i).map fun y => attr fMk l y.toNat).getD j default = attr fMk l ((kidsP l i)[j]).toNat := by simp [hj]);(have e2 : ((kidsP l i).map fun y => attr (fitG n tx) l y.toNat).getD j (evenG n) = attr (fitG n tx) l ((kidsP l i)[j]).toNat := by simp [hj]);rw [e1, e2];exact ih _ (by omega) (by omega)
end Go.Proofs.YtfjemaeidmikmaaDoorQ
