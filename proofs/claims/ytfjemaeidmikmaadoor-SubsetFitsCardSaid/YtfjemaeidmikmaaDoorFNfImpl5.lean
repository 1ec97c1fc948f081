import Derived.Test.YtfjemaeidmikmaaDoorFM4
set_option linter.unusedVariables false
set_option linter.unusedSimpArgs false
namespace Go.Proofs.YtfjemaeidmikmaaDoorQ
open Go.RowKit Go.Proofs.YtfjemaeidmikmaaDoorW.PrintWords Go.Proofs.YtfjemaeidmikmaaDoorW.PrintLast Go.Proofs.Bs
def pIn (n : Nat) (l : List Int) (j : Nat) : Bool := decide (j < n ∧ (j : Int) ∈ l)
structure WInv (sts : List St) (sym : Int) (P : Nat → Bool) (p : List Bool × List Int) : Prop where
  len : p.1.length = sts.length
  sound : ∀ j : Nat, pOf p.1 j = true → Nf.Reach sts.length (fun i j => edge sts sym i j = true) (fun i => P i = true) j
  on : ∀ s ∈ p.2, ∃ j : Nat, s = (j : Int) ∧ pOf p.1 j = true
  base : ∀ j : Nat, j < sts.length → P j = true → pOf p.1 j = true
  gone : ∀ i j : Nat, pOf p.1 i = true → ¬ (i : Int) ∈ p.2 → edge sts sym i j = true → pOf p.1 j = true
theorem pOf_lt {l : List Bool} {j : Nat} (h : pOf l j = true) : j < l.length := by
  apply Classical.byContradiction;intro hn;unfold pOf rdOf at h;rw [Int.toNat_natCast, List.getD_eq_getElem?_getD, List.getElem?_eq_none (by omega)] at h;cases h
theorem pOf_set (l : List Bool) (a j : Nat) (h : a < l.length) : pOf (l.set a true) j = (pOf l j || decide (j = a)) := by
  unfold pOf rdOf;rw [Int.toNat_natCast, List.getD_eq_getElem?_getD, List.getD_eq_getElem?_getD, List.getElem?_set];by_cases e : a = j
  · subst e; simp [h]
  · simp [e, Ne.symm e]
theorem put_at (p : List Bool × List Int) (a : Nat) (j : Nat) : pOf (wput p (a : Int)).1 j = (pOf p.1 j || decide (j = a ∧ a < p.1.length)) := by
  unfold wput;split
  · rename_i h;rw [Int.toNat_natCast, pOf_set _ _ _ (by omega)];congr 1;rw [Bool.eq_iff_iff];simp only [decide_eq_true_eq];omega
  · rename_i h;by_cases e : j = a ∧ a < p.1.length
    · obtain ⟨rfl, e2⟩ := e
      have : pOf p.1 j = true := by
        rcases Bool.eq_false_or_eq_true (pOf p.1 j) with k | k
        · exact k
        · exact absurd ⟨by omega, by omega, k⟩ h
      rw [this]; rfl
    · rw [decide_eq_false e, Bool.or_false]
theorem put_mem {p : List Bool × List Int} {s x : Int} (h : x ∈ (wput p s).2) : x ∈ p.2 ∨ x = s ∧ 0 ≤ s ∧ s < p.1.length := by
  unfold wput at h;split at h
  · rename_i hc;simp only [List.mem_append, List.mem_singleton] at h;rcases h with h | h
    · exact .inl h
    · exact .inr ⟨h, hc.1, hc.2.1⟩
  · exact .inl h
theorem put_old {p : List Bool × List Int} {s x : Int} (h : x ∈ p.2) : x ∈ (wput p s).2 := by
  unfold wput;split
  · exact List.mem_append_left _ h
  · exact h
theorem put_new {p : List Bool × List Int} {s : Int} {j : Nat} (h : pOf (wput p s).1 j = true) (h0 : ¬ pOf p.1 j = true) : (j : Int) ∈ (wput p s).2 := by
  unfold wput at h ⊢;split
  · rename_i hc;rw [if_pos hc] at h;obtain ⟨a, rfl⟩ := Int.eq_ofNat_of_zero_le hc.1;rw [Int.toNat_natCast, pOf_set _ _ _ (by omega)] at h
    have : j = a := by
      rw [Bool.or_eq_true, decide_eq_true_eq] at h;exact h.resolve_left h0
    subst this;simp
  · rename_i hc;rw [if_neg hc] at h;exact absurd h h0
theorem fold_put (n : Nat) (l : List Int) (p : List Bool × List Int) (hp : p.1.length = n) (j : Nat) : pOf (l.foldl wput p).1 j = (pOf p.1 j || pIn n l j) := by
  induction l generalizing p with
  | nil => simp [pIn]
  | cons s l ih =>
    rw [List.foldl_cons, ih _ (by rw [wput_len]; exact hp)];by_cases h0 : 0 ≤ s
    · obtain ⟨a, rfl⟩ := Int.eq_ofNat_of_zero_le h0;rw [put_at, Bool.or_assoc];congr 1;unfold pIn;rw [Bool.eq_iff_iff];simp only [Bool.or_eq_true, decide_eq_true_eq, List.mem_cons, hp];constructor
      · rintro (⟨rfl, h⟩ | ⟨h1, h2⟩)
        · exact ⟨h, .inl rfl⟩
        · exact ⟨h1, .inr h2⟩
      · rintro ⟨h1, h2 | h2⟩
        · left; omega
        · exact .inr ⟨h1, h2⟩
    · (have e : wput p s = p := by unfold wput; rw [if_neg (fun h => h0 h.1)]);rw [e];congr 1;unfold pIn;rw [Bool.eq_iff_iff];simp only [decide_eq_true_eq, List.mem_cons];constructor
      · rintro ⟨h1, h2⟩; exact ⟨h1, .inr h2⟩
      · rintro ⟨h1, h2 | h2⟩
        · omega
        · exact ⟨h1, h2⟩
theorem pOf_rep (n j : Nat) : pOf (List.replicate n false) j = false := by
  unfold pOf rdOf;rw [Int.toNat_natCast, List.getD_eq_getElem?_getD, List.getElem?_replicate];split <;> rfl
theorem from_on (n : Nat) (l : List Int) (p : List Bool × List Int) (hp : p.1.length = n) (h : ∀ i : Nat, pOf p.1 i = true → (i : Int) ∈ p.2) (h2 : ∀ s ∈ p.2, ∃ j : Nat, s = (j : Int) ∧ pOf p.1 j = true) :
    (∀ i : Nat, pOf (l.foldl wput p).1 i = true → (i : Int) ∈ (l.foldl wput p).2) ∧ ∀ s ∈ (l.foldl wput p).2, ∃ j : Nat, s = (j : Int) ∧ pOf (l.foldl wput p).1 j = true := by
  induction l generalizing p with
  | nil => exact ⟨h, h2⟩
  | cons s l ih =>
    rw [List.foldl_cons];refine ih _ (by rw [wput_len]; exact hp) (fun i hi => ?_) (fun x hx => ?_)
    · by_cases h3 : pOf p.1 i = true
      · exact put_old (h i h3)
      · exact put_new hi h3
    · rcases put_mem hx with hx | ⟨rfl, h4, h5⟩
      · obtain ⟨j, rfl, hj⟩ := h2 x hx;refine ⟨j, rfl, ?_⟩;by_cases h0 : 0 ≤ s
        · obtain ⟨a, rfl⟩ := Int.eq_ofNat_of_zero_le h0;rw [put_at, hj]; rfl
        · (have e : wput p s = p := by unfold wput; rw [if_neg (fun h => h0 h.1)]);rw [e]; exact hj
      · obtain ⟨a, rfl⟩ := Int.eq_ofNat_of_zero_le h4;refine ⟨a, rfl, ?_⟩;rw [put_at, Bool.or_eq_true, decide_eq_true_eq];exact .inr ⟨rfl, by omega⟩
theorem inv_from (sts : List St) (sym : Int) (l : List Int) : WInv sts sym (pIn sts.length l) (wfrom sts.length l) := by
  have hP : ∀ j, pOf (wfrom sts.length l).1 j = pIn sts.length l j := fun j => by
    unfold wfrom
    rw [fold_put sts.length l _ (by simp), pOf_rep, Bool.false_or]
  have h := from_on sts.length l (List.replicate sts.length false, []) (by simp) (fun i hi => by rw [pOf_rep] at hi; cases hi) (fun s hs => by cases hs);refine ⟨(onOk_from _ _).1, fun j hj => ?_, h.2, fun j _ h => by rw [hP]; exact h, fun i j hi hn => absurd (h.1 i hi) hn⟩;rw [hP] at hj;exact .base (by unfold pIn at hj; rw [decide_eq_true_eq] at hj; exact hj.1) hj
structure Grow (q r : List Bool × List Int) : Prop where
  len : r.1.length = q.1.length
  mono : ∀ j : Nat, pOf q.1 j = true → pOf r.1 j = true
  old : ∀ x, x ∈ q.2 → x ∈ r.2
  mem : ∀ x, x ∈ r.2 → x ∈ q.2 ∨ ∃ a : Nat, x = (a : Int) ∧ pOf r.1 a = true
  new : ∀ j : Nat, pOf r.1 j = true → ¬ pOf q.1 j = true → (j : Int) ∈ r.2
theorem Grow.refl (q : List Bool × List Int) : Grow q q := ⟨rfl, fun _ h => h, fun _ h => h, fun _ h => .inl h, fun _ h k => absurd h k⟩
theorem Grow.trans {q r u : List Bool × List Int} (h : Grow q r) (k : Grow r u) : Grow q u := by
  refine ⟨k.len.trans h.len, fun j hj => k.mono j (h.mono j hj), fun x hx => k.old x (h.old x hx), fun x hx => ?_, fun j hj hn => ?_⟩
  · rcases k.mem x hx with h1 | h1
    · rcases h.mem x h1 with h2 | ⟨a, rfl, h2⟩
      · exact .inl h2
      · exact .inr ⟨a, rfl, k.mono a h2⟩
    · exact .inr h1
  · by_cases h1 : pOf r.1 j = true
    · exact k.old _ (h.new j h1 hn)
    · exact k.new j hj h1
theorem Grow.put (q : List Bool × List Int) (s : Int) : Grow q (wput q s) := by
  refine ⟨wput_len q s, fun j hj => ?_, fun x hx => put_old hx, fun x hx => ?_, fun j hj hn => put_new hj hn⟩
  · by_cases h0 : 0 ≤ s
    · obtain ⟨a, rfl⟩ := Int.eq_ofNat_of_zero_le h0;rw [put_at, hj]; rfl
    · (have e : wput q s = q := by unfold wput; rw [if_neg (fun h => h0 h.1)]);rw [e]; exact hj
  · rcases put_mem hx with hx | ⟨rfl, h1, h2⟩
    · exact .inl hx
    · obtain ⟨a, rfl⟩ := Int.eq_ofNat_of_zero_le h1;refine .inr ⟨a, rfl, ?_⟩;rw [put_at, Bool.or_eq_true, decide_eq_true_eq];exact .inr ⟨rfl, by omega⟩
theorem Grow.visit (st : St) (sym : Int) (q : List Bool × List Int) : Grow q (wvisit st sym q) := by
  unfold wvisit;split
  · exact (Grow.put q _).trans (Grow.put _ _)
  · split
    · exact Grow.put q _
    · exact Grow.refl q
theorem visit_true (sts : List St) (sym : Int) (hok : okSts sts) (i j : Nat) (hi : i < sts.length) (q : List Bool × List Int) (hq : q.1.length = sts.length) (he : edge sts sym i j = true) : pOf (wvisit (stAt sts i) sym q).1 j = true := by
  obtain ⟨⟨a0, a1⟩, b0, b1⟩ := hok i hi;unfold edge at he;simp only [Bool.or_eq_true, Bool.and_eq_true, decide_eq_true_eq] at he;unfold wvisit;generalize stAt sts i = st at *
  have put1 : ∀ (q : List Bool × List Int) (s : Int), q.1.length = sts.length → 0 ≤ s → s < sts.length → (j : Int) = s → pOf (wput q s).1 j = true := by
    intro q s hq h0 h1 e;subst e;rw [put_at, Bool.or_eq_true, decide_eq_true_eq];exact .inr ⟨rfl, by omega⟩
  split
  · rcases he with ⟨_, e⟩ | ⟨_, e⟩
    · exact put1 _ _ (by rw [wput_len]; exact hq) a0 a1 e
    · exact (Grow.put _ _).mono j (put1 _ _ hq b0 b1 e)
  · rename_i h3;rcases he with ⟨g, e⟩ | ⟨g, e⟩
    · rw [if_pos g];exact put1 _ _ hq a0 a1 e
    · exact absurd g h3
theorem visit_sound (sts : List St) (sym : Int) (hok : okSts sts) (i : Nat) (hi : i < sts.length) (q : List Bool × List Int) (j : Nat) (h : pOf (wvisit (stAt sts i) sym q).1 j = true) : pOf q.1 j = true ∨ edge sts sym i j = true ∧ j < sts.length := by
  obtain ⟨⟨a0, a1⟩, b0, b1⟩ := hok i hi;unfold edge;simp only [Bool.or_eq_true, Bool.and_eq_true, decide_eq_true_eq];unfold wvisit at h;generalize stAt sts i = st at *;(have g3 : st.f0 = 3 → goesA st sym = true := fun h => by unfold goesA; exact decide_eq_true (.inl h))
  have put1 : ∀ (q : List Bool × List Int) (s : Int), 0 ≤ s → pOf (wput q s).1 j = true → pOf q.1 j = true ∨ (j : Int) = s := by
    intro q s h0 h;obtain ⟨a, rfl⟩ := Int.eq_ofNat_of_zero_le h0;rw [put_at, Bool.or_eq_true, decide_eq_true_eq] at h;rcases h with h | h
    · exact .inl h
    · right; omega
  split at h
  · rename_i h3;rcases put1 _ _ a0 h with h | h
    · rcases put1 _ _ b0 h with h | h
      · exact .inl h
      · exact .inr ⟨.inr ⟨h3, h⟩, by omega⟩
    · exact .inr ⟨.inl ⟨g3 h3, h⟩, by omega⟩
  · split at h
    · rename_i g;rcases put1 _ _ a0 h with h | h
      · exact .inl h
      · exact .inr ⟨.inl ⟨g, h⟩, by omega⟩
    · exact .inl h
theorem inv_step {sts : List St} {sym : Int} {P : Nat → Bool} {p : List Bool × List Int} (hok : okSts sts) (h : WInv sts sym P p) (hne : p.2 ≠ []) : WInv sts sym P (wstep sts sym p) := by
  obtain ⟨s, hs⟩ : ∃ s, s = p.2.getLast hne := ⟨_, rfl⟩;(have hsplit : p.2 = p.2.dropLast ++ [s] := by rw [hs]; exact (List.dropLast_concat_getLast hne).symm);(have hs : p.2.getLast? = some s := by rw [hsplit]; simp);(have hsm : s ∈ p.2 := by rw [hsplit]; simp);obtain ⟨i, rfl, hi⟩ := h.on s hsm;(have hil : i < sts.length := by have := pOf_lt hi; rw [h.len] at this; exact this)
  have hst : wstep sts sym p = wvisit (stAt sts i) sym (p.1, p.2.dropLast) := by
    unfold wstep;rw [List.getLastD_eq_getLast?, hs];rfl
  rw [hst];have g := Grow.visit (stAt sts i) sym (p.1, p.2.dropLast);refine ⟨g.len.trans h.len, fun j hj => ?_, fun x hx => ?_, fun j hj hP => g.mono j (h.base j hj hP), fun a j ha hn he => ?_⟩
  · rcases visit_sound sts sym hok i hil _ j hj with h1 | ⟨h1, h2⟩
    · exact h.sound j h1
    · exact (h.sound i hi).step h1 h2
  · rcases g.mem x hx with h1 | h1
    · obtain ⟨j, rfl, hj⟩ := h.on x (List.dropLast_sublist _ |>.subset h1);exact ⟨j, rfl, g.mono j hj⟩
    · exact h1
  · by_cases h1 : pOf p.1 a = true
    · by_cases h2 : (a : Int) ∈ p.2
      · rw [hsplit, List.mem_append, List.mem_singleton] at h2;rcases h2 with h2 | h2
        · exact absurd (g.old _ h2) hn
        · (obtain rfl : a = i := by omega);exact visit_true sts sym hok a j hil _ h.len he
      · exact g.mono j (h.gone a j h1 h2 he)
    · exact absurd (g.new a ha h1) hn
theorem inv_run {sts : List St} {sym : Int} {P : Nat → Bool} (hok : okSts sts) : ∀ (k : Nat) (p : List Bool × List Int), wmeas p ≤ k → WInv sts sym P p → WInv sts sym P (wrun sts sym k p) ∧ (wrun sts sym k p).2 = [] := by
  intro k
  induction k with
  | zero =>
    intro p hm h;refine ⟨h, List.eq_nil_of_length_eq_zero ?_⟩;unfold wmeas at hm;simp only [wrun];omega
  | succ k ih =>
    intro p hm h;unfold wrun;split
    · exact ⟨h, by assumption⟩
    · rename_i hne;have := wstep_meas sts sym p hne;exact ih _ (by omega) (inv_step hok h hne)
theorem walk_turns (sts : List St) (sym : Int) (l : List Int) (hok : okSts sts) (j : Nat) : pOf (walkF sts l sym) j = Nf.turns sts.length (edge sts sym) sts.length (pIn sts.length l) j := by
  obtain ⟨h, he⟩ := inv_run hok _ _ (Nat.le_refl _) (inv_from sts sym l);have ht := Nf.turns_reach sts.length (edge sts sym) (pIn sts.length l) (fun i j hi he => ?_) (fun i hi => by unfold pIn at hi; rw [decide_eq_true_eq] at hi; exact hi.1) j
  · rw [Bool.eq_iff_iff, ht];constructor
    · intro hj;exact h.sound j hj
    · intro hr;exact Nf.Reach.in_closed (P := fun i => pOf (walkF sts l sym) i = true) (fun i hi hs => h.base i hi hs) (fun i j hi h1 h2 _ => h.gone i j h1 (by rw [he]; simp) h2) hr
  · obtain ⟨⟨a0, a1⟩, b0, b1⟩ := hok i hi;unfold edge at he;simp only [Bool.or_eq_true, Bool.and_eq_true, decide_eq_true_eq] at he;rcases he with ⟨_, e⟩ | ⟨_, e⟩ <;> omega
theorem ofN_len (n : Nat) (l : List Int) : (ofN n l).length = n := by
  unfold ofN
  have : ∀ (l : List Int) (acc : List Bool), (l.foldl (ofStep n) acc).length = acc.length := by
    intro l
    induction l with
    | nil => intro acc; rfl
    | cons s l ih =>
      intro acc;rw [List.foldl_cons, ih];unfold ofStep;split <;> simp
  rw [this]; simp
theorem ofN_at (n : Nat) (l : List Int) (j : Nat) : pOf (ofN n l) j = pIn n l j := by
  have h : ∀ (l : List Int) (p : List Bool × List Int), p.1.length = n → (l.foldl wput p).1 = l.foldl (ofStep n) p.1 := by
    intro l
    induction l with
    | nil => intro p _; rfl
    | cons s l ih =>
      intro p hp;rw [List.foldl_cons, List.foldl_cons, ih _ (by rw [wput_len]; exact hp)];congr 1;unfold wput ofStep;by_cases h1 : 0 ≤ s ∧ s < n
      · rw [if_pos h1];by_cases h2 : rdOf false p.1 s = false
        · rw [if_pos ⟨h1.1, by omega, h2⟩]
        · rw [if_neg (fun k => h2 k.2.2)];obtain ⟨a, rfl⟩ := Int.eq_ofNat_of_zero_le h1.1
          have h3 : p.1[a]? = some true := by
            (have h4 : a < p.1.length := by omega);unfold rdOf at h2;rw [Int.toNat_natCast, List.getD_eq_getElem?_getD, List.getElem?_eq_getElem h4] at h2;rw [List.getElem?_eq_getElem h4];simpa using h2
          apply List.ext_getElem?;intro j;rw [Int.toNat_natCast, List.getElem?_set];by_cases e : a = j
          · subst e; rw [if_pos rfl, if_pos (by omega), h3]
          · rw [if_neg e]
      · rw [if_neg h1, if_neg (fun k => h1 ⟨k.1, by omega⟩)]
  have := h l (List.replicate n false, []) (by simp);unfold ofN;rw [← this];rw [fold_put n l _ (by simp), pOf_rep, Bool.false_or]
theorem walk_close (sts : List St) (sym : Int) (l : List Int) (hok : okSts sts) : walkF sts l sym = closeR sts sym (ofN sts.length l) := by
  rw [← tab_pOf (walkF sts l sym), walkF_len];unfold closeR;(refine tab_ext fun j _ => ?_);rw [walk_turns sts sym l hok j];(have : pIn sts.length l = pOf (ofN sts.length l) := by funext i; rw [ofN_at]);rw [this]
theorem to_in (sts : List St) (b : Int) (hok : okSts sts) (l : List Int) (j : Nat) (hj : j < sts.length) : pIn sts.length (l.flatMap (stepOne sts b)) j = toP sts b (pIn sts.length l) sts.length j := by
  have h : ∀ n, toP sts b (pIn sts.length l) n j = true ↔ ∃ i, i < n ∧ pIn sts.length l i = true ∧ (stAt sts i).f0 = 1 ∧ hasSt (stAt sts i) b = true ∧ (j : Int) = (stAt sts i).f1 := by
    intro n
    induction n with
    | zero => simp [toP]
    | succ n ih =>
      simp only [toP, Bool.or_eq_true, Bool.and_eq_true, decide_eq_true_eq, ih];constructor
      · rintro (⟨i, h1, h2⟩ | h2)
        · exact ⟨i, by omega, h2⟩
        · exact ⟨n, by omega, h2⟩
      · rintro ⟨i, h1, h2⟩;by_cases e : i = n
        · subst e; exact .inr h2
        · exact .inl ⟨i, by omega, h2⟩
  rw [Bool.eq_iff_iff, h];unfold pIn stepOne;simp only [decide_eq_true_eq, List.mem_flatMap];constructor
  · rintro ⟨_, s, hs, hm⟩;split at hm
    · rename_i hc;obtain ⟨c0, c1, c2, c3⟩ := hc;obtain ⟨a, rfl⟩ := Int.eq_ofNat_of_zero_le c0;rw [List.mem_singleton] at hm;exact ⟨a, by omega, ⟨by omega, hs⟩, c2, c3, hm⟩
    · cases hm
  · rintro ⟨i, hi, ⟨_, hs⟩, c2, c3, e⟩;refine ⟨hj, (i : Int), hs, ?_⟩;rw [if_pos ⟨by omega, by omega, c2, c3⟩, List.mem_singleton];exact e
theorem step_close (sts : List St) (b : Int) (l : List Int) (hok : okSts sts) : walkF sts (l.flatMap (stepOne sts b)) 0 = stepR sts b (ofN sts.length l) := by
  rw [walk_close sts 0 _ hok];unfold stepR;congr 1;rw [← tab_pOf (ofN sts.length (l.flatMap (stepOne sts b))), ofN_len];(refine tab_ext fun j hj => ?_);rw [ofN_at, to_in sts b hok l j hj];(have : pIn sts.length l = pOf (ofN sts.length l) := by funext i; rw [ofN_at]);rw [this]
end Go.Proofs.YtfjemaeidmikmaaDoorQ
