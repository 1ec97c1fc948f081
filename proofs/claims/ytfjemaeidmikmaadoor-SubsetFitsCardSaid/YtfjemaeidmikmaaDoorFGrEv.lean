import Derived.Test.YtfjemaeidmikmaaDoorFM1
import Derived.Test.YtfjemaeidmikmaaDoorFM2
import Derived.Test.YtfjemaeidmikmaaDoorFQTattingref07Behind
import Derived.Test.YtfjemaeidmikmaaDoorFQTattingref07Either
set_option linter.unusedVariables false
set_option linter.unusedSimpArgs false
namespace Go.Proofs.YtfjemaeidmikmaaDoorQ
open Go.RowKit Go.Proofs.YtfjemaeidmikmaaDoorW.PrintWords Go.Proofs.YtfjemaeidmikmaaDoorW.PrintLast Go.Proofs.Bs Go.Proofs.YtfjemaeidmikmaaDoor
def gridL (n : Nat) (G : Grid) : List (List Bool) := (List.range (n + 1)).map fun i => (List.range (n + 1)).map fun j => G i j
def updG (G : Grid) (i j : Nat) (b : Bool) : Grid := fun i' j' => if i' = i ∧ j' = j then b else G i' j'
theorem gridL_len (n : Nat) (G : Grid) : (gridL n G).length = n + 1 := by simp [gridL]
theorem gridL_row {n : Nat} {G : Grid} {i : Nat} (hi : i ≤ n) : rd_L10 (gridL n G) (i : Int) = (List.range (n + 1)).map fun j => G i j := by
  unfold rd_L10 gridL;rw [Int.toNat_natCast, List.getD_eq_getElem?_getD, List.getElem?_map, List.getElem?_range (by omega)];rfl
theorem gridL_rlen {n : Nat} {G : Grid} {i : Nat} (hi : i ≤ n) : (rd_L10 (gridL n G) (i : Int)).length = n + 1 := by
  rw [gridL_row hi]; simp
theorem gridL_rd {n : Nat} {G : Grid} {i j : Nat} (hi : i ≤ n) (hj : j ≤ n) : rdOf false (rd_L10 (gridL n G) (i : Int)) (j : Int) = G i j := by
  rw [gridL_row hi];unfold rdOf;rw [Int.toNat_natCast, List.getD_eq_getElem?_getD, List.getElem?_map, List.getElem?_range (by omega)];rfl
theorem gridL_congr {n : Nat} {G G' : Grid} (h : ∀ i j, i ≤ n → j ≤ n → G i j = G' i j) : gridL n G = gridL n G' := by
  unfold gridL;(refine List.map_congr_left fun i hi => List.map_congr_left fun j hj => ?_);rw [List.mem_range] at hi hj;exact h i j (by omega) (by omega)
theorem gridL_get {n : Nat} {G : Grid} {a : Nat} (h : a < (gridL n G).length) : (gridL n G)[a] = (List.range (n + 1)).map fun j => G a j := by simp [gridL]
theorem gridL_set {n : Nat} {G : Grid} {i j : Nat} (hi : i ≤ n) (hj : j ≤ n) (b : Bool) : (gridL n G).set (i : Int).toNat ((rd_L10 (gridL n G) (i : Int)).set (j : Int).toNat b) = gridL n (updG G i j b) := by
  rw [gridL_row hi, Int.toNat_natCast, Int.toNat_natCast];(refine List.ext_getElem (by simp [gridL]) fun a ha hb => ?_);rw [gridL_len] at hb;rw [List.getElem_set];rw [gridL_get, gridL_get];by_cases e : i = a
  · subst e;rw [if_pos rfl];(refine List.ext_getElem (by simp) fun c hc hd => ?_);rw [List.getElem_set, List.getElem_map, List.getElem_map, List.getElem_range];unfold updG;by_cases e2 : j = c
    · rw [if_pos e2, if_pos ⟨rfl, e2.symm⟩]
    · rw [if_neg e2, if_neg (fun h => e2 h.2.symm)]
  · rw [if_neg e];(refine List.map_congr_left fun c hc => ?_);unfold updG;rw [if_neg (fun h => e h.1.symm)]
theorem up1 (i : Nat) (h : i ≤ 1000000) : wrap64 ((i : Int) + 1) = ((i + 1 : Nat) : Int) := by unfold wrap64; omega
theorem grid_l0 (n : Nat) (hn : n ≤ 100000) : ∀ d i : Nat, n + 1 - i = d → i ≤ n + 1 → EV (fun k => tattingref07_grid.l0 k (n : Int) (List.replicate i (List.replicate (n + 1) false)) (i : Int)) (List.replicate (n + 1) (List.replicate (n + 1) false)) := by
  intro d
  induction d with
  | zero =>
    intro i hd hi;(obtain rfl : i = n + 1 := by omega);(refine EV.stop fun k => ?_);simp only [tattingref07_grid.l0];rw [if_neg (by omega)]
  | succ d ih =>
    intro i hd hi;(have p1 : (i : Int) ≤ (n : Int) := by omega);(have p2 : (0 : Int) ≤ ((n + 1 : Nat) : Int) := by omega);(have p3 : ((n + 1 : Nat) : Int).toNat ≤ 281474976710656 := by omega);(have p4 : (List.replicate i (List.replicate (n + 1) false)).length < 5864062014805 := by rw [List.length_replicate]; omega);(have p5 : ((n + 1 : Nat) : Int).toNat = n + 1 := by omega);(refine EV.step (ih (i + 1) (by omega) (by omega)) fun k => ?_);simp only [tattingref07_grid.l0];rw [if_pos p1, up1 n (by omega), if_pos p2, if_pos p3, if_pos p4, up1 i (by omega), p5, ← List.replicate_succ']
theorem gridL_false (n : Nat) : List.replicate (n + 1) (List.replicate (n + 1) false) = gridL n (fun _ _ => false) := by
  unfold gridL;simp [List.map_const']
theorem grid_ev (n : Nat) (hn : n ≤ 100000) : EV (fun k => tattingref07_grid.f k (n : Int)) (gridL n (fun _ _ => false)) := by
  unfold tattingref07_grid.f;rw [← gridL_false];exact grid_l0 n hn _ 0 rfl (by omega)
theorem even_l0 (n : Nat) (hn : n ≤ 100000) : ∀ (d i : Nat) (G : Grid), n + 1 - i = d → i ≤ n + 1 → EV (fun k => tattingref07_Even.l0 k (n : Int) (gridL n G) (i : Int)) (gridL n fun a b => if i ≤ a ∧ a = b then true else G a b) := by
  intro d
  induction d with
  | zero =>
    intro i G hd hi;refine EV.cast (EV.stop (r := gridL n G) fun k => ?_) (gridL_congr fun a b ha hb => ?_)
    · simp only [tattingref07_Even.l0];rw [if_neg (by omega)]
    · rw [if_neg (by omega)]
  | succ d ih =>
    intro i G hd hi;(have p1 : (i : Int) ≤ (n : Int) := by omega);(have p2 : (0 : Int) ≤ (i : Int) := by omega);(have p3 : (i : Int) < ((gridL n G).length : Int) := by rw [gridL_len]; omega);(have p4 : (i : Int) < ((rd_L10 (gridL n G) (i : Int)).length : Int) := by rw [gridL_rlen (by omega)]; omega);refine EV.cast (EV.step (ih (i + 1) (updG G i i true) (by omega) (by omega)) fun k => ?_) (gridL_congr fun a b ha hb => ?_)
    · simp only [tattingref07_Even.l0];rw [if_pos p1, if_pos p2, if_pos p3, if_pos p4, gridL_set (by omega) (by omega), up1 i (by omega)]
    · unfold updG;by_cases h1 : i + 1 ≤ a ∧ a = b
      · rw [if_pos h1, if_pos (by omega)]
      · rw [if_neg h1];by_cases h2 : a = i ∧ b = i
        · rw [if_pos h2, if_pos (by omega)]
        · rw [if_neg h2, if_neg (by omega)]
theorem even_ev (n : Nat) (hn : n ≤ 100000) : EV (fun k => tattingref07_Even.f k (n : Int)) (gridL n (evenG n)) := by
  unfold tattingref07_Even.f;refine EV.bind (grid_ev n hn) ?_;refine EV.cast (even_l0 n hn _ 0 _ rfl (by omega)) (gridL_congr fun a b ha hb => ?_);unfold evenG;by_cases h : a = b
  · rw [if_pos ⟨by omega, h⟩, decide_eq_true (by omega)]
  · rw [if_neg (fun q => h q.2), decide_eq_false (fun q => h q.1)]
variable {R : Type}
theorem behind_l2 (n : Nat) (hn : n ≤ 100000) (a b : Grid) (i m : Nat) (hi : i ≤ n) (hm : m ≤ n) (r : List (List Bool)) : ∀ (d j : Nat) (G : Grid), n + 1 - j = d → j ≤ n + 1 →
    EV (fun k => tattingref07_Behind.l1 k (gridL n a) (gridL n b) (n : Int) (gridL n fun x y => if x = i ∧ j ≤ y then G x y || (a i m && b m y) else G x y) (i : Int) ((m + 1 : Nat) : Int)) r →
    EV (fun k => tattingref07_Behind.l2 k (gridL n a) (gridL n b) (n : Int) (gridL n G) (i : Int) (m : Int) (j : Int)) r := by
  intro d
  induction d with
  | zero =>
    intro j G hd hj h;(refine EV.step h fun k => ?_);simp only [tattingref07_Behind.l2];rw [if_neg (by omega), up1 m (by omega)];congr 1;(refine gridL_congr fun x y hx hy => ?_);rw [if_neg (by omega)]
  | succ d ih =>
    intro j G hd hj h;(have p1 : (j : Int) ≤ (n : Int) := by omega);(have p2 : (0 : Int) ≤ (i : Int) := by omega);(have p3 : (i : Int) < ((gridL n a).length : Int) := by rw [gridL_len]; omega);(have p4 : (0 : Int) ≤ (m : Int) := by omega);(have p5 : (m : Int) < ((rd_L10 (gridL n a) (i : Int)).length : Int) := by rw [gridL_rlen hi]; omega);have p6 : rdOf false (rd_L10 (gridL n a) (i : Int)) (m : Int) = a i m := gridL_rd hi hm;(have p7 : (i : Int) < ((gridL n G).length : Int) := by rw [gridL_len]; omega);(have p8 : (0 : Int) ≤ (j : Int) := by omega);(have p9 : (j : Int) < ((rd_L10 (gridL n G) (i : Int)).length : Int) := by rw [gridL_rlen hi]; omega);have p10 : rdOf false (rd_L10 (gridL n G) (i : Int)) (j : Int) = G i j := gridL_rd hi (by omega);(have p11 : (m : Int) < ((gridL n b).length : Int) := by rw [gridL_len]; omega);(have p12 : (j : Int) < ((rd_L10 (gridL n b) (m : Int)).length : Int) := by rw [gridL_rlen hm]; omega);have p13 : rdOf false (rd_L10 (gridL n b) (m : Int)) (j : Int) = b m j := gridL_rd hm (by omega)
    cases ha : a i m with
    | false =>
      (refine EV.step h fun k => ?_);simp only [tattingref07_Behind.l2];rw [if_pos p1, if_pos p2, if_pos p3, if_pos p4, if_pos p5, p6, ha, if_neg Bool.false_ne_true, up1 m (by omega)];congr 1;(refine gridL_congr fun x y hx hy => ?_);rw [Bool.false_and, Bool.or_false, ite_self]
    | true =>
      have hstep := ih (j + 1) (updG G i j (G i j || b m j)) (by omega) (by omega) (by
        refine EV.congr (fun k => ?_) h;congr 1;(refine gridL_congr fun x y hx hy => ?_);unfold updG;simp only [ha, Bool.true_and];by_cases h1 : x = i
        · subst h1;by_cases h2 : y = j
          · subst h2;rw [if_neg (by omega), if_pos ⟨rfl, rfl⟩, if_pos ⟨rfl, by omega⟩]
          · rw [show (if x = x ∧ y = j then G x j || b m j else G x y) = G x y from if_neg fun q => h2 q.2];by_cases h3 : j + 1 ≤ y
            · rw [if_pos ⟨rfl, h3⟩, if_pos ⟨rfl, by omega⟩]
            · rw [if_neg (fun q => h3 q.2), if_neg (fun q => by omega)]
        · rw [if_neg (fun q => h1 q.1), if_neg (fun q => h1 q.1), if_neg (fun q => h1 q.1)])
      (refine EV.step hstep fun k => ?_);simp only [tattingref07_Behind.l2];rw [if_pos p1, if_pos p2, if_pos p3, if_pos p4, if_pos p5, p6, ha, if_pos rfl, if_pos p7, if_pos p8, if_pos p9, p10]
      cases hg : G i j with
      | true =>
        rw [if_pos rfl, gridL_set hi (by omega), up1 j (by omega), Bool.true_or]
      | false =>
        rw [if_neg Bool.false_ne_true, if_pos p11, if_pos p12, p13, gridL_set hi (by omega), up1 j (by omega), Bool.false_or]
def anyM (n i m : Nat) (a b : Grid) (y : Nat) : Bool := (List.range (n + 1)).any fun q => decide (m ≤ q ∧ q ≤ y) && a i q && b q y
theorem anyM_iff {n i m : Nat} {a b : Grid} {y : Nat} : anyM n i m a b y = true ↔ ∃ q, q ≤ n ∧ m ≤ q ∧ q ≤ y ∧ a i q = true ∧ b q y = true := by
  unfold anyM;simp only [Bool.and_eq_true, decide_eq_true_eq, List.any_eq_true, List.mem_range];constructor
  · rintro ⟨q, h1, ⟨⟨h2, h3⟩, h4⟩, h5⟩; exact ⟨q, by omega, h2, h3, h4, h5⟩
  · rintro ⟨q, h1, h2, h3, h4, h5⟩; exact ⟨q, by omega, ⟨⟨h2, h3⟩, h4⟩, h5⟩
theorem behind_l1 (n : Nat) (hn : n ≤ 100000) (a b : Grid) (i : Nat) (hi : i ≤ n) (r : List (List Bool)) : ∀ (d m : Nat) (G : Grid), n + 1 - m = d → m ≤ n + 1 →
    EV (fun k => tattingref07_Behind.l0 k (gridL n a) (gridL n b) (n : Int) (gridL n fun x y => if x = i then G x y || anyM n i m a b y else G x y) ((i + 1 : Nat) : Int)) r →
    EV (fun k => tattingref07_Behind.l1 k (gridL n a) (gridL n b) (n : Int) (gridL n G) (i : Int) (m : Int)) r := by
  intro d
  induction d with
  | zero =>
    intro m G hd hm h;(refine EV.step h fun k => ?_);simp only [tattingref07_Behind.l1];rw [if_neg (by omega), up1 i (by omega)];congr 1;(refine gridL_congr fun x y hx hy => ?_)
    have : anyM n i m a b y = false := by
      cases q : anyM n i m a b y with
      | false => rfl
      | true => obtain ⟨q, h1, h2, _⟩ := anyM_iff.1 q; omega
    rw [this, Bool.or_false, ite_self]
  | succ d ih =>
    intro m G hd hm h;(have p1 : (m : Int) ≤ (n : Int) := by omega);(refine EV.step (behind_l2 n hn a b i m hi (by omega) r _ m G rfl (by omega) (ih (m + 1) _ (by omega) (by omega) (EV.congr (fun k => ?_) h))) fun k => ?_)
    · congr 1;(refine gridL_congr fun x y hx hy => ?_);by_cases h1 : x = i
      · subst h1;rw [if_pos rfl, if_pos rfl, Bool.eq_iff_iff]
        have e : (if x = x ∧ m ≤ y then G x y || (a x m && b m y) else G x y) = true ↔ (G x y = true ∨ (m ≤ y ∧ a x m = true ∧ b m y = true)) := by
          by_cases h2 : m ≤ y
          · rw [if_pos ⟨rfl, h2⟩, Bool.or_eq_true, Bool.and_eq_true];exact ⟨fun q => q.imp id fun q => ⟨h2, q⟩, fun q => q.imp id fun q => q.2⟩
          · rw [if_neg (fun q => h2 q.2)];exact ⟨.inl, fun q => q.resolve_right fun q => h2 q.1⟩
        rw [Bool.or_eq_true, Bool.or_eq_true, e, anyM_iff, anyM_iff];constructor
        · rintro ((q | ⟨q1, q2, q3⟩) | ⟨q, q1, q2, q3, q4, q5⟩)
          · exact .inl q
          · exact .inr ⟨m, by omega, by omega, q1, q2, q3⟩
          · exact .inr ⟨q, q1, by omega, q3, q4, q5⟩
        · rintro (q | ⟨q, q1, q2, q3, q4, q5⟩)
          · exact .inl (.inl q)
          · by_cases hq : q = m
            · subst hq;exact .inl (.inr ⟨q3, q4, q5⟩)
            · exact .inr ⟨q, q1, by omega, q3, q4, q5⟩
      · rw [if_neg h1, if_neg h1, if_neg (fun q => h1 q.1)]
    · simp only [tattingref07_Behind.l1];rw [if_pos p1]
theorem behind_l0 (n : Nat) (hn : n ≤ 100000) (a b : Grid) : ∀ (d i : Nat) (G : Grid), n + 1 - i = d → i ≤ n + 1 →
    EV (fun k => tattingref07_Behind.l0 k (gridL n a) (gridL n b) (n : Int) (gridL n G) (i : Int)) (gridL n fun x y => if i ≤ x then G x y || anyM n x x a b y else G x y) := by
  intro d
  induction d with
  | zero =>
    intro i G hd hi;refine EV.cast (EV.stop (r := gridL n G) fun k => ?_) (gridL_congr fun x y hx hy => ?_)
    · simp only [tattingref07_Behind.l0];rw [if_neg (by omega)]
    · rw [if_neg (by omega)]
  | succ d ih =>
    intro i G hd hi;(have p1 : (i : Int) ≤ (n : Int) := by omega);(refine EV.step (behind_l1 n hn a b i (by omega) _ _ i G rfl (by omega) (EV.cast (ih (i + 1) _ (by omega) (by omega)) (gridL_congr fun x y hx hy => ?_))) fun k => ?_)
    · by_cases h1 : x = i
      · subst h1;rw [if_neg (by omega), if_pos rfl, if_pos (by omega)]
      · rw [if_neg h1];by_cases h2 : i ≤ x
        · rw [if_pos (by omega), if_pos h2]
        · rw [if_neg (by omega), if_neg h2]
    · simp only [tattingref07_Behind.l0];rw [if_pos p1]
theorem behind_ev (n : Nat) (hn : n ≤ 100000) (a b : Grid) : EV (fun k => tattingref07_Behind.f k (gridL n a) (gridL n b)) (gridL n (behindG n a b)) := by
  unfold tattingref07_Behind.f;(have e : wrap64 (((gridL n a).length : Int) - 1) = (n : Int) := by rw [gridL_len]; unfold wrap64; omega);rw [e];refine EV.bind (grid_ev n hn) ?_;refine EV.cast (behind_l0 n hn a b _ 0 _ rfl (by omega)) (gridL_congr fun x y hx hy => ?_);rw [if_pos (by omega), Bool.false_or, Bool.eq_iff_iff, anyM_iff, behindG_iff];constructor
  · rintro ⟨q, h1, h2, h3, h4, h5⟩; exact ⟨by omega, hy, q, h2, h3, h4, h5⟩
  · rintro ⟨h1, h2, q, h3, h4, h5, h6⟩; exact ⟨q, by omega, h3, h4, h5, h6⟩
theorem either_l1 (n : Nat) (hn : n ≤ 100000) (a b : Grid) (i : Nat) (hi : i ≤ n) (r : List (List Bool)) : ∀ (d j : Nat) (G : Grid), n + 1 - j = d → j ≤ n + 1 →
    EV (fun k => tattingref07_Either.l0 k (gridL n a) (gridL n b) (n : Int) (gridL n fun x y => if x = i ∧ j ≤ y then a x y || b x y else G x y) ((i + 1 : Nat) : Int)) r →
    EV (fun k => tattingref07_Either.l1 k (gridL n a) (gridL n b) (n : Int) (gridL n G) (i : Int) (j : Int)) r := by
  intro d
  induction d with
  | zero =>
    intro j G hd hj h;(refine EV.step h fun k => ?_);simp only [tattingref07_Either.l1];rw [if_neg (by omega), up1 i (by omega)];congr 1;(refine gridL_congr fun x y hx hy => ?_);rw [if_neg (by omega)]
  | succ d ih =>
    intro j G hd hj h;(have p1 : (j : Int) ≤ (n : Int) := by omega);(have p2 : (0 : Int) ≤ (i : Int) := by omega);(have p3 : (i : Int) < ((gridL n G).length : Int) := by rw [gridL_len]; omega);(have p4 : (i : Int) < ((gridL n a).length : Int) := by rw [gridL_len]; omega);(have p5 : (0 : Int) ≤ (j : Int) := by omega);(have p6 : (j : Int) < ((rd_L10 (gridL n a) (i : Int)).length : Int) := by rw [gridL_rlen hi]; omega);have p7 : rdOf false (rd_L10 (gridL n a) (i : Int)) (j : Int) = a i j := gridL_rd hi (by omega);(have p8 : (j : Int) < ((rd_L10 (gridL n G) (i : Int)).length : Int) := by rw [gridL_rlen hi]; omega);(have p9 : (i : Int) < ((gridL n b).length : Int) := by rw [gridL_len]; omega);(have p10 : (j : Int) < ((rd_L10 (gridL n b) (i : Int)).length : Int) := by rw [gridL_rlen hi]; omega);have p11 : rdOf false (rd_L10 (gridL n b) (i : Int)) (j : Int) = b i j := gridL_rd hi (by omega)
    have hstep := ih (j + 1) (updG G i j (a i j || b i j)) (by omega) (by omega) (by
      refine EV.congr (fun k => ?_) h;congr 1;(refine gridL_congr fun x y hx hy => ?_);unfold updG;by_cases h1 : x = i
      · subst h1;by_cases h2 : y = j
        · subst h2;rw [if_neg (by omega), if_pos ⟨rfl, rfl⟩, if_pos ⟨rfl, by omega⟩]
        · rw [show (if x = x ∧ y = j then a x j || b x j else G x y) = G x y from if_neg fun q => h2 q.2];by_cases h3 : j + 1 ≤ y
          · rw [if_pos ⟨rfl, h3⟩, if_pos ⟨rfl, by omega⟩]
          · rw [if_neg (fun q => h3 q.2), if_neg (fun q => by omega)]
      · rw [if_neg (fun q => h1 q.1), if_neg (fun q => h1 q.1), if_neg (fun q => h1 q.1)])
    (refine EV.step hstep fun k => ?_);simp only [tattingref07_Either.l1];rw [if_pos p1, if_pos p2, if_pos p3, if_pos p4, if_pos p5, if_pos p6, p7]
    cases hg : a i j with
    | true =>
      rw [if_pos rfl, if_pos p8, gridL_set hi (by omega), up1 j (by omega), Bool.true_or]
    | false =>
      rw [if_neg Bool.false_ne_true, if_pos p9, if_pos p10, if_pos p8, p11, gridL_set hi (by omega), up1 j (by omega), Bool.false_or]
theorem either_l0 (n : Nat) (hn : n ≤ 100000) (a b : Grid) : ∀ (d i : Nat) (G : Grid), n + 1 - i = d → i ≤ n + 1 →
    EV (fun k => tattingref07_Either.l0 k (gridL n a) (gridL n b) (n : Int) (gridL n G) (i : Int)) (gridL n fun x y => if i ≤ x ∧ x ≤ y then a x y || b x y else G x y) := by
  intro d
  induction d with
  | zero =>
    intro i G hd hi;refine EV.cast (EV.stop (r := gridL n G) fun k => ?_) (gridL_congr fun x y hx hy => ?_)
    · simp only [tattingref07_Either.l0];rw [if_neg (by omega)]
    · rw [if_neg (by omega)]
  | succ d ih =>
    intro i G hd hi;(have p1 : (i : Int) ≤ (n : Int) := by omega);(refine EV.step (either_l1 n hn a b i (by omega) _ _ i G rfl (by omega) (EV.cast (ih (i + 1) _ (by omega) (by omega)) (gridL_congr fun x y hx hy => ?_))) fun k => ?_)
    · by_cases h1 : x = i
      · subst h1;rw [if_neg (by omega)];by_cases h2 : x ≤ y
        · rw [if_pos ⟨rfl, h2⟩, if_pos ⟨by omega, h2⟩]
        · rw [if_neg (fun q => h2 q.2), if_neg (fun q => h2 q.2)]
      · rw [if_neg (c := x = i ∧ i ≤ y) (fun q => h1 q.1)];by_cases h2 : i ≤ x ∧ x ≤ y
        · rw [if_pos (by omega), if_pos h2]
        · rw [if_neg (by omega), if_neg h2]
    · simp only [tattingref07_Either.l0];rw [if_pos p1]
theorem either_ev (n : Nat) (hn : n ≤ 100000) (a b : Grid) : EV (fun k => tattingref07_Either.f k (gridL n a) (gridL n b)) (gridL n (eitherG n a b)) := by
  unfold tattingref07_Either.f;(have e : wrap64 (((gridL n a).length : Int) - 1) = (n : Int) := by rw [gridL_len]; unfold wrap64; omega);rw [e];refine EV.bind (grid_ev n hn) ?_;refine EV.cast (either_l0 n hn a b _ 0 _ rfl (by omega)) (gridL_congr fun x y hx hy => ?_);unfold eitherG;by_cases h : x ≤ y
  · rw [if_pos ⟨by omega, h⟩, decide_eq_true ⟨h, hy⟩, Bool.true_and]
  · rw [if_neg (fun q => h q.2), decide_eq_false (fun q => h q.1), Bool.false_and]
end Go.Proofs.YtfjemaeidmikmaaDoorQ
