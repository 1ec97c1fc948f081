import Derived.Test.YtfjemaeidmikmaaDoorBM5
import Derived.Test.YtfjemaeidmikmaaDoorBSbFirsts
import Derived.Test.YtfjemaeidmikmaaDoorBAlEv
import Derived.Test.YtfjemaeidmikmaaDoorBQTattingref11Build
import Derived.Test.YtfjemaeidmikmaaDoorBQTattingref11Find
set_option linter.unusedVariables false
set_option linter.unusedSimpArgs false
namespace Go.Proofs.YtfjemaeidmikmaaDoorQ
open Go.RowKit Go.Proofs.YtfjemaeidmikmaaDoorW.PrintWords Go.Proofs.YtfjemaeidmikmaaDoorW.PrintLast Go.Proofs.Bs Go.Proofs.YtfjemaeidmikmaaDoor
abbrev Mk2 := List (List Bool)
abbrev Qr := Mk2 × List Int
def knR (M : Mk2) (t : List Bool) : Mk2 × Nat := if t ∈ M then (M, M.idxOf t) else (M ++ [t], M.length)
def stepM (sts : List St) (m : List Bool) (sym : Int) : List Bool := if sym < 256 then stepR sts sym m else closeR sts sym m
def rinStep (sts : List St) (a : Nat) (q : Qr) (sym : Int) : Qr := ((knR q.1 (stepM sts (q.1.getD a []) sym)).1, q.2 ++ [((knR q.1 (stepM sts (q.1.getD a []) sym)).2 : Int)])
def rinN (sts : List St) (a : Nat) (firsts : List Int) (q : Qr) : Qr := firsts.foldl (rinStep sts a) q
def routN (sts : List St) (firsts : List Int) (most : Int) : Nat → Nat → Qr → Qr
  | 0, _, q => q
  | k + 1, a, q => if a < q.1.length ∧ (q.1.length : Int) ≤ most then routN sts firsts most k (a + 1) (rinN sts a firsts q) else q
def rrunQ (sts : List St) (s : Int) (firsts : List Int) (most : Int) : Qr := routN sts firsts most (most + 1).toNat 0 ([closeR sts 0 (ofN sts.length [s])], [])
def okM (n : Nat) (M : Mk2) : Prop := ∀ m ∈ M, m.length = n
def imgQ (q : Qr) : Qt := (q.1.map listN, q.2)
theorem listN_inj {n : Nat} {a b : List Bool} (ha : a.length = n) (hb : b.length = n) (h : listN a = listN b) : a = b := by
  have h1 := of_list a
  have h2 := of_list b
  rw [ha] at h1
  rw [hb, ← h] at h2
  rw [← h1, h2]
theorem mem_img {n : Nat} {M : Mk2} {t : List Bool} (hM : okM n M) (ht : t.length = n) : listN t ∈ M.map listN ↔ t ∈ M := by
  constructor
  · intro h
    obtain ⟨m, hm, e⟩ := List.mem_map.1 h
    rw [← listN_inj (hM m hm) ht e]
    exact hm
  · exact fun h => List.mem_map_of_mem h
theorem idx_img {n : Nat} (t : List Bool) (ht : t.length = n) : ∀ {M : Mk2}, okM n M → (M.map listN).idxOf (listN t) = M.idxOf t
  | [], _ => rfl
  | m :: M, hM => by
    have ih := idx_img t ht (M := M) (fun x hx => hM x (List.mem_cons_of_mem _ hx))
    rw [List.map_cons, List.idxOf_cons, List.idxOf_cons, ih]
    have hm := hM m List.mem_cons_self
    have e : (listN m == listN t) = (m == t) := by
      rw [Bool.eq_iff_iff, beq_iff_eq, beq_iff_eq]
      exact ⟨fun h => listN_inj hm ht h, fun h => by rw [h]⟩
    rw [e]
theorem kn_img {n : Nat} {M : Mk2} {t : List Bool} (hM : okM n M) (ht : t.length = n) : knS (M.map listN) (listN t) = ((knR M t).1.map listN, (knR M t).2) := by
  unfold knS knR
  by_cases h : t ∈ M
  · rw [if_pos h, if_pos ((mem_img hM ht).2 h), idx_img t ht hM]
  · rw [if_neg h, if_neg (fun k => h ((mem_img hM ht).1 k)), List.map_append, List.length_map]
    rfl
theorem kn_ok {n : Nat} {M : Mk2} {t : List Bool} (hM : okM n M) (ht : t.length = n) : okM n (knR M t).1 := by
  unfold knR
  split
  · exact hM
  · intro x hx
    rcases List.mem_append.1 hx with hx | hx
    · exact hM x hx
    · rw [List.mem_singleton.1 hx]; exact ht
theorem stepM_len (sts : List St) (m : List Bool) (sym : Int) : (stepM sts m sym).length = sts.length := by
  unfold stepM
  split <;> exact closeR_len _ _ _
theorem step_img (sts : List St) (hok : okSts sts) (m : List Bool) (hm : m.length = sts.length) (sym : Int) : toT sts (listN m) sym = listN (stepM sts m sym) := by
  have h1 := of_list m
  rw [hm] at h1
  unfold toT stepM
  split
  · rw [step_close sts sym _ hok, h1]
  · rw [walk_close sts sym _ hok, h1]
theorem getD_img {n : Nat} {M : Mk2} {a : Nat} (h : a < M.length) : (M.map listN).getD a [] = listN (M.getD a []) := by
  rw [List.getD_eq_getElem?_getD, List.getD_eq_getElem?_getD, List.getElem?_map, List.getElem?_eq_getElem h]
  rfl
theorem getD_ok {n : Nat} {M : Mk2} (hM : okM n M) {a : Nat} (h : a < M.length) : (M.getD a []).length = n := by
  rw [List.getD_eq_getElem?_getD, List.getElem?_eq_getElem h]
  exact hM _ (List.getElem_mem h)
theorem knR_len (M : Mk2) (t : List Bool) : M.length ≤ (knR M t).1.length ∧ (knR M t).1.length ≤ M.length + 1 := by
  unfold knR
  split <;> simp
theorem rin_len (sts : List St) (a : Nat) (q : Qr) (x : Int) : q.1.length ≤ (rinStep sts a q x).1.length ∧ (rinStep sts a q x).1.length ≤ q.1.length + 1 ∧ (rinStep sts a q x).2.length = q.2.length + 1 := by
  have := knR_len q.1 (stepM sts (q.1.getD a []) x)
  exact ⟨this.1, this.2, by simp [rinStep]⟩
theorem rinN_len (sts : List St) (a : Nat) (q : Qr) : ∀ l : List Int, q.1.length ≤ (rinN sts a l q).1.length ∧ (rinN sts a l q).1.length ≤ q.1.length + l.length ∧ (rinN sts a l q).2.length = q.2.length + l.length := by
  intro l
  induction l generalizing q with
  | nil => exact ⟨Nat.le_refl _, Nat.le_refl _, rfl⟩
  | cons x l ih =>
    have h := ih (rinStep sts a q x)
    have h2 := rin_len sts a q x
    have e3 : rinN sts a (x :: l) q = rinN sts a l (rinStep sts a q x) := rfl
    rw [e3, List.length_cons]
    omega
theorem rin_ok (sts : List St) (a : Nat) (q : Qr) (h : okM sts.length q.1) (x : Int) : okM sts.length (rinStep sts a q x).1 := kn_ok h (stepM_len _ _ _)
theorem rinN_ok (sts : List St) (a : Nat) : ∀ (l : List Int) (q : Qr), okM sts.length q.1 → okM sts.length (rinN sts a l q).1
  | [], q, h => h
  | x :: l, q, h => rinN_ok sts a l _ (rin_ok sts a q h x)
theorem in_img (sts : List St) (hok : okSts sts) (a : Nat) : ∀ (l : List Int) (q : Qr), okM sts.length q.1 → a < q.1.length → inN sts a l (imgQ q) = imgQ (rinN sts a l q)
  | [], q, h, ha => rfl
  | x :: l, q, h, ha => by
    have h2 := rin_len sts a q x
    have ih := in_img sts hok a l (rinStep sts a q x) (rin_ok sts a q h x) (by omega)
    have e : inStep sts a (imgQ q) x = imgQ (rinStep sts a q x) := by
      unfold inStep imgQ rinStep
      simp only
      rw [getD_img (n := sts.length) ha, step_img sts hok _ (getD_ok h ha), kn_img h (stepM_len _ _ _)]
    show inN sts a l (inStep sts a (imgQ q) x) = _
    rw [e, ih]
    rfl
theorem out_img (sts : List St) (hok : okSts sts) (firsts : List Int) (most : Int) : ∀ (k a : Nat) (q : Qr), okM sts.length q.1 → outN sts firsts most k a (imgQ q) = imgQ (routN sts firsts most k a q)
  | 0, a, q, h => rfl
  | k + 1, a, q, h => by
    have hl : (imgQ q).1.length = q.1.length := List.length_map _
    unfold outN routN
    rw [hl]
    by_cases c : a < q.1.length ∧ (q.1.length : Int) ≤ most
    · rw [if_pos c, if_pos c, in_img sts hok a firsts q h c.1]
      exact out_img sts hok firsts most k (a + 1) _ (rinN_ok sts a firsts q h)
    · rw [if_neg c, if_neg c]
theorem run_img (sts : List St) (hok : okSts sts) (s : Int) (firsts : List Int) (most : Int) : runQ sts s firsts most = imgQ (rrunQ sts s firsts most) := by
  have h0 : okM sts.length [closeR sts 0 (ofN sts.length [s])] := fun m hm => by rw [List.mem_singleton.1 hm]; exact closeR_len _ _ _
  have := out_img sts hok firsts most (most + 1).toNat 0 ([closeR sts 0 (ofN sts.length [s])], []) h0
  unfold rrunQ
  rw [← this]
  unfold runQ imgQ
  rw [List.map_cons, List.map_nil, walk_close sts 0 _ hok]
theorem find_l1 (M : Mk2) (n : Nat) (hM : okM n M) (hn : n ≤ 1000000) (hl : M.length ≤ 1000000) (t : List Bool) (ht : t.length = n) (i : Nat) (hi : i < M.length) (r : Int) (h : M.getD i [] ≠ t → EV (fun k => tattingref11_find.l0 k M t ((i + 1 : Nat) : Int)) r) (hr : M.getD i [] = t → r = (i : Int)) :
    ∀ d j : Nat, n - j = d → j ≤ n → ∀ b : Bool, (b = true ↔ (M.getD i []).take j = t.take j) → EV (fun k => tattingref11_find.l1 k M t (i : Int) b (j : Int)) r := by
  have hmi := getD_ok hM hi
  have hrow : rd_L10 M (i : Int) = M.getD i [] := by unfold rd_L10; rw [Int.toNat_natCast]
  intro d
  induction d with
  | zero =>
    intro j hd hj b hb
    obtain rfl : j = n := by omega
    rw [List.take_of_length_le (by omega), List.take_of_length_le (by omega)] at hb
    by_cases hbt : b = true
    · have e := hb.1 hbt
      subst hbt
      refine EV.cast (EV.stop (r := (i : Int)) fun k => ?_) (hr e).symm
      simp only [tattingref11_find.l1, if_true]
      rw [if_neg (by omega)]
    · have hne : M.getD i [] ≠ t := fun e => hbt (hb.2 e)
      refine EV.step (h hne) fun k => ?_
      simp only [tattingref11_find.l1]
      rw [if_neg (by omega), if_neg hbt, up_w (by omega)]
  | succ d ih =>
    intro j hd hj b hb
    have t1 : (M.getD i []).take (j + 1) = (M.getD i []).take j ++ [(M.getD i [])[j]'(by omega)] := by
      rw [List.take_add_one, List.getElem?_eq_getElem (by omega)]; rfl
    have t2 : t.take (j + 1) = t.take j ++ [t[j]'(by omega)] := by
      rw [List.take_add_one, List.getElem?_eq_getElem (by omega)]; rfl
    have r1 : rdOf false (rd_L10 M (i : Int)) (j : Int) = (M.getD i [])[j]'(by omega) := by
      rw [hrow]
      unfold rdOf
      rw [Int.toNat_natCast, List.getD_eq_getElem?_getD, List.getElem?_eq_getElem (by omega)]
      rfl
    have r2 : rdOf false t (j : Int) = t[j]'(by omega) := by
      unfold rdOf
      rw [Int.toNat_natCast, List.getD_eq_getElem?_getD, List.getElem?_eq_getElem (by omega)]
      rfl
    have key : (M.getD i []).take (j + 1) = t.take (j + 1) ↔ (M.getD i []).take j = t.take j ∧ (M.getD i [])[j]'(by omega) = t[j]'(by omega) := by
      rw [t1, t2]
      constructor
      · intro h
        have := List.append_inj' h rfl
        exact ⟨this.1, by simpa using this.2⟩
      · rintro ⟨h1, h2⟩
        rw [h1, h2]
    by_cases hbt : b = true
    · have hst := ih (j + 1) (by omega) (by omega) (rdOf false (rd_L10 M (i : Int)) (j : Int) == rdOf false t (j : Int)) (by rw [r1, r2, key, beq_iff_eq]; exact ⟨fun h => ⟨hb.1 hbt, h⟩, fun h => h.2⟩)
      refine EV.step hst fun k => ?_
      simp only [tattingref11_find.l1]
      rw [if_pos (by omega), if_pos hbt, if_pos (by omega), if_pos (by omega), if_pos (by omega), if_pos (by rw [hrow]; omega), up_w (by omega)]
    · have hst := ih (j + 1) (by omega) (by omega) false (by rw [key]; exact ⟨fun h => (by cases h), fun h => absurd (hb.2 h.1) hbt⟩)
      refine EV.step hst fun k => ?_
      simp only [tattingref11_find.l1]
      rw [if_pos (by omega), if_neg hbt, up_w (by omega)]
def findR (M : Mk2) (t : List Bool) : Int := if t ∈ M then (M.idxOf t : Nat) else -1
theorem find_l0 (M : Mk2) (n : Nat) (hM : okM n M) (hn : n ≤ 1000000) (hl : M.length ≤ 1000000) (t : List Bool) (ht : t.length = n) : ∀ d i : Nat, M.length - i = d → i ≤ M.length → EV (fun k => tattingref11_find.l0 k M t (i : Int)) (if t ∈ M.drop i then ((i + (M.drop i).idxOf t : Nat) : Int) else -1) := by
  intro d
  induction d with
  | zero =>
    intro i hd hi
    rw [if_neg (by rw [List.drop_of_length_le (by omega)]; simp)]
    refine EV.stop fun k => ?_
    simp only [tattingref11_find.l0]
    rw [if_neg (by omega)]
  | succ d ih =>
    intro i hd hi
    have hlt : i < M.length := by omega
    have hg : M.getD i [] = M[i] := by rw [List.getD_eq_getElem?_getD, List.getElem?_eq_getElem hlt]; rfl
    have hdr := List.drop_eq_getElem_cons hlt
    have hl1 := find_l1 M n hM hn hl t ht i hlt (if t ∈ M.drop i then ((i + (M.drop i).idxOf t : Nat) : Int) else -1) (fun hne => by
      have h := ih (i + 1) (by omega) (by omega)
      refine h.cast ?_
      rw [hg] at hne
      rw [hdr, List.idxOf_cons]
      have hb : (M[i] == t) = false := by simpa using hne
      rw [hb]
      by_cases hm : t ∈ M.drop (i + 1)
      · rw [if_pos hm, if_pos (List.mem_cons_of_mem _ hm)]
        show _ = ((i + ((M.drop (i + 1)).idxOf t + 1) : Nat) : Int)
        omega
      · rw [if_neg hm, if_neg (fun k => ?_)]
        rcases List.mem_cons.1 k with k | k
        · exact hne k.symm
        · exact hm k) (fun he => by
      rw [hg] at he
      rw [hdr, List.idxOf_cons, he, if_pos List.mem_cons_self]
      simp) n 0 (by omega) (by omega) true (by simp)
    refine EV.step hl1 fun k => ?_
    simp only [tattingref11_find.l0]
    rw [if_pos (by omega)]
    rfl
theorem find_ev (M : Mk2) (n : Nat) (hM : okM n M) (hn : n ≤ 1000000) (hl : M.length ≤ 1000000) (t : List Bool) (ht : t.length = n) : EV (fun k => tattingref11_find.f k M t) (findR M t) := by
  unfold tattingref11_find.f findR
  have h := find_l0 M n hM hn hl t ht M.length 0 (by omega) (by omega)
  rw [List.drop_zero, Nat.zero_add] at h
  exact h
section
variable (sts : List St) (s f most : Int) (cl : List Int) (wd : Int) (F : List Int)
def rfin (q : Qr) : List Int × Int × Int × List Int × List Bool × Bool :=
  if most < (q.1.length : Int) then ([], 0, 0, [], [], false) else (cl, wd, 0, q.2, q.1.map (fun m => rdOf false m f), true)
theorem rb_l2 (hf : 0 ≤ f ∧ f < sts.length) (q : Qr) (hM : okM sts.length q.1) (hl : q.1.length ≤ 1000000) : ∀ d i : Nat, q.1.length - i = d → i ≤ q.1.length → EV (fun k => tattingref11_Build.l2 k q.1 (i : Int) sts s f cl wd 0 q.2 ((q.1.take i).map (fun m => rdOf false m f))) (cl, wd, 0, q.2, q.1.map (fun m => rdOf false m f), true) := by
  intro d
  induction d with
  | zero =>
    intro i hd hi
    have e : q.1.take i = q.1 := List.take_of_length_le (by omega)
    rw [e]
    refine EV.stop fun k => ?_
    simp only [tattingref11_Build.l2]
    rw [if_neg (by omega)]
  | succ d ih =>
    intro i hd hi
    have hlt : i < q.1.length := by omega
    have hrow : rd_L10 q.1 (i : Int) = q.1[i] := by
      unfold rd_L10
      rw [Int.toNat_natCast, List.getD_eq_getElem?_getD, List.getElem?_eq_getElem hlt]
      rfl
    have hlen := hM q.1[i] (List.getElem_mem hlt)
    have e : (q.1.take (i + 1)).map (fun m => rdOf false m f) = (q.1.take i).map (fun m => rdOf false m f) ++ [rdOf false q.1[i] f] := by
      rw [List.take_add_one, List.getElem?_eq_getElem hlt, List.map_append]
      rfl
    have hh := ih (i + 1) (by omega) (by omega)
    rw [e] at hh
    refine EV.step hh fun k => ?_
    simp only [tattingref11_Build.l2]
    rw [hrow, if_pos (by omega), if_pos (by omega), if_pos (by omega), if_pos (by omega), if_pos (by rw [List.length_map, List.length_take]; omega), up_w (by omega)]
theorem rb_l1 (hok : okSts sts) (hn : sts.length ≤ 600) (hw : wfSts sts) (hF : ∀ x ∈ F, 0 ≤ x ∧ x ≤ 258) (hFl : F.length ≤ 259) (hwd : wd = (F.length : Int)) (a : Nat) (r : List Int × Int × Int × List Int × List Bool × Bool) :
    ∀ (d j : Nat) (q : Qr), F.length - j = d → j ≤ F.length → okM sts.length q.1 → a < q.1.length → q.1.length + d ≤ 100000 → q.2.length + d ≤ 10000000 → EV (fun k => tattingref11_Build.l0 k most cl wd F (rinN sts a (F.drop j) q).1 (rinN sts a (F.drop j) q).2 ((a + 1 : Nat) : Int) sts s f) r → EV (fun k => tattingref11_Build.l1 k most cl wd F q.1 q.2 (a : Int) (j : Int) sts s f) r := by
  intro d
  induction d with
  | zero =>
    intro j q hd hj hM ha h1 h2 h
    rw [List.drop_of_length_le (by omega)] at h
    refine EV.step h fun k => ?_
    simp only [tattingref11_Build.l1]
    rw [if_neg (by omega), up_w (by omega)]
    rfl
  | succ d ih =>
    intro j q hd hj hM ha h1 h2 h
    have hlt : j < F.length := by omega
    have hx := hF F[j] (List.getElem_mem hlt)
    have hrd := rd_at F j hlt
    have hrow : rd_L10 q.1 (a : Int) = q.1.getD a [] := by
      unfold rd_L10
      rw [Int.toNat_natCast]
    have hml := getD_ok hM ha
    rw [List.drop_eq_getElem_cons hlt] at h
    have h' : EV (fun k => tattingref11_Build.l0 k most cl wd F (rinN sts a (F.drop (j + 1)) (rinStep sts a q F[j])).1 (rinN sts a (F.drop (j + 1)) (rinStep sts a q F[j])).2 ((a + 1 : Nat) : Int) sts s f) r := h
    have hlen := rin_len sts a q F[j]
    have hnext := ih (j + 1) (rinStep sts a q F[j]) (by omega) (by omega) (rin_ok sts a q hM F[j]) (by omega) (by omega) (by omega) h'
    have htl := stepM_len sts (q.1.getD a []) F[j]
    have hfind := find_ev q.1 sts.length hM (by omega) (by omega) (stepM sts (q.1.getD a []) F[j]) htl
    have p1 : (j : Int) < wd := by omega
    have p2 : (0 : Int) ≤ (a : Int) := by omega
    have p3 : (a : Int) < (q.1.length : Int) := by omega
    have p4 : (0 : Int) ≤ (j : Int) := by omega
    have p5 : (j : Int) < (F.length : Int) := by omega
    have p6 : q.1.length < 5864062014805 := by omega
    have p7 : q.2.length < 17592186044416 := by omega
    have hcont : EV (fun k => if findR q.1 (stepM sts (q.1.getD a []) F[j]) < 0 then (if q.1.length < 5864062014805 then (if q.2.length < 17592186044416 then (tattingref11_Build.l1 k most cl wd F (q.1 ++ [stepM sts (q.1.getD a []) F[j]]) (q.2 ++ [(q.1.length : Int)]) (a : Int) (wrap64 ((j : Int) + 1)) sts s f) else none) else none) else (if q.2.length < 17592186044416 then (tattingref11_Build.l1 k most cl wd F q.1 (q.2 ++ [findR q.1 (stepM sts (q.1.getD a []) F[j])]) (a : Int) (wrap64 ((j : Int) + 1)) sts s f) else none)) r := by
      refine EV.congr (fun k => ?_) hnext
      unfold rinStep knR findR
      rw [up_w (by omega)]
      by_cases hm : stepM sts (q.1.getD a []) F[j] ∈ q.1
      · rw [if_pos hm, if_pos hm, if_neg (by omega), if_pos p7]
      · rw [if_neg hm, if_neg hm, if_pos (by omega), if_pos p6, if_pos p7]
    by_cases hc : F[j] < 256
    · have hs := rstep_eq sts F[j] s f (q.1.getD a []) hn hok hw ⟨hx.1, hc⟩ hml
      have e : stepM sts (q.1.getD a []) F[j] = stepR sts F[j] (q.1.getD a []) := if_pos hc
      rw [e] at hfind hcont
      refine EV.succ ?_
      simp only [tattingref11_Build.l1, p1, p2, p3, p4, p5, hrd, hrow, hc, if_true]
      refine EV.bind hs ?_
      refine EV.bind hfind ?_
      exact hcont
    · have hs := rclose_eq sts F[j] s f (q.1.getD a []) hn hok hml
      have e : stepM sts (q.1.getD a []) F[j] = closeR sts F[j] (q.1.getD a []) := if_neg hc
      rw [e] at hfind hcont
      refine EV.succ ?_
      simp only [tattingref11_Build.l1, p1, p2, p3, p4, p5, hrd, hrow, hc, if_true, if_false]
      refine EV.bind hs ?_
      refine EV.bind hfind ?_
      exact hcont
theorem rb_end (hf : 0 ≤ f ∧ f < sts.length) (q : Qr) (hM : okM sts.length q.1) (hl : q.1.length ≤ 1000000) (a : Nat) : EV (fun k => tattingref11_Build.j1 k most cl wd F q.1 q.2 (a : Int) false sts s f) (rfin f most cl wd q) := by
  unfold rfin
  by_cases hm : most < (q.1.length : Int)
  · rw [if_pos hm]
    refine EV.stop fun k => ?_
    simp only [tattingref11_Build.j1, Bool.false_eq_true, if_false]
    rw [if_pos hm]
  · rw [if_neg hm]
    refine EV.step (rb_l2 sts s f cl wd hf q hM hl q.1.length 0 (by omega) (by omega)) fun k => ?_
    simp only [tattingref11_Build.j1, Bool.false_eq_true, if_false]
    rw [if_neg hm]
    rfl
theorem rb_l0 (hok : okSts sts) (hn : sts.length ≤ 600) (hw : wfSts sts) (hf : 0 ≤ f ∧ f < sts.length) (hF : ∀ x ∈ F, 0 ≤ x ∧ x ≤ 258) (hFl : F.length ≤ 259) (hwd : wd = (F.length : Int)) (hmost : most ≤ 1000) :
    ∀ (K a : Nat) (q : Qr), ((K : Int) + a = most + 1 ∨ K = 0 ∧ most + 1 ≤ a) → okM sts.length q.1 → q.1.length ≤ 2000 → q.2.length = a * F.length → EV (fun k => tattingref11_Build.l0 k most cl wd F q.1 q.2 (a : Int) sts s f) (rfin f most cl wd (routN sts F most K a q)) := by
  intro K
  induction K with
  | zero =>
    intro a q hK hM hl hq
    have he := rb_end sts s f most cl wd F hf q hM (by omega) a
    refine EV.step he fun k => ?_
    simp only [tattingref11_Build.l0]
    by_cases c : (a : Int) < (q.1.length : Int)
    · rw [if_pos c, decide_eq_false (by omega)]
    · rw [if_neg c]
  | succ K ih =>
    intro a q hK hM hl hq
    unfold routN
    by_cases c : a < q.1.length ∧ (q.1.length : Int) ≤ most
    · rw [if_pos c]
      have hlen := rinN_len sts a q F
      have hnx := ih (a + 1) (rinN sts a F q) (by omega) (rinN_ok sts a F q hM) (by omega) (by rw [hlen.2.2, hq, Nat.succ_mul])
      have haF : a * F.length ≤ 1000 * 259 := Nat.mul_le_mul (by omega) hFl
      have h1 := rb_l1 sts s f most cl wd F hok hn hw hF hFl hwd a _ F.length 0 q (by omega) (by omega) hM c.1 (by omega) (by omega) (by rw [List.drop_zero]; exact hnx)
      refine EV.step (EV.step h1 (g := fun k => tattingref11_Build.j1 k most cl wd F q.1 q.2 (a : Int) (decide ((q.1.length : Int) ≤ most)) sts s f) fun k => ?_) fun k => ?_
      · rw [decide_eq_true c.2]
        simp only [tattingref11_Build.j1, if_true]
        rfl
      · simp only [tattingref11_Build.l0]
        rw [if_pos (by omega)]
    · rw [if_neg c]
      have he := rb_end sts s f most cl wd F hf q hM (by omega) a
      refine EV.step he fun k => ?_
      simp only [tattingref11_Build.l0]
      by_cases c2 : (a : Int) < (q.1.length : Int)
      · rw [if_pos c2, decide_eq_false (by omega)]
      · rw [if_neg c2]
end
end Go.Proofs.YtfjemaeidmikmaaDoorQ
