import Derived.Test.YtfjemaeidmikmaaDoorFNfBu2
import Derived.Test.YtfjemaeidmikmaaDoorFM2
set_option linter.unusedVariables false
namespace Go.Proofs.YtfjemaeidmikmaaDoorQ
open Go.Proofs.Bs Go.Proofs.YtfjemaeidmikmaaDoor
def eSt : St := ⟨2, 0, 0, ⟨0, 0, 0, 0⟩⟩
def fSt : St := ⟨6, 0, 0, ⟨0, 0, 0, 0⟩⟩
def kSt (k a b : Int) : St := ⟨k, a, b, ⟨0, 0, 0, 0⟩⟩
def putB (sts : List St) (k : Nat) (b : Int) : List St := match sts[k]? with
  | some x => sts.set k ⟨x.f0, x.f1, b, x.f3⟩
  | none => sts
theorem putB_len (sts : List St) (k : Nat) (a : Int) : (putB sts k a).length = sts.length := by
  unfold putB;split <;> simp
structure Mk where
  out : List St
  first : Nat
  last : Nat
abbrev PMk := List St → Mk
instance : Inhabited PMk := ⟨fun s => ⟨s, 0, 0⟩⟩
def leafM (k : Int) (z : S62) : PMk := fun s => ⟨s ++ [⟨k, ((s.length + 1 : Nat) : Int), 0, z⟩, eSt], s.length, s.length + 1⟩
def catM (a b : PMk) : PMk := fun s => ⟨putA (b (a s).out).out (a s).last (b (a s).out).first, (a s).first, (b (a s).out).last⟩
def orM (a b : PMk) : PMk := fun s =>
  ⟨putA (putA ((b (a s).out).out ++ [kSt 3 (a s).first (b (a s).out).first] ++ [eSt]) (a s).last ((b (a s).out).out.length + 1 : Nat)) (b (a s).out).last ((b (a s).out).out.length + 1 : Nat), (b (a s).out).out.length, (b (a s).out).out.length + 1⟩
structure Lp where
  out : List St
  ahead : Nat
  splits : List Nat
def loS (a : PMk) (q : Lp) : Lp := ⟨putA (a q.out).out q.ahead (a q.out).first, (a q.out).last, q.splits⟩
def hiS (a : PMk) (q : Lp) : Lp := ⟨putA ((a q.out).out ++ [kSt 3 (a q.out).first 0]) q.ahead (a q.out).out.length, (a q.out).last, q.splits ++ [(a q.out).out.length]⟩
def iter {α : Type} (f : α → α) : Nat → α → α
  | 0, x => x
  | k + 1, x => f (iter f k x)
def putBs (last : Int) (o : List St) (l : List Nat) : List St := l.foldl (fun o s => putB o s last) o
theorem putBs_len (last : Int) (l : List Nat) : ∀ o, (putBs last o l).length = o.length := by
  induction l with
  | nil => intro o; rfl
  | cons x l ih => intro o; show (putBs last (putB o x last) l).length = _; rw [ih, putB_len]
theorem putBs_snoc (last : Int) (o : List St) (l : List Nat) (x : Nat) : putBs last o (l ++ [x]) = putB (putBs last o l) x last := by simp [putBs]
def endM (first : Nat) (r : Lp) (go : Nat) : Mk := ⟨putBs (r.out.length : Nat) (putA (r.out ++ [eSt]) r.ahead go) r.splits, first, r.out.length⟩
def loP (a : PMk) (lo : Int) (s : List St) (k : Nat) : Lp := iter (loS a) k ⟨s ++ [eSt], s.length, []⟩
def hiP (a : PMk) (lo : Int) (s : List St) (k : Nat) : Lp := iter (hiS a) k (loP a lo s lo.toNat)
def repM (lo hi : Int) (a : PMk) : PMk := fun s =>
  if hi < 0 then endM s.length (hiS a (loP a lo s lo.toNat)) (a (loP a lo s lo.toNat).out).out.length
  else endM s.length (hiP a lo s (hi - lo).toNat) (hiP a lo s (hi - lo).toNat).out.length
def stKind (k : Int) : Int := if k = 1 then 1 else if k = 3 then 4 else if k = 4 then 5 else 2
def setZ (s : S) : S62 := ⟨s.a, s.b, s.c, s.d⟩
def fMk (x : Nd) (ks : List PMk) : PMk :=
  if x.kind = 5 then catM (ks.getD 0 default) (ks.getD 1 default)
  else if x.kind = 6 then orM (ks.getD 0 default) (ks.getD 1 default)
  else if x.kind = 7 then repM x.lo x.hi (ks.getD 0 default)
  else leafM (stKind x.kind) (if x.kind = 1 then setZ x.set else ⟨0, 0, 0, 0⟩)
def fSz (x : Nd) (ks : List Nat) : Nat :=
  if x.kind = 5 then ks.getD 0 0 + ks.getD 1 0
  else if x.kind = 6 then ks.getD 0 0 + ks.getD 1 0 + 2
  else if x.kind = 7 then (if x.hi < 0 then 3 + (x.lo.toNat + 1) * ks.getD 0 0 else 2 + x.hi.toNat * ks.getD 0 0 + (x.hi - x.lo).toNat)
  else 2
def Ok (a : PMk) (n : Nat) : Prop := ∀ s, (a s).out.length = s.length + n ∧ s.length ≤ (a s).first ∧ (a s).first < s.length + n ∧ s.length ≤ (a s).last ∧ (a s).last < s.length + n
theorem ok_leaf (k : Int) (z : S62) : Ok (leafM k z) 2 := by
  intro s;unfold leafM;simp
theorem ok_cat {a b : PMk} {m n : Nat} (ha : Ok a m) (hb : Ok b n) : Ok (catM a b) (m + n) := by
  intro s;have h1 := ha s;have h2 := hb (a s).out;unfold catM;simp only [putA_len];omega
theorem ok_or {a b : PMk} {m n : Nat} (ha : Ok a m) (hb : Ok b n) : Ok (orM a b) (m + n + 2) := by
  intro s;have h1 := ha s;have h2 := hb (a s).out;unfold orM;simp only [putA_len, List.length_append, List.length_cons, List.length_nil];omega
theorem loP_ok {a : PMk} {n : Nat} (ha : Ok a n) (lo : Int) (s : List St) (k : Nat) : (loP a lo s k).out.length = s.length + 1 + k * n ∧ s.length ≤ (loP a lo s k).ahead ∧ (loP a lo s k).ahead < (loP a lo s k).out.length ∧ (loP a lo s k).splits = [] := by
  induction k with
  | zero => simp [loP, iter]
  | succ k ih =>
    have e : loP a lo s (k + 1) = loS a (loP a lo s k) := rfl;have h := ha (loP a lo s k).out;rw [e];unfold loS;simp only [putA_len];rw [Nat.succ_mul];refine ⟨by omega, by omega, by omega, ih.2.2.2⟩
theorem hiP_ok {a : PMk} {n : Nat} (ha : Ok a n) (lo : Int) (s : List St) (k : Nat) : (hiP a lo s k).out.length = s.length + 1 + lo.toNat * n + k * (n + 1) ∧ s.length ≤ (hiP a lo s k).ahead ∧ (hiP a lo s k).ahead < (hiP a lo s k).out.length ∧ (hiP a lo s k).splits.length = k ∧ ∀ x ∈ (hiP a lo s k).splits, x < (hiP a lo s k).out.length := by
  induction k with
  | zero =>
    have h := loP_ok ha lo s lo.toNat;have e : hiP a lo s 0 = loP a lo s lo.toNat := rfl;rw [e];refine ⟨by omega, h.2.1, h.2.2.1, by rw [h.2.2.2]; rfl, by rw [h.2.2.2]; simp⟩
  | succ k ih =>
    have e : hiP a lo s (k + 1) = hiS a (hiP a lo s k) := rfl;have h := ha (hiP a lo s k).out;rw [e];unfold hiS;simp only [putA_len, List.length_append, List.length_cons, List.length_nil];rw [Nat.succ_mul];refine ⟨by omega, by omega, by omega, by omega, fun x hx => ?_⟩;rcases List.mem_append.1 hx with hx | hx
    · have := ih.2.2.2.2 x hx;omega
    · simp only [List.mem_cons, List.not_mem_nil, or_false] at hx;omega
theorem hiP_one (a : PMk) (lo : Int) (s : List St) : hiP a lo s 1 = hiS a (loP a lo s lo.toNat) := rfl
theorem ok_rep {a : PMk} {n : Nat} (ha : Ok a n) (lo hi : Int) (h0 : 0 ≤ lo) (hh : hi = -1 ∨ lo ≤ hi) : Ok (repM lo hi a) (if hi < 0 then 3 + (lo.toNat + 1) * n else 2 + hi.toNat * n + (hi - lo).toNat) := by
  intro s;unfold repM;by_cases hneg : hi < 0
  · rw [if_pos hneg, if_pos hneg];have h := hiP_ok ha lo s 1;rw [hiP_one] at h;unfold endM;simp only [putBs_len, putA_len, List.length_append, List.length_cons, List.length_nil];rw [Nat.succ_mul];omega
  · rw [if_neg hneg, if_neg hneg];have h := hiP_ok ha lo s (hi - lo).toNat;(have e : hi.toNat * n = lo.toNat * n + (hi - lo).toNat * n := by rw [← Nat.add_mul]; congr 1; omega);rw [Nat.mul_succ] at h;unfold endM;simp only [putBs_len, putA_len, List.length_append, List.length_cons, List.length_nil];omega
theorem ok_node (x : Nd) (hx : fieldsB x = true) (ha : 0 ≤ arity x.kind) (ms : List PMk) (ns : List Nat) (hl : ms.length = (arity x.kind).toNat) (hl2 : ns.length = ms.length) (h : ∀ j, j < ms.length → Ok (ms.getD j default) (ns.getD j 0)) : Ok (fMk x ms) (fSz x ns) := by
  rcases kind_cases ha with ⟨hk, h0⟩ | ⟨hk, h0⟩ | ⟨hk, h0⟩
  · unfold fMk fSz;(have n5 : ¬ x.kind = 5 := by omega);(have n6 : ¬ x.kind = 6 := by omega);(have n7 : ¬ x.kind = 7 := by omega);rw [if_neg n5, if_neg n6, if_neg n7, if_neg n5, if_neg n6, if_neg n7];exact ok_leaf _ _
  · have a0 := h 0 (by omega);have a1 := h 1 (by omega);unfold fMk fSz;rcases hk with e | e
    · rw [if_pos e, if_pos e]; exact ok_cat a0 a1
    · (have n5 : ¬ x.kind = 5 := by omega);rw [if_neg n5, if_pos e, if_neg n5, if_pos e]; exact ok_or a0 a1
  · have a0 := h 0 (by omega);obtain ⟨h1, h2, h3⟩ := rep_fields hx hk;unfold fMk fSz;(have n5 : ¬ x.kind = 5 := by omega);(have n6 : ¬ x.kind = 6 := by omega);rw [if_neg n5, if_neg n6, if_pos hk, if_neg n5, if_neg n6, if_pos hk];exact ok_rep a0 _ _ h1 (by omega)
theorem mk_ok (l : List Nd) (hr : rightB l = true) (i : Nat) : i < l.length → Ok (attr fMk l i) (attr fSz l i) := by
  obtain ⟨_, hall, _⟩ := (rightB_iff l).1 hr
  induction i using Nat.strongRecOn with
  | ind i ih =>
    intro hi;have hf := (hall i hi).1;have hx : l[i]? = some l[i] := List.getElem?_eq_getElem hi;(have hg : l.getD i zNd = l[i] := by rw [List.getD_eq_getElem?_getD, hx]; rfl);obtain ⟨ha, _⟩ := stack_room l hr i _ hx;have hlen := kidsP_length l i _ hx hf;have hfl := (hall i hi).2;rw [attr_eq fMk l i hi hf, attr_eq fSz l i hi hf];(refine ok_node _ hfl (by rw [hg]; exact ha) _ _ (by rw [hg, List.length_map, hlen]) (by rw [List.length_map, List.length_map]) fun j hj => ?_);rw [List.length_map] at hj;have hy := kidsP_ok l i hi hf (kidsP l i)[j] (List.getElem_mem hj);(have e1 : ((kidsP l i).map fun y => attr fMk l y.toNat).getD j default = attr fMk l ((kidsP l i)[j]).toNat := by simp [hj]);(have e2 : ((kidsP l i).map fun y => attr fSz l y.toNat).getD j 0 = attr fSz l ((kidsP l i)[j]).toNat := by simp [hj]);rw [e1, e2];exact ih _ (by omega) (by omega)
theorem mul_le_self {k a : Int} (hk : 1 ≤ k) (ha : 0 ≤ a) : a ≤ k * a := by
  have : 1 * a ≤ k * a := Int.mul_le_mul_of_nonneg_right hk ha;omega
theorem min_mul (c k a : Int) (hc : 0 ≤ c) (hk : 0 ≤ k) (ha : 0 ≤ a) : min (c + k * min a 1048576) 1048576 = min (c + k * a) 1048576 := by
  by_cases h : a ≤ 1048576
  · (have e : min a 1048576 = a := by omega);rw [e]
  · (have e : min a 1048576 = 1048576 := by omega);rw [e];by_cases h0 : k = 0
    · subst h0; simp
    · have h1 := mul_le_self (k := k) (a := a) (by omega) ha;have h2 := mul_le_self (k := k) (a := 1048576) (by omega) (by omega);omega
theorem fSize_fSz (x : Nd) (hx : fieldsB x = true) (ha : 0 ≤ arity x.kind) (cs : List Int) (ns : List Nat) (hl : ns.length = (arity x.kind).toNat) (hc : cs = ns.map fun (n : Nat) => min (n : Int) 1048576) : fSize x cs = min (fSz x ns : Int) 1048576 := by
  subst hc;rcases kind_cases ha with ⟨hk, h0⟩ | ⟨hk, h0⟩ | ⟨hk, h0⟩
  · obtain rfl : ns = [] := List.eq_nil_of_length_eq_zero (by omega);rw [List.map_nil, fSize_leaf x hk];unfold fSz;rw [if_neg (by omega), if_neg (by omega), if_neg (by omega)];rfl
  · obtain ⟨a, b, rfl⟩ : ∃ a b, ns = [a, b] := by
      match ns, (by omega : ns.length = 2) with
      | [a, b], _ => exact ⟨a, b, rfl⟩
    have g0 : ([a, b] : List Nat).getD 0 0 = a := rfl;have g1 : ([a, b] : List Nat).getD 1 0 = b := rfl;unfold fSz;rcases hk with e | e
    · rw [List.map_cons, List.map_cons, List.map_nil, fSize_cat x e, if_pos e, g0, g1]; omega
    · rw [List.map_cons, List.map_cons, List.map_nil, fSize_or x e, if_neg (by omega), if_pos e, g0, g1]; omega
  · obtain ⟨a, rfl⟩ : ∃ a, ns = [a] := by
      match ns, (by omega : ns.length = 1) with
      | [a], _ => exact ⟨a, rfl⟩
    have g0 : ([a] : List Nat).getD 0 0 = a := rfl;obtain ⟨h1, h2, h3⟩ := rep_fields hx hk;rw [List.map_cons, List.map_nil, fSize_rep x hk];unfold fSz;rw [if_neg (show ¬ x.kind = 5 by omega), if_neg (show ¬ x.kind = 6 by omega), if_pos hk, g0];by_cases hneg : x.hi < 0
    · rw [if_pos hneg, if_pos hneg, min_mul 3 (x.lo + 1) a (by omega) (by omega) (by omega)];congr 1;rw [Int.natCast_add, Int.natCast_mul];congr 2;omega
    · rw [if_neg hneg, if_neg hneg];have e1 := min_mul (2 + (x.hi - x.lo)) x.hi a (by omega) (by omega) (by omega)
      have e2 : ((2 + x.hi.toNat * a + (x.hi - x.lo).toNat : Nat) : Int) = 2 + (x.hi - x.lo) + x.hi * a := by
        rw [Int.natCast_add, Int.natCast_add, Int.natCast_mul, Int.toNat_of_nonneg (by omega), Int.toNat_of_nonneg (by omega)];generalize x.hi * (a : Int) = m;omega
      rw [e2, ← e1];generalize x.hi * min (a : Int) 1048576 = m;congr 1;omega
theorem size_sz (l : List Nd) (hr : rightB l = true) (i : Nat) : i < l.length → attr fSize l i = min ((attr fSz l i : Nat) : Int) 1048576 := by
  obtain ⟨_, hall, _⟩ := (rightB_iff l).1 hr
  induction i using Nat.strongRecOn with
  | ind i ih =>
    intro hi;have hf := (hall i hi).1;have hx : l[i]? = some l[i] := List.getElem?_eq_getElem hi;(have hg : l.getD i zNd = l[i] := by rw [List.getD_eq_getElem?_getD, hx]; rfl);obtain ⟨ha, _⟩ := stack_room l hr i _ hx;have hlen := kidsP_length l i _ hx hf;have hfl := (hall i hi).2;rw [attr_eq fSize l i hi hf, attr_eq fSz l i hi hf];refine fSize_fSz _ hfl (by rw [hg]; exact ha) _ _ (by rw [hg, List.length_map, hlen]) ?_;rw [List.map_map];(refine List.map_congr_left fun y hy => ?_);have := kidsP_ok l i hi hf y hy;exact ih y.toNat (by omega) (by omega)
end Go.Proofs.YtfjemaeidmikmaaDoorQ
