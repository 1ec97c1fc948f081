/- Several short texts of this proof, one behind the other. -/
import Derived.Test.YtfjemaeidmikmaaDoorFNfImpl5
import Derived.Test.YtfjemaeidmikmaaDoorFQXNfaWalk
import Derived.Test.YtfjemaeidmikmaaDoorFM2
import Derived.Test.YtfjemaeidmikmaaDoorFM4
import Derived.Test.YtfjemaeidmikmaaDoorFAlEv
section
set_option linter.unusedVariables false
set_option linter.unusedSimpArgs false
namespace Go.Proofs.YtfjemaeidmikmaaDoorQ
open Go.RowKit Go.Proofs.YtfjemaeidmikmaaDoorW.PrintWords Go.Proofs.YtfjemaeidmikmaaDoorW.PrintLast Go.Proofs.Bs
theorem places_le (l : List Bool) : ∀ d i, (places l d i).length ≤ d := by
  intro d
  induction d with
  | zero => intro i; simp [places]
  | succ d ih =>
    intro i;have := ih (i + 1);simp only [places, List.length_append];split <;> simp <;> omega
theorem listN_le (l : List Bool) : (listN l).length ≤ l.length := places_le l _ _
def atStart (sts : List St) (s : Int) : List Int := listN (walkF sts [s] 0)
def atByte (sts : List St) (l : List Int) (b : Int) : List Int := listN (walkF sts (l.flatMap (stepOne sts b)) 0)
def atBytes (sts : List St) (text : ByteArray) (i : Nat) (l : List Int) : Nat → List Int
  | 0 => l
  | k + 1 => atByte sts (atBytes sts text i l k) (bt text ((i + k : Nat) : Int))
def fitsN (sts : List St) (s f : Int) (text : ByteArray) (i j : Int) : Bool :=
  if i < 0 ∨ j < i ∨ (text.size : Int) < j ∨ rightN sts s f = false then false else
  if text.size = 0 then rdOf false (walkF sts (atStart sts s) 258) f else
  let a1 := if i = 0 then listN (walkF sts (atStart sts s) 256) else atStart sts s
  let a2 := atBytes sts text i.toNat a1 (j - i).toNat
  let a3 := if j = (text.size : Int) then listN (walkF sts a2 257) else a2
  rdOf false (walkF sts a3 0) f
def wfB (sts : List St) : Bool := sts.all fun s => decide (wfI s.f3.f0 s.f3.f1 s.f3.f2 s.f3.f3)
theorem wfB_iff (sts : List St) : wfB sts = true ↔ wfSts sts := by
  unfold wfB wfSts;rw [List.all_eq_true];constructor
  · intro h i h0 h1;(have hl : i.toNat < sts.length := by omega)
    have e : rd_T64 sts i = sts[i.toNat] := by
      unfold rd_T64;rw [List.getD_eq_getElem?_getD, List.getElem?_eq_getElem hl];rfl
    rw [e];exact (of_decide_eq_true (h _ (List.getElem_mem hl)) : wfI _ _ _ _)
  · intro h x hx;obtain ⟨k, hk, rfl⟩ := List.getElem_of_mem hx;have h2 := h (k : Int) (by omega) (by omega)
    have e : rd_T64 sts (k : Int) = sts[k] := by
      unfold rd_T64;rw [List.getD_eq_getElem?_getD, Int.toNat_natCast, List.getElem?_eq_getElem hk];rfl
    rw [e] at h2;exact decide_eq_true (show wfI _ _ _ _ from h2)
end Go.Proofs.YtfjemaeidmikmaaDoorQ
end
section
set_option linter.unusedVariables false
set_option linter.unusedSimpArgs false
namespace Go.Proofs.YtfjemaeidmikmaaDoorQ
open Go.RowKit Go.Proofs.YtfjemaeidmikmaaDoorW.PrintWords Go.Proofs.YtfjemaeidmikmaaDoorW.PrintLast Go.Proofs.Bs
section
variable (A0 : Option Addr) (c0 : Nat) (sts : List St) (s f : Int) (w : World)
abbrev nV (A0 : Option Addr) (c0 : Nat) (sts : List St) (s f : Int) : Value := .agg #[.slice A0 sts.length c0, .int .i64 s, .int .i64 f]
theorem right_c (hr : Kd.C k64 w A0 sts.length sts) (hc : sts.length ≤ c0) : Calls Tryd.prog 30 #[nV A0 c0 sts s f] w fun e w' => e = .returned (.bool (rightN sts s f)) ∧ Below w.heap.size w w' := by
  obtain ⟨k, hk⟩ := (right_eq sts s f).ex;exact nfa_Right.calls k A0 c0 sts s f _ w hr hc hk
end
end Go.Proofs.YtfjemaeidmikmaaDoorQ
end
section
set_option linter.unusedVariables false
set_option linter.unusedSimpArgs false
namespace Go.Proofs.YtfjemaeidmikmaaDoorQ
open Go.RowKit Go.Proofs.YtfjemaeidmikmaaDoorW.PrintWords Go.Proofs.YtfjemaeidmikmaaDoorW.PrintLast Go.Proofs.Bs
theorem edge_mono {sts : List St} (sym : Int) {i j : Nat} (h : edge sts 0 i j = true) : edge sts sym i j = true := by
  unfold edge goesA at *;simp only [Bool.or_eq_true, Bool.and_eq_true, decide_eq_true_eq] at *;omega
theorem edge_lt {sts : List St} (hok : okSts sts) (sym : Int) (i j : Nat) (hi : i < sts.length) (he : edge sts sym i j = true) : j < sts.length := by
  obtain ⟨⟨a0, a1⟩, b0, b1⟩ := hok i hi;unfold edge at he;simp only [Bool.or_eq_true, Bool.and_eq_true, decide_eq_true_eq] at he;rcases he with ⟨_, e⟩ | ⟨_, e⟩ <;> omega
theorem pOf_close (sts : List St) (sym : Int) (m : List Bool) (j : Nat) (hj : j < sts.length) : pOf (closeR sts sym m) j = Nf.turns sts.length (edge sts sym) sts.length (pOf m) j := by
  unfold closeR pOf;exact tab_at _ _ _ hj
theorem close_again (sts : List St) (sym : Int) (m : List Bool) (hok : okSts sts) (hm : m.length = sts.length) : closeR sts 0 (closeR sts sym m) = closeR sts sym m := by
  have e : closeR sts 0 (closeR sts sym m) = tab sts.length (Nf.turns sts.length (edge sts 0) sts.length (pOf (closeR sts sym m))) := rfl;rw [e]
  show _ = tab sts.length (Nf.turns sts.length (edge sts sym) sts.length (pOf m))
  (refine tab_ext fun j hj => ?_)
  have lt0 : ∀ i, pOf (closeR sts sym m) i = true → i < sts.length := fun i h => by
    have := pOf_lt h;rwa [closeR_len] at this
  have lt1 : ∀ i, pOf m i = true → i < sts.length := fun i h => by
    have := pOf_lt h;rwa [hm] at this
  have t0 := Nf.turns_reach sts.length (edge sts 0) (pOf (closeR sts sym m)) (edge_lt hok 0) lt0;have t1 := Nf.turns_reach sts.length (edge sts sym) (pOf m) (edge_lt hok sym) lt1;rw [Bool.eq_iff_iff];constructor
  · intro h;refine Nf.Reach.in_closed (P := fun i => Nf.turns sts.length (edge sts sym) sts.length (pOf m) i = true) (fun i hi hs => ?_) (fun i k hi hp he hk => ?_) ((t0 j).1 h)
    · rwa [pOf_close sts sym m i hi] at hs
    · exact (t1 k).2 (((t1 i).1 hp).step (edge_mono sym he) hk)
  · intro h;refine Nf.turns_le _ _ _ _ _ ?_;rw [pOf_close sts sym m j hj];exact h
theorem mem_places (l : List Bool) : ∀ d i : Nat, ∀ x : Int, x ∈ places l d i ↔ ∃ j : Nat, i ≤ j ∧ j < i + d ∧ x = (j : Int) ∧ pOf l j = true := by
  intro d
  induction d with
  | zero =>
    intro i x;simp only [places, List.not_mem_nil, false_iff, not_exists];intro j h;omega
  | succ d ih =>
    intro i x;simp only [places, List.mem_append, ih];constructor
    · rintro (h | ⟨j, h1, h2, h3, h4⟩)
      · split at h
        · rename_i hb;(have hx : x = (i : Int) := by simpa using h);exact ⟨i, by omega, by omega, hx, hb⟩
        · simp at h
      · exact ⟨j, by omega, by omega, h3, h4⟩
    · rintro ⟨j, h1, h2, h3, h4⟩;by_cases e : j = i
      · subst e;left;have h5 : rdOf false l (j : Int) = true := h4;rw [if_pos h5];simp [h3]
      · exact Or.inr ⟨j, by omega, by omega, h3, h4⟩
theorem of_list (m : List Bool) : ofN m.length (listN m) = m := by
  have e1 := tab_pOf (ofN m.length (listN m));rw [ofN_len] at e1;rw [← e1];have e2 := tab_pOf m;refine Eq.trans (tab_ext fun j hj => ?_) e2;rw [ofN_at];unfold pIn;rw [Bool.eq_iff_iff, decide_eq_true_eq];unfold listN;rw [mem_places];constructor
  · rintro ⟨_, k, _, _, h3, h4⟩;(have : j = k := by omega);subst this;exact h4
  · intro h;exact ⟨hj, j, by omega, by omega, rfl, h⟩
def bytesR (sts : List St) (text : ByteArray) (i : Nat) (m : List Bool) : Nat → List Bool
  | 0 => m
  | k + 1 => stepR sts (bt text ((i + k : Nat) : Int)) (bytesR sts text i m k)
theorem bytesR_len (sts : List St) (text : ByteArray) (i : Nat) (m : List Bool) (hm : m.length = sts.length) : ∀ k, (bytesR sts text i m k).length = sts.length
  | 0 => hm
  | k + 1 => closeR_len _ _ _
theorem atBytes_eq (sts : List St) (hok : okSts sts) (text : ByteArray) (i : Nat) (m : List Bool) (hm : m.length = sts.length) : ∀ k, atBytes sts text i (listN m) k = listN (bytesR sts text i m k)
  | 0 => rfl
  | k + 1 => by
    show atByte sts (atBytes sts text i (listN m) k) _ = _
    rw [atBytes_eq sts hok text i m hm k]
    unfold atByte
    rw [step_close sts _ _ hok]
    have h := of_list (bytesR sts text i m k)
    rw [bytesR_len sts text i m hm k] at h
    rw [h]
    rfl
def shut (sts : List St) (m : List Bool) : Prop := m.length = sts.length ∧ closeR sts 0 m = m
theorem shut_close (sts : List St) (hok : okSts sts) (sym : Int) (m : List Bool) (hm : m.length = sts.length) : shut sts (closeR sts sym m) := ⟨closeR_len _ _ _, close_again sts sym m hok hm⟩
theorem shut_step (sts : List St) (hok : okSts sts) (b : Int) (m : List Bool) : shut sts (stepR sts b m) := shut_close sts hok 0 _ (tab_len _ _)
theorem shut_bytes (sts : List St) (hok : okSts sts) (text : ByteArray) (i : Nat) (m : List Bool) (hm : shut sts m) : ∀ k, shut sts (bytesR sts text i m k)
  | 0 => hm
  | k + 1 => shut_step sts hok _ _
theorem walk_list (sts : List St) (hok : okSts sts) (sym : Int) (m : List Bool) (hm : m.length = sts.length) : walkF sts (listN m) sym = closeR sts sym m := by
  rw [walk_close sts sym _ hok];have h := of_list m;rw [hm] at h;rw [h]
def fitsR (sts : List St) (s f : Int) (text : ByteArray) (i j : Nat) : Bool :=
  let m0 := closeR sts 0 (ofN sts.length [s])
  if text.size = 0 then rdOf false (closeR sts 258 m0) f else
  let m1 := if i = 0 then closeR sts 256 m0 else m0
  let m2 := bytesR sts text i m1 (j - i)
  rdOf false (if j = text.size then closeR sts 257 m2 else m2) f
theorem fits_page (sts : List St) (s f : Int) (text : ByteArray) (i j : Nat) (hR : rightN sts s f = true) (hij : i ≤ j) (hj : j ≤ text.size) : fitsN sts s f text (i : Int) (j : Int) = fitsR sts s f text i j := by
  have hok := okSts_of hR;unfold fitsN fitsR
  have hs : atStart sts s = listN (closeR sts 0 (ofN sts.length [s])) := by
    unfold atStart;rw [walk_close sts 0 _ hok]
  have h0 := shut_close sts hok 0 (ofN sts.length [s]) (ofN_len _ _);rw [if_neg (by rw [hR]; simp; omega), hs];generalize closeR sts 0 (ofN sts.length [s]) = m0 at *;by_cases hz : text.size = 0
  · rw [if_pos hz];simp only [hz, if_true];rw [walk_list sts hok 258 m0 h0.1]
  · rw [if_neg hz];simp only [hz, if_false];(have e2 : ((j : Int) - (i : Int)).toNat = j - i := by omega);rw [Int.toNat_natCast, e2]
    have h1 : ∃ m1, (if i = 0 then closeR sts 256 m0 else m0) = m1 ∧ shut sts m1 ∧ (if (i : Int) = 0 then listN (walkF sts (listN m0) 256) else listN m0) = listN m1 := by
      by_cases hi : i = 0
      · refine ⟨closeR sts 256 m0, by rw [if_pos hi], shut_close sts hok 256 m0 h0.1, ?_⟩;rw [if_pos (by omega), walk_list sts hok 256 m0 h0.1]
      · refine ⟨m0, by rw [if_neg hi], h0, ?_⟩;rw [if_neg (by omega)]
    obtain ⟨m1, e3, hm1, e4⟩ := h1;rw [e3, e4, atBytes_eq sts hok text i m1 hm1.1];have h2 := shut_bytes sts hok text i m1 hm1 (j - i);generalize bytesR sts text i m1 (j - i) = m2 at *;by_cases he : j = text.size
    · rw [if_pos (by omega), if_pos he, walk_list sts hok 257 m2 h2.1];have h3 := shut_close sts hok 257 m2 h2.1;rw [walk_list sts hok 0 _ h3.1, h3.2]
    · rw [if_neg (by omega), if_neg he, walk_list sts hok 0 _ h2.1, h2.2]
end Go.Proofs.YtfjemaeidmikmaaDoorQ
end
section
set_option linter.unusedVariables false
set_option linter.unusedSimpArgs false
namespace Go.Proofs.YtfjemaeidmikmaaDoorQ
open Go.RowKit Go.Maps Go.Proofs.YtfjemaeidmikmaaDoorW.PrintWords Go.Proofs.YtfjemaeidmikmaaDoorW.PrintLast Go.Proofs.YtfjemaeidmikmaaDoor
section
variable (A0 : Option Addr) (c0 : Nat) (sts : List St) (s f : Int) (w : World)
theorem close_r (hr : Kd.C k64 w A0 sts.length sts) (hc : sts.length ≤ c0) (hR : rightN sts s f = true) (A1 : Option Addr) (c1 : Nat) (l : List Int) (sym : Int) (hl : Kd.C (Kd.int .i64) w A1 l.length l) (hlc : l.length ≤ c1) (hll : l.length ≤ 1000000) :
    Calls Tryd.prog 41 #[nV A0 c0 sts s f, .slice A1 l.length c1, .int .i64 sym] w fun e w' => ∃ A c, e = .returned (.slice A (listN (walkF sts l sym)).length c) ∧ Kd.R (Kd.int .i64) 3 w' w.heap.size (fun _ => True) (.slice A (listN (walkF sts l sym)).length c) (listN (walkF sts l sym)) ∧ Below w.heap.size w w' := by
  obtain ⟨k, hk⟩ := (close_eq sts s f l sym (by omega)).ex;unfold closeN at hk;rw [if_pos hR] at hk;refine (nfa_Close.calls k A0 c0 sts s f A1 c1 l sym _ w hr hc hl hlc hk).mono ?_;rintro e w' ⟨v, rfl, hv, hb⟩;obtain ⟨A, c, rfl⟩ := Kd.R_slice hv;exact ⟨A, c, rfl, hv, hb⟩
theorem step_r (hr : Kd.C k64 w A0 sts.length sts) (hc : sts.length ≤ c0) (hR : rightN sts s f = true) (hw : wfSts sts) (A1 : Option Addr) (c1 : Nat) (l : List Int) (b : Int) (hb : 0 ≤ b ∧ b < 256) (hl : Kd.C (Kd.int .i64) w A1 l.length l) (hlc : l.length ≤ c1) (hll : l.length ≤ 1000000) :
    Calls Tryd.prog 64 #[nV A0 c0 sts s f, .slice A1 l.length c1, .int .u8 b] w fun e w' => ∃ A c, e = .returned (.slice A (listN (walkF sts (l.flatMap (stepOne sts b)) 0)).length c) ∧ Kd.R (Kd.int .i64) 3 w' w.heap.size (fun _ => True) (.slice A (listN (walkF sts (l.flatMap (stepOne sts b)) 0)).length c) (listN (walkF sts (l.flatMap (stepOne sts b)) 0)) ∧ Below w.heap.size w w' := by
  obtain ⟨k, hk⟩ := (step_eq sts s f b l hll hw hb).ex;unfold stepN at hk;rw [if_pos hR] at hk;refine (nfa_Step.calls k A0 c0 sts s f A1 c1 l b _ w hr hc hl hlc hk).mono ?_;rintro e w' ⟨v, rfl, hv, hb⟩;obtain ⟨A, c, rfl⟩ := Kd.R_slice hv;exact ⟨A, c, rfl, hv, hb⟩
end
def toT (sts : List St) (t : List Int) (sym : Int) : List Int := if sym < 256 then listN (walkF sts (t.flatMap (stepOne sts sym)) 0) else listN (walkF sts t sym)
set_option maxRecDepth 100000 in
set_option maxHeartbeats 1600000 in
theorem to_sb (A0 : Option Addr) (c0 : Nat) (sts : List St) (s f : Int) (p : Nat) (A : Option Addr) (c : Nat) (t : List Int) (sym : Int) (w : World) (hr : Kd.C k64 w A0 sts.length sts) (hc : sts.length ≤ c0) (hR : rightN sts s f = true) (hw : wfSts sts)
    (g0 : w.cell? ⟨p, 0, none⟩ = some (.slice A0 sts.length c0)) (g1 : w.cell? ⟨p, 1, none⟩ = some (.int .i64 s)) (g2 : w.cell? ⟨p, 2, none⟩ = some (.int .i64 f)) (ht : Kd.C (Kd.int .i64) w A t.length t) (htc : t.length ≤ c) (htl : t.length ≤ 1000000) (hs0 : 0 ≤ sym) (hs1 : sym ≤ 258) :
    Calls Tryd.prog 42 #[.pointer (some ⟨p, 0, none⟩), .slice A t.length c, .int .i64 sym] w fun e w' => ∃ A' c', e = .returned (.slice A' (toT sts t sym).length c') ∧ Kd.R (Kd.int .i64) 3 w' w.heap.size (fun _ => True) (.slice A' (toT sts t sym).length c') (toT sts t sym) ∧ Below w.heap.size w w' := by
  by_cases h : sym < 256
  · have e : toT sts t sym = listN (walkF sts (t.flatMap (stepOne sts sym)) 0) := if_pos h;rw [e];have hx := step_r A0 c0 sts s f w hr hc hR hw A c t sym ⟨hs0, h⟩ ht htc htl;have HX := Lib.hid hx;(have e2 : sym % 256 = sym := by omega);clear hx hr hc hR hw ht htc htl e;go_enter Tryd.func42, Tryd.ntmps42;go_wp2_with fail;refine HX.out.mono ?_;rintro e w1 ⟨A', c', rfl, hR1, hb⟩;have HZ := Lib.hid (And.intro hR1 hb);clear hR1 hb;go_wp2_with fail;go_ret;exact ⟨A', c', rfl, HZ.out⟩
  · have e : toT sts t sym = listN (walkF sts t sym) := if_neg h;rw [e];have hx := close_r A0 c0 sts s f w hr hc hR A c t sym ht htc htl;have HX := Lib.hid hx;clear hx hr hc hR hw ht htc htl e;go_enter Tryd.func42, Tryd.ntmps42;go_wp2_with fail;refine HX.out.mono ?_;rintro e w1 ⟨A', c', rfl, hR1, hb⟩;have HZ := Lib.hid (And.intro hR1 hb);clear hR1 hb;go_wp2_with fail;go_ret;exact ⟨A', c', rfl, HZ.out⟩
end Go.Proofs.YtfjemaeidmikmaaDoorQ
end
section
set_option linter.unusedVariables false
set_option linter.unusedSimpArgs false
namespace Go.Proofs.YtfjemaeidmikmaaDoorQ
open Go.RowKit Go.Maps Go.Proofs.YtfjemaeidmikmaaDoorW.PrintWords Go.Proofs.YtfjemaeidmikmaaDoorW.PrintLast Go.Proofs.YtfjemaeidmikmaaDoor
abbrev Qt := List (List Int) × List Int
def inStep (sts : List St) (a : Nat) (q : Qt) (sym : Int) : Qt := ((knS q.1 (toT sts (q.1.getD a []) sym)).1, q.2 ++ [((knS q.1 (toT sts (q.1.getD a []) sym)).2 : Int)])
def inN (sts : List St) (a : Nat) (firsts : List Int) (q : Qt) : Qt := firsts.foldl (inStep sts a) q
def outN (sts : List St) (firsts : List Int) (most : Int) : Nat → Nat → Qt → Qt
  | 0, _, q => q
  | k + 1, a, q => if a < q.1.length ∧ (q.1.length : Int) ≤ most then outN sts firsts most k (a + 1) (inN sts a firsts q) else q
def runQ (sts : List St) (s : Int) (firsts : List Int) (most : Int) : Qt := outN sts firsts most (most + 1).toNat 0 ([listN (walkF sts [s] 0)], [])
theorem knS_len (S : List (List Int)) (t : List Int) : S.length ≤ (knS S t).1.length ∧ (knS S t).1.length ≤ S.length + 1 := by
  unfold knS;split <;> simp
theorem knS_mem {P : List Int → Prop} {S : List (List Int)} {t : List Int} (h : ∀ x ∈ S, P x) (ht : P t) : ∀ x ∈ (knS S t).1, P x := by
  unfold knS;split
  · exact h
  · intro x hx;rcases List.mem_append.1 hx with hx | hx
    · exact h x hx
    · rw [List.mem_singleton.1 hx]; exact ht
theorem okT_list (sts : List St) (l : List Int) (sym : Int) (hn : sts.length ≤ 600) : okT (listN (walkF sts l sym)) := by
  have h1 := listN_le (walkF sts l sym);rw [walkF_len] at h1;refine ⟨by omega, fun x hx => ?_⟩
  have key : ∀ (b : List Bool) (d i : Nat), ∀ x ∈ places b d i, 0 ≤ x ∧ x < ((i + d : Nat) : Int) := by
    intro b d
    induction d with
    | zero => intro i x hx; cases hx
    | succ d ih =>
      intro i x hx;simp only [places, List.mem_append] at hx;rcases hx with hx | hx
      · split at hx
        · rw [List.mem_singleton.1 hx]; omega
        · cases hx
      · have := ih (i + 1) x hx;omega
  have := key (walkF sts l sym) _ 0 x hx;rw [walkF_len] at this;omega
theorem okT_to (sts : List St) (t : List Int) (sym : Int) (hn : sts.length ≤ 600) : okT (toT sts t sym) := by
  unfold toT;split
  · exact okT_list _ _ _ hn
  · exact okT_list _ _ _ hn
def okN (p m : Nat) (vN : Value) (k : Nat) : Prop := (k ≠ p ∧ k ≠ m) ∧ some k ≠ vN.ownBlock
structure RI (w0 w : World) (b0 p m : Nat) (h0 h1 h2 h3 v vN : Value) (S : List (List Int)) (next : List Int) (D : DataW Unit) (n : Nat) : Prop where
  sb : SB w b0 p m h0 h1 h2 h3 v S D n (okN p m vN)
  nx : Kd.R (Kd.int .i64) 3 w b0 (fun k => (True ∧ k ≠ p ∧ k ≠ m) ∧ some k ≠ v.ownBlock) vN next
  vlow : ∀ k, v.ownBlock = some k → w0.heap.size ≤ k
  nlow : ∀ k, vN.ownBlock = some k → w0.heap.size ≤ k
  size : w0.heap.size ≤ w.heap.size
  keep : ∀ b, b < w0.heap.size → b ≠ p → b ≠ m → w.heap[b]? = w0.heap[b]?
  pw : p < w0.heap.size ∧ m < w0.heap.size ∧ b0 ≤ w0.heap.size
section
variable {w0 w w1 : World} {b0 p m : Nat} {h0 h1 h2 h3 v v1 vN vN1 : Value} {S S1 : List (List Int)} {next next1 : List Int} {D D1 : DataW Unit} {n n1 : Nat}
theorem RI.call (h : RI w0 w b0 p m h0 h1 h2 h3 v vN S next D n) (hb : Below w.heap.size w w1) : RI w0 w1 b0 p m h0 h1 h2 h3 v vN S next D n :=
  ⟨h.sb.step hb, Kd.R_below h.nx hb, h.vlow, h.nlow, Nat.le_trans h.size hb.size, fun b hlt hp hm => by have := h.size; rw [hb.block b (by omega), h.keep b hlt hp hm], h.pw⟩
theorem RI.fresh (h : RI w0 w b0 p m h0 h1 h2 h3 v vN S next D n) : ∀ k, w.heap.size ≤ k → okN p m vN k := fun k hk => by
  have := h.size
  have := h.pw
  refine ⟨⟨by omega, by omega⟩, fun e => ?_⟩
  have := Kd.R_lt h.nx k e.symm
  omega
theorem RI.freshN (h : RI w0 w b0 p m h0 h1 h2 h3 v vN S next D n) : ∀ k, w.heap.size ≤ k → (True ∧ k ≠ p ∧ k ≠ m) ∧ some k ≠ v.ownBlock := fun k hk => by
  have := h.size
  have := h.pw
  refine ⟨⟨trivial, by omega, by omega⟩, fun e => ?_⟩
  have := Kd.R_lt h.sb.sets k e.symm
  omega
theorem RI.state (h : RI w0 w b0 p m h0 h1 h2 h3 v vN S next D n) (hB : SB w1 b0 p m h0 h1 h2 h3 v1 S1 D1 n1 (okN p m vN)) (hS : Sty p m v v1 w w1) : RI w0 w1 b0 p m h0 h1 h2 h3 v1 vN S1 next D1 n1 := by
  have hz := h.size;refine ⟨hB, R_sty h.nx hS, fun k hk => ?_, h.nlow, Nat.le_trans hz hS.size, fun b hlt hp hm => ?_, h.pw⟩
  · rcases hS.row with e | ⟨b, e, hb⟩
    · exact h.vlow k (e ▸ hk)
    · rw [e] at hk;injection hk with hk;omega
  · rw [hS.keep b (by omega) hp hm (fun e => by have := h.vlow b e.symm; omega), h.keep b hlt hp hm]
theorem RI.app (h : RI w0 w b0 p m h0 h1 h2 h3 v vN S next D n) (hN : Kd.R (Kd.int .i64) 3 w1 b0 (fun k => (True ∧ k ≠ p ∧ k ≠ m) ∧ some k ≠ v.ownBlock) vN1 next1) (hg : w.grownBy w1 vN.ownBlock) (hat : vN1.ownBlock = vN.ownBlock ∨ ∃ b, vN1.ownBlock = some b ∧ w.heap.size ≤ b) : RI w0 w1 b0 p m h0 h1 h2 h3 v vN1 S next1 D n := by
  have hz := h.size;(have hnp : ∀ k, vN.ownBlock = some k → k ≠ p ∧ k ≠ m := fun k hk => ⟨(h.nx.1 k hk).1.2.1, (h.nx.1 k hk).1.2.2⟩);refine ⟨⟨?_, h.sb.own.kept hg (fun e => (hnp m e.symm).2 rfl), h.sb.map, ?_, fun k hk => hk.1, h.sb.pm, h.sb.le, h.sb.nn⟩, hN, h.vlow, fun k hk => ?_, Nat.le_trans hz hg.size, fun b hlt hp hm => ?_, h.pw⟩
  · rw [hg.block p h.sb.lt (fun e => (hnp p e.symm).1 rfl)];exact h.sb.blk
  · exact Kd.R_after (ok := fun k => k ≠ p ∧ k ≠ m) h.sb.sets hg hat
  · rcases hat with e | ⟨b, e, hb⟩
    · exact h.nlow k (e ▸ hk)
    · rw [e] at hk;injection hk with hk;omega
  · rw [hg.block b (by omega) (fun e => by have := h.nlow b e.symm; omega), h.keep b hlt hp hm]
theorem RI.elem (h : RI w0 w b0 p m h0 h1 h2 h3 v vN S next D n) {a : Nat} (ha : a < S.length) : ∃ ad cs A1 c1, v = .slice (some ad) S.length cs ∧ w.cell? (ad.add a) = some (.slice A1 (S.getD a []).length c1) ∧ (S.getD a []).length ≤ c1 ∧ Kd.C (Kd.int .i64) w A1 (S.getD a []).length (S.getD a []) := by
  obtain ⟨As, cs, rfl⟩ := Kd.R_slice h.sb.sets;obtain ⟨ad, c, rfl, hc, ⟨A1, c1, rfl, hl, hC⟩, hcell⟩ := Kd.C_get (Kd.R_reads' h.sb.sets).2.2 ([] : List Int) (a : Int) (by omega) (by omega);rw [Int.toNat_natCast] at hl hC hcell;refine ⟨ad, cs, A1, c1, rfl, ?_, hl, hC⟩;have := hcell 0 _ rfl;rw [show KS.sz = 1 from rfl, Nat.mul_one, Nat.add_zero] at this;exact this
end
theorem info_i64 : (Tryd.prog.info? 3).map (fun i => (i.zero, i.size, i.bytes)) = some (some (.int .i64 0), 1, 8) := by kernel_rfl
end Go.Proofs.YtfjemaeidmikmaaDoorQ
end
section
set_option linter.unusedVariables false
set_option linter.unusedSimpArgs false
namespace Go.Proofs.YtfjemaeidmikmaaDoorQ
open Go.RowKit Go.Proofs.YtfjemaeidmikmaaDoorW.PrintWords Go.Proofs.YtfjemaeidmikmaaDoorW.PrintLast Go.Proofs.Bs Go.Proofs.YtfjemaeidmikmaaDoor
abbrev Mk2 := List (List Bool)
abbrev Qr := Mk2 × List Int
def knR (M : Mk2) (t : List Bool) : Mk2 × Nat := if t ∈ M then (M, M.idxOf t) else (M ++ [t], M.length)
def stepM (sts : List St) (m : List Bool) (sym : Int) : List Bool := if sym < 256 then stepR sts sym m else closeR sts sym m
def rinStep (sts : List St) (a : Nat) (q : Qr) (sym : Int) : Qr := ((knR q.1 (stepM sts (q.1.getD a []) sym)).1, q.2 ++ [((knR q.1 (stepM sts (q.1.getD a []) sym)).2 : Int)])
def rinN (sts : List St) (a : Nat) (firsts : List Int) (q : Qr) : Qr := firsts.foldl (rinStep sts a) q
def routN (sts : List St) (firsts : List Int) (most : Int) : Nat → Nat → Qr → Qr
  | 0, _, q => q
  | k + 1, a, q => if a < q.1.length ∧ (q.1.length : Int) ≤ most then routN sts firsts most k (a + 1) (rinN sts a firsts q) else q
def rrunQ (sts : List St) (s : Int) (firsts : List Int) (most : Int) : Qr := routN sts firsts most (most + 1).toNat 0 ([closeR sts 0 (ofN sts.length [s])], [])
def okM (n : Nat) (M : Mk2) : Prop := ∀ m ∈ M, m.length = n
def imgQ (q : Qr) : Qt := (q.1.map listN, q.2)
theorem listN_inj {n : Nat} {a b : List Bool} (ha : a.length = n) (hb : b.length = n) (h : listN a = listN b) : a = b := by
  have h1 := of_list a;have h2 := of_list b;rw [ha] at h1;rw [hb, ← h] at h2;rw [← h1, h2]
theorem mem_img {n : Nat} {M : Mk2} {t : List Bool} (hM : okM n M) (ht : t.length = n) : listN t ∈ M.map listN ↔ t ∈ M := by
  constructor
  · intro h;obtain ⟨m, hm, e⟩ := List.mem_map.1 h;rw [← listN_inj (hM m hm) ht e];exact hm
  · exact fun h => List.mem_map_of_mem h
theorem idx_img {n : Nat} (t : List Bool) (ht : t.length = n) : ∀ {M : Mk2}, okM n M → (M.map listN).idxOf (listN t) = M.idxOf t
  | [], _ => rfl
  | m :: M, hM => by
    have ih := idx_img t ht (M := M) (fun x hx => hM x (List.mem_cons_of_mem _ hx))
    rw [List.map_cons, List.idxOf_cons, List.idxOf_cons, ih]
    have hm := hM m List.mem_cons_self
    have e : (listN m == listN t) = (m == t) := by
      rw [Bool.eq_iff_iff, beq_iff_eq, beq_iff_eq];exact ⟨fun h => listN_inj hm ht h, fun h => by rw [h]⟩
    rw [e]
theorem kn_img {n : Nat} {M : Mk2} {t : List Bool} (hM : okM n M) (ht : t.length = n) : knS (M.map listN) (listN t) = ((knR M t).1.map listN, (knR M t).2) := by
  unfold knS knR;by_cases h : t ∈ M
  · rw [if_pos h, if_pos ((mem_img hM ht).2 h), idx_img t ht hM]
  · rw [if_neg h, if_neg (fun k => h ((mem_img hM ht).1 k)), List.map_append, List.length_map];rfl
theorem kn_ok {n : Nat} {M : Mk2} {t : List Bool} (hM : okM n M) (ht : t.length = n) : okM n (knR M t).1 := by
  unfold knR;split
  · exact hM
  · intro x hx;rcases List.mem_append.1 hx with hx | hx
    · exact hM x hx
    · rw [List.mem_singleton.1 hx]; exact ht
theorem stepM_len (sts : List St) (m : List Bool) (sym : Int) : (stepM sts m sym).length = sts.length := by
  unfold stepM;split <;> exact closeR_len _ _ _
theorem step_img (sts : List St) (hok : okSts sts) (m : List Bool) (hm : m.length = sts.length) (sym : Int) : toT sts (listN m) sym = listN (stepM sts m sym) := by
  have h1 := of_list m;rw [hm] at h1;unfold toT stepM;split
  · rw [step_close sts sym _ hok, h1]
  · rw [walk_close sts sym _ hok, h1]
theorem getD_img {n : Nat} {M : Mk2} {a : Nat} (h : a < M.length) : (M.map listN).getD a [] = listN (M.getD a []) := by
  rw [List.getD_eq_getElem?_getD, List.getD_eq_getElem?_getD, List.getElem?_map, List.getElem?_eq_getElem h];rfl
theorem getD_ok {n : Nat} {M : Mk2} (hM : okM n M) {a : Nat} (h : a < M.length) : (M.getD a []).length = n := by
  rw [List.getD_eq_getElem?_getD, List.getElem?_eq_getElem h];exact hM _ (List.getElem_mem h)
theorem knR_len (M : Mk2) (t : List Bool) : M.length ≤ (knR M t).1.length ∧ (knR M t).1.length ≤ M.length + 1 := by
  unfold knR;split <;> simp
theorem rin_len (sts : List St) (a : Nat) (q : Qr) (x : Int) : q.1.length ≤ (rinStep sts a q x).1.length ∧ (rinStep sts a q x).1.length ≤ q.1.length + 1 ∧ (rinStep sts a q x).2.length = q.2.length + 1 := by
  have := knR_len q.1 (stepM sts (q.1.getD a []) x);exact ⟨this.1, this.2, by simp [rinStep]⟩
theorem rin_ok (sts : List St) (a : Nat) (q : Qr) (h : okM sts.length q.1) (x : Int) : okM sts.length (rinStep sts a q x).1 := kn_ok h (stepM_len _ _ _)
theorem rinN_ok (sts : List St) (a : Nat) : ∀ (l : List Int) (q : Qr), okM sts.length q.1 → okM sts.length (rinN sts a l q).1
  | [], q, h => h
  | x :: l, q, h => rinN_ok sts a l _ (rin_ok sts a q h x)
theorem in_img (sts : List St) (hok : okSts sts) (a : Nat) : ∀ (l : List Int) (q : Qr), okM sts.length q.1 → a < q.1.length → inN sts a l (imgQ q) = imgQ (rinN sts a l q)
  | [], q, h, ha => rfl
  | x :: l, q, h, ha => by
    have h2 := rin_len sts a q x
    have ih := in_img sts hok a l (rinStep sts a q x) (rin_ok sts a q h x) (by omega)
    have e : inStep sts a (imgQ q) x = imgQ (rinStep sts a q x) := by
      unfold inStep imgQ rinStep;simp only;rw [getD_img (n := sts.length) ha, step_img sts hok _ (getD_ok h ha), kn_img h (stepM_len _ _ _)]
    show inN sts a l (inStep sts a (imgQ q) x) = _
    rw [e, ih]
    rfl
theorem out_img (sts : List St) (hok : okSts sts) (firsts : List Int) (most : Int) : ∀ (k a : Nat) (q : Qr), okM sts.length q.1 → outN sts firsts most k a (imgQ q) = imgQ (routN sts firsts most k a q)
  | 0, a, q, h => rfl
  | k + 1, a, q, h => by
    have hl : (imgQ q).1.length = q.1.length := List.length_map _
    unfold outN routN
    rw [hl]
    by_cases c : a < q.1.length ∧ (q.1.length : Int) ≤ most
    · rw [if_pos c, if_pos c, in_img sts hok a firsts q h c.1]
      exact out_img sts hok firsts most k (a + 1) _ (rinN_ok sts a firsts q h)
    · rw [if_neg c, if_neg c]
theorem run_img (sts : List St) (hok : okSts sts) (s : Int) (firsts : List Int) (most : Int) : runQ sts s firsts most = imgQ (rrunQ sts s firsts most) := by
  (have h0 : okM sts.length [closeR sts 0 (ofN sts.length [s])] := fun m hm => by rw [List.mem_singleton.1 hm]; exact closeR_len _ _ _);have := out_img sts hok firsts most (most + 1).toNat 0 ([closeR sts 0 (ofN sts.length [s])], []) h0;unfold rrunQ;rw [← this];unfold runQ imgQ;rw [List.map_cons, List.map_nil, walk_close sts 0 _ hok]
section
variable (sts : List St) (s f most : Int) (cl : List Int) (wd : Int) (F : List Int)
end
end Go.Proofs.YtfjemaeidmikmaaDoorQ
end
