/- Pruned from its seat's text: what the theorem hangs on. -/
import Derived.Test.YtibabfgfahlekaaHNfImpl5
import Derived.Test.YtibabfgfahlekaaHNfFits1
import Derived.Test.YtibabfgfahlekaaHM3
/- Fits: what the automaton's run comes to is what the page says. -/
set_option linter.unusedVariables false
set_option linter.unusedSimpArgs false
namespace Go.Proofs.YtibabfgfahlekaaQ
open Go.RowKit Go.Proofs.YtibabfgfahlekaaW.PrintWords Go.Proofs.YtibabfgfahlekaaW.PrintLast Go.Proofs.Bs

theorem edge_mono {sts : List St} (sym : Int) {i j : Nat} (h : edge sts 0 i j = true) : edge sts sym i j = true := by
  unfold edge goesA at *
  simp only [Bool.or_eq_true, Bool.and_eq_true, decide_eq_true_eq] at *
  omega
theorem edge_lt {sts : List St} (hok : okSts sts) (sym : Int) (i j : Nat) (hi : i < sts.length) (he : edge sts sym i j = true) : j < sts.length := by
  obtain ⟨⟨a0, a1⟩, b0, b1⟩ := hok i hi
  unfold edge at he
  simp only [Bool.or_eq_true, Bool.and_eq_true, decide_eq_true_eq] at he
  rcases he with ⟨_, e⟩ | ⟨_, e⟩ <;> omega
theorem pOf_close (sts : List St) (sym : Int) (m : List Bool) (j : Nat) (hj : j < sts.length) : pOf (closeR sts sym m) j = Nf.turns sts.length (edge sts sym) sts.length (pOf m) j := by
  unfold closeR pOf
  exact tab_at _ _ _ hj
theorem close_again (sts : List St) (sym : Int) (m : List Bool) (hok : okSts sts) (hm : m.length = sts.length) : closeR sts 0 (closeR sts sym m) = closeR sts sym m := by
  have e : closeR sts 0 (closeR sts sym m) = tab sts.length (Nf.turns sts.length (edge sts 0) sts.length (pOf (closeR sts sym m))) := rfl
  rw [e]
  show _ = tab sts.length (Nf.turns sts.length (edge sts sym) sts.length (pOf m))
  refine tab_ext fun j hj => ?_
  have lt0 : ∀ i, pOf (closeR sts sym m) i = true → i < sts.length := fun i h => by
    have := pOf_lt h
    rwa [closeR_len] at this
  have lt1 : ∀ i, pOf m i = true → i < sts.length := fun i h => by
    have := pOf_lt h
    rwa [hm] at this
  have t0 := Nf.turns_reach sts.length (edge sts 0) (pOf (closeR sts sym m)) (edge_lt hok 0) lt0
  have t1 := Nf.turns_reach sts.length (edge sts sym) (pOf m) (edge_lt hok sym) lt1
  rw [Bool.eq_iff_iff]
  constructor
  · intro h
    refine Nf.Reach.in_closed (P := fun i => Nf.turns sts.length (edge sts sym) sts.length (pOf m) i = true) (fun i hi hs => ?_) (fun i k hi hp he hk => ?_) ((t0 j).1 h)
    · rwa [pOf_close sts sym m i hi] at hs
    · exact (t1 k).2 (((t1 i).1 hp).step (edge_mono sym he) hk)
  · intro h
    refine Nf.turns_le _ _ _ _ _ ?_
    rw [pOf_close sts sym m j hj]
    exact h
theorem mem_places (l : List Bool) : ∀ d i : Nat, ∀ x : Int, x ∈ places l d i ↔ ∃ j : Nat, i ≤ j ∧ j < i + d ∧ x = (j : Int) ∧ pOf l j = true := by
  intro d
  induction d with
  | zero =>
    intro i x
    simp only [places, List.not_mem_nil, false_iff, not_exists]
    intro j h
    omega
  | succ d ih =>
    intro i x
    simp only [places, List.mem_append, ih]
    constructor
    · rintro (h | ⟨j, h1, h2, h3, h4⟩)
      · split at h
        · rename_i hb
          have hx : x = (i : Int) := by simpa using h
          exact ⟨i, by omega, by omega, hx, hb⟩
        · simp at h
      · exact ⟨j, by omega, by omega, h3, h4⟩
    · rintro ⟨j, h1, h2, h3, h4⟩
      by_cases e : j = i
      · subst e
        left
        have h5 : rdOf false l (j : Int) = true := h4
        rw [if_pos h5]
        simp [h3]
      · exact Or.inr ⟨j, by omega, by omega, h3, h4⟩
theorem of_list (m : List Bool) : ofN m.length (listN m) = m := by
  have e1 := tab_pOf (ofN m.length (listN m))
  rw [ofN_len] at e1
  rw [← e1]
  have e2 := tab_pOf m
  refine Eq.trans (tab_ext fun j hj => ?_) e2
  rw [ofN_at]
  unfold pIn
  rw [Bool.eq_iff_iff, decide_eq_true_eq]
  unfold listN
  rw [mem_places]
  constructor
  · rintro ⟨_, k, _, _, h3, h4⟩
    have : j = k := by omega
    subst this
    exact h4
  · intro h
    exact ⟨hj, j, by omega, by omega, rfl, h⟩
def bytesR (sts : List St) (text : ByteArray) (i : Nat) (m : List Bool) : Nat → List Bool
  | 0 => m
  | k + 1 => stepR sts (bt text ((i + k : Nat) : Int)) (bytesR sts text i m k)
theorem bytesR_len (sts : List St) (text : ByteArray) (i : Nat) (m : List Bool) (hm : m.length = sts.length) : ∀ k, (bytesR sts text i m k).length = sts.length
  | 0 => hm
  | k + 1 => closeR_len _ _ _
theorem atBytes_eq (sts : List St) (hok : okSts sts) (text : ByteArray) (i : Nat) (m : List Bool) (hm : m.length = sts.length) : ∀ k, atBytes sts text i (listN m) k = listN (bytesR sts text i m k)
  | 0 => rfl
  | k + 1 => by
    show atByte sts (atBytes sts text i (listN m) k) _ = _
    rw [atBytes_eq sts hok text i m hm k]
    unfold atByte
    rw [step_close sts _ _ hok]
    have h := of_list (bytesR sts text i m k)
    rw [bytesR_len sts text i m hm k] at h
    rw [h]
    rfl
/-- A mask that is closed for no symbol. -/
def shut (sts : List St) (m : List Bool) : Prop := m.length = sts.length ∧ closeR sts 0 m = m
theorem shut_close (sts : List St) (hok : okSts sts) (sym : Int) (m : List Bool) (hm : m.length = sts.length) : shut sts (closeR sts sym m) := ⟨closeR_len _ _ _, close_again sts sym m hok hm⟩
theorem shut_step (sts : List St) (hok : okSts sts) (b : Int) (m : List Bool) : shut sts (stepR sts b m) := shut_close sts hok 0 _ (tab_len _ _)
theorem shut_bytes (sts : List St) (hok : okSts sts) (text : ByteArray) (i : Nat) (m : List Bool) (hm : shut sts m) : ∀ k, shut sts (bytesR sts text i m k)
  | 0 => hm
  | k + 1 => shut_step sts hok _ _
theorem walk_list (sts : List St) (hok : okSts sts) (sym : Int) (m : List Bool) (hm : m.length = sts.length) : walkF sts (listN m) sym = closeR sts sym m := by
  rw [walk_close sts sym _ hok]
  have h := of_list m
  rw [hm] at h
  rw [h]
/-- What the page says, step by step. -/
def fitsR (sts : List St) (s f : Int) (text : ByteArray) (i j : Nat) : Bool :=
  let m0 := closeR sts 0 (ofN sts.length [s])
  if text.size = 0 then rdOf false (closeR sts 258 m0) f else
  let m1 := if i = 0 then closeR sts 256 m0 else m0
  let m2 := bytesR sts text i m1 (j - i)
  rdOf false (if j = text.size then closeR sts 257 m2 else m2) f
theorem fits_page (sts : List St) (s f : Int) (text : ByteArray) (i j : Nat) (hR : rightN sts s f = true) (hij : i ≤ j) (hj : j ≤ text.size) : fitsN sts s f text (i : Int) (j : Int) = fitsR sts s f text i j := by
  have hok := okSts_of hR
  unfold fitsN fitsR
  have hs : atStart sts s = listN (closeR sts 0 (ofN sts.length [s])) := by
    unfold atStart
    rw [walk_close sts 0 _ hok]
  have h0 := shut_close sts hok 0 (ofN sts.length [s]) (ofN_len _ _)
  rw [if_neg (by rw [hR]; simp; omega), hs]
  generalize closeR sts 0 (ofN sts.length [s]) = m0 at *
  by_cases hz : text.size = 0
  · rw [if_pos hz]
    simp only [hz, if_true]
    rw [walk_list sts hok 258 m0 h0.1]
  · rw [if_neg hz]
    simp only [hz, if_false]
    have e2 : ((j : Int) - (i : Int)).toNat = j - i := by omega
    rw [Int.toNat_natCast, e2]
    have h1 : ∃ m1, (if i = 0 then closeR sts 256 m0 else m0) = m1 ∧ shut sts m1 ∧ (if (i : Int) = 0 then listN (walkF sts (listN m0) 256) else listN m0) = listN m1 := by
      by_cases hi : i = 0
      · refine ⟨closeR sts 256 m0, by rw [if_pos hi], shut_close sts hok 256 m0 h0.1, ?_⟩
        rw [if_pos (by omega), walk_list sts hok 256 m0 h0.1]
      · refine ⟨m0, by rw [if_neg hi], h0, ?_⟩
        rw [if_neg (by omega)]
    obtain ⟨m1, e3, hm1, e4⟩ := h1
    rw [e3, e4, atBytes_eq sts hok text i m1 hm1.1]
    have h2 := shut_bytes sts hok text i m1 hm1 (j - i)
    generalize bytesR sts text i m1 (j - i) = m2 at *
    by_cases he : j = text.size
    · rw [if_pos (by omega), if_pos he, walk_list sts hok 257 m2 h2.1]
      have h3 := shut_close sts hok 257 m2 h2.1
      rw [walk_list sts hok 0 _ h3.1, h3.2]
    · rw [if_neg (by omega), if_neg he, walk_list sts hok 0 _ h2.1, h2.2]
end Go.Proofs.YtibabfgfahlekaaQ
