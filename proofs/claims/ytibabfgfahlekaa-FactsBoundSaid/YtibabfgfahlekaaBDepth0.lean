/- Pruned from its seat's text: what the theorem hangs on. -/
import Derived.Test.YtibabfgfahlekaaBTreePure
/- Plain: how deep a tree is, by a stack and by going down. -/
namespace Go.Proofs.Ytibabfgfahlekaa
open Go.Proofs.Bs

def maxOf : List Int → Int → Int
  | [], m => m
  | d :: ds, m => maxOf ds (max m d)
/-- The stack of depths behind so many nodes: the first part lowest. -/
def stackStep (s : List Int) (x : Nd) : List Int := s.take (s.length - (arity x.kind).toNat) ++ [maxOf (s.drop (s.length - (arity x.kind).toNat)) 0 + 1]
def stackP (l : List Nd) : Nat → List Int
  | 0 => []
  | k + 1 => stackStep (stackP l k) (l.getD k zNd)
theorem stack_tiles (l : List Nd) (hr : rightB l = true) (k : Nat) (hk : k ≤ l.length) : ∃ m, tiles l k m ∧ (stackP l k).length = m := by
  obtain ⟨_, hall, _⟩ := (rightB_iff l).1 hr
  induction k with
  | zero => exact ⟨0, rfl, rfl⟩
  | succ k ih =>
    obtain ⟨m, ht, hm⟩ := ih (by omega)
    have hx : l[k]? = some l[k] := List.getElem?_eq_getElem (by omega)
    have hg : l.getD k zNd = l[k] := by rw [List.getD_eq_getElem?_getD, hx]; rfl
    have h0 := (hall k (by omega)).1
    have hp := fst1_pop l k _ hx
    generalize l[k] = x at hx hg hp
    have h1 := pop_tiles l (arity x.kind).toNat k m ht
    have ha : ¬ arity x.kind < 0 := by intro h; rw [if_pos h] at hp; omega
    rw [if_neg ha] at hp
    have ham : (arity x.kind).toNat ≤ m := by
      rcases Nat.lt_or_ge m (arity x.kind).toNat with h | h
      · have := h1.2 h; rw [hp] at h0; exact absurd h0 (by omega)
      · exact h
    obtain ⟨s, hs, hts⟩ := h1.1 ham
    refine ⟨m - (arity x.kind).toNat + 1, ⟨by omega, ?_, ?_⟩, ?_⟩
    · rw [Nat.add_sub_cancel]; exact h0
    · rw [Nat.add_sub_cancel, hp, hs, Int.toNat_natCast]; exact hts
    · rw [stackP, hg, stackStep, List.length_append, List.length_take, hm]
      simp
theorem stack_room (l : List Nd) (hr : rightB l = true) (k : Nat) (x : Nd) (hx : l[k]? = some x) : 0 ≤ arity x.kind ∧ (arity x.kind).toNat ≤ (stackP l k).length := by
  obtain ⟨_, hall, _⟩ := (rightB_iff l).1 hr
  have hk := (List.getElem?_eq_some_iff.1 hx).1
  obtain ⟨m, ht, hm⟩ := stack_tiles l hr k (by omega)
  have h0 := (hall k hk).1
  have hp := fst1_pop l k _ hx
  have h1 := pop_tiles l (arity x.kind).toNat k m ht
  have ha : ¬ arity x.kind < 0 := by intro h; rw [if_pos h] at hp; omega
  rw [if_neg ha] at hp
  refine ⟨by omega, ?_⟩
  rw [hm]
  rcases Nat.lt_or_ge m (arity x.kind).toNat with h | h
  · have := h1.2 h; rw [hp] at h0; exact absurd h0 (by omega)
  · exact h
theorem stack_end (l : List Nd) (hr : rightB l = true) : 1 ≤ (stackP l l.length).length := by
  obtain ⟨m, ht, hm⟩ := stack_tiles l hr l.length (by omega)
  obtain ⟨_, _, h0, _⟩ := (rightB_iff l).1 hr
  rw [hm]
  cases m with
  | zero => exact absurd ht (by show ¬ l.length = 0; omega)
  | succ m => omega
end Go.Proofs.Ytibabfgfahlekaa
