/- The walks of package tree: Reverse of at most two, Kids. -/
import Derived.Test.YtghkkganbhpbhaaTree2
import Derived.RegionTactic
import Derived.BigRegion
import Derived.ChangeAlike
set_option linter.unusedVariables false
set_option linter.unusedSimpArgs false
namespace Go.Proofs.Ytghkkganbhpbhaa
open Go.RowKit Go.Proofs.Bs

set_option maxHeartbeats 800000 in
theorem rev_two (g c : Nat) (x y : Int) (w : World) (hx : w.cell? ⟨g, 0, none⟩ = some (.int .i64 x)) (hy : w.cell? ⟨g, 1, none⟩ = some (.int .i64 y)) (fx : w.frozen? ⟨g, 0, none⟩ = false) (fy : w.frozen? ⟨g, 1, none⟩ = false) :
    Calls Try.prog 55 #[.slice (some ⟨g, 0, none⟩) 2 c] w fun e w' => e = .returned (.tuple #[]) ∧ SameAs ((w.setCell ⟨g, 0, none⟩ (.int .i64 y)).setCell ⟨g, 1, none⟩ (.int .i64 x)) w' := by
  go_enter Try.func55, Try.ntmps55
  go_wp2
  go_loopw [2, 3] (fun i j wr => (i = .int .i64 0 ∧ j = .int .i64 1 ∧ wr = w) ∨ (i = .int .i64 1 ∧ j = .int .i64 0 ∧ SameAs ((w.setCell ⟨g, 0, none⟩ (.int .i64 y)).setCell ⟨g, 1, none⟩ (.int .i64 x)) wr)) (fun i _ _ => (1 - intOf i).toNat)
  case atStart => exact .inl ⟨rfl, rfl, rfl⟩
  case round =>
    rcases hrel with ⟨rfl, rfl, rfl⟩ | ⟨rfl, rfl, ha⟩
    · go_wp2
      go_region
      go_wp2
      go_roundw
      case rel => exact .inr ⟨by go_num, by go_num, rfl, rfl, rfl, rfl⟩
      case measure => simp [intOf]
    · go_wp2
      go_end0
      exact ⟨rfl, ha⟩

set_option maxHeartbeats 800000 in
theorem rev_few (n c : Nat) (A : Option Addr) (w : World) (hn : n ≤ 1) :
    Calls Try.prog 55 #[.slice A n c] w fun e w' => e = .returned (.tuple #[]) ∧ w = w' := by
  go_enter Try.func55, Try.ntmps55
  go_wp2
  go_loop [2, 3] (fun i j => i = .int .i64 0 ∧ j = .int .i64 ((n : Int) - 1)) (fun i _ => 0)
  case atStart => exact ⟨rfl, rfl⟩
  case round =>
    obtain ⟨rfl, rfl⟩ := hrel
    go_wp2
    go_end0
    exact ⟨rfl, rfl⟩

theorem rev_own (base : Nat) (xs : List Int) (A : Option Addr) (n c : Nat) (w : World) (hn : n ≤ 2) (HO : w.ownsRow base 3 1 (.slice A n c) n (ints xs)) :
    Calls Try.prog 55 #[.slice A n c] w fun e w' => e = .returned (.tuple #[]) ∧ w'.ownsRow base 3 1 (.slice A n c) n (ints xs.reverse) ∧ w.grownBy w' ((Value.slice A n c).ownBlock) := by
  have hl : xs.length = n := by have := HO.1; rw [ints_length] at this; omega
  by_cases h1 : n ≤ 1
  · refine (rev_few n c A w h1).mono ?_
    rintro e w' ⟨rfl, rfl⟩
    have : xs.reverse = xs := by
      match xs, hl with
      | [], _ => rfl
      | [x], _ => rfl
      | _ :: _ :: _, hl => simp at hl; omega
    rw [this]
    exact ⟨rfl, HO, World.grownBy.refl _ _⟩
  · obtain rfl : n = 2 := by omega
    obtain ⟨g, cap, hv, hb, hg⟩ := HO.form (by omega)
    injection hv with hv1 _ hv2
    subst hv1 hv2
    match xs, hl with
    | [x, y], _ =>
      have c0 := HO.cellAt 0 (by omega)
      have c1 := HO.cellAt 1 (by omega)
      refine (rev_two g c x y w c0 c1 (HO.frozenAt 0) (HO.frozenAt 1)).mono ?_
      rintro e w' ⟨rfl, hs⟩
      have s1 := HO.stored 0 (.int .i64 y)
      have s2 := s1.1.stored 1 (.int .i64 x)
      exact ⟨rfl, hs.row s2.1, hs.grown (s1.2.trans s2.2)⟩

end Go.Proofs.Ytghkkganbhpbhaa
