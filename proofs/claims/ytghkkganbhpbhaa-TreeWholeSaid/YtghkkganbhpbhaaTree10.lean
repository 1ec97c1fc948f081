/- Law TreeRight's own walk. -/
import Derived.Test.YtghkkganbhpbhaaTree7
import Derived.Test.YtghkkganbhpbhaaTree8
import Derived.Test.YtghkkganbhpbhaaTree9
import Derived.Test.YtghkkganbhpbhaaTree4
set_option linter.unusedVariables false
set_option linter.unusedSimpArgs false
namespace Go.Proofs.Ytghkkganbhpbhaa
open Go.RowKit Go.Proofs.Bs

def exTree : List Nd := [⟨1, S.zero, 0, 0⟩, ⟨1, S.zero, 0, 0⟩, ⟨5, S.zero, 0, 0⟩]

set_option maxHeartbeats 3200000 in
theorem awake_any (w : World) : Calls Try.prog 19 #[] w fun e w' => e = .returned (.bool true) ∧ Below w.heap.size w w' := by
  go_enter Try.func19, Try.ntmps19
  go_wp2_with fail
  refine (kids_any _ 3 3 exTree 2 _ ?hr (by omega)).mono ?_
  case hr => exact Reads.of_own (own_lit (base := 0) 78 7 (exTree.flatMap Nd.cells) 3 (Nat.zero_le _) (by omega) rfl)
  have hr0 : Reads (w.alloc (.cells (exTree.flatMap Nd.cells).toArray 78)) 7 (some ⟨w.heap.size, 0, none⟩) 3 (exTree.flatMap Nd.cells) := Reads.of_own (own_lit (base := 0) 78 7 (exTree.flatMap Nd.cells) 3 (Nat.zero_le _) (by omega) rfl)
  have hb0 : Below w.heap.size w (w.alloc (.cells (exTree.flatMap Nd.cells).toArray 78)) := bel_alloc (Below.refl _ _) _
  rw [show kidsP exTree 2 = [0, 1] by decide +kernel]
  rintro e w1 ⟨A1, c1, rfl, HO, hb1⟩
  have hr1 := hr0.below hb1
  have hb01 := bel_then hb0 hb1
  obtain ⟨ad, y0, rfl, hy0, cy0⟩ := (Reads.of_own HO).int (show 0 < 2 by omega)
  obtain ⟨ad', y1, had, hy1, cy1⟩ := (Reads.of_own HO).int (show 1 < 2 by omega)
  injection had with had
  subst had
  have e0 : y0 = 0 := by injection hy0 with h; exact h.symm
  have e1 : y1 = 1 := by injection hy1 with h; exact h.symm
  subst e0 e1
  rw [show ad.add 0 = ad from rfl] at cy0
  rw [show ad.add 1 = ⟨ad.block, ad.off + 1, none⟩ from rfl] at cy1
  clear hy0 hy1 HO hr0 hb1 hb0
  go_wp2_with fail
  refine (right_any _ 3 3 exTree _ hr1 (by omega)).mono ?_
  rw [show rightB exTree = true by decide +kernel]
  rintro e w2 ⟨rfl, hb2⟩
  have hr2 := hr1.below hb2
  have hb02 := bel_then hb01 hb2
  have cz0 := cell_below hb2 cy0
  have cz1 := cell_below hb2 cy1
  clear hr1 cy0 cy1 hb01 hb2
  go_wp2_with fail
  refine (depth_yes _ 3 3 exTree _ hr2 (by omega) (by decide +kernel)).mono ?_
  rw [show depthP exTree = 2 by decide +kernel]
  rintro e w3 ⟨rfl, hb3⟩
  have cy0 := cell_below hb3 cz0
  have cy1 := cell_below hb3 cz1
  have hb03 := bel_then hb02 hb3
  clear cz0 cz1 hb3 hb02 hr2
  go_wp2_with (go_at_call 24; refine (args_any _ _).mono ?_; rw [show arity 7 = 1 by decide]; rintro e w4 ⟨rfl, rfl⟩)
  go_ret
  exact ⟨rfl, hb03⟩

set_option maxHeartbeats 3200000 in
theorem treeRight_any (A : Option Addr) (n c : Nat) (l : List Nd) (kd : Int) (w : World) (h : Reads w 7 A n (l.flatMap Nd.cells)) (hnc : n ≤ c) (hc : n ≤ 140737488351232) :
    Calls Try.prog 4 #[.slice A n c, .int .i64 kd] w fun e w' => e = .returned (.bool true) ∧ Below w.heap.size w w' := by
  obtain ⟨m, hm, hm60⟩ : ∃ m : Nat, (m = 60 ∧ 60 < n ∨ m = n ∧ n ≤ 60) ∧ m ≤ 60 := by
    rcases Nat.lt_or_ge 60 n with h | h
    · exact ⟨60, .inl ⟨rfl, h⟩, by omega⟩
    · exact ⟨n, .inr ⟨rfl, h⟩, h⟩
  obtain ⟨l', hl', hr⟩ : ∃ l' : List Nd, l'.length = m ∧ Reads w 7 A m (l'.flatMap Nd.cells) := by
    have hmn : m ≤ n := by omega
    have := h.take Nd.cells Nd.cells_length (by omega) m hmn
    exact ⟨_, this.length Nd.cells Nd.cells_length (by omega), this⟩
  clear h
  have HL := Lib.hid hl'
  clear hl'
  rcases Bool.eq_false_or_eq_true (rightB l') with hR | hR
  · have HR := Lib.hid hR
    obtain ⟨_, hall, hp, _⟩ := (rightB_iff l').1 hR
    have hf := (hall (l'.length - 1) (by omega)).1
    have hde := depth_eq l' hR
    have hpos : 0 < m := by rw [HL.out] at hp; exact hp
    rw [HL.out] at hf hde
    have HF := Lib.hid hf
    have HD := Lib.hid hde
    clear hR hall hp hf hde
    rcases hm with ⟨rfl, hlt⟩ | ⟨rfl, hlt⟩
    all_goals
      go_enter Try.func4, Try.ntmps4
      go_wp2_with fail
      refine (awake_any _).mono ?_
      rintro e w1 ⟨rfl, hb1⟩
      have hr1 := hr.below hb1
      go_wp2_with fail
      refine (rright_any A _ c l' _ hr1 (by omega)).mono ?_
      rw [HR.out]
      rintro e w2 ⟨rfl, hb2⟩
      have hr2 := hr1.below hb2
      have hb02 := bel_then hb1 hb2
      go_wp2_with fail
      refine (rdepth_int A _ c l' (by omega) _ _ (by omega) _ hr2 (by omega) HF.out).mono ?_
      rw [← HD.out]
      rintro e w3 ⟨rfl, hb3⟩
      have hr3 := hr2.below hb3
      have hb03 := bel_then hb02 hb3
      go_wp2_with fail
      refine (right_any A _ c l' _ hr3 (by omega)).mono ?_
      rw [HR.out]
      rintro e w4 ⟨rfl, hb4⟩
      have hr4 := hr3.below hb4
      have hb04 := bel_then hb03 hb4
      go_wp2_with fail
      refine (depth_yes A _ c l' _ hr4 (by omega) HR.out).mono ?_
      rintro e w5 ⟨rfl, hb5⟩
      have hb05 := bel_then hb04 hb5
      go_wp2_with (first
        | (go_at_call 24; refine (args_any _ _).mono ?_; rintro e w6 ⟨rfl, rfl⟩)
        | (go_at_call 25; refine (rargs_any _ _).mono ?_; rintro e w7 ⟨rfl, hb7⟩))
      go_ret
      exact ⟨by simp, bel_then hb05 hb7⟩
  · have HR := Lib.hid hR
    clear hR
    rcases hm with ⟨rfl, hlt⟩ | ⟨rfl, hlt⟩
    all_goals
      go_enter Try.func4, Try.ntmps4
      go_wp2_with fail
      refine (awake_any _).mono ?_
      rintro e w1 ⟨rfl, hb1⟩
      have hr1 := hr.below hb1
      go_wp2_with fail
      refine (rright_any A _ c l' _ hr1 (by omega)).mono ?_
      rw [HR.out]
      rintro e w2 ⟨rfl, hb2⟩
      have hr2 := hr1.below hb2
      have hb02 := bel_then hb1 hb2
      go_wp2_with fail
      refine (right_any A _ c l' _ hr2 (by omega)).mono ?_
      rw [HR.out]
      rintro e w4 ⟨rfl, hb4⟩
      have hr4 := hr2.below hb4
      have hb04 := bel_then hb02 hb4
      go_wp2_with fail
      refine (depth_no A _ c l' _ hr4 (by omega) HR.out).mono ?_
      rintro e w5 ⟨rfl, hb5⟩
      have hb05 := bel_then hb04 hb5
      go_wp2_with (first
        | (go_at_call 24; refine (args_any _ _).mono ?_; rintro e w6 ⟨rfl, rfl⟩)
        | (go_at_call 25; refine (rargs_any _ _).mono ?_; rintro e w7 ⟨rfl, hb7⟩))
      go_ret
      exact ⟨by simp, bel_then hb05 hb7⟩

end Go.Proofs.Ytghkkganbhpbhaa
