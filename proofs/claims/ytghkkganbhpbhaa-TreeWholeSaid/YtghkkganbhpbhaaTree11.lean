/- The walks of package tree: Clone of nodes, Part; the document's answer: Same. -/
import Derived.Test.YtghkkganbhpbhaaTree2
import Derived.Test.YtghkkganbhpbhaaBase2
import Derived.Test.YtghkkganbhpbhaaTreePure2
import Derived.Test.YtghkkganbhpbhaaEqNode
set_option linter.unusedVariables false
set_option linter.unusedSimpArgs false
namespace Go.Proofs.Ytghkkganbhpbhaa
open Go.RowKit Go.Proofs.Bs
attribute [local go_sem high] eqNode

theorem info_node : (Try.prog.info? 78).map (fun i => (i.zero, i.size, i.bytes)) = some (some (.agg #[.int .i64 0, .int .u64 0, .int .u64 0, .int .u64 0, .int .u64 0, .int .i64 0, .int .i64 0]), 7, 56) := by kernel_rfl
theorem nodes_one (l : List Nd) : (l.flatMap Nd.cells).all Value.oneCell' = true := by
  rw [List.all_eq_true]
  intro u hu
  obtain ⟨x, _, hx⟩ := List.mem_flatMap.1 hu
  simp only [Nd.cells, List.mem_cons, List.not_mem_nil, or_false] at hx
  rcases hx with rfl | rfl | rfl | rfl | rfl | rfl | rfl <;> rfl

set_option maxHeartbeats 800000 in
theorem clone_any (ad : Addr) (n c : Nat) (l : List Nd) (w : World) (h : Reads w 7 (some ad) n (l.flatMap Nd.cells)) (hn : n ≤ 1000000) :
    Calls Try.prog 56 #[.slice (some ad) n c] w fun e w' => ∃ A1 c1, e = .returned (.slice A1 n c1) ∧ w'.ownsRow w.heap.size 78 7 (.slice A1 n c1) n (l.flatMap Nd.cells) ∧ Below w.heap.size w w' := by
  have heq := fun W => Lib.run_eql_slice_nil (P := Try.prog) W 29 _ (some ad) n c 0 0 Try.underlying29
  go_enter Try.func56, Try.ntmps56
  go_wp2_with (at_builtin; refine app_any rfl (.tmp 5) (.tmp 6) 29 rfl w.heap.size 78 Try.underlying29 info_node rfl (by omega) (by omega) _ 0 [] rfl (own_lit 78 7 [] 0 (Nat.le_refl _) (by omega) rfl) (some ad) n c (l.flatMap Nd.cells) rfl (h.below (bel_alloc (Below.refl _ _) _)) (nodes_one _) (by omega) (bel_alloc (Below.refl _ _) _) (Nat.le_refl _) (by simp) ?_; intro A2 c2 w3 HO2 hg2 hb3)
  go_ret
  exact ⟨A2, c2, rfl, by simpa using HO2, hb3⟩

set_option maxHeartbeats 800000 in
theorem part_any (A : Option Addr) (n c : Nat) (l : List Nd) (i : Int) (w : World) (h : Reads w 7 A n (l.flatMap Nd.cells)) (hn : n ≤ 1000000) (hnc : n ≤ c) :
    Calls Try.prog 28 #[.slice A n c, .int .i64 i] w fun e w' => ∃ A1 c1, e = .returned (.slice A1 (partP l i).length c1) ∧ w'.ownsRow w.heap.size 78 7 (.slice A1 (partP l i).length c1) (partP l i).length ((partP l i).flatMap Nd.cells) ∧ Below w.heap.size w w' := by
  have hl := h.length Nd.cells Nd.cells_length (by omega)
  by_cases hf : firstI l i < 0
  · have hk : partP l i = [] := by unfold partP; rw [if_pos hf]
    rw [hk]
    go_enter Try.func28, Try.ntmps28
    go_wp2_with (go_at_call 29; refine (first_any A n c l i _ h (by omega)).mono ?_; rintro e w1 ⟨rfl, rfl⟩)
    go_ret
    exact ⟨none, 0, rfl, own_new, Below.refl _ _⟩
  · have hi0 : 0 ≤ i := by unfold firstI at hf; split at hf <;> omega
    have hi1 : i < n := by unfold firstI at hf; split at hf <;> omega
    obtain ⟨i0, rfl⟩ := Int.eq_ofNat_of_zero_le hi0
    have hle := first_le l i0 hi0
    obtain ⟨f, hfe⟩ := Int.eq_ofNat_of_zero_le (show 0 ≤ firstI l (i0 : Int) by omega)
    have hplen := partP_length l i0 (by omega) (by omega)
    have hpe : partP l (i0 : Int) = (l.take (i0 + 1)).drop f := by
      unfold partP
      rw [if_neg hf, hfe, Int.toNat_natCast, Int.toNat_natCast]
    rw [hfe] at hle hplen
    have hpn : (partP l (i0 : Int)).length = i0 + 1 - f := by omega
    rw [hpn]
    rw [hpe]
    have HF := Lib.hid hfe
    have hfi : f ≤ i0 := by omega
    have hin : i0 < n := by omega
    obtain ⟨ad, hA, hcell⟩ := h.2 (by omega)
    subst hA
    have hr : Reads w 7 (some (ad.add (f * 7))) (i0 + 1 - f) (((l.take (i0 + 1)).drop f).flatMap Nd.cells) := by
      refine ⟨by rw [flat_length Nd.cells 7 Nd.cells_length, List.length_drop, List.length_take]; omega, fun hp => ⟨_, rfl, fun j u hu => ?_⟩⟩
      rw [add_of_add]
      apply hcell
      have e1 : l.flatMap Nd.cells = ((l.take (i0 + 1)).take f).flatMap Nd.cells ++ ((l.take (i0 + 1)).drop f).flatMap Nd.cells ++ (l.drop (i0 + 1)).flatMap Nd.cells := by
        rw [← List.flatMap_append, ← List.flatMap_append, List.take_append_drop, List.take_append_drop]
      have e2 : (((l.take (i0 + 1)).take f).flatMap Nd.cells).length = f * 7 := by
        rw [flat_length Nd.cells 7 Nd.cells_length, List.length_take, List.length_take]; omega
      have hj := (List.getElem?_eq_some_iff.1 hu).1
      rw [e1, List.append_assoc, List.getElem?_append_right (by rw [e2]; omega), e2, show f * 7 + j - f * 7 = j by omega, List.getElem?_append_left hj]
      exact hu
    have HL := Lib.hid hl
    have HR := Lib.hid hr
    clear hl hfe hle hplen hpe hpn hf hi0 hi1 hcell hr
    go_enter Try.func28, Try.ntmps28
    go_wp2_with fail
    refine (first_any _ n c l _ _ h (by omega)).mono ?_
    rw [HF.out]
    rintro e w1 ⟨rfl, rfl⟩
    go_wp2_with fail
    refine (clone_any _ _ _ _ _ HR.out (by omega)).mono ?_
    rintro e w2 ⟨A1, c1, rfl, HO, hb⟩
    go_wp2_with fail
    go_ret
    exact ⟨A1, c1, rfl, HO, hb⟩

set_option maxHeartbeats 1600000 in
theorem same_any (A B : Option Addr) (n m c d : Nat) (l k : List Nd) (w : World) (h : Reads w 7 A n (l.flatMap Nd.cells)) (h' : Reads w 7 B m (k.flatMap Nd.cells)) (hn : n ≤ 1000000) (hm : m ≤ 1000000) :
    Calls Try.prog 31 #[.slice A n c, .slice B m d] w fun e w' => e = .returned (.bool (sameB l k)) ∧ Below w.heap.size w w' := by
  have hl := h.length Nd.cells Nd.cells_length (by omega)
  have hk := h'.length Nd.cells Nd.cells_length (by omega)
  have HL := Lib.hid hl
  have HK := Lib.hid hk
  clear hl hk
  by_cases hnm : n = m
  · subst hnm
    go_enter Try.func31, Try.ntmps31
    go_wp2
    go_loopw [5] (fun i wr => ∃ j : Nat, i = .int .i64 j ∧ j ≤ n ∧ (∀ q, q < j → l[q]? = k[q]?) ∧ ∃ dr, wr = w.drewN dr) (fun i _ => n - (intOf i).toNat)
    case atStart => exact ⟨0, rfl, by omega, fun q hq => by omega, 0, rfl⟩
    case round =>
      obtain ⟨j, rfl, hj, hall, dr, rfl⟩ := hrel
      have HA := Lib.hid hall
      clear hall
      by_cases hlt : j < n
      · obtain ⟨ad, x, rfl, hx, c0, c1, c2, c3, c4, c5, c6⟩ := h.nd hlt
        obtain ⟨bd, y, rfl, hy, e0, e1, e2, e3, e4, e5, e6⟩ := h'.nd hlt
        have HX := Lib.hid hx
        have HY := Lib.hid hy
        clear hx hy
        have hji : (j : Int) < n := by omega
        go_wp2_with fail
        go_quiet (fail)
        go_wp2
        · go_ret
          refine ⟨ret_bool (sameB_false fun hlk => ?_).symm, bel_drewN (bel_drewN (Below.refl _ _) _) _⟩
          have hxy : x = y := by
            have := HX.out
            rw [hlk, HY.out] at this
            exact (Option.some.inj this).symm
          subst hxy
          simp_all
        · go_roundw
          case rel =>
            have hxy : x = y := by
              go_light
              apply Nd.ext_of
              grind
            refine ⟨j + 1, by go_num, by omega, fun q hq => ?_, _, rfl⟩
            rcases Nat.lt_or_ge q j with h9 | h9
            · exact HA.out q h9
            · obtain rfl : q = j := by omega
              rw [HX.out, HY.out, hxy]
          case measure => simp [intOf] <;> omega
      · go_wp2_with fail
        go_ret
        obtain rfl : j = n := by omega
        refine ⟨ret_bool ?_, bel_drewN (Below.refl _ _) _⟩
        symm
        rw [sameB_true]
        apply List.ext_getElem?
        intro q
        rcases Nat.lt_or_ge q j with hq | hq
        · exact HA.out q hq
        · rw [List.getElem?_eq_none (by rw [HL.out]; exact hq), List.getElem?_eq_none (by rw [HK.out]; exact hq)]
  · have hne : ((n : Int) != m) = true := by rw [bne_iff_ne]; omega
    go_enter Try.func31, Try.ntmps31
    go_wp2
    go_ret
    exact ⟨ret_bool (sameB_false (fun h => hnm (by rw [← HL.out, ← HK.out, h]))).symm, Below.refl _ _⟩
end Go.Proofs.Ytghkkganbhpbhaa
