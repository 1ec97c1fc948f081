/- Law TreeWhole's own walk. -/
import Derived.Test.YtghkkganbhpbhaaTree10
import Derived.Test.YtghkkganbhpbhaaTree11
import Derived.Test.YtghkkganbhpbhaaTreePure3
set_option linter.unusedVariables false
set_option linter.unusedSimpArgs false
namespace Go.Proofs.Ytghkkganbhpbhaa
open Go.RowKit Go.Proofs.Bs

set_option maxHeartbeats 6400000 in
set_option maxRecDepth 100000 in
theorem treeWhole_any (A : Option Addr) (n c : Nat) (l : List Nd) (w : World) (h : Reads w 7 A n (l.flatMap Nd.cells)) (hnc : n ≤ c) (hc : n ≤ 140737488351232) :
    Calls Try.prog 6 #[.slice A n c] w fun e w' => e = .returned (.bool true) ∧ Below w.heap.size w w' := by
  obtain ⟨m, hm, hm60⟩ : ∃ m : Nat, (m = 60 ∧ 60 < n ∨ m = n ∧ n ≤ 60) ∧ m ≤ 60 := by
    rcases Nat.lt_or_ge 60 n with h | h
    · exact ⟨60, .inl ⟨rfl, h⟩, by omega⟩
    · exact ⟨n, .inr ⟨rfl, h⟩, h⟩
  obtain ⟨l', hl', hr⟩ : ∃ l' : List Nd, l'.length = m ∧ Reads w 7 A m (l'.flatMap Nd.cells) := by
    have hmn : m ≤ n := by omega
    have := h.take Nd.cells Nd.cells_length (by omega) m hmn
    exact ⟨_, this.length Nd.cells Nd.cells_length (by omega), this⟩
  clear h
  have HL := Lib.hid hl'
  clear hl'
  have hmc : m ≤ c := by omega
  rcases Bool.eq_false_or_eq_true (rightB l') with hR | hR
  · have hpos : 0 < m := by have := ((rightB_iff l').1 hR).2.2.1; rw [HL.out] at this; exact this
    have HR := Lib.hid hR
    clear hR
    rcases hm with ⟨hm, hlt⟩ | ⟨hm, hlt⟩
    all_goals
      have HM := Lib.hid hm
      subst hm
      go_enter Try.func6, Try.ntmps6
      go_wp2_with fail
      refine (awake_any _).mono ?_
      rintro e w1 ⟨rfl, hb1⟩
      have hr1 := hr.below hb1
      go_wp2_with fail
      refine (right_any A _ c l' _ hr1 (by omega)).mono ?_
      rw [HR.out]
      rintro e w2 ⟨rfl, hb2⟩
      have hr2 := hr1.below hb2
      have hb02 := bel_then hb1 hb2
      go_wp2_with fail
      have hl1 := Nat.le_of_eq HL.out
      have hl2 := Nat.le_of_eq HL.out.symm
      go_loopw [3, 4, 5, 6, 7] (fun i p_ k_ m_ j_ wr => ∃ q : Nat, i = .int .i64 q ∧ q ≤ l'.length ∧ Below w2.heap.size w2 wr) (fun i _ _ _ _ _ => l'.length - (intOf i).toNat)
      case atStart => exact ⟨0, rfl, by omega, Below.refl _ _⟩
      case round =>
        obtain ⟨q, rfl, hq, hb⟩ := hrel
        obtain ⟨wo, rfl⟩ : ∃ wo : World, wo = wr := ⟨_, rfl⟩
        by_cases hql : q < l'.length
        · have hr3 := hr2.below hb
          have hpt := part_tree l' HR.out q hql
          have hlk := lens_kids l' HR.out q hql
          have hplen := hpt.2.2
          have hf0 := (fst1_range l' q).1
          have hpl1 : (partP l' q).length ≤ 61 := by omega
          have hkok := kidsP_ok l' q hql ((((rightB_iff l').1 HR.out).2.1 q hql).1)
          have hPR := Lib.hid hpt.1
          have hdd := hpt.2.1
          have HLK := Lib.hid hlk
          have HKO := Lib.hid hkok
          clear hpt hlk hplen hf0 hkok
          generalize hps : partP l' (q : Int) = ps at hpl1 hPR hdd HLK
          generalize hks : kidsP l' (q : Int) = ks at HLK HKO
          have hk2 : ks.length ≤ 2 := by rw [← hks]; exact kidsP_len _ _
          have HPS := Lib.hid hps
          have HKS := Lib.hid hks
          clear hps hks
          go_wp2_with fail
          refine (part_any A _ c l' _ _ hr3 (by omega) (by omega)).mono ?_
          rw [HPS.out]
          rintro e w3 ⟨pA, pc, rfl, HOp, hb3⟩
          have hr4 := hr3.below hb3
          have hp3 := Reads.of_own HOp
          go_wp2_with fail
          refine (kids_any A _ c l' _ _ hr4 (by omega)).mono ?_
          rw [HKS.out]
          rintro e w4 ⟨kA, kc, rfl, HOk, hb4⟩
          have hr5 := hr4.below hb4
          have hp4 := hp3.below hb4
          have hk4 := Reads.of_own HOk
          have hb04 := bel_then (bel_then hb hb3) hb4
          clear HOk HOp hr3 hr4 hp3 hb3 hb4
          go_wp2_with fail
          go_loopw [6, 7] (fun m_ j_ wr => ∃ (mv : Int) (j : Nat), m_ = .int .i64 mv ∧ j_ = .int .i64 j ∧ j ≤ ks.length ∧ 0 ≤ mv ∧ mv ≤ 1 + 61 * j ∧ mv + lens l' (ks.drop j) = 1 + lens l' ks ∧ Below w4.heap.size w4 wr) (fun _ j_ _ => ks.length - (intOf j_).toNat)
          case atStart => exact ⟨1, 0, rfl, rfl, by omega, by omega, by omega, rfl, Below.refl _ _⟩
          case round =>
            obtain ⟨mv, j, rfl, rfl, hj, hm0, hm1, hsum, hbb⟩ := hrel
            have HS := Lib.hid hsum
            clear hsum
            by_cases hjl : j < ks.length
            · obtain ⟨kd, y1, rfl, hy1, cy1⟩ := (hk4.below hbb).int hjl
              have hyk := HKO.out y1 (List.mem_of_getElem? hy1)
              obtain ⟨yn, rfl⟩ := Int.eq_ofNat_of_zero_le hyk.1
              have hylen := partP_length l' yn (by omega) (by rw [first_eq l' yn (by omega)]; have := hyk.2.2; rw [Int.toNat_natCast] at this; exact this)
              have hfy := (first_range l' (yn : Int)).1
              have hyl : (partP l' (yn : Int)).length ≤ 61 := by omega
              have HY1 := Lib.hid hy1
              clear hy1 hylen hyk hfy
              go_wp2_with fail
              refine (part_any A _ c l' _ _ (hr5.below hbb) (by omega) (by omega)).mono ?_
              generalize hpy : (partP l' (yn : Int)).length = py at hyl ⊢
              have HPY := Lib.hid hpy
              clear hpy
              rintro e w5 ⟨qA, qc, rfl, HOq, hb5⟩
              go_wp2_with fail
              go_roundw
              case rel =>
                refine ⟨mv + py, j + 1, rfl, by go_num, by omega, by omega, by omega, ?_, bel_then hbb hb5⟩
                rw [← HS.out, drop_get HY1.out]
                unfold lens
                rw [List.map_cons, List.sum_cons, HPY.out]
                omega
              case measure => simp [intOf] <;> omega
            · have hmv : mv = ps.length := by
                have := HS.out
                rw [List.drop_eq_nil_of_le (by omega)] at this
                have h2 := HLK.out
                simp only [lens, List.map_nil, List.sum_nil] at this
                unfold lens at h2
                omega
              have hne : (mv != (ps.length : Int)) = false := by simp [hmv]
              have hr6 := hr5.below hbb
              have hp6 := hp4.below hbb
              have hb06 := bel_then hb04 hbb
              have HMV := Lib.hid hmv
              clear hmv hr5 hp4 hbb
              go_wp2_with fail
              refine (right_any pA _ pc ps _ hp6 (by omega)).mono ?_
              rw [hPR.out]
              rintro e w5 ⟨rfl, hb5⟩
              have hr7 := hr6.below hb5
              have hp7 := hp6.below hb5
              have hb07 := bel_then hb06 hb5
              go_wp2_with fail
              refine (depth_yes pA _ pc ps _ hp7 (by omega) hPR.out).mono ?_
              rintro e w6 ⟨rfl, hb6⟩
              have hr8 := hr7.below hb6
              have hb08 := bel_then hb07 hb6
              go_wp2_with fail
              refine (depth_yes A _ c l' _ hr8 (by omega) HR.out).mono ?_
              rintro e w7 ⟨rfl, hb7⟩
              go_wp2_with fail
              go_roundw
              case rel => exact ⟨q + 1, by go_num, by omega, bel_then hb08 hb7⟩
              case measure => simp [intOf] <;> omega
        · have hr3 := hr2.below hb
          have hpw := part_whole l' HR.out
          rw [show ((l'.length - 1 : Nat) : Int) = (l'.length : Int) - 1 by omega, HL.out] at hpw
          try rw [show (((60 : Nat) : Int) - 1) = 59 from rfl] at hpw
          have HPW := Lib.hid hpw
          clear hpw
          go_wp2_with fail
          refine (part_any A _ c l' _ _ hr3 (by omega) (by omega)).mono ?_
          rw [HPW.out]
          rintro e w3 ⟨pA, pc, rfl, HOp, hb3⟩
          go_wp2_with fail
          go_ret
          exact ⟨by simp, bel_then (bel_then hb02 hb) hb3⟩
  · have HR := Lib.hid hR
    clear hR
    rcases hm with ⟨hm, hlt⟩ | ⟨hm, hlt⟩
    all_goals
      have HM := Lib.hid hm
      subst hm
      go_enter Try.func6, Try.ntmps6
      go_wp2_with fail
      refine (awake_any _).mono ?_
      rintro e w1 ⟨rfl, hb1⟩
      have hr1 := hr.below hb1
      go_wp2_with fail
      refine (right_any A _ c l' _ hr1 (by omega)).mono ?_
      rw [HR.out]
      rintro e w2 ⟨rfl, hb2⟩
      have hr2 := hr1.below hb2
      have hb02 := bel_then hb1 hb2
      go_wp2_with fail
      refine (depth_no A _ c l' _ hr2 (by omega) HR.out).mono ?_
      rintro e w3 ⟨rfl, hb3⟩
      go_wp2_with fail
      go_ret
      exact ⟨rfl, bel_then hb02 hb3⟩

end Go.Proofs.Ytghkkganbhpbhaa
