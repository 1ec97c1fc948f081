/- Law TreeParts' own walk. -/
import Derived.Test.YtghkkganbhpbhaaTree10
import Derived.Test.YtghkkganbhpbhaaTree11
set_option linter.unusedVariables false
set_option linter.unusedSimpArgs false
namespace Go.Proofs.Ytghkkganbhpbhaa
open Go.RowKit Go.Proofs.Bs

theorem quiet_left {P : Program} {f : FuncId} {args : Array Value} {w : World} {n : Nat} {v : Value}
    (h : Calls P f args (w.drewN n) fun e w' => e = .returned v ∧ w.drewN n = w') : Calls P f args (w.drewN n) fun e w'' => e = .returned v ∧ ∃ m, w'' = w.drewN m :=
  h.mono fun _ _ ⟨he, hm⟩ => ⟨he, n, hm.symm⟩
theorem reads_mid {w : World} {ad : Addr} {n : Nat} {l : List Nd} (h : Reads w 7 (some ad) n (l.flatMap Nd.cells)) (f i : Nat) (hf : f ≤ i) (hi : i < n) : Reads w 7 (some (ad.add (f * 7))) (i + 1 - f) (((l.take (i + 1)).drop f).flatMap Nd.cells) := by
  have hl := h.length Nd.cells Nd.cells_length (by omega)
  obtain ⟨ad', hA, hcell⟩ := h.2 (by omega)
  injection hA with hA
  subst hA
  refine ⟨by rw [flat_length Nd.cells 7 Nd.cells_length, List.length_drop, List.length_take]; omega, fun hp => ⟨_, rfl, fun j u hu => ?_⟩⟩
  rw [add_of_add]
  apply hcell
  have e1 : l.flatMap Nd.cells = ((l.take (i + 1)).take f).flatMap Nd.cells ++ ((l.take (i + 1)).drop f).flatMap Nd.cells ++ (l.drop (i + 1)).flatMap Nd.cells := by
    rw [← List.flatMap_append, ← List.flatMap_append, List.take_append_drop, List.take_append_drop]
  have e2 : (((l.take (i + 1)).take f).flatMap Nd.cells).length = f * 7 := by
    rw [flat_length Nd.cells 7 Nd.cells_length, List.length_take, List.length_take]; omega
  have hj := (List.getElem?_eq_some_iff.1 hu).1
  rw [e1, List.append_assoc, List.getElem?_append_right (by rw [e2]; omega), e2, show f * 7 + j - f * 7 = j by omega, List.getElem?_append_left hj]
  exact hu
theorem Reads.drewN {w : World} {size : Nat} {A : Option Addr} {n : Nat} {xs : List Value} (h : Reads w size A n xs) (k : Nat) : Reads (w.drewN k) size A n xs := h
theorem bel_self_drewN (w : World) (n : Nat) : Below w.heap.size w (w.drewN n) := bel_drewN (Below.refl _ _) n
theorem kidsP_out (l : List Nd) (i : Int) (h : firstI l i < 0) : kidsP l i = [] := by unfold kidsP; rw [if_pos h]
theorem partP_out (l : List Nd) (i : Int) (h : firstI l i < 0) : partP l i = [] := by unfold partP; rw [if_pos h]

set_option maxHeartbeats 6400000 in
set_option maxRecDepth 100000 in
theorem treeParts_any (A : Option Addr) (n c : Nat) (l : List Nd) (at_ : Int) (w : World) (h : Reads w 7 A n (l.flatMap Nd.cells)) (hnc : n ≤ c) (hc : n ≤ 140737488351232) :
    Calls Try.prog 5 #[.slice A n c, .int .i64 at_] w fun e w' => e = .returned (.bool true) ∧ Below w.heap.size w w' := by
  obtain ⟨m, hm, hm60⟩ : ∃ m : Nat, (m = 60 ∧ 60 < n ∨ m = n ∧ n ≤ 60) ∧ m ≤ 60 := by
    rcases Nat.lt_or_ge 60 n with h | h
    · exact ⟨60, .inl ⟨rfl, h⟩, by omega⟩
    · exact ⟨n, .inr ⟨rfl, h⟩, h⟩
  obtain ⟨l', hl', hr⟩ : ∃ l' : List Nd, l'.length = m ∧ Reads w 7 A m (l'.flatMap Nd.cells) := by
    have hmn : m ≤ n := by omega
    have := h.take Nd.cells Nd.cells_length (by omega) m hmn
    exact ⟨_, this.length Nd.cells Nd.cells_length (by omega), this⟩
  clear h
  have HL := Lib.hid hl'
  clear hl'
  have hmc : m ≤ c := by omega
  rcases hm with ⟨hm, hlt⟩ | ⟨hm, hlt⟩
  all_goals
    have HM := Lib.hid hm
    subst hm
    go_enter Try.func5, Try.ntmps5
    go_wp2_with fail
    refine (awake_any _).mono ?_
    rintro e w1 ⟨rfl, hb1⟩
    have hr1 := hr.below hb1
    go_wp2_with fail
    refine (rfirsts_any A _ c l' _ hr1 (by omega)).mono ?_
    rintro e w2 ⟨Af, cf, rfl, HOf, hb2⟩
    have hr2 := hr1.below hb2
    have hb02 := bel_then hb1 hb2
    have hrf := Reads.of_own HOf
    clear HOf
    go_wp2_with fail
    have hl1 := Nat.le_of_eq HL.out
    have hl2 := Nat.le_of_eq HL.out.symm
    go_loopw [6, 7, 8, 9, 10] (fun i k_ p_ w_ j_ wr => ∃ q : Nat, i = .int .i64 q ∧ q ≤ l'.length ∧ Below w2.heap.size w2 wr) (fun i _ _ _ _ _ => l'.length - (intOf i).toNat)
    case atStart => exact ⟨0, rfl, by omega, Below.refl _ _⟩
    case round =>
      obtain ⟨q, rfl, hq, hb⟩ := hrel
      obtain ⟨wo, rfl⟩ : ∃ wo : World, wo = wr := ⟨_, rfl⟩
      by_cases hql : q < l'.length
      · have hr3 := hr2.below hb
        have hrf3 := hrf.below hb
        go_wp2_with fail
        refine (kids_any A _ c l' _ _ hr3 (by omega)).mono ?_
        rintro e w3 ⟨kA, kc, rfl, HOk, hb3⟩
        have hr4 := hr3.below hb3
        have hrf4 := hrf3.below hb3
        have hk3 := Reads.of_own HOk
        go_wp2_with fail
        refine (part_any A _ c l' _ _ hr4 (by omega) (by omega)).mono ?_
        rintro e w4 ⟨pA, pc, rfl, HOp, hb4⟩
        have hr5 := hr4.below hb4
        have hrf5 := hrf4.below hb4
        have hk4 := hk3.below hb4
        have hp4 := Reads.of_own HOp
        have hb34 := bel_then (bel_then hb hb3) hb4
        clear HOk HOp hr3 hr4 hrf3 hrf4 hk3 hb3 hb4
        obtain ⟨adf, y, hAf, hy, cy⟩ := hrf5.int (show q < _ by omega)
        subst hAf
        have hyf : y = fst1 l' q := by rw [firstsTo_at l' _ q (by omega)] at hy; injection hy with hy; exact hy.symm
        have hfe : firstI l' (q : Int) = y := by rw [hyf]; exact first_eq l' q hql
        have hne : (firstI l' (q : Int) != y) = false := by simp [hfe]
        have hqi : (q : Int) < l'.length := by omega
        have HY := Lib.hid hyf
        have HFE := Lib.hid hfe
        clear hy hyf hfe
        generalize hks : kidsP l' (q : Int) = ks at hk4 ⊢
        generalize hps : partP l' (q : Int) = ps at hp4 ⊢
        have HKS := Lib.hid hks
        have HPS := Lib.hid hps
        clear hks hps
        go_wp2_with fail
        by_cases hy0 : y < 0
        · have e1 : ks = [] := by rw [← HKS.out]; exact kidsP_out _ _ (by rw [HFE.out]; exact hy0)
          have e2 : ps = [] := by rw [← HPS.out]; exact partP_out _ _ (by rw [HFE.out]; exact hy0)
          have l1 : ks.length ≤ 0 := by rw [e1]; simp
          have l2 : ps.length ≤ 0 := by rw [e2]; simp
          clear e1 e2
          go_quiet ((go_at_call 29; exact quiet_left (first_any A _ c l' _ _ (hr5.drewN _) (by omega))))
          go_wp2
          go_roundw
          case rel => exact ⟨q + 1, by go_num, by omega, bel_drewN hb34 _⟩
          case measure => simp [intOf] <;> omega
        · obtain ⟨f, rfl⟩ := Int.eq_ofNat_of_zero_le (show 0 ≤ y by omega)
          have hfq : f ≤ q := by have := fst1_range l' q; have := HY.out; omega
          have hff : 0 ≤ fst1 l' q := by have := HY.out; omega
          obtain ⟨ad0, hA0, _⟩ := hr5.2 (by omega)
          subst hA0
          have hmid := reads_mid hr5 f q hfq (by omega)
          have hpe : ps = (l'.take (q + 1)).drop f := by
            rw [← HPS.out]
            unfold partP
            rw [HFE.out, if_neg (by omega), Int.toNat_natCast, Int.toNat_natCast]
          have hps1 : ps.length ≤ 60 := by rw [hpe, List.length_drop, List.length_take]; omega
          have HPE := Lib.hid hpe
          have HFF := Lib.hid hff
          have hk2 : ks.length ≤ 2 := by rw [← HKS.out]; exact kidsP_len _ _
          clear hpe hff
          go_quiet ((go_at_call 29; exact quiet_left (first_any (some ad0) _ c l' _ _ (hr5.drewN _) (by omega))))
          go_wp2_with fail
          refine (rkids_any (some ad0) _ c l' q _ (hr5.drewN _) (by omega) (by omega) HFF.out).mono ?_
          rw [HKS.out]
          rintro e w5 ⟨wA, wc, rfl, HOw, hb5⟩
          have cy5 := cell_below hb5 (show (w4.drewN nq).cell? (adf.add q) = some (.int .i64 (f : Int)) from cy)
          have hk5 := (hk4.drewN nq).below hb5
          have hp5 := (hp4.drewN nq).below hb5
          have hm5 := (hmid.drewN nq).below hb5
          have hb05 := bel_then (bel_drewN hb34 nq) hb5
          have hw5 := Reads.of_own HOw
          clear HOw hb34 hb5 hk4 hp4 hmid cy
          go_wp2_with fail
          refine (same_any pA _ _ _ pc _ ps _ _ hp5 hm5 (by omega) (by omega)).mono ?_
          rw [← HPE.out, sameB_self]
          rintro e w6 ⟨rfl, hb6⟩
          have hk6 := hk5.below hb6
          have hw6 := hw5.below hb6
          have hb06 := bel_then hb05 hb6
          clear hk5 hw5 hb05 hb6 hp5 hm5 cy5
          go_wp2_with fail
          go_loopw [10] (fun j_ wr => ∃ j : Nat, j_ = .int .i64 j ∧ j ≤ ks.length ∧ ∃ dr, wr = w6.drewN dr) (fun j_ _ => ks.length - (intOf j_).toNat)
          case atStart => exact ⟨0, rfl, by omega, 0, rfl⟩
          case round =>
            obtain ⟨j, rfl, hj, dr, rfl⟩ := hrel
            by_cases hjl : j < ks.length
            · obtain ⟨kd, y1, rfl, hy1, cy1⟩ := hk6.int hjl
              obtain ⟨wd, y2, rfl, hy2, cy2⟩ := hw6.int hjl
              obtain rfl : y1 = y2 := by rw [hy1] at hy2; injection hy2
              have hji : (j : Int) < ks.length := by omega
              clear hy1 hy2
              go_wp2_with fail
              go_quiet (fail)
              go_wp2
              go_roundw
              case rel => exact ⟨j + 1, by go_num, by omega, _, rfl⟩
              case measure => simp [intOf] <;> omega
            · go_wp2_with fail
              go_roundw
              case rel => exact ⟨q + 1, by go_num, by omega, bel_drewN hb06 _⟩
              case measure => simp [intOf] <;> omega
      · by_cases hat : 0 ≤ at_ ∧ at_ < l'.length
        · obtain ⟨ha0, ha1⟩ := hat
          go_wp2_with fail
          go_ret
          exact ⟨rfl, bel_then hb02 hb⟩
        · have hr3 := hr2.below hb
          have hout : firstI l' at_ = -1 := by unfold firstI; rw [if_pos (by omega)]
          have e1 : kidsP l' at_ = [] := kidsP_out _ _ (by omega)
          have e2 : partP l' at_ = [] := partP_out _ _ (by omega)
          have HE1 := Lib.hid e1
          have HE2 := Lib.hid e2
          have HO := Lib.hid hout
          clear e1 e2 hout
          rcases (show at_ < 0 ∨ 0 ≤ at_ ∧ (l'.length : Int) ≤ at_ by omega) with h9 | ⟨h9, h8⟩
          all_goals
            clear hat
            go_wp2_with fail
            refine (first_any A _ c l' _ _ hr3 (by omega)).mono ?_
            rw [HO.out]
            rintro e w3 ⟨rfl, rfl⟩
            go_wp2_with fail
            refine (kids_any A _ c l' _ _ hr3 (by omega)).mono ?_
            rw [HE1.out]
            rintro e w3 ⟨kA, kc, rfl, HOk, hb3⟩
            have hr4 := hr3.below hb3
            go_wp2_with fail
            refine (part_any A _ c l' _ _ hr4 (by omega) (by omega)).mono ?_
            rw [HE2.out]
            rintro e w4 ⟨pA, pc, rfl, HOp, hb4⟩
            go_wp2_with fail
            go_ret
            exact ⟨rfl, bel_then (bel_then (bel_then hb02 hb) hb3) hb4⟩

end Go.Proofs.Ytghkkganbhpbhaa
