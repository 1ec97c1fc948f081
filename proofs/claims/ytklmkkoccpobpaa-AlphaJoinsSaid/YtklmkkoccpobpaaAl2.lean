/- The walks of the document's answer for classes: Join, Firsts. -/
import Derived.Test.YtklmkkoccpobpaaAl1
set_option linter.unusedVariables false
set_option linter.unusedSimpArgs false
namespace Go.Proofs.Ytklmkkoccpobpaa
open Go.RowKit

theorem map_at {l : List (Int × Int)} {g : Int × Int → Int} {k : Nat} {x : Int} (h : (l.map g)[k]? = some x) : ∃ p, l[k]? = some p ∧ x = g p := by
  simp only [List.getElem?_map, Option.map_eq_some_iff] at h
  obtain ⟨y, h1, h2⟩ := h
  exact ⟨y, h1, h2.symm⟩

set_option maxHeartbeats 3200000 in
theorem rjoin_any (A B : Option Addr) (n c d : Nat) (l : List (Int × Int)) (w : World) (h : Reads w 1 A n (ints (l.map Prod.fst))) (h' : Reads w 1 B n (ints (l.map Prod.snd))) (hn : n ≤ 1000000) :
    Calls Try.prog 11 #[.slice A n c, .slice B n d] w fun e w' => ∃ A1 c1, e = .returned (.tuple #[.slice A1 n c1, .int .i64 ((Al.run l).1.length : Nat)]) ∧ w'.ownsRow w.heap.size 3 1 (.slice A1 n c1) n (ints (casts (Al.run l).2)) ∧ Below w.heap.size w w' := by
  have hl : l.length = n := by have := h.1; rw [ints_length, List.length_map] at this; omega
  have HL := Lib.hid hl
  clear hl
  go_enter Try.func11, Try.ntmps11
  go_wp2
  go_loopw [6, 7, 8, 9] (fun o i _ _ wr => ∃ (A1 : Option Addr) (c1 q : Nat), o = .slice A1 q c1 ∧ wr.ownsRow w.heap.size 3 1 (.slice A1 q c1) q (ints (casts (Al.firsts (l.take q)))) ∧ i = .int .i64 q ∧ q ≤ n ∧ Below w.heap.size w wr) (fun _ i _ _ _ => n - (intOf i).toNat)
  case atStart => exact ⟨none, 0, 0, rfl, own_new, rfl, by omega, Below.refl _ _⟩
  case round =>
    obtain ⟨A1, c1, q, rfl, HO, rfl, hq, hb⟩ := hrel
    by_cases hlt : q < n
    · obtain ⟨ad, x0, rfl, hx, cx⟩ := (h.below hb).int hlt
      obtain ⟨bd, y0, rfl, hy, cy⟩ := (h'.below hb).int hlt
      obtain ⟨p, hp, rfl⟩ := map_at hx
      obtain ⟨p', hp', rfl⟩ := map_at hy
      obtain rfl : p = p' := Option.some.inj (hp.symm.trans hp')
      have hft := Al.firsts_take hp
      have hsz := Al.scanAt_zero (l.take q) p
      have hse := Al.scanAt_end (l.take q) p
      have htl : (l.take q).length = q := by rw [List.length_take, HL.out]; omega
      rw [htl] at hse
      have HP := Lib.hid hp
      have HFT := Lib.hid hft
      have HSE := Lib.hid hse
      have HTL := Lib.hid htl
      have ha := h.below hb
      have hb' := h'.below hb
      clear hx hy hp hp' hft hsz hse htl
      go_wp2_with fail
      go_loopw [8, 9] (fun a_ k_ wx => ∃ j s : Nat, j ≤ q ∧ s ≤ q ∧ k_ = .int .i64 ((j : Int) - 1) ∧ a_ = .int .i64 s ∧ s = Al.scanAt (l.take q) p j ∧ ∃ dr, wx = wr.drewN dr) (fun _ k_ _ => ((intOf k_) + 1).toNat)
      case atStart => exact ⟨q, q, by omega, by omega, by first | rfl | go_num, rfl, HSE.out.symm, 0, rfl⟩
      case round =>
        obtain ⟨j, s, hj, hsq, rfl, rfl, hs, dr, rfl⟩ := hrel
        have HS := Lib.hid hs
        clear hs
        rcases j with _ | j
        · go_wp2_with (at_builtin; refine app_lit rfl (.tmp 44) (.tmp 46) 22 rfl w.heap.size 3 Try.underlying22 info_int rfl (by omega) (by omega) _ q (ints (casts (Al.firsts (l.take q)))) rfl HO [.int .i64 _] 1 1 rfl rfl rfl (by omega) (bel_drewN hb _) (Nat.le_refl _) hb.size ?_; intro A3 c3 w3 HO3 hg3 hb3)
          go_roundw
          case rel =>
            refine ⟨A3, c3, q + 1, rfl, ?_, by go_num, by omega, hb3⟩
            rw [HFT.out, ints_casts, ← HS.out]
            exact HO3
          case measure => simp [intOf] <;> omega
        · obtain ⟨ad1, x1, had, hx1, cx1⟩ := ha.int (show j < n by omega)
          injection had with had
          subst had
          obtain ⟨bd1, y1, hbd, hy1, cy1⟩ := hb'.int (show j < n by omega)
          injection hbd with hbd
          subst hbd
          obtain ⟨r, hr, rfl⟩ := map_at hx1
          obtain ⟨r', hr', rfl⟩ := map_at hy1
          obtain rfl : r = r' := Option.some.inj (hr.symm.trans hr')
          have hst := Al.scanAt_step (l := l.take q) (p := p) (j := j) (x := r) (by rw [List.getElem?_take, if_pos (by omega)]; exact hr)
          have HST := Lib.hid hst
          have hjn : (j : Int) < n := by omega
          have e1 : ((j + 1 : Nat) : Int) - 1 = j := by omega
          clear hx1 hy1 hr hr' hst
          rcases p with ⟨px, py⟩
          rcases r with ⟨rx, ry⟩
          rw [e1]
          clear e1
          rcases (show (rx = px ∧ ry = py) ∨ (rx = px ∧ ry < py) ∨ (rx = px ∧ py < ry) ∨ rx < px ∨ px < rx by omega) with ⟨e2, e3⟩ | ⟨e2, e3⟩ | ⟨e2, e3⟩ | e2 | e2
          case inl =>
            subst e2 e3
            go_wp2_with fail
            go_quiet (fail)
            go_wp2
            go_roundw
            case rel =>
              refine ⟨j, j, by omega, by omega, by go_num, rfl, ?_, _, rfl⟩
              rw [HST.out]; simp
            case measure => simp [intOf] <;> omega
          case inr.inl =>
            subst e2
            have n1 : ¬ (ry = py) := by omega
            go_wp2_with fail
            go_quiet (fail)
            go_wp2
            go_roundw
            case rel =>
              refine ⟨j, s, by omega, by omega, by go_num, rfl, ?_, _, rfl⟩
              rw [HST.out, if_neg (fun k => by injection k with k1 k2; omega)]
              exact HS.out
            case measure => simp [intOf] <;> omega
          case inr.inr.inl =>
            subst e2
            have n1 : ¬ (ry = py) := by omega
            go_wp2_with fail
            go_quiet (fail)
            go_wp2
            go_roundw
            case rel =>
              refine ⟨j, s, by omega, by omega, by go_num, rfl, ?_, _, rfl⟩
              rw [HST.out, if_neg (fun k => by injection k with k1 k2; omega)]
              exact HS.out
            case measure => simp [intOf] <;> omega
          all_goals
            have n1 : (rx == px) = false := by rw [beq_eq_false_iff_ne]; omega
            have n2 : decide (rx = px) = false := by rw [decide_eq_false_iff_not]; omega
            have n3 : ¬ (rx = px) := by omega
            go_wp2_with fail
            go_quiet (fail)
            go_wp2
            go_roundw
            case rel =>
              refine ⟨j, s, by omega, by omega, by go_num, rfl, ?_, _, rfl⟩
              rw [HST.out, if_neg (fun k => by injection k with k1 k2; omega)]
              exact HS.out
            case measure => simp [intOf] <;> omega
    · obtain rfl : q = n := by omega
      go_wp2_with fail
      have e : l.take q = l := List.take_of_length_le (by rw [HL.out]; omega)
      rw [e] at HO
      refine (number_any A1 q c1 (Al.firsts l) _ (Reads.of_own HO) (by omega) ?_).mono ?_
      · intro a f hf
        exact Al.firsts_le hf
      · rw [Al.number_firsts]
        rintro e w2 ⟨A2, c2, rfl, HO2, hb2⟩
        go_wp2_with fail
        go_ret2
        exact ⟨A2, c2, rfl, own_mono HO2 hb.size, bel_then hb hb2⟩

set_option maxHeartbeats 3200000 in
theorem rfirsts_any (A : Option Addr) (n c : Nat) (l : List Int) (k : Int) (w : World) (h : Reads w 1 A n (ints l)) (hn : n ≤ 1000000) (hk0 : -9223372036854775808 ≤ k) (hk : k ≤ 9223372036854775807) :
    Calls Try.prog 10 #[.slice A n c, .int .i64 k] w fun e w' => ∃ A1 c1, e = .returned (.slice A1 (min k.toNat 259) c1) ∧ w'.ownsRow w.heap.size 3 1 (.slice A1 (min k.toNat 259) c1) (min k.toNat 259) (ints (Al.firstsRow (min k.toNat 259) l)) ∧ Below w.heap.size w w' := by
  have hl : l.length = n := by have := h.1; rw [ints_length] at this; omega
  have HL := Lib.hid hl
  clear hl
  generalize hM : min k.toNat 259 = M
  have hM1 : M ≤ 259 := by omega
  have hM2 : M ≤ k.toNat := by omega
  have hM3 : M = k.toNat ∨ M = 259 := by omega
  have hM4 : (M : Int) ≤ k ∨ M = 0 := by omega
  have hM5 : M < 259 → k ≤ M := by omega
  clear hM
  go_enter Try.func10, Try.ntmps10
  go_wp2
  go_loopw [5, 6, 7, 8] (fun o c_ _ _ wr => ∃ (A1 : Option Addr) (c1 q : Nat), o = .slice A1 q c1 ∧ wr.ownsRow w.heap.size 3 1 (.slice A1 q c1) q (ints (Al.firstsRow q l)) ∧ c_ = .int .i64 q ∧ q ≤ M ∧ Below w.heap.size w wr) (fun _ c_ _ _ _ => M - (intOf c_).toNat)
  case atStart => exact ⟨none, 0, 0, rfl, own_new, rfl, by omega, Below.refl _ _⟩
  case round =>
    obtain ⟨A1, c1, q, rfl, HO, rfl, hq, hb⟩ := hrel
    by_cases hlt : q < M
    · have c1_ : (q : Int) < k := by omega
      have c2_ : (q : Int) < 259 := by omega
      have ha := h.below hb
      go_wp2_with fail
      go_loop [7, 8] (fun a_ i_ => ∃ (j : Nat) (s : Int), j ≤ n ∧ i_ = .int .i64 ((j : Int) - 1) ∧ a_ = .int .i64 s ∧ s = Al.downAt l q j) (fun _ i_ => ((intOf i_) + 1).toNat)
      case atStart => exact ⟨n, -1, by omega, by first | rfl | go_num, rfl, by rw [← HL.out, Al.downAt_end]⟩
      case round =>
        obtain ⟨j, s, hj, rfl, rfl, hs⟩ := hrel
        have HS := Lib.hid hs
        clear hs
        rcases j with _ | j
        · go_wp2_with (at_builtin; refine app_lit rfl (.tmp 32) (.tmp 34) 22 rfl w.heap.size 3 Try.underlying22 info_int rfl (by omega) (by omega) _ q (ints (Al.firstsRow q l)) rfl HO [.int .i64 _] 1 1 rfl rfl rfl (by omega) hb (Nat.le_refl _) hb.size ?_; intro A3 c3 w3 HO3 hg3 hb3)
          go_roundw
          case rel =>
            refine ⟨A3, c3, q + 1, rfl, ?_, by go_num, by omega, hb3⟩
            rw [Al.firstsRow_snoc, ← Al.downAt_zero, ← HS.out]
            simpa [ints] using HO3
          case measure => simp [intOf] <;> omega
        · obtain ⟨ad, x, rfl, hx, cx⟩ := ha.int (show j < n by omega)
          have hst := Al.downAt_step (c := q) hx
          have HST := Lib.hid hst
          have e1 : ((j + 1 : Nat) : Int) - 1 = j := by omega
          clear hx hst
          rw [e1]
          clear e1
          rcases (show x = q ∨ x < q ∨ q < x by omega) with e2 | e2 | e2
          case inl =>
            subst e2
            go_wp2_with fail
            go_round
            case rel =>
              refine ⟨j, j, by omega, by go_num, rfl, ?_⟩
              rw [HST.out]; simp
            case measure => simp [intOf] <;> omega
          all_goals
            have n1 : (x == (q : Int)) = false := by rw [beq_eq_false_iff_ne]; omega
            have n2 : decide (x = (q : Int)) = false := by rw [decide_eq_false_iff_not]; omega
            have n3 : ¬ (x = (q : Int)) := by omega
            go_wp2_with fail
            go_round
            case rel =>
              refine ⟨j, s, by omega, by go_num, rfl, ?_⟩
              rw [HST.out, if_neg (by omega)]
              exact HS.out
            case measure => simp [intOf] <;> omega
    · obtain rfl : q = M := by omega
      by_cases c1_ : q < 259
      · have c2_ : k ≤ q := hM5 c1_
        have c3_ : ¬ ((q : Int) < k) := by omega
        go_wp2_with fail
        go_ret
        exact ⟨A1, c1, rfl, HO, hb⟩
      · obtain rfl : q = 259 := by omega
        by_cases c2_ : (259 : Int) < k
        · go_wp2_with fail
          go_ret
          exact ⟨A1, c1, rfl, HO, hb⟩
        · go_wp2_with fail
          go_ret
          exact ⟨A1, c1, rfl, HO, hb⟩
end Go.Proofs.Ytklmkkoccpobpaa
