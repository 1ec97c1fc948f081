/- The walks of the document's answer for classes: Same, Number, Join, Firsts. -/
import Derived.Test.YtklmkkoccpobpaaCore
import Derived.Test.YtklmkkoccpobpaaAlPure
set_option linter.unusedVariables false
set_option linter.unusedSimpArgs false
namespace Go.Proofs.Ytklmkkoccpobpaa
open Go.RowKit

def casts (l : List Nat) : List Int := l.map Int.ofNat
theorem casts_length (l : List Nat) : (casts l).length = l.length := by simp [casts]
theorem casts_at {l : List Nat} {k : Nat} {x : Int} (h : (casts l)[k]? = some x) : ∃ y : Nat, l[k]? = some y ∧ x = y := by
  simp only [casts, List.getElem?_map, Option.map_eq_some_iff] at h
  obtain ⟨y, h1, h2⟩ := h
  exact ⟨y, h1, h2.symm⟩
theorem ints_casts (l : List Nat) (x : Nat) : ints (casts (l ++ [x])) = ints (casts l) ++ [.int .i64 (x : Int)] := by simp [ints, casts]

set_option maxHeartbeats 1600000 in
theorem isame_any (A B : Option Addr) (n m c d : Nat) (l k : List Int) (w : World) (h : Reads w 1 A n (ints l)) (h' : Reads w 1 B m (ints k)) (hn : n ≤ 1000000) (hm : m ≤ 1000000) :
    Calls Try.prog 8 #[.slice A n c, .slice B m d] w fun e w' => e = .returned (.bool (decide (l = k))) ∧ Below w.heap.size w w' := by
  have hl : l.length = n := by have := h.1; rw [ints_length] at this; omega
  have hk : k.length = m := by have := h'.1; rw [ints_length] at this; omega
  have HL := Lib.hid hl
  have HK := Lib.hid hk
  clear hl hk
  by_cases hnm : n = m
  · subst hnm
    go_enter Try.func8, Try.ntmps8
    go_wp2
    go_loopw [5] (fun i wr => ∃ j : Nat, i = .int .i64 j ∧ j ≤ n ∧ (∀ q, q < j → l[q]? = k[q]?) ∧ ∃ dr, wr = w.drewN dr) (fun i _ => n - (intOf i).toNat)
    case atStart => exact ⟨0, rfl, by omega, fun q hq => by omega, 0, rfl⟩
    case round =>
      obtain ⟨j, rfl, hj, hall, dr, rfl⟩ := hrel
      have HA := Lib.hid hall
      clear hall
      by_cases hlt : j < n
      · obtain ⟨ad, x, rfl, hx, cx⟩ := h.int hlt
        obtain ⟨bd, y, rfl, hy, cy⟩ := h'.int hlt
        have HX := Lib.hid hx
        have HY := Lib.hid hy
        clear hx hy
        have hji : (j : Int) < n := by omega
        rcases (show x < y ∨ x = y ∨ y < x by omega) with hc | hc | hc
        case inr.inl =>
          subst hc
          go_wp2_with fail
          go_quiet (fail)
          go_wp2
          go_roundw
          case rel =>
            refine ⟨j + 1, by go_num, by omega, fun q hq => ?_, _, rfl⟩
            rcases Nat.lt_or_ge q j with h9 | h9
            · exact HA.out q h9
            · obtain rfl : q = j := by omega
              rw [HX.out, HY.out]
          case measure => simp [intOf] <;> omega
        all_goals
          have hne : ¬ (x = y) := by omega
          go_wp2_with fail
          go_quiet (fail)
          go_wp2
          go_ret
          refine ⟨ret_bool ?_, bel_drewN (bel_drewN (Below.refl _ _) _) _⟩
          symm
          rw [decide_eq_false_iff_not]
          intro hlk
          have := HX.out
          rw [hlk, HY.out] at this
          have := Option.some.inj this
          omega
      · go_wp2_with fail
        go_ret
        obtain rfl : j = n := by omega
        refine ⟨ret_bool ?_, bel_drewN (Below.refl _ _) _⟩
        symm
        rw [decide_eq_true_eq]
        apply List.ext_getElem?
        intro q
        rcases Nat.lt_or_ge q j with hq | hq
        · exact HA.out q hq
        · rw [List.getElem?_eq_none (by rw [HL.out]; exact hq), List.getElem?_eq_none (by rw [HK.out]; exact hq)]
  · go_enter Try.func8, Try.ntmps8
    rcases (show n < m ∨ m < n by omega) with hc | hc
    all_goals
      go_wp2_with fail
      go_ret
      refine ⟨ret_bool ?_, Below.refl _ _⟩
      symm
      rw [decide_eq_false_iff_not]
      intro hlk
      have h1 := HL.out
      have h2 := HK.out
      rw [hlk] at h1
      omega

set_option maxHeartbeats 1600000 in
theorem number_any (A : Option Addr) (n c : Nat) (F : List Nat) (w : World) (h : Reads w 1 A n (ints (casts F))) (hn : n ≤ 1000000) (hF : ∀ q f : Nat, F[q]? = some f → f ≤ q) :
    Calls Try.prog 20 #[.slice A n c] w fun e w' => ∃ A1 c1, e = .returned (.tuple #[.slice A1 n c1, .int .i64 ((Al.number F).2 : Nat)]) ∧ w'.ownsRow w.heap.size 3 1 (.slice A1 n c1) n (ints (casts (Al.number F).1)) ∧ Below w.heap.size w w' := by
  have hl : F.length = n := by have := h.1; rw [ints_length, casts_length] at this; omega
  have HL := Lib.hid hl
  have HF := Lib.hid hF
  clear hl hF
  go_enter Try.func20, Try.ntmps20
  go_wp2
  go_loopw [4, 5, 6] (fun o n_ i wr => ∃ (A1 : Option Addr) (c1 q s : Nat), o = .slice A1 q c1 ∧ wr.ownsRow w.heap.size 3 1 (.slice A1 q c1) q (ints (casts (Al.number (F.take q)).1)) ∧ n_ = .int .i64 s ∧ s = (Al.number (F.take q)).2 ∧ i = .int .i64 q ∧ q ≤ n ∧ s ≤ q ∧ Below w.heap.size w wr) (fun _ _ i _ => n - (intOf i).toNat)
  case atStart => exact ⟨none, 0, 0, 0, rfl, own_new, rfl, rfl, rfl, by omega, by omega, Below.refl _ _⟩
  case round =>
    obtain ⟨A1, c1, q, s, rfl, HO, rfl, hs, rfl, hq, hsq, hb⟩ := hrel
    have HS := Lib.hid hs
    clear hs
    by_cases hlt : q < n
    · obtain ⟨ad, x, rfl, hx, cx⟩ := (h.below hb).int hlt
      obtain ⟨f, hf, rfl⟩ := casts_at hx
      have hfq := HF.out q f hf
      have hst := Al.number_snoc (F.take q) f
      rw [← Al.take_snoc hf] at hst
      have hln : (Al.number (F.take q)).1.length = q := by rw [Al.number_len, List.length_take, HL.out]; omega
      have HST := Lib.hid hst
      have HLN := Lib.hid hln
      have HX := Lib.hid hf
      clear hx hst hln hf
      rcases Nat.lt_or_ge f q with hc | hc
      · obtain ⟨ad1, y, rfl, hy, cy⟩ := (Reads.of_own HO).int (show f < q by omega)
        obtain ⟨y', hy', rfl⟩ := casts_at hy
        have HY := Lib.hid hy'
        clear hy hy'
        go_wp2_with (at_builtin; refine app_lit rfl (.tmp 25) (.tmp 33) 22 rfl w.heap.size 3 Try.underlying22 info_int rfl (by omega) (by omega) _ q (ints (casts (Al.number (F.take q)).1)) rfl HO [.int .i64 _] 1 1 rfl rfl rfl (by omega) hb (Nat.le_refl _) hb.size ?_; intro A3 c3 w3 HO3 hg3 hb3)
        go_roundw
        case rel =>
          refine ⟨A3, c3, q + 1, s, rfl, ?_, rfl, ?_, by go_num, by omega, by omega, hb3⟩
          · rw [HST.out, Al.numStep, if_neg (by rw [HLN.out]; omega), List.getD_eq_getElem?_getD, HY.out]
            simpa [ints, casts] using HO3
          · rw [HST.out, Al.numStep, if_neg (by rw [HLN.out]; omega)]
            exact HS.out
        case measure => simp [intOf] <;> omega
      · obtain rfl : f = q := by omega
        go_wp2_with (at_builtin; refine app_lit rfl (.tmp 19) (.tmp 21) 22 rfl w.heap.size 3 Try.underlying22 info_int rfl (by omega) (by omega) _ f (ints (casts (Al.number (F.take f)).1)) rfl HO [.int .i64 _] 1 1 rfl rfl rfl (by omega) hb (Nat.le_refl _) hb.size ?_; intro A3 c3 w3 HO3 hg3 hb3)
        go_roundw
        case rel =>
          refine ⟨A3, c3, f + 1, s + 1, rfl, ?_, by go_num, ?_, by go_num, by omega, by omega, hb3⟩
          · rw [HST.out, Al.numStep, if_pos (by rw [HLN.out])]
            rw [← HS.out]
            simpa [ints, casts] using HO3
          · rw [HST.out, Al.numStep, if_pos (by rw [HLN.out])]
            rw [HS.out]
        case measure => simp [intOf] <;> omega
    · obtain rfl : q = n := by omega
      go_wp2_with fail
      go_ret2
      have e : F.take q = F := List.take_of_length_le (by rw [HL.out]; omega)
      have hs := HS.out
      rw [e] at HO hs
      exact ⟨A1, c1, by rw [hs]; rfl, HO, hb⟩
end Go.Proofs.Ytklmkkoccpobpaa
