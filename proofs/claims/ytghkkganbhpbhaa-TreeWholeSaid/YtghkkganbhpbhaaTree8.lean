/- The walks of package tree: Depth. -/
import Derived.Test.YtghkkganbhpbhaaTree2
import Derived.Test.YtghkkganbhpbhaaBase2
import Derived.Test.YtghkkganbhpbhaaDepth0
set_option linter.unusedVariables false
set_option linter.unusedSimpArgs false
namespace Go.Proofs.Ytghkkganbhpbhaa
open Go.RowKit Go.Proofs.Bs

set_option maxHeartbeats 3200000 in
theorem depth_no (A : Option Addr) (n c : Nat) (l : List Nd) (w : World) (h : Reads w 7 A n (l.flatMap Nd.cells)) (hn : n ≤ 1000000) (hr : rightB l = false) :
    Calls Try.prog 23 #[.slice A n c] w fun e w' => e = .returned (.int .i64 0) ∧ Below w.heap.size w w' := by
  have HR := Lib.hid hr
  clear hr
  go_enter Try.func23, Try.ntmps23
  go_wp2_with fail
  refine (right_any A n c l _ h (by omega)).mono ?_
  rw [HR.out]
  rintro e w1 ⟨rfl, hb1⟩
  go_wp2_with fail
  go_ret
  exact ⟨rfl, hb1⟩

set_option maxHeartbeats 3200000 in
theorem depth_yes (A : Option Addr) (n c : Nat) (l : List Nd) (w : World) (h : Reads w 7 A n (l.flatMap Nd.cells)) (hn : n ≤ 1000000) (hr : rightB l = true) :
    Calls Try.prog 23 #[.slice A n c] w fun e w' => e = .returned (.int .i64 (depthP l)) ∧ Below w.heap.size w w' := by
  have hl := h.length Nd.cells Nd.cells_length (by omega)
  have HL := Lib.hid hl
  have HR := Lib.hid hr
  clear hr hl
  go_enter Try.func23, Try.ntmps23
  go_wp2_with fail
  refine (right_any A n c l _ h (by omega)).mono ?_
  rw [HR.out]
  rintro e w1 ⟨rfl, hb1⟩
  have h1 := h.below hb1
  go_wp2_with fail
  go_loopw [3, 5, 6, 7, 15] (fun s n_ k_ d_ i wr => ∃ (A1 : Option Addr) (c1 q k : Nat) (ds : List Int), s = .slice A1 q c1 ∧ wr.ownsRow w1.heap.size 3 1 (.slice A1 q c1) q (ints ds) ∧ i = .int .i64 k ∧ k ≤ n ∧ q ≤ k ∧ stackP l k = ds ∧ (∀ d ∈ ds, 0 ≤ d ∧ d ≤ k) ∧ Below w1.heap.size w1 wr) (fun _ _ _ _ i _ => n - (intOf i).toNat)
  case atStart => exact ⟨none, 0, 0, 0, [], rfl, own_new, rfl, by omega, by omega, rfl, (fun d hd => by cases hd), Below.refl _ _⟩
  case round =>
    obtain ⟨A1, c1, q, k, ds, rfl, HO, rfl, hk, hqk, hs, hds, hb⟩ := hrel
    have hq : ds.length = q := by have := HO.1; rw [ints_length] at this; omega
    have HS := Lib.hid hs
    have HD := Lib.hid hds
    have HQ := Lib.hid hq
    clear hs hds hq
    by_cases hlt : k < n
    · obtain ⟨ad, x, hA, hx, c0, c1_, c2, c3, c4, c5, c6⟩ := (h1.below hb).nd hlt
      subst hA
      have HX := Lib.hid hx
      have hst := stack_room l HR.out k x hx
      rw [HS.out, HQ.out] at hst
      obtain ⟨ha0, haq⟩ := hst
      clear hx
      obtain ⟨av, hav⟩ := Int.eq_ofNat_of_zero_le ha0
      have haq' : av ≤ q := by omega
      go_wp2_with fail
      refine (args_any _ _).mono ?_
      rw [hav]
      rintro e w2 ⟨rfl, rfl⟩
      clear ha0 haq
      have HAV := Lib.hid hav
      clear hav
      obtain ⟨Ac, hcut, hrc⟩ := cut_from (P := Try.prog) 22 3 .i64 Try.underlying22 info_int A1 q c1 ((q : Int) - (av : Int)) (q - av) (by omega) (by omega) (own_le HO).2
      have hqc := (own_le HO).2
      have hq0 : q - (q - av) = av := by omega
      rw [hq0] at hcut hrc
      have HRC := Lib.hid hrc
      clear hrc hq0
      go_wp2_with fail
      have hb2 := bel_alloc hb (.cells #[.int .i64 x.kind, .int .u64 x.set.a, .int .u64 x.set.b, .int .u64 x.set.c, .int .u64 x.set.d, .int .i64 x.lo, .int .i64 x.hi] 78)
      have HO2 := HO.alloc (.cells #[.int .i64 x.kind, .int .u64 x.set.a, .int .u64 x.set.b, .int .u64 x.set.c, .int .u64 x.set.d, .int .i64 x.lo, .int .i64 x.hi] 78)
      have hrd := HRC.out _ _ (Reads.of_own HO2)
      have htk := own_take HO2 (q - av) (by omega)
      rw [Nat.mul_one] at hrd htk
      have e1 : (ints ds).drop (q - av) = ints (ds.drop (q - av)) := by simp [ints, List.map_drop]
      have e2 : (ints ds).take (q - av) = ints (ds.take (q - av)) := by simp [ints, List.map_take]
      rw [e1] at hrd
      rw [e2] at htk
      clear hcut HRC e1 e2 HO HO2 hb c0 c1_ c2 c3 c4 c5 c6
      generalize hW2 : wr.alloc (.cells #[.int .i64 x.kind, .int .u64 x.set.a, .int .u64 x.set.b, .int .u64 x.set.c, .int .u64 x.set.d, .int .i64 x.lo, .int .i64 x.hi] 78) = W2 at hb2 hrd htk ⊢
      clear hW2
      go_loop [7, 9, 29] (fun d_ u_ j_ => ∃ (dv : Int) (j : Nat), d_ = .int .i64 dv ∧ j_ = .int .i64 j ∧ j ≤ av ∧ 0 ≤ dv ∧ dv ≤ k ∧ maxOf ((ds.drop (q - av)).drop j) dv = maxOf (ds.drop (q - av)) 0) (fun _ _ j_ => av - (intOf j_).toNat)
      case atStart => exact ⟨0, 0, rfl, rfl, by omega, by omega, by omega, rfl⟩
      case round =>
        obtain ⟨dv, j, rfl, rfl, hj, hd0, hd1, hm⟩ := hrel
        have HM := Lib.hid hm
        clear hm
        by_cases hjl : j < av
        · obtain ⟨ad2, y, rfl, hy, cy⟩ := hrd.int hjl
          have hyd : y ∈ ds := List.mem_of_mem_drop (List.mem_of_getElem? hy)
          have hy0 := (HD.out y hyd).1
          have hy1 := (HD.out y hyd).2
          have HY := Lib.hid hy
          clear hy hyd
          go_wp2_with fail
          go_round
          case rel =>
            refine ⟨max dv y, j + 1, ?_, by go_num, by omega, by omega, by omega, ?_⟩
            · congr 1; split <;> omega
            · rw [← HM.out, drop_get HY.out]
              rfl
          case measure => simp [intOf] <;> omega
        · go_wp2_with (at_builtin; refine app_lit rfl (.tmp 39) (.tmp 42) 22 rfl w1.heap.size 3 Try.underlying22 info_int rfl (by omega) (by omega) _ (q - av) (ints (ds.take (q - av))) rfl htk [.int .i64 (dv + 1)] 1 1 rfl rfl rfl (by omega) hb2 (Nat.le_refl _) hb2.size ?_; intro A3 c3 w3 HO3 hg3 hb3)
          go_roundw
          case rel =>
            have e3 : stackP l (k + 1) = ds.take (q - av) ++ [dv + 1] := by
              have hg : l.getD k zNd = x := by rw [List.getD_eq_getElem?_getD, HX.out]; rfl
              rw [stackP, hg, stackStep, HS.out, HQ.out, HAV.out, Int.toNat_natCast, ← HM.out, List.drop_eq_nil_of_le (by rw [List.length_drop, HQ.out]; omega)]
              rfl
            refine ⟨A3, c3, q - av + 1, k + 1, ds.take (q - av) ++ [dv + 1], rfl, by simpa [ints] using HO3, by go_num, by omega, by omega, e3, fun d hd => ?_, hb3⟩
            rcases List.mem_append.1 hd with hd | hd
            · have := HD.out d (List.mem_of_mem_take hd); omega
            · simp at hd; omega
          case measure => simp [intOf] <;> omega
    · obtain rfl : k = n := by omega
      have hse := stack_end l HR.out
      have hl := HL.out
      rw [hl, HS.out, HQ.out] at hse
      obtain ⟨ad2, y, rfl, hy, cy⟩ := (Reads.of_own HO).int (show 0 < q by omega)
      have HY := Lib.hid hy
      have h0q : 0 < q := by omega
      rw [show ad2.add 0 = ad2 from rfl] at cy
      clear hy hl
      go_wp2_with fail
      go_ret
      refine ⟨ret_int ?_, bel_then hb1 hb⟩
      unfold depthP
      rw [HL.out, HS.out, List.getD_eq_getElem?_getD, HY.out]
      rfl

end Go.Proofs.Ytghkkganbhpbhaa
