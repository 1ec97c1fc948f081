/- The walk of the law AlphaJoins. -/
import Derived.Test.YtklmkkoccpobpaaAl5
import Derived.Test.YtklmkkoccpobpaaOpenInts
set_option linter.unusedVariables false
set_option linter.unusedSimpArgs false
namespace Go.Proofs.Ytklmkkoccpobpaa
open Go.RowKit

theorem zip_fst (a b : List Int) (h : a.length = b.length) : (a.zip b).map Prod.fst = a := List.map_fst_zip (by omega)
theorem zip_snd (a b : List Int) (h : a.length = b.length) : (a.zip b).map Prod.snd = b := List.map_snd_zip (by omega)

set_option maxRecDepth 100000 in
set_option maxHeartbeats 3200000 in
theorem joins_walk (A B : Option Addr) (n m n1 m1 c d : Nat) (la lb : List Int) (k : Int) (w : World) (hr : Reads w 1 A n1 (ints la)) (hr' : Reads w 1 B m1 (ints lb)) (hnc : n ≤ c) (hmd : m ≤ d)
    (hn1 : n1 = 80 ∧ 80 < n ∨ n1 = n ∧ n ≤ 80) (hm1 : m1 = 80 ∧ 80 < m ∨ m1 = m ∧ m ≤ 80) (hn2 : n1 ≤ 80) (hm2 : m1 ≤ 80)
    (hoka : ∀ x ∈ la, I64ok x) (hokb : ∀ x ∈ lb, I64ok x) (hk0 : -9223372036854775808 ≤ k) (hk : k ≤ 9223372036854775807) :
    Calls Try.prog 3 #[.slice A n c, .slice B m d, .int .i64 k] w fun e w' => e = .returned (.bool true) ∧ Below w.heap.size w w' := by
  have hla : la.length = n1 := by have := hr.1; rw [ints_length] at this; omega
  have hlb : lb.length = m1 := by have := hr'.1; rw [ints_length] at this; omega
  have HLA := Lib.hid hla
  have HLB := Lib.hid hlb
  have HOA := Lib.hid hoka
  have HOB := Lib.hid hokb
  clear hla hlb hoka hokb
  go_enter Try.func3, Try.ntmps3
  go_wp2_with fail
  refine (awake_any _).mono ?_
  rintro e w1 ⟨rfl, hb1⟩
  have hr1 := hr.below hb1
  have hr1' := hr'.below hb1
  go_upto_region 3 with fail
  go_cut [0, 1] (fun s0 s1 wx => s0 = .slice A n1 c ∧ s1 = .slice B m1 d ∧ ∃ dr, wx = w1.drewN dr)
  case first =>
    rcases hn1 with ⟨rfl, cn⟩ | ⟨rfl, cn⟩ <;> rcases hm1 with ⟨rfl, cm⟩ | ⟨rfl, cm⟩
    all_goals
      go_quiet (fail)
      go_wp2_with fail
      go_meet
      exact ⟨rfl, rfl, _, rfl⟩
  case rest =>
    obtain ⟨rfl, rfl, dr, rfl⟩ := hcut
    have hr2 := hr1.below (bel_drewN (Below.refl _ _) dr)
    have hr2' := hr1'.below (bel_drewN (Below.refl _ _) dr)
    have hb2 := bel_drewN hb1 dr
    clear hr hr' hr1 hr1' hb1 hn1 hm1 hnc hmd
    generalize w1.drewN dr = w2 at *
    have fwf : ∀ x : Int, I64ok x → (Lit.int .i64 x).wf = true := fun x hx => WalkArith.wf_i64 ⟨hx.1, hx.2⟩
    have HFW := Lib.hid fwf
    clear fwf
    by_cases hnm : n1 = m1
    · subst hnm
      have hz1 := zip_fst la lb (by rw [HLA.out, HLB.out])
      have hz2 := zip_snd la lb (by rw [HLA.out, HLB.out])
      have hok : ∀ p ∈ la.zip lb, okP p := fun p hp => ⟨HFW.out _ (HOA.out _ (List.of_mem_zip hp).1), HFW.out _ (HOB.out _ (List.of_mem_zip hp).2)⟩
      have hq1 : Reads w2 1 A n1 (ints ((la.zip lb).map Prod.fst)) := by rw [hz1]; exact hr2
      have hq2 : Reads w2 1 B n1 (ints ((la.zip lb).map Prod.snd)) := by rw [hz2]; exact hr2'
      have hlz : (la.zip lb).length = n1 := by rw [List.length_zip, HLA.out, HLB.out]; omega
      have hfew := Al.run_few (la.zip lb)
      rw [hlz] at hfew
      generalize la.zip lb = l at hok hq1 hq2 hfew
      have HOK := Lib.hid hok
      clear hz1 hz2 hok hlz
      go_wp2_with fail
      refine (ajoin_any A B n1 c d l _ hq1 hq2 (by omega) HOK.out).mono ?_
      rintro e w3 ⟨A1, c1, rfl, HO1, hb3⟩
      have hq1' := hq1.below hb3
      have hq2' := hq2.below hb3
      have hr3 := hr2.below hb3
      have hb03 := bel_then hb2 hb3
      have hj := Reads.of_own HO1
      clear hr2 hr2' hb2 hq1 hq2 HO1 hb3
      go_wp2_with fail
      refine (afirsts_any A n1 c la k _ hr3 (by omega) hk0 hk).mono ?_
      rintro e w4 ⟨A2, c2, rfl, HO2, hb4⟩
      have hr4 := hr3.below hb4
      have hb04 := bel_then hb03 hb4
      have hj4 := hj.below hb4
      have hf4 := Reads.of_own HO2
      have hp1 := hq1'.below hb4
      have hp2 := hq2'.below hb4
      clear hr3 hb03 hj hq1' hq2' HO2 hb4
      go_wp2_with fail
      refine (rfirsts_any A n1 c la k _ hr4 (by omega) hk0 hk).mono ?_
      rintro e w5 ⟨A3, c3, rfl, HO3, hb5⟩
      have hb05 := bel_then hb04 hb5
      have hj5 := hj4.below hb5
      have hf5 := hf4.below hb5
      have hg5 := Reads.of_own HO3
      have hq1 := hp1.below hb5
      have hq2 := hp2.below hb5
      clear hr4 hb04 hj4 hf4 hp1 hp2 HO3 hb5
      have hM : min k.toNat 259 ≤ 1000000 := by omega
      generalize hMe : min k.toNat 259 = M at hM hf5 hg5
      clear hMe
      go_wp2_with fail
      refine (isame_any A2 A3 M M c2 c3 _ _ _ hf5 hg5 hM hM).mono ?_
      rw [show decide (Al.firstsRow M la = Al.firstsRow M la) = true by simp]
      rintro e w6 ⟨rfl, hb6⟩
      have hb06 := bel_then hb05 hb6
      have hj6 := hj5.below hb6
      have hp1 := hq1.below hb6
      have hp2 := hq2.below hb6
      clear hb05 hb6 hj5 hf5 hg5 hq1 hq2
      go_wp2_with fail
      refine (rjoin_any A B n1 c d l _ hp1 hp2 (by omega)).mono ?_
      rintro e w7 ⟨A4, c4, rfl, HO4, hb7⟩
      have hb07 := bel_then hb06 hb7
      have hj7 := hj6.below hb7
      have hk7 := Reads.of_own HO4
      clear hb06 hb7 hj6 hp1 hp2 HO4
      go_wp2_with fail
      refine (isame_any A1 A4 n1 n1 c1 c4 _ _ _ hj7 hk7 (by omega) (by omega)).mono ?_
      rw [show decide (casts (Al.run l).2 = casts (Al.run l).2) = true by simp]
      rintro e w8 ⟨rfl, hb8⟩
      go_wp2_with fail
      go_ret
      exact ⟨rfl, bel_then hb07 hb8⟩
    · have hc : n1 < m1 ∨ m1 < n1 := by omega
      go_wp2_with fail
      refine (ajoin_ne A B n1 m1 c d _ (by omega) (by omega) hnm).mono ?_
      rintro e w3 ⟨rfl, hb3⟩
      clear hnm
      have hr3 := hr2.below hb3
      have hb03 := bel_then hb2 hb3
      clear hr2 hr2' hb2 hb3
      go_wp2_with fail
      refine (afirsts_any A n1 c la k _ hr3 (by omega) hk0 hk).mono ?_
      rintro e w4 ⟨A2, c2, rfl, HO2, hb4⟩
      have hr4 := hr3.below hb4
      have hb04 := bel_then hb03 hb4
      have hf4 := Reads.of_own HO2
      clear hr3 hb03 HO2 hb4
      go_wp2_with fail
      refine (rfirsts_any A n1 c la k _ hr4 (by omega) hk0 hk).mono ?_
      rintro e w5 ⟨A3, c3, rfl, HO3, hb5⟩
      have hb05 := bel_then hb04 hb5
      have hf5 := hf4.below hb5
      have hg5 := Reads.of_own HO3
      clear hr4 hb04 hf4 HO3 hb5
      have hM : min k.toNat 259 ≤ 1000000 := by omega
      generalize hMe : min k.toNat 259 = M at hM hf5 hg5
      clear hMe
      go_wp2_with fail
      refine (isame_any A2 A3 M M c2 c3 _ _ _ hf5 hg5 hM hM).mono ?_
      rw [show decide (Al.firstsRow M la = Al.firstsRow M la) = true by simp]
      rintro e w6 ⟨rfl, hb6⟩
      have hb06 := bel_then hb05 hb6
      rcases hc with hc | hc
      all_goals
        go_wp2_with fail
        go_ret
        exact ⟨rfl, hb06⟩

theorem alphaJoins_any (A : Option Addr) (n c : Nat) (la : List Int) (B : Option Addr) (m d : Nat) (lb : List Int) (k : Int) (w : World)
    (hr : Reads w 1 A n (la.flatMap fun x : Int => [Value.int .i64 x])) (hnc : n ≤ c) (hn : n ≤ 140737488351232) (hoka : ∀ x ∈ la, I64ok x)
    (hr' : Reads w 1 B m (lb.flatMap fun x : Int => [Value.int .i64 x])) (hmd : m ≤ d) (hm : m ≤ 140737488351232) (hokb : ∀ x ∈ lb, I64ok x) (hk0 : -9223372036854775808 ≤ k) (hk : k ≤ 9223372036854775807) :
    Calls Try.prog 3 #[.slice A n c, .slice B m d, .int .i64 k] w fun e w' => e = .returned (.bool true) ∧ Below w.heap.size w w' := by
  rw [flat_ints] at hr hr'
  obtain ⟨n1, hn1, hn2, hn3⟩ : ∃ n1, (n1 = 80 ∧ 80 < n ∨ n1 = n ∧ n ≤ 80) ∧ n1 ≤ 80 ∧ n1 ≤ n := by
    rcases Nat.lt_or_ge 80 n with q | q
    · exact ⟨80, .inl ⟨rfl, q⟩, by omega, by omega⟩
    · exact ⟨n, .inr ⟨rfl, q⟩, q, by omega⟩
  obtain ⟨m1, hm1, hm2, hm3⟩ : ∃ m1, (m1 = 80 ∧ 80 < m ∨ m1 = m ∧ m ≤ 80) ∧ m1 ≤ 80 ∧ m1 ≤ m := by
    rcases Nat.lt_or_ge 80 m with q | q
    · exact ⟨80, .inl ⟨rfl, q⟩, by omega, by omega⟩
    · exact ⟨m, .inr ⟨rfl, q⟩, q, by omega⟩
  exact joins_walk A B n m n1 m1 c d (la.take n1) (lb.take m1) k w (hr.ints_take n1 hn3) (hr'.ints_take m1 hm3) hnc hmd hn1 hm1 hn2 hm2
    (fun x hx => hoka x (List.mem_of_mem_take hx)) (fun x hx => hokb x (List.mem_of_mem_take hx)) hk0 hk
end Go.Proofs.Ytklmkkoccpobpaa
