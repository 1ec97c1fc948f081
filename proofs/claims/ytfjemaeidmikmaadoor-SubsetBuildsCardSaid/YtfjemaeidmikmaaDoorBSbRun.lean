import Derived.Test.YtfjemaeidmikmaaDoorBM5
import Derived.Test.YtfjemaeidmikmaaDoorBM1
import Derived.Deep.RegionHeld
set_option linter.unusedVariables false
set_option linter.unusedSimpArgs false
namespace Go.Proofs.YtfjemaeidmikmaaDoorQ
open Go.RowKit Go.Maps Go.Proofs.YtfjemaeidmikmaaDoorW.PrintWords Go.Proofs.YtfjemaeidmikmaaDoorW.PrintLast Go.Proofs.YtfjemaeidmikmaaDoor
theorem one_C (w : World) (x : Int) : Kd.C (Kd.int .i64) (w.alloc (.cells #[.int .i64 x] 3)) (some ⟨w.heap.size, 0, none⟩) ([x] : List Int).length [x] := by
 refine ⟨rfl, by simp, fun _ => ⟨_, rfl, fun j y hj => ?_⟩⟩
 have hj0 : j = 0 := by
  have := (List.getElem?_eq_some_iff.1 hj).1
  simp at this
  omega
 subst hj0
 have hy : x = y := by simpa using hj
 subst hy
 refine ⟨[.int .i64 x], rfl, rfl, fun i u hu => ?_⟩
 have hi : i = 0 := by
  have := (List.getElem?_eq_some_iff.1 hu).1
  simp at this
  omega
 subst hi
 have : u = .int .i64 x := by simpa using hu.symm
 subst this
 exact (cell_of_row _ _ 0 _ _ _ (heap_alloc_new w _)).trans rfl
theorem inN_take (sts : List St) (a : Nat) (firsts : List Int) (q : Qt) {j : Nat} {x : Int} (h : firsts[j]? = some x) : inN sts a (firsts.take (j + 1)) q = inStep sts a (inN sts a (firsts.take j) q) x := by
 unfold inN
 rw [take_snoc' h, List.foldl_append]
 rfl
theorem inN_len (sts : List St) (a : Nat) (q : Qt) : ∀ l : List Int, q.1.length ≤ (inN sts a l q).1.length ∧ (inN sts a l q).1.length ≤ q.1.length + l.length ∧ (inN sts a l q).2.length = q.2.length + l.length := by
 intro l
 induction l generalizing q with
 | nil => exact ⟨Nat.le_refl _, Nat.le_refl _, rfl⟩
 | cons x l ih =>
  have h := ih (inStep sts a q x)
  have h2 := knS_len q.1 (toT sts (q.1.getD a []) x)
  have e1 : (inStep sts a q x).1.length = (knS q.1 (toT sts (q.1.getD a []) x)).1.length := rfl
  have e2 : (inStep sts a q x).2.length = q.2.length + 1 := by simp [inStep]
  have e3 : inN sts a (x :: l) q = inN sts a l (inStep sts a q x) := rfl
  rw [e3, List.length_cons]
  omega
theorem inN_ok (sts : List St) (hn : sts.length ≤ 600) (a : Nat) (q : Qt) (h : ∀ t ∈ q.1, okT t) : ∀ l : List Int, ∀ t ∈ (inN sts a l q).1, okT t := by
 intro l
 induction l generalizing q with
 | nil => exact h
 | cons x l ih => exact ih (inStep sts a q x) (knS_mem h (okT_to sts _ x hn))
theorem getD_mem {S : List (List Int)} {a : Nat} (h : a < S.length) : S.getD a [] ∈ S := by
 rw [List.getD_eq_getElem?_getD, List.getElem?_eq_getElem h]
 exact List.getElem_mem h
theorem outN_stop (sts : List St) (firsts : List Int) (most : Int) (k a : Nat) (q : Qt) (h : ¬ (a < q.1.length ∧ (q.1.length : Int) ≤ most)) : outN sts firsts most k a q = q := by
 cases k with
 | zero => rfl
 | succ k => exact if_neg h
theorem outN_go (sts : List St) (firsts : List Int) (most : Int) (k a : Nat) (q : Qt) (h : a < q.1.length ∧ (q.1.length : Int) ≤ most) (hk : 0 < k) : outN sts firsts most k a q = outN sts firsts most (k - 1) (a + 1) (inN sts a firsts q) := by
 obtain ⟨j, rfl⟩ : ∃ j, k = j + 1 := ⟨k - 1, by omega⟩
 exact if_pos h
set_option maxRecDepth 100000 in
set_option maxHeartbeats 6400000 in
theorem run_sb (A0 : Option Addr) (c0 : Nat) (sts : List St) (s f most : Int) (b0 p m : Nat) (w : World) (D : DataW Unit) (n : Nat)
  (hSB : SB w b0 p m (.slice A0 sts.length c0) (.int .i64 s) (.int .i64 f) (.int .i64 most) (.slice none 0 0) [] D n (okN p m (.slice none 0 0))) (hmw : m < w.heap.size)
  (hr : ∀ w', Below b0 w w' → Kd.C k64 w' A0 sts.length sts) (hc : sts.length ≤ c0) (hR : rightN sts s f = true) (hw : wfSts sts)
  (Af : Option Addr) (cf : Nat) (firsts : List Int) (hf : Kd.R (Kd.int .i64) 3 w b0 (fun k => k ≠ p ∧ k ≠ m) (.slice Af firsts.length cf) firsts) (hfl : firsts.length ≤ 259) (hfr : ∀ x ∈ firsts, 0 ≤ x ∧ x ≤ 258) (hmost : most ≤ 1000) :
  Calls Tryd.prog 21 #[.pointer (some ⟨p, 0, none⟩), .slice Af firsts.length cf] w fun e w' => ∃ v vN D' n', e = .returned vN ∧ RI w w' b0 p m (.slice A0 sts.length c0) (.int .i64 s) (.int .i64 f) (.int .i64 most) v vN (runQ sts s firsts most).1 (runQ sts s firsts most).2 D' n' ∧ Below b0 w w' := by
 have hn := rightN_len hR
 have hp := hSB.lt
 have hle : b0 ≤ w.heap.size := by have := hSB.le; omega
 have hri : RI w w b0 p m (.slice A0 sts.length c0) (.int .i64 s) (.int .i64 f) (.int .i64 most) (.slice none 0 0) (.slice none 0 0) [] [] D n :=
  ⟨hSB, Kd.R_nil _ _ _ _ _, fun k hk => by simp [Value.ownBlock] at hk, fun k hk => by simp [Value.ownBlock] at hk, Nat.le_refl _, fun _ _ _ _ => rfl, hp, hmw, hle⟩
 obtain ⟨k0, k1, k2, k3, k4, k5, k6⟩ := hSB.cells
 have HRI := Lib.hid hri
 have HR := Lib.hid hr
 have HRN := Lib.hid hR
 have HW := Lib.hid hw
 have HF := Lib.hid hf
 have HFR := Lib.hid hfr
 clear hri hr hR hw hf hfr hSB k5 k6 k3 k4
 go_enter Tryd.func21, Tryd.ntmps21
 go_wp2_with fail
 have keepS : ∀ w', Below w.heap.size w w' → (w'.cell? ⟨p, 0, none⟩ = some (.slice A0 sts.length c0) ∧ w'.cell? ⟨p, 1, none⟩ = some (.int .i64 s) ∧ w'.cell? ⟨p, 2, none⟩ = some (.int .i64 f)) := fun w' hX => ⟨Go.Proofs.YtfjemaeidmikmaaDoor.cell_below hX k0, Go.Proofs.YtfjemaeidmikmaaDoor.cell_below hX k1, Go.Proofs.YtfjemaeidmikmaaDoor.cell_below hX k2⟩
 refine wp_region_noPanic ?_
 refine wp_region_held_drew (S := fun w' => w'.cell? ⟨p, 0, none⟩ = some (.slice A0 sts.length c0) ∧ w'.cell? ⟨p, 1, none⟩ = some (.int .i64 s) ∧ w'.cell? ⟨p, 2, none⟩ = some (.int .i64 f)) (by kernel_rfl) (keepS _ (Go.Proofs.YtfjemaeidmikmaaDoor.bel_drew (Below.refl _ _))) (fun hHeld => ?_)
 refine wpAnyH_take (i := 0) (v := ?_) rfl (by kernel_rfl) (by kernel_rfl) (by kernel_rfl) (fun _ _ _ h => h) (Or.inl ⟨by kernel_rfl, ?_⟩) (by assumption) ?_
 rotate_left
 ·intro w hSw
  try dsimp only at hSw
  go_simp
  try with_reducible rfl
 try simp only [List.getElem_toArray, List.getElem_cons_zero, List.getElem_cons_succ, Act.put, List.setIfInBounds_toArray, List.set_cons_zero, List.set_cons_succ]
 refine wpAnyH_take (i := 1) (v := ?_) rfl (by kernel_rfl) (by kernel_rfl) (by kernel_rfl) (fun _ _ _ h => h) (Or.inl ⟨by kernel_rfl, ?_⟩) (by assumption) ?_
 rotate_left
 ·intro w hSw
  try dsimp only at hSw
  go_simp
  try with_reducible rfl
 try simp only [List.getElem_toArray, List.getElem_cons_zero, List.getElem_cons_succ, Act.put, List.setIfInBounds_toArray, List.set_cons_zero, List.set_cons_succ]
 refine wpAnyH_take (i := 2) (v := ?_) rfl (by kernel_rfl) (by kernel_rfl) (by kernel_rfl) (fun _ _ _ h => h) (Or.inl ⟨by kernel_rfl, ?_⟩) (by assumption) ?_
 rotate_left
 ·intro w hSw
  try dsimp only at hSw
  go_simp
  try with_reducible rfl
 try simp only [List.getElem_toArray, List.getElem_cons_zero, List.getElem_cons_succ, Act.put, List.setIfInBounds_toArray, List.set_cons_zero, List.set_cons_succ]
 refine wpAnyH_take (i := 3) (v := ?_) rfl (by kernel_rfl) (by kernel_rfl) (by kernel_rfl) (fun _ _ _ h => h) (Or.inl ⟨by kernel_rfl, ?_⟩) (by assumption) ?_
 rotate_left
 ·intro w hSw
  try dsimp only at hSw
  go_simp
  try with_reducible rfl
 try simp only [List.getElem_toArray, List.getElem_cons_zero, List.getElem_cons_succ, Act.put, List.setIfInBounds_toArray, List.set_cons_zero, List.set_cons_succ]
 refine wpAnyH_take (i := 4) (v := ?_) rfl (by kernel_rfl) (by kernel_rfl) (by kernel_rfl) (fun _ _ _ h => h) (Or.inl ⟨by kernel_rfl, ?_⟩) (by assumption) ?_
 rotate_left
 ·intro w hSw
  try dsimp only at hSw
  go_simp
  try with_reducible rfl
 try simp only [List.getElem_toArray, List.getElem_cons_zero, List.getElem_cons_succ, Act.put, List.setIfInBounds_toArray, List.set_cons_zero, List.set_cons_succ]
 refine wpAnyH_take (i := 5) (v := ?_) rfl (by kernel_rfl) (by kernel_rfl) (by kernel_rfl) (fun _ _ _ h => h) (Or.inl ⟨by kernel_rfl, ?_⟩) (by assumption) ?_
 rotate_left
 ·intro w hSw
  try dsimp only at hSw
  go_simp
  try with_reducible rfl
 try simp only [List.getElem_toArray, List.getElem_cons_zero, List.getElem_cons_succ, Act.put, List.setIfInBounds_toArray, List.set_cons_zero, List.set_cons_succ]
 refine wpAnyH_take (i := 6) (v := ?_) rfl (by kernel_rfl) (by kernel_rfl) (by kernel_rfl) (fun _ _ _ h => h) (Or.inl ⟨by kernel_rfl, ?_⟩) (by assumption) ?_
 rotate_left
 ·intro w hSw
  try dsimp only at hSw
  go_simp
  try with_reducible rfl
 try simp only [List.getElem_toArray, List.getElem_cons_zero, List.getElem_cons_succ, Act.put, List.setIfInBounds_toArray, List.set_cons_zero, List.set_cons_succ]
 refine wpAnyH_take (i := 7) (v := ?_) rfl (by kernel_rfl) (by kernel_rfl) (by kernel_rfl) (fun _ _ _ h => h) (Or.inl ⟨by kernel_rfl, ?_⟩) (by assumption) ?_
 rotate_left
 ·intro w hSw
  try dsimp only at hSw
  go_simp
  try with_reducible rfl
 try simp only [List.getElem_toArray, List.getElem_cons_zero, List.getElem_cons_succ, Act.put, List.setIfInBounds_toArray, List.set_cons_zero, List.set_cons_succ]
 refine wpAnyH_take (i := 8) (v := ?_) rfl (by kernel_rfl) (by kernel_rfl) (by kernel_rfl) (fun _ _ _ h => h) (Or.inl ⟨by kernel_rfl, ?_⟩) (by assumption) ?_
 rotate_left
 ·intro w hSw
  try dsimp only at hSw
  go_simp
  try with_reducible rfl
 try simp only [List.getElem_toArray, List.getElem_cons_zero, List.getElem_cons_succ, Act.put, List.setIfInBounds_toArray, List.set_cons_zero, List.set_cons_succ]
 refine wpAnyH_take (i := 9) (v := ?_) rfl (by kernel_rfl) (by kernel_rfl) (by kernel_rfl) (fun _ _ _ h => h) (Or.inl ⟨by kernel_rfl, ?_⟩) (by assumption) ?_
 rotate_left
 ·intro w hSw
  try dsimp only at hSw
  go_simp
  try with_reducible rfl
 try simp only [List.getElem_toArray, List.getElem_cons_zero, List.getElem_cons_succ, Act.put, List.setIfInBounds_toArray, List.set_cons_zero, List.set_cons_succ]
 refine wpAnyH_ready (rs := [10]) (by kernel_rfl) (by simp) ?_
 refine AllReadyH.cons rfl (fun K hK => ?_) AllReadyH.nil
 go_simp
 refine hK.out _ _ (keepS _ (Go.Proofs.YtfjemaeidmikmaaDoor.bel_alloc (Go.Proofs.YtfjemaeidmikmaaDoor.bel_drew (Below.refl _ _)) _)) (fun hHeld => ?_)
 clear hK K
 try simp only [List.getElem_toArray, List.getElem_cons_zero, List.getElem_cons_succ, Act.put, List.setIfInBounds_toArray, List.set_cons_zero, List.set_cons_succ]
 refine wpAnyH_ready (rs := [11]) (by kernel_rfl) (by simp) ?_
 refine AllReadyH.cons rfl (fun K hK => ?_) AllReadyH.nil
 go_simp
 have hX0 : Below w.heap.size w (w.drew.alloc (.cells #[.int .i64 s] 3)) := Go.Proofs.YtfjemaeidmikmaaDoor.bel_alloc (Go.Proofs.YtfjemaeidmikmaaDoor.bel_drew (Below.refl _ _)) _
 refine (close_r A0 c0 sts s f _ (HR.out _ (hX0.mono hle)) hc HRN.out (some ⟨w.heap.size, 0, none⟩) 1 [s] 0 ?_ (Nat.le_refl 1) (by simp)).mono ?_
 ·exact one_C _ _
 rintro e w1 ⟨A1, c1, rfl, hR1, hb1⟩
 have hX1 : Below w.heap.size w w1 := Go.Proofs.YtfjemaeidmikmaaDoor.bel_then hX0 hb1
 have HX1 := Lib.hid hX1
 have HR1 := Lib.hid hR1
 have HZ0 := Lib.hid hX0.size
 have hz1 : w.heap.size ≤ w1.heap.size := hX1.size
 clear hX0 hb1 hR1 hX1
 refine hK.out _ _ (keepS _ HX1.out) (fun hHeld => ?_)
 clear hK K
 try simp only [List.getElem_toArray, List.getElem_cons_zero, List.getElem_cons_succ, Act.put, List.setIfInBounds_toArray, List.set_cons_zero, List.set_cons_succ]
 refine wpAnyH_ready (rs := [12]) (by kernel_rfl) (by simp) ?_
 refine AllReadyH.cons rfl (fun K hK => ?_) AllReadyH.nil
 go_simp
 refine (state_sb (HRI.out.call HX1.out).sb (by simp) (HRI.out.call HX1.out).fresh (by omega) A1 c1 _ (Kd.R_mono (Kd.R_lower (Kd.R_bound HR1.out) (Nat.le_trans hle HZ0.out)) (fun k hk => ⟨HRI.out.fresh k (Nat.le_trans HZ0.out hk.2.1), by simp [Value.ownBlock]⟩)) (okT_list sts [s] 0 hn)).mono ?_
 rintro e w2 ⟨v2, D2, n2, rfl, hB2, hS2, hb2⟩
 have hRI2 := (HRI.out.call HX1.out).state hB2 hS2
 have HRI2 := Lib.hid hRI2
 have HB2 := Lib.hid ((HX1.out.mono hle).trans hb2)
 clear hB2 hS2 hb2
 refine hK.out _ _ ⟨hRI2.sb.cells.1, hRI2.sb.cells.2.1, hRI2.sb.cells.2.2.1⟩ (fun hHeld => ?_)
 clear hRI2
 clear hK K
 try simp only [List.getElem_toArray, List.getElem_cons_zero, List.getElem_cons_succ, Act.put, List.setIfInBounds_toArray, List.set_cons_zero, List.set_cons_succ]
 refine wpAnyH_done (by kernel_rfl) ?_ _
 refine NoPanic.normal ?_
 clear hHeld keepS k0 k1 k2
 obtain ⟨e1, e2⟩ : (knS [] (listN (walkF sts [s] 0))).1 = [listN (walkF sts [s] 0)] ∧ (knS [] (listN (walkF sts [s] 0))).2 = 0 := ⟨rfl, rfl⟩
 have hri2 := HRI2.out
 rw [e1] at hri2
 clear HRI2 e1 e2
 obtain ⟨z21, hz21⟩ : ∃ z : Int, (((knS [] (listN (walkF sts [s] 0))).2 : Nat) : Int) = z := ⟨_, rfl⟩
 rw [hz21]
 clear hz21
 have HRI2 := Lib.hid hri2
 clear hri2
 obtain ⟨K, hK⟩ : ∃ K, (most + 1).toNat = K := ⟨_, rfl⟩
 have hrun : outN sts firsts most K 0 ([listN (walkF sts [s] 0)], []) = runQ sts s firsts most := by rw [← hK]; rfl
 have HRUN := Lib.hid hrun
 have hokA : ∀ t ∈ [listN (walkF sts [s] 0)], okT t := fun t ht => by rw [List.mem_singleton.1 ht]; exact okT_list sts [s] 0 hn
 have HOKA := Lib.hid hokA
 clear hrun hokA
 obtain ⟨RQ, hRQ⟩ : ∃ R, runQ sts s firsts most = R := ⟨_, rfl⟩
 have HRR := Lib.hid hRQ
 have hrun2 := HRUN.out.trans hRQ
 clear HRUN hRQ
 have HRUN := Lib.hid hrun2
 clear hrun2
 generalize listN (walkF sts [s] 0) = T0 at *
 go_wp2_with fail
 go_loopw [5, 6, 8] (fun x5 x6 _ wr => ∃ (a : Nat) (S : List (List Int)) (next : List Int) (v vN : Value) (D : DataW Unit) (n : Nat), x6 = .int .i64 a ∧ x5 = vN ∧ a ≤ K ∧ RI w wr b0 p m (.slice A0 sts.length c0) (.int .i64 s) (.int .i64 f) (.int .i64 most) v vN S next D n ∧ Below b0 w wr ∧ (∀ t ∈ S, okT t) ∧ next.length = a * firsts.length ∧ outN sts firsts most (K - a) a (S, next) = RQ) (fun _ x6 _ _ => K - (intOf x6).toNat)
 case atStart => exact ⟨0, [T0], [], _, _, _, _, rfl, rfl, by omega, HRI2.out, HB2.out, HOKA.out, by simp, HRUN.out⟩
 case round =>
  clear HRI2 HB2 HOKA HRUN
  obtain ⟨a, S, next, v, vN, D1, n1, rfl, rfl, ha, hri, hb, hok, hnl, hout⟩ := hrel
  obtain ⟨As, cs, rfl⟩ := Kd.R_slice hri.sb.sets
  obtain ⟨k0, k1, k2, k3, k4, k5, k6⟩ := hri.sb.cells
  have HRI1 := Lib.hid hri
  have HB1 := Lib.hid hb
  have HOK1 := Lib.hid hok
  have HOUT := Lib.hid hout
  have HNL := Lib.hid hnl
  clear hri hb hok hout hnl k0 k1 k2 k5 k6
  by_cases hg : a < S.length
  ·have hg' : (a : Int) < (S.length : Int) := by omega
   by_cases hm2 : (S.length : Int) ≤ most
   ·have hgo := outN_go sts firsts most (K - a) a (S, next) ⟨hg, hm2⟩ (by show 0 < K - a; omega)
    have HGO := Lib.hid (hgo.symm.trans HOUT.out)
    have hlen0 := inN_len sts a (S, next)
    have HLEN := Lib.hid hlen0
    have hokI := inN_ok sts hn a (S, next) HOK1.out
    have HOKI := Lib.hid hokI
    clear hgo HOUT hlen0 hokI
    go_upto_region 4 with fail
    have keepS : ∀ w', Below wr.heap.size wr w' → (w'.cell? ⟨p, 3, none⟩ = some (.int .i64 most) ∧ w'.cell? ⟨p, 4, none⟩ = some (.slice As S.length cs)) := fun w' hX => ⟨Go.Proofs.YtfjemaeidmikmaaDoor.cell_below hX k3, Go.Proofs.YtfjemaeidmikmaaDoor.cell_below hX k4⟩
    refine wp_region_noPanic ?_
    refine wp_region_held_drew (S := fun w' => w'.cell? ⟨p, 3, none⟩ = some (.int .i64 most) ∧ w'.cell? ⟨p, 4, none⟩ = some (.slice As S.length cs)) (by kernel_rfl) (keepS _ (Go.Proofs.YtfjemaeidmikmaaDoor.bel_drew (Below.refl _ _))) (fun hHeld => ?_)
    refine wpAnyH_take (i := 0) (v := ?_) rfl (by kernel_rfl) (by kernel_rfl) (by kernel_rfl) (fun _ _ _ h => h) (Or.inl ⟨by kernel_rfl, ?_⟩) (by assumption) ?_
    rotate_left
    ·intro w hSw
     try dsimp only at hSw
     go_simp
     try with_reducible rfl
    try simp only [List.getElem_toArray, List.getElem_cons_zero, List.getElem_cons_succ, Act.put, List.setIfInBounds_toArray, List.set_cons_zero, List.set_cons_succ]
    refine wpAnyH_take (i := 1) (v := ?_) rfl (by kernel_rfl) (by kernel_rfl) (by kernel_rfl) (fun _ _ _ h => h) (Or.inl ⟨by kernel_rfl, ?_⟩) (by assumption) ?_
    rotate_left
    ·intro w hSw
     try dsimp only at hSw
     go_simp
     try with_reducible rfl
    try simp only [List.getElem_toArray, List.getElem_cons_zero, List.getElem_cons_succ, Act.put, List.setIfInBounds_toArray, List.set_cons_zero, List.set_cons_succ]
    refine wpAnyH_take (i := 2) (v := ?_) rfl (by kernel_rfl) (by kernel_rfl) (by kernel_rfl) (fun _ _ _ h => h) (Or.inl ⟨by kernel_rfl, ?_⟩) (by assumption) ?_
    rotate_left
    ·intro w hSw
     try dsimp only at hSw
     go_simp
     try with_reducible rfl
    try simp only [List.getElem_toArray, List.getElem_cons_zero, List.getElem_cons_succ, Act.put, List.setIfInBounds_toArray, List.set_cons_zero, List.set_cons_succ]
    refine wpAnyH_take (i := 3) (v := ?_) rfl (by kernel_rfl) (by kernel_rfl) (by kernel_rfl) (fun _ _ _ h => h) (Or.inl ⟨by kernel_rfl, ?_⟩) (by assumption) ?_
    rotate_left
    ·intro w hSw
     try dsimp only at hSw
     go_simp
     try with_reducible rfl
    try simp only [List.getElem_toArray, List.getElem_cons_zero, List.getElem_cons_succ, Act.put, List.setIfInBounds_toArray, List.set_cons_zero, List.set_cons_succ]
    refine wpAnyH_take (i := 4) (v := ?_) rfl (by kernel_rfl) (by kernel_rfl) (by kernel_rfl) (fun _ _ _ h => h) (Or.inl ⟨by kernel_rfl, ?_⟩) (by assumption) ?_
    rotate_left
    ·intro w hSw
     try dsimp only at hSw
     go_simp
     try with_reducible rfl
    try simp only [List.getElem_toArray, List.getElem_cons_zero, List.getElem_cons_succ, Act.put, List.setIfInBounds_toArray, List.set_cons_zero, List.set_cons_succ]
    refine wpAnyH_take (i := 5) (v := ?_) rfl (by kernel_rfl) (by kernel_rfl) (by kernel_rfl) (fun _ _ _ h => h) (Or.inl ⟨by kernel_rfl, ?_⟩) (by assumption) ?_
    rotate_left
    ·intro w hSw
     try dsimp only at hSw
     go_simp
     try with_reducible rfl
    try simp only [List.getElem_toArray, List.getElem_cons_zero, List.getElem_cons_succ, Act.put, List.setIfInBounds_toArray, List.set_cons_zero, List.set_cons_succ]
    refine wpAnyH_take (i := 6) (v := ?_) rfl (by kernel_rfl) (by kernel_rfl) (by kernel_rfl) (fun _ _ _ h => h) (Or.inl ⟨by kernel_rfl, ?_⟩) (by assumption) ?_
    rotate_left
    ·intro w hSw
     try dsimp only at hSw
     go_simp
     try with_reducible rfl
    try simp only [List.getElem_toArray, List.getElem_cons_zero, List.getElem_cons_succ, Act.put, List.setIfInBounds_toArray, List.set_cons_zero, List.set_cons_succ]
    refine wpAnyH_take (i := 7) (v := ?_) rfl (by kernel_rfl) (by kernel_rfl) (by kernel_rfl) (fun _ _ _ h => h) (Or.inl ⟨by kernel_rfl, ?_⟩) (by assumption) ?_
    rotate_left
    ·intro w hSw
     try dsimp only at hSw
     go_simp
     try with_reducible rfl
    try simp only [List.getElem_toArray, List.getElem_cons_zero, List.getElem_cons_succ, Act.put, List.setIfInBounds_toArray, List.set_cons_zero, List.set_cons_succ]
    refine wpAnyH_take (i := 8) (v := ?_) rfl (by kernel_rfl) (by kernel_rfl) (by kernel_rfl) (fun _ _ _ h => h) (Or.inl ⟨by kernel_rfl, ?_⟩) (by assumption) ?_
    rotate_left
    ·intro w hSw
     try dsimp only at hSw
     go_simp
     try with_reducible rfl
    try simp only [List.getElem_toArray, List.getElem_cons_zero, List.getElem_cons_succ, Act.put, List.setIfInBounds_toArray, List.set_cons_zero, List.set_cons_succ]
    refine wpAnyH_take (i := 9) (v := ?_) rfl (by kernel_rfl) (by kernel_rfl) (by kernel_rfl) (fun _ _ _ h => h) (Or.inl ⟨by kernel_rfl, ?_⟩) (by assumption) ?_
    rotate_left
    ·intro w hSw
     try dsimp only at hSw
     go_simp
     try with_reducible rfl
    try simp only [List.getElem_toArray, List.getElem_cons_zero, List.getElem_cons_succ, Act.put, List.setIfInBounds_toArray, List.set_cons_zero, List.set_cons_succ]
    refine wpAnyH_take (i := 10) (v := ?_) rfl (by kernel_rfl) (by kernel_rfl) (by kernel_rfl) (fun _ _ _ h => h) (Or.inl ⟨by kernel_rfl, ?_⟩) (by assumption) ?_
    rotate_left
    ·intro w hSw
     try dsimp only at hSw
     go_simp
     try with_reducible rfl
    try simp only [List.getElem_toArray, List.getElem_cons_zero, List.getElem_cons_succ, Act.put, List.setIfInBounds_toArray, List.set_cons_zero, List.set_cons_succ]
    refine wpAnyH_take (i := 11) (v := ?_) rfl (by kernel_rfl) (by kernel_rfl) (by kernel_rfl) (fun _ _ _ h => h) (Or.inl ⟨by kernel_rfl, ?_⟩) (by assumption) ?_
    rotate_left
    ·intro w hSw
     try dsimp only at hSw
     go_simp
     try with_reducible rfl
    try simp only [List.getElem_toArray, List.getElem_cons_zero, List.getElem_cons_succ, Act.put, List.setIfInBounds_toArray, List.set_cons_zero, List.set_cons_succ]
    refine wpAnyH_take (i := 12) (v := ?_) rfl (by kernel_rfl) (by kernel_rfl) (by kernel_rfl) (fun _ _ _ h => h) (Or.inl ⟨by kernel_rfl, ?_⟩) (by assumption) ?_
    rotate_left
    ·intro w hSw
     try dsimp only at hSw
     go_simp
     try with_reducible rfl
    try simp only [List.getElem_toArray, List.getElem_cons_zero, List.getElem_cons_succ, Act.put, List.setIfInBounds_toArray, List.set_cons_zero, List.set_cons_succ]
    refine wpAnyH_take (i := 13) (v := ?_) rfl (by kernel_rfl) (by kernel_rfl) (by kernel_rfl) (fun _ _ _ h => h) (Or.inl ⟨by kernel_rfl, ?_⟩) (by assumption) ?_
    rotate_left
    ·intro w hSw
     try dsimp only at hSw
     go_simp
     try with_reducible rfl
    try simp only [List.getElem_toArray, List.getElem_cons_zero, List.getElem_cons_succ, Act.put, List.setIfInBounds_toArray, List.set_cons_zero, List.set_cons_succ]
    refine wpAnyH_take (i := 14) (v := ?_) rfl (by kernel_rfl) (by kernel_rfl) (by kernel_rfl) (fun _ _ _ h => h) (Or.inl ⟨by kernel_rfl, ?_⟩) (by assumption) ?_
    rotate_left
    ·intro w hSw
     try dsimp only at hSw
     go_simp
     try with_reducible rfl
    try simp only [List.getElem_toArray, List.getElem_cons_zero, List.getElem_cons_succ, Act.put, List.setIfInBounds_toArray, List.set_cons_zero, List.set_cons_succ]
    refine wpAnyH_take (i := 15) (v := ?_) rfl (by kernel_rfl) (by kernel_rfl) (by kernel_rfl) (fun _ _ _ h => h) (Or.inl ⟨by kernel_rfl, ?_⟩) (by assumption) ?_
    rotate_left
    ·intro w hSw
     try dsimp only at hSw
     go_simp
     try with_reducible rfl
    try simp only [List.getElem_toArray, List.getElem_cons_zero, List.getElem_cons_succ, Act.put, List.setIfInBounds_toArray, List.set_cons_zero, List.set_cons_succ]
    refine wpAnyH_take (i := 16) (v := ?_) rfl (by kernel_rfl) (by kernel_rfl) (by kernel_rfl) (fun _ _ _ h => h) (Or.inl ⟨by kernel_rfl, ?_⟩) (by assumption) ?_
    rotate_left
    ·intro w hSw
     try dsimp only at hSw
     go_simp
     try with_reducible rfl
    try simp only [List.getElem_toArray, List.getElem_cons_zero, List.getElem_cons_succ, Act.put, List.setIfInBounds_toArray, List.set_cons_zero, List.set_cons_succ]
    refine wpAnyH_take (i := 17) (v := ?_) rfl (by kernel_rfl) (by kernel_rfl) (by kernel_rfl) (fun _ _ _ h => h) (Or.inl ⟨by kernel_rfl, ?_⟩) (by assumption) ?_
    rotate_left
    ·intro w hSw
     try dsimp only at hSw
     go_simp
     try with_reducible rfl
    try simp only [List.getElem_toArray, List.getElem_cons_zero, List.getElem_cons_succ, Act.put, List.setIfInBounds_toArray, List.set_cons_zero, List.set_cons_succ]
    refine wpAnyH_take (i := 18) (v := ?_) rfl (by kernel_rfl) (by kernel_rfl) (by kernel_rfl) (fun _ _ _ h => h) (Or.inl ⟨by kernel_rfl, ?_⟩) (by assumption) ?_
    rotate_left
    ·intro w hSw
     try dsimp only at hSw
     go_simp
     try with_reducible rfl
    try simp only [List.getElem_toArray, List.getElem_cons_zero, List.getElem_cons_succ, Act.put, List.setIfInBounds_toArray, List.set_cons_zero, List.set_cons_succ]
    refine wpAnyH_done (by kernel_rfl) ?_ _
    refine NoPanic.normal ?_
    clear hHeld keepS
    clear k3 k4
    have haS : a ≤ 1000 := by omega
    go_wp2_with fail
    go_loopw [5, 8, 45] (fun x5 _ x45 wx => ∃ (j : Nat) (v vN : Value) (D : DataW Unit) (n : Nat), x45 = .int .i64 j ∧ x5 = vN ∧ j ≤ firsts.length ∧ RI w wx b0 p m (.slice A0 sts.length c0) (.int .i64 s) (.int .i64 f) (.int .i64 most) v vN (inN sts a (firsts.take j) (S, next)).1 (inN sts a (firsts.take j) (S, next)).2 D n ∧ Below b0 w wx) (fun _ _ x45 _ => firsts.length - (intOf x45).toNat)
    case atStart => exact ⟨0, _, _, _, _, rfl, rfl, by omega, HRI1.out.call (Go.Proofs.YtfjemaeidmikmaaDoor.bel_drew (Below.refl _ _)), below_drew HB1.out⟩
    case round =>
     clear HRI1 HB1
     obtain ⟨j, v2, vN2, D2, n2, rfl, rfl, hj, hri, hb⟩ := hrel
     by_cases hlt : j < firsts.length
     ·have hf2 : Kd.R (Kd.int .i64) 3 wr b0 (fun k => k ≠ p ∧ k ≠ m) (.slice Af firsts.length cf) firsts := Kd.R_step HF.out (fun k hk hkl => hri.keep k hkl hk.1 hk.2)
      obtain ⟨adf, x, rfl, hx, cx⟩ := (reads_of_C (Kd.R_reads' hf2).2.2).int hlt
      have hxb := HFR.out x (List.mem_of_getElem? hx)
      have htk := inN_take sts a firsts (S, next) hx
      have HTK := Lib.hid htk
      have hl1 := HLEN.out (firsts.take j)
      have hok1 := HOKI.out (firsts.take j)
      have hjl : (firsts.take j).length = j := by rw [List.length_take]; omega
      rw [hjl] at hl1
      clear htk hf2 hx hjl
      generalize inN sts a (firsts.take j) (S, next) = q at *
      have hq1 : S.length ≤ q.1.length := hl1.1
      have hq2 : q.1.length ≤ S.length + j := hl1.2.1
      have hq3 : q.2.length = next.length + j := hl1.2.2
      obtain ⟨ads, css, A1, c1, rfl, ce, hce, hC⟩ := hri.elem (a := a) (by omega)
      obtain ⟨k0, k1, k2, k3, k4, k5, k6⟩ := hri.sb.cells
      have hokt := hok1 (q.1.getD a []) (getD_mem (by omega))
      have htk2 : inN sts a (firsts.take (j + 1)) (S, next) = ((knS q.1 (toT sts (q.1.getD a []) x)).1, q.2 ++ [((knS q.1 (toT sts (q.1.getD a []) x)).2 : Int)]) := HTK.out
      generalize q.1.getD a [] = T1 at *
      have HTK2 := Lib.hid htk2
      have hX := to_sb A0 c0 sts s f p A1 c1 T1 x wr (HR.out wr hb) hc HRN.out HW.out k0 k1 k2 hC hce hokt.1 hxb.1 hxb.2
      have hoT := okT_to sts T1 x hn
      generalize toT sts T1 x = T2 at *
      have HX := Lib.hid hX
      have HRI3 := Lib.hid hri
      have HB3 := Lib.hid hb
      have HOT := Lib.hid hoT
      have HJ : (j : Int) < (firsts.length : Int) := by omega
      have HA : (a : Int) < (q.1.length : Int) := by omega
      clear hX hri hb hC hce hokt hok1 hl1 k5 k6 HTK htk2 hoT
      go_wp2_with fail
      refine HX.out.mono ?_
      rintro e w3 ⟨A2, c2, rfl, hR2, hb3⟩
      have hri3 := HRI3.out.call hb3
      have hz3 := hb3.size
      have hst := state_sb hri3.sb (show q.1.length ≤ 100000 by omega) hri3.fresh (Nat.le_trans hle hri3.size) A2 c2 T2 (Kd.R_mono (Kd.R_lower (Kd.R_bound hR2) (Nat.le_trans hle HRI3.out.size)) (fun k hk => ⟨HRI3.out.fresh k hk.2.1, (HRI3.out.freshN k hk.2.1).2⟩)) HOT.out
      have HST := Lib.hid hst
      have HRI4 := Lib.hid hri3
      have HB4 := Lib.hid ((HB3.out).trans (hb3.mono (Nat.le_trans hle HRI3.out.size)))
      clear hst hri3 hR2 hb3 ce k0 k1 k2 k3 k4
      go_wp2_with fail
      refine HST.out.mono ?_
      rintro e w4 ⟨v4, D4, n4, rfl, hB4, hS4, hb4⟩
      have hri4 := HRI4.out.state hB4 hS4
      have hnl4 : (q.2.length + 1) * 8 ≤ 140737488355328 := by
       have := HNL.out
       have h1 : a * firsts.length ≤ 1000 * 259 := Nat.mul_le_mul haS hfl
       omega
      have HRI5 := Lib.hid hri4
      have HB5 := Lib.hid (HB4.out.trans hb4)
      have hfn := hri4.freshN
      have HFN := Lib.hid hfn
      have hkl := knS_len q.1 T2
      clear hB4 hS4 hb4 hri4 hfn
      go_wp2_with (at_builtin; refine Kd.R_append (Kd.int .i64) (w0 := w) b0 rfl (.tmp 49) (.tmp 62) 27 3 (.int .i64 0) 8 rfl Tryd.underlying27 info_i64 rfl (by decide) (by omega) _ q.2 ((knS q.1 T2).2 : Int) [.int .i64 ((knS q.1 T2).2 : Int)] _ (fun _ => False) rfl rfl rfl (fun _ hk => hk.elim) HFN.out HRI5.out.nx HB5.out (Nat.le_trans hle HRI5.out.size) hnl4 ?_; intro v5 w5 hN5 hb5 hg5 hat5; have HRI6 := Lib.hid (HRI5.out.app hN5 hg5 hat5); have HB6 := Lib.hid hb5; clear hN5 hb5 hg5 hat5)
      go_roundw
      case rel =>
       refine ⟨j + 1, v4, v5, D4, n4, by go_num, rfl, by omega, ?_, HB6.out⟩
       rw [HTK2.out]
       exact HRI6.out
      case measure => simp [intOf] <;> omega
     ·obtain rfl : j = firsts.length := by omega
      have htk : firsts.take firsts.length = firsts := List.take_length
      rw [htk] at hri
      have hl1 := HLEN.out firsts
      have hok1 := HOKI.out firsts
      generalize inN sts a firsts (S, next) = q at *
      have HRI3 := Lib.hid hri
      have HB3 := Lib.hid hb
      have hq3 : q.2.length = next.length + firsts.length := hl1.2.2
      clear hri hb
      go_wp2_with fail
      go_roundw
      case rel =>
       refine ⟨a + 1, q.1, q.2, v2, _, D2, n2, by go_num, rfl, by omega, HRI3.out, HB3.out, hok1, ?_, ?_⟩
       ·rw [hq3, HNL.out, Nat.succ_mul]
       ·rw [← HGO.out, show K - a - 1 = K - (a + 1) by omega]
      case measure => simp [intOf] <;> omega
   ·have hst := outN_stop sts firsts most (K - a) a (S, next) (fun h => hm2 h.2)
    have HRQ := Lib.hid (HOUT.out.symm.trans hst)
    clear hst
    go_upto_region 4 with fail
    have keepS : ∀ w', Below wr.heap.size wr w' → (w'.cell? ⟨p, 3, none⟩ = some (.int .i64 most) ∧ w'.cell? ⟨p, 4, none⟩ = some (.slice As S.length cs)) := fun w' hX => ⟨Go.Proofs.YtfjemaeidmikmaaDoor.cell_below hX k3, Go.Proofs.YtfjemaeidmikmaaDoor.cell_below hX k4⟩
    refine wp_region_noPanic ?_
    refine wp_region_held_drew (S := fun w' => w'.cell? ⟨p, 3, none⟩ = some (.int .i64 most) ∧ w'.cell? ⟨p, 4, none⟩ = some (.slice As S.length cs)) (by kernel_rfl) (keepS _ (Go.Proofs.YtfjemaeidmikmaaDoor.bel_drew (Below.refl _ _))) (fun hHeld => ?_)
    refine wpAnyH_take (i := 0) (v := ?_) rfl (by kernel_rfl) (by kernel_rfl) (by kernel_rfl) (fun _ _ _ h => h) (Or.inl ⟨by kernel_rfl, ?_⟩) (by assumption) ?_
    rotate_left
    ·intro w hSw
     try dsimp only at hSw
     go_simp
     try with_reducible rfl
    try simp only [List.getElem_toArray, List.getElem_cons_zero, List.getElem_cons_succ, Act.put, List.setIfInBounds_toArray, List.set_cons_zero, List.set_cons_succ]
    refine wpAnyH_take (i := 1) (v := ?_) rfl (by kernel_rfl) (by kernel_rfl) (by kernel_rfl) (fun _ _ _ h => h) (Or.inl ⟨by kernel_rfl, ?_⟩) (by assumption) ?_
    rotate_left
    ·intro w hSw
     try dsimp only at hSw
     go_simp
     try with_reducible rfl
    try simp only [List.getElem_toArray, List.getElem_cons_zero, List.getElem_cons_succ, Act.put, List.setIfInBounds_toArray, List.set_cons_zero, List.set_cons_succ]
    refine wpAnyH_take (i := 2) (v := ?_) rfl (by kernel_rfl) (by kernel_rfl) (by kernel_rfl) (fun _ _ _ h => h) (Or.inl ⟨by kernel_rfl, ?_⟩) (by assumption) ?_
    rotate_left
    ·intro w hSw
     try dsimp only at hSw
     go_simp
     try with_reducible rfl
    try simp only [List.getElem_toArray, List.getElem_cons_zero, List.getElem_cons_succ, Act.put, List.setIfInBounds_toArray, List.set_cons_zero, List.set_cons_succ]
    refine wpAnyH_take (i := 3) (v := ?_) rfl (by kernel_rfl) (by kernel_rfl) (by kernel_rfl) (fun _ _ _ h => h) (Or.inl ⟨by kernel_rfl, ?_⟩) (by assumption) ?_
    rotate_left
    ·intro w hSw
     try dsimp only at hSw
     go_simp
     try with_reducible rfl
    try simp only [List.getElem_toArray, List.getElem_cons_zero, List.getElem_cons_succ, Act.put, List.setIfInBounds_toArray, List.set_cons_zero, List.set_cons_succ]
    refine wpAnyH_take (i := 4) (v := ?_) rfl (by kernel_rfl) (by kernel_rfl) (by kernel_rfl) (fun _ _ _ h => h) (Or.inl ⟨by kernel_rfl, ?_⟩) (by assumption) ?_
    rotate_left
    ·intro w hSw
     try dsimp only at hSw
     go_simp
     try with_reducible rfl
    try simp only [List.getElem_toArray, List.getElem_cons_zero, List.getElem_cons_succ, Act.put, List.setIfInBounds_toArray, List.set_cons_zero, List.set_cons_succ]
    refine wpAnyH_take (i := 5) (v := ?_) rfl (by kernel_rfl) (by kernel_rfl) (by kernel_rfl) (fun _ _ _ h => h) (Or.inl ⟨by kernel_rfl, ?_⟩) (by assumption) ?_
    rotate_left
    ·intro w hSw
     try dsimp only at hSw
     go_simp
     try with_reducible rfl
    try simp only [List.getElem_toArray, List.getElem_cons_zero, List.getElem_cons_succ, Act.put, List.setIfInBounds_toArray, List.set_cons_zero, List.set_cons_succ]
    refine wpAnyH_take (i := 6) (v := ?_) rfl (by kernel_rfl) (by kernel_rfl) (by kernel_rfl) (fun _ _ _ h => h) (Or.inl ⟨by kernel_rfl, ?_⟩) (by assumption) ?_
    rotate_left
    ·intro w hSw
     try dsimp only at hSw
     go_simp
     try with_reducible rfl
    try simp only [List.getElem_toArray, List.getElem_cons_zero, List.getElem_cons_succ, Act.put, List.setIfInBounds_toArray, List.set_cons_zero, List.set_cons_succ]
    refine wpAnyH_take (i := 7) (v := ?_) rfl (by kernel_rfl) (by kernel_rfl) (by kernel_rfl) (fun _ _ _ h => h) (Or.inl ⟨by kernel_rfl, ?_⟩) (by assumption) ?_
    rotate_left
    ·intro w hSw
     try dsimp only at hSw
     go_simp
     try with_reducible rfl
    try simp only [List.getElem_toArray, List.getElem_cons_zero, List.getElem_cons_succ, Act.put, List.setIfInBounds_toArray, List.set_cons_zero, List.set_cons_succ]
    refine wpAnyH_take (i := 8) (v := ?_) rfl (by kernel_rfl) (by kernel_rfl) (by kernel_rfl) (fun _ _ _ h => h) (Or.inl ⟨by kernel_rfl, ?_⟩) (by assumption) ?_
    rotate_left
    ·intro w hSw
     try dsimp only at hSw
     go_simp
     try with_reducible rfl
    try simp only [List.getElem_toArray, List.getElem_cons_zero, List.getElem_cons_succ, Act.put, List.setIfInBounds_toArray, List.set_cons_zero, List.set_cons_succ]
    refine wpAnyH_take (i := 9) (v := ?_) rfl (by kernel_rfl) (by kernel_rfl) (by kernel_rfl) (fun _ _ _ h => h) (Or.inl ⟨by kernel_rfl, ?_⟩) (by assumption) ?_
    rotate_left
    ·intro w hSw
     try dsimp only at hSw
     go_simp
     try with_reducible rfl
    try simp only [List.getElem_toArray, List.getElem_cons_zero, List.getElem_cons_succ, Act.put, List.setIfInBounds_toArray, List.set_cons_zero, List.set_cons_succ]
    refine wpAnyH_take (i := 10) (v := ?_) rfl (by kernel_rfl) (by kernel_rfl) (by kernel_rfl) (fun _ _ _ h => h) (Or.inl ⟨by kernel_rfl, ?_⟩) (by assumption) ?_
    rotate_left
    ·intro w hSw
     try dsimp only at hSw
     go_simp
     try with_reducible rfl
    try simp only [List.getElem_toArray, List.getElem_cons_zero, List.getElem_cons_succ, Act.put, List.setIfInBounds_toArray, List.set_cons_zero, List.set_cons_succ]
    refine wpAnyH_take (i := 11) (v := ?_) rfl (by kernel_rfl) (by kernel_rfl) (by kernel_rfl) (fun _ _ _ h => h) (Or.inl ⟨by kernel_rfl, ?_⟩) (by assumption) ?_
    rotate_left
    ·intro w hSw
     try dsimp only at hSw
     go_simp
     try with_reducible rfl
    try simp only [List.getElem_toArray, List.getElem_cons_zero, List.getElem_cons_succ, Act.put, List.setIfInBounds_toArray, List.set_cons_zero, List.set_cons_succ]
    refine wpAnyH_take (i := 12) (v := ?_) rfl (by kernel_rfl) (by kernel_rfl) (by kernel_rfl) (fun _ _ _ h => h) (Or.inl ⟨by kernel_rfl, ?_⟩) (by assumption) ?_
    rotate_left
    ·intro w hSw
     try dsimp only at hSw
     go_simp
     try with_reducible rfl
    try simp only [List.getElem_toArray, List.getElem_cons_zero, List.getElem_cons_succ, Act.put, List.setIfInBounds_toArray, List.set_cons_zero, List.set_cons_succ]
    refine wpAnyH_take (i := 13) (v := ?_) rfl (by kernel_rfl) (by kernel_rfl) (by kernel_rfl) (fun _ _ _ h => h) (Or.inl ⟨by kernel_rfl, ?_⟩) (by assumption) ?_
    rotate_left
    ·intro w hSw
     try dsimp only at hSw
     go_simp
     try with_reducible rfl
    try simp only [List.getElem_toArray, List.getElem_cons_zero, List.getElem_cons_succ, Act.put, List.setIfInBounds_toArray, List.set_cons_zero, List.set_cons_succ]
    refine wpAnyH_take (i := 14) (v := ?_) rfl (by kernel_rfl) (by kernel_rfl) (by kernel_rfl) (fun _ _ _ h => h) (Or.inl ⟨by kernel_rfl, ?_⟩) (by assumption) ?_
    rotate_left
    ·intro w hSw
     try dsimp only at hSw
     go_simp
     try with_reducible rfl
    try simp only [List.getElem_toArray, List.getElem_cons_zero, List.getElem_cons_succ, Act.put, List.setIfInBounds_toArray, List.set_cons_zero, List.set_cons_succ]
    refine wpAnyH_take (i := 15) (v := ?_) rfl (by kernel_rfl) (by kernel_rfl) (by kernel_rfl) (fun _ _ _ h => h) (Or.inl ⟨by kernel_rfl, ?_⟩) (by assumption) ?_
    rotate_left
    ·intro w hSw
     try dsimp only at hSw
     go_simp
     try with_reducible rfl
    try simp only [List.getElem_toArray, List.getElem_cons_zero, List.getElem_cons_succ, Act.put, List.setIfInBounds_toArray, List.set_cons_zero, List.set_cons_succ]
    refine wpAnyH_take (i := 16) (v := ?_) rfl (by kernel_rfl) (by kernel_rfl) (by kernel_rfl) (fun _ _ _ h => h) (Or.inl ⟨by kernel_rfl, ?_⟩) (by assumption) ?_
    rotate_left
    ·intro w hSw
     try dsimp only at hSw
     go_simp
     try with_reducible rfl
    try simp only [List.getElem_toArray, List.getElem_cons_zero, List.getElem_cons_succ, Act.put, List.setIfInBounds_toArray, List.set_cons_zero, List.set_cons_succ]
    refine wpAnyH_take (i := 17) (v := ?_) rfl (by kernel_rfl) (by kernel_rfl) (by kernel_rfl) (fun _ _ _ h => h) (Or.inl ⟨by kernel_rfl, ?_⟩) (by assumption) ?_
    rotate_left
    ·intro w hSw
     try dsimp only at hSw
     go_simp
     try with_reducible rfl
    try simp only [List.getElem_toArray, List.getElem_cons_zero, List.getElem_cons_succ, Act.put, List.setIfInBounds_toArray, List.set_cons_zero, List.set_cons_succ]
    refine wpAnyH_take (i := 18) (v := ?_) rfl (by kernel_rfl) (by kernel_rfl) (by kernel_rfl) (fun _ _ _ h => h) (Or.inl ⟨by kernel_rfl, ?_⟩) (by assumption) ?_
    rotate_left
    ·intro w hSw
     try dsimp only at hSw
     go_simp
     try with_reducible rfl
    try simp only [List.getElem_toArray, List.getElem_cons_zero, List.getElem_cons_succ, Act.put, List.setIfInBounds_toArray, List.set_cons_zero, List.set_cons_succ]
    refine wpAnyH_done (by kernel_rfl) ?_ _
    refine NoPanic.normal ?_
    clear hHeld keepS
    clear k3 k4
    go_wp2_with fail
    go_ret
    refine ⟨.slice As S.length cs, _, rfl, ⟨D1, n1, ?_⟩, below_drew HB1.out⟩
    rw [HRR.out, HRQ.out]
    exact HRI1.out.call (Go.Proofs.YtfjemaeidmikmaaDoor.bel_drew (Below.refl _ _))
  ·have hg' : ¬ (a : Int) < (S.length : Int) := by omega
   have hst := outN_stop sts firsts most (K - a) a (S, next) (fun h => hg h.1)
   have HRQ := Lib.hid (HOUT.out.symm.trans hst)
   clear hst
   go_upto_region 4 with fail
   have keepS : ∀ w', Below wr.heap.size wr w' → (w'.cell? ⟨p, 3, none⟩ = some (.int .i64 most) ∧ w'.cell? ⟨p, 4, none⟩ = some (.slice As S.length cs)) := fun w' hX => ⟨Go.Proofs.YtfjemaeidmikmaaDoor.cell_below hX k3, Go.Proofs.YtfjemaeidmikmaaDoor.cell_below hX k4⟩
   refine wp_region_noPanic ?_
   refine wp_region_held_drew (S := fun w' => w'.cell? ⟨p, 3, none⟩ = some (.int .i64 most) ∧ w'.cell? ⟨p, 4, none⟩ = some (.slice As S.length cs)) (by kernel_rfl) (keepS _ (Go.Proofs.YtfjemaeidmikmaaDoor.bel_drew (Below.refl _ _))) (fun hHeld => ?_)
   refine wpAnyH_take (i := 0) (v := ?_) rfl (by kernel_rfl) (by kernel_rfl) (by kernel_rfl) (fun _ _ _ h => h) (Or.inl ⟨by kernel_rfl, ?_⟩) (by assumption) ?_
   rotate_left
   ·intro w hSw
    try dsimp only at hSw
    go_simp
    try with_reducible rfl
   try simp only [List.getElem_toArray, List.getElem_cons_zero, List.getElem_cons_succ, Act.put, List.setIfInBounds_toArray, List.set_cons_zero, List.set_cons_succ]
   refine wpAnyH_take (i := 1) (v := ?_) rfl (by kernel_rfl) (by kernel_rfl) (by kernel_rfl) (fun _ _ _ h => h) (Or.inl ⟨by kernel_rfl, ?_⟩) (by assumption) ?_
   rotate_left
   ·intro w hSw
    try dsimp only at hSw
    go_simp
    try with_reducible rfl
   try simp only [List.getElem_toArray, List.getElem_cons_zero, List.getElem_cons_succ, Act.put, List.setIfInBounds_toArray, List.set_cons_zero, List.set_cons_succ]
   refine wpAnyH_take (i := 2) (v := ?_) rfl (by kernel_rfl) (by kernel_rfl) (by kernel_rfl) (fun _ _ _ h => h) (Or.inl ⟨by kernel_rfl, ?_⟩) (by assumption) ?_
   rotate_left
   ·intro w hSw
    try dsimp only at hSw
    go_simp
    try with_reducible rfl
   try simp only [List.getElem_toArray, List.getElem_cons_zero, List.getElem_cons_succ, Act.put, List.setIfInBounds_toArray, List.set_cons_zero, List.set_cons_succ]
   refine wpAnyH_take (i := 3) (v := ?_) rfl (by kernel_rfl) (by kernel_rfl) (by kernel_rfl) (fun _ _ _ h => h) (Or.inl ⟨by kernel_rfl, ?_⟩) (by assumption) ?_
   rotate_left
   ·intro w hSw
    try dsimp only at hSw
    go_simp
    try with_reducible rfl
   try simp only [List.getElem_toArray, List.getElem_cons_zero, List.getElem_cons_succ, Act.put, List.setIfInBounds_toArray, List.set_cons_zero, List.set_cons_succ]
   refine wpAnyH_take (i := 4) (v := ?_) rfl (by kernel_rfl) (by kernel_rfl) (by kernel_rfl) (fun _ _ _ h => h) (Or.inl ⟨by kernel_rfl, ?_⟩) (by assumption) ?_
   rotate_left
   ·intro w hSw
    try dsimp only at hSw
    go_simp
    try with_reducible rfl
   try simp only [List.getElem_toArray, List.getElem_cons_zero, List.getElem_cons_succ, Act.put, List.setIfInBounds_toArray, List.set_cons_zero, List.set_cons_succ]
   refine wpAnyH_take (i := 5) (v := ?_) rfl (by kernel_rfl) (by kernel_rfl) (by kernel_rfl) (fun _ _ _ h => h) (Or.inl ⟨by kernel_rfl, ?_⟩) (by assumption) ?_
   rotate_left
   ·intro w hSw
    try dsimp only at hSw
    go_simp
    try with_reducible rfl
   try simp only [List.getElem_toArray, List.getElem_cons_zero, List.getElem_cons_succ, Act.put, List.setIfInBounds_toArray, List.set_cons_zero, List.set_cons_succ]
   refine wpAnyH_take (i := 6) (v := ?_) rfl (by kernel_rfl) (by kernel_rfl) (by kernel_rfl) (fun _ _ _ h => h) (Or.inl ⟨by kernel_rfl, ?_⟩) (by assumption) ?_
   rotate_left
   ·intro w hSw
    try dsimp only at hSw
    go_simp
    try with_reducible rfl
   try simp only [List.getElem_toArray, List.getElem_cons_zero, List.getElem_cons_succ, Act.put, List.setIfInBounds_toArray, List.set_cons_zero, List.set_cons_succ]
   refine wpAnyH_take (i := 7) (v := ?_) rfl (by kernel_rfl) (by kernel_rfl) (by kernel_rfl) (fun _ _ _ h => h) (Or.inl ⟨by kernel_rfl, ?_⟩) (by assumption) ?_
   rotate_left
   ·intro w hSw
    try dsimp only at hSw
    go_simp
    try with_reducible rfl
   try simp only [List.getElem_toArray, List.getElem_cons_zero, List.getElem_cons_succ, Act.put, List.setIfInBounds_toArray, List.set_cons_zero, List.set_cons_succ]
   refine Sk.skips (by kernel_rfl) (fun _ _ _ _ _ h => h) [(8, 30), (13, 35)] _ _ _ _ (by kernel_rfl) (by assumption) ?_
   simp only [Sk.skipL, Sk.skipA]
   try simp only [List.getElem_toArray, List.getElem_cons_zero, List.getElem_cons_succ, Act.put, List.setIfInBounds_toArray, List.set_cons_zero, List.set_cons_succ]
   refine Sk.skips (by kernel_rfl) (fun _ _ _ _ _ h => h) [(9, 31), (14, 36)] _ _ _ _ (by kernel_rfl) (by assumption) ?_
   simp only [Sk.skipL, Sk.skipA]
   try simp only [List.getElem_toArray, List.getElem_cons_zero, List.getElem_cons_succ, Act.put, List.setIfInBounds_toArray, List.set_cons_zero, List.set_cons_succ]
   refine Sk.skips (by kernel_rfl) (fun _ _ _ _ _ h => h) [(10, 32), (15, 37)] _ _ _ _ (by kernel_rfl) (by assumption) ?_
   simp only [Sk.skipL, Sk.skipA]
   try simp only [List.getElem_toArray, List.getElem_cons_zero, List.getElem_cons_succ, Act.put, List.setIfInBounds_toArray, List.set_cons_zero, List.set_cons_succ]
   refine Sk.skips (by kernel_rfl) (fun _ _ _ _ _ h => h) [(11, 33), (16, 38)] _ _ _ _ (by kernel_rfl) (by assumption) ?_
   simp only [Sk.skipL, Sk.skipA]
   try simp only [List.getElem_toArray, List.getElem_cons_zero, List.getElem_cons_succ, Act.put, List.setIfInBounds_toArray, List.set_cons_zero, List.set_cons_succ]
   refine Sk.skips (by kernel_rfl) (fun _ _ _ _ _ h => h) [(12, 34)] _ _ _ _ (by kernel_rfl) (by assumption) ?_
   simp only [Sk.skipL, Sk.skipA]
   try simp only [List.getElem_toArray, List.getElem_cons_zero, List.getElem_cons_succ, Act.put, List.setIfInBounds_toArray, List.set_cons_zero, List.set_cons_succ]
   refine Sk.skips (by kernel_rfl) (fun _ _ _ _ _ h => h) [(17, 39)] _ _ _ _ (by kernel_rfl) (by assumption) ?_
   simp only [Sk.skipL, Sk.skipA]
   try simp only [List.getElem_toArray, List.getElem_cons_zero, List.getElem_cons_succ, Act.put, List.setIfInBounds_toArray, List.set_cons_zero, List.set_cons_succ]
   refine wpAnyH_take (i := 18) (v := ?_) rfl (by kernel_rfl) (by kernel_rfl) (by kernel_rfl) (fun _ _ _ h => h) (Or.inl ⟨by kernel_rfl, ?_⟩) (by assumption) ?_
   rotate_left
   ·intro w hSw
    try dsimp only at hSw
    go_simp
    try with_reducible rfl
   try simp only [List.getElem_toArray, List.getElem_cons_zero, List.getElem_cons_succ, Act.put, List.setIfInBounds_toArray, List.set_cons_zero, List.set_cons_succ]
   refine wpAnyH_done (by kernel_rfl) ?_ _
   refine NoPanic.normal ?_
   clear hHeld keepS
   clear k3 k4
   go_wp2_with fail
   go_ret
   refine ⟨.slice As S.length cs, _, rfl, ⟨D1, n1, ?_⟩, below_drew HB1.out⟩
   rw [HRR.out, HRQ.out]
   exact HRI1.out.call (Go.Proofs.YtfjemaeidmikmaaDoor.bel_drew (Below.refl _ _))
end Go.Proofs.YtfjemaeidmikmaaDoorQ
