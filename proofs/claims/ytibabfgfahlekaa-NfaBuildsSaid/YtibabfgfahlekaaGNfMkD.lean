/- Pruned from its seat's text: what the theorem hangs on. -/
import Derived.Test.YtibabfgfahlekaaGNfRef1
import Derived.Test.YtibabfgfahlekaaGNfMk0
import Derived.Test.YtibabfgfahlekaaGM3
import Derived.Test.YtibabfgfahlekaaGM2
import Derived.Deep.RegionHeld3
import Derived.KernelRfl
/- The document's Make at kind 6. -/
set_option linter.unusedVariables false
set_option linter.unusedSimpArgs false
namespace Go.Proofs.YtibabfgfahlekaaQ
open Go.RowKit Go.Proofs.YtibabfgfahlekaaW.PrintWords Go.Proofs.YtibabfgfahlekaaW.PrintLast Go.Proofs.Bs Go.Proofs.Ytibabfgfahlekaa

set_option maxRecDepth 100000 in
set_option maxHeartbeats 6400000 in
theorem make_k6 (A0 : Option Addr) (nn c0 : Nat) (l : List Nd) (hr : rightB l = true) (hnn : nn ≤ 1000000) (w0 : World) (hR : Reads w0 7 A0 nn (l.flatMap Nd.cells)) (i : Nat) (hi : i < l.length)
    (ih : ∀ m, m < i → m < l.length → MakeC (.slice A0 nn c0) m (attr fMk l m) (attr fSz l m) w0) (hkd : l[i].kind = 6) : MakeC (.slice A0 nn c0) i (attr fMk l i) (attr fSz l i) w0 := by
    obtain ⟨_, hall, _⟩ := (rightB_iff l).1 hr
    intro w sts A c hr0 hc h0 hsz
    have hf := (hall i hi).1
    have hx : l[i]? = some l[i] := List.getElem?_eq_getElem hi
    have hgx : l.getD i zNd = l[i] := by rw [List.getD_eq_getElem?_getD, hx]; rfl
    obtain ⟨ha, _⟩ := stack_room l hr i _ hx
    have hlen := kidsP_length l i _ hx hf
    have hfl := (hall i hi).2
    have hok := kidsP_ok l i hi hf
    have hmk := attr_eq fMk l i hi hf
    have hsz' := attr_eq fSz l i hi hf
    have hkok := fun y (hy : y ∈ kidsP l i) => mk_ok l hr y.toNat (by have := hok y hy; omega)
    have hkc := fun y (hy : y ∈ kidsP l i) => ih y.toNat (by have := hok y hy; omega) (by have := hok y hy; omega)
    have hln : l.length = nn := by have := hR.1; rw [flat_length Nd.cells 7 Nd.cells_length] at this; omega
    have hinn : i < nn := by omega
    rw [hgx] at hfl hmk hsz'
    have HR1 := Lib.hid (hR.below h0)
    have hx2 := hx
    generalize l[i] = x at *
    have hkids := rkids_any A0 nn c0 l i (w.alloc (.cells #[.slice none 0 0, .int .i64 0, .int .i64 0] 79)) (HR1.out.below (Go.Proofs.Ytibabfgfahlekaa.bel_alloc (Below.refl _ _) _)) hnn (by omega) hf
    have had : ∀ ad, A0 = some ad → ad.block < w.heap.size := fun ad e => by
      obtain ⟨ad', x', e', _, k0, _⟩ := HR1.out.nd (show i < nn by omega)
      have := World.block_lt_of_cell? _ _ k0
      have e2 : ad = ad' := Option.some.inj (e.symm.trans e')
      rw [e2]
      have h3 : (ad'.add (i * 7)).block = ad'.block := by unfold Addr.add; split <;> rfl
      omega
    have HAD := Lib.hid had
    clear had
    rw [hmk]
    rw [hsz'] at hsz
    clear hall hf hgx hmk hsz' ih
    generalize kidsP l i = ks at *
    have HCC := Lib.hid hr0
    have H0 := Lib.hid h0
    have HX := Lib.hid hx
    have HK := Lib.hid hkids
    have HKO := Lib.hid hkok
    have HKC := Lib.hid hkc
    clear hr0 h0 hx hx2 hkids hkok hkc
    obtain ⟨kd, ⟨s0, s1, s2, s3⟩, lo, hi'⟩ := x
    simp only at ha hlen hfl hsz hkd ⊢
    subst hkd
    have hlen2 : ks.length = 2 := hlen
    obtain ⟨y, z, rfl⟩ : ∃ y z : Nat, ks = [(y : Int), (z : Int)] := by
      match ks, hlen2, hok with
      | [y, z], _, hok =>
        have h_y := hok y (by simp)
        have h_z := hok z (by simp)
        exact ⟨y.toNat, z.toNat, by rw [Int.toNat_of_nonneg (by omega), Int.toNat_of_nonneg (by omega)]⟩
    have hko_y := HKO.out y (by simp)
    have hkc_y := HKC.out y (by simp)
    have hko_z := HKO.out z (by simp)
    have hkc_z := HKC.out z (by simp)
    rw [Int.toNat_natCast] at hko_y hkc_y hko_z hkc_z
    simp only [List.map_cons, List.map_nil, Int.toNat_natCast] at hsz ⊢
    generalize attr fMk l y = my at *
    generalize attr fSz l y = ny at *
    have HK_y := Lib.hid hkc_y
    generalize attr fMk l z = mz at *
    generalize attr fSz l z = nz at *
    have HK_z := Lib.hid hkc_z
    have hAx := hko_y sts
    have hBx := hko_z (my sts).out
    obtain ⟨oa, hoa⟩ : ∃ oa, (my sts).out = oa := ⟨_, rfl⟩
    obtain ⟨fa, hfa⟩ : ∃ fa, (my sts).first = fa := ⟨_, rfl⟩
    obtain ⟨la, hla⟩ : ∃ la, (my sts).last = la := ⟨_, rfl⟩
    rw [hoa, hfa, hla] at hAx
    rw [hoa] at hBx
    obtain ⟨ob, hob⟩ : ∃ ob, (mz oa).out = ob := ⟨_, rfl⟩
    obtain ⟨fb, hfb⟩ : ∃ fb, (mz oa).first = fb := ⟨_, rfl⟩
    obtain ⟨lb, hlb⟩ : ∃ lb, (mz oa).last = lb := ⟨_, rfl⟩
    rw [hob, hfb, hlb] at hBx
    have HO := Lib.hid (And.intro hoa (And.intro hfa (And.intro hla (And.intro hob (And.intro hfb hlb)))))
    simp only [fSz] at hsz
    obtain ⟨R, hRM⟩ : ∃ R, fMk ⟨6, ⟨s0, s1, s2, s3⟩, lo, hi'⟩ [my, mz] sts = R := ⟨_, rfl⟩
    rw [hRM]
    have HRM := Lib.hid hRM
    clear hRM
    have hszz : sts.length + (ny + nz + 2) ≤ 900000 := hsz
    have hM : fMk ⟨6, ⟨s0, s1, s2, s3⟩, lo, hi'⟩ [my, mz] sts = ⟨putA (putA (ob ++ [kSt 3 fa fb] ++ [eSt]) la (ob.length + 1 : Nat)) lb (ob.length + 1 : Nat), ob.length, ob.length + 1⟩ := by show orM my mz sts = _; unfold orM; simp only [hoa, hfa, hla, hob, hfb, hlb]
    have HRM := Lib.hid (hM.symm.trans HRM.out)
    have hx1 : la < ob.length := by omega
    have hx2 : lb < ob.length := by omega
    have hx3 : ob.length ≤ 900000 := by omega
    have hx4 : oa.length + nz ≤ 900000 := by omega
    clear hM hsz hoa hfa hla hob hfb hlb hAx hBx hko_y hko_z hkc_y hkc_z hlen hlen2 hok
    go_enter Try.func40, Try.ntmps40
    go_wp2_with fail
    refine HK.out.mono ?_
    rintro e w1 ⟨A1, c1, rfl, hOk, hb⟩
    have hbN : Below w.heap.size w w1 := (Go.Proofs.Ytibabfgfahlekaa.bel_alloc (Below.refl _ _) _).trans (hb.mono (by simp))
    have hrow : w1.heap[w.heap.size]? = some (.cells #[.slice none 0 0, .int .i64 0, .int .i64 0] 79) := (hb.block w.heap.size (by simp)).trans (heap_alloc_new w _)
    obtain ⟨ad, x', rfl, hx', k0, k1, k2, k3, k4, k5, k6⟩ := (HR1.out.below hbN).nd (show i < nn by omega)
    obtain rfl : _ = x' := Option.some.inj (HX.out.symm.trans hx')
    simp only at k0 k1 k2 k3 k4 k5 k6
    have hadN : ad.block < w.heap.size := HAD.out ad rfl
    have hN1 : w.heap.size < w1.heap.size := (Array.getElem?_eq_some_iff.1 hrow).1
    have HROW := Lib.hid hrow
    have HOK := Lib.hid hOk
    have HBN := Lib.hid hbN
    have HC1 := Lib.hid (Kd.C_below HCC.out hbN)
    have H01 := Lib.hid (H0.out.trans (hbN.mono H0.out.size))
    clear hx' hOk hb hbN hrow
    obtain ⟨gk, capk, hvk, hgk, hltk⟩ := HOK.out.form (by simp)
    injection hvk with hvA _ _
    subst hvA
    have hgk2 : w.heap.size + 1 ≤ gk := by simpa using hgk
    have r0 : w1.cell? ⟨gk, 0, none⟩ = some (.int .i64 y) := HOK.out.cellAt 0 (by simp [Go.Proofs.Ytibabfgfahlekaa.ints])
    have r1 : w1.cell? ⟨gk, 1, none⟩ = some (.int .i64 z) := HOK.out.cellAt 1 (by simp [Go.Proofs.Ytibabfgfahlekaa.ints])
    go_wp2_with fail
    refine (HK_y.out w1 sts A c HC1.out hc H01.out (by omega)).mono ?_
    rintro e w2 ⟨A2, c2, m2, rfl, hm2, hO2, hb2⟩
    rw [HO.out.1] at hm2 hO2
    rw [HO.out.2.1, HO.out.2.2.1]
    subst hm2
    replace r1 := Go.Proofs.Ytibabfgfahlekaa.cell_below hb2 r1
    replace k0 := Go.Proofs.Ytibabfgfahlekaa.cell_below hb2 k0
    have hN2 : w.heap.size < w2.heap.size := Nat.lt_of_lt_of_le hN1 hb2.size
    have HRW2 := Lib.hid ((hb2.block w.heap.size hN1).trans HROW.out)
    have HBN2 := Lib.hid (HBN.out.trans (hb2.mono (Nat.le_of_lt hN1)))
    have H02 := Lib.hid (Go.Proofs.Ytibabfgfahlekaa.bel_then H01.out hb2)
    have HO2 := Lib.hid hO2
    clear hO2 hb2 r0 k1 k2 k3 k4 k5 k6
    go_wp2_with fail
    have x0 : (w2.alloc (.cells #[.slice A2 oa.length c2, .int .i64 fa, .int .i64 la] 79)).cell? ⟨w2.heap.size, 0, none⟩ = some (.slice A2 oa.length c2) := by rw [cell_of_row _ _ 0 _ _ _ (heap_alloc_new w2 _)]; rfl
    have x1 : (w2.alloc (.cells #[.slice A2 oa.length c2, .int .i64 fa, .int .i64 la] 79)).cell? ⟨w2.heap.size, 1, none⟩ = some (.int .i64 fa) := by rw [cell_of_row _ _ 1 _ _ _ (heap_alloc_new w2 _)]; rfl
    have x2 : (w2.alloc (.cells #[.slice A2 oa.length c2, .int .i64 fa, .int .i64 la] 79)).cell? ⟨w2.heap.size, 2, none⟩ = some (.int .i64 la) := by rw [cell_of_row _ _ 2 _ _ _ (heap_alloc_new w2 _)]; rfl
    replace r1 := Go.Proofs.Ytibabfgfahlekaa.cell_alloc r1 (.cells #[.slice A2 oa.length c2, .int .i64 fa, .int .i64 la] 79)
    replace k0 := Go.Proofs.Ytibabfgfahlekaa.cell_alloc k0 (.cells #[.slice A2 oa.length c2, .int .i64 fa, .int .i64 la] 79)
    have HO3 := Lib.hid (HO2.out.alloc (.cells #[.slice A2 oa.length c2, .int .i64 fa, .int .i64 la] 79))
    have HRW3 := Lib.hid ((((Below.refl w2.heap.size w2).alloc (Nat.le_refl _) (.cells #[.slice A2 oa.length c2, .int .i64 fa, .int .i64 la] 79)).block w.heap.size hN2).trans HRW2.out)
    have HBN3 := Lib.hid (Go.Proofs.Ytibabfgfahlekaa.bel_alloc HBN2.out (.cells #[.slice A2 oa.length c2, .int .i64 fa, .int .i64 la] 79))
    have H03 := Lib.hid (Go.Proofs.Ytibabfgfahlekaa.bel_alloc H02.out (.cells #[.slice A2 oa.length c2, .int .i64 fa, .int .i64 la] 79))
    have hT3 : w2.heap.size < (w2.alloc (.cells #[.slice A2 oa.length c2, .int .i64 fa, .int .i64 la] 79)).heap.size := by simp
    obtain ⟨hcc, hKC⟩ := C_of_row' HO3.out rfl
    have HKC := Lib.hid hKC
    clear hKC
    generalize w2.alloc (.cells #[.slice A2 oa.length c2, .int .i64 fa, .int .i64 la] 79) = W3 at *
    have hgk3 : gk < W3.heap.size := World.block_lt_of_cell? W3 _ r1
    have hPk : ¬ W3.heap.size = gk := by omega
    have hPT : ¬ W3.heap.size = w2.heap.size := by omega
    have keepS : ∀ w', Below W3.heap.size W3 w' → (w'.cell? ⟨gk, 1, none⟩ = some (.int .i64 z) ∧ w'.cell? ⟨w2.heap.size, 0, none⟩ = some (.slice A2 oa.length c2)) := fun w' hX => ⟨Go.Proofs.Ytibabfgfahlekaa.cell_below hX r1, Go.Proofs.Ytibabfgfahlekaa.cell_below hX x0⟩
    refine wp_region_noPanic ?_
    refine wp_region_held_drew (S := fun w' => w'.cell? ⟨gk, 1, none⟩ = some (.int .i64 z) ∧ w'.cell? ⟨w2.heap.size, 0, none⟩ = some (.slice A2 oa.length c2)) (by kernel_rfl) (keepS _ (Go.Proofs.Ytibabfgfahlekaa.bel_drew (Below.refl _ _))) (fun hHeld => ?_)
    refine wpAnyH_take (i := 0) (v := ?_) rfl (by kernel_rfl) (by kernel_rfl) (by kernel_rfl) (fun _ _ _ h => h) (Or.inl ⟨by kernel_rfl, ?_⟩) (by assumption) ?_
    rotate_left
    · intro w hSw
      try dsimp only at hSw
      go_simp
      try with_reducible rfl
    try simp only [List.getElem_toArray, List.getElem_cons_zero, List.getElem_cons_succ, Act.put, List.setIfInBounds_toArray, List.set_cons_zero, List.set_cons_succ]
    refine wpAnyH_take (i := 1) (v := ?_) rfl (by kernel_rfl) (by kernel_rfl) (by kernel_rfl) (fun _ _ _ h => h) (Or.inl ⟨by kernel_rfl, ?_⟩) (by assumption) ?_
    rotate_left
    · intro w hSw
      try dsimp only at hSw
      go_simp
      try with_reducible rfl
    try simp only [List.getElem_toArray, List.getElem_cons_zero, List.getElem_cons_succ, Act.put, List.setIfInBounds_toArray, List.set_cons_zero, List.set_cons_succ]
    refine wpAnyH_take (i := 2) (v := ?_) rfl (by kernel_rfl) (by kernel_rfl) (by kernel_rfl) (fun _ _ _ h => h) (Or.inl ⟨by kernel_rfl, ?_⟩) (by assumption) ?_
    rotate_left
    · intro w hSw
      try dsimp only at hSw
      go_simp
      try with_reducible rfl
    try simp only [List.getElem_toArray, List.getElem_cons_zero, List.getElem_cons_succ, Act.put, List.setIfInBounds_toArray, List.set_cons_zero, List.set_cons_succ]
    refine wpAnyH_take (i := 3) (v := ?_) rfl (by kernel_rfl) (by kernel_rfl) (by kernel_rfl) (fun _ _ _ h => h) (Or.inl ⟨by kernel_rfl, ?_⟩) (by assumption) ?_
    rotate_left
    · intro w hSw
      try dsimp only at hSw
      go_simp
      try with_reducible rfl
    try simp only [List.getElem_toArray, List.getElem_cons_zero, List.getElem_cons_succ, Act.put, List.setIfInBounds_toArray, List.set_cons_zero, List.set_cons_succ]
    refine wpAnyH_take (i := 4) (v := ?_) rfl (by kernel_rfl) (by kernel_rfl) (by kernel_rfl) (fun _ _ _ h => h) (Or.inl ⟨by kernel_rfl, ?_⟩) (by assumption) ?_
    rotate_left
    · intro w hSw
      try dsimp only at hSw
      go_simp
      try with_reducible rfl
    try simp only [List.getElem_toArray, List.getElem_cons_zero, List.getElem_cons_succ, Act.put, List.setIfInBounds_toArray, List.set_cons_zero, List.set_cons_succ]
    refine wpAnyH_take (i := 5) (v := ?_) rfl (by kernel_rfl) (by kernel_rfl) (by kernel_rfl) (fun _ _ _ h => h) (Or.inl ⟨by kernel_rfl, ?_⟩) (by assumption) ?_
    rotate_left
    · intro w hSw
      try dsimp only at hSw
      go_simp
      try with_reducible rfl
    try simp only [List.getElem_toArray, List.getElem_cons_zero, List.getElem_cons_succ, Act.put, List.setIfInBounds_toArray, List.set_cons_zero, List.set_cons_succ]
    refine wpAnyH_ready (rs := [6, 7]) (by kernel_rfl) (by simp) ?_
    refine AllReadyH.cons rfl (fun K hK => ?_) (AllReadyH.cons rfl (fun K hK => ?_) AllReadyH.nil)
    · go_simp
      refine (HK_z.out _ oa A2 c2 (Kd.C_below HKC.out (by repeat (first | with_reducible exact Below.refl _ _ | with_reducible refine Go.Proofs.Ytibabfgfahlekaa.bel_drew ?_ | with_reducible refine Go.Proofs.Ytibabfgfahlekaa.bel_alloc ?_ _))) hcc (Go.Proofs.Ytibabfgfahlekaa.bel_then H03.out (by repeat (first | with_reducible exact Below.refl _ _ | with_reducible refine Go.Proofs.Ytibabfgfahlekaa.bel_drew ?_ | with_reducible refine Go.Proofs.Ytibabfgfahlekaa.bel_alloc ?_ _))) (by omega)).mono ?_
      rintro e w4 ⟨A4, c4, m4, rfl, hm4, hO4, hb4⟩
      rw [HO.out.2.2.2.1] at hm4 hO4
      rw [HO.out.2.2.2.2.1, HO.out.2.2.2.2.2]
      subst hm4
      have HO4 := Lib.hid hO4
      have hX4 : Below W3.heap.size W3 w4 := Go.Proofs.Ytibabfgfahlekaa.bel_then (by repeat (first | with_reducible exact Below.refl _ _ | with_reducible refine Go.Proofs.Ytibabfgfahlekaa.bel_drew ?_ | with_reducible refine Go.Proofs.Ytibabfgfahlekaa.bel_alloc ?_ _)) hb4
      clear hO4
      refine hK.out _ _ (keepS _ hX4) (fun hHeld => ?_)
      clear hK K
      try simp only [List.getElem_toArray, List.getElem_cons_zero, List.getElem_cons_succ, Act.put, List.setIfInBounds_toArray, List.set_cons_zero, List.set_cons_succ]
      refine wpAnyH_ready (rs := [7]) (by kernel_rfl) (by simp) ?_
      refine AllReadyH.cons rfl (fun K hK => ?_) AllReadyH.nil
      go_simp
      refine hK.out _ _ (keepS _ (Go.Proofs.Ytibabfgfahlekaa.bel_alloc hX4 _)) (fun hHeld => ?_)
      clear hK K
      try simp only [List.getElem_toArray, List.getElem_cons_zero, List.getElem_cons_succ, Act.put, List.setIfInBounds_toArray, List.set_cons_zero, List.set_cons_succ]
      refine wpAnyH_ready (rs := [8]) (by kernel_rfl) (by simp) ?_
      refine AllReadyH.cons rfl (fun K hK => ?_) AllReadyH.nil
      go_simp
      refine hK.out _ _ (keepS _ (Go.Proofs.Ytibabfgfahlekaa.bel_alloc hX4 _)) (fun hHeld => ?_)
      clear hK K
      try simp only [List.getElem_toArray, List.getElem_cons_zero, List.getElem_cons_succ, Act.put, List.setIfInBounds_toArray, List.set_cons_zero, List.set_cons_succ]
      refine wpAnyH_done (by kernel_rfl) ?_ _
      refine NoPanic.normal ?_
      clear hHeld keepS
      have hrowP : (w4.alloc (.cells #[.slice A4 ob.length c4, .int .i64 fb, .int .i64 lb] 79)).heap[w4.heap.size]? = some (.cells #[.slice A4 ob.length c4, .int .i64 fb, .int .i64 lb] 79) := heap_alloc_new w4 _
      have hS5 : (w4.alloc (.cells #[.slice A4 ob.length c4, .int .i64 fb, .int .i64 lb] 79)).ownsRow W3.heap.size 72 7 (.slice A4 ob.length c4) ob.length (ob.flatMap stCells) := Go.Proofs.Ytibabfgfahlekaa.own_mono (HO4.out.alloc _) (Nat.le_refl _)
      have hB5 : Below W3.heap.size W3 (w4.alloc (.cells #[.slice A4 ob.length c4, .int .i64 fb, .int .i64 lb] 79)) := Go.Proofs.Ytibabfgfahlekaa.bel_alloc hX4 _
      have hgP : ∀ g, (Value.slice A4 ob.length c4).ownBlock = some g → ¬ g = w4.heap.size := fun g hg => by have := (HO4.out.lt g hg).2; omega
      have hPW : W3.heap.size ≤ w4.heap.size := hX4.size
      have hNW : w.heap.size < W3.heap.size := by omega
      obtain ⟨y0, y1, y2, _, _, _⟩ := part_row hrowP
      have X1 := Go.Proofs.Ytibabfgfahlekaa.cell_below hB5 x1
      have X2 := Go.Proofs.Ytibabfgfahlekaa.cell_below hB5 x2
      have K0 := Go.Proofs.Ytibabfgfahlekaa.cell_below hB5 k0
      obtain ⟨q0, q1, q2, z0, z1, z2⟩ := part_row ((hB5.block w.heap.size hNW).trans HRW3.out)
      have HS5 := Lib.hid hS5
      have HB5 := Lib.hid (HBN3.out.trans (hB5.mono (Nat.le_of_lt hNW)))
      have hPN : ¬ w4.heap.size = w.heap.size := by omega
      have hNP : ¬ w.heap.size = w4.heap.size := by omega
      have hW5 : W3.heap.size ≤ (w4.alloc (.cells #[.slice A4 ob.length c4, .int .i64 fb, .int .i64 lb] 79)).heap.size := hB5.size
      have HRW5 := Lib.hid ((hB5.block w.heap.size hNW).trans HRW3.out)
      clear hS5 hB5 hrowP hX4 hb4 x0 x1 x2 r1 k0
      generalize (w4.alloc (.cells #[.slice A4 ob.length c4, .int .i64 fb, .int .i64 lb] 79)) = W5 at *
      go_wp2_with fail
      refine (rput_n ob ob.length rfl _ A4 c4 (kSt 3 fa fb) W5 HS5.out (by omega)).mono ?_
      rintro e w6 ⟨A6, c6, rfl, hO6, hb6⟩
      have X2a := Go.Proofs.Ytibabfgfahlekaa.cell_below hb6 X2
      have Y2a := Go.Proofs.Ytibabfgfahlekaa.cell_below hb6 y2
      have hW6 : W5.heap.size ≤ w6.heap.size := hb6.size
      have HRW6 := Lib.hid ((hb6.block w.heap.size (by omega)).trans HRW5.out)
      have HO6 := Lib.hid hO6
      have HB6 := Lib.hid (HB5.out.trans (hb6.mono (by omega)))
      have hl6 : ob.length + 1 = (ob ++ [kSt 3 fa fb]).length := by rw [List.length_append]; rfl
      have HL6 := Lib.hid hl6
      have hPw5 : w4.heap.size < W5.heap.size := World.block_lt_of_cell? W5 _ y2
      clear hO6 hb6 X1 X2 y0 y1 y2 q0 q1 q2 z0 z1 z2 hl6 K0
      generalize hn1 : ob.length + 1 = n1 at *
      have HN1 := Lib.hid hn1
      clear hn1
      go_wp2_with fail
      refine (rput_n (ob ++ [kSt 3 fa fb]) n1 HL6.out _ A6 c6 eSt w6 HO6.out (by have := HN1.out; omega)).mono ?_
      rintro e w7 ⟨A7, c7, rfl, hO7, hb7⟩
      have X2b := Go.Proofs.Ytibabfgfahlekaa.cell_below hb7 X2a
      have Y2b := Go.Proofs.Ytibabfgfahlekaa.cell_below hb7 Y2a
      have hl7 : n1 + 1 = (ob ++ [kSt 3 fa fb] ++ [eSt]).length := by rw [List.length_append, ← HL6.out]; rfl
      have HL7 := Lib.hid hl7
      have hb1 : la < n1 + 1 := by have := HN1.out; omega
      have hb2 : lb < n1 + 1 := by have := HN1.out; omega
      obtain ⟨q0, q1, q2, z0, z1, z2⟩ := part_row ((hb7.block w.heap.size (by omega)).trans HRW6.out)
      obtain ⟨g7, rfl, hg7, ⟨u1, hu1⟩, hf1, hs1, _⟩ := row_set hO7 hl7 la (by rw [← hl7]; have := HN1.out; omega) (n1 : Int)
      obtain ⟨g9, hg9, _, ⟨u2, hu2⟩, hf2, hs2, _⟩ := row_set hs1 (by rw [putA_len]; exact hl7) lb (by rw [putA_len, ← hl7]; have := HN1.out; omega) (n1 : Int)
      obtain rfl : g7 = g9 := by injection hg9 with hg9; injection hg9
      have hd1 : ¬ w4.heap.size = g7 := by omega
      have hd0 : ¬ g7 = w4.heap.size := by omega
      have hd2 : ¬ g7 = w2.heap.size := by omega
      have hd3 : ¬ w2.heap.size = g7 := by omega
      have hd4 : ¬ g7 = w.heap.size := by omega
      have hd5 : ¬ w.heap.size = g7 := by omega
      have HS8 := Lib.hid hs2
      have HB8 := Lib.hid (Below.setCell (Below.setCell (HB6.out.trans (hb7.mono (by omega))) (p := ⟨g7, la * 7 + 1, none⟩) (by simp; omega) (.int .i64 (n1 : Int))) (p := ⟨g7, lb * 7 + 1, none⟩) (by simp; omega) (.int .i64 (n1 : Int)))
      have Y2c : (w7.setCell ⟨g7, la * 7 + 1, none⟩ (.int .i64 (n1 : Int))).cell? ⟨w4.heap.size, 2, none⟩ = some (.int .i64 lb) := (World.cell?_setCell_other _ _ _ _ (fun e => by have h9 := congrArg Addr.block e; simp at h9; omega)).trans Y2b
      have hrow8 := (heap_setCell_other w7 ⟨g7, la * 7 + 1, none⟩ w.heap.size (.int .i64 (n1 : Int)) hd5).trans ((hb7.block w.heap.size (by omega)).trans HRW6.out)
      have HRW8 := Lib.hid hrow8
      clear hs1 hs2 hO7 hb7 hl7 hg9 X2a Y2a hgP Y2b q0 q1 q2 z0 z1 z2 hrow8
      go_upto_region 18 with fail
      clear X2b hu1 hf1
      generalize w7.setCell ⟨g7, la * 7 + 1, none⟩ (.int .i64 (n1 : Int)) = W8 at *
      obtain ⟨q0, q1, q2, z0, z1, z2⟩ := part_row HRW8.out
      go_wp2_with fail
      have hRR := HRM.out
      subst hRR
      refine bodyPost_ret (v := .agg #[.slice (some ⟨g7, 0, none⟩) (n1 + 1) c7, .int .i64 ob.length, .int .i64 n1]) (by simp [results, Try.results40, go_sem, q0, q1, q2, z0, z1, z2, hd4, hd5, Try.underlying79]) rfl ⟨_, c7, _, rfl, by rw [putA_len, putA_len]; exact HL7.out, ?_, ?_⟩
      · exact Go.Proofs.Ytibabfgfahlekaa.own_mono (ownsRow_setCell_below (ownsRow_setCell_below (ownsRow_setCell_below HS8.out (by simp; omega) _) (by simp; omega) _) (by simp; omega) _) (by omega)
      · exact Below.setCell (Below.setCell (Below.setCell HB8.out (by simp) _) (by simp) _) (by simp) _
    · go_simp
      refine hK.out _ _ (keepS _ (by repeat (first | with_reducible exact Below.refl _ _ | with_reducible refine Go.Proofs.Ytibabfgfahlekaa.bel_drew ?_ | with_reducible refine Go.Proofs.Ytibabfgfahlekaa.bel_alloc ?_ _))) (fun hHeld => ?_)
      clear hK K
      try simp only [List.getElem_toArray, List.getElem_cons_zero, List.getElem_cons_succ, Act.put, List.setIfInBounds_toArray, List.set_cons_zero, List.set_cons_succ]
      refine wpAnyH_ready (rs := [6]) (by kernel_rfl) (by simp) ?_
      refine AllReadyH.cons rfl (fun K hK => ?_) AllReadyH.nil
      go_simp
      refine (HK_z.out _ oa A2 c2 (Kd.C_below HKC.out (by repeat (first | with_reducible exact Below.refl _ _ | with_reducible refine Go.Proofs.Ytibabfgfahlekaa.bel_drew ?_ | with_reducible refine Go.Proofs.Ytibabfgfahlekaa.bel_alloc ?_ _))) hcc (Go.Proofs.Ytibabfgfahlekaa.bel_then H03.out (by repeat (first | with_reducible exact Below.refl _ _ | with_reducible refine Go.Proofs.Ytibabfgfahlekaa.bel_drew ?_ | with_reducible refine Go.Proofs.Ytibabfgfahlekaa.bel_alloc ?_ _))) (by omega)).mono ?_
      rintro e w4 ⟨A4, c4, m4, rfl, hm4, hO4, hb4⟩
      rw [HO.out.2.2.2.1] at hm4 hO4
      rw [HO.out.2.2.2.2.1, HO.out.2.2.2.2.2]
      subst hm4
      have HO4 := Lib.hid hO4
      have HP4 := Lib.hid ((hb4.block W3.heap.size (by simp)).trans (heap_alloc_new W3 _))
      obtain ⟨p0, p1, p2, f0, f1, f2⟩ := part_row HP4.out
      have hX4 : Below W3.heap.size W3 w4 := Go.Proofs.Ytibabfgfahlekaa.bel_then (by repeat (first | with_reducible exact Below.refl _ _ | with_reducible refine Go.Proofs.Ytibabfgfahlekaa.bel_drew ?_ | with_reducible refine Go.Proofs.Ytibabfgfahlekaa.bel_alloc ?_ _)) hb4
      clear hO4
      refine hK.out _ _ (keepS _ hX4) (fun hHeld => ?_)
      clear hK K
      try simp only [List.getElem_toArray, List.getElem_cons_zero, List.getElem_cons_succ, Act.put, List.setIfInBounds_toArray, List.set_cons_zero, List.set_cons_succ]
      refine wpAnyH_ready (rs := [8]) (by kernel_rfl) (by simp) ?_
      refine AllReadyH.cons rfl (fun K hK => ?_) AllReadyH.nil
      go_simp
      obtain ⟨g0, g1⟩ := keepS _ hX4
      refine hK.out _ _ ⟨set_far3 g0 hPk _ _ _, set_far3 g1 hPT _ _ _⟩ (fun hHeld => ?_)
      clear g0 g1
      clear hK K
      try simp only [List.getElem_toArray, List.getElem_cons_zero, List.getElem_cons_succ, Act.put, List.setIfInBounds_toArray, List.set_cons_zero, List.set_cons_succ]
      refine wpAnyH_done (by kernel_rfl) ?_ _
      refine NoPanic.normal ?_
      clear hHeld keepS
      have hrowP : (((w4.setCell ⟨W3.heap.size, 0, none⟩ (.slice A4 ob.length c4)).setCell ⟨W3.heap.size, 1, none⟩ (.int .i64 fb)).setCell ⟨W3.heap.size, 2, none⟩ (.int .i64 lb)).heap[W3.heap.size]? = some (.cells #[.slice A4 ob.length c4, .int .i64 fb, .int .i64 lb] 79) := heap_setCell_same _ _ 2 _ _ _ (heap_setCell_same _ _ 1 _ _ _ (heap_setCell_same _ _ 0 _ _ _ HP4.out))
      have hgP : ∀ g, (Value.slice A4 ob.length c4).ownBlock = some g → ¬ g = W3.heap.size := fun g hg => by have h9 := Go.Proofs.Ytibabfgfahlekaa.own_base HO4.out g hg; have h8 : W3.heap.size + 1 ≤ g := (by simpa using h9); omega
      have hap4 : (Value.slice A4 ob.length c4).ownBlock = none ∨ (Value.slice A4 ob.length c4).ownBlock ≠ some W3.heap.size := .inr (fun e => hgP _ e rfl)
      have hS5 : (((w4.setCell ⟨W3.heap.size, 0, none⟩ (.slice A4 ob.length c4)).setCell ⟨W3.heap.size, 1, none⟩ (.int .i64 fb)).setCell ⟨W3.heap.size, 2, none⟩ (.int .i64 lb)).ownsRow W3.heap.size 72 7 (.slice A4 ob.length c4) ob.length (ob.flatMap stCells) := Go.Proofs.Ytibabfgfahlekaa.own_mono (own_set_other (own_set_other (own_set_other HO4.out ⟨W3.heap.size, 0, none⟩ _ hap4) ⟨W3.heap.size, 1, none⟩ _ hap4) ⟨W3.heap.size, 2, none⟩ _ hap4) (by simp)
      have hB5 : Below W3.heap.size W3 (((w4.setCell ⟨W3.heap.size, 0, none⟩ (.slice A4 ob.length c4)).setCell ⟨W3.heap.size, 1, none⟩ (.int .i64 fb)).setCell ⟨W3.heap.size, 2, none⟩ (.int .i64 lb)) := ((hX4.setCell (by simp) _).setCell (by simp) _).setCell (by simp) _
      have hPW : W3.heap.size ≤ W3.heap.size := Nat.le_refl _
      clear p0 p1 p2 f0 f1 f2
      have hNW : w.heap.size < W3.heap.size := by omega
      obtain ⟨y0, y1, y2, _, _, _⟩ := part_row hrowP
      have X1 := Go.Proofs.Ytibabfgfahlekaa.cell_below hB5 x1
      have X2 := Go.Proofs.Ytibabfgfahlekaa.cell_below hB5 x2
      have K0 := Go.Proofs.Ytibabfgfahlekaa.cell_below hB5 k0
      obtain ⟨q0, q1, q2, z0, z1, z2⟩ := part_row ((hB5.block w.heap.size hNW).trans HRW3.out)
      have HS5 := Lib.hid hS5
      have HB5 := Lib.hid (HBN3.out.trans (hB5.mono (Nat.le_of_lt hNW)))
      have hPN : ¬ W3.heap.size = w.heap.size := by omega
      have hNP : ¬ w.heap.size = W3.heap.size := by omega
      have hW5 : W3.heap.size ≤ (((w4.setCell ⟨W3.heap.size, 0, none⟩ (.slice A4 ob.length c4)).setCell ⟨W3.heap.size, 1, none⟩ (.int .i64 fb)).setCell ⟨W3.heap.size, 2, none⟩ (.int .i64 lb)).heap.size := hB5.size
      have HRW5 := Lib.hid ((hB5.block w.heap.size hNW).trans HRW3.out)
      clear hS5 hB5 hrowP hX4 hb4 x0 x1 x2 r1 k0
      generalize (((w4.setCell ⟨W3.heap.size, 0, none⟩ (.slice A4 ob.length c4)).setCell ⟨W3.heap.size, 1, none⟩ (.int .i64 fb)).setCell ⟨W3.heap.size, 2, none⟩ (.int .i64 lb)) = W5 at *
      go_wp2_with fail
      refine (rput_n ob ob.length rfl _ A4 c4 (kSt 3 fa fb) W5 HS5.out (by omega)).mono ?_
      rintro e w6 ⟨A6, c6, rfl, hO6, hb6⟩
      have X2a := Go.Proofs.Ytibabfgfahlekaa.cell_below hb6 X2
      have Y2a := Go.Proofs.Ytibabfgfahlekaa.cell_below hb6 y2
      have hW6 : W5.heap.size ≤ w6.heap.size := hb6.size
      have HRW6 := Lib.hid ((hb6.block w.heap.size (by omega)).trans HRW5.out)
      have HO6 := Lib.hid hO6
      have HB6 := Lib.hid (HB5.out.trans (hb6.mono (by omega)))
      have hl6 : ob.length + 1 = (ob ++ [kSt 3 fa fb]).length := by rw [List.length_append]; rfl
      have HL6 := Lib.hid hl6
      have hPw5 : W3.heap.size < W5.heap.size := World.block_lt_of_cell? W5 _ y2
      clear hO6 hb6 X1 X2 y0 y1 y2 q0 q1 q2 z0 z1 z2 hl6 K0
      generalize hn1 : ob.length + 1 = n1 at *
      have HN1 := Lib.hid hn1
      clear hn1
      go_wp2_with fail
      refine (rput_n (ob ++ [kSt 3 fa fb]) n1 HL6.out _ A6 c6 eSt w6 HO6.out (by have := HN1.out; omega)).mono ?_
      rintro e w7 ⟨A7, c7, rfl, hO7, hb7⟩
      have X2b := Go.Proofs.Ytibabfgfahlekaa.cell_below hb7 X2a
      have Y2b := Go.Proofs.Ytibabfgfahlekaa.cell_below hb7 Y2a
      have hl7 : n1 + 1 = (ob ++ [kSt 3 fa fb] ++ [eSt]).length := by rw [List.length_append, ← HL6.out]; rfl
      have HL7 := Lib.hid hl7
      have hb1 : la < n1 + 1 := by have := HN1.out; omega
      have hb2 : lb < n1 + 1 := by have := HN1.out; omega
      obtain ⟨q0, q1, q2, z0, z1, z2⟩ := part_row ((hb7.block w.heap.size (by omega)).trans HRW6.out)
      obtain ⟨g7, rfl, hg7, ⟨u1, hu1⟩, hf1, hs1, _⟩ := row_set hO7 hl7 la (by rw [← hl7]; have := HN1.out; omega) (n1 : Int)
      obtain ⟨g9, hg9, _, ⟨u2, hu2⟩, hf2, hs2, _⟩ := row_set hs1 (by rw [putA_len]; exact hl7) lb (by rw [putA_len, ← hl7]; have := HN1.out; omega) (n1 : Int)
      obtain rfl : g7 = g9 := by injection hg9 with hg9; injection hg9
      have hd1 : ¬ W3.heap.size = g7 := by omega
      have hd0 : ¬ g7 = W3.heap.size := by omega
      have hd2 : ¬ g7 = w2.heap.size := by omega
      have hd3 : ¬ w2.heap.size = g7 := by omega
      have hd4 : ¬ g7 = w.heap.size := by omega
      have hd5 : ¬ w.heap.size = g7 := by omega
      have HS8 := Lib.hid hs2
      have HB8 := Lib.hid (Below.setCell (Below.setCell (HB6.out.trans (hb7.mono (by omega))) (p := ⟨g7, la * 7 + 1, none⟩) (by simp; omega) (.int .i64 (n1 : Int))) (p := ⟨g7, lb * 7 + 1, none⟩) (by simp; omega) (.int .i64 (n1 : Int)))
      have Y2c : (w7.setCell ⟨g7, la * 7 + 1, none⟩ (.int .i64 (n1 : Int))).cell? ⟨W3.heap.size, 2, none⟩ = some (.int .i64 lb) := (World.cell?_setCell_other _ _ _ _ (fun e => by have h9 := congrArg Addr.block e; simp at h9; omega)).trans Y2b
      have hrow8 := (heap_setCell_other w7 ⟨g7, la * 7 + 1, none⟩ w.heap.size (.int .i64 (n1 : Int)) hd5).trans ((hb7.block w.heap.size (by omega)).trans HRW6.out)
      have HRW8 := Lib.hid hrow8
      clear hs1 hs2 hO7 hb7 hl7 hg9 X2a Y2a hgP Y2b q0 q1 q2 z0 z1 z2 hrow8
      go_upto_region 18 with fail
      clear X2b hu1 hf1
      generalize w7.setCell ⟨g7, la * 7 + 1, none⟩ (.int .i64 (n1 : Int)) = W8 at *
      obtain ⟨q0, q1, q2, z0, z1, z2⟩ := part_row HRW8.out
      go_wp2_with fail
      have hRR := HRM.out
      subst hRR
      refine bodyPost_ret (v := .agg #[.slice (some ⟨g7, 0, none⟩) (n1 + 1) c7, .int .i64 ob.length, .int .i64 n1]) (by simp [results, Try.results40, go_sem, q0, q1, q2, z0, z1, z2, hd4, hd5, Try.underlying79]) rfl ⟨_, c7, _, rfl, by rw [putA_len, putA_len]; exact HL7.out, ?_, ?_⟩
      · exact Go.Proofs.Ytibabfgfahlekaa.own_mono (ownsRow_setCell_below (ownsRow_setCell_below (ownsRow_setCell_below HS8.out (by simp; omega) _) (by simp; omega) _) (by simp; omega) _) (by omega)
      · exact Below.setCell (Below.setCell (Below.setCell HB8.out (by simp) _) (by simp) _) (by simp) _
end Go.Proofs.YtibabfgfahlekaaQ
