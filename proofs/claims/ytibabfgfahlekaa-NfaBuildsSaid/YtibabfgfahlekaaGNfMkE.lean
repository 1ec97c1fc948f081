/- Pruned from its seat's text: what the theorem hangs on. -/
import Derived.Test.YtibabfgfahlekaaGNfRef1
import Derived.Test.YtibabfgfahlekaaGNfMk0
import Derived.Test.YtibabfgfahlekaaGM3
import Derived.Test.YtibabfgfahlekaaGM2
import Derived.Deep.RegionHeld3
import Derived.KernelRfl
/- The document's Make at kind 7. -/
set_option linter.unusedVariables false
set_option linter.unusedSimpArgs false
namespace Go.Proofs.YtibabfgfahlekaaQ
open Go.RowKit Go.Proofs.YtibabfgfahlekaaW.PrintWords Go.Proofs.YtibabfgfahlekaaW.PrintLast Go.Proofs.Bs Go.Proofs.Ytibabfgfahlekaa

set_option maxRecDepth 100000 in
set_option maxHeartbeats 6400000 in
theorem make_k7 (A0 : Option Addr) (nn c0 : Nat) (l : List Nd) (hr : rightB l = true) (hnn : nn ≤ 1000000) (w0 : World) (hR : Reads w0 7 A0 nn (l.flatMap Nd.cells)) (i : Nat) (hi : i < l.length)
    (ih : ∀ m, m < i → m < l.length → MakeC (.slice A0 nn c0) m (attr fMk l m) (attr fSz l m) w0) (hkd : l[i].kind = 7) : MakeC (.slice A0 nn c0) i (attr fMk l i) (attr fSz l i) w0 := by
    obtain ⟨_, hall, _⟩ := (rightB_iff l).1 hr
    intro w sts A c hr0 hc h0 hsz
    have hf := (hall i hi).1
    have hx : l[i]? = some l[i] := List.getElem?_eq_getElem hi
    have hgx : l.getD i zNd = l[i] := by rw [List.getD_eq_getElem?_getD, hx]; rfl
    obtain ⟨ha, _⟩ := stack_room l hr i _ hx
    have hlen := kidsP_length l i _ hx hf
    have hfl := (hall i hi).2
    have hok := kidsP_ok l i hi hf
    have hmk := attr_eq fMk l i hi hf
    have hsz' := attr_eq fSz l i hi hf
    have hkok := fun y (hy : y ∈ kidsP l i) => mk_ok l hr y.toNat (by have := hok y hy; omega)
    have hkc := fun y (hy : y ∈ kidsP l i) => ih y.toNat (by have := hok y hy; omega) (by have := hok y hy; omega)
    have hln : l.length = nn := by have := hR.1; rw [flat_length Nd.cells 7 Nd.cells_length] at this; omega
    have hinn : i < nn := by omega
    rw [hgx] at hfl hmk hsz'
    have HR1 := Lib.hid (hR.below h0)
    have hx2 := hx
    generalize l[i] = x at *
    have hkids := rkids_any A0 nn c0 l i (w.alloc (.cells #[.slice none 0 0, .int .i64 0, .int .i64 0] 79)) (HR1.out.below (Go.Proofs.Ytibabfgfahlekaa.bel_alloc (Below.refl _ _) _)) hnn (by omega) hf
    have had : ∀ ad, A0 = some ad → ad.block < w.heap.size := fun ad e => by
      obtain ⟨ad', x', e', _, k0, _⟩ := HR1.out.nd (show i < nn by omega)
      have := World.block_lt_of_cell? _ _ k0
      have e2 : ad = ad' := Option.some.inj (e.symm.trans e')
      rw [e2]
      have h3 : (ad'.add (i * 7)).block = ad'.block := by unfold Addr.add; split <;> rfl
      omega
    have HAD := Lib.hid had
    clear had
    rw [hmk]
    rw [hsz'] at hsz
    clear hall hf hgx hmk hsz' ih
    generalize kidsP l i = ks at *
    have HCC := Lib.hid hr0
    have H0 := Lib.hid h0
    have HX := Lib.hid hx
    have HK := Lib.hid hkids
    have HKO := Lib.hid hkok
    have HKC := Lib.hid hkc
    clear hr0 h0 hx hx2 hkids hkok hkc
    obtain ⟨kd, ⟨s0, s1, s2, s3⟩, lo, hi'⟩ := x
    simp only at ha hlen hfl hsz hkd ⊢
    subst hkd
    have hlen2 : ks.length = 1 := hlen
    obtain ⟨y, rfl⟩ : ∃ y : Nat, ks = [(y : Int)] := by
      match ks, hlen2, hok with
      | [y], _, hok =>
        have h_y := hok y (by simp)
        exact ⟨y.toNat, by rw [Int.toNat_of_nonneg (by omega)]⟩
    have hko_y := HKO.out y (by simp)
    have hkc_y := HKC.out y (by simp)
    rw [Int.toNat_natCast] at hko_y hkc_y
    simp only [List.map_cons, List.map_nil, Int.toNat_natCast] at hsz ⊢
    generalize attr fMk l y = my at *
    generalize attr fSz l y = ny at *
    have HK_y := Lib.hid hkc_y
    obtain ⟨b1, b2, b3⟩ := rep_fields hfl rfl
    simp only at b1 b2 b3
    obtain ⟨lo', rfl⟩ := Int.eq_ofNat_of_zero_le b1
    rcases b3 with rfl | ⟨b3, b4⟩
    · have hszz : sts.length + (3 + (lo' + 1) * ny) ≤ 900000 := by
        simpa [fSz] using hsz
      obtain ⟨R, hRM⟩ : ∃ R, fMk ⟨7, ⟨s0, s1, s2, s3⟩, (lo' : Int), (-1)⟩ [my] sts = R := ⟨_, rfl⟩
      rw [hRM]
      have HRM := Lib.hid hRM
      clear hRM
      have hM : fMk ⟨7, ⟨s0, s1, s2, s3⟩, (lo' : Int), (-1)⟩ [my] sts = repM lo' (-1) my sts := rfl
      have HRM := Lib.hid (hM.symm.trans HRM.out)
      have HKO1 := Lib.hid hko_y
      clear hM hsz hko_y hkc_y hlen hlen2 hok
      go_enter Try.func40, Try.ntmps40
      go_wp2_with fail
      refine HK.out.mono ?_
      rintro e w1 ⟨A1, c1, rfl, hOk, hb⟩
      have hbN : Below w.heap.size w w1 := (Go.Proofs.Ytibabfgfahlekaa.bel_alloc (Below.refl _ _) _).trans (hb.mono (by simp))
      have hrow : w1.heap[w.heap.size]? = some (.cells #[.slice none 0 0, .int .i64 0, .int .i64 0] 79) := (hb.block w.heap.size (by simp)).trans (heap_alloc_new w _)
      obtain ⟨ad, x', rfl, hx', k0, k1, k2, k3, k4, k5, k6⟩ := (HR1.out.below hbN).nd (show i < nn by omega)
      obtain rfl : _ = x' := Option.some.inj (HX.out.symm.trans hx')
      simp only at k0 k1 k2 k3 k4 k5 k6
      have hadN : ad.block < w.heap.size := HAD.out ad rfl
      have hN1 : w.heap.size < w1.heap.size := (Array.getElem?_eq_some_iff.1 hrow).1
      have HROW := Lib.hid hrow
      have HOK := Lib.hid hOk
      have HBN := Lib.hid hbN
      have HC1 := Lib.hid (Kd.C_below HCC.out hbN)
      have H01 := Lib.hid (H0.out.trans (hbN.mono H0.out.size))
      clear hx' hOk hb hbN hrow
      obtain ⟨gk, capk, hvk, hgk, hltk⟩ := HOK.out.form (by simp)
      injection hvk with hvA _ _
      subst hvA
      have hgk2 : w.heap.size + 1 ≤ gk := by simpa using hgk
      have r0 : w1.cell? ⟨gk, 0, none⟩ = some (.int .i64 y) := HOK.out.cellAt 0 (by simp [Go.Proofs.Ytibabfgfahlekaa.ints])
      go_wp2_with fail
      have keepS : ∀ w', Below w1.heap.size w1 w' → (w'.cell? (ad.add (i * 7)) = some (.int .i64 7) ∧ w'.cell? ⟨(ad.add (i * 7)).block, (ad.add (i * 7)).off + 1, none⟩ = some (.int .u64 (s0 : Int)) ∧ w'.cell? ⟨(ad.add (i * 7)).block, (ad.add (i * 7)).off + 2, none⟩ = some (.int .u64 (s1 : Int)) ∧ w'.cell? ⟨(ad.add (i * 7)).block, (ad.add (i * 7)).off + 3, none⟩ = some (.int .u64 (s2 : Int)) ∧ w'.cell? ⟨(ad.add (i * 7)).block, (ad.add (i * 7)).off + 4, none⟩ = some (.int .u64 (s3 : Int)) ∧ w'.cell? ⟨(ad.add (i * 7)).block, (ad.add (i * 7)).off + 5, none⟩ = some (.int .i64 (lo' : Int)) ∧ w'.cell? ⟨(ad.add (i * 7)).block, (ad.add (i * 7)).off + 6, none⟩ = some (.int .i64 (-1)) ∧ w'.cell? ⟨gk, 0, none⟩ = some (.int .i64 y)) := fun w' hX => ⟨Go.Proofs.Ytibabfgfahlekaa.cell_below hX k0, Go.Proofs.Ytibabfgfahlekaa.cell_below hX k1, Go.Proofs.Ytibabfgfahlekaa.cell_below hX k2, Go.Proofs.Ytibabfgfahlekaa.cell_below hX k3, Go.Proofs.Ytibabfgfahlekaa.cell_below hX k4, Go.Proofs.Ytibabfgfahlekaa.cell_below hX k5, Go.Proofs.Ytibabfgfahlekaa.cell_below hX k6, Go.Proofs.Ytibabfgfahlekaa.cell_below hX r0⟩
      have hnA : ¬ w.heap.size = (ad.add (i * 7)).block := by have hadq : (ad.add (i * 7)).block = ad.block := (by unfold Addr.add; split <;> rfl); omega
      have hnK : ¬ w.heap.size = gk := by omega
      refine wp_region_noPanic ?_
      refine wp_region_held_drew (S := fun w' => w'.cell? (ad.add (i * 7)) = some (.int .i64 7) ∧ w'.cell? ⟨(ad.add (i * 7)).block, (ad.add (i * 7)).off + 1, none⟩ = some (.int .u64 (s0 : Int)) ∧ w'.cell? ⟨(ad.add (i * 7)).block, (ad.add (i * 7)).off + 2, none⟩ = some (.int .u64 (s1 : Int)) ∧ w'.cell? ⟨(ad.add (i * 7)).block, (ad.add (i * 7)).off + 3, none⟩ = some (.int .u64 (s2 : Int)) ∧ w'.cell? ⟨(ad.add (i * 7)).block, (ad.add (i * 7)).off + 4, none⟩ = some (.int .u64 (s3 : Int)) ∧ w'.cell? ⟨(ad.add (i * 7)).block, (ad.add (i * 7)).off + 5, none⟩ = some (.int .i64 (lo' : Int)) ∧ w'.cell? ⟨(ad.add (i * 7)).block, (ad.add (i * 7)).off + 6, none⟩ = some (.int .i64 (-1)) ∧ w'.cell? ⟨gk, 0, none⟩ = some (.int .i64 y)) (by kernel_rfl) (keepS _ (Go.Proofs.Ytibabfgfahlekaa.bel_drew (Below.refl _ _))) (fun hHeld => ?_)
      refine wpAnyH_take (i := 0) (v := ?_) rfl (by kernel_rfl) (by kernel_rfl) (by kernel_rfl) (fun _ _ _ h => h) (Or.inl ⟨by kernel_rfl, ?_⟩) (by assumption) ?_
      rotate_left
      · intro w hSw
        try dsimp only at hSw
        go_simp
        try with_reducible rfl
      try simp only [List.getElem_toArray, List.getElem_cons_zero, List.getElem_cons_succ, Act.put, List.setIfInBounds_toArray, List.set_cons_zero, List.set_cons_succ]
      refine wpAnyH_take (i := 1) (v := ?_) rfl (by kernel_rfl) (by kernel_rfl) (by kernel_rfl) (fun _ _ _ h => h) (Or.inl ⟨by kernel_rfl, ?_⟩) (by assumption) ?_
      rotate_left
      · intro w hSw
        try dsimp only at hSw
        go_simp
        try with_reducible rfl
      try simp only [List.getElem_toArray, List.getElem_cons_zero, List.getElem_cons_succ, Act.put, List.setIfInBounds_toArray, List.set_cons_zero, List.set_cons_succ]
      refine wpAnyH_take (i := 2) (v := ?_) rfl (by kernel_rfl) (by kernel_rfl) (by kernel_rfl) (fun _ _ _ h => h) (Or.inl ⟨by kernel_rfl, ?_⟩) (by assumption) ?_
      rotate_left
      · intro w hSw
        try dsimp only at hSw
        go_simp
        try with_reducible rfl
      try simp only [List.getElem_toArray, List.getElem_cons_zero, List.getElem_cons_succ, Act.put, List.setIfInBounds_toArray, List.set_cons_zero, List.set_cons_succ]
      refine wpAnyH_take (i := 3) (v := ?_) rfl (by kernel_rfl) (by kernel_rfl) (by kernel_rfl) (fun _ _ _ h => h) (Or.inl ⟨by kernel_rfl, ?_⟩) (by assumption) ?_
      rotate_left
      · intro w hSw
        try dsimp only at hSw
        go_simp
        try with_reducible rfl
      try simp only [List.getElem_toArray, List.getElem_cons_zero, List.getElem_cons_succ, Act.put, List.setIfInBounds_toArray, List.set_cons_zero, List.set_cons_succ]
      refine wpAnyH_take (i := 4) (v := ?_) rfl (by kernel_rfl) (by kernel_rfl) (by kernel_rfl) (fun _ _ _ h => h) (Or.inl ⟨by kernel_rfl, ?_⟩) (by assumption) ?_
      rotate_left
      · intro w hSw
        try dsimp only at hSw
        go_simp
        try with_reducible rfl
      try simp only [List.getElem_toArray, List.getElem_cons_zero, List.getElem_cons_succ, Act.put, List.setIfInBounds_toArray, List.set_cons_zero, List.set_cons_succ]
      refine wpAnyH_take (i := 5) (v := ?_) rfl (by kernel_rfl) (by kernel_rfl) (by kernel_rfl) (fun _ _ _ h => h) (Or.inl ⟨by kernel_rfl, ?_⟩) (by assumption) ?_
      rotate_left
      · intro w hSw
        try dsimp only at hSw
        go_simp
        try with_reducible rfl
      try simp only [List.getElem_toArray, List.getElem_cons_zero, List.getElem_cons_succ, Act.put, List.setIfInBounds_toArray, List.set_cons_zero, List.set_cons_succ]
      refine wpAnyH_take (i := 6) (v := ?_) rfl (by kernel_rfl) (by kernel_rfl) (by kernel_rfl) (fun _ _ _ h => h) (Or.inl ⟨by kernel_rfl, ?_⟩) (by assumption) ?_
      rotate_left
      · intro w hSw
        try dsimp only at hSw
        go_simp
        try with_reducible rfl
      try simp only [List.getElem_toArray, List.getElem_cons_zero, List.getElem_cons_succ, Act.put, List.setIfInBounds_toArray, List.set_cons_zero, List.set_cons_succ]
      refine wpAnyH_take (i := 7) (v := ?_) rfl (by kernel_rfl) (by kernel_rfl) (by kernel_rfl) (fun _ _ _ h => h) (Or.inl ⟨by kernel_rfl, ?_⟩) (by assumption) ?_
      rotate_left
      · intro w hSw
        try dsimp only at hSw
        go_simp
        try with_reducible rfl
      try simp only [List.getElem_toArray, List.getElem_cons_zero, List.getElem_cons_succ, Act.put, List.setIfInBounds_toArray, List.set_cons_zero, List.set_cons_succ]
      refine wpAnyH_take (i := 8) (v := ?_) rfl (by kernel_rfl) (by kernel_rfl) (by kernel_rfl) (fun _ _ _ h => h) (Or.inl ⟨by kernel_rfl, ?_⟩) (by assumption) ?_
      rotate_left
      · intro w hSw
        try dsimp only at hSw
        go_simp
        try with_reducible rfl
      try simp only [List.getElem_toArray, List.getElem_cons_zero, List.getElem_cons_succ, Act.put, List.setIfInBounds_toArray, List.set_cons_zero, List.set_cons_succ]
      refine wpAnyH_ready (rs := [9]) (by kernel_rfl) (by simp) ?_
      refine AllReadyH.cons rfl (fun K hK => ?_) AllReadyH.nil
      go_simp
      refine (rr_neg _ y my ny HKO1.out w0 7 s0 s1 s2 s3 lo' HK_y.out (by omega) _ sts A c (Kd.C_below HC1.out (Go.Proofs.Ytibabfgfahlekaa.bel_drew (Below.refl _ _))) hc (Go.Proofs.Ytibabfgfahlekaa.bel_drew H01.out) hszz).mono ?_
      rintro e w2 ⟨A2, c2, m2, rfl, hm2, hO2, hb2⟩
      rw [HRM.out] at hm2 hO2
      rw [HRM.out]
      have HM2 := Lib.hid hm2
      have HO2 := Lib.hid hO2
      clear hm2 hO2
      have hX2 : Below w1.heap.size w1 w2 := (Go.Proofs.Ytibabfgfahlekaa.bel_drew (Below.refl w1.heap.size w1)).trans hb2
      refine hK.out _ _ (keepS _ hX2) (fun hHeld => ?_)
      obtain ⟨q0, q1, q2, z0, z1, z2⟩ := part_row ((hX2.block w.heap.size hN1).trans HROW.out)
      clear hK K
      try simp only [List.getElem_toArray, List.getElem_cons_zero, List.getElem_cons_succ, Act.put, List.setIfInBounds_toArray, List.set_cons_zero, List.set_cons_succ]
      refine wpAnyH_ready (rs := [10]) (by kernel_rfl) (by simp) ?_
      refine AllReadyH.cons rfl (fun K hK => ?_) AllReadyH.nil
      go_simp
      obtain ⟨g0, g1, g2, g3, g4, g5, g6, g7⟩ := keepS _ hX2
      refine hK.out _ _ ⟨set_far3 g0 hnA _ _ _, set_far3 g1 hnA _ _ _, set_far3 g2 hnA _ _ _, set_far3 g3 hnA _ _ _, set_far3 g4 hnA _ _ _, set_far3 g5 hnA _ _ _, set_far3 g6 hnA _ _ _, set_far3 g7 hnK _ _ _⟩ (fun hHeld => ?_)
      clear g0 g1 g2 g3 g4 g5 g6 g7
      clear hK K
      try simp only [List.getElem_toArray, List.getElem_cons_zero, List.getElem_cons_succ, Act.put, List.setIfInBounds_toArray, List.set_cons_zero, List.set_cons_succ]
      refine wpAnyH_done (by kernel_rfl) ?_ _
      refine NoPanic.normal ?_
      clear hHeld keepS
      have hd1 : w.heap.size < w1.drew.heap.size := hN1
      have HBX := Lib.hid (HBN.out.trans (hX2.mono (Nat.le_of_lt hN1)))
      clear hX2 hb2
      go_wp2_with fail
      refine bodyPost_ret (v := .agg #[.slice A2 m2 c2, .int .i64 R.first, .int .i64 R.last]) (by simp [results, Try.results40, go_sem, q0, q1, q2, z0, z1, z2, Try.underlying79]) rfl ⟨A2, c2, _, rfl, HM2.out, ?_, ?_⟩
      · exact Go.Proofs.Ytibabfgfahlekaa.own_mono (ownsRow_setCell_below (ownsRow_setCell_below (ownsRow_setCell_below HO2.out hd1 _) hd1 _) hd1 _) (Nat.le_of_lt hd1)
      · repeat refine Below.setCell ?_ (by simp) _
        exact HBX.out
    · obtain ⟨H, rfl⟩ := Int.eq_ofNat_of_zero_le (show 0 ≤ hi' by omega)
      obtain ⟨m, hHm⟩ : ∃ m, H = lo' + m := ⟨H - lo', by omega⟩
      have hszz : sts.length + (2 + H * ny + m) ≤ 900000 := by
        have e1 : ((H : Int) - (lo' : Int)).toNat = m := by omega
        have e2 : fSz ⟨7, ⟨s0, s1, s2, s3⟩, (lo' : Int), (H : Int)⟩ [ny] = 2 + H * ny + m := by
          unfold fSz
          have hnn2 : ¬ ((H : Int) < 0) := by omega
          show (if (7 : Int) = 5 then _ else if (7 : Int) = 6 then _ else if (7 : Int) = 7 then (if (H : Int) < 0 then _ else 2 + (H : Int).toNat * ny + ((H : Int) - (lo' : Int)).toNat) else _) = _
          rw [if_neg (by decide), if_neg (by decide), if_pos rfl, if_neg hnn2, e1, Int.toNat_natCast]
        rw [e2] at hsz
        exact hsz
      obtain ⟨R, hRM⟩ : ∃ R, fMk ⟨7, ⟨s0, s1, s2, s3⟩, (lo' : Int), (H : Int)⟩ [my] sts = R := ⟨_, rfl⟩
      rw [hRM]
      have HRM := Lib.hid hRM
      clear hRM
      have hM : fMk ⟨7, ⟨s0, s1, s2, s3⟩, (lo' : Int), (H : Int)⟩ [my] sts = repM lo' (H : Int) my sts := rfl
      have HRM := Lib.hid (hM.symm.trans HRM.out)
      have HKO1 := Lib.hid hko_y
      have HHM := Lib.hid hHm
      have hm32 : m ≤ 32 := by omega
      clear hHm
      clear hM hsz hko_y hkc_y hlen hlen2 hok
      go_enter Try.func40, Try.ntmps40
      go_wp2_with fail
      refine HK.out.mono ?_
      rintro e w1 ⟨A1, c1, rfl, hOk, hb⟩
      have hbN : Below w.heap.size w w1 := (Go.Proofs.Ytibabfgfahlekaa.bel_alloc (Below.refl _ _) _).trans (hb.mono (by simp))
      have hrow : w1.heap[w.heap.size]? = some (.cells #[.slice none 0 0, .int .i64 0, .int .i64 0] 79) := (hb.block w.heap.size (by simp)).trans (heap_alloc_new w _)
      obtain ⟨ad, x', rfl, hx', k0, k1, k2, k3, k4, k5, k6⟩ := (HR1.out.below hbN).nd (show i < nn by omega)
      obtain rfl : _ = x' := Option.some.inj (HX.out.symm.trans hx')
      simp only at k0 k1 k2 k3 k4 k5 k6
      have hadN : ad.block < w.heap.size := HAD.out ad rfl
      have hN1 : w.heap.size < w1.heap.size := (Array.getElem?_eq_some_iff.1 hrow).1
      have HROW := Lib.hid hrow
      have HOK := Lib.hid hOk
      have HBN := Lib.hid hbN
      have HC1 := Lib.hid (Kd.C_below HCC.out hbN)
      have H01 := Lib.hid (H0.out.trans (hbN.mono H0.out.size))
      clear hx' hOk hb hbN hrow
      obtain ⟨gk, capk, hvk, hgk, hltk⟩ := HOK.out.form (by simp)
      injection hvk with hvA _ _
      subst hvA
      have hgk2 : w.heap.size + 1 ≤ gk := by simpa using hgk
      have r0 : w1.cell? ⟨gk, 0, none⟩ = some (.int .i64 y) := HOK.out.cellAt 0 (by simp [Go.Proofs.Ytibabfgfahlekaa.ints])
      go_wp2_with fail
      have keepS : ∀ w', Below w1.heap.size w1 w' → (w'.cell? (ad.add (i * 7)) = some (.int .i64 7) ∧ w'.cell? ⟨(ad.add (i * 7)).block, (ad.add (i * 7)).off + 1, none⟩ = some (.int .u64 (s0 : Int)) ∧ w'.cell? ⟨(ad.add (i * 7)).block, (ad.add (i * 7)).off + 2, none⟩ = some (.int .u64 (s1 : Int)) ∧ w'.cell? ⟨(ad.add (i * 7)).block, (ad.add (i * 7)).off + 3, none⟩ = some (.int .u64 (s2 : Int)) ∧ w'.cell? ⟨(ad.add (i * 7)).block, (ad.add (i * 7)).off + 4, none⟩ = some (.int .u64 (s3 : Int)) ∧ w'.cell? ⟨(ad.add (i * 7)).block, (ad.add (i * 7)).off + 5, none⟩ = some (.int .i64 (lo' : Int)) ∧ w'.cell? ⟨(ad.add (i * 7)).block, (ad.add (i * 7)).off + 6, none⟩ = some (.int .i64 (H : Int)) ∧ w'.cell? ⟨gk, 0, none⟩ = some (.int .i64 y)) := fun w' hX => ⟨Go.Proofs.Ytibabfgfahlekaa.cell_below hX k0, Go.Proofs.Ytibabfgfahlekaa.cell_below hX k1, Go.Proofs.Ytibabfgfahlekaa.cell_below hX k2, Go.Proofs.Ytibabfgfahlekaa.cell_below hX k3, Go.Proofs.Ytibabfgfahlekaa.cell_below hX k4, Go.Proofs.Ytibabfgfahlekaa.cell_below hX k5, Go.Proofs.Ytibabfgfahlekaa.cell_below hX k6, Go.Proofs.Ytibabfgfahlekaa.cell_below hX r0⟩
      have hnA : ¬ w.heap.size = (ad.add (i * 7)).block := by have hadq : (ad.add (i * 7)).block = ad.block := (by unfold Addr.add; split <;> rfl); omega
      have hnK : ¬ w.heap.size = gk := by omega
      refine wp_region_noPanic ?_
      refine wp_region_held_drew (S := fun w' => w'.cell? (ad.add (i * 7)) = some (.int .i64 7) ∧ w'.cell? ⟨(ad.add (i * 7)).block, (ad.add (i * 7)).off + 1, none⟩ = some (.int .u64 (s0 : Int)) ∧ w'.cell? ⟨(ad.add (i * 7)).block, (ad.add (i * 7)).off + 2, none⟩ = some (.int .u64 (s1 : Int)) ∧ w'.cell? ⟨(ad.add (i * 7)).block, (ad.add (i * 7)).off + 3, none⟩ = some (.int .u64 (s2 : Int)) ∧ w'.cell? ⟨(ad.add (i * 7)).block, (ad.add (i * 7)).off + 4, none⟩ = some (.int .u64 (s3 : Int)) ∧ w'.cell? ⟨(ad.add (i * 7)).block, (ad.add (i * 7)).off + 5, none⟩ = some (.int .i64 (lo' : Int)) ∧ w'.cell? ⟨(ad.add (i * 7)).block, (ad.add (i * 7)).off + 6, none⟩ = some (.int .i64 (H : Int)) ∧ w'.cell? ⟨gk, 0, none⟩ = some (.int .i64 y)) (by kernel_rfl) (keepS _ (Go.Proofs.Ytibabfgfahlekaa.bel_drew (Below.refl _ _))) (fun hHeld => ?_)
      refine wpAnyH_take (i := 0) (v := ?_) rfl (by kernel_rfl) (by kernel_rfl) (by kernel_rfl) (fun _ _ _ h => h) (Or.inl ⟨by kernel_rfl, ?_⟩) (by assumption) ?_
      rotate_left
      · intro w hSw
        try dsimp only at hSw
        go_simp
        try with_reducible rfl
      try simp only [List.getElem_toArray, List.getElem_cons_zero, List.getElem_cons_succ, Act.put, List.setIfInBounds_toArray, List.set_cons_zero, List.set_cons_succ]
      refine wpAnyH_take (i := 1) (v := ?_) rfl (by kernel_rfl) (by kernel_rfl) (by kernel_rfl) (fun _ _ _ h => h) (Or.inl ⟨by kernel_rfl, ?_⟩) (by assumption) ?_
      rotate_left
      · intro w hSw
        try dsimp only at hSw
        go_simp
        try with_reducible rfl
      try simp only [List.getElem_toArray, List.getElem_cons_zero, List.getElem_cons_succ, Act.put, List.setIfInBounds_toArray, List.set_cons_zero, List.set_cons_succ]
      refine wpAnyH_take (i := 2) (v := ?_) rfl (by kernel_rfl) (by kernel_rfl) (by kernel_rfl) (fun _ _ _ h => h) (Or.inl ⟨by kernel_rfl, ?_⟩) (by assumption) ?_
      rotate_left
      · intro w hSw
        try dsimp only at hSw
        go_simp
        try with_reducible rfl
      try simp only [List.getElem_toArray, List.getElem_cons_zero, List.getElem_cons_succ, Act.put, List.setIfInBounds_toArray, List.set_cons_zero, List.set_cons_succ]
      refine wpAnyH_take (i := 3) (v := ?_) rfl (by kernel_rfl) (by kernel_rfl) (by kernel_rfl) (fun _ _ _ h => h) (Or.inl ⟨by kernel_rfl, ?_⟩) (by assumption) ?_
      rotate_left
      · intro w hSw
        try dsimp only at hSw
        go_simp
        try with_reducible rfl
      try simp only [List.getElem_toArray, List.getElem_cons_zero, List.getElem_cons_succ, Act.put, List.setIfInBounds_toArray, List.set_cons_zero, List.set_cons_succ]
      refine wpAnyH_take (i := 4) (v := ?_) rfl (by kernel_rfl) (by kernel_rfl) (by kernel_rfl) (fun _ _ _ h => h) (Or.inl ⟨by kernel_rfl, ?_⟩) (by assumption) ?_
      rotate_left
      · intro w hSw
        try dsimp only at hSw
        go_simp
        try with_reducible rfl
      try simp only [List.getElem_toArray, List.getElem_cons_zero, List.getElem_cons_succ, Act.put, List.setIfInBounds_toArray, List.set_cons_zero, List.set_cons_succ]
      refine wpAnyH_take (i := 5) (v := ?_) rfl (by kernel_rfl) (by kernel_rfl) (by kernel_rfl) (fun _ _ _ h => h) (Or.inl ⟨by kernel_rfl, ?_⟩) (by assumption) ?_
      rotate_left
      · intro w hSw
        try dsimp only at hSw
        go_simp
        try with_reducible rfl
      try simp only [List.getElem_toArray, List.getElem_cons_zero, List.getElem_cons_succ, Act.put, List.setIfInBounds_toArray, List.set_cons_zero, List.set_cons_succ]
      refine wpAnyH_take (i := 6) (v := ?_) rfl (by kernel_rfl) (by kernel_rfl) (by kernel_rfl) (fun _ _ _ h => h) (Or.inl ⟨by kernel_rfl, ?_⟩) (by assumption) ?_
      rotate_left
      · intro w hSw
        try dsimp only at hSw
        go_simp
        try with_reducible rfl
      try simp only [List.getElem_toArray, List.getElem_cons_zero, List.getElem_cons_succ, Act.put, List.setIfInBounds_toArray, List.set_cons_zero, List.set_cons_succ]
      refine wpAnyH_take (i := 7) (v := ?_) rfl (by kernel_rfl) (by kernel_rfl) (by kernel_rfl) (fun _ _ _ h => h) (Or.inl ⟨by kernel_rfl, ?_⟩) (by assumption) ?_
      rotate_left
      · intro w hSw
        try dsimp only at hSw
        go_simp
        try with_reducible rfl
      try simp only [List.getElem_toArray, List.getElem_cons_zero, List.getElem_cons_succ, Act.put, List.setIfInBounds_toArray, List.set_cons_zero, List.set_cons_succ]
      refine wpAnyH_take (i := 8) (v := ?_) rfl (by kernel_rfl) (by kernel_rfl) (by kernel_rfl) (fun _ _ _ h => h) (Or.inl ⟨by kernel_rfl, ?_⟩) (by assumption) ?_
      rotate_left
      · intro w hSw
        try dsimp only at hSw
        go_simp
        try with_reducible rfl
      try simp only [List.getElem_toArray, List.getElem_cons_zero, List.getElem_cons_succ, Act.put, List.setIfInBounds_toArray, List.set_cons_zero, List.set_cons_succ]
      refine wpAnyH_ready (rs := [9]) (by kernel_rfl) (by simp) ?_
      refine AllReadyH.cons rfl (fun K hK => ?_) AllReadyH.nil
      go_simp
      refine (rr_pos _ y my ny HKO1.out w0 7 s0 s1 s2 s3 lo' m H HHM.out (fun _ => HK_y.out) (by omega) hm32 _ sts A c (Kd.C_below HC1.out (Go.Proofs.Ytibabfgfahlekaa.bel_drew (Below.refl _ _))) hc (Go.Proofs.Ytibabfgfahlekaa.bel_drew H01.out) hszz).mono ?_
      rintro e w2 ⟨A2, c2, m2, rfl, hm2, hO2, hb2⟩
      rw [HRM.out] at hm2 hO2
      rw [HRM.out]
      have HM2 := Lib.hid hm2
      have HO2 := Lib.hid hO2
      clear hm2 hO2
      have hX2 : Below w1.heap.size w1 w2 := (Go.Proofs.Ytibabfgfahlekaa.bel_drew (Below.refl w1.heap.size w1)).trans hb2
      refine hK.out _ _ (keepS _ hX2) (fun hHeld => ?_)
      obtain ⟨q0, q1, q2, z0, z1, z2⟩ := part_row ((hX2.block w.heap.size hN1).trans HROW.out)
      clear hK K
      try simp only [List.getElem_toArray, List.getElem_cons_zero, List.getElem_cons_succ, Act.put, List.setIfInBounds_toArray, List.set_cons_zero, List.set_cons_succ]
      refine wpAnyH_ready (rs := [10]) (by kernel_rfl) (by simp) ?_
      refine AllReadyH.cons rfl (fun K hK => ?_) AllReadyH.nil
      go_simp
      obtain ⟨g0, g1, g2, g3, g4, g5, g6, g7⟩ := keepS _ hX2
      refine hK.out _ _ ⟨set_far3 g0 hnA _ _ _, set_far3 g1 hnA _ _ _, set_far3 g2 hnA _ _ _, set_far3 g3 hnA _ _ _, set_far3 g4 hnA _ _ _, set_far3 g5 hnA _ _ _, set_far3 g6 hnA _ _ _, set_far3 g7 hnK _ _ _⟩ (fun hHeld => ?_)
      clear g0 g1 g2 g3 g4 g5 g6 g7
      clear hK K
      try simp only [List.getElem_toArray, List.getElem_cons_zero, List.getElem_cons_succ, Act.put, List.setIfInBounds_toArray, List.set_cons_zero, List.set_cons_succ]
      refine wpAnyH_done (by kernel_rfl) ?_ _
      refine NoPanic.normal ?_
      clear hHeld keepS
      have hd1 : w.heap.size < w1.drew.heap.size := hN1
      have HBX := Lib.hid (HBN.out.trans (hX2.mono (Nat.le_of_lt hN1)))
      clear hX2 hb2
      go_wp2_with fail
      refine bodyPost_ret (v := .agg #[.slice A2 m2 c2, .int .i64 R.first, .int .i64 R.last]) (by simp [results, Try.results40, go_sem, q0, q1, q2, z0, z1, z2, Try.underlying79]) rfl ⟨A2, c2, _, rfl, HM2.out, ?_, ?_⟩
      · exact Go.Proofs.Ytibabfgfahlekaa.own_mono (ownsRow_setCell_below (ownsRow_setCell_below (ownsRow_setCell_below HO2.out hd1 _) hd1 _) hd1 _) (Nat.le_of_lt hd1)
      · repeat refine Below.setCell ?_ (by simp) _
        exact HBX.out
end Go.Proofs.YtibabfgfahlekaaQ
