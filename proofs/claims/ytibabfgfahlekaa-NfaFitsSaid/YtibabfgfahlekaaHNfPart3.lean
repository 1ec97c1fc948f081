/- Pruned from its seat's text: what the theorem hangs on. -/
import Derived.Test.YtibabfgfahlekaaHNfPart2
import Derived.Test.YtibabfgfahlekaaHM2
import Derived.Deep.RegionHeld3
import Derived.KernelRfl
/- The builder of automata: a part's states, walked. -/
set_option linter.unusedVariables false
set_option linter.unusedSimpArgs false
namespace Go.Proofs.YtibabfgfahlekaaQ
open Go.RowKit Go.Proofs.YtibabfgfahlekaaW.PrintWords Go.Proofs.YtibabfgfahlekaaW.PrintLast Go.Proofs.Bs Go.Proofs.Ytibabfgfahlekaa

theorem stays_below {p : Nat} {g : Option Nat} {w w1 : World} (hp : p < w.heap.size) (hb : Below w.heap.size w w1) : Stays p g g w w1 :=
  ⟨hb.mono (by omega), fun b h _ _ => hb.block b h, .inl rfl⟩
set_option maxRecDepth 100000 in
set_option maxHeartbeats 6400000 in
theorem part_st (A0 : Option Addr) (nn c0 : Nat) (l : List Nd) (hr : rightB l = true) (hnn : nn ≤ 1000000) (w0 : World) (hR : Reads w0 7 A0 nn (l.flatMap Nd.cells)) (p : Nat) (hp0 : w0.heap.size ≤ p) (i : Nat) :
    i < l.length → PartC (.slice A0 nn c0) p i (attr fMk l i) (attr fSz l i) w0 := by
  obtain ⟨_, hall, _⟩ := (rightB_iff l).1 hr
  induction i using Nat.strongRecOn with
  | ind i ih =>
    intro hi w sts g hB h0 hsz
    have hf := (hall i hi).1
    have hx : l[i]? = some l[i] := List.getElem?_eq_getElem hi
    have hgx : l.getD i zNd = l[i] := by rw [List.getD_eq_getElem?_getD, hx]; rfl
    obtain ⟨ha, _⟩ := stack_room l hr i _ hx
    have hlen := kidsP_length l i _ hx hf
    have hfl := (hall i hi).2
    have hok := kidsP_ok l i hi hf
    have hmk := attr_eq fMk l i hi hf
    have hsz' := attr_eq fSz l i hi hf
    have hkok := fun y (hy : y ∈ kidsP l i) => mk_ok l hr y.toNat (by have := hok y hy; omega)
    have hkc := fun y (hy : y ∈ kidsP l i) => ih y.toNat (by have := hok y hy; omega) (by have := hok y hy; omega)
    have hln : l.length = nn := by have := hR.1; rw [flat_length Nd.cells 7 Nd.cells_length] at this; omega
    rw [hgx] at hfl hmk hsz'
    have hp := hB.lt
    have hrow := hB.row
    have hc0 := hB.out.1
    have HR1 := Lib.hid (hR.below h0)
    have hx2 := hx
    generalize l[i] = x at *
    have hkids := kids_any A0 nn c0 l i w HR1.out (by omega)
    rw [hmk]
    rw [hsz'] at hsz
    clear hall hf hgx hmk hsz' ih
    generalize kidsP l i = ks at *
    have HBD := Lib.hid hB
    have H0 := Lib.hid h0
    have HX := Lib.hid hx
    have HK := Lib.hid hkids
    have HKO := Lib.hid hkok
    have HKC := Lib.hid hkc
    have HRW := Lib.hid hrow
    clear hB h0 hx hx2 hkids hkok hkc hrow
    obtain ⟨kd, ⟨s0, s1, s2, s3⟩, lo, hi'⟩ := x
    simp only at ha hlen hfl hsz ⊢
    have hk : kd = 1 ∨ kd = 2 ∨ kd = 3 ∨ kd = 4 ∨ kd = 5 ∨ kd = 6 ∨ kd = 7 := by
      rcases kind_cases ha with ⟨hk, h0⟩ | ⟨hk, h0⟩ | ⟨hk, h0⟩ <;> omega
    rcases hk with rfl | rfl | rfl | rfl | rfl | rfl | rfl
    · obtain rfl : ks = [] := List.eq_nil_of_length_eq_zero hlen
      clear hlen
      simp only [List.map_nil] at hsz ⊢
      obtain ⟨R, hRM⟩ : ∃ R, fMk ⟨1, ⟨s0, s1, s2, s3⟩, lo, hi'⟩ [] sts = R := ⟨_, rfl⟩
      rw [hRM]
      have HRM := Lib.hid hRM
      clear hRM
      have hM : fMk ⟨1, ⟨s0, s1, s2, s3⟩, lo, hi'⟩ [] = leafM 1 ⟨s0, s1, s2, s3⟩ := by unfold fMk; simp [stKind, setZ]
      have HRM := Lib.hid ((congrFun hM sts).symm.trans HRM.out)
      clear hM
      go_enter Try.func39, Try.ntmps39
      go_wp2_with fail
      refine HK.out.mono ?_
      rintro e w1 ⟨A1, c1, rfl, hOk, hb⟩
      have HB1 := Lib.hid (HBD.out.below (Nat.le_refl _) hb)
      have HS1 := Lib.hid (stays_below (g := g) hp hb)
      have hc1 := Go.Proofs.Ytibabfgfahlekaa.cell_below hb hc0
      obtain ⟨ad, x', rfl, hx', k0, k1, k2, k3, k4, k5, k6⟩ := (HR1.out.below hb).nd (show i < nn by omega)
      obtain rfl : _ = x' := Option.some.inj (HX.out.symm.trans hx')
      simp only at k0 k1 k2 k3 k4 k5 k6
      have hp1 : p < w1.heap.size := Nat.lt_of_lt_of_le hp hb.size
      have HOK := Lib.hid hOk
      have HWL := Lib.hid hb.size
      have H01 := Lib.hid (Go.Proofs.Ytibabfgfahlekaa.bel_then H0.out hb)
      clear hx' hOk hb hc0
      go_wp2_with fail
      refine (leaf_st p (.slice (some ad) nn c0) sts ⟨1, 0, 0, ⟨s0, s1, s2, s3⟩⟩ g _ (HB1.out.alloc _) (by omega)).mono ?_
      rintro e w2 ⟨rfl, g2, hB2, hS2⟩
      have HX2 := Lib.hid (And.intro hB2 ((HS1.out.alloc (by omega) _).trans hS2))
      clear hB2 hS2
      go_wp2_with fail
      have hRR := HRM.out
      subst hRR
      refine bodyPost_ret (v := .tuple #[.int .i64 sts.length, .int .i64 ((sts.length + 1 : Nat) : Int)]) (by simp [results, Try.results39, go_sem]) rfl ?_
      exact ⟨rfl, g2, HX2.out⟩
    · obtain rfl : ks = [] := List.eq_nil_of_length_eq_zero hlen
      clear hlen
      simp only [List.map_nil] at hsz ⊢
      obtain ⟨R, hRM⟩ : ∃ R, fMk ⟨2, ⟨s0, s1, s2, s3⟩, lo, hi'⟩ [] sts = R := ⟨_, rfl⟩
      rw [hRM]
      have HRM := Lib.hid hRM
      clear hRM
      have hM : fMk ⟨2, ⟨s0, s1, s2, s3⟩, lo, hi'⟩ [] = leafM 2 ⟨0, 0, 0, 0⟩ := by unfold fMk; simp [stKind, setZ]
      have HRM := Lib.hid ((congrFun hM sts).symm.trans HRM.out)
      clear hM
      go_enter Try.func39, Try.ntmps39
      go_wp2_with fail
      refine HK.out.mono ?_
      rintro e w1 ⟨A1, c1, rfl, hOk, hb⟩
      have HB1 := Lib.hid (HBD.out.below (Nat.le_refl _) hb)
      have HS1 := Lib.hid (stays_below (g := g) hp hb)
      have hc1 := Go.Proofs.Ytibabfgfahlekaa.cell_below hb hc0
      obtain ⟨ad, x', rfl, hx', k0, k1, k2, k3, k4, k5, k6⟩ := (HR1.out.below hb).nd (show i < nn by omega)
      obtain rfl : _ = x' := Option.some.inj (HX.out.symm.trans hx')
      simp only at k0 k1 k2 k3 k4 k5 k6
      have hp1 : p < w1.heap.size := Nat.lt_of_lt_of_le hp hb.size
      have HOK := Lib.hid hOk
      have HWL := Lib.hid hb.size
      have H01 := Lib.hid (Go.Proofs.Ytibabfgfahlekaa.bel_then H0.out hb)
      clear hx' hOk hb hc0
      go_wp2_with fail
      refine (leaf_st p (.slice (some ad) nn c0) sts ⟨2, 0, 0, ⟨0, 0, 0, 0⟩⟩ g _ (HB1.out.alloc _) (by omega)).mono ?_
      rintro e w2 ⟨rfl, g2, hB2, hS2⟩
      have HX2 := Lib.hid (And.intro hB2 ((HS1.out.alloc (by omega) _).trans hS2))
      clear hB2 hS2
      go_wp2_with fail
      have hRR := HRM.out
      subst hRR
      refine bodyPost_ret (v := .tuple #[.int .i64 sts.length, .int .i64 ((sts.length + 1 : Nat) : Int)]) (by simp [results, Try.results39, go_sem]) rfl ?_
      exact ⟨rfl, g2, HX2.out⟩
    · obtain rfl : ks = [] := List.eq_nil_of_length_eq_zero hlen
      clear hlen
      simp only [List.map_nil] at hsz ⊢
      obtain ⟨R, hRM⟩ : ∃ R, fMk ⟨3, ⟨s0, s1, s2, s3⟩, lo, hi'⟩ [] sts = R := ⟨_, rfl⟩
      rw [hRM]
      have HRM := Lib.hid hRM
      clear hRM
      have hM : fMk ⟨3, ⟨s0, s1, s2, s3⟩, lo, hi'⟩ [] = leafM 4 ⟨0, 0, 0, 0⟩ := by unfold fMk; simp [stKind, setZ]
      have HRM := Lib.hid ((congrFun hM sts).symm.trans HRM.out)
      clear hM
      go_enter Try.func39, Try.ntmps39
      go_wp2_with fail
      refine HK.out.mono ?_
      rintro e w1 ⟨A1, c1, rfl, hOk, hb⟩
      have HB1 := Lib.hid (HBD.out.below (Nat.le_refl _) hb)
      have HS1 := Lib.hid (stays_below (g := g) hp hb)
      have hc1 := Go.Proofs.Ytibabfgfahlekaa.cell_below hb hc0
      obtain ⟨ad, x', rfl, hx', k0, k1, k2, k3, k4, k5, k6⟩ := (HR1.out.below hb).nd (show i < nn by omega)
      obtain rfl : _ = x' := Option.some.inj (HX.out.symm.trans hx')
      simp only at k0 k1 k2 k3 k4 k5 k6
      have hp1 : p < w1.heap.size := Nat.lt_of_lt_of_le hp hb.size
      have HOK := Lib.hid hOk
      have HWL := Lib.hid hb.size
      have H01 := Lib.hid (Go.Proofs.Ytibabfgfahlekaa.bel_then H0.out hb)
      clear hx' hOk hb hc0
      go_wp2_with fail
      refine (leaf_st p (.slice (some ad) nn c0) sts ⟨4, 0, 0, ⟨0, 0, 0, 0⟩⟩ g _ (HB1.out.alloc _) (by omega)).mono ?_
      rintro e w2 ⟨rfl, g2, hB2, hS2⟩
      have HX2 := Lib.hid (And.intro hB2 ((HS1.out.alloc (by omega) _).trans hS2))
      clear hB2 hS2
      go_wp2_with fail
      have hRR := HRM.out
      subst hRR
      refine bodyPost_ret (v := .tuple #[.int .i64 sts.length, .int .i64 ((sts.length + 1 : Nat) : Int)]) (by simp [results, Try.results39, go_sem]) rfl ?_
      exact ⟨rfl, g2, HX2.out⟩
    · obtain rfl : ks = [] := List.eq_nil_of_length_eq_zero hlen
      clear hlen
      simp only [List.map_nil] at hsz ⊢
      obtain ⟨R, hRM⟩ : ∃ R, fMk ⟨4, ⟨s0, s1, s2, s3⟩, lo, hi'⟩ [] sts = R := ⟨_, rfl⟩
      rw [hRM]
      have HRM := Lib.hid hRM
      clear hRM
      have hM : fMk ⟨4, ⟨s0, s1, s2, s3⟩, lo, hi'⟩ [] = leafM 5 ⟨0, 0, 0, 0⟩ := by unfold fMk; simp [stKind, setZ]
      have HRM := Lib.hid ((congrFun hM sts).symm.trans HRM.out)
      clear hM
      go_enter Try.func39, Try.ntmps39
      go_wp2_with fail
      refine HK.out.mono ?_
      rintro e w1 ⟨A1, c1, rfl, hOk, hb⟩
      have HB1 := Lib.hid (HBD.out.below (Nat.le_refl _) hb)
      have HS1 := Lib.hid (stays_below (g := g) hp hb)
      have hc1 := Go.Proofs.Ytibabfgfahlekaa.cell_below hb hc0
      obtain ⟨ad, x', rfl, hx', k0, k1, k2, k3, k4, k5, k6⟩ := (HR1.out.below hb).nd (show i < nn by omega)
      obtain rfl : _ = x' := Option.some.inj (HX.out.symm.trans hx')
      simp only at k0 k1 k2 k3 k4 k5 k6
      have hp1 : p < w1.heap.size := Nat.lt_of_lt_of_le hp hb.size
      have HOK := Lib.hid hOk
      have HWL := Lib.hid hb.size
      have H01 := Lib.hid (Go.Proofs.Ytibabfgfahlekaa.bel_then H0.out hb)
      clear hx' hOk hb hc0
      go_wp2_with fail
      refine (leaf_st p (.slice (some ad) nn c0) sts ⟨5, 0, 0, ⟨0, 0, 0, 0⟩⟩ g _ (HB1.out.alloc _) (by omega)).mono ?_
      rintro e w2 ⟨rfl, g2, hB2, hS2⟩
      have HX2 := Lib.hid (And.intro hB2 ((HS1.out.alloc (by omega) _).trans hS2))
      clear hB2 hS2
      go_wp2_with fail
      have hRR := HRM.out
      subst hRR
      refine bodyPost_ret (v := .tuple #[.int .i64 sts.length, .int .i64 ((sts.length + 1 : Nat) : Int)]) (by simp [results, Try.results39, go_sem]) rfl ?_
      exact ⟨rfl, g2, HX2.out⟩
    · have hlen2 : ks.length = 2 := hlen
      obtain ⟨y, z, rfl⟩ : ∃ y z : Nat, ks = [(y : Int), (z : Int)] := by
        match ks, hlen2, hok with
        | [y, z], _, hok =>
          have h1 := hok y (by simp)
          have h2 := hok z (by simp)
          exact ⟨y.toNat, z.toNat, by rw [Int.toNat_of_nonneg (by omega), Int.toNat_of_nonneg (by omega)]⟩
      have hko1 := HKO.out y (by simp)
      have hko2 := HKO.out z (by simp)
      have hkc1 := HKC.out y (by simp)
      have hkc2 := HKC.out z (by simp)
      rw [Int.toNat_natCast] at hko1 hko2 hkc1 hkc2
      simp only [List.map_cons, List.map_nil, Int.toNat_natCast] at hsz ⊢
      generalize attr fMk l y = ma at *
      generalize attr fMk l z = mb at *
      generalize attr fSz l y = na at *
      generalize attr fSz l z = nb at *
      have HC1 := Lib.hid hkc1
      have HC2 := Lib.hid hkc2
      have hAx := hko1 sts
      have hBx := hko2 (ma sts).out
      obtain ⟨oa, hoa⟩ : ∃ oa, (ma sts).out = oa := ⟨_, rfl⟩
      obtain ⟨fa, hfa⟩ : ∃ fa, (ma sts).first = fa := ⟨_, rfl⟩
      obtain ⟨la, hla⟩ : ∃ la, (ma sts).last = la := ⟨_, rfl⟩
      rw [hoa, hfa, hla] at hAx
      rw [hoa] at hBx
      obtain ⟨ob, hob⟩ : ∃ ob, (mb oa).out = ob := ⟨_, rfl⟩
      obtain ⟨fb, hfb⟩ : ∃ fb, (mb oa).first = fb := ⟨_, rfl⟩
      obtain ⟨lb, hlb⟩ : ∃ lb, (mb oa).last = lb := ⟨_, rfl⟩
      rw [hob, hfb, hlb] at hBx
      have HO := Lib.hid (And.intro hoa (And.intro hfa (And.intro hla (And.intro hob (And.intro hfb hlb)))))
      simp only [fSz] at hsz
      obtain ⟨R, hRM⟩ : ∃ R, fMk ⟨5, ⟨s0, s1, s2, s3⟩, lo, hi'⟩ [ma, mb] sts = R := ⟨_, rfl⟩
      rw [hRM]
      have HRM := Lib.hid hRM
      clear hRM
      have hszz : sts.length + (na + nb) ≤ 900000 := hsz
      have hM : fMk ⟨5, ⟨s0, s1, s2, s3⟩, lo, hi'⟩ [ma, mb] sts = ⟨putA ob la fb, fa, lb⟩ := by show catM ma mb sts = _; unfold catM; simp only [hoa, hfa, hla, hob, hfb, hlb]
      have HRM := Lib.hid (hM.symm.trans HRM.out)
      have hx1 : la < ob.length := by omega
      have hx2 : lb < ob.length := by omega
      have hx3 : ob.length + 2 ≤ 900000 + 2 := by omega
      have hx4 : oa.length + nb ≤ 900000 := by omega
      clear hM hsz hoa hfa hla hob hfb hlb hAx hBx hko1 hko2 hkc1 hkc2 hlen hlen2 hok
      go_enter Try.func39, Try.ntmps39
      go_wp2_with fail
      refine HK.out.mono ?_
      rintro e w1 ⟨A1, c1, rfl, hOk, hb⟩
      have HB1 := Lib.hid (HBD.out.below (Nat.le_refl _) hb)
      have HS1 := Lib.hid (stays_below (g := g) hp hb)
      have hc1 := Go.Proofs.Ytibabfgfahlekaa.cell_below hb hc0
      obtain ⟨ad, x', rfl, hx', k0, k1, k2, k3, k4, k5, k6⟩ := (HR1.out.below hb).nd (show i < nn by omega)
      obtain rfl : _ = x' := Option.some.inj (HX.out.symm.trans hx')
      simp only at k0 k1 k2 k3 k4 k5 k6
      have hp1 : p < w1.heap.size := Nat.lt_of_lt_of_le hp hb.size
      have HOK := Lib.hid hOk
      have HWL := Lib.hid hb.size
      have H01 := Lib.hid (Go.Proofs.Ytibabfgfahlekaa.bel_then H0.out hb)
      clear hx' hOk hb hc0
      obtain ⟨gk, capk, hv, hgk, hltk⟩ := HOK.out.form (by simp)
      injection hv with hvA _ _
      subst hvA
      have r0 : w1.cell? ⟨gk, 0, none⟩ = some (.int .i64 y) := HOK.out.cellAt 0 (by simp [Go.Proofs.Ytibabfgfahlekaa.ints])
      have r1 : w1.cell? ⟨gk, 1, none⟩ = some (.int .i64 z) := HOK.out.cellAt 1 (by simp [Go.Proofs.Ytibabfgfahlekaa.ints])
      have hgkp : gk ≠ p := by omega
      have hgkg : g ≠ some gk := fun e => by have := HRW.out gk e; omega
      go_wp2_with fail
      refine (HC1.out _ sts g (HB1.out.alloc _) (H01.out.alloc (by omega) _) (by omega)).mono ?_
      rintro e w2 ⟨rfl, g2, hB2, hS2⟩
      rw [HO.out.1] at hB2
      rw [HO.out.2.1, HO.out.2.2.1]
      have r1' : w2.cell? ⟨gk, 1, none⟩ = some (.int .i64 z) := hS2.cell hgkp hgkg (Go.Proofs.Ytibabfgfahlekaa.cell_alloc r1 _)
      have HB2 := Lib.hid hB2
      have HS2 := Lib.hid ((HS1.out.alloc (by omega) _).trans hS2)
      have H02 := Lib.hid (H0.out.trans (HS2.out.below.mono hp0))
      clear hB2 hS2 r0 r1 k0 k1 k2 k3 k4 k5 k6
      go_wp2_with fail
      refine (HC2.out w2 oa g2 HB2.out H02.out (by omega)).mono ?_
      rintro e w3 ⟨rfl, g3, hB3, hS3⟩
      rw [HO.out.2.2.2.1] at hB3
      rw [HO.out.2.2.2.2.1, HO.out.2.2.2.2.2]
      have HB3 := Lib.hid hB3
      have HS3 := Lib.hid (HS2.out.trans hS3)
      clear hB3 hS3 r1'
      go_wp2_with fail
      refine (to_st p _ ob g3 la fb w3 HB3.out (by omega) (by omega)).mono ?_
      rintro e w4 ⟨rfl, hB4, hS4⟩
      have HX4 := Lib.hid (And.intro hB4 (HS3.out.trans hS4))
      clear hB4 hS4
      go_wp2_with fail
      have hRR := HRM.out
      subst hRR
      refine bodyPost_ret (v := .tuple #[.int .i64 fa, .int .i64 lb]) (by simp [results, Try.results39, go_sem]) rfl ?_
      exact ⟨rfl, g3, HX4.out⟩
    · have hlen2 : ks.length = 2 := hlen
      obtain ⟨y, z, rfl⟩ : ∃ y z : Nat, ks = [(y : Int), (z : Int)] := by
        match ks, hlen2, hok with
        | [y, z], _, hok =>
          have h1 := hok y (by simp)
          have h2 := hok z (by simp)
          exact ⟨y.toNat, z.toNat, by rw [Int.toNat_of_nonneg (by omega), Int.toNat_of_nonneg (by omega)]⟩
      have hko1 := HKO.out y (by simp)
      have hko2 := HKO.out z (by simp)
      have hkc1 := HKC.out y (by simp)
      have hkc2 := HKC.out z (by simp)
      rw [Int.toNat_natCast] at hko1 hko2 hkc1 hkc2
      simp only [List.map_cons, List.map_nil, Int.toNat_natCast] at hsz ⊢
      generalize attr fMk l y = ma at *
      generalize attr fMk l z = mb at *
      generalize attr fSz l y = na at *
      generalize attr fSz l z = nb at *
      have HC1 := Lib.hid hkc1
      have HC2 := Lib.hid hkc2
      have hAx := hko1 sts
      have hBx := hko2 (ma sts).out
      obtain ⟨oa, hoa⟩ : ∃ oa, (ma sts).out = oa := ⟨_, rfl⟩
      obtain ⟨fa, hfa⟩ : ∃ fa, (ma sts).first = fa := ⟨_, rfl⟩
      obtain ⟨la, hla⟩ : ∃ la, (ma sts).last = la := ⟨_, rfl⟩
      rw [hoa, hfa, hla] at hAx
      rw [hoa] at hBx
      obtain ⟨ob, hob⟩ : ∃ ob, (mb oa).out = ob := ⟨_, rfl⟩
      obtain ⟨fb, hfb⟩ : ∃ fb, (mb oa).first = fb := ⟨_, rfl⟩
      obtain ⟨lb, hlb⟩ : ∃ lb, (mb oa).last = lb := ⟨_, rfl⟩
      rw [hob, hfb, hlb] at hBx
      have HO := Lib.hid (And.intro hoa (And.intro hfa (And.intro hla (And.intro hob (And.intro hfb hlb)))))
      simp only [fSz] at hsz
      obtain ⟨R, hRM⟩ : ∃ R, fMk ⟨6, ⟨s0, s1, s2, s3⟩, lo, hi'⟩ [ma, mb] sts = R := ⟨_, rfl⟩
      rw [hRM]
      have HRM := Lib.hid hRM
      clear hRM
      have hszz : sts.length + (na + nb + 2) ≤ 900000 := hsz
      have hM : fMk ⟨6, ⟨s0, s1, s2, s3⟩, lo, hi'⟩ [ma, mb] sts = ⟨putA (putA (ob ++ [kSt 3 fa fb] ++ [eSt]) la (ob.length + 1 : Nat)) lb (ob.length + 1 : Nat), ob.length, ob.length + 1⟩ := by show orM ma mb sts = _; unfold orM; simp only [hoa, hfa, hla, hob, hfb, hlb]
      have HRM := Lib.hid (hM.symm.trans HRM.out)
      have hx1 : la < ob.length := by omega
      have hx2 : lb < ob.length := by omega
      have hx3 : ob.length + 2 ≤ 900000 + 2 := by omega
      have hx4 : oa.length + nb ≤ 900000 := by omega
      clear hM hsz hoa hfa hla hob hfb hlb hAx hBx hko1 hko2 hkc1 hkc2 hlen hlen2 hok
      go_enter Try.func39, Try.ntmps39
      go_wp2_with fail
      refine HK.out.mono ?_
      rintro e w1 ⟨A1, c1, rfl, hOk, hb⟩
      have HB1 := Lib.hid (HBD.out.below (Nat.le_refl _) hb)
      have HS1 := Lib.hid (stays_below (g := g) hp hb)
      have hc1 := Go.Proofs.Ytibabfgfahlekaa.cell_below hb hc0
      obtain ⟨ad, x', rfl, hx', k0, k1, k2, k3, k4, k5, k6⟩ := (HR1.out.below hb).nd (show i < nn by omega)
      obtain rfl : _ = x' := Option.some.inj (HX.out.symm.trans hx')
      simp only at k0 k1 k2 k3 k4 k5 k6
      have hp1 : p < w1.heap.size := Nat.lt_of_lt_of_le hp hb.size
      have HOK := Lib.hid hOk
      have HWL := Lib.hid hb.size
      have H01 := Lib.hid (Go.Proofs.Ytibabfgfahlekaa.bel_then H0.out hb)
      clear hx' hOk hb hc0
      obtain ⟨gk, capk, hv, hgk, hltk⟩ := HOK.out.form (by simp)
      injection hv with hvA _ _
      subst hvA
      have r0 : w1.cell? ⟨gk, 0, none⟩ = some (.int .i64 y) := HOK.out.cellAt 0 (by simp [Go.Proofs.Ytibabfgfahlekaa.ints])
      have r1 : w1.cell? ⟨gk, 1, none⟩ = some (.int .i64 z) := HOK.out.cellAt 1 (by simp [Go.Proofs.Ytibabfgfahlekaa.ints])
      have hgkp : gk ≠ p := by omega
      have hgkg : g ≠ some gk := fun e => by have := HRW.out gk e; omega
      go_wp2_with fail
      refine (HC1.out _ sts g (HB1.out.alloc _) (H01.out.alloc (by omega) _) (by omega)).mono ?_
      rintro e w2 ⟨rfl, g2, hB2, hS2⟩
      rw [HO.out.1] at hB2
      rw [HO.out.2.1, HO.out.2.2.1]
      have r1' : w2.cell? ⟨gk, 1, none⟩ = some (.int .i64 z) := hS2.cell hgkp hgkg (Go.Proofs.Ytibabfgfahlekaa.cell_alloc r1 _)
      have HB2 := Lib.hid hB2
      have HS2 := Lib.hid ((HS1.out.alloc (by omega) _).trans hS2)
      have H02 := Lib.hid (H0.out.trans (HS2.out.below.mono hp0))
      clear hB2 hS2 r0 r1 k0 k1 k2 k3 k4 k5 k6
      go_wp2_with fail
      refine (HC2.out w2 oa g2 HB2.out H02.out (by omega)).mono ?_
      rintro e w3 ⟨rfl, g3, hB3, hS3⟩
      rw [HO.out.2.2.2.1] at hB3
      rw [HO.out.2.2.2.2.1, HO.out.2.2.2.2.2]
      have HB3 := Lib.hid hB3
      have HS3 := Lib.hid (HS2.out.trans hS3)
      clear hB3 hS3 r1'
      go_wp2_with fail
      refine (state_st p _ ob (kSt 3 fa fb) g3 w3 HB3.out (by omega)).mono ?_
      rintro e w4 ⟨rfl, g4, hB4, hS4⟩
      have HB4 := Lib.hid hB4
      have HS4 := Lib.hid (HS3.out.trans hS4)
      have hl4 : (ob ++ [kSt 3 fa fb]).length = ob.length + 1 := by rw [List.length_append]; rfl
      have HL4 := Lib.hid hl4
      clear hB4 hS4 hl4
      go_wp2_with fail
      refine (empty_st p _ (ob ++ [kSt 3 fa fb]) g4 w4 HB4.out (by rw [HL4.out]; omega)).mono ?_
      rintro e w5 ⟨rfl, g5, hB5, hS5⟩
      rw [HL4.out]
      have HB5 := Lib.hid hB5
      have HS5 := Lib.hid (HS4.out.trans hS5)
      have hl5 : (ob ++ [kSt 3 fa fb] ++ [eSt]).length = ob.length + 2 := by rw [List.length_append, HL4.out]; rfl
      have HL5 := Lib.hid hl5
      clear hB5 hS5 hl5
      go_wp2_with fail
      refine (to_st p _ (ob ++ [kSt 3 fa fb] ++ [eSt]) g5 la (ob.length + 1 : Nat) w5 HB5.out (by rw [HL5.out]; omega) (by rw [HL5.out]; omega)).mono ?_
      rintro e w6 ⟨rfl, hB6, hS6⟩
      have HB6 := Lib.hid hB6
      have HS6 := Lib.hid (HS5.out.trans hS6)
      clear hB6 hS6
      go_wp2_with fail
      refine (to_st p _ (putA (ob ++ [kSt 3 fa fb] ++ [eSt]) la (ob.length + 1 : Nat)) g5 lb (ob.length + 1 : Nat) w6 HB6.out (by rw [putA_len, HL5.out]; omega) (by rw [putA_len, HL5.out]; omega)).mono ?_
      rintro e w7 ⟨rfl, hB7, hS7⟩
      have HX7 := Lib.hid (And.intro hB7 (HS6.out.trans hS7))
      clear hB7 hS7
      go_wp2_with fail
      have hRR := HRM.out
      subst hRR
      refine bodyPost_ret (v := .tuple #[.int .i64 ob.length, .int .i64 ((ob.length + 1 : Nat) : Int)]) (by simp [results, Try.results39, go_sem]) rfl ?_
      exact ⟨rfl, g5, HX7.out⟩
    · have hlen2 : ks.length = 1 := hlen
      obtain ⟨y, rfl⟩ : ∃ y : Nat, ks = [(y : Int)] := by
        match ks, hlen2, hok with
        | [y], _, hok =>
          have h1 := hok y (by simp)
          exact ⟨y.toNat, by rw [Int.toNat_of_nonneg (by omega)]⟩
      have hko1 := HKO.out y (by simp)
      have hkc1 := HKC.out y (by simp)
      rw [Int.toNat_natCast] at hko1 hkc1
      simp only [List.map_cons, List.map_nil, Int.toNat_natCast] at hsz ⊢
      generalize attr fMk l y = ma at *
      generalize attr fSz l y = na at *
      have HC1 := Lib.hid hkc1
      obtain ⟨b1, b2, b3⟩ := rep_fields hfl rfl
      simp only at b1 b2 b3
      obtain ⟨lo', rfl⟩ := Int.eq_ofNat_of_zero_le b1
      rcases b3 with rfl | ⟨b3, b4⟩
      · have hszz : sts.length + (3 + (lo' + 1) * na) ≤ 900000 := by
          simpa [fSz] using hsz
        obtain ⟨R, hRM⟩ : ∃ R, fMk ⟨7, ⟨s0, s1, s2, s3⟩, (lo' : Int), (-1)⟩ [ma] sts = R := ⟨_, rfl⟩
        rw [hRM]
        have HRM := Lib.hid hRM
        clear hRM
        have hM : fMk ⟨7, ⟨s0, s1, s2, s3⟩, (lo' : Int), (-1)⟩ [ma] sts = repM lo' (-1) ma sts := rfl
        have HRM := Lib.hid (hM.symm.trans HRM.out)
        have HKO1 := Lib.hid hko1
        clear hM hsz hko1 hkc1 hlen hlen2 hok
        go_enter Try.func39, Try.ntmps39
        go_wp2_with fail
        refine HK.out.mono ?_
        rintro e w1 ⟨A1, c1, rfl, hOk, hb⟩
        have HB1 := Lib.hid (HBD.out.below (Nat.le_refl _) hb)
        have HS1 := Lib.hid (stays_below (g := g) hp hb)
        have hc1 := Go.Proofs.Ytibabfgfahlekaa.cell_below hb hc0
        obtain ⟨ad, x', rfl, hx', k0, k1, k2, k3, k4, k5, k6⟩ := (HR1.out.below hb).nd (show i < nn by omega)
        obtain rfl : _ = x' := Option.some.inj (HX.out.symm.trans hx')
        simp only at k0 k1 k2 k3 k4 k5 k6
        have hp1 : p < w1.heap.size := Nat.lt_of_lt_of_le hp hb.size
        have HOK := Lib.hid hOk
        have HWL := Lib.hid hb.size
        have H01 := Lib.hid (Go.Proofs.Ytibabfgfahlekaa.bel_then H0.out hb)
        clear hx' hOk hb hc0
        obtain ⟨gk, capk, hv, hgk, hltk⟩ := HOK.out.form (by simp)
        injection hv with hvA _ _
        subst hvA
        have r0 : w1.cell? ⟨gk, 0, none⟩ = some (.int .i64 y) := HOK.out.cellAt 0 (by simp [Go.Proofs.Ytibabfgfahlekaa.ints])
        have hgkp : gk ≠ p := by omega
        have hgkg : g ≠ some gk := fun e => by have := HRW.out gk e; omega
        go_wp2_with fail
        have n0 : (w1.alloc (.cells #[.int .i64 7, .int .u64 (s0 : Int), .int .u64 (s1 : Int), .int .u64 (s2 : Int), .int .u64 (s3 : Int), .int .i64 (lo' : Int), .int .i64 (-1)] 63)).cell? ⟨w1.heap.size, 0, none⟩ = some (.int .i64 7) := by rw [cell_of_row _ _ 0 _ _ _ (heap_alloc_new w1 _)]; rfl
        have n1 : (w1.alloc (.cells #[.int .i64 7, .int .u64 (s0 : Int), .int .u64 (s1 : Int), .int .u64 (s2 : Int), .int .u64 (s3 : Int), .int .i64 (lo' : Int), .int .i64 (-1)] 63)).cell? ⟨w1.heap.size, 1, none⟩ = some (.int .u64 (s0 : Int)) := by rw [cell_of_row _ _ 1 _ _ _ (heap_alloc_new w1 _)]; rfl
        have n2 : (w1.alloc (.cells #[.int .i64 7, .int .u64 (s0 : Int), .int .u64 (s1 : Int), .int .u64 (s2 : Int), .int .u64 (s3 : Int), .int .i64 (lo' : Int), .int .i64 (-1)] 63)).cell? ⟨w1.heap.size, 2, none⟩ = some (.int .u64 (s1 : Int)) := by rw [cell_of_row _ _ 2 _ _ _ (heap_alloc_new w1 _)]; rfl
        have n3 : (w1.alloc (.cells #[.int .i64 7, .int .u64 (s0 : Int), .int .u64 (s1 : Int), .int .u64 (s2 : Int), .int .u64 (s3 : Int), .int .i64 (lo' : Int), .int .i64 (-1)] 63)).cell? ⟨w1.heap.size, 3, none⟩ = some (.int .u64 (s2 : Int)) := by rw [cell_of_row _ _ 3 _ _ _ (heap_alloc_new w1 _)]; rfl
        have n4 : (w1.alloc (.cells #[.int .i64 7, .int .u64 (s0 : Int), .int .u64 (s1 : Int), .int .u64 (s2 : Int), .int .u64 (s3 : Int), .int .i64 (lo' : Int), .int .i64 (-1)] 63)).cell? ⟨w1.heap.size, 4, none⟩ = some (.int .u64 (s3 : Int)) := by rw [cell_of_row _ _ 4 _ _ _ (heap_alloc_new w1 _)]; rfl
        have n5 : (w1.alloc (.cells #[.int .i64 7, .int .u64 (s0 : Int), .int .u64 (s1 : Int), .int .u64 (s2 : Int), .int .u64 (s3 : Int), .int .i64 (lo' : Int), .int .i64 (-1)] 63)).cell? ⟨w1.heap.size, 5, none⟩ = some (.int .i64 (lo' : Int)) := by rw [cell_of_row _ _ 5 _ _ _ (heap_alloc_new w1 _)]; rfl
        have n6 : (w1.alloc (.cells #[.int .i64 7, .int .u64 (s0 : Int), .int .u64 (s1 : Int), .int .u64 (s2 : Int), .int .u64 (s3 : Int), .int .i64 (lo' : Int), .int .i64 (-1)] 63)).cell? ⟨w1.heap.size, 6, none⟩ = some (.int .i64 (-1)) := by rw [cell_of_row _ _ 6 _ _ _ (heap_alloc_new w1 _)]; rfl
        replace r0 := Go.Proofs.Ytibabfgfahlekaa.cell_alloc r0 (.cells #[.int .i64 7, .int .u64 (s0 : Int), .int .u64 (s1 : Int), .int .u64 (s2 : Int), .int .u64 (s3 : Int), .int .i64 (lo' : Int), .int .i64 (-1)] 63)
        have HBW := Lib.hid (HB1.out.alloc (.cells #[.int .i64 7, .int .u64 (s0 : Int), .int .u64 (s1 : Int), .int .u64 (s2 : Int), .int .u64 (s3 : Int), .int .i64 (lo' : Int), .int .i64 (-1)] 63))
        have HSW := Lib.hid (HS1.out.alloc (Nat.le_of_lt hp1) (.cells #[.int .i64 7, .int .u64 (s0 : Int), .int .u64 (s1 : Int), .int .u64 (s2 : Int), .int .u64 (s3 : Int), .int .i64 (lo' : Int), .int .i64 (-1)] 63))
        have H0W := Lib.hid (H01.out.alloc (by omega) (.cells #[.int .i64 7, .int .u64 (s0 : Int), .int .u64 (s1 : Int), .int .u64 (s2 : Int), .int .u64 (s3 : Int), .int .i64 (lo' : Int), .int .i64 (-1)] 63))
        have hgb : g ≠ some w1.heap.size := fun e => by have := HRW.out _ e; have := HWL.out; omega
        have hpb : w1.heap.size ≠ p := by omega
        generalize w1.alloc (.cells #[.int .i64 7, .int .u64 (s0 : Int), .int .u64 (s1 : Int), .int .u64 (s2 : Int), .int .u64 (s3 : Int), .int .i64 (lo' : Int), .int .i64 (-1)] 63) = W2 at *
        have keepS : ∀ w', Below W2.heap.size W2 w' → (w'.cell? ⟨w1.heap.size, 0, none⟩ = some (.int .i64 7) ∧ w'.cell? ⟨w1.heap.size, 1, none⟩ = some (.int .u64 (s0 : Int)) ∧ w'.cell? ⟨w1.heap.size, 2, none⟩ = some (.int .u64 (s1 : Int)) ∧ w'.cell? ⟨w1.heap.size, 3, none⟩ = some (.int .u64 (s2 : Int)) ∧ w'.cell? ⟨w1.heap.size, 4, none⟩ = some (.int .u64 (s3 : Int)) ∧ w'.cell? ⟨w1.heap.size, 5, none⟩ = some (.int .i64 (lo' : Int)) ∧ w'.cell? ⟨w1.heap.size, 6, none⟩ = some (.int .i64 (-1)) ∧ w'.cell? ⟨gk, 0, none⟩ = some (.int .i64 y)) := fun w' hX => ⟨Go.Proofs.Ytibabfgfahlekaa.cell_below hX n0, Go.Proofs.Ytibabfgfahlekaa.cell_below hX n1, Go.Proofs.Ytibabfgfahlekaa.cell_below hX n2, Go.Proofs.Ytibabfgfahlekaa.cell_below hX n3, Go.Proofs.Ytibabfgfahlekaa.cell_below hX n4, Go.Proofs.Ytibabfgfahlekaa.cell_below hX n5, Go.Proofs.Ytibabfgfahlekaa.cell_below hX n6, Go.Proofs.Ytibabfgfahlekaa.cell_below hX r0⟩
        refine wp_region_noPanic ?_
        refine wp_region_held_drew (S := fun w' => w'.cell? ⟨w1.heap.size, 0, none⟩ = some (.int .i64 7) ∧ w'.cell? ⟨w1.heap.size, 1, none⟩ = some (.int .u64 (s0 : Int)) ∧ w'.cell? ⟨w1.heap.size, 2, none⟩ = some (.int .u64 (s1 : Int)) ∧ w'.cell? ⟨w1.heap.size, 3, none⟩ = some (.int .u64 (s2 : Int)) ∧ w'.cell? ⟨w1.heap.size, 4, none⟩ = some (.int .u64 (s3 : Int)) ∧ w'.cell? ⟨w1.heap.size, 5, none⟩ = some (.int .i64 (lo' : Int)) ∧ w'.cell? ⟨w1.heap.size, 6, none⟩ = some (.int .i64 (-1)) ∧ w'.cell? ⟨gk, 0, none⟩ = some (.int .i64 y)) (by kernel_rfl) (keepS _ (Go.Proofs.Ytibabfgfahlekaa.bel_drew (Below.refl _ _))) (fun hHeld => ?_)
        refine wpAnyH_take (i := 0) (v := ?_) rfl (by kernel_rfl) (by kernel_rfl) (by kernel_rfl) (fun _ _ _ h => h) (Or.inl ⟨by kernel_rfl, ?_⟩) (by assumption) ?_
        rotate_left
        · intro w hSw
          try dsimp only at hSw
          go_simp
          try with_reducible rfl
        try simp only [List.getElem_toArray, List.getElem_cons_zero, List.getElem_cons_succ, Act.put, List.setIfInBounds_toArray, List.set_cons_zero, List.set_cons_succ]
        refine wpAnyH_take (i := 1) (v := ?_) rfl (by kernel_rfl) (by kernel_rfl) (by kernel_rfl) (fun _ _ _ h => h) (Or.inl ⟨by kernel_rfl, ?_⟩) (by assumption) ?_
        rotate_left
        · intro w hSw
          try dsimp only at hSw
          go_simp
          try with_reducible rfl
        try simp only [List.getElem_toArray, List.getElem_cons_zero, List.getElem_cons_succ, Act.put, List.setIfInBounds_toArray, List.set_cons_zero, List.set_cons_succ]
        refine wpAnyH_take (i := 2) (v := ?_) rfl (by kernel_rfl) (by kernel_rfl) (by kernel_rfl) (fun _ _ _ h => h) (Or.inl ⟨by kernel_rfl, ?_⟩) (by assumption) ?_
        rotate_left
        · intro w hSw
          try dsimp only at hSw
          go_simp
          try with_reducible rfl
        try simp only [List.getElem_toArray, List.getElem_cons_zero, List.getElem_cons_succ, Act.put, List.setIfInBounds_toArray, List.set_cons_zero, List.set_cons_succ]
        refine wpAnyH_take (i := 3) (v := ?_) rfl (by kernel_rfl) (by kernel_rfl) (by kernel_rfl) (fun _ _ _ h => h) (Or.inl ⟨by kernel_rfl, ?_⟩) (by assumption) ?_
        rotate_left
        · intro w hSw
          try dsimp only at hSw
          go_simp
          try with_reducible rfl
        try simp only [List.getElem_toArray, List.getElem_cons_zero, List.getElem_cons_succ, Act.put, List.setIfInBounds_toArray, List.set_cons_zero, List.set_cons_succ]
        refine wpAnyH_take (i := 4) (v := ?_) rfl (by kernel_rfl) (by kernel_rfl) (by kernel_rfl) (fun _ _ _ h => h) (Or.inl ⟨by kernel_rfl, ?_⟩) (by assumption) ?_
        rotate_left
        · intro w hSw
          try dsimp only at hSw
          go_simp
          try with_reducible rfl
        try simp only [List.getElem_toArray, List.getElem_cons_zero, List.getElem_cons_succ, Act.put, List.setIfInBounds_toArray, List.set_cons_zero, List.set_cons_succ]
        refine wpAnyH_ready (rs := [5]) (by kernel_rfl) (by simp) ?_
        refine AllReadyH.cons rfl (fun K hK => ?_) AllReadyH.nil
        go_simp
        refine (rep_neg p _ y ma na HKO1.out w0 hp0 7 s0 s1 s2 s3 lo' HC1.out (by omega) _ sts g (HBW.out.below (Nat.le_refl _) (Go.Proofs.Ytibabfgfahlekaa.bel_drew (Below.refl _ _))) (Go.Proofs.Ytibabfgfahlekaa.bel_drew H0W.out) hszz).mono ?_
        rintro e w2 ⟨rfl, g2, hB2, hS2⟩
        obtain ⟨m0, m1, m2, m3, m4, m5, m6, m7⟩ := keepS _ (Go.Proofs.Ytibabfgfahlekaa.bel_drew (Below.refl W2.heap.size W2))
        refine hK.out _ _ ⟨hS2.cell hpb hgb m0, hS2.cell hpb hgb m1, hS2.cell hpb hgb m2, hS2.cell hpb hgb m3, hS2.cell hpb hgb m4, hS2.cell hpb hgb m5, hS2.cell hpb hgb m6, hS2.cell hgkp hgkg m7⟩ (fun hHeld => ?_)
        have HX2 := Lib.hid (And.intro hB2 ((HSW.out.trans (stays_below (g := g) HBW.out.lt (Go.Proofs.Ytibabfgfahlekaa.bel_drew (Below.refl _ _)))).trans hS2))
        clear hB2 hS2 m0 m1 m2 m3 m4 m5 m6 m7
        clear hK K
        try simp only [List.getElem_toArray, List.getElem_cons_zero, List.getElem_cons_succ, Act.put, List.setIfInBounds_toArray, List.set_cons_zero, List.set_cons_succ]
        refine wpAnyH_take (i := 6) (v := ?_) rfl (by kernel_rfl) (by kernel_rfl) (by kernel_rfl) (fun _ _ _ h => h) (Or.inl ⟨by kernel_rfl, ?_⟩) (by assumption) ?_
        rotate_left
        · intro w hSw
          try dsimp only at hSw
          go_simp
          try with_reducible rfl
        try simp only [List.getElem_toArray, List.getElem_cons_zero, List.getElem_cons_succ, Act.put, List.setIfInBounds_toArray, List.set_cons_zero, List.set_cons_succ]
        refine wpAnyH_take (i := 7) (v := ?_) rfl (by kernel_rfl) (by kernel_rfl) (by kernel_rfl) (fun _ _ _ h => h) (Or.inl ⟨by kernel_rfl, ?_⟩) (by assumption) ?_
        rotate_left
        · intro w hSw
          try dsimp only at hSw
          go_simp
          try with_reducible rfl
        try simp only [List.getElem_toArray, List.getElem_cons_zero, List.getElem_cons_succ, Act.put, List.setIfInBounds_toArray, List.set_cons_zero, List.set_cons_succ]
        refine wpAnyH_take (i := 8) (v := ?_) rfl (by kernel_rfl) (by kernel_rfl) (by kernel_rfl) (fun _ _ _ h => h) (Or.inl ⟨by kernel_rfl, ?_⟩) (by assumption) ?_
        rotate_left
        · intro w hSw
          try dsimp only at hSw
          go_simp
          try with_reducible rfl
        try simp only [List.getElem_toArray, List.getElem_cons_zero, List.getElem_cons_succ, Act.put, List.setIfInBounds_toArray, List.set_cons_zero, List.set_cons_succ]
        refine wpAnyH_take (i := 9) (v := ?_) rfl (by kernel_rfl) (by kernel_rfl) (by kernel_rfl) (fun _ _ _ h => h) (Or.inl ⟨by kernel_rfl, ?_⟩) (by assumption) ?_
        rotate_left
        · intro w hSw
          try dsimp only at hSw
          go_simp
          try with_reducible rfl
        try simp only [List.getElem_toArray, List.getElem_cons_zero, List.getElem_cons_succ, Act.put, List.setIfInBounds_toArray, List.set_cons_zero, List.set_cons_succ]
        refine wpAnyH_done (by kernel_rfl) ?_ _
        refine NoPanic.normal ?_
        clear hHeld keepS
        go_wp2_with fail
        have hRR := HRM.out
        rw [hRR]
        refine bodyPost_ret (v := .tuple #[.int .i64 R.first, .int .i64 R.last]) (by simp [results, Try.results39, go_sem]) rfl ?_
        rw [← hRR]
        exact ⟨rfl, g2, HX2.out⟩
      · obtain ⟨H, rfl⟩ := Int.eq_ofNat_of_zero_le (show 0 ≤ hi' by omega)
        obtain ⟨m, hHm⟩ : ∃ m, H = lo' + m := ⟨H - lo', by omega⟩
        have hszz : sts.length + (2 + H * na + m) ≤ 900000 := by
          have e1 : ((H : Int) - (lo' : Int)).toNat = m := by omega
          have e2 : fSz ⟨7, ⟨s0, s1, s2, s3⟩, (lo' : Int), (H : Int)⟩ [na] = 2 + H * na + m := by
            unfold fSz
            have hnn2 : ¬ ((H : Int) < 0) := by omega
            show (if (7 : Int) = 5 then _ else if (7 : Int) = 6 then _ else if (7 : Int) = 7 then (if (H : Int) < 0 then _ else 2 + (H : Int).toNat * na + ((H : Int) - (lo' : Int)).toNat) else _) = _
            rw [if_neg (by decide), if_neg (by decide), if_pos rfl, if_neg hnn2, e1, Int.toNat_natCast]
          rw [e2] at hsz
          exact hsz
        obtain ⟨R, hRM⟩ : ∃ R, fMk ⟨7, ⟨s0, s1, s2, s3⟩, (lo' : Int), (H : Int)⟩ [ma] sts = R := ⟨_, rfl⟩
        rw [hRM]
        have HRM := Lib.hid hRM
        clear hRM
        have hM : fMk ⟨7, ⟨s0, s1, s2, s3⟩, (lo' : Int), (H : Int)⟩ [ma] sts = repM lo' (H : Int) ma sts := rfl
        have HRM := Lib.hid (hM.symm.trans HRM.out)
        have HKO1 := Lib.hid hko1
        have HHM := Lib.hid hHm
        have hm32 : m ≤ 32 := by omega
        clear hHm
        clear hM hsz hko1 hkc1 hlen hlen2 hok
        go_enter Try.func39, Try.ntmps39
        go_wp2_with fail
        refine HK.out.mono ?_
        rintro e w1 ⟨A1, c1, rfl, hOk, hb⟩
        have HB1 := Lib.hid (HBD.out.below (Nat.le_refl _) hb)
        have HS1 := Lib.hid (stays_below (g := g) hp hb)
        have hc1 := Go.Proofs.Ytibabfgfahlekaa.cell_below hb hc0
        obtain ⟨ad, x', rfl, hx', k0, k1, k2, k3, k4, k5, k6⟩ := (HR1.out.below hb).nd (show i < nn by omega)
        obtain rfl : _ = x' := Option.some.inj (HX.out.symm.trans hx')
        simp only at k0 k1 k2 k3 k4 k5 k6
        have hp1 : p < w1.heap.size := Nat.lt_of_lt_of_le hp hb.size
        have HOK := Lib.hid hOk
        have HWL := Lib.hid hb.size
        have H01 := Lib.hid (Go.Proofs.Ytibabfgfahlekaa.bel_then H0.out hb)
        clear hx' hOk hb hc0
        obtain ⟨gk, capk, hv, hgk, hltk⟩ := HOK.out.form (by simp)
        injection hv with hvA _ _
        subst hvA
        have r0 : w1.cell? ⟨gk, 0, none⟩ = some (.int .i64 y) := HOK.out.cellAt 0 (by simp [Go.Proofs.Ytibabfgfahlekaa.ints])
        have hgkp : gk ≠ p := by omega
        have hgkg : g ≠ some gk := fun e => by have := HRW.out gk e; omega
        go_wp2_with fail
        have n0 : (w1.alloc (.cells #[.int .i64 7, .int .u64 (s0 : Int), .int .u64 (s1 : Int), .int .u64 (s2 : Int), .int .u64 (s3 : Int), .int .i64 (lo' : Int), .int .i64 (H : Int)] 63)).cell? ⟨w1.heap.size, 0, none⟩ = some (.int .i64 7) := by rw [cell_of_row _ _ 0 _ _ _ (heap_alloc_new w1 _)]; rfl
        have n1 : (w1.alloc (.cells #[.int .i64 7, .int .u64 (s0 : Int), .int .u64 (s1 : Int), .int .u64 (s2 : Int), .int .u64 (s3 : Int), .int .i64 (lo' : Int), .int .i64 (H : Int)] 63)).cell? ⟨w1.heap.size, 1, none⟩ = some (.int .u64 (s0 : Int)) := by rw [cell_of_row _ _ 1 _ _ _ (heap_alloc_new w1 _)]; rfl
        have n2 : (w1.alloc (.cells #[.int .i64 7, .int .u64 (s0 : Int), .int .u64 (s1 : Int), .int .u64 (s2 : Int), .int .u64 (s3 : Int), .int .i64 (lo' : Int), .int .i64 (H : Int)] 63)).cell? ⟨w1.heap.size, 2, none⟩ = some (.int .u64 (s1 : Int)) := by rw [cell_of_row _ _ 2 _ _ _ (heap_alloc_new w1 _)]; rfl
        have n3 : (w1.alloc (.cells #[.int .i64 7, .int .u64 (s0 : Int), .int .u64 (s1 : Int), .int .u64 (s2 : Int), .int .u64 (s3 : Int), .int .i64 (lo' : Int), .int .i64 (H : Int)] 63)).cell? ⟨w1.heap.size, 3, none⟩ = some (.int .u64 (s2 : Int)) := by rw [cell_of_row _ _ 3 _ _ _ (heap_alloc_new w1 _)]; rfl
        have n4 : (w1.alloc (.cells #[.int .i64 7, .int .u64 (s0 : Int), .int .u64 (s1 : Int), .int .u64 (s2 : Int), .int .u64 (s3 : Int), .int .i64 (lo' : Int), .int .i64 (H : Int)] 63)).cell? ⟨w1.heap.size, 4, none⟩ = some (.int .u64 (s3 : Int)) := by rw [cell_of_row _ _ 4 _ _ _ (heap_alloc_new w1 _)]; rfl
        have n5 : (w1.alloc (.cells #[.int .i64 7, .int .u64 (s0 : Int), .int .u64 (s1 : Int), .int .u64 (s2 : Int), .int .u64 (s3 : Int), .int .i64 (lo' : Int), .int .i64 (H : Int)] 63)).cell? ⟨w1.heap.size, 5, none⟩ = some (.int .i64 (lo' : Int)) := by rw [cell_of_row _ _ 5 _ _ _ (heap_alloc_new w1 _)]; rfl
        have n6 : (w1.alloc (.cells #[.int .i64 7, .int .u64 (s0 : Int), .int .u64 (s1 : Int), .int .u64 (s2 : Int), .int .u64 (s3 : Int), .int .i64 (lo' : Int), .int .i64 (H : Int)] 63)).cell? ⟨w1.heap.size, 6, none⟩ = some (.int .i64 (H : Int)) := by rw [cell_of_row _ _ 6 _ _ _ (heap_alloc_new w1 _)]; rfl
        replace r0 := Go.Proofs.Ytibabfgfahlekaa.cell_alloc r0 (.cells #[.int .i64 7, .int .u64 (s0 : Int), .int .u64 (s1 : Int), .int .u64 (s2 : Int), .int .u64 (s3 : Int), .int .i64 (lo' : Int), .int .i64 (H : Int)] 63)
        have HBW := Lib.hid (HB1.out.alloc (.cells #[.int .i64 7, .int .u64 (s0 : Int), .int .u64 (s1 : Int), .int .u64 (s2 : Int), .int .u64 (s3 : Int), .int .i64 (lo' : Int), .int .i64 (H : Int)] 63))
        have HSW := Lib.hid (HS1.out.alloc (Nat.le_of_lt hp1) (.cells #[.int .i64 7, .int .u64 (s0 : Int), .int .u64 (s1 : Int), .int .u64 (s2 : Int), .int .u64 (s3 : Int), .int .i64 (lo' : Int), .int .i64 (H : Int)] 63))
        have H0W := Lib.hid (H01.out.alloc (by omega) (.cells #[.int .i64 7, .int .u64 (s0 : Int), .int .u64 (s1 : Int), .int .u64 (s2 : Int), .int .u64 (s3 : Int), .int .i64 (lo' : Int), .int .i64 (H : Int)] 63))
        have hgb : g ≠ some w1.heap.size := fun e => by have := HRW.out _ e; have := HWL.out; omega
        have hpb : w1.heap.size ≠ p := by omega
        generalize w1.alloc (.cells #[.int .i64 7, .int .u64 (s0 : Int), .int .u64 (s1 : Int), .int .u64 (s2 : Int), .int .u64 (s3 : Int), .int .i64 (lo' : Int), .int .i64 (H : Int)] 63) = W2 at *
        have keepS : ∀ w', Below W2.heap.size W2 w' → (w'.cell? ⟨w1.heap.size, 0, none⟩ = some (.int .i64 7) ∧ w'.cell? ⟨w1.heap.size, 1, none⟩ = some (.int .u64 (s0 : Int)) ∧ w'.cell? ⟨w1.heap.size, 2, none⟩ = some (.int .u64 (s1 : Int)) ∧ w'.cell? ⟨w1.heap.size, 3, none⟩ = some (.int .u64 (s2 : Int)) ∧ w'.cell? ⟨w1.heap.size, 4, none⟩ = some (.int .u64 (s3 : Int)) ∧ w'.cell? ⟨w1.heap.size, 5, none⟩ = some (.int .i64 (lo' : Int)) ∧ w'.cell? ⟨w1.heap.size, 6, none⟩ = some (.int .i64 (H : Int)) ∧ w'.cell? ⟨gk, 0, none⟩ = some (.int .i64 y)) := fun w' hX => ⟨Go.Proofs.Ytibabfgfahlekaa.cell_below hX n0, Go.Proofs.Ytibabfgfahlekaa.cell_below hX n1, Go.Proofs.Ytibabfgfahlekaa.cell_below hX n2, Go.Proofs.Ytibabfgfahlekaa.cell_below hX n3, Go.Proofs.Ytibabfgfahlekaa.cell_below hX n4, Go.Proofs.Ytibabfgfahlekaa.cell_below hX n5, Go.Proofs.Ytibabfgfahlekaa.cell_below hX n6, Go.Proofs.Ytibabfgfahlekaa.cell_below hX r0⟩
        refine wp_region_noPanic ?_
        refine wp_region_held_drew (S := fun w' => w'.cell? ⟨w1.heap.size, 0, none⟩ = some (.int .i64 7) ∧ w'.cell? ⟨w1.heap.size, 1, none⟩ = some (.int .u64 (s0 : Int)) ∧ w'.cell? ⟨w1.heap.size, 2, none⟩ = some (.int .u64 (s1 : Int)) ∧ w'.cell? ⟨w1.heap.size, 3, none⟩ = some (.int .u64 (s2 : Int)) ∧ w'.cell? ⟨w1.heap.size, 4, none⟩ = some (.int .u64 (s3 : Int)) ∧ w'.cell? ⟨w1.heap.size, 5, none⟩ = some (.int .i64 (lo' : Int)) ∧ w'.cell? ⟨w1.heap.size, 6, none⟩ = some (.int .i64 (H : Int)) ∧ w'.cell? ⟨gk, 0, none⟩ = some (.int .i64 y)) (by kernel_rfl) (keepS _ (Go.Proofs.Ytibabfgfahlekaa.bel_drew (Below.refl _ _))) (fun hHeld => ?_)
        refine wpAnyH_take (i := 0) (v := ?_) rfl (by kernel_rfl) (by kernel_rfl) (by kernel_rfl) (fun _ _ _ h => h) (Or.inl ⟨by kernel_rfl, ?_⟩) (by assumption) ?_
        rotate_left
        · intro w hSw
          try dsimp only at hSw
          go_simp
          try with_reducible rfl
        try simp only [List.getElem_toArray, List.getElem_cons_zero, List.getElem_cons_succ, Act.put, List.setIfInBounds_toArray, List.set_cons_zero, List.set_cons_succ]
        refine wpAnyH_take (i := 1) (v := ?_) rfl (by kernel_rfl) (by kernel_rfl) (by kernel_rfl) (fun _ _ _ h => h) (Or.inl ⟨by kernel_rfl, ?_⟩) (by assumption) ?_
        rotate_left
        · intro w hSw
          try dsimp only at hSw
          go_simp
          try with_reducible rfl
        try simp only [List.getElem_toArray, List.getElem_cons_zero, List.getElem_cons_succ, Act.put, List.setIfInBounds_toArray, List.set_cons_zero, List.set_cons_succ]
        refine wpAnyH_take (i := 2) (v := ?_) rfl (by kernel_rfl) (by kernel_rfl) (by kernel_rfl) (fun _ _ _ h => h) (Or.inl ⟨by kernel_rfl, ?_⟩) (by assumption) ?_
        rotate_left
        · intro w hSw
          try dsimp only at hSw
          go_simp
          try with_reducible rfl
        try simp only [List.getElem_toArray, List.getElem_cons_zero, List.getElem_cons_succ, Act.put, List.setIfInBounds_toArray, List.set_cons_zero, List.set_cons_succ]
        refine wpAnyH_take (i := 3) (v := ?_) rfl (by kernel_rfl) (by kernel_rfl) (by kernel_rfl) (fun _ _ _ h => h) (Or.inl ⟨by kernel_rfl, ?_⟩) (by assumption) ?_
        rotate_left
        · intro w hSw
          try dsimp only at hSw
          go_simp
          try with_reducible rfl
        try simp only [List.getElem_toArray, List.getElem_cons_zero, List.getElem_cons_succ, Act.put, List.setIfInBounds_toArray, List.set_cons_zero, List.set_cons_succ]
        refine wpAnyH_take (i := 4) (v := ?_) rfl (by kernel_rfl) (by kernel_rfl) (by kernel_rfl) (fun _ _ _ h => h) (Or.inl ⟨by kernel_rfl, ?_⟩) (by assumption) ?_
        rotate_left
        · intro w hSw
          try dsimp only at hSw
          go_simp
          try with_reducible rfl
        try simp only [List.getElem_toArray, List.getElem_cons_zero, List.getElem_cons_succ, Act.put, List.setIfInBounds_toArray, List.set_cons_zero, List.set_cons_succ]
        refine wpAnyH_ready (rs := [5]) (by kernel_rfl) (by simp) ?_
        refine AllReadyH.cons rfl (fun K hK => ?_) AllReadyH.nil
        go_simp
        refine (rep_pos p _ y ma na HKO1.out w0 hp0 7 s0 s1 s2 s3 lo' m H HHM.out (fun _ => HC1.out) (by omega) (by omega) _ sts g (HBW.out.below (Nat.le_refl _) (Go.Proofs.Ytibabfgfahlekaa.bel_drew (Below.refl _ _))) (Go.Proofs.Ytibabfgfahlekaa.bel_drew H0W.out) hszz).mono ?_
        rintro e w2 ⟨rfl, g2, hB2, hS2⟩
        obtain ⟨m0, m1, m2, m3, m4, m5, m6, m7⟩ := keepS _ (Go.Proofs.Ytibabfgfahlekaa.bel_drew (Below.refl W2.heap.size W2))
        refine hK.out _ _ ⟨hS2.cell hpb hgb m0, hS2.cell hpb hgb m1, hS2.cell hpb hgb m2, hS2.cell hpb hgb m3, hS2.cell hpb hgb m4, hS2.cell hpb hgb m5, hS2.cell hpb hgb m6, hS2.cell hgkp hgkg m7⟩ (fun hHeld => ?_)
        have HX2 := Lib.hid (And.intro hB2 ((HSW.out.trans (stays_below (g := g) HBW.out.lt (Go.Proofs.Ytibabfgfahlekaa.bel_drew (Below.refl _ _)))).trans hS2))
        clear hB2 hS2 m0 m1 m2 m3 m4 m5 m6 m7
        clear hK K
        try simp only [List.getElem_toArray, List.getElem_cons_zero, List.getElem_cons_succ, Act.put, List.setIfInBounds_toArray, List.set_cons_zero, List.set_cons_succ]
        refine wpAnyH_take (i := 6) (v := ?_) rfl (by kernel_rfl) (by kernel_rfl) (by kernel_rfl) (fun _ _ _ h => h) (Or.inl ⟨by kernel_rfl, ?_⟩) (by assumption) ?_
        rotate_left
        · intro w hSw
          try dsimp only at hSw
          go_simp
          try with_reducible rfl
        try simp only [List.getElem_toArray, List.getElem_cons_zero, List.getElem_cons_succ, Act.put, List.setIfInBounds_toArray, List.set_cons_zero, List.set_cons_succ]
        refine wpAnyH_take (i := 7) (v := ?_) rfl (by kernel_rfl) (by kernel_rfl) (by kernel_rfl) (fun _ _ _ h => h) (Or.inl ⟨by kernel_rfl, ?_⟩) (by assumption) ?_
        rotate_left
        · intro w hSw
          try dsimp only at hSw
          go_simp
          try with_reducible rfl
        try simp only [List.getElem_toArray, List.getElem_cons_zero, List.getElem_cons_succ, Act.put, List.setIfInBounds_toArray, List.set_cons_zero, List.set_cons_succ]
        refine wpAnyH_take (i := 8) (v := ?_) rfl (by kernel_rfl) (by kernel_rfl) (by kernel_rfl) (fun _ _ _ h => h) (Or.inl ⟨by kernel_rfl, ?_⟩) (by assumption) ?_
        rotate_left
        · intro w hSw
          try dsimp only at hSw
          go_simp
          try with_reducible rfl
        try simp only [List.getElem_toArray, List.getElem_cons_zero, List.getElem_cons_succ, Act.put, List.setIfInBounds_toArray, List.set_cons_zero, List.set_cons_succ]
        refine wpAnyH_take (i := 9) (v := ?_) rfl (by kernel_rfl) (by kernel_rfl) (by kernel_rfl) (fun _ _ _ h => h) (Or.inl ⟨by kernel_rfl, ?_⟩) (by assumption) ?_
        rotate_left
        · intro w hSw
          try dsimp only at hSw
          go_simp
          try with_reducible rfl
        try simp only [List.getElem_toArray, List.getElem_cons_zero, List.getElem_cons_succ, Act.put, List.setIfInBounds_toArray, List.set_cons_zero, List.set_cons_succ]
        refine wpAnyH_done (by kernel_rfl) ?_ _
        refine NoPanic.normal ?_
        clear hHeld keepS
        go_wp2_with fail
        have hRR := HRM.out
        rw [hRR]
        refine bodyPost_ret (v := .tuple #[.int .i64 R.first, .int .i64 R.last]) (by simp [results, Try.results39, go_sem]) rfl ?_
        rw [← hRR]
        exact ⟨rfl, g2, HX2.out⟩
end Go.Proofs.YtibabfgfahlekaaQ
