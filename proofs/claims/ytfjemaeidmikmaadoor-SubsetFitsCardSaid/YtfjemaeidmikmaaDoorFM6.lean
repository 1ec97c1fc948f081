/- Several short texts of this proof, one behind the other. -/
import Derived.Test.YtfjemaeidmikmaaDoorFSbBuild
section
set_option linter.unusedVariables false
namespace Go.Proofs.YtfjemaeidmikmaaDoorQ
open Go.RowKit Go.Proofs.YtfjemaeidmikmaaDoorW.PrintWords Go.Proofs.YtfjemaeidmikmaaDoorW.PrintLast Go.Proofs.YtfjemaeidmikmaaDoor
def subset_Build.f (l0_0 : List S64) (a0_1 a0_2 a1 : Int) : Option (List Int × Int × Int × List Int × List Bool × Int) := if wfB l0_0 = true ∧ a1 ≤ 1000 then some (buildS l0_0 a0_1 a0_2 a1) else none
theorem subset_Build.calls (A0_0 : Option Addr) (c0_0 : Nat) (l0_0 : List S64) (a0_1 a0_2 a1 : Int) (r1 : List Int) (r2 r3 : Int) (r4 : List Int) (r5 : List Bool) (r6 : Int) (w : World) (hG : TabG w) (hr0_0 : Kd.C k64 w A0_0 l0_0.length l0_0) (hc0_0 : l0_0.length ≤ c0_0) (h : subset_Build.f l0_0 a0_1 a0_2 a1 = some (r1, r2, r3, r4, r5, r6)) :
    Calls Tryd.prog 8 #[.agg #[.slice A0_0 l0_0.length c0_0, .int .i64 a0_1, .int .i64 a0_2], .int .i64 a1] w fun e w' => ∃ v0_ v3_ v4_ : Value, e = .returned (.tuple #[.agg #[v0_, .int .i64 r2, .int .i64 r3, v3_, v4_], .int .i64 r6]) ∧ Kd.R (Kd.int .i64) 3 w' w.heap.size (fun k_ => some k_ ≠ (v3_ : Value).ownBlock) v0_ r1 ∧ Kd.R (Kd.int .i64) 3 w' w.heap.size (fun k_ => some k_ ≠ (v0_ : Value).ownBlock) v3_ r4 ∧ Kd.R Kd.bool 4 w' w.heap.size (fun _ => True) v4_ r5 ∧ Below w.heap.size w w' := by
  unfold subset_Build.f at h;split at h
  case isFalse => cases h
  case isTrue c =>
    injection h with h;have hw := (wfB_iff _).1 c.1;unfold buildS at h;split at h
    case isTrue hR =>
      split at h
      case isTrue hm =>
        simp only [Prod.mk.injEq] at h;obtain ⟨rfl, rfl, rfl, rfl, rfl, rfl⟩ := h;refine (sbuild_many A0_0 c0_0 l0_0 a0_1 a0_2 a1 w hG hr0_0 hc0_0 hR hw c.2 hm).mono ?_;rintro e w' ⟨rfl, hb⟩;exact ⟨_, _, _, rfl, Kd.R_nil _ _ _ _ _, Kd.R_nil _ _ _ _ _, Kd.R_nil _ _ _ _ _, hb⟩
      case isFalse hm =>
        simp only [Prod.mk.injEq] at h;obtain ⟨rfl, rfl, rfl, rfl, rfl, rfl⟩ := h;exact sbuild_yes A0_0 c0_0 l0_0 a0_1 a0_2 a1 w hG hr0_0 hc0_0 hR hw c.2 hm
    case isFalse hR =>
      simp only [Prod.mk.injEq] at h;obtain ⟨rfl, rfl, rfl, rfl, rfl, rfl⟩ := h;refine (sbuild_no A0_0 c0_0 l0_0 a0_1 a0_2 a1 w hG hr0_0 hc0_0 (by simpa using hR)).mono ?_;rintro e w' ⟨rfl, hb⟩;exact ⟨_, _, _, rfl, Kd.R_nil _ _ _ _ _, Kd.R_nil _ _ _ _ _, Kd.R_nil _ _ _ _ _, hb⟩
end Go.Proofs.YtfjemaeidmikmaaDoorQ
end
section
set_option linter.unusedVariables false
set_option linter.unusedSimpArgs false
namespace Go.Proofs.YtfjemaeidmikmaaDoorQ
open Go.RowKit Go.Maps Go.Proofs.YtfjemaeidmikmaaDoorW.PrintWords Go.Proofs.YtfjemaeidmikmaaDoorW.PrintLast Go.Proofs.YtfjemaeidmikmaaDoor
def countS (sts : List St) (s f most : Int) : Int :=
  if most < 0 ∨ rightN sts s f = false then 0 else if most < ((runS sts s most).1.length : Int) then most + 1 else ((runS sts s most).1.length : Int)
set_option maxRecDepth 100000 in
set_option maxHeartbeats 3200000 in
theorem count_zero (A0 : Option Addr) (c0 : Nat) (sts : List St) (s f most : Int) (w : World) (hr : Kd.C k64 w A0 sts.length sts) (hc : sts.length ≤ c0) (h : most < 0 ∨ rightN sts s f = false) :
    Calls Tryd.prog 12 #[.agg #[.slice A0 sts.length c0, .int .i64 s, .int .i64 f], .int .i64 most] w fun e w' => e = .returned (.int .i64 0) ∧ Below w.heap.size w w' := by
  have HRR := Lib.hid hr;clear hr;by_cases hm : most < 0
  · clear h;go_enter Tryd.func12, Tryd.ntmps12;go_wp2_with fail;go_ret;exact ⟨rfl, below_alloc (Below.refl _ _) _⟩
  · have hR : rightN sts s f = false := h.resolve_left hm;clear h;go_enter Tryd.func12, Tryd.ntmps12;go_wp2_with fail;have hx := right_c A0 c0 sts s f (w.alloc (.cells #[.slice A0 sts.length c0, .int .i64 s, .int .i64 f] 24)) (Kd.C_alloc HRR.out _) hc;rw [hR] at hx;refine hx.mono ?_;rintro e w1 ⟨rfl, hb⟩;have HB := Lib.hid (Go.Proofs.YtfjemaeidmikmaaDoor.bel_then (below_alloc (Below.refl w.heap.size w) (.cells #[.slice A0 sts.length c0, .int .i64 s, .int .i64 f] 24)) hb);clear hb hx;go_wp2_with fail;go_ret;exact ⟨rfl, HB.out⟩
set_option maxRecDepth 100000 in
set_option maxHeartbeats 6400000 in
theorem count_yes (A0 : Option Addr) (c0 : Nat) (sts : List St) (s f most : Int) (w : World) (hG : TabG w) (hr : Kd.C k64 w A0 sts.length sts) (hc : sts.length ≤ c0) (hR : rightN sts s f = true) (hw : wfSts sts) (hm0 : ¬ most < 0) (hmost : most ≤ 1000) :
    Calls Tryd.prog 12 #[.agg #[.slice A0 sts.length c0, .int .i64 s, .int .i64 f], .int .i64 most] w fun e w' => e = .returned (.int .i64 (if most < ((runS sts s most).1.length : Int) then most + 1 else ((runS sts s most).1.length : Int))) ∧ Below w.heap.size w w' := by
  obtain ⟨k, hk⟩ := (classes_yes sts s f hR hw).ex;obtain ⟨k2, hk2⟩ := (afirsts_ev (cls sts) (by rw [cls_len]; omega) (wid sts) (wid_le sts).1).ex;(have hx := fun (w1 : World) (h1 : TabG w1) (h2 : Kd.C k64 w1 A0 sts.length sts) => alpha_Classes.calls k A0 c0 sts s f (cls sts) (wid sts) w1 h1 h2 hc hk);(have hy := fun (A : Option Addr) (c : Nat) (w1 : World) (h2 : Kd.C (Kd.int .i64) w1 A (cls sts).length (cls sts)) (hc : (cls sts).length ≤ c) => alpha_Firsts.calls k2 A c (cls sts) (wid sts) (firstsS sts) w1 h2 hc hk2);(have hfl : (firstsS sts).length ≤ 259 := by rw [firstsS_len]; have := wid_le sts; omega);(have hrt := fun (w1 : World) (h2 : Kd.C k64 w1 A0 sts.length sts) => right_c A0 c0 sts s f w1 h2 hc);rw [hR] at hrt;have HRT := Lib.hid hrt;have HX := Lib.hid hx;have HY := Lib.hid hy;have HRR := Lib.hid hr;have HG := Lib.hid hG;have HR := Lib.hid hR;have HW := Lib.hid hw;have hfo := firstsS_ok sts;have HFO := Lib.hid hfo;have hmm := @run_makeMap Tryd.prog;obtain ⟨RR, hRR⟩ : ∃ R, (if most < ((runS sts s most).1.length : Int) then most + 1 else ((runS sts s most).1.length : Int)) = R := ⟨_, rfl⟩;rw [hRR];have HRE := Lib.hid hRR;clear hx hy hr hG hk hk2 hR hw hfo hrt hRR;go_enter Tryd.func12, Tryd.ntmps12;go_wp2_with fail;have hb0 := below_alloc (Below.refl w.heap.size w) (.cells #[.slice A0 sts.length c0, .int .i64 s, .int .i64 f] 24);refine (HRT.out _ (Kd.C_below HRR.out hb0)).mono ?_;rintro e wr ⟨rfl, hbr⟩;have h2b := heap_alloc_new w (.cells #[.slice A0 sts.length c0, .int .i64 s, .int .i64 f] 24);have hblkR := (hbr.block w.heap.size (by simp)).trans h2b;(have r0 : wr.cell? ⟨w.heap.size, 0, none⟩ = some (.slice A0 sts.length c0) := by rw [cell_of_row wr _ 0 _ _ _ hblkR]; rfl);(have r1 : wr.cell? ⟨w.heap.size, 1, none⟩ = some (.int .i64 s) := by rw [cell_of_row wr _ 1 _ _ _ hblkR]; rfl);(have r2 : wr.cell? ⟨w.heap.size, 2, none⟩ = some (.int .i64 f) := by rw [cell_of_row wr _ 2 _ _ _ hblkR]; rfl);have hbr2 := Go.Proofs.YtfjemaeidmikmaaDoor.bel_then hb0 hbr;have HBR := Lib.hid hbr2;have HBK := Lib.hid hblkR;(have hzr : w.heap.size + 1 ≤ wr.heap.size := by have := hbr.size; simp at this; omega);clear hbr hbr2 hblkR h2b hb0;go_wp2_with fail;refine (HX.out _ (TabG.below HG.out HBR.out) (Kd.C_below HRR.out HBR.out)).mono ?_;rintro e w1 ⟨v0, rfl, hv, hb⟩;have hblkN := (hb.block w.heap.size (by omega)).trans HBK.out;(have n0 : w1.cell? ⟨w.heap.size, 0, none⟩ = some (.slice A0 sts.length c0) := by rw [cell_of_row w1 _ 0 _ _ _ hblkN]; rfl);(have n1 : w1.cell? ⟨w.heap.size, 1, none⟩ = some (.int .i64 s) := by rw [cell_of_row w1 _ 1 _ _ _ hblkN]; rfl);(have n2 : w1.cell? ⟨w.heap.size, 2, none⟩ = some (.int .i64 f) := by rw [cell_of_row w1 _ 2 _ _ _ hblkN]; rfl);obtain ⟨A1, c1, rfl⟩ := Kd.R_slice hv;(have hz1 : w.heap.size + 1 ≤ w1.heap.size := by have := hb.size; omega);have HB1 := Lib.hid (Go.Proofs.YtfjemaeidmikmaaDoor.bel_then HBR.out hb);have HV := Lib.hid hv;clear hblkN hv hb r0 r1 r2 hzr;go_wp2_with fail;refine (HY.out A1 c1 _ (Kd.C_alloc (Kd.C_alloc (Kd.R_reads' HV.out).2.2 _) _) (Kd.R_reads' HV.out).2.1).mono ?_;rintro e w3 ⟨v3, rfl, hv3, hb3⟩;obtain ⟨A3, c3, rfl⟩ := Kd.R_slice hv3;have hsb := sb_new A0 c0 sts s f most w w1 w3 HB1.out hb3;(have hz5 : ((w1.alloc (.map #[] 0)).alloc (bldO A0 c0 sts s f most w1.heap.size)).heap.size = w1.heap.size + 2 := by simp);(have hz3 : w1.heap.size + 2 ≤ w3.heap.size := by have := hb3.size; simp at this; omega);have hb5 := below_alloc (below_alloc (Below.refl w1.heap.size w1) (.map #[] 0)) (bldO A0 c0 sts s f most w1.heap.size);have hbw3 : Below w.heap.size w w3 := below_then HB1.out (by omega) (below_then hb5 (by omega) hb3);have hrun := run_sb A0 c0 sts s f most w.heap.size (w1.heap.size + 1) w1.heap.size w3 _ _ hsb (by omega) (fun w' hb' => Kd.C_below HRR.out (hbw3.trans hb')) hc HR.out HW.out A3 c3 (firstsS sts) (Kd.R_mono (Kd.R_lower (Kd.R_bound hv3) (by simp; omega)) (fun k hk => by have := hk.2.1; simp at this; exact ⟨by omega, by omega⟩)) hfl HFO.out hmost;have HRUN := Lib.hid hrun;have HB3 := Lib.hid hbw3;clear hsb hrun hbw3 hb3 hb5 hv3 hz5 n0 n1 n2;go_wp2_with fail;refine HRUN.out.mono ?_;rintro e w4 ⟨v4, vN, D4, n4, rfl, hri, hb4⟩;obtain ⟨q, hQ⟩ : ∃ q, runQ sts s (firstsS sts) most = q := ⟨_, rfl⟩;rw [hQ] at hri;have hQ2 : runS sts s most = q := hQ;have hre := HRE.out;rw [hQ2] at hre;have HRE2 := Lib.hid hre;obtain ⟨As, cs, rfl⟩ := Kd.R_slice hri.sb.sets;obtain ⟨AN, cN, rfl⟩ := Kd.R_slice hri.nx;obtain ⟨k0, k1, k2, k3, k4, k5, k6⟩ := hri.sb.cells;have HB4 := Lib.hid (HB3.out.trans hb4);have hmw : wrap64 (most + 1) = most + 1 := wrap_in (by omega) (by omega);clear hri hb4 k0 k1 k2 k3 k5 k6 hQ hQ2 hre HRUN HRE hz1 hz3 hfl hc hmm hm0;by_cases hcm : most < (q.1.length : Int)
  · have hre := HRE2.out;rw [if_pos hcm] at hre;have HE := Lib.hid hre;have HMW := Lib.hid hmw;clear hmost hre hmw;go_wp2_with fail;go_ret;refine ⟨?_, HB4.out⟩;rw [← HE.out]
    show Ending.returned (.int .i64 (wrap64 (most + 1))) = _
    rw [HMW.out]
  · have hre := HRE2.out;rw [if_neg hcm] at hre;have HE := Lib.hid hre;clear hmost hre hmw;go_wp2_with fail;go_ret;exact ⟨by rw [← HE.out]; rfl, HB4.out⟩
end Go.Proofs.YtfjemaeidmikmaaDoorQ
end
section
set_option linter.unusedVariables false
namespace Go.Proofs.YtfjemaeidmikmaaDoorQ
open Go.RowKit Go.Proofs.YtfjemaeidmikmaaDoorW.PrintWords Go.Proofs.YtfjemaeidmikmaaDoorW.PrintLast Go.Proofs.YtfjemaeidmikmaaDoor
def subset_Count.f (l0_0 : List S64) (a0_1 a0_2 a1 : Int) : Option Int := if wfB l0_0 = true ∧ a1 ≤ 1000 then some (countS l0_0 a0_1 a0_2 a1) else none
theorem subset_Count.calls (A0_0 : Option Addr) (c0_0 : Nat) (l0_0 : List S64) (a0_1 a0_2 a1 : Int) (r : Int) (w : World) (hG : TabG w) (hr0_0 : Kd.C k64 w A0_0 l0_0.length l0_0) (hc0_0 : l0_0.length ≤ c0_0) (h : subset_Count.f l0_0 a0_1 a0_2 a1 = some r) :
    Calls Tryd.prog 12 #[.agg #[.slice A0_0 l0_0.length c0_0, .int .i64 a0_1, .int .i64 a0_2], .int .i64 a1] w fun e w' => e = .returned (.int .i64 r) ∧ Below w.heap.size w w' := by
  unfold subset_Count.f at h;split at h
  case isFalse => cases h
  case isTrue c =>
    injection h with h;have hw := (wfB_iff _).1 c.1;unfold countS at h;by_cases hz : a1 < 0 ∨ rightN l0_0 a0_1 a0_2 = false
    · rw [if_pos hz] at h;subst h;exact count_zero A0_0 c0_0 l0_0 a0_1 a0_2 a1 w hr0_0 hc0_0 hz
    · rw [if_neg hz] at h;subst h
      have hR : rightN l0_0 a0_1 a0_2 = true := by
        cases hx : rightN l0_0 a0_1 a0_2 with
        | true => rfl
        | false => exact absurd (.inr hx) hz
      exact count_yes A0_0 c0_0 l0_0 a0_1 a0_2 a1 w hG hr0_0 hc0_0 hR hw (fun h => hz (.inl h)) c.2
end Go.Proofs.YtfjemaeidmikmaaDoorQ
end
