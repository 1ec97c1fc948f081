/- Pruned from its seat's text: what the theorem hangs on. -/
import Derived.Test.YtibabfgfahlekaaHNfFits1
/- nfa.Fits at a text that is not empty. -/
set_option linter.unusedVariables false
set_option linter.unusedSimpArgs false
namespace Go.Proofs.YtibabfgfahlekaaQ
open Go.RowKit Go.Proofs.YtibabfgfahlekaaW.PrintWords Go.Proofs.YtibabfgfahlekaaW.PrintLast Go.Proofs.Bs
set_option maxRecDepth 100000 in
set_option maxHeartbeats 3200000 in
theorem fits_main (A0 : Option Addr) (c0 : Nat) (sts : List St) (s f : Int) (text : ByteArray) (i j : Nat) (w : World) (hr : Kd.C k72 w A0 sts.length sts) (hc : sts.length ≤ c0) (hR : rightN sts s f = true) (hw : wfSts sts) (ht : 0 < text.size) (hij : i ≤ j) (hj : j ≤ text.size) (htx : text.size ≤ 1000000) :
    Calls Try.prog 22 #[nV A0 c0 sts s f, .string text, .int .i64 (i : Int), .int .i64 (j : Int)] w fun e w' => e = .returned (.bool (fitsN sts s f text i j)) ∧ Below w.heap.size w w' := by
  have hn := rightN_len hR
  have hf : 0 ≤ f ∧ f < sts.length := by
    have h := hR
    unfold rightN at h
    rw [Bool.and_eq_true, decide_eq_true_eq] at h
    exact h.1.2.2
  obtain ⟨F, rfl⟩ := Int.eq_ofNat_of_zero_le hf.1
  have kc := fun (w : World) (s : ByteArray) => Lib.run_convert_string_bytes (P := Try.prog) w 9 83 5 s Try.underlying9 Try.underlying83 Try.underlying5
  have hR2 := fun w1 h1 => right_c A0 c0 sts s (F : Int) w1 h1 hc
  rw [hR] at hR2
  have HR2 := Lib.hid hR2
  have HR := Lib.hid hR
  have HRD := Lib.hid hr
  have I0 : (0 : Int) ≤ (F : Int) := by omega
  have I1 : (F : Int) < (sts.length : Int) := by omega
  have N4 : ((text.size : Int) == 0) = false := by rw [beq_eq_false_iff_ne]; omega
  have N1 : ¬ ((i : Int) < 0) := by omega
  have N2 : ¬ ((j : Int) < (i : Int)) := by omega
  have N3 : ¬ ((text.size : Int) < (j : Int)) := by omega
  clear hR2 hR hr
  go_enter Try.func22, Try.ntmps22
  go_wp2_with fail
  refine (HR2.out _ (Kd.C_alloc HRD.out _)).mono ?_
  rintro e w1 ⟨rfl, hb⟩
  have hz1 := hb.size
  have b0 : w1.cell? ⟨w.heap.size, 0, none⟩ = some (.slice A0 sts.length c0) := (hb.cell (p := ⟨w.heap.size, 0, none⟩) (by simp)).trans (by go_simp)
  have b1 : w1.cell? ⟨w.heap.size, 1, none⟩ = some (.int .i64 s) := (hb.cell (p := ⟨w.heap.size, 1, none⟩) (by simp)).trans (by go_simp)
  have b2 : w1.cell? ⟨w.heap.size, 2, none⟩ = some (.int .i64 (F : Int)) := (hb.cell (p := ⟨w.heap.size, 2, none⟩) (by simp)).trans (by go_simp)
  have hB := Go.Proofs.Ytibabfgfahlekaa.bel_then (Go.Proofs.Ytibabfgfahlekaa.bel_alloc (Below.refl _ _) _) hb
  have HB := Lib.hid hB
  clear hb hB
  go_wp2_with fail
  refine (close_c A0 c0 sts s (F : Int) _ (Kd.C_alloc (Kd.C_below HRD.out HB.out) _) hc HR.out _ _ [s] 0 (one_C w1 s) (by simp) (by simp)).mono ?_
  rintro e w2 ⟨A, c, rfl, hcc, hC, hb2⟩
  have hz2 := hb2.size
  have d0 := Go.Proofs.Ytibabfgfahlekaa.cell_below hb2 (Go.Proofs.Ytibabfgfahlekaa.cell_alloc b0 (.cells #[.int .i64 s] 3))
  have d1 := Go.Proofs.Ytibabfgfahlekaa.cell_below hb2 (Go.Proofs.Ytibabfgfahlekaa.cell_alloc b1 (.cells #[.int .i64 s] 3))
  have d2 := Go.Proofs.Ytibabfgfahlekaa.cell_below hb2 (Go.Proofs.Ytibabfgfahlekaa.cell_alloc b2 (.cells #[.int .i64 s] 3))
  have hB2 := Go.Proofs.Ytibabfgfahlekaa.bel_then (Go.Proofs.Ytibabfgfahlekaa.bel_alloc HB.out (.cells #[.int .i64 s] 3)) hb2
  have hle : (atStart sts s).length ≤ 1000000 := by
    have := listN_le (walkF sts [s] 0)
    rw [walkF_len] at this
    unfold atStart
    omega
  have hC2 : Kd.C (Kd.int .i64) w2 A (atStart sts s).length (atStart sts s) := hC
  have hcc2 : (atStart sts s).length ≤ c := hcc
  rw [show listN (walkF sts [s] 0) = atStart sts s from rfl]
  clear hC hcc hb2 b0 b1 b2
  generalize hL0 : atStart sts s = L0 at *
  obtain ⟨L, hL⟩ : ∃ L, L = if i = 0 then listN (walkF sts L0 256) else L0 := ⟨_, rfl⟩
  have HLE := Lib.hid hle
  have HC2 := Lib.hid hC2
  have HB2 := Lib.hid hB2
  have hJ : (j : Int) ≤ 1000000 := by omega
  have hleL : L.length ≤ 1000000 := by
    rw [hL]
    split
    · have := listN_le (walkF sts L0 256)
      rw [walkF_len] at this
      omega
    · exact hle
  have HLE2 := Lib.hid hleL
  have hlex : ∀ k, (atBytes sts text i L k).length ≤ 1000000 := by
    intro k
    cases k with
    | zero => exact hleL
    | succ k =>
      have := listN_le (walkF sts ((atBytes sts text i L k).flatMap (stepOne sts (bt text ((i + k : Nat) : Int)))) 0)
      rw [walkF_len] at this
      show (atByte sts _ _).length ≤ _
      unfold atByte
      omega
  have HLEX := Lib.hid hlex
  have HL0 := Lib.hid hL0
  have HLL := Lib.hid hL
  clear hC2 hB2 HB hle hL hleL hlex hL0
  by_cases hi : i = 0
  · subst hi
    go_wp2_with fail
    refine (close_c A0 c0 sts s (F : Int) _ (Kd.C_below HRD.out HB2.out) hc HR.out _ _ L0 256 HC2.out hcc2 HLE.out).mono ?_
    rintro e w3 ⟨A, c, rfl, hcc3, hC3, hb3⟩
    have hz3 := hb3.size
    have e0 := Go.Proofs.Ytibabfgfahlekaa.cell_below hb3 d0
    have e1 := Go.Proofs.Ytibabfgfahlekaa.cell_below hb3 d1
    have e2 := Go.Proofs.Ytibabfgfahlekaa.cell_below hb3 d2
    have hB3 := Go.Proofs.Ytibabfgfahlekaa.bel_then HB2.out hb3
    have hL2 : listN (walkF sts L0 256) = L := by rw [HLL.out]; rfl
    rw [hL2] at hcc3 hC3
    rw [hL2]
    clear hL2
    go_wp2_with fail
    have hm : (text.extract 0 j).size = j := by simp <;> omega
    have hbc : ∀ k : Nat, k < j → (Lib.bytesWorld w3 5 (text.extract 0 j)).cell? ⟨w3.heap.size, k, none⟩ = some (.int .u8 (bt text ((0 + k : Nat) : Int))) := by
      intro k hk
      rw [Lib.bytesWorld_cell _ _ _ _ (by rw [hm]; exact hk)]
      rw [bt_extract text 0 j k hj (by omega)]
    have x0 := (Lib.bytesWorld_old w3 5 (text.extract 0 j) ⟨w.heap.size, 0, none⟩ (World.block_lt_of_cell? _ _ e0)).trans e0
    have x1 := (Lib.bytesWorld_old w3 5 (text.extract 0 j) ⟨w.heap.size, 1, none⟩ (World.block_lt_of_cell? _ _ e1)).trans e1
    have x2 := (Lib.bytesWorld_old w3 5 (text.extract 0 j) ⟨w.heap.size, 2, none⟩ (World.block_lt_of_cell? _ _ e2)).trans e2
    have hBW := bytes_below (Below.refl w3.heap.size w3) (Nat.le_refl _) 5 (text.extract 0 j)
    have hB5 := Go.Proofs.Ytibabfgfahlekaa.bel_then hB3 hBW
    have hC5 := Kd.C_below hC3 hBW
    have HBC := Lib.hid hbc
    generalize hcp : grownCap w3 j 0 5 = CP at *
    generalize hw5 : Lib.bytesWorld w3 5 (text.extract 0 j) = w5 at *
    generalize hG : w3.heap.size = G at *
    have HB5 := Lib.hid hB5
    have HC5 := Lib.hid hC5
    have hmM : j ≤ 1000000 := by omega
    clear hm hbc hBW hB5 hC5 hG hcp hw5
    go_loopw [9, 56] (fun v9 v56 wr => ∃ (k : Nat) (A : Option Addr) (c : Nat), v56 = .int .i64 k ∧ k ≤ j ∧ v9 = .slice A (atBytes sts text 0 L k).length c ∧ (atBytes sts text 0 L k).length ≤ c ∧ Hid (Kd.C (Kd.int .i64) wr A (atBytes sts text 0 L k).length (atBytes sts text 0 L k)) ∧ Hid (Below w5.heap.size w5 wr)) (fun _ v56 _ => j - (intOf v56).toNat)
    case atStart => exact ⟨0, A, c, rfl, by omega, rfl, hcc3, HC5, Lib.hid (Below.refl _ _)⟩
    case round =>
      obtain ⟨k, A4, c4, rfl, hk, rfl, hc4, HC4, HB4⟩ := hrel
      have y0 := Go.Proofs.Ytibabfgfahlekaa.cell_below HB4.out x0
      have y1 := Go.Proofs.Ytibabfgfahlekaa.cell_below HB4.out x1
      have y2 := Go.Proofs.Ytibabfgfahlekaa.cell_below HB4.out x2
      have HLK := Lib.hid (HLEX.out k)
      by_cases hlt : k < j
      · have yb := Go.Proofs.Ytibabfgfahlekaa.cell_below HB4.out (HBC.out k hlt)
        have hbr := bt_range text ((0 + k : Nat) : Int)
        have HAT := Lib.hid (show atBytes sts text 0 L (k + 1) = listN (walkF sts ((atBytes sts text 0 L k).flatMap (stepOne sts (bt text ((0 + k : Nat) : Int)))) 0) from rfl)
        generalize bt text ((0 + k : Nat) : Int) = b at *
        generalize atBytes sts text 0 L k = M4 at *
        go_wp2_with fail
        refine (step_c A0 c0 sts s (F : Int) _ (Kd.C_below (Kd.C_below HRD.out HB5.out) HB4.out) hc HR.out hw _ _ M4 b (by omega) HC4.out hc4 HLK.out).mono ?_
        rintro e w6 ⟨A6, c6, rfl, hcc6, hC6, hb6⟩
        go_wp2_with fail
        go_roundw
        case rel => exact ⟨k + 1, A6, c6, by go_num, by omega, by rw [HAT.out], by rw [HAT.out]; exact hcc6, by rw [HAT.out]; exact Lib.hid hC6, Lib.hid (Go.Proofs.Ytibabfgfahlekaa.bel_then HB4.out hb6)⟩
        case measure => simp [intOf]; omega
      · obtain rfl : j = k := by omega
        have HFT := Lib.hid (fits_eq sts s F text 0 j HR.out ht (by omega) hj L0 L HL0.out HLL.out)
        rw [show j - 0 = j from rfl] at HFT
        generalize atBytes sts text 0 L j = M4 at *
        have HBw := Lib.hid (Go.Proofs.Ytibabfgfahlekaa.bel_then HB5.out HB4.out)
        by_cases hjt : j = text.size
        · have hjt2 : ((j : Int) == (text.size : Int)) = true := by rw [beq_iff_eq]; omega
          have HJT := Lib.hid hjt
          clear hjt
          go_wp2_with fail
          refine (close_c A0 c0 sts s (F : Int) _ (Kd.C_below HRD.out HBw.out) hc HR.out _ _ M4 257 HC4.out hc4 HLK.out).mono ?_
          rintro e w7 ⟨A7, c7, rfl, hcc7, hC7, hb7⟩
          have z0 := Go.Proofs.Ytibabfgfahlekaa.cell_below hb7 y0
          have z1 := Go.Proofs.Ytibabfgfahlekaa.cell_below hb7 y1
          have z2 := Go.Proofs.Ytibabfgfahlekaa.cell_below hb7 y2
          have HB7 := Lib.hid (Go.Proofs.Ytibabfgfahlekaa.bel_then HBw.out hb7)
          have HL7 : Hid ((listN (walkF sts M4 257)).length ≤ 1000000) := Lib.hid (by
            have := listN_le (walkF sts M4 257)
            rw [walkF_len] at this
            omega)
          have HE7 := Lib.hid (rfl : listN (walkF sts M4 257) = listN (walkF sts M4 257))
          obtain ⟨M7, hM7⟩ : ∃ M7, M7 = listN (walkF sts M4 257) := ⟨_, rfl⟩
          rw [← hM7] at hcc7 hC7 HL7
          rw [← hM7]
          have HM7 := Lib.hid hM7
          have HC7 := Lib.hid hC7
          clear hM7 hC7 HE7 y0 y1 y2 x0 x1 x2 hb7
          go_wp2_with fail
          go_region_with
            ((go_at_call 42; refine (walk_c A0 c0 sts s (F : Int) _ (Kd.C_drew (Kd.C_below HRD.out HB7.out)) hc HR.out _ _ M7 0 (Kd.C_drew HC7.out) hcc7 HL7.out).mono ?_; rintro e w8 ⟨A8, c8, rfl, hC8, hb8⟩; obtain ⟨ad, rfl, hx⟩ := Kd.at_bool hC8 (F : Int) I0 I1; rw [Int.toNat_natCast] at hx; have u0 := Go.Proofs.Ytibabfgfahlekaa.cell_below hb8 (Go.Proofs.YtibabfgfahlekaaQ.drew_cell z0); have u1 := Go.Proofs.Ytibabfgfahlekaa.cell_below hb8 (Go.Proofs.YtibabfgfahlekaaQ.drew_cell z1); have u2 := Go.Proofs.Ytibabfgfahlekaa.cell_below hb8 (Go.Proofs.YtibabfgfahlekaaQ.drew_cell z2)))
          all_goals
            go_wp2_with fail
            go_ret
            refine ⟨ret_has ?_, Go.Proofs.Ytibabfgfahlekaa.bel_then (Go.Proofs.Ytibabfgfahlekaa.bel_drew HB7.out) (by assumption)⟩
            rw [HFT.out, if_pos HJT.out, ← HM7.out]
        · have hjt2 : ((j : Int) == (text.size : Int)) = false := by rw [beq_eq_false_iff_ne]; omega
          have HJT := Lib.hid hjt
          clear hjt x0 x1 x2
          go_wp2_with fail
          go_region_with
            ((go_at_call 42; refine (walk_c A0 c0 sts s (F : Int) _ (Kd.C_drew (Kd.C_below HRD.out HBw.out)) hc HR.out _ _ M4 0 (Kd.C_drew HC4.out) hc4 HLK.out).mono ?_; rintro e w8 ⟨A8, c8, rfl, hC8, hb8⟩; obtain ⟨ad, rfl, hx⟩ := Kd.at_bool hC8 (F : Int) I0 I1; rw [Int.toNat_natCast] at hx; have u0 := Go.Proofs.Ytibabfgfahlekaa.cell_below hb8 (Go.Proofs.YtibabfgfahlekaaQ.drew_cell y0); have u1 := Go.Proofs.Ytibabfgfahlekaa.cell_below hb8 (Go.Proofs.YtibabfgfahlekaaQ.drew_cell y1); have u2 := Go.Proofs.Ytibabfgfahlekaa.cell_below hb8 (Go.Proofs.YtibabfgfahlekaaQ.drew_cell y2)))
          all_goals
            go_wp2_with fail
            go_ret
            refine ⟨ret_has ?_, Go.Proofs.Ytibabfgfahlekaa.bel_then (Go.Proofs.Ytibabfgfahlekaa.bel_drew HBw.out) (by assumption)⟩
            rw [HFT.out, if_neg HJT.out]
  · have hi2 : ((i : Int) == 0) = false := by simpa using hi
    have hi3 : (0 : Int) < i := by omega
    go_wp2_with fail
    have hL2 : L0 = L := by rw [HLL.out, if_neg hi]
    have HC3 := HC2.out
    rw [hL2] at HC3 hcc2
    rw [hL2]
    clear hL2
    have hm : (text.extract i j).size = (j - i) := by simp <;> omega
    have hbc : ∀ k : Nat, k < (j - i) → (Lib.bytesWorld w2 5 (text.extract i j)).cell? ⟨w2.heap.size, k, none⟩ = some (.int .u8 (bt text ((i + k : Nat) : Int))) := by
      intro k hk
      rw [Lib.bytesWorld_cell _ _ _ _ (by rw [hm]; exact hk)]
      rw [bt_extract text i j k hj (by omega)]
    have x0 := (Lib.bytesWorld_old w2 5 (text.extract i j) ⟨w.heap.size, 0, none⟩ (World.block_lt_of_cell? _ _ d0)).trans d0
    have x1 := (Lib.bytesWorld_old w2 5 (text.extract i j) ⟨w.heap.size, 1, none⟩ (World.block_lt_of_cell? _ _ d1)).trans d1
    have x2 := (Lib.bytesWorld_old w2 5 (text.extract i j) ⟨w.heap.size, 2, none⟩ (World.block_lt_of_cell? _ _ d2)).trans d2
    have hBW := bytes_below (Below.refl w2.heap.size w2) (Nat.le_refl _) 5 (text.extract i j)
    have hB5 := Go.Proofs.Ytibabfgfahlekaa.bel_then HB2.out hBW
    have hC5 := Kd.C_below HC3 hBW
    have HBC := Lib.hid hbc
    generalize hcp : grownCap w2 (j - i) 0 5 = CP at *
    generalize hw5 : Lib.bytesWorld w2 5 (text.extract i j) = w5 at *
    generalize hG : w2.heap.size = G at *
    have HB5 := Lib.hid hB5
    have HC5 := Lib.hid hC5
    have hmM : (j - i) ≤ 1000000 := by omega
    clear hm hbc hBW hB5 hC5 hG hcp hw5
    go_loopw [9, 56] (fun v9 v56 wr => ∃ (k : Nat) (A : Option Addr) (c : Nat), v56 = .int .i64 k ∧ k ≤ (j - i) ∧ v9 = .slice A (atBytes sts text i L k).length c ∧ (atBytes sts text i L k).length ≤ c ∧ Hid (Kd.C (Kd.int .i64) wr A (atBytes sts text i L k).length (atBytes sts text i L k)) ∧ Hid (Below w5.heap.size w5 wr)) (fun _ v56 _ => (j - i) - (intOf v56).toNat)
    case atStart => exact ⟨0, A, c, rfl, by omega, rfl, hcc2, HC5, Lib.hid (Below.refl _ _)⟩
    case round =>
      obtain ⟨k, A4, c4, rfl, hk, rfl, hc4, HC4, HB4⟩ := hrel
      have y0 := Go.Proofs.Ytibabfgfahlekaa.cell_below HB4.out x0
      have y1 := Go.Proofs.Ytibabfgfahlekaa.cell_below HB4.out x1
      have y2 := Go.Proofs.Ytibabfgfahlekaa.cell_below HB4.out x2
      have HLK := Lib.hid (HLEX.out k)
      by_cases hlt : k < (j - i)
      · have yb := Go.Proofs.Ytibabfgfahlekaa.cell_below HB4.out (HBC.out k hlt)
        have hbr := bt_range text ((i + k : Nat) : Int)
        have HAT := Lib.hid (show atBytes sts text i L (k + 1) = listN (walkF sts ((atBytes sts text i L k).flatMap (stepOne sts (bt text ((i + k : Nat) : Int)))) 0) from rfl)
        generalize bt text ((i + k : Nat) : Int) = b at *
        generalize atBytes sts text i L k = M4 at *
        go_wp2_with fail
        refine (step_c A0 c0 sts s (F : Int) _ (Kd.C_below (Kd.C_below HRD.out HB5.out) HB4.out) hc HR.out hw _ _ M4 b (by omega) HC4.out hc4 HLK.out).mono ?_
        rintro e w6 ⟨A6, c6, rfl, hcc6, hC6, hb6⟩
        go_wp2_with fail
        go_roundw
        case rel => exact ⟨k + 1, A6, c6, by go_num, by omega, by rw [HAT.out], by rw [HAT.out]; exact hcc6, by rw [HAT.out]; exact Lib.hid hC6, Lib.hid (Go.Proofs.Ytibabfgfahlekaa.bel_then HB4.out hb6)⟩
        case measure => simp [intOf]; omega
      · obtain rfl : k = (j - i) := by omega
        have HFT := Lib.hid (fits_eq sts s F text i j HR.out ht (by omega) hj L0 L HL0.out HLL.out)
        generalize atBytes sts text i L (j - i) = M4 at *
        have HBw := Lib.hid (Go.Proofs.Ytibabfgfahlekaa.bel_then HB5.out HB4.out)
        by_cases hjt : j = text.size
        · have hjt2 : ((j : Int) == (text.size : Int)) = true := by rw [beq_iff_eq]; omega
          have HJT := Lib.hid hjt
          clear hjt
          go_wp2_with fail
          refine (close_c A0 c0 sts s (F : Int) _ (Kd.C_below HRD.out HBw.out) hc HR.out _ _ M4 257 HC4.out hc4 HLK.out).mono ?_
          rintro e w7 ⟨A7, c7, rfl, hcc7, hC7, hb7⟩
          have z0 := Go.Proofs.Ytibabfgfahlekaa.cell_below hb7 y0
          have z1 := Go.Proofs.Ytibabfgfahlekaa.cell_below hb7 y1
          have z2 := Go.Proofs.Ytibabfgfahlekaa.cell_below hb7 y2
          have HB7 := Lib.hid (Go.Proofs.Ytibabfgfahlekaa.bel_then HBw.out hb7)
          have HL7 : Hid ((listN (walkF sts M4 257)).length ≤ 1000000) := Lib.hid (by
            have := listN_le (walkF sts M4 257)
            rw [walkF_len] at this
            omega)
          have HE7 := Lib.hid (rfl : listN (walkF sts M4 257) = listN (walkF sts M4 257))
          obtain ⟨M7, hM7⟩ : ∃ M7, M7 = listN (walkF sts M4 257) := ⟨_, rfl⟩
          rw [← hM7] at hcc7 hC7 HL7
          rw [← hM7]
          have HM7 := Lib.hid hM7
          have HC7 := Lib.hid hC7
          clear hM7 hC7 HE7 y0 y1 y2 x0 x1 x2 hb7
          go_wp2_with fail
          go_region_with
            ((go_at_call 42; refine (walk_c A0 c0 sts s (F : Int) _ (Kd.C_drew (Kd.C_below HRD.out HB7.out)) hc HR.out _ _ M7 0 (Kd.C_drew HC7.out) hcc7 HL7.out).mono ?_; rintro e w8 ⟨A8, c8, rfl, hC8, hb8⟩; obtain ⟨ad, rfl, hx⟩ := Kd.at_bool hC8 (F : Int) I0 I1; rw [Int.toNat_natCast] at hx; have u0 := Go.Proofs.Ytibabfgfahlekaa.cell_below hb8 (Go.Proofs.YtibabfgfahlekaaQ.drew_cell z0); have u1 := Go.Proofs.Ytibabfgfahlekaa.cell_below hb8 (Go.Proofs.YtibabfgfahlekaaQ.drew_cell z1); have u2 := Go.Proofs.Ytibabfgfahlekaa.cell_below hb8 (Go.Proofs.YtibabfgfahlekaaQ.drew_cell z2)))
          all_goals
            go_wp2_with fail
            go_ret
            refine ⟨ret_has ?_, Go.Proofs.Ytibabfgfahlekaa.bel_then (Go.Proofs.Ytibabfgfahlekaa.bel_drew HB7.out) (by assumption)⟩
            rw [HFT.out, if_pos HJT.out, ← HM7.out]
        · have hjt2 : ((j : Int) == (text.size : Int)) = false := by rw [beq_eq_false_iff_ne]; omega
          have HJT := Lib.hid hjt
          clear hjt x0 x1 x2
          go_wp2_with fail
          go_region_with
            ((go_at_call 42; refine (walk_c A0 c0 sts s (F : Int) _ (Kd.C_drew (Kd.C_below HRD.out HBw.out)) hc HR.out _ _ M4 0 (Kd.C_drew HC4.out) hc4 HLK.out).mono ?_; rintro e w8 ⟨A8, c8, rfl, hC8, hb8⟩; obtain ⟨ad, rfl, hx⟩ := Kd.at_bool hC8 (F : Int) I0 I1; rw [Int.toNat_natCast] at hx; have u0 := Go.Proofs.Ytibabfgfahlekaa.cell_below hb8 (Go.Proofs.YtibabfgfahlekaaQ.drew_cell y0); have u1 := Go.Proofs.Ytibabfgfahlekaa.cell_below hb8 (Go.Proofs.YtibabfgfahlekaaQ.drew_cell y1); have u2 := Go.Proofs.Ytibabfgfahlekaa.cell_below hb8 (Go.Proofs.YtibabfgfahlekaaQ.drew_cell y2)))
          all_goals
            go_wp2_with fail
            go_ret
            refine ⟨ret_has ?_, Go.Proofs.Ytibabfgfahlekaa.bel_then (Go.Proofs.Ytibabfgfahlekaa.bel_drew HBw.out) (by assumption)⟩
            rw [HFT.out, if_neg HJT.out]
end Go.Proofs.YtibabfgfahlekaaQ
