/- Pruned from its seat's text: what the theorem hangs on. -/
import Derived.Test.YtibabfgfahlekaaHNfPart
/- The builder of automata: what repeats up to a bound, walked. -/
set_option linter.unusedVariables false
set_option linter.unusedSimpArgs false
namespace Go.Proofs.YtibabfgfahlekaaQ
open Go.RowKit Go.Proofs.YtibabfgfahlekaaW.PrintWords Go.Proofs.YtibabfgfahlekaaW.PrintLast Go.Proofs.Ytibabfgfahlekaa
set_option maxRecDepth 100000 in
set_option maxHeartbeats 6400000 in
theorem rep_pos (p : Nat) (L : Value) (k : Nat) (a : PMk) (n : Nat) (ha : Ok a n) (w0 : World) (hp0 : w0.heap.size ≤ p) (kd : Int) (s0 s1 s2 s3 lo m H : Nat) (hH : H = lo + m) (hC : 0 < H → PartC L p k a n w0) (hlo : lo ≤ 32) (hm : m ≤ 32) (w : World) (sts : List St) (g : Option Nat) (hB : BldG w p L sts g) (h0 : Below w0.heap.size w0 w) (hsz : sts.length + (2 + H * n + m) ≤ 900000) :
    Calls Try.prog 59 #[.pointer (some ⟨p, 0, none⟩), .agg #[.int .i64 kd, .int .u64 s0, .int .u64 s1, .int .u64 s2, .int .u64 s3, .int .i64 lo, .int .i64 (H : Int)], .int .i64 k] w fun e w' => e = .returned (.tuple #[.int .i64 (repM lo H a sts).first, .int .i64 (repM lo H a sts).last]) ∧ ∃ g', BldG w' p L (repM lo H a sts).out g' ∧ Stays p g g' w w' := by
  have hp := hB.lt
  have hrow := hB.row
  have hgN : g ≠ some w.heap.size := fun e => by have := hrow _ e; omega
  have HH := Lib.hid hH
  have hHn : H * n = lo * n + m * n := by rw [hH, Nat.add_mul]
  have HHN := Lib.hid hHn
  have hneg : ¬ ((H : Int) < 0) := by omega
  have HBD := Lib.hid hB
  have H0 := Lib.hid h0
  obtain ⟨R, hR⟩ : ∃ R, repM lo H a sts = R := ⟨_, rfl⟩
  rw [hR]
  have HR := Lib.hid hR
  have HC := Lib.hid hC
  clear hB h0 hrow hR hC hH hHn
  go_enter Try.func59, Try.ntmps59
  go_wp2_with fail
  refine (empty_st p L sts g _ (HBD.out.alloc _) (by omega)).mono ?_
  rintro e w1 ⟨rfl, g1, hB1, hS1⟩
  have hS := ((Stays.refl p g w).alloc (by omega) _).trans hS1
  have b5 : w1.cell? ⟨w.heap.size, 5, none⟩ = some (.int .i64 lo) := hS1.cell (by omega) hgN (by rw [cell_of_row _ _ 5 _ _ _ (heap_alloc_new w _)]; rfl)
  have b6 : w1.cell? ⟨w.heap.size, 6, none⟩ = some (.int .i64 (H : Int)) := hS1.cell (by omega) hgN (by rw [cell_of_row _ _ 6 _ _ _ (heap_alloc_new w _)]; rfl)
  have hg1 := hS1.app_ (b := w.heap.size) (by simp) hgN
  generalize hN : w.heap.size = N at *
  have HS := Lib.hid hS
  have HB1 := Lib.hid hB1
  have HG1 := Lib.hid hg1
  have HGN := Lib.hid hgN
  clear hS hS1 hB1 hg1 hgN
  go_wp2_with fail
  go_loopw [8, 25] (fun ah ct wr => ∃ (j : Nat) (gk : Option Nat), ah = .int .i64 (loP a lo sts j).ahead ∧ ct = .int .i64 j ∧ j ≤ lo ∧ BldG wr p L (loP a lo sts j).out gk ∧ Stays p g gk w wr ∧ gk ≠ some N ∧ wr.cell? ⟨N, 5, none⟩ = some (.int .i64 lo) ∧ wr.cell? ⟨N, 6, none⟩ = some (.int .i64 (H : Int))) (fun _ ct _ => lo - (intOf ct).toNat)
  case atStart => exact ⟨0, g1, rfl, rfl, by omega, HB1.out, HS.out, HG1.out, b5, b6⟩
  case round =>
    clear b5 b6
    obtain ⟨j, gk, rfl, rfl, hj, hBk, hSk, hgk, b5, b6⟩ := hrel
    have hok := loP_ok ha lo sts j
    have HB2 := Lib.hid hBk
    have HS2 := Lib.hid hSk
    have HG2 := Lib.hid hgk
    have HOK := Lib.hid hok
    clear hBk hSk hgk
    by_cases hlt : j < lo
    · have hmul : (j + 1) * n ≤ lo * n := Nat.mul_le_mul_right n (by omega)
      rw [Nat.succ_mul] at hmul
      have hsz2 : (loP a lo sts j).out.length + n ≤ 900000 := by have := HHN.out; omega
      obtain ⟨q, hq⟩ : ∃ q, loP a lo sts j = q := ⟨_, rfl⟩
      rw [hq] at hsz2 hok HOK HB2
      have HQ := Lib.hid hq
      simp only [hq]
      clear hq hmul hok
      go_wp2_with fail
      refine (HC.out (by have := HH.out; omega) wr _ gk HB2.out (H0.out.trans (HS2.out.below.mono hp0)) hsz2).mono ?_
      rintro e w2 ⟨rfl, g2, hB3, hS3⟩
      have HB3 := Lib.hid hB3
      have HS3 := Lib.hid hS3
      clear hB3 hS3
      have haq := ha q.out
      have HAQ := Lib.hid haq
      go_wp2_with fail
      refine (to_st p L _ g2 q.ahead (a q.out).first _ HB3.out (by omega) (by have := HOK.out; omega)).mono ?_
      rintro e w3 ⟨rfl, hB4, hS4⟩
      have HB4 := Lib.hid hB4
      have HS4 := Lib.hid ((HS2.out.trans HS3.out).trans hS4)
      have hNw : N < wr.heap.size := World.block_lt_of_cell? _ _ b5
      have hg3 := HS3.out.app_ hNw HG2.out
      have b5' := hS4.cell (by omega) hg3 (HS3.out.cell (by omega) HG2.out b5)
      have b6' := hS4.cell (by omega) hg3 (HS3.out.cell (by omega) HG2.out b6)
      have HG3 := Lib.hid hg3
      clear hB4 hS4 hg3 haq b5 b6
      go_wp2_with fail
      go_roundw
      case rel =>
        have e1 : loP a lo sts (j + 1) = loS a q := by rw [← HQ.out]; rfl
        refine ⟨j + 1, g2, by rw [e1]; rfl, by go_num, by omega, by rw [e1]; exact HB4.out, HS4.out, HG3.out, b5', b6'⟩
      case measure => simp [intOf] <;> omega
    · obtain rfl : j = lo := by omega
      obtain ⟨q, hq⟩ : ∃ q, loP a j sts j = q := ⟨_, rfl⟩
      rw [hq] at hok HOK HB2
      have HQ := Lib.hid hq
      simp only [hq]
      have hsb : wrap64 ((H : Int) - (j : Int)) = (m : Int) := by have := HH.out; unfold wrap64; omega
      have hNw : N + 1 ≤ wr.heap.size := World.block_lt_of_cell? _ _ b5
      have HSB := Lib.hid hsb
      have HWR := Lib.hid hNw
      clear hq hok hsb hNw
      go_wp2_with fail
      go_loopw [8, 11, 72] (fun ah sv ct wq => ∃ (i : Nat) (gq A5 : Option _) (c5 : Nat), ah = .int .i64 (hiP a j sts i).ahead ∧ sv = .slice A5 i c5 ∧ ct = .int .i64 i ∧ i ≤ m ∧ BldG wq p L (hiP a j sts i).out gq ∧ Stays p g gq w wq ∧ wq.ownsRow (N + 1) 3 1 (.slice A5 i c5) i (Go.Proofs.Ytibabfgfahlekaa.ints ((hiP a j sts i).splits.map Int.ofNat)) ∧ N + 1 ≤ wq.heap.size) (fun _ _ ct _ => m - (intOf ct).toNat)
      case atStart =>
        have e0 : hiP a j sts 0 = q := by rw [← HQ.out]; rfl
        refine ⟨0, gk, none, 0, by rw [e0], rfl, rfl, by omega, by rw [e0]; exact HB2.out, HS2.out, ?_, HWR.out⟩
        rw [e0, HOK.out.2.2.2]
        exact World.ownsRow_nil _ _ _ _
      case round =>
        obtain ⟨i, gq, A5, c5, rfl, rfl, rfl, hi, hBq, hSq, hOq, hNq⟩ := hrel
        have hok := hiP_ok ha j sts i
        have HBq := Lib.hid hBq
        have HSq := Lib.hid hSq
        have HOq := Lib.hid hOq
        have HOK2 := Lib.hid hok
        have HSB2 := HSB.out
        clear b5 b6 hBq hSq hOq
        by_cases hlt : i < m
        · have hlt2 : (i : Int) < wrap64 ((H : Int) - (j : Int)) := by rw [HSB.out]; omega
          have hmul : (i + 1) * (n + 1) ≤ m * (n + 1) := Nat.mul_le_mul_right (n + 1) (by omega)
          rw [Nat.succ_mul, Nat.mul_succ m n] at hmul
          have hsz2 : (hiP a j sts i).out.length + n + 1 ≤ 900000 := by have := HHN.out; rw [Int.toNat_natCast] at hok; omega
          obtain ⟨q2, hq2⟩ : ∃ q2, hiP a j sts i = q2 := ⟨_, rfl⟩
          rw [hq2] at hsz2 hok HOK2 HBq HOq
          have HQ2 := Lib.hid hq2
          simp only [hq2]
          clear hq2 hmul HSB2
          have hah : q2.ahead < q2.out.length := hok.2.2.1
          clear hok
          go_wp2_with fail
          refine (HC.out (by have := HH.out; omega) wr _ gq HBq.out (H0.out.trans (HSq.out.below.mono hp0)) (by omega)).mono ?_
          rintro e w2 ⟨rfl, g2, hB3, hS3⟩
          have HB3 := Lib.hid hB3
          have HS3 := Lib.hid (HSq.out.trans hS3)
          have HO3 := Lib.hid (hS3.own HOq.out (by omega) (HBq.out.apart HOq.out))
          have hN2 : N + 1 ≤ w2.heap.size := Nat.le_trans hNq hS3.below.size
          clear hB3 hS3
          have haq := ha q2.out
          obtain ⟨out, hout⟩ : ∃ out, (a q2.out).out = out := ⟨_, rfl⟩
          obtain ⟨fi, hfi⟩ : ∃ fi, (a q2.out).first = fi := ⟨_, rfl⟩
          obtain ⟨la, hla⟩ : ∃ la, (a q2.out).last = la := ⟨_, rfl⟩
          have HOUT := Lib.hid (And.intro hout (And.intro hfi hla))
          rw [hout] at HB3
          rw [hout, hfi, hla] at haq
          rw [hfi, hla]
          have hln : out.length ≤ 900000 := by omega
          have hah2 : q2.ahead < out.length := by omega
          have hla2 : la < out.length := by omega
          clear haq hout hfi hla
          go_wp2_with fail
          refine (state_st p L _ (kSt 3 fi 0) g2 _ HB3.out (by omega)).mono ?_
          rintro e w3 ⟨rfl, g3, hB4, hS4⟩
          have HB4 := Lib.hid hB4
          have HS4 := Lib.hid (HS3.out.trans hS4)
          have HO4 := Lib.hid (hS4.own HO3.out (by omega) (HB3.out.apart HO3.out))
          have hN3 : N + 1 ≤ w3.heap.size := Nat.le_trans hN2 hS4.below.size
          have hl3 : (out ++ [kSt 3 fi 0]).length = out.length + 1 := by rw [List.length_append]; rfl
          have HL3 := Lib.hid hl3
          clear hB4 hS4 hl3
          go_wp2_with fail
          refine (to_st p L _ g3 q2.ahead out.length w3 HB4.out (by rw [HL3.out]; omega) (by rw [HL3.out]; omega)).mono ?_
          rintro e w4 ⟨rfl, hB5, hS5⟩
          have HB5 := Lib.hid hB5
          have HS5 := Lib.hid (HS4.out.trans hS5)
          have HO5 := Lib.hid (hS5.own HO4.out (by omega) (HB4.out.apart HO4.out))
          have hN4 : N + 1 ≤ w4.heap.size := Nat.le_trans hN3 hS5.below.size
          clear hB5 hS5
          go_wp2_with (at_builtin; refine app_lit0 rfl (.tmp 88) (.tmp 90) 52 rfl (N + 1) 3 Try.underlying52 info_int rfl (by omega) (by omega) (.slice A5 i c5) i _ rfl HO5.out [.int .i64 _] 1 1 rfl rfl rfl (by omega) hN4 ?_; intro A6 c6 w5 hO6 hg6)
          have hrw : ∀ b, (Value.slice A5 i c5).ownBlock = some b → N + 1 ≤ b := fun b hb => Go.Proofs.Ytibabfgfahlekaa.own_base HO5.out b hb
          have HB6 := Lib.hid (HB5.out.grown hg6 (fun e => by have := hrw p e; omega) (HB5.out.apart' HO5.out))
          have HS6 := Lib.hid (HS5.out.grown hg6 (by omega) (fun b hb => by have := hrw b hb; omega))
          have hN5 : N + 1 ≤ w5.heap.size := Nat.le_trans hN4 hg6.size
          have HO6 := Lib.hid hO6
          clear hO6 hg6 hrw
          go_wp2_with fail
          go_roundw
          case rel =>
            have e1 : hiP a j sts (i + 1) = hiS a q2 := by rw [← HQ2.out]; rfl
            have e2 : hiS a q2 = ⟨putA (out ++ [kSt 3 fi 0]) q2.ahead out.length, la, q2.splits ++ [out.length]⟩ := by
              unfold hiS
              rw [HOUT.out.1, HOUT.out.2.1, HOUT.out.2.2]
            refine ⟨i + 1, _, A6, c6, by rw [e1, e2], rfl, by go_num, by omega, by rw [e1, e2]; exact HB6.out, HS6.out, ?_, hN5⟩
            rw [e1, e2]
            have := HO6.out
            rw [show (Go.Proofs.Ytibabfgfahlekaa.ints (q2.splits.map Int.ofNat) ++ [.int .i64 (out.length : Int)]) = Go.Proofs.Ytibabfgfahlekaa.ints ((q2.splits ++ [out.length]).map Int.ofNat) by simp [Go.Proofs.Ytibabfgfahlekaa.ints]] at this
            exact this
          case measure => simp [intOf] <;> omega
        · obtain rfl : i = m := by omega
          have hlt2 : ¬ ((i : Int) < wrap64 ((H : Int) - (j : Int))) := by rw [HSB.out]; omega
          obtain ⟨q2, hq2⟩ : ∃ q2, hiP a j sts i = q2 := ⟨_, rfl⟩
          rw [hq2] at hok HOK2 HBq HOq
          have HQ2 := Lib.hid hq2
          simp only [hq2]
          have hmul : i * (n + 1) = i * n + i := Nat.mul_succ i n
          have hsz2 : q2.out.length ≤ 900000 := by have := HHN.out; rw [Int.toNat_natCast] at hok; omega
          have hah : q2.ahead < q2.out.length := hok.2.2.1
          clear hq2 HSB2 hok hmul
          go_wp2_with fail
          refine (empty_st p L _ gq _ HBq.out (by omega)).mono ?_
          rintro e w6 ⟨rfl, g6, hB7, hS7⟩
          have HB7 := Lib.hid hB7
          have HS7 := Lib.hid (HSq.out.trans hS7)
          have HO7 := Lib.hid (hS7.own HOq.out (by omega) (HBq.out.apart HOq.out))
          have hl7 : (q2.out ++ [eSt]).length = q2.out.length + 1 := by rw [List.length_append]; rfl
          have HL7 := Lib.hid hl7
          clear hB7 hS7 hl7
          go_wp2_with fail
          refine (to_st p L (q2.out ++ [eSt]) g6 q2.ahead q2.out.length w6 HB7.out (by rw [HL7.out]; omega) (by rw [HL7.out]; omega)).mono ?_
          rintro e w7 ⟨rfl, hB8, hS8⟩
          have HB8 := Lib.hid hB8
          have HS8 := Lib.hid (HS7.out.trans hS8)
          have HO8 := Lib.hid (hS8.own HO7.out (by omega) (HB7.out.apart HO7.out))
          clear hB8 hS8
          go_wp2_with fail
          obtain ⟨o8, ho8⟩ : ∃ o8, putA (q2.out ++ [eSt]) q2.ahead q2.out.length = o8 := ⟨_, rfl⟩
          have hl8 : o8.length = q2.out.length + 1 := by rw [← ho8, putA_len]; exact HL7.out
          rw [ho8] at HB8
          have HE8 := Lib.hid ho8
          have HL8 := Lib.hid hl8
          clear ho8 hl8
          obtain ⟨sp, hsp⟩ : ∃ sp, q2.splits = sp := ⟨_, rfl⟩
          have hO9 : w7.ownsRow (N + 1) 3 1 (.slice A5 i c5) i (Go.Proofs.Ytibabfgfahlekaa.ints (sp.map Int.ofNat)) := by
            rw [← hsp]
            exact HO8.out
          have HO10 := Lib.hid hO9
          have hspl : sp.length = i := by rw [← hsp]; exact HOK2.out.2.2.2.1
          have hspm : ∀ x ∈ sp, x < o8.length := by rw [← hsp, HL8.out]; intro x hx; have := HOK2.out.2.2.2.2 x hx; omega
          have HSP := Lib.hid hsp
          have HSPM := Lib.hid hspm
          clear hsp hspm hO9
          go_loopw [102] (fun ct wq => ∃ (y : Nat) (gq : Option Nat), ct = .int .i64 y ∧ y ≤ sp.length ∧ BldG wq p L (putBs ((q2.out.length : Nat) : Int) o8 (sp.take y)) gq ∧ Stays p g gq w wq ∧ wq.ownsRow (N + 1) 3 1 (.slice A5 i c5) i (Go.Proofs.Ytibabfgfahlekaa.ints (sp.map Int.ofNat))) (fun ct _ => sp.length - (intOf ct).toNat)
          case atStart => exact ⟨0, _, rfl, by omega, HB8.out, HS8.out, HO10.out⟩
          case round =>
            obtain ⟨y9, gq, rfl, hi, hBq, hSq, hOq⟩ := hrel
            by_cases hlt : y9 < i
            · obtain ⟨ad1, y, rfl, hy, cy⟩ := (Go.Proofs.Ytibabfgfahlekaa.Reads.of_own hOq).int hlt
              have hil : y9 < sp.length := by omega
              obtain rfl : (sp[y9] : Int) = y := by simpa [hil] using hy
              have hm9 := HSPM.out _ (List.getElem_mem hil)
              have htk : putB (putBs ((q2.out.length : Nat) : Int) o8 (sp.take y9)) sp[y9] ((q2.out.length : Nat) : Int) = putBs ((q2.out.length : Nat) : Int) o8 (sp.take (y9 + 1)) := by
                rw [List.take_succ_eq_append_getElem hil, putBs_snoc]
              obtain ⟨q', c', rfl, hpq, hc1, ⟨u, hcu⟩, hfz, hB9, hS9⟩ := hBq.setB sp[y9] (by rw [putBs_len]; omega) ((q2.out.length : Nat) : Int)
              rw [htk] at hB9
              rw [putBs_len, HL8.out] at hc1
              have hsi : sp[y9] < q2.out.length + 1 := by rw [HL8.out] at hm9; exact hm9
              have HB9 := Lib.hid hB9
              have HS9 := Lib.hid (hSq.trans hS9)
              have HO9 := Lib.hid (hS9.own hOq (by omega) (hBq.apart hOq))
              generalize sp[y9] = xi at *
              clear hy hB9 hS9 hSq hBq hOq htk hm9
              go_wp2_with fail
              go_roundw
              case rel =>
                try simp only [add_plain]
                exact ⟨y9 + 1, _, by go_num, by omega, HB9.out, HS9.out, HO9.out⟩
              case measure => simp [intOf] <;> omega
            · have hi2 : sp.take y9 = sp := List.take_of_length_le (by omega)
              rw [hi2] at hBq
              go_wp2_with fail
              have hR := HR.out
              have hrep : repM (j : Int) (H : Int) a sts = ⟨putBs ((q2.out.length : Nat) : Int) o8 sp, sts.length, q2.out.length⟩ := by
                unfold repM
                rw [if_neg (by omega)]
                have e9 : ((H : Int) - (j : Int)).toNat = i := by have := HH.out; omega
                rw [e9, HQ2.out]
                unfold endM
                simp only [HE8.out, HSP.out]
              rw [hrep] at hR
              subst hR
              refine bodyPost_ret (v := .tuple #[.int .i64 sts.length, .int .i64 ((q2.out.length : Nat) : Int)]) (by simp [results, Try.results59, go_sem]) rfl ⟨rfl, gq, hBq, hSq⟩
end Go.Proofs.YtibabfgfahlekaaQ
