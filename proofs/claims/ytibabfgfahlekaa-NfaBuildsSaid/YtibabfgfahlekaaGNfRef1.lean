/- Pruned from its seat's text: what the theorem hangs on. -/
import Derived.Test.YtibabfgfahlekaaGNfRef0
/- The document's repeat, walked. -/
set_option linter.unusedVariables false
set_option linter.unusedSimpArgs false
namespace Go.Proofs.YtibabfgfahlekaaQ
open Go.RowKit Go.Proofs.YtibabfgfahlekaaW.PrintWords Go.Proofs.YtibabfgfahlekaaW.PrintLast Go.Proofs.Ytibabfgfahlekaa

theorem own_set_other {w : World} {base e size n : Nat} {v : Value} {xs : List Value} (h : w.ownsRow base e size v n xs) (p : Addr) (u : Value) (hne : v.ownBlock = none ∨ v.ownBlock ≠ some p.block) : (w.setCell p u).ownsRow base e size v n xs := by
  refine ⟨h.1, ?_⟩
  rcases h.2 with h2 | ⟨q, cap, cur, rfl, hq, hh, r⟩
  · exact .inl h2
  · refine .inr ⟨q, cap, cur, rfl, hq, ?_, r⟩
    rw [heap_setCell_other _ _ q _ (fun e => by rcases hne with k | k <;> simp [Value.ownBlock] at k; exact k e)]
    exact hh
set_option maxRecDepth 100000 in
set_option maxHeartbeats 6400000 in
theorem rr_neg (L : Value) (k : Nat) (a : PMk) (n : Nat) (ha : Ok a n) (w00 : World) (kd : Int) (s0 s1 s2 s3 lo : Nat) (hC : MakeC L k a n w00) (hlo : lo ≤ 32) (w : World) (sts : List St) (A : Option Addr) (c : Nat) (hr : Kd.C k72 w A sts.length sts) (hc : sts.length ≤ c) (h0 : Below w00.heap.size w00 w) (hsz : sts.length + (3 + (lo + 1) * n) ≤ 900000) :
    Calls Try.prog 61 #[L, .agg #[.int .i64 kd, .int .u64 s0, .int .u64 s1, .int .u64 s2, .int .u64 s3, .int .i64 lo, .int .i64 (-1)], .int .i64 k, .slice A sts.length c] w fun e w' => ∃ A1 c1 m1, e = .returned (.agg #[.slice A1 m1 c1, .int .i64 (repM lo (-1) a sts).first, .int .i64 (repM lo (-1) a sts).last]) ∧ m1 = (repM lo (-1) a sts).out.length ∧ w'.ownsRow w.heap.size 72 7 (.slice A1 m1 c1) m1 ((repM lo (-1) a sts).out.flatMap stCells) ∧ Below w.heap.size w w' := by
  obtain ⟨R, hR⟩ : ∃ R, repM lo (-1) a sts = R := ⟨_, rfl⟩
  rw [hR]
  have HR := Lib.hid hR
  have HC := Lib.hid hC
  have HRD := Lib.hid hr
  have H0 := Lib.hid h0
  clear hR hC hr h0
  go_enter Try.func61, Try.ntmps61
  go_wp2_with fail
  refine (rput_any sts A c ⟨2, 0, 0, ⟨0, 0, 0, 0⟩⟩ _ (Kd.C_alloc (Kd.C_alloc HRD.out _) _) hc (by omega)).mono ?_
  rintro e w1 ⟨A1, c1, rfl, hO1, hb1⟩
  have n5 : ((w.alloc (.cells #[.int .i64 kd, .int .u64 s0, .int .u64 s1, .int .u64 s2, .int .u64 s3, .int .i64 lo, .int .i64 (-1)] 63)).alloc (.cells #[.slice none 0 0, .int .i64 0, .int .i64 0] 79)).cell? ⟨w.heap.size, 5, none⟩ = some (.int .i64 lo) := Go.Proofs.Ytibabfgfahlekaa.cell_alloc (by rw [cell_of_row _ _ 5 _ _ _ (heap_alloc_new w _)]; rfl) _
  have n6 : ((w.alloc (.cells #[.int .i64 kd, .int .u64 s0, .int .u64 s1, .int .u64 s2, .int .u64 s3, .int .i64 lo, .int .i64 (-1)] 63)).alloc (.cells #[.slice none 0 0, .int .i64 0, .int .i64 0] 79)).cell? ⟨w.heap.size, 6, none⟩ = some (.int .i64 (-1)) := Go.Proofs.Ytibabfgfahlekaa.cell_alloc (by rw [cell_of_row _ _ 6 _ _ _ (heap_alloc_new w _)]; rfl) _
  have hrow : ((w.alloc (.cells #[.int .i64 kd, .int .u64 s0, .int .u64 s1, .int .u64 s2, .int .u64 s3, .int .i64 lo, .int .i64 (-1)] 63)).alloc (.cells #[.slice none 0 0, .int .i64 0, .int .i64 0] 79)).heap[w.heap.size + 1]? = some (.cells #[.slice none 0 0, .int .i64 0, .int .i64 0] 79) := by
    have := heap_alloc_new (w.alloc (.cells #[.int .i64 kd, .int .u64 s0, .int .u64 s1, .int .u64 s2, .int .u64 s3, .int .i64 lo, .int .i64 (-1)] 63)) (.cells #[.slice none 0 0, .int .i64 0, .int .i64 0] 79)
    rwa [show (w.alloc (.cells #[.int .i64 kd, .int .u64 s0, .int .u64 s1, .int .u64 s2, .int .u64 s3, .int .i64 lo, .int .i64 (-1)] 63)).heap.size = w.heap.size + 1 by simp] at this
  have hbW : Below w.heap.size w ((w.alloc (.cells #[.int .i64 kd, .int .u64 s0, .int .u64 s1, .int .u64 s2, .int .u64 s3, .int .i64 lo, .int .i64 (-1)] 63)).alloc (.cells #[.slice none 0 0, .int .i64 0, .int .i64 0] 79)) := Go.Proofs.Ytibabfgfahlekaa.bel_alloc (Go.Proofs.Ytibabfgfahlekaa.bel_alloc (Below.refl _ _) _) _
  have hWs : ((w.alloc (.cells #[.int .i64 kd, .int .u64 s0, .int .u64 s1, .int .u64 s2, .int .u64 s3, .int .i64 lo, .int .i64 (-1)] 63)).alloc (.cells #[.slice none 0 0, .int .i64 0, .int .i64 0] 79)).heap.size = w.heap.size + 2 := by simp
  generalize (w.alloc (.cells #[.int .i64 kd, .int .u64 s0, .int .u64 s1, .int .u64 s2, .int .u64 s3, .int .i64 lo, .int .i64 (-1)] 63)).alloc (.cells #[.slice none 0 0, .int .i64 0, .int .i64 0] 79) = W0 at *
  have HO1 := Lib.hid hO1
  have HB1 := Lib.hid hb1
  have HROW := Lib.hid hrow
  have HBW := Lib.hid hbW
  have HWS := Lib.hid hWs
  have hz1 : w.heap.size < W0.heap.size := by omega
  have hz2 : w.heap.size + 1 < W0.heap.size := by omega
  clear hO1 hb1 hrow hbW hWs
  generalize hN : w.heap.size = N at *
  have N5 := Lib.hid n5
  have N6 := Lib.hid n6
  have b5 := Go.Proofs.Ytibabfgfahlekaa.cell_below HB1.out n5
  have b6 := Go.Proofs.Ytibabfgfahlekaa.cell_below HB1.out n6
  clear n5 n6
  go_wp2_with fail
  go_loopw [9, 11, 12] (fun tv ah ct wr => ∃ (j : Nat) (A1 : Option Addr) (c1 m1 : Nat), tv = .slice A1 m1 c1 ∧ ah = .int .i64 (loP a lo sts j).ahead ∧ ct = .int .i64 j ∧ j ≤ lo ∧ m1 = (loP a lo sts j).out.length ∧ wr.ownsRow W0.heap.size 72 7 (.slice A1 m1 c1) m1 ((loP a lo sts j).out.flatMap stCells) ∧ Below W0.heap.size W0 wr) (fun _ _ ct _ => lo - (intOf ct).toNat)
  case atStart => exact ⟨0, A1, c1, _, rfl, rfl, rfl, by omega, by simp [loP, iter], HO1.out, HB1.out⟩
  case round =>
    clear b5 b6
    obtain ⟨j, A2, c2, m1, rfl, rfl, rfl, hj, hm1, hOk, hbk⟩ := hrel
    have hok := loP_ok ha lo sts j
    have HOK := Lib.hid hok
    have b5 := Go.Proofs.Ytibabfgfahlekaa.cell_below hbk N5.out
    have b6 := Go.Proofs.Ytibabfgfahlekaa.cell_below hbk N6.out
    have HBK := Lib.hid hbk
    by_cases hlt : j < lo
    · have hmul : (j + 1) * n ≤ lo * n := Nat.mul_le_mul_right n (by omega)
      rw [Nat.succ_mul] at hmul
      have hsz2 : (loP a lo sts j).out.length + n ≤ 900000 := by rw [Nat.succ_mul] at hsz; omega
      obtain ⟨q, hq⟩ : ∃ q, loP a lo sts j = q := ⟨_, rfl⟩
      rw [hq] at hsz2 hok HOK hOk hm1
      have HQ := Lib.hid hq
      simp only [hq]
      subst hm1
      obtain ⟨hcc, hKC⟩ := C_of_row hOk
      have HKC := Lib.hid hKC
      clear hq hmul hok hKC hOk
      go_wp2_with fail
      refine (HC.out wr q.out A2 c2 HKC.out hcc (H0.out.trans (HBW.out.trans (HBK.out.mono (by omega)) |>.mono (by have := H0.out.size; omega))) hsz2).mono ?_
      rintro e w2 ⟨A3, c3, m3, rfl, hm3, hO3, hb3⟩
      have haq := ha q.out
      obtain ⟨out, hout⟩ : ∃ out, (a q.out).out = out := ⟨_, rfl⟩
      obtain ⟨fi, hfi⟩ : ∃ fi, (a q.out).first = fi := ⟨_, rfl⟩
      obtain ⟨la, hla⟩ : ∃ la, (a q.out).last = la := ⟨_, rfl⟩
      have HOUT := Lib.hid (And.intro hout (And.intro hfi hla))
      rw [hout] at hO3 hm3
      rw [hout, hfi, hla] at haq
      rw [hfi, hla]
      have hln : out.length ≤ 900000 := by omega
      have hah : q.ahead < out.length := by have := HOK.out; omega
      have hla2 : la < out.length := by omega
      subst hm3
      obtain ⟨g3, rfl, hg3, ⟨u1, hu1⟩, hf1, hs1, _⟩ := row_set hO3 rfl q.ahead hah (fi : Int)
      have hlt3 : g3 < w2.heap.size := World.block_lt_of_cell? w2 _ hu1
      have hne1 : ¬ g3 = w2.heap.size := by omega
      have hne2 : ¬ w2.heap.size = g3 := by omega
      have hWr : W0.heap.size ≤ wr.heap.size := HBK.out.size
      have HS1 := Lib.hid (Go.Proofs.Ytibabfgfahlekaa.own_mono hs1 hWr)
      have HB3 := Lib.hid (Go.Proofs.Ytibabfgfahlekaa.bel_then HBK.out hb3)
      clear haq hout hfi hla hs1 hO3 hb3 b5 b6
      go_wp2_with fail
      go_roundw
      case rel =>
        have e1 : loP a lo sts (j + 1) = loS a q := by rw [← HQ.out]; rfl
        have e2 : loS a q = ⟨putA out q.ahead fi, la, q.splits⟩ := by unfold loS; rw [HOUT.out.1, HOUT.out.2.1, HOUT.out.2.2]
        try simp only [add_plain]
        refine ⟨j + 1, _, c3, _, rfl, by rw [e1, e2], by go_num, by omega, ?_, ?_, ?_⟩
        · rw [e1, e2, putA_len]
        · rw [e1, e2]
          exact HS1.out.alloc _
        · exact (HB3.out.setCell (by simp; omega) _).alloc (by simp; exact Nat.le_trans HBK.out.size (Nat.le_refl _) |> fun h => by have := HB3.out.size; omega) _
      case measure => simp [intOf] <;> omega
    · obtain rfl : j = lo := by omega
      obtain ⟨q, hq⟩ : ∃ q, loP a j sts j = q := ⟨_, rfl⟩
      rw [hq] at hok HOK hOk hm1
      have HQ := Lib.hid hq
      simp only [hq]
      subst hm1
      have HOk := Lib.hid hOk
      clear hq hok hOk
      go_wp2_with fail
      go_loopw [9, 11, 14, 15] (fun tv ah sv ct wq => ∃ (i y : Nat) (A2 A5 : Option Addr) (c2 m2 c5 : Nat), tv = .slice A2 m2 c2 ∧ ah = .int .i64 (hiP a j sts i).ahead ∧ sv = .slice A5 i c5 ∧ ct = .int .i64 y ∧ y = j + i ∧ i ≤ 1 ∧ m2 = (hiP a j sts i).out.length ∧ wq.ownsRow W0.heap.size 72 7 (.slice A2 m2 c2) m2 ((hiP a j sts i).out.flatMap stCells) ∧ wq.ownsRow W0.heap.size 3 1 (.slice A5 i c5) i (Go.Proofs.Ytibabfgfahlekaa.ints ((hiP a j sts i).splits.map Int.ofNat)) ∧ Below W0.heap.size W0 wq) (fun _ _ _ ct _ => j + 1 - (intOf ct).toNat)
      case atStart =>
        have e0 : hiP a j sts 0 = q := by rw [← HQ.out]; rfl
        refine ⟨0, j, A2, none, c2, _, 0, rfl, by rw [e0], rfl, rfl, by omega, by omega, by rw [e0], by rw [e0]; exact HOk.out, ?_, HBK.out⟩
        rw [e0, HOK.out.2.2.2]
        exact World.ownsRow_nil _ _ _ _
      case round =>
        clear b5 b6
        obtain ⟨i, y, A2, A5, c2, m2, c5, rfl, rfl, rfl, rfl, hy, hi, hm2, hOs, hOp, hbq⟩ := hrel
        have hok := hiP_ok ha j sts i
        have HOK2 := Lib.hid hok
        have b5 := Go.Proofs.Ytibabfgfahlekaa.cell_below hbq N5.out
        have b6 := Go.Proofs.Ytibabfgfahlekaa.cell_below hbq N6.out
        have HBQ := Lib.hid hbq
        have HOP := Lib.hid hOp
        have HY := Lib.hid hy
        clear hOp hbq
        by_cases hlt : i < 1
        · have hmul : (i + 1) * (n + 1) ≤ 1 * (n + 1) := Nat.mul_le_mul_right (n + 1) (by omega)
          rw [Nat.succ_mul, Nat.mul_succ 1 n] at hmul
          have hsz2 : (hiP a j sts i).out.length + n + 1 ≤ 900000 := by rw [Nat.succ_mul] at hsz; rw [Int.toNat_natCast] at hok; omega
          obtain ⟨q2, hq2⟩ : ∃ q2, hiP a j sts i = q2 := ⟨_, rfl⟩
          rw [hq2] at hsz2 hok HOK2 hOs hm2 HOP
          have HQ2 := Lib.hid hq2
          simp only [hq2]
          subst hm2
          obtain ⟨hcc, hKC⟩ := C_of_row hOs
          have HKC := Lib.hid hKC
          have hah0 : q2.ahead < q2.out.length := hok.2.2.1
          obtain rfl : i = 0 := by omega
          obtain rfl : j = y := by omega
          have hn9 : ¬ ((j : Int) < -1) := by omega
          clear hq2 hmul hok hKC hOs hy
          go_wp2_with fail
          refine (HC.out wr q2.out A2 c2 HKC.out hcc (H0.out.trans (HBW.out.trans (HBQ.out.mono (by omega)) |>.mono (by have := H0.out.size; omega))) (by omega)).mono ?_
          rintro e w2 ⟨A3, c3, m3, rfl, hm3, hO3, hb3⟩
          have haq := ha q2.out
          obtain ⟨out, hout⟩ : ∃ out, (a q2.out).out = out := ⟨_, rfl⟩
          obtain ⟨fi, hfi⟩ : ∃ fi, (a q2.out).first = fi := ⟨_, rfl⟩
          obtain ⟨la, hla⟩ : ∃ la, (a q2.out).last = la := ⟨_, rfl⟩
          have HOUT := Lib.hid (And.intro hout (And.intro hfi hla))
          rw [hout] at hO3 hm3
          rw [hout, hfi, hla] at haq
          rw [hfi, hla]
          have hln : out.length ≤ 900000 := by omega
          have hah : q2.ahead < out.length := by omega
          have hla2 : la < out.length := by omega
          subst hm3
          have HO3 := Lib.hid hO3
          have HB3 := Lib.hid (Go.Proofs.Ytibabfgfahlekaa.bel_then HBQ.out hb3)
          have HP3 := Lib.hid (Go.Proofs.Ytibabfgfahlekaa.own_below HOP.out hb3)
          clear haq hout hfi hla hO3 hb3 b5 b6
          go_wp2_with fail
          refine (rput_row out wr.heap.size A3 c3 (kSt 3 fi 0) _ (HO3.out.alloc _) (by omega)).mono ?_
          rintro e w3 ⟨A4, c4, rfl, hO4, hb4⟩
          have x2 : w3.cell? ⟨w2.heap.size, 2, none⟩ = some (.int .i64 la) := Go.Proofs.Ytibabfgfahlekaa.cell_below hb4 (by rw [cell_of_row _ _ 2 _ _ _ (heap_alloc_new w2 _)]; rfl)
          have hl3 : (out ++ [kSt 3 fi 0]).length = out.length + 1 := by rw [List.length_append]; rfl
          have hHP := HP3.out.alloc (.cells #[.slice A3 out.length c3, .int .i64 fi, .int .i64 la] 79)
          have hP4 := Go.Proofs.Ytibabfgfahlekaa.own_below hHP hb4
          have hb5 := Go.Proofs.Ytibabfgfahlekaa.bel_then (Go.Proofs.Ytibabfgfahlekaa.bel_alloc HB3.out _) hb4
          have hapart := Go.Proofs.Ytibabfgfahlekaa.own_type_ne hP4 hO4 (by decide)
          obtain ⟨g4, rfl, hg4, ⟨u1, hu1⟩, hf1, hs1, _⟩ := row_set hO4 hl3.symm q2.ahead (by omega) (out.length : Int)
          have hg5 : w2.heap.size + 1 ≤ g4 := by simpa using hg4
          have hne1 : ¬ g4 = w2.heap.size := by omega
          have hne2 : ¬ w2.heap.size = g4 := by omega
          have hW2 : W0.heap.size ≤ w2.heap.size := HB3.out.size
          have HP5 := Lib.hid (own_set_other hP4 ⟨g4, q2.ahead * 7 + 1, none⟩ (.int .i64 out.length) hapart)
          have HS5 := Lib.hid (Go.Proofs.Ytibabfgfahlekaa.own_mono hs1 (show W0.heap.size ≤ _ by simp; omega))
          have HB5 := Lib.hid (Below.setCell hb5 (p := ⟨g4, q2.ahead * 7 + 1, none⟩) (by simp; omega) (.int .i64 out.length))
          have hW5 : W0.heap.size ≤ (w3.setCell ⟨g4, q2.ahead * 7 + 1, none⟩ (.int .i64 out.length)).heap.size := HB5.out.size
          clear hO4 hb4 hHP hP4 hb5 hapart hs1 hl3 hg4
          go_wp2_with (at_builtin; refine app_lit0 rfl (.tmp 89) (.tmp 91) 52 rfl W0.heap.size 3 Try.underlying52 info_int rfl (by omega) (by omega) (.slice A5 0 c5) 0 _ rfl HP5.out [.int .i64 _] 1 1 (by simp [Act.eval]) rfl rfl (by omega) hW5 ?_; intro A6 c6 w5 hO6 hg6)
          have hs6 := HS5.out.kept hg6 (Go.Proofs.Ytibabfgfahlekaa.own_type_ne HS5.out HP5.out (by decide))
          have hb6 := Go.Proofs.Ytibabfgfahlekaa.bel_grown HB5.out HP5.out (Nat.le_refl _) hg6
          have HS6 := Lib.hid hs6
          have HB6 := Lib.hid hb6
          have HO6 := Lib.hid hO6
          clear hs6 hb6 hO6 hg6
          go_wp2_with fail
          go_roundw
          case rel =>
            have e1 : hiP a j sts (0 + 1) = hiS a q2 := by rw [← HQ2.out]; rfl
            have e2 : hiS a q2 = ⟨putA (out ++ [kSt 3 fi 0]) q2.ahead out.length, la, q2.splits ++ [out.length]⟩ := by
              unfold hiS
              rw [HOUT.out.1, HOUT.out.2.1, HOUT.out.2.2]
            refine ⟨0 + 1, j + 1, _, A6, c4, _, c6, rfl, by rw [e1, e2], rfl, by go_num, by have := HY.out; omega, by omega, ?_, ?_, ?_, HB6.out⟩
            · rw [e1, e2, putA_len, List.length_append]; rfl
            · rw [e1, e2]
              exact HS6.out
            · rw [e1, e2]
              have := HO6.out
              rw [show (Go.Proofs.Ytibabfgfahlekaa.ints (q2.splits.map Int.ofNat) ++ [.int .i64 (out.length : Int)]) = Go.Proofs.Ytibabfgfahlekaa.ints ((q2.splits ++ [out.length]).map Int.ofNat) by simp [Go.Proofs.Ytibabfgfahlekaa.ints]] at this
              exact this
          case measure => simp [intOf] <;> have := HY.out <;> omega
        · obtain rfl : i = 1 := by omega
          have hn9 : ¬ ((y : Int) < -1) := by omega
          have hn8 : ((y : Int) == (j : Int)) = false := by rw [beq_eq_false_iff_ne]; omega
          have hn7 : ¬ (y : Int) = (j : Int) := by omega
          obtain ⟨q2, hq2⟩ : ∃ q2, hiP a j sts 1 = q2 := ⟨_, rfl⟩
          rw [hq2] at hok HOK2 hOs hm2 HOP
          have HQ2 := Lib.hid hq2
          simp only [hq2]
          subst hm2
          have hmul : 1 * (n + 1) = 1 * n + 1 := Nat.mul_succ 1 n
          have hsz2 : q2.out.length ≤ 900000 := by rw [Nat.succ_mul] at hsz; rw [Int.toNat_natCast] at hok; omega
          have hah : q2.ahead < q2.out.length := hok.2.2.1
          have HOS := Lib.hid hOs
          clear hq2 hok hmul hOs hy
          go_wp2_with fail
          refine (rput_row q2.out W0.heap.size A2 c2 eSt wr HOS.out (by omega)).mono ?_
          rintro e w6 ⟨A7, c7, rfl, hO7, hb7⟩
          have hl7 : (q2.out ++ [eSt]).length = q2.out.length + 1 := by rw [List.length_append]; rfl
          have hP7 := Go.Proofs.Ytibabfgfahlekaa.own_below HOP.out hb7
          have hap := Go.Proofs.Ytibabfgfahlekaa.own_type_ne hP7 hO7 (by decide)
          have hW7 : W0.heap.size ≤ wr.heap.size := HBQ.out.size
          have b6' := Go.Proofs.Ytibabfgfahlekaa.cell_below hb7 b6
          have hB7 := Go.Proofs.Ytibabfgfahlekaa.bel_then HBQ.out hb7
          have HL7 := Lib.hid hl7
          have hN7 : N + 1 < wr.heap.size := by omega
          have hrw := (hB7.block (N + 1) (by omega)).trans HROW.out
          obtain ⟨g7, rfl, hg7, ⟨u1, hu1⟩, hf1, hs1, _⟩ := row_set hO7 hl7.symm q2.ahead (by omega) (q2.out.length : Int)
          have hnn1 : ¬ g7 = N := by omega
          have hnn2 : ¬ N = g7 := by omega
          have hnn3 : ¬ g7 = N + 1 := by omega
          have hnn4 : ¬ N + 1 = g7 := by omega
          obtain ⟨gs, caps, hvs, hgs, hlts⟩ := hP7.form (by omega)
          injection hvs with hA5 _ hc5
          subst hA5
          subst hc5
          obtain ⟨v, hv⟩ : ∃ v : Nat, q2.splits = [v] := by
            have := HOK2.out.2.2.2.1
            match q2.splits, this with
            | [v], _ => exact ⟨v, rfl⟩
          have hx0 := hP7.cellAt 0 (by simp [Go.Proofs.Ytibabfgfahlekaa.ints, hv])
          have x0 : w6.cell? ⟨gs, 0, none⟩ = some (.int .i64 v) := by rw [hx0]; simp [Go.Proofs.Ytibabfgfahlekaa.ints, hv]
          have hng : ¬ gs = g7 := fun e => by rcases hap with k | k <;> simp [Value.ownBlock] at k; exact k e
          have hng2 : ¬ g7 = gs := fun e => hng e.symm
          have HV := Lib.hid hv
          clear hv hx0
          have HP8 := Lib.hid (own_set_other hP7 ⟨g7, q2.ahead * 7 + 1, none⟩ (.int .i64 q2.out.length) hap)
          have HS8 := Lib.hid (Go.Proofs.Ytibabfgfahlekaa.own_mono hs1 hW7)
          have HB8 := Lib.hid (Below.setCell hB7 (p := ⟨g7, q2.ahead * 7 + 1, none⟩) (by simp; omega) (.int .i64 q2.out.length))
          have HRW := Lib.hid ((heap_setCell_other w6 ⟨g7, q2.ahead * 7 + 1, none⟩ (N + 1) (.int .i64 q2.out.length) hnn4).trans hrw)
          clear hO7 hb7 hP7 hB7 hs1 hrw hl7 b5 b6 hap hW7
          go_wp2_with fail
          obtain ⟨g9, hg9, _, _, _, hs9, _⟩ := row_set HS8.out (by rw [putA_len, HL7.out]) q2.ahead (by rw [putA_len, HL7.out]; omega) (v : Int)
          obtain rfl : g7 = g9 := by injection hg9 with hg9; injection hg9
          obtain ⟨o8, ho8⟩ : ∃ o8, putA (q2.out ++ [eSt]) q2.ahead v = o8 := ⟨_, rfl⟩
          rw [putA_putA, ho8] at hs9
          have HS9 := Lib.hid hs9
          have HP9 := Lib.hid (own_set_other HP8.out ⟨g7, q2.ahead * 7 + 1, none⟩ (.int .i64 v) (Go.Proofs.Ytibabfgfahlekaa.own_type_ne HP8.out HS8.out (by decide)))
          have HB9 := Lib.hid (Below.setCell HB8.out (p := ⟨g7, q2.ahead * 7 + 1, none⟩) (by simp; omega) (.int .i64 v))
          have x0_ := hu1
          clear hs9 hg9 x0 hng hng2
          generalize (⟨gs, 0, none⟩ : Addr) = ad5 at *
          have hl8 : o8.length = q2.out.length + 1 := by rw [← ho8]; rw [putA_len]; exact HL7.out
          have HE8 := Lib.hid ho8
          have HL8 := Lib.hid hl8
          obtain ⟨sp, hsp⟩ : ∃ sp, q2.splits = sp := ⟨_, rfl⟩
          have hspl : sp.length = 1 := by rw [← hsp]; exact HOK2.out.2.2.2.1
          have hspm : ∀ x ∈ sp, x < o8.length := by
            rw [← hsp, HL8.out]
            intro x hx
            have := HOK2.out.2.2.2.2 x hx
            omega
          rw [hsp] at HP9
          have HSP := Lib.hid hsp
          have HSPM := Lib.hid hspm
          clear ho8 hl8 hsp hspm x0_
          go_loopw [21] (fun ct wq => ∃ (y9 : Nat), ct = .int .i64 y9 ∧ y9 ≤ sp.length ∧ wq.ownsRow W0.heap.size 72 7 (.slice (some ⟨g7, 0, none⟩) (q2.out.length + 1) c7) (q2.out.length + 1) ((putBs ((q2.out.length : Nat) : Int) o8 (sp.take y9)).flatMap stCells) ∧ wq.ownsRow W0.heap.size 3 1 (.slice (some ad5) 1 c5) 1 (Go.Proofs.Ytibabfgfahlekaa.ints (sp.map Int.ofNat)) ∧ Below W0.heap.size W0 wq) (fun ct _ => sp.length - (intOf ct).toNat)
          case atStart => exact ⟨0, rfl, by omega, HS9.out, HP9.out, HB9.out⟩
          case round =>
            obtain ⟨i9, rfl, hi9, hSq, hPq, hBq⟩ := hrel
            by_cases hlt : i9 < 1
            · obtain ⟨ad1, x9, hA9, hx9, cx9⟩ := (Go.Proofs.Ytibabfgfahlekaa.Reads.of_own hPq).int hlt
              have hil : i9 < sp.length := by omega
              obtain rfl : (sp[i9] : Int) = x9 := by simpa [hil] using hx9
              obtain rfl : ad5 = ad1 := by injection hA9
              have hm9 := HSPM.out _ (List.getElem_mem hil)
              rw [HL8.out] at hm9
              have htk : putB (putBs ((q2.out.length : Nat) : Int) o8 (sp.take i9)) sp[i9] ((q2.out.length : Nat) : Int) = putBs ((q2.out.length : Nat) : Int) o8 (sp.take (i9 + 1)) := by
                rw [List.take_succ_eq_append_getElem hil, putBs_snoc]
              obtain ⟨g9, hg9, hgb, _, _, _, ⟨u2, hu2⟩, hf2, hs2⟩ := row_set hSq (by rw [putBs_len, HL8.out]) sp[i9] (by rw [putBs_len, HL8.out]; exact hm9) ((q2.out.length : Nat) : Int)
              obtain rfl : g7 = g9 := by injection hg9 with hg9; injection hg9
              rw [htk] at hs2
              have hap9 := Go.Proofs.Ytibabfgfahlekaa.own_type_ne hPq hSq (by decide)
              have HS10 := Lib.hid hs2
              have HP10 := Lib.hid (own_set_other hPq ⟨g7, sp[i9] * 7 + 2, none⟩ (.int .i64 q2.out.length) hap9)
              have HB10 := Lib.hid (Below.setCell hBq (p := ⟨g7, sp[i9] * 7 + 2, none⟩) (by simp; omega) (.int .i64 q2.out.length))
              generalize sp[i9] = xi at *
              clear hx9 htk hs2 hap9 hSq hPq hBq hg9
              go_wp2_with fail
              go_roundw
              case rel =>
                try simp only [add_plain]
                exact ⟨i9 + 1, by go_num, by omega, HS10.out, HP10.out, HB10.out⟩
              case measure => simp [intOf] <;> omega
            · have hi2 : sp.take i9 = sp := List.take_of_length_le (by omega)
              rw [hi2] at hSq
              have hrw := (hBq.block (N + 1) (by omega)).trans HROW.out
              have q0 : wr.cell? ⟨N + 1, 0, none⟩ = some (.slice none 0 0) := by rw [cell_of_row wr _ 0 _ _ _ hrw]; rfl
              have q1 : wr.cell? ⟨N + 1, 1, none⟩ = some (.int .i64 0) := by rw [cell_of_row wr _ 1 _ _ _ hrw]; rfl
              have q2' : wr.cell? ⟨N + 1, 2, none⟩ = some (.int .i64 0) := by rw [cell_of_row wr _ 2 _ _ _ hrw]; rfl
              have k0 := frozen_of_row wr _ 0 _ _ hrw
              have k1 := frozen_of_row wr _ 1 _ _ hrw
              have k2 := frozen_of_row wr _ 2 _ _ hrw
              have HSQ := Lib.hid (Go.Proofs.Ytibabfgfahlekaa.own_mono hSq (show N + 2 ≤ W0.heap.size by omega))
              have HBB := Lib.hid (HBW.out.trans (hBq.mono (by omega)))
              clear hrw hSq hPq hBq
              go_wp2_with fail
              have hR := HR.out
              have hrep : repM (j : Int) (-1) a sts = ⟨putBs ((q2.out.length : Nat) : Int) o8 sp, sts.length, q2.out.length⟩ := by
                unfold repM
                rw [if_pos (by decide), Int.toNat_natCast, HQ.out]
                have e1 : hiS a q = q2 := by rw [← HQ2.out, ← HQ.out]; rfl
                have e2 : (a q.out).out.length = v := by
                  have h2 := congrArg Lp.splits e1
                  unfold hiS at h2
                  simp only [HOK.out.2.2.2, List.nil_append, HV.out] at h2
                  simpa using h2
                rw [e1, e2]
                unfold endM
                simp only [HE8.out, HSP.out]
              rw [hrep] at hR
              subst hR
              refine bodyPost_ret (v := .agg #[.slice (some ⟨g7, 0, none⟩) (q2.out.length + 1) c7, .int .i64 sts.length, .int .i64 q2.out.length]) (by simp [results, Try.results61, go_sem, q0, q1, q2', k0, k1, k2, Try.underlying79]) rfl ⟨_, c7, _, rfl, by rw [putBs_len, HL8.out], ?_, ?_⟩
              · exact Go.Proofs.Ytibabfgfahlekaa.own_mono (ownsRow_setCell_below (ownsRow_setCell_below (ownsRow_setCell_below HSQ.out (by simp) _) (by simp) _) (by simp) _) (by omega)
              · have hBB := HBB.out
                rw [← hN] at hBB
                repeat refine Below.setCell ?_ (by simp; omega) _
                exact hBB
set_option maxRecDepth 100000 in
set_option maxHeartbeats 6400000 in
theorem rr_pos (L : Value) (k : Nat) (a : PMk) (n : Nat) (ha : Ok a n) (w00 : World) (kd : Int) (s0 s1 s2 s3 lo m H : Nat) (hH : H = lo + m) (hC : 0 < H → MakeC L k a n w00) (hlo : lo ≤ 32) (hm : m ≤ 32) (w : World) (sts : List St) (A : Option Addr) (c : Nat) (hr : Kd.C k72 w A sts.length sts) (hc : sts.length ≤ c) (h0 : Below w00.heap.size w00 w) (hsz : sts.length + (2 + H * n + m) ≤ 900000) :
    Calls Try.prog 61 #[L, .agg #[.int .i64 kd, .int .u64 s0, .int .u64 s1, .int .u64 s2, .int .u64 s3, .int .i64 lo, .int .i64 (H : Int)], .int .i64 k, .slice A sts.length c] w fun e w' => ∃ A1 c1 m1, e = .returned (.agg #[.slice A1 m1 c1, .int .i64 (repM lo (H : Int) a sts).first, .int .i64 (repM lo (H : Int) a sts).last]) ∧ m1 = (repM lo (H : Int) a sts).out.length ∧ w'.ownsRow w.heap.size 72 7 (.slice A1 m1 c1) m1 ((repM lo (H : Int) a sts).out.flatMap stCells) ∧ Below w.heap.size w w' := by
  obtain ⟨R, hR⟩ : ∃ R, repM lo (H : Int) a sts = R := ⟨_, rfl⟩
  rw [hR]
  have HR := Lib.hid hR
  have HC := Lib.hid hC
  have HRD := Lib.hid hr
  have H0 := Lib.hid h0
  have HH := Lib.hid hH
  have hHn : H * n = lo * n + m * n := by rw [hH, Nat.add_mul]
  have HHN := Lib.hid hHn
  have hneg : ¬ ((H : Int) = -1) := by omega
  have hneg2 : ((H : Int) == -1) = false := by rw [beq_eq_false_iff_ne]; omega
  clear hH hHn
  clear hR hC hr h0
  go_enter Try.func61, Try.ntmps61
  go_wp2_with fail
  refine (rput_any sts A c ⟨2, 0, 0, ⟨0, 0, 0, 0⟩⟩ _ (Kd.C_alloc (Kd.C_alloc HRD.out _) _) hc (by omega)).mono ?_
  rintro e w1 ⟨A1, c1, rfl, hO1, hb1⟩
  have n5 : ((w.alloc (.cells #[.int .i64 kd, .int .u64 s0, .int .u64 s1, .int .u64 s2, .int .u64 s3, .int .i64 lo, .int .i64 (H : Int)] 63)).alloc (.cells #[.slice none 0 0, .int .i64 0, .int .i64 0] 79)).cell? ⟨w.heap.size, 5, none⟩ = some (.int .i64 lo) := Go.Proofs.Ytibabfgfahlekaa.cell_alloc (by rw [cell_of_row _ _ 5 _ _ _ (heap_alloc_new w _)]; rfl) _
  have n6 : ((w.alloc (.cells #[.int .i64 kd, .int .u64 s0, .int .u64 s1, .int .u64 s2, .int .u64 s3, .int .i64 lo, .int .i64 (H : Int)] 63)).alloc (.cells #[.slice none 0 0, .int .i64 0, .int .i64 0] 79)).cell? ⟨w.heap.size, 6, none⟩ = some (.int .i64 (H : Int)) := Go.Proofs.Ytibabfgfahlekaa.cell_alloc (by rw [cell_of_row _ _ 6 _ _ _ (heap_alloc_new w _)]; rfl) _
  have hrow : ((w.alloc (.cells #[.int .i64 kd, .int .u64 s0, .int .u64 s1, .int .u64 s2, .int .u64 s3, .int .i64 lo, .int .i64 (H : Int)] 63)).alloc (.cells #[.slice none 0 0, .int .i64 0, .int .i64 0] 79)).heap[w.heap.size + 1]? = some (.cells #[.slice none 0 0, .int .i64 0, .int .i64 0] 79) := by
    have := heap_alloc_new (w.alloc (.cells #[.int .i64 kd, .int .u64 s0, .int .u64 s1, .int .u64 s2, .int .u64 s3, .int .i64 lo, .int .i64 (H : Int)] 63)) (.cells #[.slice none 0 0, .int .i64 0, .int .i64 0] 79)
    rwa [show (w.alloc (.cells #[.int .i64 kd, .int .u64 s0, .int .u64 s1, .int .u64 s2, .int .u64 s3, .int .i64 lo, .int .i64 (H : Int)] 63)).heap.size = w.heap.size + 1 by simp] at this
  have hbW : Below w.heap.size w ((w.alloc (.cells #[.int .i64 kd, .int .u64 s0, .int .u64 s1, .int .u64 s2, .int .u64 s3, .int .i64 lo, .int .i64 (H : Int)] 63)).alloc (.cells #[.slice none 0 0, .int .i64 0, .int .i64 0] 79)) := Go.Proofs.Ytibabfgfahlekaa.bel_alloc (Go.Proofs.Ytibabfgfahlekaa.bel_alloc (Below.refl _ _) _) _
  have hWs : ((w.alloc (.cells #[.int .i64 kd, .int .u64 s0, .int .u64 s1, .int .u64 s2, .int .u64 s3, .int .i64 lo, .int .i64 (H : Int)] 63)).alloc (.cells #[.slice none 0 0, .int .i64 0, .int .i64 0] 79)).heap.size = w.heap.size + 2 := by simp
  generalize (w.alloc (.cells #[.int .i64 kd, .int .u64 s0, .int .u64 s1, .int .u64 s2, .int .u64 s3, .int .i64 lo, .int .i64 (H : Int)] 63)).alloc (.cells #[.slice none 0 0, .int .i64 0, .int .i64 0] 79) = W0 at *
  have HO1 := Lib.hid hO1
  have HB1 := Lib.hid hb1
  have HROW := Lib.hid hrow
  have HBW := Lib.hid hbW
  have HWS := Lib.hid hWs
  have hz1 : w.heap.size < W0.heap.size := by omega
  have hz2 : w.heap.size + 1 < W0.heap.size := by omega
  clear hO1 hb1 hrow hbW hWs
  generalize hN : w.heap.size = N at *
  have N5 := Lib.hid n5
  have N6 := Lib.hid n6
  have b5 := Go.Proofs.Ytibabfgfahlekaa.cell_below HB1.out n5
  have b6 := Go.Proofs.Ytibabfgfahlekaa.cell_below HB1.out n6
  clear n5 n6
  go_wp2_with fail
  go_loopw [9, 11, 12] (fun tv ah ct wr => ∃ (j : Nat) (A1 : Option Addr) (c1 m1 : Nat), tv = .slice A1 m1 c1 ∧ ah = .int .i64 (loP a lo sts j).ahead ∧ ct = .int .i64 j ∧ j ≤ lo ∧ m1 = (loP a lo sts j).out.length ∧ wr.ownsRow W0.heap.size 72 7 (.slice A1 m1 c1) m1 ((loP a lo sts j).out.flatMap stCells) ∧ Below W0.heap.size W0 wr) (fun _ _ ct _ => lo - (intOf ct).toNat)
  case atStart => exact ⟨0, A1, c1, _, rfl, rfl, rfl, by omega, by simp [loP, iter], HO1.out, HB1.out⟩
  case round =>
    clear b5 b6
    obtain ⟨j, A2, c2, m1, rfl, rfl, rfl, hj, hm1, hOk, hbk⟩ := hrel
    have hok := loP_ok ha lo sts j
    have HOK := Lib.hid hok
    have b5 := Go.Proofs.Ytibabfgfahlekaa.cell_below hbk N5.out
    have b6 := Go.Proofs.Ytibabfgfahlekaa.cell_below hbk N6.out
    have HBK := Lib.hid hbk
    by_cases hlt : j < lo
    · have hmul : (j + 1) * n ≤ lo * n := Nat.mul_le_mul_right n (by omega)
      rw [Nat.succ_mul] at hmul
      have hsz2 : (loP a lo sts j).out.length + n ≤ 900000 := by have := HHN.out; omega
      obtain ⟨q, hq⟩ : ∃ q, loP a lo sts j = q := ⟨_, rfl⟩
      rw [hq] at hsz2 hok HOK hOk hm1
      have HQ := Lib.hid hq
      simp only [hq]
      subst hm1
      obtain ⟨hcc, hKC⟩ := C_of_row hOk
      have HKC := Lib.hid hKC
      clear hq hmul hok hKC hOk
      go_wp2_with fail
      refine (HC.out (by have := HH.out; omega) wr q.out A2 c2 HKC.out hcc (H0.out.trans (HBW.out.trans (HBK.out.mono (by omega)) |>.mono (by have := H0.out.size; omega))) hsz2).mono ?_
      rintro e w2 ⟨A3, c3, m3, rfl, hm3, hO3, hb3⟩
      have haq := ha q.out
      obtain ⟨out, hout⟩ : ∃ out, (a q.out).out = out := ⟨_, rfl⟩
      obtain ⟨fi, hfi⟩ : ∃ fi, (a q.out).first = fi := ⟨_, rfl⟩
      obtain ⟨la, hla⟩ : ∃ la, (a q.out).last = la := ⟨_, rfl⟩
      have HOUT := Lib.hid (And.intro hout (And.intro hfi hla))
      rw [hout] at hO3 hm3
      rw [hout, hfi, hla] at haq
      rw [hfi, hla]
      have hln : out.length ≤ 900000 := by omega
      have hah : q.ahead < out.length := by have := HOK.out; omega
      have hla2 : la < out.length := by omega
      subst hm3
      obtain ⟨g3, rfl, hg3, ⟨u1, hu1⟩, hf1, hs1, _⟩ := row_set hO3 rfl q.ahead hah (fi : Int)
      have hlt3 : g3 < w2.heap.size := World.block_lt_of_cell? w2 _ hu1
      have hne1 : ¬ g3 = w2.heap.size := by omega
      have hne2 : ¬ w2.heap.size = g3 := by omega
      have hWr : W0.heap.size ≤ wr.heap.size := HBK.out.size
      have HS1 := Lib.hid (Go.Proofs.Ytibabfgfahlekaa.own_mono hs1 hWr)
      have HB3 := Lib.hid (Go.Proofs.Ytibabfgfahlekaa.bel_then HBK.out hb3)
      clear haq hout hfi hla hs1 hO3 hb3 b5 b6
      go_wp2_with fail
      go_roundw
      case rel =>
        have e1 : loP a lo sts (j + 1) = loS a q := by rw [← HQ.out]; rfl
        have e2 : loS a q = ⟨putA out q.ahead fi, la, q.splits⟩ := by unfold loS; rw [HOUT.out.1, HOUT.out.2.1, HOUT.out.2.2]
        try simp only [add_plain]
        refine ⟨j + 1, _, c3, _, rfl, by rw [e1, e2], by go_num, by omega, ?_, ?_, ?_⟩
        · rw [e1, e2, putA_len]
        · rw [e1, e2]
          exact HS1.out.alloc _
        · exact (HB3.out.setCell (by simp; omega) _).alloc (by simp; exact Nat.le_trans HBK.out.size (Nat.le_refl _) |> fun h => by have := HB3.out.size; omega) _
      case measure => simp [intOf] <;> omega
    · obtain rfl : j = lo := by omega
      obtain ⟨q, hq⟩ : ∃ q, loP a j sts j = q := ⟨_, rfl⟩
      rw [hq] at hok HOK hOk hm1
      have HQ := Lib.hid hq
      simp only [hq]
      subst hm1
      have HOk := Lib.hid hOk
      clear hq hok hOk
      go_wp2_with fail
      go_loopw [9, 11, 14, 15] (fun tv ah sv ct wq => ∃ (i y : Nat) (A2 A5 : Option Addr) (c2 m2 c5 : Nat), tv = .slice A2 m2 c2 ∧ ah = .int .i64 (hiP a j sts i).ahead ∧ sv = .slice A5 i c5 ∧ ct = .int .i64 y ∧ y = j + i ∧ i ≤ m ∧ m2 = (hiP a j sts i).out.length ∧ wq.ownsRow W0.heap.size 72 7 (.slice A2 m2 c2) m2 ((hiP a j sts i).out.flatMap stCells) ∧ wq.ownsRow W0.heap.size 3 1 (.slice A5 i c5) i (Go.Proofs.Ytibabfgfahlekaa.ints ((hiP a j sts i).splits.map Int.ofNat)) ∧ Below W0.heap.size W0 wq) (fun _ _ _ ct _ => j + m - (intOf ct).toNat)
      case atStart =>
        have e0 : hiP a j sts 0 = q := by rw [← HQ.out]; rfl
        refine ⟨0, j, A2, none, c2, _, 0, rfl, by rw [e0], rfl, rfl, by omega, by omega, by rw [e0], by rw [e0]; exact HOk.out, ?_, HBK.out⟩
        rw [e0, HOK.out.2.2.2]
        exact World.ownsRow_nil _ _ _ _
      case round =>
        clear b5 b6
        obtain ⟨i, y, A2, A5, c2, m2, c5, rfl, rfl, rfl, rfl, hy, hi, hm2, hOs, hOp, hbq⟩ := hrel
        have hok := hiP_ok ha j sts i
        have HOK2 := Lib.hid hok
        have b5 := Go.Proofs.Ytibabfgfahlekaa.cell_below hbq N5.out
        have b6 := Go.Proofs.Ytibabfgfahlekaa.cell_below hbq N6.out
        have HBQ := Lib.hid hbq
        have HOP := Lib.hid hOp
        have HY := Lib.hid hy
        clear hOp hbq
        by_cases hlt : i < m
        · have hmul : (i + 1) * (n + 1) ≤ m * (n + 1) := Nat.mul_le_mul_right (n + 1) (by omega)
          rw [Nat.succ_mul, Nat.mul_succ m n] at hmul
          have hsz2 : (hiP a j sts i).out.length + n + 1 ≤ 900000 := by have := HHN.out; rw [Int.toNat_natCast] at hok; omega
          obtain ⟨q2, hq2⟩ : ∃ q2, hiP a j sts i = q2 := ⟨_, rfl⟩
          rw [hq2] at hsz2 hok HOK2 hOs hm2 HOP
          have HQ2 := Lib.hid hq2
          simp only [hq2]
          subst hm2
          obtain ⟨hcc, hKC⟩ := C_of_row hOs
          have HKC := Lib.hid hKC
          have hah0 : q2.ahead < q2.out.length := hok.2.2.1
          have hyH : y < H := by have := HH.out; omega
          have hyb : y ≤ 64 := by omega
          clear hq2 hmul hok hKC hOs hy
          go_wp2_with fail
          refine (HC.out (by have := HH.out; omega) wr q2.out A2 c2 HKC.out hcc (H0.out.trans (HBW.out.trans (HBQ.out.mono (by omega)) |>.mono (by have := H0.out.size; omega))) (by omega)).mono ?_
          rintro e w2 ⟨A3, c3, m3, rfl, hm3, hO3, hb3⟩
          have haq := ha q2.out
          obtain ⟨out, hout⟩ : ∃ out, (a q2.out).out = out := ⟨_, rfl⟩
          obtain ⟨fi, hfi⟩ : ∃ fi, (a q2.out).first = fi := ⟨_, rfl⟩
          obtain ⟨la, hla⟩ : ∃ la, (a q2.out).last = la := ⟨_, rfl⟩
          have HOUT := Lib.hid (And.intro hout (And.intro hfi hla))
          rw [hout] at hO3 hm3
          rw [hout, hfi, hla] at haq
          rw [hfi, hla]
          have hln : out.length ≤ 900000 := by omega
          have hah : q2.ahead < out.length := by omega
          have hla2 : la < out.length := by omega
          subst hm3
          have HO3 := Lib.hid hO3
          have HB3 := Lib.hid (Go.Proofs.Ytibabfgfahlekaa.bel_then HBQ.out hb3)
          have HP3 := Lib.hid (Go.Proofs.Ytibabfgfahlekaa.own_below HOP.out hb3)
          clear haq hout hfi hla hO3 hb3 b5 b6
          go_wp2_with fail
          refine (rput_row out wr.heap.size A3 c3 (kSt 3 fi 0) _ (HO3.out.alloc _) (by omega)).mono ?_
          rintro e w3 ⟨A4, c4, rfl, hO4, hb4⟩
          have x2 : w3.cell? ⟨w2.heap.size, 2, none⟩ = some (.int .i64 la) := Go.Proofs.Ytibabfgfahlekaa.cell_below hb4 (by rw [cell_of_row _ _ 2 _ _ _ (heap_alloc_new w2 _)]; rfl)
          have hl3 : (out ++ [kSt 3 fi 0]).length = out.length + 1 := by rw [List.length_append]; rfl
          have hHP := HP3.out.alloc (.cells #[.slice A3 out.length c3, .int .i64 fi, .int .i64 la] 79)
          have hP4 := Go.Proofs.Ytibabfgfahlekaa.own_below hHP hb4
          have hb5 := Go.Proofs.Ytibabfgfahlekaa.bel_then (Go.Proofs.Ytibabfgfahlekaa.bel_alloc HB3.out _) hb4
          have hapart := Go.Proofs.Ytibabfgfahlekaa.own_type_ne hP4 hO4 (by decide)
          obtain ⟨g4, rfl, hg4, ⟨u1, hu1⟩, hf1, hs1, _⟩ := row_set hO4 hl3.symm q2.ahead (by omega) (out.length : Int)
          have hg5 : w2.heap.size + 1 ≤ g4 := by simpa using hg4
          have hne1 : ¬ g4 = w2.heap.size := by omega
          have hne2 : ¬ w2.heap.size = g4 := by omega
          have hW2 : W0.heap.size ≤ w2.heap.size := HB3.out.size
          have HP5 := Lib.hid (own_set_other hP4 ⟨g4, q2.ahead * 7 + 1, none⟩ (.int .i64 out.length) hapart)
          have HS5 := Lib.hid (Go.Proofs.Ytibabfgfahlekaa.own_mono hs1 (show W0.heap.size ≤ _ by simp; omega))
          have HB5 := Lib.hid (Below.setCell hb5 (p := ⟨g4, q2.ahead * 7 + 1, none⟩) (by simp; omega) (.int .i64 out.length))
          have hW5 : W0.heap.size ≤ (w3.setCell ⟨g4, q2.ahead * 7 + 1, none⟩ (.int .i64 out.length)).heap.size := HB5.out.size
          clear hO4 hb4 hHP hP4 hb5 hapart hs1 hl3 hg4
          go_wp2_with (at_builtin; refine app_lit0 rfl (.tmp 89) (.tmp 91) 52 rfl W0.heap.size 3 Try.underlying52 info_int rfl (by omega) (by omega) (.slice A5 i c5) i _ rfl HP5.out [.int .i64 _] 1 1 (by simp [Act.eval]) rfl rfl (by omega) hW5 ?_; intro A6 c6 w5 hO6 hg6)
          have hs6 := HS5.out.kept hg6 (Go.Proofs.Ytibabfgfahlekaa.own_type_ne HS5.out HP5.out (by decide))
          have hb6 := Go.Proofs.Ytibabfgfahlekaa.bel_grown HB5.out HP5.out (Nat.le_refl _) hg6
          have HS6 := Lib.hid hs6
          have HB6 := Lib.hid hb6
          have HO6 := Lib.hid hO6
          clear hs6 hb6 hO6 hg6
          go_wp2_with fail
          go_roundw
          case rel =>
            have e1 : hiP a j sts (i + 1) = hiS a q2 := by rw [← HQ2.out]; rfl
            have e2 : hiS a q2 = ⟨putA (out ++ [kSt 3 fi 0]) q2.ahead out.length, la, q2.splits ++ [out.length]⟩ := by
              unfold hiS
              rw [HOUT.out.1, HOUT.out.2.1, HOUT.out.2.2]
            refine ⟨i + 1, y + 1, _, A6, c4, _, c6, rfl, by rw [e1, e2], rfl, by go_num, by have := HY.out; omega, by omega, ?_, ?_, ?_, HB6.out⟩
            · rw [e1, e2, putA_len, List.length_append]; rfl
            · rw [e1, e2]
              exact HS6.out
            · rw [e1, e2]
              have := HO6.out
              rw [show (Go.Proofs.Ytibabfgfahlekaa.ints (q2.splits.map Int.ofNat) ++ [.int .i64 (out.length : Int)]) = Go.Proofs.Ytibabfgfahlekaa.ints ((q2.splits ++ [out.length]).map Int.ofNat) by simp [Go.Proofs.Ytibabfgfahlekaa.ints]] at this
              exact this
          case measure => simp [intOf] <;> have := HY.out <;> omega
        · obtain rfl : i = m := by omega
          have hyH : ¬ (y < H) := by have := HH.out; omega
          obtain ⟨q2, hq2⟩ : ∃ q2, hiP a j sts i = q2 := ⟨_, rfl⟩
          rw [hq2] at hok HOK2 hOs hm2 HOP
          have HQ2 := Lib.hid hq2
          simp only [hq2]
          subst hm2
          have hmul : i * (n + 1) = i * n + i := Nat.mul_succ i n
          have hsz2 : q2.out.length ≤ 900000 := by have := HHN.out; rw [Int.toNat_natCast] at hok; omega
          have hah : q2.ahead < q2.out.length := hok.2.2.1
          have HOS := Lib.hid hOs
          clear hq2 hok hmul hOs hy
          go_wp2_with fail
          refine (rput_row q2.out W0.heap.size A2 c2 eSt wr HOS.out (by omega)).mono ?_
          rintro e w6 ⟨A7, c7, rfl, hO7, hb7⟩
          have hl7 : (q2.out ++ [eSt]).length = q2.out.length + 1 := by rw [List.length_append]; rfl
          have hP7 := Go.Proofs.Ytibabfgfahlekaa.own_below HOP.out hb7
          have hap := Go.Proofs.Ytibabfgfahlekaa.own_type_ne hP7 hO7 (by decide)
          have hW7 : W0.heap.size ≤ wr.heap.size := HBQ.out.size
          have b6' := Go.Proofs.Ytibabfgfahlekaa.cell_below hb7 b6
          have hB7 := Go.Proofs.Ytibabfgfahlekaa.bel_then HBQ.out hb7
          have HL7 := Lib.hid hl7
          have hN7 : N + 1 < wr.heap.size := by omega
          have hrw := (hB7.block (N + 1) (by omega)).trans HROW.out
          obtain ⟨g7, rfl, hg7, ⟨u1, hu1⟩, hf1, hs1, _⟩ := row_set hO7 hl7.symm q2.ahead (by omega) (q2.out.length : Int)
          have hnn1 : ¬ g7 = N := by omega
          have hnn2 : ¬ N = g7 := by omega
          have hnn3 : ¬ g7 = N + 1 := by omega
          have hnn4 : ¬ N + 1 = g7 := by omega

          have HP8 := Lib.hid (own_set_other hP7 ⟨g7, q2.ahead * 7 + 1, none⟩ (.int .i64 q2.out.length) hap)
          have HS8 := Lib.hid (Go.Proofs.Ytibabfgfahlekaa.own_mono hs1 hW7)
          have HB8 := Lib.hid (Below.setCell hB7 (p := ⟨g7, q2.ahead * 7 + 1, none⟩) (by simp; omega) (.int .i64 q2.out.length))
          have HRW := Lib.hid ((heap_setCell_other w6 ⟨g7, q2.ahead * 7 + 1, none⟩ (N + 1) (.int .i64 q2.out.length) hnn4).trans hrw)
          clear hO7 hb7 hP7 hB7 hs1 hrw hl7 b5 b6 hap hW7
          go_wp2_with fail
          obtain ⟨o8, ho8⟩ : ∃ o8, putA (q2.out ++ [eSt]) q2.ahead q2.out.length = o8 := ⟨_, rfl⟩
          rw [ho8] at HS8
          have HS9 := HS8
          have HP9 := HP8
          have HB9 := HB8
          have x0_ := hu1
          have hl8 : o8.length = q2.out.length + 1 := by rw [← ho8]; rw [putA_len]; exact HL7.out
          have HE8 := Lib.hid ho8
          have HL8 := Lib.hid hl8
          obtain ⟨sp, hsp⟩ : ∃ sp, q2.splits = sp := ⟨_, rfl⟩
          have hspl : sp.length = i := by rw [← hsp]; exact HOK2.out.2.2.2.1
          have hspm : ∀ x ∈ sp, x < o8.length := by
            rw [← hsp, HL8.out]
            intro x hx
            have := HOK2.out.2.2.2.2 x hx
            omega
          rw [hsp] at HP9
          have HSP := Lib.hid hsp
          have HSPM := Lib.hid hspm
          clear ho8 hl8 hsp hspm x0_
          go_loopw [21] (fun ct wq => ∃ (y9 : Nat), ct = .int .i64 y9 ∧ y9 ≤ sp.length ∧ wq.ownsRow W0.heap.size 72 7 (.slice (some ⟨g7, 0, none⟩) (q2.out.length + 1) c7) (q2.out.length + 1) ((putBs ((q2.out.length : Nat) : Int) o8 (sp.take y9)).flatMap stCells) ∧ wq.ownsRow W0.heap.size 3 1 (.slice A5 i c5) i (Go.Proofs.Ytibabfgfahlekaa.ints (sp.map Int.ofNat)) ∧ Below W0.heap.size W0 wq) (fun ct _ => sp.length - (intOf ct).toNat)
          case atStart => exact ⟨0, rfl, by omega, HS9.out, HP9.out, HB9.out⟩
          case round =>
            obtain ⟨i9, rfl, hi9, hSq, hPq, hBq⟩ := hrel
            by_cases hlt : i9 < i
            · obtain ⟨ad1, x9, hA9, hx9, cx9⟩ := (Go.Proofs.Ytibabfgfahlekaa.Reads.of_own hPq).int hlt
              have hil : i9 < sp.length := by omega
              obtain rfl : (sp[i9] : Int) = x9 := by simpa [hil] using hx9
              subst hA9
              have hm9 := HSPM.out _ (List.getElem_mem hil)
              rw [HL8.out] at hm9
              have htk : putB (putBs ((q2.out.length : Nat) : Int) o8 (sp.take i9)) sp[i9] ((q2.out.length : Nat) : Int) = putBs ((q2.out.length : Nat) : Int) o8 (sp.take (i9 + 1)) := by
                rw [List.take_succ_eq_append_getElem hil, putBs_snoc]
              obtain ⟨g9, hg9, hgb, _, _, _, ⟨u2, hu2⟩, hf2, hs2⟩ := row_set hSq (by rw [putBs_len, HL8.out]) sp[i9] (by rw [putBs_len, HL8.out]; exact hm9) ((q2.out.length : Nat) : Int)
              obtain rfl : g7 = g9 := by injection hg9 with hg9; injection hg9
              rw [htk] at hs2
              have hap9 := Go.Proofs.Ytibabfgfahlekaa.own_type_ne hPq hSq (by decide)
              have HS10 := Lib.hid hs2
              have HP10 := Lib.hid (own_set_other hPq ⟨g7, sp[i9] * 7 + 2, none⟩ (.int .i64 q2.out.length) hap9)
              have HB10 := Lib.hid (Below.setCell hBq (p := ⟨g7, sp[i9] * 7 + 2, none⟩) (by simp; omega) (.int .i64 q2.out.length))
              generalize sp[i9] = xi at *
              clear hx9 htk hs2 hap9 hSq hPq hBq hg9
              go_wp2_with fail
              go_roundw
              case rel =>
                try simp only [add_plain]
                exact ⟨i9 + 1, by go_num, by omega, HS10.out, HP10.out, HB10.out⟩
              case measure => simp [intOf] <;> omega
            · have hi2 : sp.take i9 = sp := List.take_of_length_le (by omega)
              rw [hi2] at hSq
              have hrw := (hBq.block (N + 1) (by omega)).trans HROW.out
              have q0 : wr.cell? ⟨N + 1, 0, none⟩ = some (.slice none 0 0) := by rw [cell_of_row wr _ 0 _ _ _ hrw]; rfl
              have q1 : wr.cell? ⟨N + 1, 1, none⟩ = some (.int .i64 0) := by rw [cell_of_row wr _ 1 _ _ _ hrw]; rfl
              have q2' : wr.cell? ⟨N + 1, 2, none⟩ = some (.int .i64 0) := by rw [cell_of_row wr _ 2 _ _ _ hrw]; rfl
              have k0 := frozen_of_row wr _ 0 _ _ hrw
              have k1 := frozen_of_row wr _ 1 _ _ hrw
              have k2 := frozen_of_row wr _ 2 _ _ hrw
              have HSQ := Lib.hid (Go.Proofs.Ytibabfgfahlekaa.own_mono hSq (show N + 2 ≤ W0.heap.size by omega))
              have HBB := Lib.hid (HBW.out.trans (hBq.mono (by omega)))
              clear hrw hSq hPq hBq
              go_wp2_with fail
              have hR := HR.out
              have hrep : repM (j : Int) (H : Int) a sts = ⟨putBs ((q2.out.length : Nat) : Int) o8 sp, sts.length, q2.out.length⟩ := by
                unfold repM
                have e9 : ((H : Int) - (j : Int)).toNat = i := by have := HH.out; omega
                rw [if_neg (by omega), e9, HQ2.out]
                unfold endM
                simp only [HE8.out, HSP.out]
              rw [hrep] at hR
              subst hR
              refine bodyPost_ret (v := .agg #[.slice (some ⟨g7, 0, none⟩) (q2.out.length + 1) c7, .int .i64 sts.length, .int .i64 q2.out.length]) (by simp [results, Try.results61, go_sem, q0, q1, q2', k0, k1, k2, Try.underlying79]) rfl ⟨_, c7, _, rfl, by rw [putBs_len, HL8.out], ?_, ?_⟩
              · exact Go.Proofs.Ytibabfgfahlekaa.own_mono (ownsRow_setCell_below (ownsRow_setCell_below (ownsRow_setCell_below HSQ.out (by simp) _) (by simp) _) (by simp) _) (by omega)
              · have hBB := HBB.out
                rw [← hN] at hBB
                repeat refine Below.setCell ?_ (by simp; omega) _
                exact hBB
end Go.Proofs.YtibabfgfahlekaaQ
