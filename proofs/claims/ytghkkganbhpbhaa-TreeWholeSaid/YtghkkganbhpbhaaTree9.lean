/- The walk of the document's answer: how deep a tree's part is. -/
import Derived.Test.YtghkkganbhpbhaaTree6
import Derived.Test.YtghkkganbhpbhaaBase2
import Derived.Test.YtghkkganbhpbhaaDepth1
set_option linter.unusedVariables false
set_option linter.unusedSimpArgs false
namespace Go.Proofs.Ytghkkganbhpbhaa
open Go.RowKit Go.Proofs.Bs

set_option maxHeartbeats 3200000 in
theorem rdepth_any (A : Option Addr) (n c : Nat) (l : List Nd) (hn : n ≤ 1000000) (i : Nat) : ∀ (w : World) (h : Reads w 7 A n (l.flatMap Nd.cells)) (hi : i < n) (hf : 0 ≤ fst1 l i),
    Calls Try.prog 21 #[.slice A n c, .int .i64 i] w fun e w' => e = .returned (.int .i64 (depthR l i)) ∧ Below w.heap.size w w' := by
  induction i using Nat.strongRecOn with
  | ind i ih =>
    intro w h hi hf
    have hl := h.length Nd.cells Nd.cells_length (by omega)
    have hde := depthR_eq l i (by omega) hf
    have hkok := kidsP_ok l i (by omega) hf
    have HL := Lib.hid hl
    have HD := Lib.hid hde
    have HK := Lib.hid hkok
    have HF := Lib.hid hf
    have IH := Lib.hid ih
    clear hl hde hkok hf ih
    go_enter Try.func21, Try.ntmps21
    go_wp2_with fail
    refine (rkids_any A n c l i _ h hn hi HF.out).mono ?_
    have hq2 := kidsP_len l i
    generalize hks : kidsP l (i : Int) = ks at HD HK hq2 ⊢
    clear hks
    rintro e w1 ⟨A1, c1, rfl, HO, hb1⟩
    have h1 := h.below hb1
    have hr := Reads.of_own HO
    clear HO
    generalize hq : ks.length = q at hr hq2 ⊢
    have HQ := Lib.hid hq
    clear hq
    go_wp2_with fail
    go_loopw [6, 7] (fun m_ j_ wr => ∃ (m : Int) (j : Nat), m_ = .int .i64 m ∧ j_ = .int .i64 j ∧ j ≤ q ∧ 0 ≤ m ∧ m ≤ i ∧ maxOf ((ks.drop j).map fun y => depthR l y.toNat) m = maxOf (ks.map fun y => depthR l y.toNat) 0 ∧ Below w1.heap.size w1 wr) (fun _ j_ _ => q - (intOf j_).toNat)
    case atStart => exact ⟨0, 0, rfl, rfl, by omega, by omega, by omega, rfl, Below.refl _ _⟩
    case round =>
      obtain ⟨m, j, rfl, rfl, hj, hm0, hm1, hmx, hb⟩ := hrel
      have HM := Lib.hid hmx
      clear hmx
      by_cases hlt : j < q
      · obtain ⟨ad, y, hA, hy, cy⟩ := (hr.below hb).int hlt
        subst hA
        obtain ⟨y0, y1, y2⟩ := HK.out y (List.mem_of_getElem? hy)
        obtain ⟨yn, rfl⟩ := Int.eq_ofNat_of_zero_le y0
        rw [Int.toNat_natCast] at y2
        have hyi : yn < i := by omega
        have hyb := depthR_bound l yn
        have hyb0 := hyb.1
        have hyb1 := hyb.2
        have HY := Lib.hid hy
        have HY2 := Lib.hid y2
        clear hy y2 hyb
        go_wp2_with (go_at_call 21; refine (IH.out yn hyi _ (h1.below hb) (by omega) HY2.out).mono ?_; rintro e w3 ⟨rfl, hb3⟩)
        go_roundw
        case rel =>
          refine ⟨max m (depthR l yn), j + 1, ?_, by go_num, by omega, by omega, by omega, ?_, bel_then hb hb3⟩
          · congr 1; split <;> omega
          · rw [← HM.out, drop_get HY.out]
            rfl
        case measure => simp [intOf] <;> omega
      · go_wp2_with fail
        go_ret
        refine ⟨ret_int ?_, bel_then hb1 hb⟩
        rw [HD.out, ← HM.out, List.drop_eq_nil_of_le (by rw [HQ.out]; omega)]
        rfl

theorem rdepth_int (A : Option Addr) (n c : Nat) (l : List Nd) (hn : n ≤ 1000000) (ii : Int) (i : Nat) (e : ii = i) (w : World) (h : Reads w 7 A n (l.flatMap Nd.cells)) (hi : i < n) (hf : 0 ≤ fst1 l i) :
    Calls Try.prog 21 #[.slice A n c, .int .i64 ii] w fun e w' => e = .returned (.int .i64 (depthR l i)) ∧ Below w.heap.size w w' := by
  subst e
  exact rdepth_any A n c l hn i w h hi hf
end Go.Proofs.Ytghkkganbhpbhaa
