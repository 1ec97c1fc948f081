/- Pruned from its seat's text: what the theorem hangs on. -/
import Derived.Test.YtibabfgfahlekaaBTree5
import Derived.Test.YtibabfgfahlekaaBTreePure
/- The walks of the document's answer for trees: Kids. -/
set_option linter.unusedVariables false
set_option linter.unusedSimpArgs false
namespace Go.Proofs.Ytibabfgfahlekaa
open Go.RowKit Go.Proofs.Bs

set_option maxHeartbeats 1600000 in
theorem rkids_any (A : Option Addr) (n c : Nat) (l : List Nd) (i : Nat) (w : World) (h : Reads w 7 A n (l.flatMap Nd.cells)) (hn : n ≤ 1000000) (hi : i < n) (hf : 0 ≤ fst1 l i) :
    Calls Try.prog 33 #[.slice A n c, .int .i64 i] w fun e w' => ∃ A1 c1, e = .returned (.slice A1 (kidsP l i).length c1) ∧ w'.ownsRow w.heap.size 3 1 (.slice A1 (kidsP l i).length c1) (kidsP l i).length (ints (kidsP l i)) ∧ Below w.heap.size w w' := by
  have hl := h.length Nd.cells Nd.cells_length (by omega)
  have HL := Lib.hid hl
  have HF := Lib.hid hf
  clear hl hf
  go_enter Try.func33, Try.ntmps33
  go_wp2_with fail
  refine (rfirsts_any A n c l _ h hn).mono ?_
  rintro e w1 ⟨Af, cf, rfl, HOf, hb1⟩
  have h1 := h.below hb1
  obtain ⟨ad, x, rfl, hx, c0, c1, c2, c3, c4, c5, c6⟩ := h1.nd hi
  have hf := HF.out
  have HX := Lib.hid hx
  obtain ⟨ha0, hok⟩ := kids_ok l i x hx hf
  have hkk := kidsP_eq l i x hx hf
  have ha2 := arity_hi x.kind
  have HK := Lib.hid hkk
  have hRf := Reads.of_own HOf
  clear hf hx hkk c1 c2 c3 c4 c5 c6
  go_wp2_with (go_at_call 45; refine (rargs_any _ _).mono ?_; rintro e w2 ⟨rfl, hb2⟩)
  have hRf2 := hRf.below hb2
  have hb02 := bel_then hb1 hb2
  go_loopw [6, 7, 8] (fun o a r wr => ∃ (A1 : Option Addr) (c1 q m : Nat) (at_ : Int) (ys : List Int), o = .slice A1 q c1 ∧ wr.ownsRow w2.heap.size 3 1 (.slice A1 q c1) q (ints ys) ∧ a = .int .i64 at_ ∧ r = .int .i64 m ∧ q + m ≤ 2 ∧ -1 ≤ at_ ∧ at_ < n ∧ kidsOk l m at_ ∧ (kidsDown l m at_).reverse ++ ys = (kidsDown l (arity x.kind).toNat ((i : Int) - 1)).reverse ∧ Below w2.heap.size w2 wr) (fun _ _ r _ => (intOf r).toNat)
  case atStart => exact ⟨none, 0, 0, (arity x.kind).toNat, (i : Int) - 1, [], rfl, own_new, rfl, by rw [Int.toNat_of_nonneg ha0], by omega, by omega, by omega, hok, by simp, Below.refl _ _⟩
  case round =>
    obtain ⟨A1, c1, q, m, at_, ys, rfl, HO, rfl, rfl, hqm, hat0, hat1, hok', hys, hb⟩ := hrel
    have hq : ys.length = q := by have := HO.1; rw [ints_length] at this; omega
    have HY := Lib.hid hys
    have HQ := Lib.hid hq
    have HOK := Lib.hid hok'
    clear hys hq hok' hok
    cases m with
    | zero =>
      go_wp2_with fail
      go_ret
      have e1 : kidsP l i = ys := by rw [HK.out, ← HY.out]; simp [kidsDown]
      rw [e1, HQ.out]
      exact ⟨A1, c1, rfl, own_mono HO hb02.size, bel_then hb02 hb⟩
    | succ m =>
      have hl := HL.out
      obtain ⟨k1, k2, k3, k4⟩ := HOK.out
      obtain ⟨a0, rfl⟩ := Int.eq_ofNat_of_zero_le k1
      rw [Int.toNat_natCast] at k3 k4
      have ha : a0 < n := by omega
      obtain ⟨adf, y, hAf, hy, cy⟩ := hRf2.int ha
      subst hAf
      have hy' : y = fst1 l a0 := by rw [firstsTo_at l n a0 ha] at hy; injection hy with hy; exact hy.symm
      have HY' := Lib.hid hy'
      have hr0 : 0 ≤ y := by omega
      have hr1 : y ≤ a0 := by have := fst1_range l a0; omega
      have HK4 := Lib.hid k4
      clear hy hy' k4 hl k2
      go_wp2_with (at_builtin; refine app_any rfl (.tmp 24) (.tmp 25) 52 rfl w2.heap.size 3 Try.underlying52 info_int rfl (by omega) (by omega) _ 1 [.int .i64 (a0 : Int)] rfl (own_lit _ _ _ _ hb.size (by omega) rfl) A1 q c1 (ints ys) rfl (Reads.of_own (HO.alloc _)) (ints_one _) (by omega) (bel_alloc hb _) (Nat.le_refl _) (by have := hb.size; simp; omega) ?_; intro A2 c2 w3 HO2 hg2 hb3; have cy2 := cell_below hb3 cy)
      go_roundw
      case rel =>
        have hl := HL.out
        refine ⟨A2, c2, q + 1, m, y - 1, (a0 : Int) :: ys, by rw [Nat.add_comm], by rw [Nat.add_comm]; simpa [ints] using HO2, by go_num, by go_num, by omega, by omega, by omega, by rw [HY'.out]; exact HK4.out, ?_, hb3⟩
        rw [← HY.out, HY'.out]
        simp only [kidsDown, List.reverse_cons, List.append_assoc, List.singleton_append]
        rw [first_eq l a0 (by omega)]
      case measure => simp [intOf] <;> omega

end Go.Proofs.Ytibabfgfahlekaa
