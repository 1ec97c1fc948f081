/- Pruned from its seat's text: what the theorem hangs on. -/
import Derived.Test.YtibabfgfahlekaaHM2
/- The walks of the document's answer for trees: Args, Firsts. -/
set_option linter.unusedVariables false
set_option linter.unusedSimpArgs false
namespace Go.Proofs.Ytibabfgfahlekaa
open Go.RowKit Go.Proofs.Bs

set_option maxHeartbeats 800000 in
theorem rargs_any (k : Int) (w : World) : Calls Try.prog 45 #[.int .i64 k] w fun e w' => e = .returned (.int .i64 (arity k)) ∧ Below w.heap.size w w' := by
  by_cases h : 1 ≤ k ∧ k ≤ 7
  · rcases (show k = 1 ∨ k = 2 ∨ k = 3 ∨ k = 4 ∨ k = 5 ∨ k = 6 ∨ k = 7 by omega) with rfl | rfl | rfl | rfl | rfl | rfl | rfl
    all_goals
      go_enter Try.func45, Try.ntmps45
      go_wp2
      go_ret
      exact ⟨ret_int (by decide), bel_alloc (Below.refl _ _) _⟩
  · rcases (show k < 1 ∨ 7 < k by omega) with h1 | h1
    all_goals
      clear h
      go_enter Try.func45, Try.ntmps45
      go_wp2
      go_ret
      exact ⟨ret_int (by unfold arity; grind), bel_alloc (Below.refl _ _) _⟩

set_option maxHeartbeats 1600000 in
theorem rfirsts_any (A : Option Addr) (n c : Nat) (l : List Nd) (w : World) (h : Reads w 7 A n (l.flatMap Nd.cells)) (hn : n ≤ 1000000) :
    Calls Try.prog 32 #[.slice A n c] w fun e w' => ∃ A1 c1, e = .returned (.slice A1 n c1) ∧ w'.ownsRow w.heap.size 3 1 (.slice A1 n c1) n (ints (firstsTo l n)) ∧ Below w.heap.size w w' := by
  go_enter Try.func32, Try.ntmps32
  go_wp2
  go_loopw [3, 4, 5, 6] (fun o i f k wr => ∃ (A1 : Option Addr) (c1 q : Nat), o = .slice A1 q c1 ∧ wr.ownsRow w.heap.size 3 1 (.slice A1 q c1) q (ints (firstsTo l q)) ∧ i = .int .i64 q ∧ q ≤ n ∧ Below w.heap.size w wr) (fun _ i _ _ _ => n - (intOf i).toNat)
  case atStart => exact ⟨none, 0, 0, rfl, own_new, rfl, by omega, Below.refl _ _⟩
  case round =>
    obtain ⟨A1, c1, q, rfl, HO, rfl, hq, hb⟩ := hrel
    by_cases hlt : q < n
    · obtain ⟨ad, x, rfl, hx, c0, c1, c2, c3, c4, c5, c6⟩ := (h.below hb).nd hlt
      have HX := Lib.hid hx
      clear hx c1 c2 c3 c4 c5 c6
      have a1 := arity_lo x.kind
      have a2 := arity_hi x.kind
      go_wp2_with (go_at_call 45; refine (rargs_any _ _).mono ?_; rintro e w1 ⟨rfl, hb1⟩)
      have HO1 := own_below HO hb1
      have c0' := cell_below hb1 c0
      have hbb := bel_then hb hb1
      have hr1 := (HO1.1 : (ints (firstsTo l q)).length = q * 1)
      have HR := Lib.hid hr1
      clear hr1 HO hb1 c0 hb
      go_loop [5, 6] (fun f k => ∃ fi kv : Int, f = .int .i64 fi ∧ k = .int .i64 kv ∧ -1 ≤ kv ∧ kv ≤ 2 ∧ -1 ≤ fi ∧ fi ≤ q ∧ popN (firstsTo l q) kv.toNat fi = popN (firstsTo l q) (arity x.kind).toNat q) (fun _ k => (intOf k).toNat)
      case atStart => exact ⟨q, arity x.kind, rfl, rfl, a1, a2, by omega, by omega, rfl⟩
      case round =>
        obtain ⟨fi, kv, rfl, rfl, hk0, hk1, hf0, hf1, hp⟩ := hrel
        have HP := Lib.hid hp
        clear hp
        have fin : (kv ≤ 0 ∨ fi < 0) → firstOf (firstsTo l q) q x = if arity x.kind < 0 then -1 else fi := by
          intro hx
          unfold firstOf
          rw [← HP.out]
          rcases hx with hx | hx
          · rw [show kv.toNat = 0 by omega]; rfl
          · rw [popN_neg _ _ _ hx]
        by_cases hk : 0 < kv
        · by_cases hf : 0 ≤ fi
          · rcases (show fi = 0 ∨ 0 < fi by omega) with rfl | hpos
            · go_wp2_with fail
              go_round
              case rel =>
                refine ⟨-1, kv - 1, rfl, rfl, by omega, by omega, by omega, by omega, ?_⟩
                rw [← HP.out, show kv.toNat = (kv - 1).toNat + 1 by omega, popN_step _ _ _ (by omega), if_pos rfl]
              case measure => simp [intOf] <;> omega
            · obtain ⟨j, rfl⟩ : ∃ j : Nat, fi = (j : Int) + 1 := ⟨(fi - 1).toNat, by omega⟩
              obtain ⟨ad1, y, rfl, hy, cy⟩ := (Reads.of_own HO1).int (show j < q by omega)
              have hyr := firsts_range l q j y hy
              have hy0 := hyr.1
              have hy1 := hyr.2
              have HY := Lib.hid hy
              have hz : ((j : Int) + 1 == 0) = false := by rw [beq_eq_false_iff_ne]; omega
              clear hy hyr
              go_wp2_with fail
              go_round
              case rel =>
                refine ⟨y, kv - 1, rfl, rfl, by omega, by omega, by omega, by omega, ?_⟩
                rw [← HP.out, show kv.toNat = (kv - 1).toNat + 1 by omega, popN_step _ _ _ (by omega), if_neg (by omega), show ((j : Int) + 1 - 1).toNat = j by omega, List.getD_eq_getElem?_getD, HY.out]
                rfl
              case measure => simp [intOf] <;> omega
          · have FI := Lib.hid (fin (.inr (by omega)))
            clear fin
            by_cases ha : arity x.kind < 0
            all_goals
              go_wp2_with (first
                | (go_at_call 45; refine (rargs_any _ _).mono ?_; rintro e w2 ⟨rfl, hb2⟩; have HO2 := own_below HO1 hb2; have hbb2 := bel_then hbb hb2)
                | (at_builtin; refine app_lit rfl (.tmp 42) (.tmp 44) 52 rfl w.heap.size 3 Try.underlying52 info_int rfl (by omega) (by omega) _ q (ints (firstsTo l q)) rfl HO2 [.int .i64 _] 1 1 rfl rfl rfl (by omega) hbb2 (Nat.le_refl _) hbb2.size ?_; intro A3 c3 w3 HO3 hg3 hb3))
              go_roundw
              case rel =>
                refine ⟨A3, c3, q + 1, rfl, ?_, by go_num, by omega, hb3⟩
                have hg : l.getD q zNd = x := by rw [List.getD_eq_getElem?_getD, HX.out]; rfl
                have e3 : firstsTo l (q + 1) = firstsTo l q ++ [firstOf (firstsTo l q) q x] := by rw [firstsTo, hg]
                rw [e3, FI.out]
                first | rw [if_pos ha] | rw [if_neg (by omega)]
                simpa [ints] using HO3
              case measure => simp [intOf] <;> omega
        · have FI := Lib.hid (fin (.inl (by omega)))
          clear fin
          by_cases ha : arity x.kind < 0
          all_goals
            go_wp2_with (first
              | (go_at_call 45; refine (rargs_any _ _).mono ?_; rintro e w2 ⟨rfl, hb2⟩; have HO2 := own_below HO1 hb2; have hbb2 := bel_then hbb hb2)
              | (at_builtin; refine app_lit rfl (.tmp 42) (.tmp 44) 52 rfl w.heap.size 3 Try.underlying52 info_int rfl (by omega) (by omega) _ q (ints (firstsTo l q)) rfl HO2 [.int .i64 _] 1 1 rfl rfl rfl (by omega) hbb2 (Nat.le_refl _) hbb2.size ?_; intro A3 c3 w3 HO3 hg3 hb3))
            go_roundw
            case rel =>
              refine ⟨A3, c3, q + 1, rfl, ?_, by go_num, by omega, hb3⟩
              have hg : l.getD q zNd = x := by rw [List.getD_eq_getElem?_getD, HX.out]; rfl
              have e3 : firstsTo l (q + 1) = firstsTo l q ++ [firstOf (firstsTo l q) q x] := by rw [firstsTo, hg]
              rw [e3, FI.out]
              first | rw [if_pos ha] | rw [if_neg (by omega)]
              simpa [ints] using HO3
            case measure => simp [intOf] <;> omega
    · go_wp2_with fail
      go_ret
      obtain rfl : q = n := by omega
      exact ⟨A1, _, rfl, HO, hb⟩

end Go.Proofs.Ytibabfgfahlekaa
