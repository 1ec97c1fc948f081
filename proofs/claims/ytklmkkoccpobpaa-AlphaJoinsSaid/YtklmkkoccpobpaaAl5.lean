/- The walk of the law AlphaJoins. -/
import Derived.Test.YtklmkkoccpobpaaAl4
set_option linter.unusedVariables false
set_option linter.unusedSimpArgs false
namespace Go.Proofs.Ytklmkkoccpobpaa
open Go.RowKit

def exPairs : List (Int × Int) := [(7, 1), (7, 2), (9, 2)]

set_option maxRecDepth 100000 in
set_option maxHeartbeats 3200000 in
theorem awake_any (w : World) : Calls Try.prog 6 #[] w fun e w' => e = .returned (.bool true) ∧ Below w.heap.size w w' := by
  go_enter Try.func6, Try.ntmps6
  go_wp2_with fail
  refine (ajoin_any _ _ 3 3 3 exPairs _ ?ha ?hb (by omega) ?hok).mono ?_
  case ha => exact (Reads.of_own (own_lit (base := 0) 3 1 (ints (exPairs.map Prod.fst)) 3 (Nat.zero_le _) (by omega) rfl)).below (bel_alloc (Below.refl _ _) _)
  case hb =>
    have := Reads.of_own (own_lit (W := w.alloc (.cells (ints (exPairs.map Prod.fst)).toArray 3)) (base := 0) 3 1 (ints (exPairs.map Prod.snd)) 3 (Nat.zero_le _) (by omega) rfl)
    rw [show (w.alloc (.cells (ints (exPairs.map Prod.fst)).toArray 3)).heap.size = w.heap.size + 1 by simp] at this
    exact this
  case hok =>
    intro p hp
    simp only [exPairs, List.mem_cons, List.not_mem_nil, or_false] at hp
    rcases hp with rfl | rfl | rfl <;> exact ⟨by decide, by decide⟩
  rw [show (Al.run exPairs).1.length = 3 by decide +kernel, show (Al.run exPairs).2 = [0, 1, 2] by decide +kernel]
  rintro e w1 ⟨A1, c1, rfl, HO, hb1⟩
  have hb01 : Below w.heap.size w w1 := bel_then (bel_alloc (bel_alloc (Below.refl _ _) _) _) hb1
  have hr1 := Reads.of_own HO
  clear HO hb1
  go_wp2_with fail
  refine (afirsts_any A1 3 c1 (casts [0, 1, 2]) 3 _ hr1 (by omega) (by omega) (by omega)).mono ?_
  rw [show min (3 : Int).toNat 259 = 3 by decide, show Al.firstsRow 3 (casts [0, 1, 2]) = [0, 1, 2] by decide +kernel]
  rintro e w2 ⟨A2, c2, rfl, HO2, hb2⟩
  have hr1' := hr1.below hb2
  have hb02 := bel_then hb01 hb2
  obtain ⟨ad, x, rfl, hx, cx⟩ := hr1'.int (show 2 < 3 by omega)
  obtain ⟨bd, y, rfl, hy, cy⟩ := (Reads.of_own HO2).int (show 1 < 3 by omega)
  obtain rfl : x = 2 := by injection hx with h; exact h.symm
  obtain rfl : y = 1 := by injection hy with h; exact h.symm
  rw [show ad.add 2 = ⟨ad.block, ad.off + 2, none⟩ from rfl] at cx
  rw [show bd.add 1 = ⟨bd.block, bd.off + 1, none⟩ from rfl] at cy
  clear hx hy HO2 hr1 hb01 hb2
  go_wp2_with fail
  go_ret
  exact ⟨rfl, hb02⟩
end Go.Proofs.Ytklmkkoccpobpaa
