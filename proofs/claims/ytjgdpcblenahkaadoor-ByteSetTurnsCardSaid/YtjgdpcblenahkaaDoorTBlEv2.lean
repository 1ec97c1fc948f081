/- Pruned from its seat's text: what the theorem hangs on. -/
import Derived.Test.YtjgdpcblenahkaaDoorTBlEv
import Derived.Test.YtjgdpcblenahkaaDoorTQTattinglaw01ByteSetTurns
import Derived.Test.YtjgdpcblenahkaaDoorTQTattinglaw01ByteSetJoins
import Derived.Test.YtjgdpcblenahkaaDoorTQ0
import Derived.Test.YtjgdpcblenahkaaDoorTQG
import Derived.Test.YtjgdpcblenahkaaDoorTQBytesetRuns
import Derived.Test.YtjgdpcblenahkaaDoorTQEq0
import Derived.Test.YtjgdpcblenahkaaDoorTQTattinglaw01Awake
import Derived.Test.YtjgdpcblenahkaaDoorTQSets
import Derived.Laws.BitsAllLaws
import Derived.Lib.Hide
import Derived.Test.YtjgdpcblenahkaaDoorTQXBytesetOf
import Derived.Test.YtjgdpcblenahkaaDoorTQEq1
import Derived.Test.YtjgdpcblenahkaaDoorTQXBytesetBytes
import Derived.Test.YtjgdpcblenahkaaDoorTQXBytesetCount
import Derived.Test.YtjgdpcblenahkaaDoorTQXBytesetOr
/- The laws of layer 1 come to true: plain. -/
set_option linter.unusedVariables false
set_option linter.unusedSimpArgs false
namespace Go.Proofs.YtjgdpcblenahkaaDoorQ
open Go.RowKit Go.Proofs.YtjgdpcblenahkaaDoorW.PrintWords Go.Proofs.YtjgdpcblenahkaaDoorW.PrintLast Go.Proofs.Bs

theorem ev_mono {α : Type} {g : Nat → Option α} {r : α} (hm : ∀ k, LeO (g k) (g (k + 1))) (K : Nat) (h : g K = some r) : EV g r := by
  refine ⟨K, fun k hk => ?_⟩
  obtain ⟨d, rfl⟩ := Nat.le.dest hk
  induction d with
  | zero => exact h
  | succ d ih => exact hm _ _ (ih (by omega))
theorem awake1_ev : EV (fun k => tattinglaw01_awake.f k) true := by
  refine ev_mono tattinglaw01_awake.mono 20 ?_
  decide +kernel

theorem cnt_succ (n x : Nat) : cnt (n + 1) x = cnt n x + (if x.testBit n then 1 else 0) := by
  unfold cnt
  rw [List.range_succ, List.filter_append, List.length_append]
  congr 1
  by_cases h : x.testBit n = true <;> simp [h]
theorem cnt_both (n x y : Nat) : cnt n x + cnt n y = cnt n (x ||| y) + cnt n (x &&& y) := by
  induction n with
  | zero => rfl
  | succ n ih =>
    simp only [cnt_succ, Nat.testBit_or, Nat.testBit_and]
    cases x.testBit n <;> cases y.testBit n <;> simp <;> omega
theorem cntTo_both (s t : S) : ∀ k, cntTo s k + cntTo t k = cntTo (Bs.or s t) k + cntTo (Bs.and s t) k
  | 0 => rfl
  | k + 1 => by
    have := cntTo_both s t k
    have h := cnt_both 64 (s.word k) (t.word k)
    simp only [cntTo]
    have e1 : (Bs.or s t).word k = s.word k ||| t.word k := word_zip _ s t k
    have e2 : (Bs.and s t).word k = s.word k &&& t.word k := word_zip _ s t k
    rw [e1, e2]
    omega
theorem cntTo_up (s : S) : ∀ k, cntTo s k = (upBytes s k).length
  | 0 => rfl
  | k + 1 => by
    simp only [cntTo, upBytes, List.length_append, List.length_map]
    rw [cntTo_up s k]
    rfl
theorem count_bytes (s : S) : cntTo s 4 = (Bs.bytes s).length := by rw [cntTo_up, upBytes_four]

theorem turn_or (s t : S) (hs : s.wf) (ht : t.wf) : Bs.not (Bs.or s t) = Bs.and (Bs.not s) (Bs.not t) := by
  apply ext (wf_not _) (wf_and (wf_not _))
  intro i hi
  rw [has_not _ (wf_or hs ht), has_or, has_and, has_not _ hs, has_not _ ht, Bool.not_or]
theorem turn_turn (s : S) (hs : s.wf) : Bs.not (Bs.not s) = s := by
  apply ext (wf_not _) hs
  intro i hi
  rw [has_not _ (wf_not _), has_not _ hs, Bool.not_not]
theorem less_and (s t : S) (hs : s.wf) (ht : t.wf) : Bs.or (Bs.less s t) (Bs.and s t) = s := by
  apply ext (wf_or (wf_less _ _) (wf_and ht)) hs
  intro i hi
  rw [has_or, has_less _ _ ht, has_and]
  cases has s i <;> cases has t i <;> rfl
theorem turns_ev (s t : S) (hs : s.wf) (ht : t.wf) : EV (fun k => tattinglaw01_ByteSetTurns.f k s.a s.b s.c s.d t.a t.b t.c t.d) true := by
  unfold tattinglaw01_ByteSetTurns.f
  refine EV.bind awake1_ev ?_
  have c0 := cntTo_le s 4
  have c1 := cntTo_le t 4
  have c2 := cntTo_both s t 4
  have hX : ∀ x y : S, x = y → ((((four x).1 == (four y).1 && ((four x).2.1 == (four y).2.1 && ((four x).2.2.1 == (four y).2.2.1 && ((four x).2.2.2 == (four y).2.2.2))))) = true) := fun x y e => by subst e; simp
  have hY : ∀ x y : S, x = y → ((((four x).1 == (y.a : Int) && ((four x).2.1 == (y.b : Int) && ((four x).2.2.1 == (y.c : Int) && ((four x).2.2.2 == (y.d : Int)))))) = true) := fun x y e => by subst e; simp [four]
  rw [if_pos rfl]
  refine EV.bind (EV.now fun _ => or_f s t hs ht) ?_
  refine EV.bind (EV.now fun _ => not_f _ (wf_or hs ht)) ?_
  refine EV.bind (EV.now fun _ => not_f s hs) ?_
  refine EV.bind (EV.now fun _ => not_f t ht) ?_
  refine EV.bind (EV.now fun _ => and_f _ _ (wf_not s) (wf_not t)) ?_
  refine EV.congr (fun k => if_pos (hX _ _ (turn_or s t hs ht))) ?_
  refine EV.bind (EV.now fun _ => not_f s hs) ?_
  refine EV.bind (EV.now fun _ => not_f _ (wf_not s)) ?_
  refine EV.congr (fun k => if_pos (hY _ _ (turn_turn s hs))) ?_
  refine EV.bind (EV.now fun _ => bytes_f s hs) ?_
  refine EV.bind (EV.now fun _ => of_f _ (fun x (hx : x ∈ Bs.bytes s) => bytes_lt hx) (by rw [← count_bytes]; omega)) ?_
  refine EV.congr (fun k => if_pos (hY _ _ (puts_bytes s hs))) ?_
  refine EV.bind (EV.now fun _ => less_f s t hs ht) ?_
  refine EV.bind (EV.now fun _ => and_f s t hs ht) ?_
  refine EV.bind (EV.now fun _ => or_f _ _ (wf_less s t) (wf_and ht)) ?_
  refine EV.congr (fun k => if_pos (hY _ _ (less_and s t hs ht))) ?_
  refine EV.bind (EV.now fun _ => count_f s hs) ?_
  refine EV.bind (EV.now fun _ => count_f t ht) ?_
  refine EV.bind (EV.now fun _ => or_f s t hs ht) ?_
  refine EV.bind (EV.now fun _ => count_f _ (wf_or hs ht)) ?_
  refine EV.bind (EV.now fun _ => and_f s t hs ht) ?_
  refine EV.bind (EV.now fun _ => count_f _ (wf_and ht)) ?_
  generalize cntTo s 4 = n1 at *
  generalize cntTo t 4 = n2 at *
  generalize cntTo (Bs.or s t) 4 = n3 at *
  generalize cntTo (Bs.and s t) 4 = n4 at *
  have e1 : wrap64 ((n1 : Int) + (n2 : Int)) = wrap64 ((n3 : Int) + (n4 : Int)) := by
    congr 1
    omega
  refine EV.now fun k => ?_
  rw [e1, beq_self_eq_true]
end Go.Proofs.YtjgdpcblenahkaaDoorQ
