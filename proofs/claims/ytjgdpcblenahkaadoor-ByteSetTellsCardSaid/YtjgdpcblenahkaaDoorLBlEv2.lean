/- Pruned from its seat's text: what the theorem hangs on. -/
import Derived.Test.YtjgdpcblenahkaaDoorLBlEv
import Derived.Test.YtjgdpcblenahkaaDoorLQ0
import Derived.Test.YtjgdpcblenahkaaDoorLQG
import Derived.Test.YtjgdpcblenahkaaDoorLQEq0
import Derived.Test.YtjgdpcblenahkaaDoorLQTattinglaw01Awake
import Derived.Test.YtjgdpcblenahkaaDoorLQXBytesetOr
import Derived.Laws.BitsAllLaws
import Derived.Deep.RegionWith
import Derived.Test.YtjgdpcblenahkaaDoorLQXBytesetBytes
import Derived.Test.YtjgdpcblenahkaaDoorLQXBytesetCount
import Derived.Test.YtjgdpcblenahkaaDoorLQXBytesetNot
import Derived.Test.YtjgdpcblenahkaaDoorLQXBytesetOf
import Derived.Test.YtjgdpcblenahkaaDoorLQXTattingref01Has
import Derived.Test.YtjgdpcblenahkaaDoorLQXTattingref01Put
import Derived.Test.YtjgdpcblenahkaaDoorLQTattingref01Range
import Derived.Test.YtjgdpcblenahkaaDoorLQXBytesetHas
import Derived.Test.YtjgdpcblenahkaaDoorLQTattinglaw01ByteSetTells
import Derived.Test.YtjgdpcblenahkaaDoorLQBytesetRuns
import Derived.Test.YtjgdpcblenahkaaDoorLQXBytesetRange
/- The laws of layer 1 come to true: plain. -/
set_option linter.unusedVariables false
set_option linter.unusedSimpArgs false
namespace Go.Proofs.YtjgdpcblenahkaaDoorQ
open Go.RowKit Go.Proofs.YtjgdpcblenahkaaDoorW.PrintWords Go.Proofs.YtjgdpcblenahkaaDoorW.PrintLast Go.Proofs.Bs

theorem ev_mono {α : Type} {g : Nat → Option α} {r : α} (hm : ∀ k, LeO (g k) (g (k + 1))) (K : Nat) (h : g K = some r) : EV g r := by
  refine ⟨K, fun k hk => ?_⟩
  obtain ⟨d, rfl⟩ := Nat.le.dest hk
  induction d with
  | zero => exact h
  | succ d ih => exact hm _ _ (ih (by omega))
theorem awake1_ev : EV (fun k => tattinglaw01_awake.f k) true := by
  refine ev_mono tattinglaw01_awake.mono 20 ?_
  decide +kernel
theorem rruns_l1 (s : S) (hs : s.wf) (acc : List Rn) (i : Nat) (hi : i < 256) (ha : acc.length ≤ 256) (r : List Rn) : ∀ (d h : Nat), 255 - h = d → h ≤ 255 →
    EV (fun k => tattingref01_Runs.l0 k (acc ++ [runI (i, extF s d h)]) ((i + 1 : Nat) : Int) s.a s.b s.c s.d) r → EV (fun k => tattingref01_Runs.l1 k acc i h s.a s.b s.c s.d) r := by
  intro d
  induction d with
  | zero =>
    intro h hd hh hn
    obtain rfl : h = 255 := by omega
    refine EV.step hn fun k => ?_
    simp only [tattingref01_Runs.l1]
    rw [if_neg (by omega), if_pos (by omega), wrap_up (by omega), show ((i : Nat) : Int) % 256 = i by omega]
    rfl
  | succ d ih =>
    intro h hd hh hn
    have hlt : h < 255 := by omega
    unfold extF at hn
    by_cases hb : has s (h + 1) = true
    · rw [if_pos hb] at hn
      refine EV.step (ih (h + 1) (by omega) (by omega) hn) fun k => ?_
      simp only [tattingref01_Runs.l1]
      rw [if_pos (by omega), wrap_up (by omega), rhas_f s hs (h + 1) (by omega), hb]
      rfl
    · rw [if_neg hb] at hn
      have hb : has s (h + 1) = false := by simpa using hb
      refine EV.step hn fun k => ?_
      simp only [tattingref01_Runs.l1]
      rw [if_pos (by omega), wrap_up (i := h) (by omega), rhas_f s hs (h + 1) (by omega), hb]
      simp only [Option.bind_some, Bool.false_eq_true, if_false]
      rw [if_pos (by omega), wrap_up (by omega), show ((i : Nat) : Int) % 256 = i by omega, show ((h : Nat) : Int) % 256 = h by omega]
      rfl
theorem rruns_l0 (s : S) (hs : s.wf) : ∀ (d i : Nat), 256 - i = d → i ≤ 256 →
    EV (fun k => tattingref01_Runs.l0 k ((starts s i).map fun p => runI (p, rend s p)) i s.a s.b s.c s.d) ((runsS s).map runI) := by
  intro d
  induction d with
  | zero =>
    intro i hd hi
    obtain rfl : i = 256 := by omega
    refine EV.stop fun k => ?_
    simp only [tattingref01_Runs.l0]
    rw [if_neg (by omega)]
    unfold runsS
    rw [List.map_map]
    rfl
  | succ d ih =>
    intro i hd hi
    have ih := ih (i + 1) (by omega) (by omega)
    rw [starts_succ] at ih
    have hlen : ((starts s i).map fun p => runI (p, rend s p)).length ≤ 256 := by
      rw [List.length_map]
      unfold starts
      have := List.length_filter_le (isStart s) (List.range i)
      rw [List.length_range] at this
      omega
    have skip : isStart s i = false → EV (fun k => tattingref01_Runs.j1 k ((starts s i).map fun p => runI (p, rend s p)) i true s.a s.b s.c s.d) ((runsS s).map runI) := fun h => by
      rw [h] at ih
      refine EV.step ih fun k => ?_
      simp only [tattingref01_Runs.j1, if_true]
      rw [wrap_up (by omega)]
      rfl
    have go : isStart s i = true → EV (fun k => tattingref01_Runs.j1 k ((starts s i).map fun p => runI (p, rend s p)) i false s.a s.b s.c s.d) ((runsS s).map runI) := fun h => by
      rw [h, if_pos rfl, List.map_append] at ih
      refine EV.step (rruns_l1 s hs _ i (by omega) hlen _ (255 - i) i rfl (by omega) ih) fun k => ?_
      simp only [tattingref01_Runs.j1, Bool.false_eq_true, if_false]
    by_cases hb : has s i = true
    · by_cases h0 : i = 0
      · have hst : isStart s i = true := by unfold isStart; rw [hb]; simp [h0]
        refine EV.step (go hst) fun k => ?_
        simp only [tattingref01_Runs.l0]
        rw [if_pos (by omega), rhas_f s hs i (by omega), hb]
        simp only [Option.bind_some, if_true]
        rw [if_neg (by omega)]
      · cases hp : has s (i - 1) with
        | true =>
          have hst : isStart s i = false := by unfold isStart; simp [hb, hp, h0]
          refine EV.step (skip hst) fun k => ?_
          simp only [tattingref01_Runs.l0]
          rw [if_pos (by omega), rhas_f s hs i (by omega), hb]
          simp only [Option.bind_some, if_true]
          rw [if_pos (by omega), wrap_dn (by omega) (by omega), rhas_f s hs (i - 1) (by omega), hp]
          rfl
        | false =>
          have hst : isStart s i = true := by unfold isStart; simp [hb, hp]
          refine EV.step (go hst) fun k => ?_
          simp only [tattingref01_Runs.l0]
          rw [if_pos (by omega), rhas_f s hs i (by omega), hb]
          simp only [Option.bind_some, if_true]
          rw [if_pos (by omega), wrap_dn (by omega) (by omega), rhas_f s hs (i - 1) (by omega), hp]
          rfl
    · have hb : has s i = false := by simpa using hb
      have hst : isStart s i = false := by unfold isStart; simp [hb]
      refine EV.step (skip hst) fun k => ?_
      simp only [tattingref01_Runs.l0]
      rw [if_pos (by omega), rhas_f s hs i (by omega), hb]
      simp only [Option.bind_some, Bool.false_eq_true, if_false]
theorem rruns_ev (s : S) (hs : s.wf) : EV (fun k => tattingref01_Runs.f k s.a s.b s.c s.d) ((runsS s).map runI) := rruns_l0 s hs 256 0 rfl (by omega)
theorem same_l0 (l : List Rn) (hn : l.length ≤ 1000000) : ∀ (d i : Nat), l.length - i = d → i ≤ l.length → EV (fun k => tattingref01_Same.l0 k l l i) true := by
  intro d
  induction d with
  | zero =>
    intro i hd hi
    refine EV.stop fun k => ?_
    simp only [tattingref01_Same.l0]
    rw [if_neg (by omega)]
  | succ d ih =>
    intro i hd hi
    refine EV.step (ih (i + 1) (by omega) (by omega)) fun k => ?_
    simp only [tattingref01_Same.l0]
    rw [if_pos (by omega), if_pos (by omega), if_pos (by omega), wrap_up (by omega)]
    simp
theorem same_ev (l : List Rn) (hn : l.length ≤ 1000000) : EV (fun k => tattingref01_Same.f k l l) true := by
  unfold tattingref01_Same.f
  exact EV.congr (fun k => if_pos rfl) (same_l0 l hn l.length 0 rfl (by omega))

theorem cntTo_up (s : S) : ∀ k, cntTo s k = (upBytes s k).length
  | 0 => rfl
  | k + 1 => by
    simp only [cntTo, upBytes, List.length_append, List.length_map]
    rw [cntTo_up s k]
    rfl
theorem count_bytes (s : S) : cntTo s 4 = (Bs.bytes s).length := by rw [cntTo_up, upBytes_four]

theorem tells_ev (s : S) (hs : s.wf) (lo hi : Nat) (h0 : lo < 256) (h1 : hi < 256) : EV (fun k => tattinglaw01_ByteSetTells.f k s.a s.b s.c s.d lo hi) true := by
  unfold tattinglaw01_ByteSetTells.f
  refine EV.bind awake1_ev ?_
  simp only [if_true]
  refine EV.bind (rbytes_ev s hs) ?_
  have hcnt : ((cntTo s 4 : Nat) : Int) = (((Bs.bytes s).map Int.ofNat).length : Int) := by rw [List.length_map, count_bytes]
  have c0 := cntTo_le s 4
  simp only [bytes_f s hs, Option.bind_some, if_true, count_f s hs, hcnt]
  refine EV.bind (runs_ev s hs) ?_
  refine EV.bind (rruns_ev s hs) ?_
  have hl : ((runsS s).map runI).length ≤ 1000000 := by
    rw [List.length_map]
    unfold runsS starts
    rw [List.length_map]
    have := List.length_filter_le (isStart s) (List.range 256)
    rw [List.length_range] at this
    omega
  refine EV.bind (same_ev _ hl) ?_
  simp only [if_true, range_f lo hi h0 h1, Option.bind_some, wrap_in (show -9223372036854775808 ≤ (lo : Int) by omega) (by omega), wrap_in (show -9223372036854775808 ≤ (hi : Int) by omega) (by omega)]
  refine EV.bind (rrange_ev lo hi h0 h1) ?_
  simp only [four, beq_self_eq_true, Bool.and_self, if_true, of_f _ (fun x (hx : x ∈ Bs.bytes s) => bytes_lt hx) (by rw [← count_bytes]; omega), puts_bytes s hs, Option.bind_some]
  exact EV.const
end Go.Proofs.YtjgdpcblenahkaaDoorQ
