import Derived.Test.YtfjemaeidmikmaaDoorFM2
set_option linter.unusedVariables false
set_option linter.unusedSimpArgs false
namespace Go.Proofs.YtfjemaeidmikmaaDoorQ
open Go.RowKit Go.Proofs.Bs Go.Proofs.YtfjemaeidmikmaaDoor
def natB (l : List Nat) : List Value := l.map fun (n : Nat) => Value.int .u8 (n : Int)
theorem natB_snoc (l : List Nat) (n : Nat) : natB l ++ [.int .u8 (n : Int)] = natB (l ++ [n]) := by simp [natB]
theorem upBytes_len (s : S) : ∀ k, (upBytes s k).length ≤ 64 * k
 | 0 => by simp [upBytes]
 | k + 1 => by
  have := upBytes_len s k
  have h2 : (Bs.bits (s.word k)).length ≤ 64 := by
   unfold Bs.bits;have := List.length_filter_le (fun i => (s.word k).testBit i) (List.range 64);simpa using this
  simp only [upBytes, List.length_append, List.length_map]
  omega
theorem info_u8 : (Tryd.prog.info? 5).map (fun i => (i.zero, i.size, i.bytes)) = some (some (.int .u8 0), 1, 1) := by kernel_rfl
attribute [local go_sem] run_set0 run_set1 run_set2 run_set3
def Inner (s : S) (k : Nat) (o : List Nat) (w : Nat) : Prop := o ++ (Bs.bits w).map (64 * k + ·) = upBytes s (k + 1) ∧ w < W
theorem Inner.start (s : S) (hs : s.wf) (k : Nat) : Inner s k (upBytes s k) (s.word k) := ⟨rfl, hs.wf_word k⟩
theorem Inner.stop {s : S} {k : Nat} {o : List Nat} (h : Inner s k o 0) : o = upBytes s (k + 1) := by
 have := h.1;rw [bits_zero] at this;simpa using this
theorem Inner.len {s : S} {k : Nat} {o : List Nat} {w : Nat} (h : Inner s k o w) : o.length ≤ 64 * (k + 1) := by
 have h1 := congrArg List.length h.1;have h2 := upBytes_len s (k + 1);rw [List.length_append] at h1;omega
theorem Inner.step {s : S} {k : Nat} {o : List Nat} {w j m : Nat} (h : Inner s k o w) (e : w = 2 ^ j * (2 * m + 1)) (hj : j < 64) : Inner s k (o ++ [64 * k + j]) (w &&& (w - 1)) := by
 refine ⟨?_, Nat.lt_of_le_of_lt Nat.and_le_left h.2⟩;have h1 := h.1;rw [bits_step w j m e hj] at h1;rw [List.append_assoc];exact h1
set_option maxRecDepth 100000 in
set_option maxHeartbeats 3200000 in
theorem bytes_walk (s : S) (hs : s.wf) (w : World) (hG : TabG w) : Calls Tryd.prog 39 #[.agg #[.int .u64 s.a, .int .u64 s.b, .int .u64 s.c, .int .u64 s.d]] w fun e w' => ∃ v, e = .returned v ∧ w'.ownsRow w.heap.size 5 1 v (Bs.bytes s).length (natB (Bs.bytes s)) ∧ Below w.heap.size w w' := by
 go_enter Tryd.func39, Tryd.ntmps39;go_wp2_with fail;go_loopw [3, 4, 5, 7] (fun v3 v4 v5 v7 wr => ∃ (k : Nat) (i : Int), v7 = .int .i64 i ∧ i = k ∧ k ≤ 4 ∧ wr.ownsRow w.heap.size 5 1 v3 (upBytes s k).length (natB (upBytes s k)) ∧ Below w.heap.size w wr) (fun _ _ _ v7 _ => 4 - (intOf v7).toNat)
 case atStart =>
  exact ⟨0, 0, rfl, rfl, by omega, ⟨by rfl, .inl ⟨rfl, rfl⟩⟩, bel_alloc (Below.refl _ _) _⟩
 case round =>
  obtain ⟨k, i, rfl, hik, hk, ho, hb⟩ := hrel;by_cases hlt : k < 4
  ·have hI := Inner.start s hs k;rcases (show k = 0 ∨ k = 1 ∨ k = 2 ∨ k = 3 by omega) with rfl | rfl | rfl | rfl
   ·(obtain rfl : i = 0 := by omega);clear hik;have hI := Lib.hid hI;have ho := Lib.hid ho;go_wp2_with fail;go_loopw [3, 5] (fun v3 v5 wq => ∃ (o : List Nat) (x : Nat), v5 = .int .u64 x ∧ Inner s 0 o x ∧ wq.ownsRow w.heap.size 5 1 v3 o.length (natB o) ∧ Below w.heap.size w wq) (fun _ v5 _ => (intOf v5).toNat)
    case atStart =>
     exact ⟨upBytes s 0, s.word 0, rfl, hI.out, ho.out, hb⟩
    case round =>
     obtain ⟨o, x, rfl, hi, hoq, hbq⟩ := hrel;by_cases h0 : x = 0
     ·subst h0;have HO := Lib.hid hi.stop;go_wp2_with fail;go_roundw
      case rel => exact ⟨0 + 1, 1, by first | rfl | (go_num; done), rfl, by omega, by rw [← HO.out]; exact hoq, hbq⟩
      case measure => simp [intOf]
     ·obtain ⟨j, m, hx⟩ := odd_part x h0;have hj := odd_lt hx hi.2;have hS := Lib.hid (hi.step hx hj);have hT := Lib.hid hx;have hxW := hi.2;have hlen := hi.len;have hGq := hG.below hbq;have hand := Lib.hid (u64_and_nat x (x - 1) hxW (Nat.lt_of_le_of_lt (Nat.sub_le _ _) hxW));have hsub := Lib.hid (show IntKind.u64.wrap ((x : Int) - 1) = ((x - 1 : Nat) : Int) by rw [IntKind.wrap_u64]; unfold W at hxW; omega);have hdec := Lib.hid (show x &&& (x - 1) < x by have := @Nat.and_le_right x (x - 1); omega);(have hx0 : ((x : Int) == 0) = false := by simp; omega);clear hx hi hG
      go_wp2_with (first
       | (go_at_call 60; refine (trail_walk x j m hT.out hxW _ hGq).mono ?_; rintro e w' ⟨rfl, hw⟩; subst hw)
       | (at_builtin; refine app_lit rfl (.tmp 17) (.tmp 24) 83 rfl w.heap.size 5 Tryd.underlying83 info_u8 rfl (by omega) (by omega) _ o.length (natB o) rfl hoq _ 1 1 rfl rfl rfl (by omega) hbq (Nat.le_refl _) hbq.size ?_; intro A3 c3 w3 HO3 hg3 hb3))
      go_roundw
      case rel =>
       refine ⟨o ++ [64 * 0 + j], x &&& (x - 1), by first | rfl | (rw [hsub.out, hand.out]; done) | (rw [hsub.out, hand.out]), hS.out, ?_, hb3⟩;rw [List.length_append, ← natB_snoc];(first | exact HO3 | (rw [show 64 * 0 + j = j by omega]; exact HO3))
      case measure => have h_ := hdec.out; have h1_ := hsub.out; have h2_ := hand.out; simp only [intOf, h1_, h2_]; omega
   ·(obtain rfl : i = 1 := by omega);clear hik;have hI := Lib.hid hI;have ho := Lib.hid ho;go_wp2_with fail;go_loopw [3, 5] (fun v3 v5 wq => ∃ (o : List Nat) (x : Nat), v5 = .int .u64 x ∧ Inner s 1 o x ∧ wq.ownsRow w.heap.size 5 1 v3 o.length (natB o) ∧ Below w.heap.size w wq) (fun _ v5 _ => (intOf v5).toNat)
    case atStart =>
     exact ⟨upBytes s 1, s.word 1, rfl, hI.out, ho.out, hb⟩
    case round =>
     obtain ⟨o, x, rfl, hi, hoq, hbq⟩ := hrel;by_cases h0 : x = 0
     ·subst h0;have HO := Lib.hid hi.stop;go_wp2_with fail;go_roundw
      case rel => exact ⟨1 + 1, 2, by first | rfl | (go_num; done), rfl, by omega, by rw [← HO.out]; exact hoq, hbq⟩
      case measure => simp [intOf]
     ·obtain ⟨j, m, hx⟩ := odd_part x h0;have hj := odd_lt hx hi.2;have hS := Lib.hid (hi.step hx hj);have hT := Lib.hid hx;have hxW := hi.2;have hlen := hi.len;have hGq := hG.below hbq;have hand := Lib.hid (u64_and_nat x (x - 1) hxW (Nat.lt_of_le_of_lt (Nat.sub_le _ _) hxW));have hsub := Lib.hid (show IntKind.u64.wrap ((x : Int) - 1) = ((x - 1 : Nat) : Int) by rw [IntKind.wrap_u64]; unfold W at hxW; omega);have hdec := Lib.hid (show x &&& (x - 1) < x by have := @Nat.and_le_right x (x - 1); omega);(have hx0 : ((x : Int) == 0) = false := by simp; omega);clear hx hi hG
      go_wp2_with (first
       | (go_at_call 60; refine (trail_walk x j m hT.out hxW _ hGq).mono ?_; rintro e w' ⟨rfl, hw⟩; subst hw)
       | (at_builtin; refine app_lit rfl (.tmp 17) (.tmp 24) 83 rfl w.heap.size 5 Tryd.underlying83 info_u8 rfl (by omega) (by omega) _ o.length (natB o) rfl hoq _ 1 1 rfl rfl rfl (by omega) hbq (Nat.le_refl _) hbq.size ?_; intro A3 c3 w3 HO3 hg3 hb3))
      go_roundw
      case rel =>
       refine ⟨o ++ [64 * 1 + j], x &&& (x - 1), by first | rfl | (rw [hsub.out, hand.out]; done) | (rw [hsub.out, hand.out]), hS.out, ?_, hb3⟩;rw [List.length_append, ← natB_snoc];(first | exact HO3 | (rw [show 64 * 0 + j = j by omega]; exact HO3))
      case measure => have h_ := hdec.out; have h1_ := hsub.out; have h2_ := hand.out; simp only [intOf, h1_, h2_]; omega
   ·(obtain rfl : i = 2 := by omega);clear hik;have hI := Lib.hid hI;have ho := Lib.hid ho;go_wp2_with fail;go_loopw [3, 5] (fun v3 v5 wq => ∃ (o : List Nat) (x : Nat), v5 = .int .u64 x ∧ Inner s 2 o x ∧ wq.ownsRow w.heap.size 5 1 v3 o.length (natB o) ∧ Below w.heap.size w wq) (fun _ v5 _ => (intOf v5).toNat)
    case atStart =>
     exact ⟨upBytes s 2, s.word 2, rfl, hI.out, ho.out, hb⟩
    case round =>
     obtain ⟨o, x, rfl, hi, hoq, hbq⟩ := hrel;by_cases h0 : x = 0
     ·subst h0;have HO := Lib.hid hi.stop;go_wp2_with fail;go_roundw
      case rel => exact ⟨2 + 1, 3, by first | rfl | (go_num; done), rfl, by omega, by rw [← HO.out]; exact hoq, hbq⟩
      case measure => simp [intOf]
     ·obtain ⟨j, m, hx⟩ := odd_part x h0;have hj := odd_lt hx hi.2;have hS := Lib.hid (hi.step hx hj);have hT := Lib.hid hx;have hxW := hi.2;have hlen := hi.len;have hGq := hG.below hbq;have hand := Lib.hid (u64_and_nat x (x - 1) hxW (Nat.lt_of_le_of_lt (Nat.sub_le _ _) hxW));have hsub := Lib.hid (show IntKind.u64.wrap ((x : Int) - 1) = ((x - 1 : Nat) : Int) by rw [IntKind.wrap_u64]; unfold W at hxW; omega);have hdec := Lib.hid (show x &&& (x - 1) < x by have := @Nat.and_le_right x (x - 1); omega);(have hx0 : ((x : Int) == 0) = false := by simp; omega);clear hx hi hG
      go_wp2_with (first
       | (go_at_call 60; refine (trail_walk x j m hT.out hxW _ hGq).mono ?_; rintro e w' ⟨rfl, hw⟩; subst hw)
       | (at_builtin; refine app_lit rfl (.tmp 17) (.tmp 24) 83 rfl w.heap.size 5 Tryd.underlying83 info_u8 rfl (by omega) (by omega) _ o.length (natB o) rfl hoq _ 1 1 rfl rfl rfl (by omega) hbq (Nat.le_refl _) hbq.size ?_; intro A3 c3 w3 HO3 hg3 hb3))
      go_roundw
      case rel =>
       refine ⟨o ++ [64 * 2 + j], x &&& (x - 1), by first | rfl | (rw [hsub.out, hand.out]; done) | (rw [hsub.out, hand.out]), hS.out, ?_, hb3⟩;rw [List.length_append, ← natB_snoc];(first | exact HO3 | (rw [show 64 * 0 + j = j by omega]; exact HO3))
      case measure => have h_ := hdec.out; have h1_ := hsub.out; have h2_ := hand.out; simp only [intOf, h1_, h2_]; omega
   ·(obtain rfl : i = 3 := by omega);clear hik;have hI := Lib.hid hI;have ho := Lib.hid ho;go_wp2_with fail;go_loopw [3, 5] (fun v3 v5 wq => ∃ (o : List Nat) (x : Nat), v5 = .int .u64 x ∧ Inner s 3 o x ∧ wq.ownsRow w.heap.size 5 1 v3 o.length (natB o) ∧ Below w.heap.size w wq) (fun _ v5 _ => (intOf v5).toNat)
    case atStart =>
     exact ⟨upBytes s 3, s.word 3, rfl, hI.out, ho.out, hb⟩
    case round =>
     obtain ⟨o, x, rfl, hi, hoq, hbq⟩ := hrel;by_cases h0 : x = 0
     ·subst h0;have HO := Lib.hid hi.stop;go_wp2_with fail;go_roundw
      case rel => exact ⟨3 + 1, 4, by first | rfl | (go_num; done), rfl, by omega, by rw [← HO.out]; exact hoq, hbq⟩
      case measure => simp [intOf]
     ·obtain ⟨j, m, hx⟩ := odd_part x h0;have hj := odd_lt hx hi.2;have hS := Lib.hid (hi.step hx hj);have hT := Lib.hid hx;have hxW := hi.2;have hlen := hi.len;have hGq := hG.below hbq;have hand := Lib.hid (u64_and_nat x (x - 1) hxW (Nat.lt_of_le_of_lt (Nat.sub_le _ _) hxW));have hsub := Lib.hid (show IntKind.u64.wrap ((x : Int) - 1) = ((x - 1 : Nat) : Int) by rw [IntKind.wrap_u64]; unfold W at hxW; omega);have hdec := Lib.hid (show x &&& (x - 1) < x by have := @Nat.and_le_right x (x - 1); omega);(have hx0 : ((x : Int) == 0) = false := by simp; omega);clear hx hi hG
      go_wp2_with (first
       | (go_at_call 60; refine (trail_walk x j m hT.out hxW _ hGq).mono ?_; rintro e w' ⟨rfl, hw⟩; subst hw)
       | (at_builtin; refine app_lit rfl (.tmp 17) (.tmp 24) 83 rfl w.heap.size 5 Tryd.underlying83 info_u8 rfl (by omega) (by omega) _ o.length (natB o) rfl hoq _ 1 1 rfl rfl rfl (by omega) hbq (Nat.le_refl _) hbq.size ?_; intro A3 c3 w3 HO3 hg3 hb3))
      go_roundw
      case rel =>
       refine ⟨o ++ [64 * 3 + j], x &&& (x - 1), by first | rfl | (rw [hsub.out, hand.out]; done) | (rw [hsub.out, hand.out]), hS.out, ?_, hb3⟩;rw [List.length_append, ← natB_snoc];(first | exact HO3 | (rw [show 64 * 0 + j = j by omega]; exact HO3))
      case measure => have h_ := hdec.out; have h1_ := hsub.out; have h2_ := hand.out; simp only [intOf, h1_, h2_]; omega
  ·(obtain rfl : k = 4 := by omega);(obtain rfl : i = 4 := by omega);rw [upBytes_four] at ho;have ho := Lib.hid ho;clear hs hG hik;go_wp2_with fail;go_ret;exact ⟨_, rfl, ho.out, hb⟩
theorem natB_encs (l : List Nat) : Go.Proofs.YtfjemaeidmikmaaDoorW.PrintWords.encs (Value.int .u8) (l.map Int.ofNat) = natB l := by simp [Go.Proofs.YtfjemaeidmikmaaDoorW.PrintWords.encs, natB]
def byteset_Bytes.f (a0_0 a0_1 a0_2 a0_3 : Int) : Option (List Int) := if wfI a0_0 a0_1 a0_2 a0_3 then some ((Bs.bytes (setI a0_0 a0_1 a0_2 a0_3)).map Int.ofNat) else none
open Go.Proofs.YtfjemaeidmikmaaDoorW.PrintWords in
theorem byteset_Bytes.calls (a0_0 a0_1 a0_2 a0_3 : Int) (r : List Int) (w : World) (hG : TabG w) (h : byteset_Bytes.f a0_0 a0_1 a0_2 a0_3 = some r) :
  Calls Tryd.prog 39 #[.agg #[.int .u64 a0_0, .int .u64 a0_1, .int .u64 a0_2, .int .u64 a0_3]] w fun e w' => ∃ v0_ : Value, e = .returned (v0_) ∧ Kd.R (Kd.int .u8) 5 w' w.heap.size (fun _ => True) v0_ r ∧ Below w.heap.size w w' := by
 unfold byteset_Bytes.f at h;split at h
 case isFalse => cases h
 case isTrue c =>
  injection h with h;subst h;obtain ⟨e0, e1, e2, e3⟩ := setI_cast c;have hw := bytes_walk (setI a0_0 a0_1 a0_2 a0_3) (setI_wf c) w hG;rw [e0, e1, e2, e3] at hw;refine hw.mono ?_;rintro e w' ⟨v, rfl, ho, hb⟩;refine ⟨v, rfl, Kd.R_of_own (enc := Value.int .u8) (h1 := fun _ => rfl) ?_ (fun _ _ => trivial), hb⟩;rw [List.length_map, natB_encs];exact ho
end Go.Proofs.YtfjemaeidmikmaaDoorQ
