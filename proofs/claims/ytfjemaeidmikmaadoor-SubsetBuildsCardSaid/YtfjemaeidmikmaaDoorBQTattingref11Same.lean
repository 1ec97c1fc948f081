import Derived.Test.YtfjemaeidmikmaaDoorBM1
import Derived.Test.YtfjemaeidmikmaaDoorBSbFirsts
import Derived.Test.YtfjemaeidmikmaaDoorBM2
import Derived.Test.YtfjemaeidmikmaaDoorBQTattingref10Same
set_option linter.unusedVariables false
set_option linter.unusedSimpArgs false
namespace Go.Proofs.YtfjemaeidmikmaaDoorQ
open Go.RowKit Go.Proofs.YtfjemaeidmikmaaDoorW.PrintWords Go.Proofs.YtfjemaeidmikmaaDoorW.PrintLast Go.Proofs.YtfjemaeidmikmaaDoor
theorem same10_l (l : List Int) (hn : l.length ≤ 1000000000) : ∀ (d i : Nat), l.length - i = d → i ≤ l.length → EV (fun k => tattingref10_Same.l0 k l l i) true := by
 intro d
 induction d with
 | zero =>
  intro i hd hi
  refine EV.stop fun k => ?_
  simp only [tattingref10_Same.l0]
  rw [if_neg (by omega)]
 | succ d ih =>
  intro i hd hi
  refine EV.step (ih (i + 1) (by omega) (by omega)) fun k => ?_
  simp only [tattingref10_Same.l0]
  rw [if_pos (by omega), if_pos (by omega), if_pos (by omega), up_w (by omega)]
  simp
theorem same10 (l : List Int) (hn : l.length ≤ 1000000000) : EV (fun k => tattingref10_Same.f k l l) true := by
 unfold tattingref10_Same.f
 exact EV.congr (fun k => if_pos rfl) (same10_l l hn l.length 0 (by omega) (by omega))
theorem two_blocks' (w : World) (o1 o2 : Obj) : ((w.alloc o1).alloc o2).heap[w.heap.size]? = some o1 ∧ ((w.alloc o1).alloc o2).heap[w.heap.size + 1]? = some o2 := by
 have h1 := heap_alloc_new (w.alloc o1) o2
 have hs : (w.alloc o1).heap.size = w.heap.size + 1 := by simp
 rw [hs] at h1
 refine ⟨?_, h1⟩
 rw [((below_alloc (Below.refl (w.alloc o1).heap.size (w.alloc o1)) o2).block w.heap.size (by omega))]
 exact heap_alloc_new w o1
theorem rowc {w : World} {g t : Nat} {v0 v1 v2 v3 v4 : Value} (h : w.heap[g]? = some (.cells #[v0, v1, v2, v3, v4] t (0, 0))) :
  w.cell? ⟨g, 0, none⟩ = some v0 ∧ w.cell? ⟨g, 1, none⟩ = some v1 ∧ w.cell? ⟨g, 2, none⟩ = some v2 ∧ w.cell? ⟨g, 3, none⟩ = some v3 ∧ w.cell? ⟨g, 4, none⟩ = some v4 := by
 refine ⟨?_, ?_, ?_, ?_, ?_⟩
 ·rw [cell_of_row w g 0 _ t _ h]; rfl
 ·rw [cell_of_row w g 1 _ t _ h]; rfl
 ·rw [cell_of_row w g 2 _ t _ h]; rfl
 ·rw [cell_of_row w g 3 _ t _ h]; rfl
 ·rw [cell_of_row w g 4 _ t _ h]; rfl
theorem drawn_below {w w1 : World} (h : Drawn0 w w1) : Below w.heap.size w w1 := by
 obtain ⟨n, rfl⟩ := h
 exact pw_below_drewN (Below.refl _ _) n
theorem drawn_cell {w w1 : World} (h : Drawn0 w w1) {a : Addr} {v : Value} (hc : w.cell? a = some v) : w1.cell? a = some v := by
 obtain ⟨n, rfl⟩ := h
 rw [← hc]
 rfl
set_option maxRecDepth 100000 in
set_option maxHeartbeats 3200000 in
theorem same_walk (A0 A3 A4 B0 B3 B4 : Option Addr) (c0 c3 c4 d0 d3 d4 : Nat) (cl nx : List Int) (ac : List Bool) (wd st : Int) (w : World)
  (h0 : Kd.C (Kd.int .i64) w A0 cl.length cl) (e0 : cl.length ≤ c0) (h3 : Kd.C (Kd.int .i64) w A3 nx.length nx) (e3 : nx.length ≤ c3) (h4 : Kd.C Kd.bool w A4 ac.length ac)
  (g0 : Kd.C (Kd.int .i64) w B0 cl.length cl) (k0 : cl.length ≤ d0) (g3 : Kd.C (Kd.int .i64) w B3 nx.length nx) (k3 : nx.length ≤ d3) (g4 : Kd.C Kd.bool w B4 ac.length ac)
  (n1 : cl.length ≤ 1000000000) (n2 : nx.length ≤ 1000000000) (n3 : ac.length ≤ 1000000) :
  Calls Tryd.prog 11 #[.agg #[.slice A0 cl.length c0, .int .i64 wd, .int .i64 st, .slice A3 nx.length c3, .slice A4 ac.length c4], .agg #[.slice B0 cl.length d0, .int .i64 wd, .int .i64 st, .slice B3 nx.length d3, .slice B4 ac.length d4]] w fun e w' => e = .returned (.bool true) ∧ Below w.heap.size w w' := by
 obtain ⟨p1, hp1⟩ := (same10 cl n1).ex
 obtain ⟨p2, hp2⟩ := (same10 nx n2).ex
 have hx := fun (W : World) (hb : Below w.heap.size w W) => tattingref10_Same.calls p1 A0 c0 cl B0 d0 cl true W (Kd.C_below h0 hb) e0 (Kd.C_below g0 hb) k0 hp1
 have hy := fun (W : World) (hb : Below w.heap.size w W) => tattingref10_Same.calls p2 A3 c3 nx B3 d3 nx true W (Kd.C_below h3 hb) e3 (Kd.C_below g3 hb) k3 hp2
 have HX := Lib.hid hx
 have HY := Lib.hid hy
 have H4 := Lib.hid h4
 have G4 := Lib.hid g4
 clear hx hy h0 h3 h4 g0 g3 g4 hp1 hp2 e0 e3 k0 k3
 go_enter Tryd.func11, Tryd.ntmps11
 go_wp2_with fail
 have hb0 := below_alloc (below_alloc (Below.refl w.heap.size w) (.cells #[.slice A0 cl.length c0, .int .i64 wd, .int .i64 st, .slice A3 nx.length c3, .slice A4 ac.length c4] 30)) (.cells #[.slice B0 cl.length d0, .int .i64 wd, .int .i64 st, .slice B3 nx.length d3, .slice B4 ac.length d4] 30)
 have h2 := two_blocks' w (.cells #[.slice A0 cl.length c0, .int .i64 wd, .int .i64 st, .slice A3 nx.length c3, .slice A4 ac.length c4] 30) (.cells #[.slice B0 cl.length d0, .int .i64 wd, .int .i64 st, .slice B3 nx.length d3, .slice B4 ac.length d4] 30)
 refine (HX.out _ hb0).mono ?_
 rintro e w1 ⟨rfl, hd⟩
 have hb1 := below_then hb0 hb0.size (drawn_below hd)
 have q := rowc (((drawn_below hd).block w.heap.size (by simp; omega)).trans h2.1)
 have q' := rowc (((drawn_below hd).block (w.heap.size + 1) (by simp)).trans h2.2)
 obtain ⟨q0, q1, q2, q3, q4⟩ := q
 obtain ⟨z0, z1, z2, z3, z4⟩ := q'
 have HB1 := Lib.hid hb1
 have HD := Lib.hid hd
 clear h2 hb0 hb1 hd
 go_wp2_with fail
 refine (HY.out _ HB1.out).mono ?_
 rintro e w2 ⟨rfl, hd2⟩
 replace q1 := drawn_cell hd2 q1
 replace q2 := drawn_cell hd2 q2
 replace q4 := drawn_cell hd2 q4
 replace z1 := drawn_cell hd2 z1
 replace z2 := drawn_cell hd2 z2
 replace z4 := drawn_cell hd2 z4
 have hb2 : Below w.heap.size w w2 := below_then HB1.out HB1.out.size (drawn_below hd2)
 have HB2 := Lib.hid hb2
 clear q0 q3 z0 z3 hd2 hb2
 go_wp2_with fail
 go_loopw [5] (fun x5 wr => ∃ i : Nat, x5 = .int .i64 i ∧ i ≤ ac.length ∧ Below w2.heap.size w2 wr) (fun x5 _ => ac.length - (intOf x5).toNat)
 case atStart => exact ⟨0, rfl, by omega, Below.refl _ _⟩
 case round =>
  obtain ⟨i, rfl, hi, hb⟩ := hrel
  have r4 := Go.Proofs.YtfjemaeidmikmaaDoor.cell_below hb q4
  have s4 := Go.Proofs.YtfjemaeidmikmaaDoor.cell_below hb z4
  by_cases hlt : i < ac.length
  ·have hlt' : (i : Int) < (ac.length : Int) := by omega
   have hbw : Below w.heap.size w wr := below_then HB2.out HB2.out.size hb
   obtain ⟨ad, rfl, t1⟩ := Kd.at_bool (Kd.C_below H4.out hbw) (i : Int) (by omega) hlt'
   obtain ⟨bd, rfl, t2⟩ := Kd.at_bool (Kd.C_below G4.out hbw) (i : Int) (by omega) hlt'
   rw [Int.toNat_natCast] at t1 t2
   have HBW := Lib.hid hb
   generalize rdOf false ac (i : Int) = bv at *
   clear hb hbw
   go_upto_region 6 with fail
   go_region
   go_wp2_with fail
   go_roundw
   case rel => exact ⟨i + 1, by go_num, by omega, below_drew HBW.out⟩
   case measure => simp [intOf] <;> omega
  ·obtain rfl : i = ac.length := by omega
   have HBW := Lib.hid hb
   clear hb
   go_wp2_with fail
   go_ret
   exact ⟨rfl, below_then HB2.out HB2.out.size HBW.out⟩
def tattingref11_Same.f (k : Nat) (l0_0 : List Int) (a0_1 a0_2 : Int) (l0_3 : List Int) (l0_4 : List Bool) (l1_0 : List Int) (a1_1 a1_2 : Int) (l1_3 : List Int) (l1_4 : List Bool) : Option Bool :=
 if (l0_0 = l1_0 ∧ a0_1 = a1_1 ∧ a0_2 = a1_2 ∧ l0_3 = l1_3 ∧ l0_4 = l1_4) ∧ l0_0.length ≤ 1000000000 ∧ l0_3.length ≤ 1000000000 ∧ l0_4.length ≤ 1000000 then some true else none
theorem tattingref11_Same.calls (k : Nat) (A0_0 : Option Addr) (c0_0 : Nat) (l0_0 : List Int) (a0_1 : Int) (a0_2 : Int) (A0_3 : Option Addr) (c0_3 : Nat) (l0_3 : List Int) (A0_4 : Option Addr) (c0_4 : Nat) (l0_4 : List Bool) (A1_0 : Option Addr) (c1_0 : Nat) (l1_0 : List Int) (a1_1 : Int) (a1_2 : Int) (A1_3 : Option Addr) (c1_3 : Nat) (l1_3 : List Int) (A1_4 : Option Addr) (c1_4 : Nat) (l1_4 : List Bool) (r : Bool) (w : World) (hr0_0 : Kd.C (Kd.int .i64) w A0_0 l0_0.length l0_0) (hc0_0 : l0_0.length ≤ c0_0) (hr0_3 : Kd.C (Kd.int .i64) w A0_3 l0_3.length l0_3) (hc0_3 : l0_3.length ≤ c0_3) (hr0_4 : Kd.C Kd.bool w A0_4 l0_4.length l0_4) (hc0_4 : l0_4.length ≤ c0_4) (hr1_0 : Kd.C (Kd.int .i64) w A1_0 l1_0.length l1_0) (hc1_0 : l1_0.length ≤ c1_0) (hr1_3 : Kd.C (Kd.int .i64) w A1_3 l1_3.length l1_3) (hc1_3 : l1_3.length ≤ c1_3) (hr1_4 : Kd.C Kd.bool w A1_4 l1_4.length l1_4) (hc1_4 : l1_4.length ≤ c1_4) (h : tattingref11_Same.f k l0_0 a0_1 a0_2 l0_3 l0_4 l1_0 a1_1 a1_2 l1_3 l1_4 = some r) :
  Calls Tryd.prog 11 #[.agg #[.slice A0_0 l0_0.length c0_0, .int .i64 a0_1, .int .i64 a0_2, .slice A0_3 l0_3.length c0_3, .slice A0_4 l0_4.length c0_4], .agg #[.slice A1_0 l1_0.length c1_0, .int .i64 a1_1, .int .i64 a1_2, .slice A1_3 l1_3.length c1_3, .slice A1_4 l1_4.length c1_4]] w fun e w' => e = .returned (.bool r) ∧ Below w.heap.size w w' := by
 unfold tattingref11_Same.f at h
 split at h
 case isFalse => cases h
 case isTrue c =>
  injection h with h
  subst h
  obtain ⟨⟨rfl, rfl, rfl, rfl, rfl⟩, m1, m2, m3⟩ := c
  exact same_walk A0_0 A0_3 A0_4 A1_0 A1_3 A1_4 c0_0 c0_3 c0_4 c1_0 c1_3 c1_4 l0_0 l0_3 l0_4 a0_1 a0_2 w hr0_0 hc0_0 hr0_3 hc0_3 hr0_4 hr1_0 hc1_0 hr1_3 hc1_3 hr1_4 m1 m2 m3
end Go.Proofs.YtfjemaeidmikmaaDoorQ
