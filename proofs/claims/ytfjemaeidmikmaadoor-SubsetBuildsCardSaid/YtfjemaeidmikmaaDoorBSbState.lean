import Derived.Test.YtfjemaeidmikmaaDoorBM2
import Derived.Test.YtfjemaeidmikmaaDoorBQ0
import Derived.Test.YtfjemaeidmikmaaDoorBM3
import Derived.Deep.RegionLaw
set_option linter.unusedVariables false
set_option linter.unusedSimpArgs false
namespace Go.Proofs.YtfjemaeidmikmaaDoorQ
open Go.RowKit Go.Maps Go.Proofs.YtfjemaeidmikmaaDoorW.PrintWords Go.Proofs.YtfjemaeidmikmaaDoorW.PrintLast Go.Proofs.YtfjemaeidmikmaaDoor
abbrev KS : Kd (List Int) := Kd.slice 3 (Kd.int .i64)
structure SB (w : World) (b0 p m : Nat) (h0 h1 h2 h3 v : Value) (S : List (List Int)) (D : DataW Unit) (n : Nat) (ok : Nat → Prop) : Prop where
  blk : w.heap[p]? = some (.cells #[h0, h1, h2, h3, v, .map (some m)] 57 (0, 0))
  own : w.ownsMap Tryd.prog 9 (plainElem Tryd.prog 3) m n D
  map : KMap D S
  sets : Kd.R KS 27 w b0 ok v S
  okp : ∀ k, ok k → k ≠ p ∧ k ≠ m
  pm : p ≠ m
  le : b0 ≤ p ∧ b0 ≤ m
  nn : n ≤ S.length
theorem SB.lt {w : World} {b0 p m : Nat} {h0 h1 h2 h3 v : Value} {S : List (List Int)} {D : DataW Unit} {n : Nat} {ok : Nat → Prop} (h : SB w b0 p m h0 h1 h2 h3 v S D n ok) : p < w.heap.size := (Array.getElem?_eq_some_iff.1 h.blk).1
theorem SB.step {w w1 : World} {b0 p m : Nat} {h0 h1 h2 h3 v : Value} {S : List (List Int)} {D : DataW Unit} {n : Nat} {ok : Nat → Prop} (h : SB w b0 p m h0 h1 h2 h3 v S D n ok) (hb : Below w.heap.size w w1) : SB w1 b0 p m h0 h1 h2 h3 v S D n ok :=
  ⟨(hb.block p h.lt).trans h.blk, h.own.kept (row := none) ⟨hb.os, hb.tape, hb.output, hb.size, fun k hk _ => hb.block k hk⟩ (by simp), h.map, Kd.R_below h.sets hb, h.okp, h.pm, h.le, h.nn⟩
theorem SB.cells {w : World} {b0 p m : Nat} {h0 h1 h2 h3 v : Value} {S : List (List Int)} {D : DataW Unit} {n : Nat} {ok : Nat → Prop} (h : SB w b0 p m h0 h1 h2 h3 v S D n ok) :
    w.cell? ⟨p, 0, none⟩ = some h0 ∧ w.cell? ⟨p, 1, none⟩ = some h1 ∧ w.cell? ⟨p, 2, none⟩ = some h2 ∧ w.cell? ⟨p, 3, none⟩ = some h3 ∧ w.cell? ⟨p, 4, none⟩ = some v ∧ w.cell? ⟨p, 5, none⟩ = some (.map (some m)) ∧ w.frozen? ⟨p, 4, none⟩ = false := by
  refine ⟨?_, ?_, ?_, ?_, ?_, ?_, frozen_of_row w p 4 _ _ h.blk⟩
  · rw [cell_of_row w p 0 _ _ _ h.blk]; rfl
  · rw [cell_of_row w p 1 _ _ _ h.blk]; rfl
  · rw [cell_of_row w p 2 _ _ _ h.blk]; rfl
  · rw [cell_of_row w p 3 _ _ _ h.blk]; rfl
  · rw [cell_of_row w p 4 _ _ _ h.blk]; rfl
  · rw [cell_of_row w p 5 _ _ _ h.blk]; rfl
structure Sty (p m : Nat) (v v1 : Value) (w w1 : World) : Prop where
  size : w.heap.size ≤ w1.heap.size
  keep : ∀ b, b < w.heap.size → b ≠ p → b ≠ m → some b ≠ v.ownBlock → w1.heap[b]? = w.heap[b]?
  row : v1.ownBlock = v.ownBlock ∨ ∃ b, v1.ownBlock = some b ∧ w.heap.size ≤ b
theorem Sty.of_below {p m : Nat} {v : Value} {w w1 : World} (h : Below w.heap.size w w1) : Sty p m v v w w1 := ⟨h.size, fun b hb _ _ _ => h.block b hb, .inl rfl⟩
theorem R_sty {α : Type} {d : Kd α} {e base : Nat} {u : Value} {xs : List α} {ok : Nat → Prop} {p m : Nat} {v v1 : Value} {w w1 : World} (h : d.R e w base (fun k => (ok k ∧ k ≠ p ∧ k ≠ m) ∧ some k ≠ v.ownBlock) u xs) (hs : Sty p m v v1 w w1) : d.R e w1 base (fun k => (ok k ∧ k ≠ p ∧ k ≠ m) ∧ some k ≠ v1.ownBlock) u xs := by
  refine Kd.R_mono (Kd.R_step (Kd.R_bound h) (fun k hk hlt => hs.keep k hlt hk.1.1.2.1 hk.1.1.2.2 hk.1.2)) (fun k hk => ⟨hk.1.1, ?_⟩)
  rcases hs.row with e1 | ⟨b, e1, hb⟩
  · rw [e1]; exact hk.1.2
  · rw [e1]
    intro q
    injection q with q
    have := hk.2.2.1
    omega
theorem info_ints : (Tryd.prog.info? 27).map (fun i => (i.zero, i.size, i.bytes)) = some (some (.slice none 0 0), 1, 24) := by kernel_rfl
set_option maxRecDepth 100000 in
set_option maxHeartbeats 3200000 in
theorem state_sb {w : World} {b0 p m : Nat} {h0 h1 h2 h3 v : Value} {S : List (List Int)} {D : DataW Unit} {n : Nat} {ok : Nat → Prop} (hB : SB w b0 p m h0 h1 h2 h3 v S D n ok) (hS : S.length ≤ 100000) (hfresh : ∀ k, w.heap.size ≤ k → ok k) (hbase : b0 ≤ w.heap.size)
    (A : Option Addr) (c : Nat) (t : List Int) (ht : Kd.R (Kd.int .i64) 3 w b0 (fun k => ok k ∧ some k ≠ v.ownBlock) (.slice A t.length c) t) (hok : okT t) :
    Calls Tryd.prog 40 #[.pointer (some ⟨p, 0, none⟩), .slice A t.length c] w fun e w' => ∃ v' D' n', e = .returned (.int .i64 ((knS S t).2 : Nat)) ∧ SB w' b0 p m h0 h1 h2 h3 v' (knS S t).1 D' n' ok ∧ Sty p m v v' w w' ∧ Below b0 w w' := by
  have hC := (Kd.R_reads' ht).2.2
  have hkey := key_any A t.length c t w (reads_of_C hC) hok.1 hok.2
  have HKEY := Lib.hid hkey
  have HB := Lib.hid hB
  have HT := Lib.hid ht
  have HF := Lib.hid hfresh
  have HOK := Lib.hid hok
  have HSL := Lib.hid hS
  clear hC hkey hB ht hfresh hok hS
  go_enter Tryd.func40, Tryd.ntmps40
  go_wp2_with fail
  refine HKEY.out.mono ?_
  rintro e w1 ⟨rfl, hb1⟩
  have hB1 := HB.out.step hb1
  have HB1 := Lib.hid hB1
  obtain ⟨k0, k1, k2, k3, k4, k5, f4⟩ := hB1.cells
  have hown := hB1.own
  have hmp := hB1.map
  clear hB1
  have hpk := t_key HOK.out
  have HPK := Lib.hid hpk
  clear hpk
  by_cases hin : t ∈ S
  · have hhas := (hmp.has t HOK.out).trans (decide_eq_true hin)
    have hat0 := hmp.atKey t HOK.out hin
    have HAT := Lib.hid hat0
    have HIN := Lib.hid hin
    have HBB := Lib.hid hb1
    clear hat0 hin hmp hb1
    go_wp2_with (at_lookup; refine wpList_lookup_own_ok_int _ rfl _ _ 54 rfl 9 3 .i64 str_keyed Tryd.underlying54 Tryd.underlying3 (zero_int3 _) m n D rfl hown _ _ rfl HPK.out ?_; intro c0 hat hwc)
    go_ret
    have hc0 : c0 = ((S.idxOf t : Nat) : Int) := by
      rw [HAT.out] at hat
      injection hat with hat
      injection hat with _ hat
      exact hat.symm
    subst hc0
    have hkn : knS S t = (S, S.idxOf t) := by unfold knS; rw [if_pos HIN.out]
    rw [hkn]
    exact ⟨v, D, n, rfl, HB1.out, Sty.of_below HBB.out, HBB.out.mono hbase⟩
  · have hhas := (hmp.has t HOK.out).trans (decide_eq_false hin)
    have HIN := Lib.hid hin
    have HBB := Lib.hid hb1
    obtain ⟨As, cs, rfl⟩ := Kd.R_slice HB1.out.sets
    have HTD := Lib.hid (hown.tidy str_keyed)
    have HMP := Lib.hid hmp
    have hSl := HSL.out
    have hnn := HB1.out.nn
    clear hin hmp hb1
    obtain ⟨w2, hrun, hown2, hg2⟩ := hown.drew.update (t := 54) (e := 3) str_keyed Tryd.underlying54 (n := n) (show n < maxLen by unfold maxLen; omega) HPK.out (val := .int .i64 (S.length : Int)) (d := .lit (.int .i64 (S.length : Int))) (ps := []) (plainElem_int Tryd.underlying3 (WalkArith.wf_i64 (by omega)))
    go_wp2_with (first
      | (at_lookup; refine wpList_lookup_own_ok_int _ rfl _ _ 54 rfl 9 3 .i64 str_keyed Tryd.underlying54 Tryd.underlying3 (zero_int3 _) m n D rfl hown _ _ rfl HPK.out ?_; intro c0 hat hwc))
    go_region
    have hpm := HB1.out.pm
    have hp1 : p < w1.heap.size := HB1.out.lt
    have hblk2 : w2.heap[p]? = some (.cells #[h0, h1, h2, h3, .slice As S.length cs, .map (some m)] 57 (0, 0)) := (hg2.block p hp1 (fun e => hpm (Option.some.inj e))).trans HB1.out.blk
    have hs2 : Kd.R KS 27 w2 b0 ok (.slice As S.length cs) S := Kd.R_grown (Kd.R_drew HB1.out.sets) hg2 (fun k hk e => (HB1.out.okp k hk).2 (Option.some.inj e))
    have ht2 : Kd.R (Kd.int .i64) 3 w2 b0 (fun k => ok k ∧ some k ≠ (Value.slice As S.length cs).ownBlock) (.slice A t.length c) t := Kd.R_grown (Kd.R_drew (Kd.R_below HT.out HBB.out)) hg2 (fun k hk e => (HB1.out.okp k hk.1).2 (Option.some.inj e))
    have hz2 : w1.heap.size ≤ w2.heap.size := hg2.size
    have hz1 : w.heap.size ≤ w1.heap.size := HBB.out.size
    have hb2 : Below b0 w w2 := (below_drew (HBB.out.mono hbase)).grown hg2 (Nat.le_trans hbase hz1) (fun j hj => by cases hj; exact HB.out.le.2)
    have g4 : w2.cell? ⟨p, 4, none⟩ = some (.slice As S.length cs) := by rw [cell_of_row w2 p 4 _ _ _ hblk2]; rfl
    have hnp : ∀ k, (Value.slice As S.length cs).ownBlock = some k → k ≠ p ∧ k ≠ m := fun k hk => HB1.out.okp k (hs2.1 k hk)
    have HS2 := Lib.hid hs2
    have HT2 := Lib.hid ht2
    have HB2 := Lib.hid hb2
    have HBK := Lib.hid hblk2
    have HG2 := Lib.hid hg2
    have HOW := Lib.hid hown2
    have HNP := Lib.hid hnp
    clear hs2 ht2 hb2 hblk2 hg2 hown2 hnp hown hrun hat k0 k1 k2 k3 k4 k5 f4
    go_wp2_with (at_builtin; refine Kd.R_append KS (w0 := w) b0 rfl (.tmp 35) (.tmp 37) 55 27 (.slice none 0 0) 24 rfl Tryd.underlying55 info_ints rfl (by decide) (by omega) (.slice As S.length cs) S t [.slice A t.length c] ok (fun k => ok k ∧ some k ≠ (Value.slice As S.length cs).ownBlock) rfl rfl ⟨_, rfl, HT2.out⟩ (fun _ hk => hk) (fun k hk => HF.out k (by omega)) HS2.out HB2.out (by omega) (by omega) ?_; intro v3 w3 hs3 hb3 hg3 hat3; obtain ⟨A3, c3, rfl⟩ := Kd.R_slice hs3; have hblk3 := (hg3.block p (by omega) (fun e => (HNP.out p e.symm).1 rfl)).trans HBK.out; have g43 : w3.cell? ⟨p, 4, none⟩ = some (.slice As S.length cs) := (cell_of_row w3 p 4 _ _ _ hblk3).trans rfl; have f43 : w3.frozen? ⟨p, 4, none⟩ = false := frozen_of_row w3 p 4 _ _ hblk3; have HS3 := Lib.hid hs3; have HBX := Lib.hid hb3; have HGX := Lib.hid hg3; have HAT3 := Lib.hid hat3; have HB3 := Lib.hid hblk3; clear hs3 hb3 hg3 hat3 hblk3)
    go_ret
    have hkn : knS S t = (S ++ [t], S.length) := by unfold knS; rw [if_neg HIN.out]
    rw [hkn]
    have hw3 := HGX.out
    have hblk4 := heap_setCell_same w3 p 4 _ _ (.slice A3 (S ++ [t]).length c3) HB3.out
    refine ⟨.slice A3 (S ++ [t]).length c3, D.put (tk t) (.lit (.int .i64 (S.length : Int))), n + 1, Go.Proofs.YtfjemaeidmikmaaDoor.ret_int (by simp), ⟨?_, ?_, ?_, ?_, HB.out.okp, hpm, HB.out.le, by simp; omega⟩, ?_, ?_⟩
    · simpa using hblk4
    · exact (HOW.out.kept hw3 (fun e => (HNP.out m e.symm).2 rfl)).setCell (fun e => hpm e.symm) _
    · exact KMap.new HTD.out HMP.out HOK.out HIN.out rfl
    · exact Kd.R_far HS3.out (fun k hk => (HB.out.okp k hk).1) _
    · have hz3 : w2.heap.size ≤ w3.heap.size := hw3.size
      refine ⟨by simp; omega, fun b hb hbp hbm hbv => ?_, ?_⟩
      · rw [heap_setCell_other _ _ b _ (by simpa using hbp), hw3.block b (by omega) hbv, HG2.out.block b (show b < w1.heap.size by omega) (fun e => hbm (Option.some.inj e)), ← HBB.out.block b hb]
        rfl
      · rcases HAT3.out with e | ⟨q, e, hq⟩
        · exact .inl e
        · exact .inr ⟨q, e, by omega⟩
    · exact HBX.out.setCell (show b0 ≤ p from HB.out.le.1) _
end Go.Proofs.YtfjemaeidmikmaaDoorQ
