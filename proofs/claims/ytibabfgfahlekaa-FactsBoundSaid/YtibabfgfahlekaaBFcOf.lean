/- Pruned from its seat's text: what the theorem hangs on. -/
import Derived.Test.YtibabfgfahlekaaBFcOf0
import Derived.Test.YtibabfgfahlekaaBTree1
/- The walk of package facts: Of. -/
set_option linter.unusedVariables false
set_option linter.unusedSimpArgs false
namespace Go.Proofs.Ytibabfgfahlekaa
open Go.RowKit Go.Proofs.Bs

theorem info_fa : (Try.prog.info? 31).map (fun i => (i.zero, i.size, i.bytes)) = some (some (.agg #[.bool false, .int .i64 0, .int .i64 0, .int .u64 0, .int .u64 0, .int .u64 0, .int .u64 0, .bool false]), 8, 64) := by kernel_rfl
theorem flat_take {α : Type} (f : α → List Value) (size : Nat) (hf : ∀ x, (f x).length = size) (l : List α) (m : Nat) : (l.flatMap f).take (m * size) = (l.take m).flatMap f := by
  have e : l.flatMap f = (l.take m).flatMap f ++ (l.drop m).flatMap f := by rw [← List.flatMap_append, List.take_append_drop]
  by_cases hm : m ≤ l.length
  · rw [e, List.take_left' (by rw [flat_length f size hf, List.length_take, Nat.min_eq_left hm])]
  · rw [List.take_of_length_le (by rw [flat_length f size hf]; exact Nat.mul_le_mul_right _ (by omega)), List.take_of_length_le (by omega)]
theorem flat_drop {α : Type} (f : α → List Value) (size : Nat) (hf : ∀ x, (f x).length = size) (l : List α) (m : Nat) : (l.flatMap f).drop (m * size) = (l.drop m).flatMap f := by
  have e : l.flatMap f = (l.take m).flatMap f ++ (l.drop m).flatMap f := by rw [← List.flatMap_append, List.take_append_drop]
  by_cases hm : m ≤ l.length
  · rw [e, List.drop_left' (by rw [flat_length f size hf, List.length_take, Nat.min_eq_left hm])]
  · rw [List.drop_eq_nil_of_le (by rw [flat_length f size hf]; exact Nat.mul_le_mul_right _ (by omega)), show l.drop m = [] from List.drop_eq_nil_of_le (by omega)]
    rfl

theorem fof_no (A : Option Addr) (n c : Nat) (l : List Nd) (w : World) (h : Reads w 7 A n (l.flatMap Nd.cells)) (hn : n ≤ 1000000) (hr : rightB l = false) :
    Calls Try.prog 13 #[.slice A n c] w fun e w' => e = .returned (.tuple #[Fa.zero.v, .int .i64 3]) ∧ Below w.heap.size w w' := by
  have HR := Lib.hid hr
  clear hr
  go_enter Try.func13, Try.ntmps13
  go_wp2_with fail
  refine (right_any A n c l _ (h.below (bel_alloc (Below.refl _ _) _)) (by omega)).mono ?_
  rw [HR.out]
  rintro e w1 ⟨rfl, hb1⟩
  have z0 : w1.cell? ⟨w.heap.size, 0, none⟩ = some (.bool false) := (hb1.cell (p := ⟨w.heap.size, 0, none⟩) (by simp)).trans (by go_simp)
  have z1 : w1.cell? ⟨w.heap.size, 1, none⟩ = some (.int .i64 0) := (hb1.cell (p := ⟨w.heap.size, 1, none⟩) (by simp)).trans (by go_simp)
  have z2 : w1.cell? ⟨w.heap.size, 2, none⟩ = some (.int .i64 0) := (hb1.cell (p := ⟨w.heap.size, 2, none⟩) (by simp)).trans (by go_simp)
  have z3 : w1.cell? ⟨w.heap.size, 3, none⟩ = some (.int .u64 0) := (hb1.cell (p := ⟨w.heap.size, 3, none⟩) (by simp)).trans (by go_simp)
  have z4 : w1.cell? ⟨w.heap.size, 4, none⟩ = some (.int .u64 0) := (hb1.cell (p := ⟨w.heap.size, 4, none⟩) (by simp)).trans (by go_simp)
  have z5 : w1.cell? ⟨w.heap.size, 5, none⟩ = some (.int .u64 0) := (hb1.cell (p := ⟨w.heap.size, 5, none⟩) (by simp)).trans (by go_simp)
  have z6 : w1.cell? ⟨w.heap.size, 6, none⟩ = some (.int .u64 0) := (hb1.cell (p := ⟨w.heap.size, 6, none⟩) (by simp)).trans (by go_simp)
  have z7 : w1.cell? ⟨w.heap.size, 7, none⟩ = some (.bool false) := (hb1.cell (p := ⟨w.heap.size, 7, none⟩) (by simp)).trans (by go_simp)
  have fz : ∀ j, w1.frozen? ⟨w.heap.size, j, none⟩ = false := fun j => (hb1.frozen (p := ⟨w.heap.size, j, none⟩) (by simp)).trans (by go_simp)
  have hbX : Below w.heap.size w w1 := bel_then (bel_alloc (Below.refl _ _) _) hb1
  clear hb1
  go_wp2_with fail
  refine bodyPost_ret (v := .tuple #[Fa.zero.v, .int .i64 3]) (by simp [results, Try.results13, go_sem, z0, z1, z2, z3, z4, z5, z6, z7, fz]; rfl) rfl ⟨rfl, ?_⟩
  repeat (first | with_reducible exact Below.refl _ _ | with_reducible assumption | with_reducible refine bel_drew ?_ | with_reducible refine bel_alloc ?_ _ | with_reducible refine bel_setb ?_ (by omega) _)

set_option maxRecDepth 100000 in
set_option maxHeartbeats 6400000 in
theorem fof_yes (A : Option Addr) (n c : Nat) (l : List Nd) (w : World) (h : Reads w 7 A n (l.flatMap Nd.cells)) (hn : n ≤ 1000000) (hr : rightB l = true) (hws : ∀ x ∈ l, x.set.wf) :
    Calls Try.prog 13 #[.slice A n c] w fun e w' => e = .returned (.tuple #[(ofFa l).v, .int .i64 0]) ∧ Below w.heap.size w w' := by
  have hl := h.length Nd.cells Nd.cells_length (by omega)
  have hend := aStack_end fFact l hr
  rw [hl] at hend
  have HL := Lib.hid hl
  have HR := Lib.hid hr
  have HEND := Lib.hid hend
  have HWS := Lib.hid hws
  clear hr hl hend hws
  go_enter Try.func13, Try.ntmps13
  go_wp2_with fail
  refine (right_any A n c l _ (h.below (bel_alloc (Below.refl _ _) _)) (by omega)).mono ?_
  rw [HR.out]
  rintro e w1 ⟨rfl, hb1⟩
  have z0 : w1.cell? ⟨w.heap.size, 0, none⟩ = some (.bool false) := (hb1.cell (p := ⟨w.heap.size, 0, none⟩) (by simp)).trans (by go_simp)
  have z1 : w1.cell? ⟨w.heap.size, 1, none⟩ = some (.int .i64 0) := (hb1.cell (p := ⟨w.heap.size, 1, none⟩) (by simp)).trans (by go_simp)
  have z2 : w1.cell? ⟨w.heap.size, 2, none⟩ = some (.int .i64 0) := (hb1.cell (p := ⟨w.heap.size, 2, none⟩) (by simp)).trans (by go_simp)
  have z3 : w1.cell? ⟨w.heap.size, 3, none⟩ = some (.int .u64 0) := (hb1.cell (p := ⟨w.heap.size, 3, none⟩) (by simp)).trans (by go_simp)
  have z4 : w1.cell? ⟨w.heap.size, 4, none⟩ = some (.int .u64 0) := (hb1.cell (p := ⟨w.heap.size, 4, none⟩) (by simp)).trans (by go_simp)
  have z5 : w1.cell? ⟨w.heap.size, 5, none⟩ = some (.int .u64 0) := (hb1.cell (p := ⟨w.heap.size, 5, none⟩) (by simp)).trans (by go_simp)
  have z6 : w1.cell? ⟨w.heap.size, 6, none⟩ = some (.int .u64 0) := (hb1.cell (p := ⟨w.heap.size, 6, none⟩) (by simp)).trans (by go_simp)
  have z7 : w1.cell? ⟨w.heap.size, 7, none⟩ = some (.bool false) := (hb1.cell (p := ⟨w.heap.size, 7, none⟩) (by simp)).trans (by go_simp)
  have fz : ∀ j, w1.frozen? ⟨w.heap.size, j, none⟩ = false := fun j => (hb1.frozen (p := ⟨w.heap.size, j, none⟩) (by simp)).trans (by go_simp)
  have hlt1 : w.heap.size < w1.heap.size := Nat.lt_of_lt_of_le (by simp) hb1.size
  have hbX : Below w.heap.size w w1 := bel_then (bel_alloc (Below.refl _ _) _) hb1
  have h1 := h.below hbX
  have HZ := Lib.hid (show Lies w1 w.heap.size Fa.zero ∧ ∀ j, w1.frozen? ⟨w.heap.size, j, none⟩ = false from ⟨⟨z0, z1, z2, z3, z4, z5, z6, z7⟩, fz⟩)
  clear hb1 z0 z1 z2 z3 z4 z5 z6 z7 fz
  go_wp2_with fail
  go_loopw [4, 5, 17] (fun s en i wr => ∃ (A1 : Option Addr) (c1 q k : Nat) (ds : List Fa), s = .slice A1 q c1 ∧ wr.ownsRow w1.heap.size 31 8 (.slice A1 q c1) q (ds.flatMap Fa.cells) ∧ en = .bool (endsB (l.take k)) ∧ i = .int .i64 k ∧ k ≤ n ∧ q ≤ k ∧ aStack fFact l k = ds ∧ (∀ d ∈ ds, d.ok) ∧ Below w1.heap.size w1 wr) (fun _ _ i _ => n - (intOf i).toNat)
  case atStart => exact ⟨none, 0, 0, 0, [], rfl, own_new, rfl, rfl, by omega, by omega, rfl, (fun d hd => by cases hd), Below.refl _ _⟩
  case round =>
    obtain ⟨A1, c1, q, k, ds, rfl, HO, rfl, rfl, hk, hqk, hs, hds, hb⟩ := hrel
    have hq : ds.length = q := by have := HO.1; rw [flat_length Fa.cells 8 Fa.cells_length] at this; omega
    have HS := Lib.hid hs
    have HD := Lib.hid hds
    have HQ := Lib.hid hq
    clear hs hds hq
    by_cases hlt : k < n
    · obtain ⟨ad, x, hA, hx, c0, c1_, c2, c3, c4, c5, c6⟩ := (h1.below hb).nd hlt
      subst hA
      have hst := stack_room l HR.out k x hx
      rw [← aStack_length fFact, HS.out, HQ.out] at hst
      obtain ⟨ha0, haq⟩ := hst
      have hfl : fieldsB x = true := by
        have := (((rightB_iff l).1 HR.out).2.1 k (by rw [HL.out]; exact hlt)).2
        rw [List.getD_eq_getElem?_getD, hx] at this
        exact this
      have hwf := HWS.out x (List.mem_of_getElem? hx)
      have hstep : aStack fFact l (k + 1) = ds.take (q - (arity x.kind).toNat) ++ [fFact x (ds.drop (q - (arity x.kind).toNat))] := by
        have hg : l.getD k zNd = x := by rw [List.getD_eq_getElem?_getD, hx]; rfl
        rw [aStack, hg, aStep, HS.out, HQ.out]
      have hdl : (ds.drop (q - (arity x.kind).toNat)).length = (arity x.kind).toNat := by rw [List.length_drop, HQ.out]; omega
      have hdb : ∀ d ∈ ds.drop (q - (arity x.kind).toNat), d.ok := fun d hd => HD.out d (List.mem_of_mem_drop hd)
      have hok := ok_fact hfl ha0 hwf hdl hdb
      have hone0 := fone_any x _ hfl ha0 hdl hdb
      have hends := endsB_succ hx
      obtain ⟨av, hav⟩ := Int.eq_ofNat_of_zero_le ha0
      rw [hav] at hstep hdl hdb hok hone0 haq
      rw [Int.toNat_natCast] at hstep hdl hdb hok hone0 haq
      have ha2 : av ≤ 2 := by have := arity_hi x.kind; omega
      have HST := Lib.hid hstep
      have HDL := Lib.hid hdl
      have HAV := Lib.hid hav
      have HOK := Lib.hid hok
      have HEN := Lib.hid hends
      have HON := Lib.hid hone0
      clear hfl hstep hdl hdb ha0 hav hok hends hone0 hwf hx
      obtain ⟨r, rfl⟩ : ∃ r, q = r + av := ⟨q - av, by omega⟩
      rw [Nat.add_sub_cancel] at HST HDL HOK HON
      obtain ⟨Ac, hcutA, hrc⟩ := cut_from (P := Try.prog) 67 31 .i64 Try.underlying67 info_fa A1 (r + av) c1 (r : Int) r rfl (by omega) (own_le HO).2
      have hqc := (own_le HO).2
      rw [Nat.add_sub_cancel_left] at hcutA hrc
      have HRC := Lib.hid hrc
      clear hrc haq
      go_wp2_with fail
      refine (args_any _ _).mono ?_
      rw [HAV.out]
      rintro e w2 ⟨rfl, hw2⟩
      subst hw2
      have b0 : (wr.alloc (.cells #[.int .i64 x.kind, .int .u64 x.set.a, .int .u64 x.set.b, .int .u64 x.set.c, .int .u64 x.set.d, .int .i64 x.lo, .int .i64 x.hi] 63)).cell? ⟨wr.heap.size, 0, none⟩ = some (.int .i64 x.kind) := by go_simp
      have b1 : (wr.alloc (.cells #[.int .i64 x.kind, .int .u64 x.set.a, .int .u64 x.set.b, .int .u64 x.set.c, .int .u64 x.set.d, .int .i64 x.lo, .int .i64 x.hi] 63)).cell? ⟨wr.heap.size, 1, none⟩ = some (.int .u64 x.set.a) := by go_simp
      have b2 : (wr.alloc (.cells #[.int .i64 x.kind, .int .u64 x.set.a, .int .u64 x.set.b, .int .u64 x.set.c, .int .u64 x.set.d, .int .i64 x.lo, .int .i64 x.hi] 63)).cell? ⟨wr.heap.size, 2, none⟩ = some (.int .u64 x.set.b) := by go_simp
      have b3 : (wr.alloc (.cells #[.int .i64 x.kind, .int .u64 x.set.a, .int .u64 x.set.b, .int .u64 x.set.c, .int .u64 x.set.d, .int .i64 x.lo, .int .i64 x.hi] 63)).cell? ⟨wr.heap.size, 3, none⟩ = some (.int .u64 x.set.c) := by go_simp
      have b4 : (wr.alloc (.cells #[.int .i64 x.kind, .int .u64 x.set.a, .int .u64 x.set.b, .int .u64 x.set.c, .int .u64 x.set.d, .int .i64 x.lo, .int .i64 x.hi] 63)).cell? ⟨wr.heap.size, 4, none⟩ = some (.int .u64 x.set.d) := by go_simp
      have b5 : (wr.alloc (.cells #[.int .i64 x.kind, .int .u64 x.set.a, .int .u64 x.set.b, .int .u64 x.set.c, .int .u64 x.set.d, .int .i64 x.lo, .int .i64 x.hi] 63)).cell? ⟨wr.heap.size, 5, none⟩ = some (.int .i64 x.lo) := by go_simp
      have b6 : (wr.alloc (.cells #[.int .i64 x.kind, .int .u64 x.set.a, .int .u64 x.set.b, .int .u64 x.set.c, .int .u64 x.set.d, .int .i64 x.lo, .int .i64 x.hi] 63)).cell? ⟨wr.heap.size, 6, none⟩ = some (.int .i64 x.hi) := by go_simp
      have hb2 := bel_alloc hb (.cells #[.int .i64 x.kind, .int .u64 x.set.a, .int .u64 x.set.b, .int .u64 x.set.c, .int .u64 x.set.d, .int .i64 x.lo, .int .i64 x.hi] 63)
      have HO2 := HO.alloc (.cells #[.int .i64 x.kind, .int .u64 x.set.a, .int .u64 x.set.b, .int .u64 x.set.c, .int .u64 x.set.d, .int .i64 x.lo, .int .i64 x.hi] 63)
      have hwz : wr.heap.size < (wr.alloc (.cells #[.int .i64 x.kind, .int .u64 x.set.a, .int .u64 x.set.b, .int .u64 x.set.c, .int .u64 x.set.d, .int .i64 x.lo, .int .i64 x.hi] 63)).heap.size := by simp
      have hob : ∀ b, (Value.slice A1 r c1).ownBlock = some b → b < wr.heap.size := fun b hb_ => (HO.lt b (by cases A1 <;> exact hb_)).2
      have hrd := HRC.out _ _ (Reads.of_own HO2)
      have e1 : (ds.flatMap Fa.cells).drop (r * 8) = (ds.drop r).flatMap Fa.cells := flat_drop Fa.cells 8 Fa.cells_length ds r
      have e2 : (ds.flatMap Fa.cells).take (r * 8) = (ds.take r).flatMap Fa.cells := flat_take Fa.cells 8 Fa.cells_length ds r
      rw [e1] at hrd
      have htk := own_take HO2 r (by omega)
      rw [e2] at htk
      clear HRC e1 e2 HO HO2 hb c0 c1_ c2 c3 c4 c5 c6
      generalize wr.alloc (.cells #[.int .i64 x.kind, .int .u64 x.set.a, .int .u64 x.set.b, .int .u64 x.set.c, .int .u64 x.set.d, .int .i64 x.lo, .int .i64 x.hi] 63) = W2 at *
      have hone : ∀ W, Below W2.heap.size W2 W → Calls Try.prog 37 #[.agg #[.int .i64 x.kind, .int .u64 x.set.a, .int .u64 x.set.b, .int .u64 x.set.c, .int .u64 x.set.d, .int .i64 x.lo, .int .i64 x.hi], .slice Ac av (c1 - r)] W fun e w' => e = .returned (fFact x (ds.drop r)).v ∧ Below W.heap.size W w' := fun W hW =>
        HON.out Ac av (c1 - r) HDL.out.symm W (hrd.below hW)
      have HR2 := HOK.out
      generalize hRR : fFact x (ds.drop r) = R at *
      have HRR := Lib.hid hRR
      clear hRR HON HOK
      simp only [Fa.v] at hone
      have HR3 := Lib.hid HR2
      clear HR2
      go_upto_region 9 with fail
      go_cut [9] (fun s9 wx => ∃ p : Nat, s9 = .pointer (some ⟨p, 0, none⟩) ∧ W2.heap.size ≤ p ∧ Lies wx p R ∧ (∀ j, wx.frozen? ⟨p, j, none⟩ = false) ∧ p < wx.heap.size ∧ Below W2.heap.size W2 wx)
      case first =>
        have keepS : ∀ w', Below W2.heap.size W2 w' → (w'.cell? ⟨wr.heap.size, 0, none⟩ = some (.int .i64 x.kind) ∧ w'.cell? ⟨wr.heap.size, 1, none⟩ = some (.int .u64 (x.set.a : Int)) ∧ w'.cell? ⟨wr.heap.size, 2, none⟩ = some (.int .u64 (x.set.b : Int)) ∧ w'.cell? ⟨wr.heap.size, 3, none⟩ = some (.int .u64 (x.set.c : Int)) ∧ w'.cell? ⟨wr.heap.size, 4, none⟩ = some (.int .u64 (x.set.d : Int)) ∧ w'.cell? ⟨wr.heap.size, 5, none⟩ = some (.int .i64 x.lo) ∧ w'.cell? ⟨wr.heap.size, 6, none⟩ = some (.int .i64 x.hi)) := fun w' hX => ⟨cell_below hX b0, cell_below hX b1, cell_below hX b2, cell_below hX b3, cell_below hX b4, cell_below hX b5, cell_below hX b6⟩
        refine wp_region_noPanic ?_
        refine wp_region_held_drew (S := fun w' => w'.cell? ⟨wr.heap.size, 0, none⟩ = some (.int .i64 x.kind) ∧ w'.cell? ⟨wr.heap.size, 1, none⟩ = some (.int .u64 (x.set.a : Int)) ∧ w'.cell? ⟨wr.heap.size, 2, none⟩ = some (.int .u64 (x.set.b : Int)) ∧ w'.cell? ⟨wr.heap.size, 3, none⟩ = some (.int .u64 (x.set.c : Int)) ∧ w'.cell? ⟨wr.heap.size, 4, none⟩ = some (.int .u64 (x.set.d : Int)) ∧ w'.cell? ⟨wr.heap.size, 5, none⟩ = some (.int .i64 x.lo) ∧ w'.cell? ⟨wr.heap.size, 6, none⟩ = some (.int .i64 x.hi)) (by kernel_rfl) (keepS _ (bel_drew (Below.refl _ _))) (fun hHeld => ?_)
        refine wpAnyH_take (i := 0) (v := ?_) rfl (by kernel_rfl) (by kernel_rfl) (by kernel_rfl) (fun _ _ _ h => h) (Or.inl ⟨by kernel_rfl, ?_⟩) (by assumption) ?_
        rotate_left
        · intro w hSw
          try dsimp only at hSw
          go_simp
          try with_reducible rfl
        try simp only [List.getElem_toArray, List.getElem_cons_zero, List.getElem_cons_succ, Act.put, List.setIfInBounds_toArray, List.set_cons_zero, List.set_cons_succ]
        refine wpAnyH_take (i := 1) (v := ?_) rfl (by kernel_rfl) (by kernel_rfl) (by kernel_rfl) (fun _ _ _ h => h) (Or.inl ⟨by kernel_rfl, ?_⟩) (by assumption) ?_
        rotate_left
        · intro w hSw
          try dsimp only at hSw
          go_simp
          try with_reducible rfl
        try simp only [List.getElem_toArray, List.getElem_cons_zero, List.getElem_cons_succ, Act.put, List.setIfInBounds_toArray, List.set_cons_zero, List.set_cons_succ]
        refine wpAnyH_take (i := 2) (v := ?_) rfl (by kernel_rfl) (by kernel_rfl) (by kernel_rfl) (fun _ _ _ h => h) (Or.inl ⟨by kernel_rfl, ?_⟩) (by assumption) ?_
        rotate_left
        · intro w hSw
          try dsimp only at hSw
          go_simp
          try with_reducible rfl
        try simp only [List.getElem_toArray, List.getElem_cons_zero, List.getElem_cons_succ, Act.put, List.setIfInBounds_toArray, List.set_cons_zero, List.set_cons_succ]
        refine wpAnyH_take (i := 3) (v := ?_) rfl (by kernel_rfl) (by kernel_rfl) (by kernel_rfl) (fun _ _ _ h => h) (Or.inl ⟨by kernel_rfl, ?_⟩) (by assumption) ?_
        rotate_left
        · intro w hSw
          try dsimp only at hSw
          go_simp
          try with_reducible rfl
        try simp only [List.getElem_toArray, List.getElem_cons_zero, List.getElem_cons_succ, Act.put, List.setIfInBounds_toArray, List.set_cons_zero, List.set_cons_succ]
        refine wpAnyH_ready (rs := [4, 5]) (by kernel_rfl) (by simp) ?_
        refine AllReadyH.cons rfl (fun K hK => ?_) (AllReadyH.cons rfl (fun K hK => ?_) AllReadyH.nil)
        · go_simp
          refine (hone _ (by repeat (first | with_reducible exact Below.refl _ _ | with_reducible assumption | with_reducible refine bel_drew ?_ | with_reducible refine bel_alloc ?_ _ | with_reducible refine bel_setb ?_ (by omega) _))).mono ?_
          rintro e w' ⟨rfl, hb'⟩
          have hX4 : Below W2.heap.size W2 w' := by
            refine bel_then ?_ hb'
            repeat (first | with_reducible exact Below.refl _ _ | with_reducible assumption | with_reducible refine bel_drew ?_ | with_reducible refine bel_alloc ?_ _ | with_reducible refine bel_setb ?_ (by omega) _)
          clear hb'
          refine hK.out _ _ (keepS _ hX4) (fun hHeld => ?_)
          clear hK K
          try simp only [List.getElem_toArray, List.getElem_cons_zero, List.getElem_cons_succ, Act.put, List.setIfInBounds_toArray, List.set_cons_zero, List.set_cons_succ]
          refine wpAnyH_ready (rs := [5]) (by kernel_rfl) (by simp) ?_
          refine AllReadyH.cons rfl (fun K hK => ?_) AllReadyH.nil
          go_simp
          refine hK.out _ _ ?_ (fun hHeld => ?_)
          · refine keepS _ ?_
            repeat (first | with_reducible exact Below.refl _ _ | with_reducible assumption | with_reducible refine bel_drew ?_ | with_reducible refine bel_alloc ?_ _ | with_reducible refine bel_setb ?_ (by omega) _)
          clear hK K
          try simp only [List.getElem_toArray, List.getElem_cons_zero, List.getElem_cons_succ, Act.put, List.setIfInBounds_toArray, List.set_cons_zero, List.set_cons_succ]
          refine wpAnyH_ready (rs := [6]) (by kernel_rfl) (by simp) ?_
          refine AllReadyH.cons rfl (fun K hK => ?_) AllReadyH.nil
          go_simp
          refine hK.out _ _ ?_ (fun hHeld => ?_)
          · refine keepS _ ?_
            repeat (first | with_reducible exact Below.refl _ _ | with_reducible assumption | with_reducible refine bel_drew ?_ | with_reducible refine bel_alloc ?_ _ | with_reducible refine bel_setb ?_ (by omega) _)
          clear hK K
          try simp only [List.getElem_toArray, List.getElem_cons_zero, List.getElem_cons_succ, Act.put, List.setIfInBounds_toArray, List.set_cons_zero, List.set_cons_succ]
          refine wpAnyH_done (by kernel_rfl) ?_ _
          refine NoPanic.normal ?_
          clear hHeld keepS hone
          obtain ⟨s1, s2, s3⟩ := stored1 w' 31 R
          have hzz := hX4.size
          go_wp2_with fail
          go_meet
          refine ⟨w'.heap.size, rfl, by omega, s1, s2, s3, ?_⟩
          repeat (first | with_reducible exact Below.refl _ _ | with_reducible assumption | with_reducible refine bel_drew ?_ | with_reducible refine bel_alloc ?_ _ | with_reducible refine bel_setb ?_ (by omega) _)
        · go_simp
          refine hK.out _ _ ?_ (fun hHeld => ?_)
          · refine keepS _ ?_
            repeat (first | with_reducible exact Below.refl _ _ | with_reducible assumption | with_reducible refine bel_drew ?_ | with_reducible refine bel_alloc ?_ _ | with_reducible refine bel_setb ?_ (by omega) _)
          clear hK K
          try simp only [List.getElem_toArray, List.getElem_cons_zero, List.getElem_cons_succ, Act.put, List.setIfInBounds_toArray, List.set_cons_zero, List.set_cons_succ]
          refine wpAnyH_ready (rs := [4]) (by kernel_rfl) (by simp) ?_
          refine AllReadyH.cons rfl (fun K hK => ?_) AllReadyH.nil
          go_simp
          refine (hone _ (by repeat (first | with_reducible exact Below.refl _ _ | with_reducible assumption | with_reducible refine bel_drew ?_ | with_reducible refine bel_alloc ?_ _ | with_reducible refine bel_setb ?_ (by omega) _))).mono ?_
          rintro e w' ⟨rfl, hb'⟩
          have hX4 : Below W2.heap.size W2 w' := by
            refine bel_then ?_ hb'
            repeat (first | with_reducible exact Below.refl _ _ | with_reducible assumption | with_reducible refine bel_drew ?_ | with_reducible refine bel_alloc ?_ _ | with_reducible refine bel_setb ?_ (by omega) _)
          have g0 : w'.cell? ⟨W2.heap.size, 0, none⟩ = some (.bool false) := (hb'.cell (p := ⟨W2.heap.size, 0, none⟩) (by simp)).trans (by go_simp)
          have g1 : w'.cell? ⟨W2.heap.size, 1, none⟩ = some (.int .i64 0) := (hb'.cell (p := ⟨W2.heap.size, 1, none⟩) (by simp)).trans (by go_simp)
          have g2 : w'.cell? ⟨W2.heap.size, 2, none⟩ = some (.int .i64 0) := (hb'.cell (p := ⟨W2.heap.size, 2, none⟩) (by simp)).trans (by go_simp)
          have g3 : w'.cell? ⟨W2.heap.size, 3, none⟩ = some (.int .u64 0) := (hb'.cell (p := ⟨W2.heap.size, 3, none⟩) (by simp)).trans (by go_simp)
          have g4 : w'.cell? ⟨W2.heap.size, 4, none⟩ = some (.int .u64 0) := (hb'.cell (p := ⟨W2.heap.size, 4, none⟩) (by simp)).trans (by go_simp)
          have g5 : w'.cell? ⟨W2.heap.size, 5, none⟩ = some (.int .u64 0) := (hb'.cell (p := ⟨W2.heap.size, 5, none⟩) (by simp)).trans (by go_simp)
          have g6 : w'.cell? ⟨W2.heap.size, 6, none⟩ = some (.int .u64 0) := (hb'.cell (p := ⟨W2.heap.size, 6, none⟩) (by simp)).trans (by go_simp)
          have g7 : w'.cell? ⟨W2.heap.size, 7, none⟩ = some (.bool false) := (hb'.cell (p := ⟨W2.heap.size, 7, none⟩) (by simp)).trans (by go_simp)
          have gf : ∀ j, w'.frozen? ⟨W2.heap.size, j, none⟩ = false := fun j => (hb'.frozen (p := ⟨W2.heap.size, j, none⟩) (by simp)).trans (by go_simp)
          have gz : W2.heap.size < w'.heap.size := Nat.lt_of_lt_of_le (by simp) hb'.size
          clear hb'
          refine hK.out _ _ (keepS _ hX4) (fun hHeld => ?_)
          clear hK K
          try simp only [List.getElem_toArray, List.getElem_cons_zero, List.getElem_cons_succ, Act.put, List.setIfInBounds_toArray, List.set_cons_zero, List.set_cons_succ]
          refine wpAnyH_ready (rs := [6]) (by kernel_rfl) (by simp) ?_
          refine AllReadyH.cons rfl (fun K hK => ?_) AllReadyH.nil
          go_simp
          refine hK.out _ _ ?_ (fun hHeld => ?_)
          · refine keepS _ ?_
            repeat (first | with_reducible exact Below.refl _ _ | with_reducible assumption | with_reducible refine bel_drew ?_ | with_reducible refine bel_alloc ?_ _ | with_reducible refine bel_setb ?_ (by omega) _)
          clear hK K
          try simp only [List.getElem_toArray, List.getElem_cons_zero, List.getElem_cons_succ, Act.put, List.setIfInBounds_toArray, List.set_cons_zero, List.set_cons_succ]
          refine wpAnyH_done (by kernel_rfl) ?_ _
          refine NoPanic.normal ?_
          clear hHeld keepS hone
          go_wp2_with fail
          go_meet
          refine ⟨W2.heap.size, rfl, by omega, ⟨by go_simp, by go_simp, by go_simp, by go_simp, by go_simp, by go_simp, by go_simp, by go_simp⟩, fun j => by go_simp, by simpa using gz, ?_⟩
          repeat (first | with_reducible exact Below.refl _ _ | with_reducible assumption | with_reducible refine bel_drew ?_ | with_reducible refine bel_alloc ?_ _ | with_reducible refine bel_setb ?_ (by omega) _)
      case rest =>
        clear hcutA hone b1 b2 b3 b4 b5 b6
        obtain ⟨p, rfl, hp, ⟨r0, r1, r2, r3, r4, r5, r6, r7⟩, frz, hzx, hX⟩ := hcut
        have k0 := cell_below hX b0
        have hb3 := bel_then hb2 hX
        have htk3 := own_below htk hX
        have hbz : w1.heap.size ≤ wc.heap.size := hb3.size
        clear hb2 htk b0 hrd
        have hrc1 : r ≤ c1 := by omega
        have hnp : some p ≠ (Value.slice A1 r c1).ownBlock := fun e => by have := hob p e.symm; omega
        have hnk : some wr.heap.size ≠ (Value.slice A1 r c1).ownBlock := fun e => by have := hob _ e.symm; omega
        generalize heb : endsB (l.take k) = eb at *
        clear heb hob
        go_upto_region 10 with fail
        have keepT : ∀ w', Below wc.heap.size wc w' → (w'.cell? ⟨p, 0, none⟩ = some (.bool R.never) ∧ w'.cell? ⟨p, 1, none⟩ = some (.int .i64 R.least) ∧ w'.cell? ⟨p, 2, none⟩ = some (.int .i64 R.most) ∧ w'.cell? ⟨p, 3, none⟩ = some (.int .u64 (R.first.a : Int)) ∧ w'.cell? ⟨p, 4, none⟩ = some (.int .u64 (R.first.b : Int)) ∧ w'.cell? ⟨p, 5, none⟩ = some (.int .u64 (R.first.c : Int)) ∧ w'.cell? ⟨p, 6, none⟩ = some (.int .u64 (R.first.d : Int)) ∧ w'.cell? ⟨p, 7, none⟩ = some (.bool R.ends) ∧ w'.cell? ⟨wr.heap.size, 0, none⟩ = some (.int .i64 x.kind)) := fun w' hX => ⟨cell_below hX r0, cell_below hX r1, cell_below hX r2, cell_below hX r3, cell_below hX r4, cell_below hX r5, cell_below hX r6, cell_below hX r7, cell_below hX k0⟩
        refine wp_region_noPanic ?_
        refine wp_region_held_drew (S := fun w' => w'.cell? ⟨p, 0, none⟩ = some (.bool R.never) ∧ w'.cell? ⟨p, 1, none⟩ = some (.int .i64 R.least) ∧ w'.cell? ⟨p, 2, none⟩ = some (.int .i64 R.most) ∧ w'.cell? ⟨p, 3, none⟩ = some (.int .u64 (R.first.a : Int)) ∧ w'.cell? ⟨p, 4, none⟩ = some (.int .u64 (R.first.b : Int)) ∧ w'.cell? ⟨p, 5, none⟩ = some (.int .u64 (R.first.c : Int)) ∧ w'.cell? ⟨p, 6, none⟩ = some (.int .u64 (R.first.d : Int)) ∧ w'.cell? ⟨p, 7, none⟩ = some (.bool R.ends) ∧ w'.cell? ⟨wr.heap.size, 0, none⟩ = some (.int .i64 x.kind)) (by kernel_rfl) (keepT _ (bel_drew (Below.refl _ _))) (fun hHeld => ?_)
        refine wpAnyH_take (i := 0) (v := ?_) rfl (by kernel_rfl) (by kernel_rfl) (by kernel_rfl) (fun _ _ _ h => h) (Or.inl ⟨by kernel_rfl, ?_⟩) (by assumption) ?_
        rotate_left
        · intro w hSw
          try dsimp only at hSw
          go_simp
          try with_reducible rfl
        try simp only [List.getElem_toArray, List.getElem_cons_zero, List.getElem_cons_succ, Act.put, List.setIfInBounds_toArray, List.set_cons_zero, List.set_cons_succ]
        refine wpAnyH_take (i := 1) (v := ?_) rfl (by kernel_rfl) (by kernel_rfl) (by kernel_rfl) (fun _ _ _ h => h) (Or.inl ⟨by kernel_rfl, ?_⟩) (by assumption) ?_
        rotate_left
        · intro w hSw
          try dsimp only at hSw
          go_simp
          try with_reducible rfl
        try simp only [List.getElem_toArray, List.getElem_cons_zero, List.getElem_cons_succ, Act.put, List.setIfInBounds_toArray, List.set_cons_zero, List.set_cons_succ]
        refine wpAnyH_take (i := 2) (v := ?_) rfl (by kernel_rfl) (by kernel_rfl) (by kernel_rfl) (fun _ _ _ h => h) (Or.inl ⟨by kernel_rfl, ?_⟩) (by assumption) ?_
        rotate_left
        · intro w hSw
          try dsimp only at hSw
          go_simp
          try with_reducible rfl
        try simp only [List.getElem_toArray, List.getElem_cons_zero, List.getElem_cons_succ, Act.put, List.setIfInBounds_toArray, List.set_cons_zero, List.set_cons_succ]
        refine wpAnyH_take (i := 3) (v := ?_) rfl (by kernel_rfl) (by kernel_rfl) (by kernel_rfl) (fun _ _ _ h => h) (Or.inl ⟨by kernel_rfl, ?_⟩) (by assumption) ?_
        rotate_left
        · intro w hSw
          try dsimp only at hSw
          go_simp
          try with_reducible rfl
        try simp only [List.getElem_toArray, List.getElem_cons_zero, List.getElem_cons_succ, Act.put, List.setIfInBounds_toArray, List.set_cons_zero, List.set_cons_succ]
        refine wpAnyH_ready (rs := [4]) (by kernel_rfl) (by simp) ?_
        refine AllReadyH.cons rfl (fun K hK => ?_) AllReadyH.nil
        go_simp
        refine hK.out _ _ ?_ (fun hHeld => ?_)
        · refine keepT _ ?_
          repeat (first | with_reducible exact Below.refl _ _ | with_reducible assumption | with_reducible refine bel_drew ?_ | with_reducible refine bel_alloc ?_ _ | with_reducible refine bel_setb ?_ (by omega) _)
        clear hK K
        try simp only [List.getElem_toArray, List.getElem_cons_zero, List.getElem_cons_succ, Act.put, List.setIfInBounds_toArray, List.set_cons_zero, List.set_cons_succ]
        refine wpAnyH_ready (rs := [5]) (by kernel_rfl) (by simp) ?_
        refine AllReadyH.cons rfl (fun K hK => ?_) AllReadyH.nil
        refine Go.Proofs.YtibabfgfahlekaaW.PrintWords.step_append_cells (w0 := w1) w1.heap.size (by rfl) (.tmp 34) (.tmp 36) 67 31 (.agg #[.bool false, .int .i64 0, .int .i64 0, .int .u64 0, .int .u64 0, .int .u64 0, .int .u64 0, .bool false]) 8 64 rfl Try.underlying67 info_fa rfl (by decide) (by omega) _ r ((ds.take r).flatMap Fa.cells) R.cells rfl rfl rfl (by simp [Fa.cells, Value.oneCell']) (own_below htk3 (bel_drew (Below.refl _ _))) (bel_drew hb3) hbz (by omega) ?_
        intro v1 w4 hown hb4 hg4 hat
        clear hat
        obtain ⟨A3, c3, rfl⟩ := own_slice hown
        have k4 : w4.cell? ⟨wr.heap.size, 0, none⟩ = some (.int .i64 x.kind) := hg4.cell (show wc.drew.cell? ⟨wr.heap.size, 0, none⟩ = _ from k0) hnk
        refine hK.out _ _ ?_ (fun hHeld => ?_)
        · exact ⟨hg4.cell (show wc.drew.cell? ⟨p, 0, none⟩ = _ from r0) hnp, hg4.cell (show wc.drew.cell? ⟨p, 1, none⟩ = _ from r1) hnp, hg4.cell (show wc.drew.cell? ⟨p, 2, none⟩ = _ from r2) hnp, hg4.cell (show wc.drew.cell? ⟨p, 3, none⟩ = _ from r3) hnp, hg4.cell (show wc.drew.cell? ⟨p, 4, none⟩ = _ from r4) hnp, hg4.cell (show wc.drew.cell? ⟨p, 5, none⟩ = _ from r5) hnp, hg4.cell (show wc.drew.cell? ⟨p, 6, none⟩ = _ from r6) hnp, hg4.cell (show wc.drew.cell? ⟨p, 7, none⟩ = _ from r7) hnp, k4⟩
        clear hg4
        clear hK K
        try simp only [List.getElem_toArray, List.getElem_cons_zero, List.getElem_cons_succ, Act.put, List.setIfInBounds_toArray, List.set_cons_zero, List.set_cons_succ]
        refine wpAnyH_take (i := 6) (v := ?_) rfl (by kernel_rfl) (by kernel_rfl) (by kernel_rfl) (fun _ _ _ h => h) (Or.inl ⟨by kernel_rfl, ?_⟩) (by assumption) ?_
        rotate_left
        · intro w hSw
          try dsimp only at hSw
          go_simp
          try with_reducible rfl
        try simp only [List.getElem_toArray, List.getElem_cons_zero, List.getElem_cons_succ, Act.put, List.setIfInBounds_toArray, List.set_cons_zero, List.set_cons_succ]
        refine wpAnyH_done (by kernel_rfl) ?_ _
        refine NoPanic.normal ?_
        clear hHeld keepT hb3 htk3 hX r0 r1 r2 r3 r4 r5 r6 r7 k0 frz hzx hnp hnk
        cases eb with
        | true =>
          go_wp2_with fail
          go_roundw
          case rel =>
            refine ⟨A3, c3, r + 1, k + 1, ds.take r ++ [R], rfl, by simpa [List.flatMap_append] using hown, by rw [HEN.out]; simp [], by go_num, by omega, by omega, HST.out, fun d hd => ?_, hb4⟩
            rcases List.mem_append.1 hd with hd | hd
            · exact HD.out d (List.mem_of_mem_take hd)
            · rw [List.mem_singleton.1 hd]; exact HR3.out
          case measure => simp [intOf] <;> omega
        | false =>
          by_cases k3 : x.kind = 3
          · have K3 := Lib.hid k3
            rw [k3] at k4
            clear k3
            go_wp2_with fail
            go_roundw
            case rel =>
              refine ⟨A3, c3, r + 1, k + 1, ds.take r ++ [R], rfl, by simpa [List.flatMap_append] using hown, by rw [HEN.out]; simp [K3.out], by go_num, by omega, by omega, HST.out, fun d hd => ?_, hb4⟩
              rcases List.mem_append.1 hd with hd | hd
              · exact HD.out d (List.mem_of_mem_take hd)
              · rw [List.mem_singleton.1 hd]; exact HR3.out
            case measure => simp [intOf] <;> omega
          · by_cases k5 : x.kind = 4
            · have K3 := Lib.hid k5
              rw [k5] at k4
              clear k3 k5
              go_wp2_with fail
              go_roundw
              case rel =>
                refine ⟨A3, c3, r + 1, k + 1, ds.take r ++ [R], rfl, by simpa [List.flatMap_append] using hown, by rw [HEN.out]; simp [K3.out], by go_num, by omega, by omega, HST.out, fun d hd => ?_, hb4⟩
                rcases List.mem_append.1 hd with hd | hd
                · exact HD.out d (List.mem_of_mem_take hd)
                · rw [List.mem_singleton.1 hd]; exact HR3.out
              case measure => simp [intOf] <;> omega
            · have e3 : (x.kind == 3) = false := by simpa using k3
              have e4 : (x.kind == 4) = false := by simpa using k5
              have K3 := Lib.hid k3
              have K4 := Lib.hid k5
              clear k3 k5
              go_wp2_with fail
              go_roundw
              case rel =>
                refine ⟨A3, c3, r + 1, k + 1, ds.take r ++ [R], rfl, by simpa [List.flatMap_append] using hown, by rw [HEN.out]; simp [K3.out, K4.out], by go_num, by omega, by omega, HST.out, fun d hd => ?_, hb4⟩
                rcases List.mem_append.1 hd with hd | hd
                · exact HD.out d (List.mem_of_mem_take hd)
                · rw [List.mem_singleton.1 hd]; exact HR3.out
              case measure => simp [intOf] <;> omega
    · obtain rfl : k = n := by omega
      have hse := HEND.out
      rw [HS.out] at hse
      have hq1 : q = 1 := by rw [← HQ.out, hse]; rfl
      subst hq1
      rw [hse] at HO
      have hlk : l.length = k := HL.out
      have htl : l.take k = l := by rw [← hlk]; exact List.take_length
      have hR : Reads wr 8 A1 1 (attr fFact l (k - 1)).cells := by simpa using Reads.of_own HO
      have hF : (ofFa l).v = .agg #[.bool (attr fFact l (k - 1)).never, .int .i64 (attr fFact l (k - 1)).least, .int .i64 (attr fFact l (k - 1)).most, .int .u64 (attr fFact l (k - 1)).first.a, .int .u64 (attr fFact l (k - 1)).first.b, .int .u64 (attr fFact l (k - 1)).first.c, .int .u64 (attr fFact l (k - 1)).first.d, .bool (endsB l)] := by
        unfold ofFa
        rw [hlk]
        rfl
      rw [htl]
      generalize attr fFact l (k - 1) = R at *
      generalize endsB l = eb at *
      obtain ⟨ad2, rfl, hc⟩ := hR.2 (by omega)
      have c0 : wr.cell? ad2 = some (.bool R.never) := hc 0 _ rfl
      have c1_ : wr.cell? ⟨ad2.block, ad2.off + 1, none⟩ = some (.int .i64 R.least) := hc 1 _ rfl
      have c2 : wr.cell? ⟨ad2.block, ad2.off + 2, none⟩ = some (.int .i64 R.most) := hc 2 _ rfl
      have c3 : wr.cell? ⟨ad2.block, ad2.off + 3, none⟩ = some (.int .u64 R.first.a) := hc 3 _ rfl
      have c4 : wr.cell? ⟨ad2.block, ad2.off + 4, none⟩ = some (.int .u64 R.first.b) := hc 4 _ rfl
      have c5 : wr.cell? ⟨ad2.block, ad2.off + 5, none⟩ = some (.int .u64 R.first.c) := hc 5 _ rfl
      have c6 : wr.cell? ⟨ad2.block, ad2.off + 6, none⟩ = some (.int .u64 R.first.d) := hc 6 _ rfl
      have c7 : wr.cell? ⟨ad2.block, ad2.off + 7, none⟩ = some (.bool R.ends) := hc 7 _ rfl
      obtain ⟨z0, z1, z2, z3, z4, z5, z6, z7⟩ := HZ.out.1.below hb
      have fz : ∀ j, wr.frozen? ⟨w.heap.size, j, none⟩ = false := fun j => (hb.frozen (p := ⟨w.heap.size, j, none⟩) hlt1).trans (HZ.out.2 j)
      simp only [Fa.zero, S.zero] at z0 z1 z2 z3 z4 z5 z6 z7
      have hbW := bel_then hbX hb
      have hsz : w.heap.size < wr.heap.size := Nat.lt_of_lt_of_le hlt1 hb.size
      have hn1 : w.heap.size ≠ wr.heap.size := by omega
      have hn2 : wr.heap.size ≠ w.heap.size := by omega
      have HV := Lib.hid hF
      clear hF hse hR hc HO HS HD HQ HEND HWS HR HL h h1 hbX hb htl hlk HZ
      go_upto_region 14 with fail
      have q0 : (wr.alloc (.cells #[.bool R.never, .int .i64 R.least, .int .i64 R.most, .int .u64 (R.first.a : Int), .int .u64 (R.first.b : Int), .int .u64 (R.first.c : Int), .int .u64 (R.first.d : Int), .bool R.ends] 31)).cell? ⟨wr.heap.size, 0, none⟩ = some (.bool R.never) := by go_simp
      have q1 : (wr.alloc (.cells #[.bool R.never, .int .i64 R.least, .int .i64 R.most, .int .u64 (R.first.a : Int), .int .u64 (R.first.b : Int), .int .u64 (R.first.c : Int), .int .u64 (R.first.d : Int), .bool R.ends] 31)).cell? ⟨wr.heap.size, 1, none⟩ = some (.int .i64 R.least) := by go_simp
      have q2 : (wr.alloc (.cells #[.bool R.never, .int .i64 R.least, .int .i64 R.most, .int .u64 (R.first.a : Int), .int .u64 (R.first.b : Int), .int .u64 (R.first.c : Int), .int .u64 (R.first.d : Int), .bool R.ends] 31)).cell? ⟨wr.heap.size, 2, none⟩ = some (.int .i64 R.most) := by go_simp
      have q3 : (wr.alloc (.cells #[.bool R.never, .int .i64 R.least, .int .i64 R.most, .int .u64 (R.first.a : Int), .int .u64 (R.first.b : Int), .int .u64 (R.first.c : Int), .int .u64 (R.first.d : Int), .bool R.ends] 31)).cell? ⟨wr.heap.size, 3, none⟩ = some (.int .u64 (R.first.a : Int)) := by go_simp
      have q4 : (wr.alloc (.cells #[.bool R.never, .int .i64 R.least, .int .i64 R.most, .int .u64 (R.first.a : Int), .int .u64 (R.first.b : Int), .int .u64 (R.first.c : Int), .int .u64 (R.first.d : Int), .bool R.ends] 31)).cell? ⟨wr.heap.size, 4, none⟩ = some (.int .u64 (R.first.b : Int)) := by go_simp
      have q5 : (wr.alloc (.cells #[.bool R.never, .int .i64 R.least, .int .i64 R.most, .int .u64 (R.first.a : Int), .int .u64 (R.first.b : Int), .int .u64 (R.first.c : Int), .int .u64 (R.first.d : Int), .bool R.ends] 31)).cell? ⟨wr.heap.size, 5, none⟩ = some (.int .u64 (R.first.c : Int)) := by go_simp
      have q6 : (wr.alloc (.cells #[.bool R.never, .int .i64 R.least, .int .i64 R.most, .int .u64 (R.first.a : Int), .int .u64 (R.first.b : Int), .int .u64 (R.first.c : Int), .int .u64 (R.first.d : Int), .bool R.ends] 31)).cell? ⟨wr.heap.size, 6, none⟩ = some (.int .u64 (R.first.d : Int)) := by go_simp
      have q7 : (wr.alloc (.cells #[.bool R.never, .int .i64 R.least, .int .i64 R.most, .int .u64 (R.first.a : Int), .int .u64 (R.first.b : Int), .int .u64 (R.first.c : Int), .int .u64 (R.first.d : Int), .bool R.ends] 31)).cell? ⟨wr.heap.size, 7, none⟩ = some (.bool R.ends) := by go_simp
      have qf : ∀ j, (wr.alloc (.cells #[.bool R.never, .int .i64 R.least, .int .i64 R.most, .int .u64 (R.first.a : Int), .int .u64 (R.first.b : Int), .int .u64 (R.first.c : Int), .int .u64 (R.first.d : Int), .bool R.ends] 31)).frozen? ⟨wr.heap.size, j, none⟩ = false := fun j => by go_simp
      replace z0 := cell_alloc z0 (.cells #[.bool R.never, .int .i64 R.least, .int .i64 R.most, .int .u64 (R.first.a : Int), .int .u64 (R.first.b : Int), .int .u64 (R.first.c : Int), .int .u64 (R.first.d : Int), .bool R.ends] 31)
      replace z1 := cell_alloc z1 (.cells #[.bool R.never, .int .i64 R.least, .int .i64 R.most, .int .u64 (R.first.a : Int), .int .u64 (R.first.b : Int), .int .u64 (R.first.c : Int), .int .u64 (R.first.d : Int), .bool R.ends] 31)
      replace z2 := cell_alloc z2 (.cells #[.bool R.never, .int .i64 R.least, .int .i64 R.most, .int .u64 (R.first.a : Int), .int .u64 (R.first.b : Int), .int .u64 (R.first.c : Int), .int .u64 (R.first.d : Int), .bool R.ends] 31)
      replace z3 := cell_alloc z3 (.cells #[.bool R.never, .int .i64 R.least, .int .i64 R.most, .int .u64 (R.first.a : Int), .int .u64 (R.first.b : Int), .int .u64 (R.first.c : Int), .int .u64 (R.first.d : Int), .bool R.ends] 31)
      replace z4 := cell_alloc z4 (.cells #[.bool R.never, .int .i64 R.least, .int .i64 R.most, .int .u64 (R.first.a : Int), .int .u64 (R.first.b : Int), .int .u64 (R.first.c : Int), .int .u64 (R.first.d : Int), .bool R.ends] 31)
      replace z5 := cell_alloc z5 (.cells #[.bool R.never, .int .i64 R.least, .int .i64 R.most, .int .u64 (R.first.a : Int), .int .u64 (R.first.b : Int), .int .u64 (R.first.c : Int), .int .u64 (R.first.d : Int), .bool R.ends] 31)
      replace z6 := cell_alloc z6 (.cells #[.bool R.never, .int .i64 R.least, .int .i64 R.most, .int .u64 (R.first.a : Int), .int .u64 (R.first.b : Int), .int .u64 (R.first.c : Int), .int .u64 (R.first.d : Int), .bool R.ends] 31)
      replace z7 := cell_alloc z7 (.cells #[.bool R.never, .int .i64 R.least, .int .i64 R.most, .int .u64 (R.first.a : Int), .int .u64 (R.first.b : Int), .int .u64 (R.first.c : Int), .int .u64 (R.first.d : Int), .bool R.ends] 31)
      have fy : ∀ j, (wr.alloc (.cells #[.bool R.never, .int .i64 R.least, .int .i64 R.most, .int .u64 (R.first.a : Int), .int .u64 (R.first.b : Int), .int .u64 (R.first.c : Int), .int .u64 (R.first.d : Int), .bool R.ends] 31)).frozen? ⟨w.heap.size, j, none⟩ = false := fun j => ((bel_alloc (Below.refl wr.heap.size wr) (.cells #[.bool R.never, .int .i64 R.least, .int .i64 R.most, .int .u64 (R.first.a : Int), .int .u64 (R.first.b : Int), .int .u64 (R.first.c : Int), .int .u64 (R.first.d : Int), .bool R.ends] 31)).frozen (p := ⟨w.heap.size, j, none⟩) hsz).trans (fz j)
      have hbY := bel_alloc hbW (.cells #[.bool R.never, .int .i64 R.least, .int .i64 R.most, .int .u64 (R.first.a : Int), .int .u64 (R.first.b : Int), .int .u64 (R.first.c : Int), .int .u64 (R.first.d : Int), .bool R.ends] 31)
      clear c0 c1_ c2 c3 c4 c5 c6 c7 fz hbW
      generalize (wr.alloc (.cells #[.bool R.never, .int .i64 R.least, .int .i64 R.most, .int .u64 (R.first.a : Int), .int .u64 (R.first.b : Int), .int .u64 (R.first.c : Int), .int .u64 (R.first.d : Int), .bool R.ends] 31)) = W3 at *
      go_wp2_with fail
      refine bodyPost_ret (v := .tuple #[(ofFa l).v, .int .i64 0]) (by rw [HV.out]; simp [results, Try.results13, go_sem, z0, z1, z2, z3, z4, z5, z6, z7, fy, hn1, hn2]) rfl ⟨(by first | rfl | rw [HV.out]), ?_⟩
      repeat (first | with_reducible exact Below.refl _ _ | with_reducible assumption | with_reducible refine bel_drew ?_ | with_reducible refine bel_alloc ?_ _ | with_reducible refine bel_setb ?_ (by omega) _)
end Go.Proofs.Ytibabfgfahlekaa
