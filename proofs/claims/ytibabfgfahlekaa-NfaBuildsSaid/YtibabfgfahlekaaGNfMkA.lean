/- Pruned from its seat's text: what the theorem hangs on. -/
import Derived.Test.YtibabfgfahlekaaGNfRef1
import Derived.Test.YtibabfgfahlekaaGNfMk0
import Derived.Test.YtibabfgfahlekaaGM3
import Derived.Test.YtibabfgfahlekaaGM2
import Derived.Deep.RegionHeld3
import Derived.KernelRfl
/- The document's Make at kind 1 and 2. -/
set_option linter.unusedVariables false
set_option linter.unusedSimpArgs false
namespace Go.Proofs.YtibabfgfahlekaaQ
open Go.RowKit Go.Proofs.YtibabfgfahlekaaW.PrintWords Go.Proofs.YtibabfgfahlekaaW.PrintLast Go.Proofs.Bs Go.Proofs.Ytibabfgfahlekaa

set_option maxRecDepth 100000 in
set_option maxHeartbeats 6400000 in
theorem make_k1 (A0 : Option Addr) (nn c0 : Nat) (l : List Nd) (hr : rightB l = true) (hnn : nn ≤ 1000000) (w0 : World) (hR : Reads w0 7 A0 nn (l.flatMap Nd.cells)) (i : Nat) (hi : i < l.length)
    (ih : ∀ m, m < i → m < l.length → MakeC (.slice A0 nn c0) m (attr fMk l m) (attr fSz l m) w0) (hkd : l[i].kind = 1) : MakeC (.slice A0 nn c0) i (attr fMk l i) (attr fSz l i) w0 := by
    obtain ⟨_, hall, _⟩ := (rightB_iff l).1 hr
    intro w sts A c hr0 hc h0 hsz
    have hf := (hall i hi).1
    have hx : l[i]? = some l[i] := List.getElem?_eq_getElem hi
    have hgx : l.getD i zNd = l[i] := by rw [List.getD_eq_getElem?_getD, hx]; rfl
    obtain ⟨ha, _⟩ := stack_room l hr i _ hx
    have hlen := kidsP_length l i _ hx hf
    have hfl := (hall i hi).2
    have hok := kidsP_ok l i hi hf
    have hmk := attr_eq fMk l i hi hf
    have hsz' := attr_eq fSz l i hi hf
    have hkok := fun y (hy : y ∈ kidsP l i) => mk_ok l hr y.toNat (by have := hok y hy; omega)
    have hkc := fun y (hy : y ∈ kidsP l i) => ih y.toNat (by have := hok y hy; omega) (by have := hok y hy; omega)
    have hln : l.length = nn := by have := hR.1; rw [flat_length Nd.cells 7 Nd.cells_length] at this; omega
    have hinn : i < nn := by omega
    rw [hgx] at hfl hmk hsz'
    have HR1 := Lib.hid (hR.below h0)
    have hx2 := hx
    generalize l[i] = x at *
    have hkids := rkids_any A0 nn c0 l i (w.alloc (.cells #[.slice none 0 0, .int .i64 0, .int .i64 0] 79)) (HR1.out.below (Go.Proofs.Ytibabfgfahlekaa.bel_alloc (Below.refl _ _) _)) hnn (by omega) hf
    have had : ∀ ad, A0 = some ad → ad.block < w.heap.size := fun ad e => by
      obtain ⟨ad', x', e', _, k0, _⟩ := HR1.out.nd (show i < nn by omega)
      have := World.block_lt_of_cell? _ _ k0
      have e2 : ad = ad' := Option.some.inj (e.symm.trans e')
      rw [e2]
      have h3 : (ad'.add (i * 7)).block = ad'.block := by unfold Addr.add; split <;> rfl
      omega
    have HAD := Lib.hid had
    clear had
    rw [hmk]
    rw [hsz'] at hsz
    clear hall hf hgx hmk hsz' ih
    generalize kidsP l i = ks at *
    have HCC := Lib.hid hr0
    have H0 := Lib.hid h0
    have HX := Lib.hid hx
    have HK := Lib.hid hkids
    have HKO := Lib.hid hkok
    have HKC := Lib.hid hkc
    clear hr0 h0 hx hx2 hkids hkok hkc
    obtain ⟨kd, ⟨s0, s1, s2, s3⟩, lo, hi'⟩ := x
    simp only at ha hlen hfl hsz hkd ⊢
    subst hkd
    obtain rfl : ks = [] := List.eq_nil_of_length_eq_zero hlen
    clear hlen
    simp only [List.map_nil] at hsz ⊢
    obtain ⟨R, hRM⟩ : ∃ R, fMk ⟨1, ⟨s0, s1, s2, s3⟩, lo, hi'⟩ [] sts = R := ⟨_, rfl⟩
    rw [hRM]
    have HRM := Lib.hid hRM
    clear hRM
    have hM : fMk ⟨1, ⟨s0, s1, s2, s3⟩, lo, hi'⟩ [] sts = ⟨sts ++ [⟨1, ((sts.length + 1 : Nat) : Int), 0, ⟨s0, s1, s2, s3⟩⟩, eSt], sts.length, sts.length + 1⟩ := by unfold fMk; simp [stKind, setZ, leafM]
    have HRM := Lib.hid (hM.symm.trans HRM.out)
    clear hM
    go_enter Try.func40, Try.ntmps40
    go_wp2_with fail
    refine HK.out.mono ?_
    rintro e w1 ⟨A1, c1, rfl, hOk, hb⟩
    have hbN : Below w.heap.size w w1 := (Go.Proofs.Ytibabfgfahlekaa.bel_alloc (Below.refl _ _) _).trans (hb.mono (by simp))
    have hrow : w1.heap[w.heap.size]? = some (.cells #[.slice none 0 0, .int .i64 0, .int .i64 0] 79) := (hb.block w.heap.size (by simp)).trans (heap_alloc_new w _)
    obtain ⟨ad, x', rfl, hx', k0, k1, k2, k3, k4, k5, k6⟩ := (HR1.out.below hbN).nd (show i < nn by omega)
    obtain rfl : _ = x' := Option.some.inj (HX.out.symm.trans hx')
    simp only at k0 k1 k2 k3 k4 k5 k6
    have hadN : ad.block < w.heap.size := HAD.out ad rfl
    have hN1 : w.heap.size < w1.heap.size := (Array.getElem?_eq_some_iff.1 hrow).1
    have HROW := Lib.hid hrow
    have HOK := Lib.hid hOk
    have HBN := Lib.hid hbN
    have HC1 := Lib.hid (Kd.C_below HCC.out hbN)
    have H01 := Lib.hid (H0.out.trans (hbN.mono H0.out.size))
    clear hx' hOk hb hbN hrow
    go_wp2_with fail
    have a0 : (w1.alloc (.cells #[.int .i64 0, .int .i64 1, .int .i64 2, .int .i64 4, .int .i64 5] 3)).cell? ⟨w1.heap.size, 1, none⟩ = some (.int .i64 1) := by rw [cell_of_row _ _ 1 _ _ _ (heap_alloc_new w1 _)]; rfl
    replace k0 := Go.Proofs.Ytibabfgfahlekaa.cell_alloc k0 (.cells #[.int .i64 0, .int .i64 1, .int .i64 2, .int .i64 4, .int .i64 5] 3)
    replace k1 := Go.Proofs.Ytibabfgfahlekaa.cell_alloc k1 (.cells #[.int .i64 0, .int .i64 1, .int .i64 2, .int .i64 4, .int .i64 5] 3)
    replace k2 := Go.Proofs.Ytibabfgfahlekaa.cell_alloc k2 (.cells #[.int .i64 0, .int .i64 1, .int .i64 2, .int .i64 4, .int .i64 5] 3)
    replace k3 := Go.Proofs.Ytibabfgfahlekaa.cell_alloc k3 (.cells #[.int .i64 0, .int .i64 1, .int .i64 2, .int .i64 4, .int .i64 5] 3)
    replace k4 := Go.Proofs.Ytibabfgfahlekaa.cell_alloc k4 (.cells #[.int .i64 0, .int .i64 1, .int .i64 2, .int .i64 4, .int .i64 5] 3)
    have HBW := Lib.hid (HBN.out.alloc (Nat.le_of_lt hN1) (.cells #[.int .i64 0, .int .i64 1, .int .i64 2, .int .i64 4, .int .i64 5] 3))
    have HRW := Lib.hid (((Below.refl w1.heap.size w1).alloc (Nat.le_refl _) (.cells #[.int .i64 0, .int .i64 1, .int .i64 2, .int .i64 4, .int .i64 5] 3)).block w.heap.size hN1 |>.trans HROW.out)
    have HCW := Lib.hid (Kd.C_alloc HC1.out (.cells #[.int .i64 0, .int .i64 1, .int .i64 2, .int .i64 4, .int .i64 5] 3))
    generalize w1.alloc (.cells #[.int .i64 0, .int .i64 1, .int .i64 2, .int .i64 4, .int .i64 5] 3) = W2 at *
    have keepS : ∀ w', Below W2.heap.size W2 w' → (w'.cell? (ad.add (i * 7)) = some (.int .i64 1) ∧ w'.cell? ⟨(ad.add (i * 7)).block, (ad.add (i * 7)).off + 1, none⟩ = some (.int .u64 ((s0 : Nat) : Int)) ∧ w'.cell? ⟨(ad.add (i * 7)).block, (ad.add (i * 7)).off + 2, none⟩ = some (.int .u64 ((s1 : Nat) : Int)) ∧ w'.cell? ⟨(ad.add (i * 7)).block, (ad.add (i * 7)).off + 3, none⟩ = some (.int .u64 ((s2 : Nat) : Int)) ∧ w'.cell? ⟨(ad.add (i * 7)).block, (ad.add (i * 7)).off + 4, none⟩ = some (.int .u64 ((s3 : Nat) : Int)) ∧ w'.cell? ⟨w1.heap.size, 1, none⟩ = some (.int .i64 1)) := fun w' hX => ⟨Go.Proofs.Ytibabfgfahlekaa.cell_below hX k0, Go.Proofs.Ytibabfgfahlekaa.cell_below hX k1, Go.Proofs.Ytibabfgfahlekaa.cell_below hX k2, Go.Proofs.Ytibabfgfahlekaa.cell_below hX k3, Go.Proofs.Ytibabfgfahlekaa.cell_below hX k4, Go.Proofs.Ytibabfgfahlekaa.cell_below hX a0⟩
    refine wp_region_noPanic ?_
    refine wp_region_held_drew (S := fun w' => w'.cell? (ad.add (i * 7)) = some (.int .i64 1) ∧ w'.cell? ⟨(ad.add (i * 7)).block, (ad.add (i * 7)).off + 1, none⟩ = some (.int .u64 ((s0 : Nat) : Int)) ∧ w'.cell? ⟨(ad.add (i * 7)).block, (ad.add (i * 7)).off + 2, none⟩ = some (.int .u64 ((s1 : Nat) : Int)) ∧ w'.cell? ⟨(ad.add (i * 7)).block, (ad.add (i * 7)).off + 3, none⟩ = some (.int .u64 ((s2 : Nat) : Int)) ∧ w'.cell? ⟨(ad.add (i * 7)).block, (ad.add (i * 7)).off + 4, none⟩ = some (.int .u64 ((s3 : Nat) : Int)) ∧ w'.cell? ⟨w1.heap.size, 1, none⟩ = some (.int .i64 1)) (by kernel_rfl) (keepS _ (Go.Proofs.Ytibabfgfahlekaa.bel_drew (Below.refl _ _))) (fun hHeld => ?_)
    refine wpAnyH_take (i := 0) (v := ?_) rfl (by kernel_rfl) (by kernel_rfl) (by kernel_rfl) (fun _ _ _ h => h) (Or.inl ⟨by kernel_rfl, ?_⟩) (by assumption) ?_
    rotate_left
    · intro w hSw
      try dsimp only at hSw
      go_simp
      try with_reducible rfl
    try simp only [List.getElem_toArray, List.getElem_cons_zero, List.getElem_cons_succ, Act.put, List.setIfInBounds_toArray, List.set_cons_zero, List.set_cons_succ]
    refine wpAnyH_take (i := 1) (v := ?_) rfl (by kernel_rfl) (by kernel_rfl) (by kernel_rfl) (fun _ _ _ h => h) (Or.inl ⟨by kernel_rfl, ?_⟩) (by assumption) ?_
    rotate_left
    · intro w hSw
      try dsimp only at hSw
      go_simp
      try with_reducible rfl
    try simp only [List.getElem_toArray, List.getElem_cons_zero, List.getElem_cons_succ, Act.put, List.setIfInBounds_toArray, List.set_cons_zero, List.set_cons_succ]
    refine wpAnyH_take (i := 2) (v := ?_) rfl (by kernel_rfl) (by kernel_rfl) (by kernel_rfl) (fun _ _ _ h => h) (Or.inl ⟨by kernel_rfl, ?_⟩) (by assumption) ?_
    rotate_left
    · intro w hSw
      try dsimp only at hSw
      go_simp
      try with_reducible rfl
    try simp only [List.getElem_toArray, List.getElem_cons_zero, List.getElem_cons_succ, Act.put, List.setIfInBounds_toArray, List.set_cons_zero, List.set_cons_succ]
    refine wpAnyH_take (i := 3) (v := ?_) rfl (by kernel_rfl) (by kernel_rfl) (by kernel_rfl) (fun _ _ _ h => h) (Or.inl ⟨by kernel_rfl, ?_⟩) (by assumption) ?_
    rotate_left
    · intro w hSw
      try dsimp only at hSw
      go_simp
      try with_reducible rfl
    try simp only [List.getElem_toArray, List.getElem_cons_zero, List.getElem_cons_succ, Act.put, List.setIfInBounds_toArray, List.set_cons_zero, List.set_cons_succ]
    refine wpAnyH_take (i := 4) (v := ?_) rfl (by kernel_rfl) (by kernel_rfl) (by kernel_rfl) (fun _ _ _ h => h) (Or.inl ⟨by kernel_rfl, ?_⟩) (by assumption) ?_
    rotate_left
    · intro w hSw
      try dsimp only at hSw
      go_simp
      try with_reducible rfl
    try simp only [List.getElem_toArray, List.getElem_cons_zero, List.getElem_cons_succ, Act.put, List.setIfInBounds_toArray, List.set_cons_zero, List.set_cons_succ]
    refine wpAnyH_take (i := 5) (v := ?_) rfl (by kernel_rfl) (by kernel_rfl) (by kernel_rfl) (fun _ _ _ h => h) (Or.inl ⟨by kernel_rfl, ?_⟩) (by assumption) ?_
    rotate_left
    · intro w hSw
      try dsimp only at hSw
      go_simp
      try with_reducible rfl
    try simp only [List.getElem_toArray, List.getElem_cons_zero, List.getElem_cons_succ, Act.put, List.setIfInBounds_toArray, List.set_cons_zero, List.set_cons_succ]
    refine wpAnyH_take (i := 6) (v := ?_) rfl (by kernel_rfl) (by kernel_rfl) (by kernel_rfl) (fun _ _ _ h => h) (Or.inl ⟨by kernel_rfl, ?_⟩) (by assumption) ?_
    rotate_left
    · intro w hSw
      try dsimp only at hSw
      go_simp
      try with_reducible rfl
    try simp only [List.getElem_toArray, List.getElem_cons_zero, List.getElem_cons_succ, Act.put, List.setIfInBounds_toArray, List.set_cons_zero, List.set_cons_succ]
    refine wpAnyH_take (i := 7) (v := ?_) rfl (by kernel_rfl) (by kernel_rfl) (by kernel_rfl) (fun _ _ _ h => h) (Or.inl ⟨by kernel_rfl, ?_⟩) (by assumption) ?_
    rotate_left
    · intro w hSw
      try dsimp only at hSw
      go_simp
      try with_reducible rfl
    try simp only [List.getElem_toArray, List.getElem_cons_zero, List.getElem_cons_succ, Act.put, List.setIfInBounds_toArray, List.set_cons_zero, List.set_cons_succ]
    refine wpAnyH_take (i := 8) (v := ?_) rfl (by kernel_rfl) (by kernel_rfl) (by kernel_rfl) (fun _ _ _ h => h) (Or.inl ⟨by kernel_rfl, ?_⟩) (by assumption) ?_
    rotate_left
    · intro w hSw
      try dsimp only at hSw
      go_simp
      try with_reducible rfl
    try simp only [List.getElem_toArray, List.getElem_cons_zero, List.getElem_cons_succ, Act.put, List.setIfInBounds_toArray, List.set_cons_zero, List.set_cons_succ]
    refine wpAnyH_take (i := 9) (v := ?_) rfl (by kernel_rfl) (by kernel_rfl) (by kernel_rfl) (fun _ _ _ h => h) (Or.inl ⟨by kernel_rfl, ?_⟩) (by assumption) ?_
    rotate_left
    · intro w hSw
      try dsimp only at hSw
      go_simp
      try with_reducible rfl
    try simp only [List.getElem_toArray, List.getElem_cons_zero, List.getElem_cons_succ, Act.put, List.setIfInBounds_toArray, List.set_cons_zero, List.set_cons_succ]
    refine wpAnyH_take (i := 10) (v := ?_) rfl (by kernel_rfl) (by kernel_rfl) (by kernel_rfl) (fun _ _ _ h => h) (Or.inl ⟨by kernel_rfl, ?_⟩) (by assumption) ?_
    rotate_left
    · intro w hSw
      try dsimp only at hSw
      go_simp
      try with_reducible rfl
    try simp only [List.getElem_toArray, List.getElem_cons_zero, List.getElem_cons_succ, Act.put, List.setIfInBounds_toArray, List.set_cons_zero, List.set_cons_succ]
    refine wpAnyH_take (i := 11) (v := ?_) rfl (by kernel_rfl) (by kernel_rfl) (by kernel_rfl) (fun _ _ _ h => h) (Or.inl ⟨by kernel_rfl, ?_⟩) (by assumption) ?_
    rotate_left
    · intro w hSw
      try dsimp only at hSw
      go_simp
      try with_reducible rfl
    try simp only [List.getElem_toArray, List.getElem_cons_zero, List.getElem_cons_succ, Act.put, List.setIfInBounds_toArray, List.set_cons_zero, List.set_cons_succ]
    refine wpAnyH_take (i := 12) (v := ?_) rfl (by kernel_rfl) (by kernel_rfl) (by kernel_rfl) (fun _ _ _ h => h) (Or.inl ⟨by kernel_rfl, ?_⟩) (by assumption) ?_
    rotate_left
    · intro w hSw
      try dsimp only at hSw
      go_simp
      try with_reducible rfl
    try simp only [List.getElem_toArray, List.getElem_cons_zero, List.getElem_cons_succ, Act.put, List.setIfInBounds_toArray, List.set_cons_zero, List.set_cons_succ]
    refine wpAnyH_take (i := 13) (v := ?_) rfl (by kernel_rfl) (by kernel_rfl) (by kernel_rfl) (fun _ _ _ h => h) (Or.inl ⟨by kernel_rfl, ?_⟩) (by assumption) ?_
    rotate_left
    · intro w hSw
      try dsimp only at hSw
      go_simp
      try with_reducible rfl
    try simp only [List.getElem_toArray, List.getElem_cons_zero, List.getElem_cons_succ, Act.put, List.setIfInBounds_toArray, List.set_cons_zero, List.set_cons_succ]
    refine wpAnyH_take (i := 14) (v := ?_) rfl (by kernel_rfl) (by kernel_rfl) (by kernel_rfl) (fun _ _ _ h => h) (Or.inl ⟨by kernel_rfl, ?_⟩) (by assumption) ?_
    rotate_left
    · intro w hSw
      try dsimp only at hSw
      go_simp
      try with_reducible rfl
    try simp only [List.getElem_toArray, List.getElem_cons_zero, List.getElem_cons_succ, Act.put, List.setIfInBounds_toArray, List.set_cons_zero, List.set_cons_succ]
    refine wpAnyH_take (i := 15) (v := ?_) rfl (by kernel_rfl) (by kernel_rfl) (by kernel_rfl) (fun _ _ _ h => h) (Or.inl ⟨by kernel_rfl, ?_⟩) (by assumption) ?_
    rotate_left
    · intro w hSw
      try dsimp only at hSw
      go_simp
      try with_reducible rfl
    try simp only [List.getElem_toArray, List.getElem_cons_zero, List.getElem_cons_succ, Act.put, List.setIfInBounds_toArray, List.set_cons_zero, List.set_cons_succ]
    refine wpAnyH_take (i := 16) (v := ?_) rfl (by kernel_rfl) (by kernel_rfl) (by kernel_rfl) (fun _ _ _ h => h) (Or.inl ⟨by kernel_rfl, ?_⟩) (by assumption) ?_
    rotate_left
    · intro w hSw
      try dsimp only at hSw
      go_simp
      try with_reducible rfl
    try simp only [List.getElem_toArray, List.getElem_cons_zero, List.getElem_cons_succ, Act.put, List.setIfInBounds_toArray, List.set_cons_zero, List.set_cons_succ]
    refine wpAnyH_take (i := 17) (v := ?_) rfl (by kernel_rfl) (by kernel_rfl) (by kernel_rfl) (fun _ _ _ h => h) (Or.inl ⟨by kernel_rfl, ?_⟩) (by assumption) ?_
    rotate_left
    · intro w hSw
      try dsimp only at hSw
      go_simp
      try with_reducible rfl
    try simp only [List.getElem_toArray, List.getElem_cons_zero, List.getElem_cons_succ, Act.put, List.setIfInBounds_toArray, List.set_cons_zero, List.set_cons_succ]
    refine wpAnyH_ready (rs := [18]) (by kernel_rfl) (by simp) ?_
    refine AllReadyH.cons rfl (fun K hK => ?_) AllReadyH.nil
    go_simp
    rw [show IntKind.i64.wrap ((sts.length : Int) + 1) = (sts.length : Int) + 1 by rw [i64_w]; unfold wrap64; omega]
    refine (rput_any sts A c ⟨1, (sts.length : Int) + 1, 0, ⟨s0, s1, s2, s3⟩⟩ _ (Kd.C_below HCW.out (Go.Proofs.Ytibabfgfahlekaa.bel_drew (Below.refl _ _))) hc (by omega)).mono ?_
    rintro e w2 ⟨A2, c2, rfl, hO2, hb2⟩
    have hX2 : Below W2.heap.size W2 w2 := (Go.Proofs.Ytibabfgfahlekaa.bel_drew (Below.refl W2.heap.size W2)).trans hb2
    refine hK.out _ _ (keepS _ hX2) (fun hHeld => ?_)
    clear hK K
    try simp only [List.getElem_toArray, List.getElem_cons_zero, List.getElem_cons_succ, Act.put, List.setIfInBounds_toArray, List.set_cons_zero, List.set_cons_succ]
    refine wpAnyH_take (i := 19) (v := ?_) rfl (by kernel_rfl) (by kernel_rfl) (by kernel_rfl) (fun _ _ _ h => h) (Or.inl ⟨by kernel_rfl, ?_⟩) (by assumption) ?_
    rotate_left
    · intro w hSw
      try dsimp only at hSw
      go_simp
      try with_reducible rfl
    try simp only [List.getElem_toArray, List.getElem_cons_zero, List.getElem_cons_succ, Act.put, List.setIfInBounds_toArray, List.set_cons_zero, List.set_cons_succ]
    refine wpAnyH_take (i := 20) (v := ?_) rfl (by kernel_rfl) (by kernel_rfl) (by kernel_rfl) (fun _ _ _ h => h) (Or.inl ⟨by kernel_rfl, ?_⟩) (by assumption) ?_
    rotate_left
    · intro w hSw
      try dsimp only at hSw
      go_simp
      try with_reducible rfl
    try simp only [List.getElem_toArray, List.getElem_cons_zero, List.getElem_cons_succ, Act.put, List.setIfInBounds_toArray, List.set_cons_zero, List.set_cons_succ]
    refine wpAnyH_take (i := 21) (v := ?_) rfl (by kernel_rfl) (by kernel_rfl) (by kernel_rfl) (fun _ _ _ h => h) (Or.inl ⟨by kernel_rfl, ?_⟩) (by assumption) ?_
    rotate_left
    · intro w hSw
      try dsimp only at hSw
      go_simp
      try with_reducible rfl
    try simp only [List.getElem_toArray, List.getElem_cons_zero, List.getElem_cons_succ, Act.put, List.setIfInBounds_toArray, List.set_cons_zero, List.set_cons_succ]
    refine wpAnyH_take (i := 22) (v := ?_) rfl (by kernel_rfl) (by kernel_rfl) (by kernel_rfl) (fun _ _ _ h => h) (Or.inl ⟨by kernel_rfl, ?_⟩) (by assumption) ?_
    rotate_left
    · intro w hSw
      try dsimp only at hSw
      go_simp
      try with_reducible rfl
    try simp only [List.getElem_toArray, List.getElem_cons_zero, List.getElem_cons_succ, Act.put, List.setIfInBounds_toArray, List.set_cons_zero, List.set_cons_succ]
    refine wpAnyH_take (i := 23) (v := ?_) rfl (by kernel_rfl) (by kernel_rfl) (by kernel_rfl) (fun _ _ _ h => h) (Or.inl ⟨by kernel_rfl, ?_⟩) (by assumption) ?_
    rotate_left
    · intro w hSw
      try dsimp only at hSw
      go_simp
      try with_reducible rfl
    try simp only [List.getElem_toArray, List.getElem_cons_zero, List.getElem_cons_succ, Act.put, List.setIfInBounds_toArray, List.set_cons_zero, List.set_cons_succ]
    refine wpAnyH_done (by kernel_rfl) ?_ _
    refine NoPanic.normal ?_
    clear hHeld keepS
    have HO2 := Lib.hid hO2
    have hN2 : w.heap.size < W2.heap.size := (Array.getElem?_eq_some_iff.1 HRW.out).1
    have HR2 := Lib.hid ((hX2.block w.heap.size hN2).trans HRW.out)
    have HB2 := Lib.hid (HBW.out.trans (hX2.mono (Nat.le_of_lt hN2)))
    clear hO2 hb2 hX2
    go_wp2_with fail
    refine (rput_n (sts ++ [⟨1, (sts.length : Int) + 1, 0, ⟨s0, s1, s2, s3⟩⟩]) (sts.length + 1) (by rw [List.length_append]; rfl) _ A2 c2 eSt w2 HO2.out (by omega)).mono ?_
    rintro e w3 ⟨A3, c3, rfl, hO3, hb3⟩
    have hN3 : w.heap.size < w2.heap.size := (Array.getElem?_eq_some_iff.1 HR2.out).1
    obtain ⟨q0, q1, q2, z0, z1, z2⟩ := part_row ((hb3.block w.heap.size hN3).trans HR2.out)
    have HO3 := Lib.hid hO3
    have HB3 := Lib.hid (HB2.out.trans (hb3.mono (Nat.le_of_lt hN3)))
    clear hO3 hb3
    go_wp2_with fail
    have hRR := HRM.out
    subst hRR
    refine bodyPost_ret (v := .agg #[.slice A3 (sts.length + 1 + 1) c3, .int .i64 sts.length, .int .i64 ((sts.length + 1 : Nat) : Int)]) (by simp [results, Try.results40, go_sem, q0, q1, q2, z0, z1, z2, Try.underlying79]) rfl ⟨A3, c3, _, rfl, by simp, ?_, ?_⟩
    · have e : sts ++ [⟨1, (sts.length : Int) + 1, 0, ⟨s0, s1, s2, s3⟩⟩] ++ [eSt] = sts ++ [(⟨1, ((sts.length + 1 : Nat) : Int), 0, ⟨s0, s1, s2, s3⟩⟩ : St), eSt] := by simp
      have := HO3.out
      rw [e] at this
      exact Go.Proofs.Ytibabfgfahlekaa.own_mono (ownsRow_setCell_below (ownsRow_setCell_below (ownsRow_setCell_below this (by simp; omega) _) (by simp; omega) _) (by simp; omega) _) (by omega)
    · repeat refine Below.setCell ?_ (by simp) _
      exact HB3.out
set_option maxRecDepth 100000 in
set_option maxHeartbeats 6400000 in
theorem make_k2 (A0 : Option Addr) (nn c0 : Nat) (l : List Nd) (hr : rightB l = true) (hnn : nn ≤ 1000000) (w0 : World) (hR : Reads w0 7 A0 nn (l.flatMap Nd.cells)) (i : Nat) (hi : i < l.length)
    (ih : ∀ m, m < i → m < l.length → MakeC (.slice A0 nn c0) m (attr fMk l m) (attr fSz l m) w0) (hkd : l[i].kind = 2) : MakeC (.slice A0 nn c0) i (attr fMk l i) (attr fSz l i) w0 := by
    obtain ⟨_, hall, _⟩ := (rightB_iff l).1 hr
    intro w sts A c hr0 hc h0 hsz
    have hf := (hall i hi).1
    have hx : l[i]? = some l[i] := List.getElem?_eq_getElem hi
    have hgx : l.getD i zNd = l[i] := by rw [List.getD_eq_getElem?_getD, hx]; rfl
    obtain ⟨ha, _⟩ := stack_room l hr i _ hx
    have hlen := kidsP_length l i _ hx hf
    have hfl := (hall i hi).2
    have hok := kidsP_ok l i hi hf
    have hmk := attr_eq fMk l i hi hf
    have hsz' := attr_eq fSz l i hi hf
    have hkok := fun y (hy : y ∈ kidsP l i) => mk_ok l hr y.toNat (by have := hok y hy; omega)
    have hkc := fun y (hy : y ∈ kidsP l i) => ih y.toNat (by have := hok y hy; omega) (by have := hok y hy; omega)
    have hln : l.length = nn := by have := hR.1; rw [flat_length Nd.cells 7 Nd.cells_length] at this; omega
    have hinn : i < nn := by omega
    rw [hgx] at hfl hmk hsz'
    have HR1 := Lib.hid (hR.below h0)
    have hx2 := hx
    generalize l[i] = x at *
    have hkids := rkids_any A0 nn c0 l i (w.alloc (.cells #[.slice none 0 0, .int .i64 0, .int .i64 0] 79)) (HR1.out.below (Go.Proofs.Ytibabfgfahlekaa.bel_alloc (Below.refl _ _) _)) hnn (by omega) hf
    have had : ∀ ad, A0 = some ad → ad.block < w.heap.size := fun ad e => by
      obtain ⟨ad', x', e', _, k0, _⟩ := HR1.out.nd (show i < nn by omega)
      have := World.block_lt_of_cell? _ _ k0
      have e2 : ad = ad' := Option.some.inj (e.symm.trans e')
      rw [e2]
      have h3 : (ad'.add (i * 7)).block = ad'.block := by unfold Addr.add; split <;> rfl
      omega
    have HAD := Lib.hid had
    clear had
    rw [hmk]
    rw [hsz'] at hsz
    clear hall hf hgx hmk hsz' ih
    generalize kidsP l i = ks at *
    have HCC := Lib.hid hr0
    have H0 := Lib.hid h0
    have HX := Lib.hid hx
    have HK := Lib.hid hkids
    have HKO := Lib.hid hkok
    have HKC := Lib.hid hkc
    clear hr0 h0 hx hx2 hkids hkok hkc
    obtain ⟨kd, ⟨s0, s1, s2, s3⟩, lo, hi'⟩ := x
    simp only at ha hlen hfl hsz hkd ⊢
    subst hkd
    obtain rfl : ks = [] := List.eq_nil_of_length_eq_zero hlen
    clear hlen
    simp only [List.map_nil] at hsz ⊢
    obtain ⟨rfl, rfl, rfl, rfl⟩ : s0 = 0 ∧ s1 = 0 ∧ s2 = 0 ∧ s3 = 0 := set_zero hfl (by decide)
    obtain ⟨R, hRM⟩ : ∃ R, fMk ⟨2, ⟨0, 0, 0, 0⟩, lo, hi'⟩ [] sts = R := ⟨_, rfl⟩
    rw [hRM]
    have HRM := Lib.hid hRM
    clear hRM
    have hM : fMk ⟨2, ⟨0, 0, 0, 0⟩, lo, hi'⟩ [] sts = ⟨sts ++ [⟨2, ((sts.length + 1 : Nat) : Int), 0, ⟨0, 0, 0, 0⟩⟩, eSt], sts.length, sts.length + 1⟩ := by unfold fMk; simp [stKind, setZ, leafM]
    have HRM := Lib.hid (hM.symm.trans HRM.out)
    clear hM
    go_enter Try.func40, Try.ntmps40
    go_wp2_with fail
    refine HK.out.mono ?_
    rintro e w1 ⟨A1, c1, rfl, hOk, hb⟩
    have hbN : Below w.heap.size w w1 := (Go.Proofs.Ytibabfgfahlekaa.bel_alloc (Below.refl _ _) _).trans (hb.mono (by simp))
    have hrow : w1.heap[w.heap.size]? = some (.cells #[.slice none 0 0, .int .i64 0, .int .i64 0] 79) := (hb.block w.heap.size (by simp)).trans (heap_alloc_new w _)
    obtain ⟨ad, x', rfl, hx', k0, k1, k2, k3, k4, k5, k6⟩ := (HR1.out.below hbN).nd (show i < nn by omega)
    obtain rfl : _ = x' := Option.some.inj (HX.out.symm.trans hx')
    simp only at k0 k1 k2 k3 k4 k5 k6
    have hadN : ad.block < w.heap.size := HAD.out ad rfl
    have hN1 : w.heap.size < w1.heap.size := (Array.getElem?_eq_some_iff.1 hrow).1
    have HROW := Lib.hid hrow
    have HOK := Lib.hid hOk
    have HBN := Lib.hid hbN
    have HC1 := Lib.hid (Kd.C_below HCC.out hbN)
    have H01 := Lib.hid (H0.out.trans (hbN.mono H0.out.size))
    clear hx' hOk hb hbN hrow
    go_wp2_with fail
    have a0 : (w1.alloc (.cells #[.int .i64 0, .int .i64 1, .int .i64 2, .int .i64 4, .int .i64 5] 3)).cell? ⟨w1.heap.size, 2, none⟩ = some (.int .i64 2) := by rw [cell_of_row _ _ 2 _ _ _ (heap_alloc_new w1 _)]; rfl
    have z1_ : ((0 : Nat) : Int) = 0 := rfl
    rw [z1_] at k1 k2 k3 k4
    clear z1_
    replace k0 := Go.Proofs.Ytibabfgfahlekaa.cell_alloc k0 (.cells #[.int .i64 0, .int .i64 1, .int .i64 2, .int .i64 4, .int .i64 5] 3)
    replace k1 := Go.Proofs.Ytibabfgfahlekaa.cell_alloc k1 (.cells #[.int .i64 0, .int .i64 1, .int .i64 2, .int .i64 4, .int .i64 5] 3)
    replace k2 := Go.Proofs.Ytibabfgfahlekaa.cell_alloc k2 (.cells #[.int .i64 0, .int .i64 1, .int .i64 2, .int .i64 4, .int .i64 5] 3)
    replace k3 := Go.Proofs.Ytibabfgfahlekaa.cell_alloc k3 (.cells #[.int .i64 0, .int .i64 1, .int .i64 2, .int .i64 4, .int .i64 5] 3)
    replace k4 := Go.Proofs.Ytibabfgfahlekaa.cell_alloc k4 (.cells #[.int .i64 0, .int .i64 1, .int .i64 2, .int .i64 4, .int .i64 5] 3)
    have HBW := Lib.hid (HBN.out.alloc (Nat.le_of_lt hN1) (.cells #[.int .i64 0, .int .i64 1, .int .i64 2, .int .i64 4, .int .i64 5] 3))
    have HRW := Lib.hid (((Below.refl w1.heap.size w1).alloc (Nat.le_refl _) (.cells #[.int .i64 0, .int .i64 1, .int .i64 2, .int .i64 4, .int .i64 5] 3)).block w.heap.size hN1 |>.trans HROW.out)
    have HCW := Lib.hid (Kd.C_alloc HC1.out (.cells #[.int .i64 0, .int .i64 1, .int .i64 2, .int .i64 4, .int .i64 5] 3))
    generalize w1.alloc (.cells #[.int .i64 0, .int .i64 1, .int .i64 2, .int .i64 4, .int .i64 5] 3) = W2 at *
    have keepS : ∀ w', Below W2.heap.size W2 w' → (w'.cell? (ad.add (i * 7)) = some (.int .i64 2) ∧ w'.cell? ⟨(ad.add (i * 7)).block, (ad.add (i * 7)).off + 1, none⟩ = some (.int .u64 0) ∧ w'.cell? ⟨(ad.add (i * 7)).block, (ad.add (i * 7)).off + 2, none⟩ = some (.int .u64 0) ∧ w'.cell? ⟨(ad.add (i * 7)).block, (ad.add (i * 7)).off + 3, none⟩ = some (.int .u64 0) ∧ w'.cell? ⟨(ad.add (i * 7)).block, (ad.add (i * 7)).off + 4, none⟩ = some (.int .u64 0) ∧ w'.cell? ⟨w1.heap.size, 2, none⟩ = some (.int .i64 2)) := fun w' hX => ⟨Go.Proofs.Ytibabfgfahlekaa.cell_below hX k0, Go.Proofs.Ytibabfgfahlekaa.cell_below hX k1, Go.Proofs.Ytibabfgfahlekaa.cell_below hX k2, Go.Proofs.Ytibabfgfahlekaa.cell_below hX k3, Go.Proofs.Ytibabfgfahlekaa.cell_below hX k4, Go.Proofs.Ytibabfgfahlekaa.cell_below hX a0⟩
    refine wp_region_noPanic ?_
    refine wp_region_held_drew (S := fun w' => w'.cell? (ad.add (i * 7)) = some (.int .i64 2) ∧ w'.cell? ⟨(ad.add (i * 7)).block, (ad.add (i * 7)).off + 1, none⟩ = some (.int .u64 0) ∧ w'.cell? ⟨(ad.add (i * 7)).block, (ad.add (i * 7)).off + 2, none⟩ = some (.int .u64 0) ∧ w'.cell? ⟨(ad.add (i * 7)).block, (ad.add (i * 7)).off + 3, none⟩ = some (.int .u64 0) ∧ w'.cell? ⟨(ad.add (i * 7)).block, (ad.add (i * 7)).off + 4, none⟩ = some (.int .u64 0) ∧ w'.cell? ⟨w1.heap.size, 2, none⟩ = some (.int .i64 2)) (by kernel_rfl) (keepS _ (Go.Proofs.Ytibabfgfahlekaa.bel_drew (Below.refl _ _))) (fun hHeld => ?_)
    refine wpAnyH_take (i := 0) (v := ?_) rfl (by kernel_rfl) (by kernel_rfl) (by kernel_rfl) (fun _ _ _ h => h) (Or.inl ⟨by kernel_rfl, ?_⟩) (by assumption) ?_
    rotate_left
    · intro w hSw
      try dsimp only at hSw
      go_simp
      try with_reducible rfl
    try simp only [List.getElem_toArray, List.getElem_cons_zero, List.getElem_cons_succ, Act.put, List.setIfInBounds_toArray, List.set_cons_zero, List.set_cons_succ]
    refine wpAnyH_take (i := 1) (v := ?_) rfl (by kernel_rfl) (by kernel_rfl) (by kernel_rfl) (fun _ _ _ h => h) (Or.inl ⟨by kernel_rfl, ?_⟩) (by assumption) ?_
    rotate_left
    · intro w hSw
      try dsimp only at hSw
      go_simp
      try with_reducible rfl
    try simp only [List.getElem_toArray, List.getElem_cons_zero, List.getElem_cons_succ, Act.put, List.setIfInBounds_toArray, List.set_cons_zero, List.set_cons_succ]
    refine wpAnyH_take (i := 2) (v := ?_) rfl (by kernel_rfl) (by kernel_rfl) (by kernel_rfl) (fun _ _ _ h => h) (Or.inl ⟨by kernel_rfl, ?_⟩) (by assumption) ?_
    rotate_left
    · intro w hSw
      try dsimp only at hSw
      go_simp
      try with_reducible rfl
    try simp only [List.getElem_toArray, List.getElem_cons_zero, List.getElem_cons_succ, Act.put, List.setIfInBounds_toArray, List.set_cons_zero, List.set_cons_succ]
    refine wpAnyH_take (i := 3) (v := ?_) rfl (by kernel_rfl) (by kernel_rfl) (by kernel_rfl) (fun _ _ _ h => h) (Or.inl ⟨by kernel_rfl, ?_⟩) (by assumption) ?_
    rotate_left
    · intro w hSw
      try dsimp only at hSw
      go_simp
      try with_reducible rfl
    try simp only [List.getElem_toArray, List.getElem_cons_zero, List.getElem_cons_succ, Act.put, List.setIfInBounds_toArray, List.set_cons_zero, List.set_cons_succ]
    refine wpAnyH_take (i := 4) (v := ?_) rfl (by kernel_rfl) (by kernel_rfl) (by kernel_rfl) (fun _ _ _ h => h) (Or.inl ⟨by kernel_rfl, ?_⟩) (by assumption) ?_
    rotate_left
    · intro w hSw
      try dsimp only at hSw
      go_simp
      try with_reducible rfl
    try simp only [List.getElem_toArray, List.getElem_cons_zero, List.getElem_cons_succ, Act.put, List.setIfInBounds_toArray, List.set_cons_zero, List.set_cons_succ]
    refine wpAnyH_take (i := 5) (v := ?_) rfl (by kernel_rfl) (by kernel_rfl) (by kernel_rfl) (fun _ _ _ h => h) (Or.inl ⟨by kernel_rfl, ?_⟩) (by assumption) ?_
    rotate_left
    · intro w hSw
      try dsimp only at hSw
      go_simp
      try with_reducible rfl
    try simp only [List.getElem_toArray, List.getElem_cons_zero, List.getElem_cons_succ, Act.put, List.setIfInBounds_toArray, List.set_cons_zero, List.set_cons_succ]
    refine wpAnyH_take (i := 6) (v := ?_) rfl (by kernel_rfl) (by kernel_rfl) (by kernel_rfl) (fun _ _ _ h => h) (Or.inl ⟨by kernel_rfl, ?_⟩) (by assumption) ?_
    rotate_left
    · intro w hSw
      try dsimp only at hSw
      go_simp
      try with_reducible rfl
    try simp only [List.getElem_toArray, List.getElem_cons_zero, List.getElem_cons_succ, Act.put, List.setIfInBounds_toArray, List.set_cons_zero, List.set_cons_succ]
    refine wpAnyH_take (i := 7) (v := ?_) rfl (by kernel_rfl) (by kernel_rfl) (by kernel_rfl) (fun _ _ _ h => h) (Or.inl ⟨by kernel_rfl, ?_⟩) (by assumption) ?_
    rotate_left
    · intro w hSw
      try dsimp only at hSw
      go_simp
      try with_reducible rfl
    try simp only [List.getElem_toArray, List.getElem_cons_zero, List.getElem_cons_succ, Act.put, List.setIfInBounds_toArray, List.set_cons_zero, List.set_cons_succ]
    refine wpAnyH_take (i := 8) (v := ?_) rfl (by kernel_rfl) (by kernel_rfl) (by kernel_rfl) (fun _ _ _ h => h) (Or.inl ⟨by kernel_rfl, ?_⟩) (by assumption) ?_
    rotate_left
    · intro w hSw
      try dsimp only at hSw
      go_simp
      try with_reducible rfl
    try simp only [List.getElem_toArray, List.getElem_cons_zero, List.getElem_cons_succ, Act.put, List.setIfInBounds_toArray, List.set_cons_zero, List.set_cons_succ]
    refine wpAnyH_take (i := 9) (v := ?_) rfl (by kernel_rfl) (by kernel_rfl) (by kernel_rfl) (fun _ _ _ h => h) (Or.inl ⟨by kernel_rfl, ?_⟩) (by assumption) ?_
    rotate_left
    · intro w hSw
      try dsimp only at hSw
      go_simp
      try with_reducible rfl
    try simp only [List.getElem_toArray, List.getElem_cons_zero, List.getElem_cons_succ, Act.put, List.setIfInBounds_toArray, List.set_cons_zero, List.set_cons_succ]
    refine wpAnyH_take (i := 10) (v := ?_) rfl (by kernel_rfl) (by kernel_rfl) (by kernel_rfl) (fun _ _ _ h => h) (Or.inl ⟨by kernel_rfl, ?_⟩) (by assumption) ?_
    rotate_left
    · intro w hSw
      try dsimp only at hSw
      go_simp
      try with_reducible rfl
    try simp only [List.getElem_toArray, List.getElem_cons_zero, List.getElem_cons_succ, Act.put, List.setIfInBounds_toArray, List.set_cons_zero, List.set_cons_succ]
    refine wpAnyH_take (i := 11) (v := ?_) rfl (by kernel_rfl) (by kernel_rfl) (by kernel_rfl) (fun _ _ _ h => h) (Or.inl ⟨by kernel_rfl, ?_⟩) (by assumption) ?_
    rotate_left
    · intro w hSw
      try dsimp only at hSw
      go_simp
      try with_reducible rfl
    try simp only [List.getElem_toArray, List.getElem_cons_zero, List.getElem_cons_succ, Act.put, List.setIfInBounds_toArray, List.set_cons_zero, List.set_cons_succ]
    refine wpAnyH_take (i := 12) (v := ?_) rfl (by kernel_rfl) (by kernel_rfl) (by kernel_rfl) (fun _ _ _ h => h) (Or.inl ⟨by kernel_rfl, ?_⟩) (by assumption) ?_
    rotate_left
    · intro w hSw
      try dsimp only at hSw
      go_simp
      try with_reducible rfl
    try simp only [List.getElem_toArray, List.getElem_cons_zero, List.getElem_cons_succ, Act.put, List.setIfInBounds_toArray, List.set_cons_zero, List.set_cons_succ]
    refine wpAnyH_take (i := 13) (v := ?_) rfl (by kernel_rfl) (by kernel_rfl) (by kernel_rfl) (fun _ _ _ h => h) (Or.inl ⟨by kernel_rfl, ?_⟩) (by assumption) ?_
    rotate_left
    · intro w hSw
      try dsimp only at hSw
      go_simp
      try with_reducible rfl
    try simp only [List.getElem_toArray, List.getElem_cons_zero, List.getElem_cons_succ, Act.put, List.setIfInBounds_toArray, List.set_cons_zero, List.set_cons_succ]
    refine wpAnyH_take (i := 14) (v := ?_) rfl (by kernel_rfl) (by kernel_rfl) (by kernel_rfl) (fun _ _ _ h => h) (Or.inl ⟨by kernel_rfl, ?_⟩) (by assumption) ?_
    rotate_left
    · intro w hSw
      try dsimp only at hSw
      go_simp
      try with_reducible rfl
    try simp only [List.getElem_toArray, List.getElem_cons_zero, List.getElem_cons_succ, Act.put, List.setIfInBounds_toArray, List.set_cons_zero, List.set_cons_succ]
    refine wpAnyH_take (i := 15) (v := ?_) rfl (by kernel_rfl) (by kernel_rfl) (by kernel_rfl) (fun _ _ _ h => h) (Or.inl ⟨by kernel_rfl, ?_⟩) (by assumption) ?_
    rotate_left
    · intro w hSw
      try dsimp only at hSw
      go_simp
      try with_reducible rfl
    try simp only [List.getElem_toArray, List.getElem_cons_zero, List.getElem_cons_succ, Act.put, List.setIfInBounds_toArray, List.set_cons_zero, List.set_cons_succ]
    refine wpAnyH_take (i := 16) (v := ?_) rfl (by kernel_rfl) (by kernel_rfl) (by kernel_rfl) (fun _ _ _ h => h) (Or.inl ⟨by kernel_rfl, ?_⟩) (by assumption) ?_
    rotate_left
    · intro w hSw
      try dsimp only at hSw
      go_simp
      try with_reducible rfl
    try simp only [List.getElem_toArray, List.getElem_cons_zero, List.getElem_cons_succ, Act.put, List.setIfInBounds_toArray, List.set_cons_zero, List.set_cons_succ]
    refine wpAnyH_take (i := 17) (v := ?_) rfl (by kernel_rfl) (by kernel_rfl) (by kernel_rfl) (fun _ _ _ h => h) (Or.inl ⟨by kernel_rfl, ?_⟩) (by assumption) ?_
    rotate_left
    · intro w hSw
      try dsimp only at hSw
      go_simp
      try with_reducible rfl
    try simp only [List.getElem_toArray, List.getElem_cons_zero, List.getElem_cons_succ, Act.put, List.setIfInBounds_toArray, List.set_cons_zero, List.set_cons_succ]
    refine wpAnyH_ready (rs := [18]) (by kernel_rfl) (by simp) ?_
    refine AllReadyH.cons rfl (fun K hK => ?_) AllReadyH.nil
    go_simp
    rw [show IntKind.i64.wrap ((sts.length : Int) + 1) = (sts.length : Int) + 1 by rw [i64_w]; unfold wrap64; omega]
    refine (rput_any sts A c ⟨2, (sts.length : Int) + 1, 0, ⟨0, 0, 0, 0⟩⟩ _ (Kd.C_below HCW.out (Go.Proofs.Ytibabfgfahlekaa.bel_drew (Below.refl _ _))) hc (by omega)).mono ?_
    rintro e w2 ⟨A2, c2, rfl, hO2, hb2⟩
    have hX2 : Below W2.heap.size W2 w2 := (Go.Proofs.Ytibabfgfahlekaa.bel_drew (Below.refl W2.heap.size W2)).trans hb2
    refine hK.out _ _ (keepS _ hX2) (fun hHeld => ?_)
    clear hK K
    try simp only [List.getElem_toArray, List.getElem_cons_zero, List.getElem_cons_succ, Act.put, List.setIfInBounds_toArray, List.set_cons_zero, List.set_cons_succ]
    refine wpAnyH_take (i := 19) (v := ?_) rfl (by kernel_rfl) (by kernel_rfl) (by kernel_rfl) (fun _ _ _ h => h) (Or.inl ⟨by kernel_rfl, ?_⟩) (by assumption) ?_
    rotate_left
    · intro w hSw
      try dsimp only at hSw
      go_simp
      try with_reducible rfl
    try simp only [List.getElem_toArray, List.getElem_cons_zero, List.getElem_cons_succ, Act.put, List.setIfInBounds_toArray, List.set_cons_zero, List.set_cons_succ]
    refine wpAnyH_take (i := 20) (v := ?_) rfl (by kernel_rfl) (by kernel_rfl) (by kernel_rfl) (fun _ _ _ h => h) (Or.inl ⟨by kernel_rfl, ?_⟩) (by assumption) ?_
    rotate_left
    · intro w hSw
      try dsimp only at hSw
      go_simp
      try with_reducible rfl
    try simp only [List.getElem_toArray, List.getElem_cons_zero, List.getElem_cons_succ, Act.put, List.setIfInBounds_toArray, List.set_cons_zero, List.set_cons_succ]
    refine wpAnyH_take (i := 21) (v := ?_) rfl (by kernel_rfl) (by kernel_rfl) (by kernel_rfl) (fun _ _ _ h => h) (Or.inl ⟨by kernel_rfl, ?_⟩) (by assumption) ?_
    rotate_left
    · intro w hSw
      try dsimp only at hSw
      go_simp
      try with_reducible rfl
    try simp only [List.getElem_toArray, List.getElem_cons_zero, List.getElem_cons_succ, Act.put, List.setIfInBounds_toArray, List.set_cons_zero, List.set_cons_succ]
    refine wpAnyH_take (i := 22) (v := ?_) rfl (by kernel_rfl) (by kernel_rfl) (by kernel_rfl) (fun _ _ _ h => h) (Or.inl ⟨by kernel_rfl, ?_⟩) (by assumption) ?_
    rotate_left
    · intro w hSw
      try dsimp only at hSw
      go_simp
      try with_reducible rfl
    try simp only [List.getElem_toArray, List.getElem_cons_zero, List.getElem_cons_succ, Act.put, List.setIfInBounds_toArray, List.set_cons_zero, List.set_cons_succ]
    refine wpAnyH_take (i := 23) (v := ?_) rfl (by kernel_rfl) (by kernel_rfl) (by kernel_rfl) (fun _ _ _ h => h) (Or.inl ⟨by kernel_rfl, ?_⟩) (by assumption) ?_
    rotate_left
    · intro w hSw
      try dsimp only at hSw
      go_simp
      try with_reducible rfl
    try simp only [List.getElem_toArray, List.getElem_cons_zero, List.getElem_cons_succ, Act.put, List.setIfInBounds_toArray, List.set_cons_zero, List.set_cons_succ]
    refine wpAnyH_done (by kernel_rfl) ?_ _
    refine NoPanic.normal ?_
    clear hHeld keepS
    have HO2 := Lib.hid hO2
    have hN2 : w.heap.size < W2.heap.size := (Array.getElem?_eq_some_iff.1 HRW.out).1
    have HR2 := Lib.hid ((hX2.block w.heap.size hN2).trans HRW.out)
    have HB2 := Lib.hid (HBW.out.trans (hX2.mono (Nat.le_of_lt hN2)))
    clear hO2 hb2 hX2
    go_wp2_with fail
    refine (rput_n (sts ++ [⟨2, (sts.length : Int) + 1, 0, ⟨0, 0, 0, 0⟩⟩]) (sts.length + 1) (by rw [List.length_append]; rfl) _ A2 c2 eSt w2 HO2.out (by omega)).mono ?_
    rintro e w3 ⟨A3, c3, rfl, hO3, hb3⟩
    have hN3 : w.heap.size < w2.heap.size := (Array.getElem?_eq_some_iff.1 HR2.out).1
    obtain ⟨q0, q1, q2, z0, z1, z2⟩ := part_row ((hb3.block w.heap.size hN3).trans HR2.out)
    have HO3 := Lib.hid hO3
    have HB3 := Lib.hid (HB2.out.trans (hb3.mono (Nat.le_of_lt hN3)))
    clear hO3 hb3
    go_wp2_with fail
    have hRR := HRM.out
    subst hRR
    refine bodyPost_ret (v := .agg #[.slice A3 (sts.length + 1 + 1) c3, .int .i64 sts.length, .int .i64 ((sts.length + 1 : Nat) : Int)]) (by simp [results, Try.results40, go_sem, q0, q1, q2, z0, z1, z2, Try.underlying79]) rfl ⟨A3, c3, _, rfl, by simp, ?_, ?_⟩
    · have e : sts ++ [⟨2, (sts.length : Int) + 1, 0, ⟨0, 0, 0, 0⟩⟩] ++ [eSt] = sts ++ [(⟨2, ((sts.length + 1 : Nat) : Int), 0, ⟨0, 0, 0, 0⟩⟩ : St), eSt] := by simp
      have := HO3.out
      rw [e] at this
      exact Go.Proofs.Ytibabfgfahlekaa.own_mono (ownsRow_setCell_below (ownsRow_setCell_below (ownsRow_setCell_below this (by simp; omega) _) (by simp; omega) _) (by simp; omega) _) (by omega)
    · repeat refine Below.setCell ?_ (by simp) _
      exact HB3.out
end Go.Proofs.YtibabfgfahlekaaQ
