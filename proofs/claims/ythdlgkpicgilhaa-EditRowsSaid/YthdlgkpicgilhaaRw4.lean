/- The walk of the law EditRows. -/
import Derived.Test.YthdlgkpicgilhaaRw3
import Derived.Test.YthdlgkpicgilhaaEd9
set_option linter.unusedVariables false
set_option linter.unusedSimpArgs false
namespace Go.Proofs.Ythdlgkpicgilhaa
open Go.RowKit

theorem info_edit : (Try.prog.info? 23).map (fun i => (i.zero, i.size, i.bytes)) = some (some (.agg #[.int .i64 0, .int .i64 0, .string ⟨#[]⟩]), 3, 32) := by kernel_rfl
def fewE (e : E1) : E1 := ⟨e.A, e.D, fewT e.T⟩
def zE1 : E1 := ⟨0, 0, ⟨#[]⟩⟩

set_option maxHeartbeats 800000 in
theorem few_big (A D : Int) (T : ByteArray) (w : World) (hT : T.size ≤ 9223372036854775807) : Calls Try.prog 7 #[.agg #[.int .i64 A, .int .i64 D, .string T]] w fun e w' => e = .returned (.agg #[.int .i64 A, .int .i64 D, .string (fewT T)]) ∧ Below w.heap.size w w' := by
  go_enter Try.func7, Try.ntmps7
  go_wp2
  refine bodyPost_ret (v := .agg #[.int .i64 A, .int .i64 D, .string (T.extract 0 (min (T.size : Int) 40).toNat)]) (by simp [results, Try.results7, go_sem]) rfl ⟨?_, bel_alloc (bel_alloc (Below.refl _ _) _) _⟩
  unfold fewT
  rw [show (min (T.size : Int) 40).toNat = min T.size 40 by omega]

def RefRows : Prop := ∀ (A : Option Addr) (n c : Nat) (l : List E1) (m : Int) (w : World) (h : Reads w 3 A n (l.flatMap E1.cells)) (hn : n ≤ 1000000) (hm0 : -9223372036854775808 ≤ m) (hm : m ≤ 9223372036854775807),
    Calls Try.prog 18 #[.slice A n c, .int .i64 m] w fun e w' => e = .returned (.bool (rowsFrom m 0 l)) ∧ Below w.heap.size w w'

set_option maxRecDepth 100000 in
set_option maxHeartbeats 6400000 in
theorem rows_walk (RR : RefRows) (AW : ∀ w : World, Calls Try.prog 6 #[] w fun e w' => e = .returned (.bool true) ∧ Below w.heap.size w w')
    (t t' : ByteArray) (A : Option Addr) (n c : Nat) (l : List E1) (m : Int) (w : World) (ht : t' = t.extract 0 (min (t.size : Int) 80).toNat) (ht2 : t.size ≤ 140737488351232) (ht3 : t'.size ≤ 80)
    (h : Reads w 3 A n (l.flatMap E1.cells)) (hn : n ≤ 140737488351232) (hok : ∀ e ∈ l, e.T.size ≤ 9223372036854775807) (hm0 : -9223372036854775808 ≤ m) (hm : m ≤ 9223372036854775807) :
    Calls Try.prog 5 #[.string t, .slice A n c, .int .i64 m] w fun e w' => e = .returned (.bool true) ∧ Below w.heap.size w w' := by
  have hl := h.length E1.cells E1.cells_length (by omega)
  have HL := Lib.hid hl
  have HOK := Lib.hid hok
  clear hl hok
  go_enter Try.func5, Try.ntmps5
  go_wp2_with fail
  refine (AW _).mono ?_
  rintro e w1 ⟨rfl, hb1⟩
  have h1 := h.below hb1
  clear h
  go_upto_region 3 with fail
  go_cut [0] (fun s0 wx => s0 = .string t' ∧ w1 = wx)
  case first =>
    go_wp2_with fail
    go_meet
    exact ⟨by rw [ht], rfl⟩
  case rest =>
    obtain ⟨rfl, rfl⟩ := hcut
    clear ht
    go_wp2_with fail
    go_loopw [7, 8] (fun o_ i_ wr => ∃ (A1 : Option Addr) (c1 q : Nat), o_ = .slice A1 q c1 ∧ wr.ownsRow w1.heap.size 23 3 (.slice A1 q c1) q (((l.take q).map fewE).flatMap E1.cells) ∧ i_ = .int .i64 q ∧ q ≤ n ∧ q ≤ 12 ∧ Below w1.heap.size w1 wr) (fun _ i_ _ => 12 - (intOf i_).toNat)
    case atStart => exact ⟨none, 0, 0, rfl, own_new, rfl, by omega, by omega, Below.refl _ _⟩
    case round =>
      obtain ⟨A1, c1, q, rfl, HO, rfl, hq, hq2, hb⟩ := hrel
      by_cases hlt : q < n ∧ q < 12
      · obtain ⟨hlt1, hlt2⟩ := hlt
        obtain ⟨ad, x, rfl, hx, d0, d1, d2⟩ := (h1.below hb).ed hlt1
        have hxT := HOK.out x (List.mem_of_getElem? hx)
        have htk : (l.take (q + 1)).map fewE = (l.take q).map fewE ++ [fewE x] := by
          rw [List.take_add_one, hx]; simp
        have HTK := Lib.hid htk
        have hqn : (q : Int) < n := by omega
        have hq12 : (q : Int) < 12 := by omega
        clear hx htk
        go_wp2_with fail
        refine (few_big x.A x.D x.T _ hxT).mono ?_
        rintro e w2 ⟨rfl, hb2⟩
        have HO2 := own_below HO hb2
        have hbb := bel_then hb hb2
        clear HO hb hb2
        go_wp2_with (at_builtin; refine app_lit rfl (.tmp 28) (.tmp 34) 39 rfl w1.heap.size 23 Try.underlying39 info_edit rfl (by omega) (by omega) _ q (((l.take q).map fewE).flatMap E1.cells) rfl HO2 [.int .i64 x.A, .int .i64 x.D, .string (fewT x.T)] 1 1 rfl rfl rfl (by omega) hbb (Nat.le_refl _) hbb.size ?_; intro A3 c3 w3 HO3 hg3 hb3)
        go_roundw
        case rel =>
          refine ⟨A3, c3, q + 1, rfl, ?_, by go_num, by omega, by omega, hb3⟩
          rw [HTK.out, List.flatMap_append]
          simpa [E1.cells, fewE] using HO3
        case measure => simp [intOf] <;> omega
      · have hML : ∀ e ∈ (l.take q).map fewE, e.T.size ≤ 40 := by
          intro e he
          obtain ⟨x, _, rfl⟩ := List.mem_map.1 he
          exact fewT_size x.T
        have hr := Reads.of_own HO
        generalize (l.take q).map fewE = ml at hML hr
        have HML := Lib.hid hML
        have hq' : ¬ ((q : Int) < n) ∨ ((q : Int) < n ∧ ¬ ((q : Int) < 12)) := by omega
        clear hML HO hlt
        have hbw := bel_then hb1 hb
        rcases hbn : rowsFrom m 0 ml with _ | _ <;> rcases hbg : rowsFrom t'.size 0 ml with _ | _ <;> rcases hq' with hq' | ⟨hq1, hq'⟩
        all_goals
          have HBN := Lib.hid hbn
          have HBG := Lib.hid hbg
          clear hbn hbg
          go_wp2_with fail
          first
          | (refine (eall_no t' A1 q c1 ml _ hr (by omega) (by omega) HBG.out).mono ?_
             rintro e w2 ⟨rfl, hb2⟩
             have hr2 := hr.below hb2
             have hbw2 := bel_then hbw hb2
             go_wp2_with fail
             refine (erows_any A1 q c1 ml m _ hr2 (by omega) hm0 hm).mono ?_
             rw [HBN.out]
             rintro e w3 ⟨rfl, hb3⟩
             have hr3 := hr2.below hb3
             have hbw3 := bel_then hbw2 hb3
             go_wp2_with fail
             refine (RR A1 q c1 ml m _ hr3 (by omega) hm0 hm).mono ?_
             rw [HBN.out]
             rintro e w4 ⟨rfl, hb4⟩
             have hr4 := hr3.below hb4
             have hbw4 := bel_then hbw3 hb4
             go_wp2_with fail
             refine (RR A1 q c1 ml t'.size _ hr4 (by omega) (by omega) (by omega)).mono ?_
             rw [HBG.out]
             rintro e w5 ⟨rfl, hb5⟩
             go_wp2_with fail
             go_ret
             exact ⟨rfl, bel_then hbw4 hb5⟩)
          | (obtain ⟨R, hR⟩ : ∃ R, R = backE t' ml := ⟨_, rfl⟩
             have HRR := Lib.hid hR
             clear hR
             refine (eall_yes t' A1 q c1 ml _ hr (by omega) (by omega) HML.out HBG.out).mono ?_
             rw [← HRR.out]
             rintro e w2 ⟨rfl, hb2⟩
             have hr2 := hr.below hb2
             have hbw2 := bel_then hbw hb2
             go_wp2_with fail
             refine (erows_any A1 q c1 ml m _ hr2 (by omega) hm0 hm).mono ?_
             rw [HBN.out]
             rintro e w3 ⟨rfl, hb3⟩
             have hr3 := hr2.below hb3
             have hbw3 := bel_then hbw2 hb3
             go_wp2_with fail
             refine (RR A1 q c1 ml m _ hr3 (by omega) hm0 hm).mono ?_
             rw [HBN.out]
             rintro e w4 ⟨rfl, hb4⟩
             have hr4 := hr3.below hb4
             have hbw4 := bel_then hbw3 hb4
             go_wp2_with fail
             refine (RR A1 q c1 ml t'.size _ hr4 (by omega) (by omega) (by omega)).mono ?_
             rw [HBG.out]
             rintro e w5 ⟨rfl, hb5⟩
             have hr5 := hr4.below hb5
             have hbw5 := bel_then hbw4 hb5
             go_wp2_with fail
             refine (rall_any t' A1 q c1 ml _ hr5 (by omega) (by omega) HML.out HBG.out).mono ?_
             rw [← HRR.out]
             rintro e w6 ⟨rfl, hb6⟩
             go_wp2_with fail
             go_ret
             exact ⟨rfl, bel_then hbw5 hb6⟩)

theorem editRows_of (RR : RefRows) (AW : ∀ w : World, Calls Try.prog 6 #[] w fun e w' => e = .returned (.bool true) ∧ Below w.heap.size w w')
    (t : ByteArray) (A : Option Addr) (n c : Nat) (l : List E1) (m : Int) (w : World) (ht : t.size ≤ 140737488351232)
    (h : Reads w 3 A n (l.flatMap E1.cells)) (hnc : n ≤ c) (hn : n ≤ 140737488351232) (hok : ∀ e ∈ l, e.T.size ≤ 9223372036854775807) (hm0 : -9223372036854775808 ≤ m) (hm : m ≤ 9223372036854775807) :
    Calls Try.prog 5 #[.string t, .slice A n c, .int .i64 m] w fun e w' => e = .returned (.bool true) ∧ Below w.heap.size w w' := by
  refine rows_walk RR AW t (t.extract 0 (min (t.size : Int) 80).toNat) A n c l m w rfl ht ?_ h hn hok hm0 hm
  rw [ByteArray.size_extract]
  omega
end Go.Proofs.Ythdlgkpicgilhaa
