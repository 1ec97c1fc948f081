import Derived.Test.YtfjemaeidmikmaaDoorFGrEv
import Derived.Test.YtfjemaeidmikmaaDoorFM2
import Derived.Test.YtfjemaeidmikmaaDoorFQTattingref07Fit
import Derived.Test.YtfjemaeidmikmaaDoorFM3
set_option linter.unusedVariables false
set_option linter.unusedSimpArgs false
namespace Go.Proofs.YtfjemaeidmikmaaDoorQ
open Go.RowKit Go.Proofs.YtfjemaeidmikmaaDoorW.PrintWords Go.Proofs.YtfjemaeidmikmaaDoorW.PrintLast Go.Proofs.Bs Go.Proofs.YtfjemaeidmikmaaDoor
def txN (t : ByteArray) (i : Nat) : Nat := (bt t (i : Int)).toNat
theorem bt_lt (t : ByteArray) (i : Int) : 0 ≤ bt t i ∧ bt t i < 256 := by
  unfold bt;split
  · have := (t[i.toNat]).toNat_lt;omega
  · omega
theorem bt_tx (t : ByteArray) (i : Nat) : bt t (i : Int) = (txN t i : Int) := by
  unfold txN;have := bt_lt t i;omega
theorem txN_lt (t : ByteArray) (i : Nat) : txN t i < 256 := by
  unfold txN;have := bt_lt t i;omega
theorem rdT_at {T : List NdI} {i : Nat} (hi : i < T.length) : rd_T71 T (i : Int) = T[i] := by
  unfold rd_T71;rw [Int.toNat_natCast, List.getD_eq_getElem?_getD, List.getElem?_eq_getElem hi];rfl
theorem fit_l0 (T : List NdI) (i : Nat) (hi : i < T.length) (hw : ndWf T[i]) (t : ByteArray) (hn : t.size ≤ 100000) : ∀ (d m : Nat) (G : Grid), t.size - m = d → m ≤ t.size →
    EV (fun k => tattingref07_Fit.l0 k T (i : Int) t (t.size : Int) (gridL t.size G) (m : Int)) (gridL t.size fun a b => if m ≤ a ∧ a < t.size ∧ b = a + 1 then has (ndOf T[i]).set (txN t a) else G a b) := by
  intro d
  induction d with
  | zero =>
    intro m G hd hm;(obtain rfl : m = t.size := by omega);refine EV.cast (EV.stop (r := gridL t.size G) fun k => ?_) (gridL_congr fun a b ha hb => ?_)
    · simp only [tattingref07_Fit.l0];rw [if_neg (by omega)]
    · rw [if_neg (by omega)]
  | succ d ih =>
    intro m G hd hm;(have p1 : (m : Int) < (t.size : Int) := by omega);(have p2 : (0 : Int) ≤ (m : Int) := by omega);(have p3 : (m : Int) < ((gridL t.size G).length : Int) := by rw [gridL_len]; omega);(have p4 : (0 : Int) ≤ (i : Int) := by omega);(have p5 : (i : Int) < (T.length : Int) := by omega);(have p6 : (0 : Int) ≤ ((m + 1 : Nat) : Int) := by omega);(have p7 : ((m + 1 : Nat) : Int) < ((rd_L10 (gridL t.size G) (m : Int)).length : Int) := by rw [gridL_rlen (by omega)]; omega);(have p8 : wrap64 (bt t (m : Int)) = (txN t m : Int) := by rw [bt_tx]; have := txN_lt t m; unfold wrap64; omega)
    have p9 : tattingref01_Has.f T[i].f1.f0 T[i].f1.f1 T[i].f1.f2 T[i].f1.f3 (txN t m : Int) = some (has (ndOf T[i]).set (txN t m)) := by
      unfold tattingref01_Has.f;have := txN_lt t m;rw [if_pos ⟨hw, by omega, by omega⟩, Int.toNat_natCast];rfl
    have hstep := ih (m + 1) (updG G m (m + 1) (has (ndOf T[i]).set (txN t m))) (by omega) (by omega);refine EV.cast (EV.step hstep fun k => ?_) (gridL_congr fun a b ha hb => ?_)
    · simp only [tattingref07_Fit.l0];rw [if_pos p1, if_pos p2, if_pos p3, if_pos p4, if_pos p5, p8, rdT_at hi, p9, Option.bind_some, up1 m (by omega), if_pos p6, if_pos p7, gridL_set (by omega) (by omega), if_pos p1]
    · unfold updG;by_cases h1 : m + 1 ≤ a ∧ a < t.size ∧ b = a + 1
      · rw [if_pos h1, if_pos (by omega)]
      · rw [if_neg h1];by_cases h2 : a = m ∧ b = m + 1
        · rw [if_pos h2, if_pos (by omega), h2.1]
        · rw [if_neg h2, if_neg (by omega)]
theorem fit_l2 (n : Nat) (hn : n ≤ 100000) (x : Grid) (lo more : Nat) (hm : more ≤ 100000) : ∀ d j : Nat, more - j = d → j ≤ more →
    EV (fun k => tattingref07_Fit.l2 k (gridL n (repG n x lo j)) (gridL n x) (gridL n (powG n x (lo + j))) (more : Int) (j : Int)) (gridL n (repG n x lo more)) := by
  intro d
  induction d with
  | zero =>
    intro j hd hj;(obtain rfl : j = more := by omega);(refine EV.stop fun k => ?_);simp only [tattingref07_Fit.l2];rw [if_neg (by omega)]
  | succ d ih =>
    intro j hd hj;(have p1 : (j : Int) < (more : Int) := by omega);refine EV.succ ?_;simp only [tattingref07_Fit.l2, p1, if_true, up1 j (by omega)];refine EV.bind (behind_ev n hn _ _) ?_;refine EV.bind (either_ev n hn _ _) ?_;exact ih (j + 1) (by omega) (by omega)
theorem fit_l1 (T : List NdI) (i : Nat) (hi : i < T.length) (n : Nat) (hn : n ≤ 100000) (x : Grid) (lo more : Nat) (hlo : T[i].f2 = (lo : Int)) (hb : lo ≤ 1000) (hmm : more ≤ 100000) (hm : if T[i].f3 = -1 then n = more else wrap64 (T[i].f3 - T[i].f2) = (more : Int)) :
    ∀ d j : Nat, lo - j = d → j ≤ lo → EV (fun k => tattingref07_Fit.l1 k T (i : Int) (n : Int) (gridL n x) (gridL n (powG n x j)) (j : Int)) (gridL n (repG n x lo more)) := by
  (have p4 : (0 : Int) ≤ (i : Int) := by omega);(have p5 : (i : Int) < (T.length : Int) := by omega);intro d
  induction d with
  | zero =>
    intro j hd hj;(obtain rfl : j = lo := by omega)
    have hfin : EV (fun k => tattingref07_Fit.j2 k (gridL n x) (gridL n (powG n x j)) (more : Int)) (gridL n (repG n x j more)) := by
      refine EV.succ ?_;simp only [tattingref07_Fit.j2];exact fit_l2 n hn x j more hmm _ 0 rfl (by omega)
    (refine EV.step hfin fun k => ?_);simp only [tattingref07_Fit.l1];rw [if_pos p4, if_pos p5, rdT_at hi, hlo, if_neg (by omega)];by_cases h3 : T[i].f3 = -1
    · rw [if_pos h3];rw [if_pos h3] at hm;rw [hm]
    · rw [if_neg h3];rw [if_neg h3, hlo] at hm;rw [hm]
  | succ d ih =>
    intro j hd hj;(have p1 : (j : Int) < (lo : Int) := by omega);refine EV.succ ?_;simp only [tattingref07_Fit.l1, p4, p5, rdT_at hi, hlo, p1, if_true, up1 j (by omega)];refine EV.bind (behind_ev n hn _ _) ?_;exact ih (j + 1) (by omega) (by omega)
theorem fit_ev (T : List NdI) (hw : ndsWf T = true) (hT : T.length ≤ 1000000) (t : ByteArray) (hn : t.size ≤ 100000) (hr : rightB (T.map ndOf) = true) (i : Nat) :
    i < T.length → EV (fun k => tattingref07_Fit.f k T (i : Int) t) (gridL t.size (attr (fitG t.size (txN t)) (T.map ndOf) i)) := by
  obtain ⟨_, hall, _⟩ := (rightB_iff _).1 hr
  induction i using Nat.strongRecOn with
  | ind i ih =>
    intro hi;(have hi' : i < (T.map ndOf).length := by rw [List.length_map]; exact hi);have hf := (hall i hi').1;have hfields := (hall i hi').2;(have hx : (T.map ndOf)[i]? = some (ndOf T[i]) := by rw [List.getElem?_map, List.getElem?_eq_getElem hi]; rfl);(have hg : (T.map ndOf).getD i zNd = ndOf T[i] := by rw [List.getD_eq_getElem?_getD, hx]; rfl);rw [hg] at hfields;obtain ⟨ha, _⟩ := stack_room _ hr i _ hx;have hlen := kidsP_length _ i _ hx hf;have hok := kidsP_ok _ i hi' hf;have hwi : ndWf T[i] := ndsWf_at hw (List.getElem_mem hi);(have p4 : (0 : Int) ≤ (i : Int) := by omega);(have p5 : (i : Int) < (T.length : Int) := by omega)
    have hkids : tattingref04_Kids.f T (i : Int) = some (kidsP (T.map ndOf) i) := by
      unfold tattingref04_Kids.f;rw [Int.toNat_natCast, if_pos ⟨hT, hw, by omega, by omega, hf⟩]
    rw [attr_eq _ _ i hi' hf, hg];have hkind : (ndOf T[i]).kind = T[i].f0 := rfl;generalize kidsP (T.map ndOf) i = ks at hlen hok hkids;refine EV.succ ?_;simp only [tattingref07_Fit.f, hkids, Option.bind_some, p4, p5, if_true, rdT_at hi];refine EV.bind (grid_ev t.size hn) ?_;(have hwk : ∀ k : Int, arity (ndOf T[i]).kind = k → (ks.length : Int) = k := by intro k hk; rw [hlen]; omega);rcases kind_cases ha with ⟨hk, h0⟩ | ⟨hk, h0⟩ | ⟨hk, h0⟩
    · obtain rfl : ks = [] := List.eq_nil_of_length_eq_zero (by have := hwk _ h0; omega);rw [hkind] at hk;unfold fitG;rw [hkind];rcases hk with e | e | e | e <;> rw [e]
      · simp only [if_true];refine EV.cast (fit_l0 T i hi hwi t hn _ 0 _ rfl (by omega)) (gridL_congr fun a b ha hb => ?_);by_cases h : b = a + 1
        · rw [if_pos (by omega), decide_eq_true ⟨h, hb⟩, Bool.true_and]
        · rw [if_neg (fun q => h q.2.2), decide_eq_false (fun q => h q.1), Bool.false_and]
      · simp only [show ¬ ((2 : Int) = 1) by omega, if_false, if_true];refine EV.bind (even_ev t.size hn) ?_;exact EV.const
      · (have q1 : (0 : Int) < ((gridL t.size fun _ _ => false).length : Int) := by rw [gridL_len]; omega)
        have q2 : (0 : Int) < ((rd_L10 (gridL t.size fun _ _ => false) 0).length : Int) := by
          have := gridL_rlen (n := t.size) (G := fun _ _ => false) (i := 0) (by omega);rw [show ((0 : Nat) : Int) = 0 from rfl] at this;rw [this]; omega
        have q3 := gridL_set (n := t.size) (G := fun _ _ => false) (i := 0) (j := 0) (by omega) (by omega) true;rw [show ((0 : Nat) : Int) = 0 from rfl] at q3;simp only [show ¬ ((3 : Int) = 1) by omega, show ¬ ((3 : Int) = 2) by omega, if_false, if_true, q1, q2, q3];refine EV.cast EV.const (gridL_congr fun a b ha hb => ?_);unfold updG;by_cases h : a = 0 ∧ b = 0
        · rw [if_pos h, decide_eq_true h]
        · rw [if_neg h, decide_eq_false h]
      · (have q0 : (0 : Int) ≤ (t.size : Int) := by omega);(have q1 : (t.size : Int) < ((gridL t.size fun _ _ => false).length : Int) := by rw [gridL_len]; omega)
        have q2 : (t.size : Int) < ((rd_L10 (gridL t.size fun _ _ => false) (t.size : Int)).length : Int) := by
          rw [gridL_rlen (by omega)]; omega
        have q3 := gridL_set (n := t.size) (G := fun _ _ => false) (i := t.size) (j := t.size) (by omega) (by omega) true;simp only [show ¬ ((4 : Int) = 1) by omega, show ¬ ((4 : Int) = 2) by omega, show ¬ ((4 : Int) = 3) by omega, if_false, if_true, q0, q1, q2, q3];refine EV.cast EV.const (gridL_congr fun a b ha hb => ?_);unfold updG;by_cases h : a = t.size ∧ b = t.size
        · rw [if_pos h, decide_eq_true h]
        · rw [if_neg h, decide_eq_false h]
    · (have h2 : ks.length = 2 := by have := hwk _ h0; omega)
      obtain ⟨y, z, rfl⟩ : ∃ y z, ks = [y, z] := by
        match ks, h2 with
        | [y, z], _ => exact ⟨y, z, rfl⟩
      case _ =>
        have hy := hok y (by simp);have hz := hok z (by simp);(have ey : ((y.toNat : Nat) : Int) = y := by omega);(have ez : ((z.toNat : Nat) : Int) = z := by omega);have iy := ih y.toNat (by omega) (by omega);have iz := ih z.toNat (by omega) (by omega);rw [ey] at iy;rw [ez] at iz;have r0 : rd [y, z] 0 = y := rfl;have r1 : rd [y, z] 1 = z := rfl;(have l0 : (0 : Int) < (([y, z] : List Int).length : Int) := by show (0 : Int) < ((2 : Nat) : Int); omega);(have l1 : (1 : Int) < (([y, z] : List Int).length : Int) := by show (1 : Int) < ((2 : Nat) : Int); omega);rw [hkind] at hk;unfold fitG;rw [hkind];rcases hk with e | e <;> rw [e]
        · simp only [show ¬ ((5 : Int) = 1) by omega, show ¬ ((5 : Int) = 2) by omega, show ¬ ((5 : Int) = 3) by omega, show ¬ ((5 : Int) = 4) by omega, if_false, if_true, l0, l1, r0, r1];refine EV.bind iy ?_;refine EV.bind iz ?_;refine EV.bind (behind_ev t.size hn _ _) ?_;exact EV.const
        · simp only [show ¬ ((6 : Int) = 1) by omega, show ¬ ((6 : Int) = 2) by omega, show ¬ ((6 : Int) = 3) by omega, show ¬ ((6 : Int) = 4) by omega, show ¬ ((6 : Int) = 5) by omega, if_false, if_true, l0, l1, r0, r1];refine EV.bind iy ?_;refine EV.bind iz ?_;refine EV.bind (either_ev t.size hn _ _) ?_;exact EV.const
    · (have h2 : ks.length = 1 := by have := hwk _ h0; omega);obtain ⟨b1, b2, b3⟩ := rep_fields hfields hk
      obtain ⟨y, rfl⟩ : ∃ y, ks = [y] := by
        match ks, h2 with
        | [y], _ => exact ⟨y, rfl⟩
      case _ =>
        have hy := hok y (by simp);(have ey : ((y.toNat : Nat) : Int) = y := by omega);have iy := ih y.toNat (by omega) (by omega);rw [ey] at iy;have r0 : rd [y] 0 = y := rfl;(have l0 : (0 : Int) < (([y] : List Int).length : Int) := by show (0 : Int) < ((1 : Nat) : Int); omega);rw [hkind] at hk;unfold fitG;rw [hkind, hk];simp only [show ¬ ((7 : Int) = 1) by omega, show ¬ ((7 : Int) = 2) by omega, show ¬ ((7 : Int) = 3) by omega, show ¬ ((7 : Int) = 4) by omega, show ¬ ((7 : Int) = 5) by omega, show ¬ ((7 : Int) = 6) by omega, if_false, if_true, l0, r0];refine EV.bind iy ?_;refine EV.bind (even_ev t.size hn) ?_;have elo : (ndOf T[i]).lo = T[i].f2 := rfl;have ehi : (ndOf T[i]).hi = T[i].f3 := rfl;rw [elo, ehi] at b3;rw [elo] at b1 b2;rw [elo, ehi];refine fit_l1 T i hi t.size hn _ T[i].f2.toNat _ (by omega) (by omega) ?_ ?_ _ 0 rfl (by omega)
        · split <;> omega
        · by_cases h3 : T[i].f3 = -1
          · rw [if_pos h3, if_pos h3]
          · rw [if_neg h3, if_neg h3];unfold wrap64;omega
theorem all_ev (T : List NdI) (hw : ndsWf T = true) (hT : T.length ≤ 1000000) (t : ByteArray) (hn : t.size ≤ 100000) (hr : rightB (T.map ndOf) = true) :
    EV (fun k => tattingref07_All.f k T t) (gridL t.size (attr (fitG t.size (txN t)) (T.map ndOf) (T.length - 1))) := by
  have hlen : 0 < T.length := by
    have := ((rightB_iff _).1 hr).2.2.1;rwa [List.length_map] at this
  (have e1 : wrap64 ((T.length : Int) - 1) = ((T.length - 1 : Nat) : Int) := by unfold wrap64; omega);unfold tattingref07_All.f;rw [e1];refine EV.bind (fit_ev T hw hT t hn hr (T.length - 1) (by omega)) ?_;exact EV.const
end Go.Proofs.YtfjemaeidmikmaaDoorQ
