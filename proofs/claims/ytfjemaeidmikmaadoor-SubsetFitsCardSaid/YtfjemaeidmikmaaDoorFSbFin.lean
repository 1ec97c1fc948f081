import Derived.Test.YtfjemaeidmikmaaDoorFM7
import Derived.Test.YtfjemaeidmikmaaDoorFFitEv
import Derived.Test.YtfjemaeidmikmaaDoorFQTattingref11Run
import Derived.Test.YtfjemaeidmikmaaDoorFQTattingref11Word
import Derived.Test.YtfjemaeidmikmaaDoorFQTattingref11Go
set_option linter.unusedVariables false
set_option linter.unusedSimpArgs false
namespace Go.Proofs.YtfjemaeidmikmaaDoorQ
open Go.RowKit Go.Proofs.YtfjemaeidmikmaaDoorW.PrintWords Go.Proofs.YtfjemaeidmikmaaDoorW.PrintLast Go.Proofs.Bs Go.Proofs.YtfjemaeidmikmaaDoor
theorem knR_spec (M : Mk2) (t : List Bool) : ∃ X, (knR M t).1 = M ++ X ∧ (knR M t).1[(knR M t).2]? = some t := by
  unfold knR;by_cases h : t ∈ M
  · rw [if_pos h];refine ⟨[], by simp, ?_⟩;have hl := List.idxOf_lt_length_of_mem h;rw [List.getElem?_eq_getElem hl, List.getElem_idxOf hl]
  · rw [if_neg h];exact ⟨[t], rfl, by simp⟩
theorem getD_app {M X : Mk2} {a : Nat} (h : a < M.length) : (M ++ X).getD a [] = M.getD a [] := by
  rw [List.getD_eq_getElem?_getD, List.getD_eq_getElem?_getD, List.getElem?_append_left h]
theorem rinN_spec (sts : List St) (a : Nat) : ∀ (l : List Int) (q : Qr), a < q.1.length → ∃ X Y, (rinN sts a l q).1 = q.1 ++ X ∧ (rinN sts a l q).2 = q.2 ++ Y ∧ Y.length = l.length ∧ ∀ (c : Nat) (x : Int), l[c]? = some x → ∃ k : Nat, Y[c]? = some (k : Int) ∧ (rinN sts a l q).1[k]? = some (stepM sts (q.1.getD a []) x)
  | [], q, ha => ⟨[], [], by simp [rinN], by simp [rinN], rfl, fun c x h => by simp at h⟩
  | y :: l, q, ha => by
    obtain ⟨X0, e0, h0⟩ := knR_spec q.1 (stepM sts (q.1.getD a []) y)
    have hs1 : (rinStep sts a q y).1 = q.1 ++ X0 := e0
    have hs2 : (rinStep sts a q y).2 = q.2 ++ [((knR q.1 (stepM sts (q.1.getD a []) y)).2 : Int)] := rfl
    have hk : (rinStep sts a q y).1[(knR q.1 (stepM sts (q.1.getD a []) y)).2]? = some (stepM sts (q.1.getD a []) y) := h0
    have ha2 : a < (rinStep sts a q y).1.length := by rw [hs1, List.length_append]; omega
    obtain ⟨X, Y, e1, e2, hY, hsp⟩ := rinN_spec sts a l (rinStep sts a q y) ha2
    have er : rinN sts a (y :: l) q = rinN sts a l (rinStep sts a q y) := rfl
    have hg : (rinStep sts a q y).1.getD a [] = q.1.getD a [] := by rw [hs1, getD_app ha]
    rw [hg] at hsp
    refine ⟨X0 ++ X, ((knR q.1 (stepM sts (q.1.getD a []) y)).2 : Int) :: Y, by rw [er, e1, hs1, List.append_assoc], by rw [er, e2, hs2, List.append_assoc]; rfl, by simp [hY], fun c x h => ?_⟩
    rw [er]
    cases c with
    | zero =>
      have hx : y = x := by simpa using h
      subst hx
      refine ⟨_, rfl, ?_⟩
      rw [e1]
      have hl := (List.getElem?_eq_some_iff.1 hk).1
      rw [List.getElem?_append_left hl]
      exact hk
    | succ c =>
      have h' : l[c]? = some x := by simpa using h
      obtain ⟨k, h1, h2⟩ := hsp c x h'
      exact ⟨k, by simpa using h1, h2⟩
structure Dn (sts : List St) (F : List Int) (a : Nat) (q : Qr) : Prop where
  ok : okM sts.length q.1
  le : a ≤ q.1.length
  len : q.2.length = a * F.length
  go : ∀ b, b < a → ∀ (c : Nat) (x : Int), F[c]? = some x → ∃ k : Nat, q.2[b * F.length + c]? = some (k : Int) ∧ q.1[k]? = some (stepM sts (q.1.getD b []) x)
theorem Dn.next {sts : List St} {F : List Int} {a : Nat} {q : Qr} (h : Dn sts F a q) (ha : a < q.1.length) : Dn sts F (a + 1) (rinN sts a F q) := by
  obtain ⟨X, Y, e1, e2, hY, hsp⟩ := rinN_spec sts a F q ha;refine ⟨rinN_ok sts a F q h.ok, by rw [e1, List.length_append]; omega, by rw [e2, List.length_append, h.len, hY, Nat.succ_mul], fun b hb c x hx => ?_⟩;have hc := (List.getElem?_eq_some_iff.1 hx).1;by_cases e : b = a
  · subst e;obtain ⟨k, h1, h2⟩ := hsp c x hx;refine ⟨k, ?_, ?_⟩
    · rw [e2, List.getElem?_append_right (by rw [h.len]; omega), h.len, show b * F.length + c - b * F.length = c by omega];exact h1
    · (have hg : (rinN sts b F q).1.getD b [] = q.1.getD b [] := by rw [e1, getD_app ha]);rw [hg];exact h2
  · obtain ⟨k, h1, h2⟩ := h.go b (by omega) c x hx;have hlt := (List.getElem?_eq_some_iff.1 h1).1;have hkl := (List.getElem?_eq_some_iff.1 h2).1;refine ⟨k, by rw [e2, List.getElem?_append_left hlt]; exact h1, ?_⟩;rw [e1, List.getElem?_append_left hkl, getD_app (by omega)];exact h2
theorem rout_dn (sts : List St) (F : List Int) (most : Int) : ∀ (K a : Nat) (q : Qr), Dn sts F a q → (K : Int) + a = most + 1 → ((routN sts F most K a q).1.length : Int) ≤ most → Dn sts F (routN sts F most K a q).1.length (routN sts F most K a q) ∧ ∃ X, (routN sts F most K a q).1 = q.1 ++ X
  | 0, a, q, h, hK, hl => by
    have : ((routN sts F most 0 a q).1.length : Int) = q.1.length := rfl
    have := h.le
    omega
  | K + 1, a, q, h, hK, hl => by
    unfold routN at hl ⊢
    by_cases c : a < q.1.length ∧ (q.1.length : Int) ≤ most
    · rw [if_pos c] at hl ⊢
      obtain ⟨X, Y, e1, _⟩ := rinN_spec sts a F q c.1
      obtain ⟨h1, X2, h2⟩ := rout_dn sts F most K (a + 1) _ (h.next c.1) (by omega) hl
      exact ⟨h1, X ++ X2, by rw [h2, e1, List.append_assoc]⟩
    · rw [if_neg c] at hl ⊢
      have hle := h.le
      have e : a = q.1.length := by
        by_cases c2 : a < q.1.length
        · exact absurd ⟨c2, hl⟩ c
        · omega
      rw [← e]
      exact ⟨h, [], by simp⟩
theorem rrun_dn (sts : List St) (s : Int) (F : List Int) (most : Int) (h0 : 0 ≤ most) (hl : ((rrunQ sts s F most).1.length : Int) ≤ most) : Dn sts F (rrunQ sts s F most).1.length (rrunQ sts s F most) ∧ (rrunQ sts s F most).1[0]? = some (closeR sts 0 (ofN sts.length [s])) := by
  have hd : Dn sts F 0 ([closeR sts 0 (ofN sts.length [s])], []) := ⟨fun m hm => by rw [List.mem_singleton.1 hm]; exact closeR_len _ _ _, Nat.zero_le _, by simp, fun b hb => by omega⟩;obtain ⟨h1, X, h2⟩ := rout_dn sts F most (most + 1).toNat 0 _ hd (by omega) hl;refine ⟨h1, ?_⟩
  show (routN sts F most (most + 1).toNat 0 ([closeR sts 0 (ofN sts.length [s])], [])).1[0]? = _
  rw [h2];rfl
theorem at_get' {F : List St} {q : Nat} (h : q < F.length) : F[q]? = some (stAt F q) := by
  unfold stAt rd_T64;rw [Int.toNat_natCast, List.getD_eq_getElem?_getD, List.getElem?_eq_getElem h];rfl
theorem hasSt_stS (st : St) (a : Nat) : hasSt st (a : Int) = has (stS st) a := by
  unfold hasSt stS;rw [Int.toNat_natCast]
theorem toP_alike (sts : List St) (a b : Nat) (h : ∀ st ∈ sts, has (stS st) a = has (stS st) b) (p : Nat → Bool) : ∀ L, L ≤ sts.length → toP sts (a : Int) p L = toP sts (b : Int) p L := by
  intro L
  induction L with
  | zero => intro _; rfl
  | succ L ih =>
    intro hL;funext j;simp only [toP]
    have hm : stAt sts L ∈ sts := by
      have := at_get' (F := sts) (q := L) (by omega);exact List.mem_of_getElem? this
    rw [ih (by omega), hasSt_stS, hasSt_stS, h _ hm]
theorem stepM_alike (sts : List St) (m : List Bool) (a b : Nat) (h : lab sts a = lab sts b) : stepM sts m (a : Int) = stepM sts m (b : Int) := by
  by_cases hc : 256 ≤ a ∨ 256 ≤ b
  · rw [(lab_high sts a b hc).1 h]
  · (have ha : a < 256 := by omega);(have hb : b < 256 := by omega);have hl := (lab_low sts a b ha hb).1 h;unfold stepM stepR;rw [if_pos (by omega), if_pos (by omega), toP_alike sts a b hl _ _ (Nat.le_refl _)]
theorem cls_lt (sts : List St) (i : Nat) (h : i < 259) : ∃ c : Nat, rd (cls sts) (i : Int) = (c : Int) ∧ (c : Int) < wid sts := by
  (have hi : i < (cls sts).length := by rw [cls_len]; exact h);rw [rd_at _ i hi, cls_get sts i hi];refine ⟨_, rfl, ?_⟩;unfold wid;(have hil : i < (labs sts).length := by rw [labs_len]; exact h);rw [Al.run_get (labs sts) i hil];have := List.idxOf_lt_length_of_mem ((Al.run_mem (labs sts) _).2 (List.getElem_mem hil));omega
theorem first_lab (sts : List St) (i : Nat) (h : i < 259) (c : Nat) (hc : rd (cls sts) (i : Int) = (c : Int)) (hw : (c : Int) < wid sts) : ∃ g : Nat, (firstsS sts)[c]? = some (g : Int) ∧ lab sts g = lab sts i := by
  have hm := cls_mem sts c hw;have hwl := wid_le sts;have hl := List.idxOf_lt_length_of_mem hm;refine ⟨(cls sts).idxOf (c : Int), ?_, ?_⟩
  · unfold firstsS Al.firstsRow;rw [List.getElem?_map, List.getElem?_range (by omega)]
    show some (Al.firstAt (cls sts) c) = _
    unfold Al.firstAt;rw [if_pos hm]
  · (have hi : i < (cls sts).length := by rw [cls_len]; exact h);rw [← cls_same sts _ _ hl hi, List.getElem_idxOf hl, ← rd_at _ i hi, hc]
def foldM (sts : List St) (m : List Bool) (w : List Int) : List Bool := w.foldl (stepM sts) m
theorem foldM_cons (sts : List St) (m : List Bool) (x : Int) (w : List Int) : foldM sts m (x :: w) = foldM sts (stepM sts m x) w := rfl
structure Cl (sts : List St) (CL : List Int) (WD : Int) (F : List Int) : Prop where
  cl : CL.length = 259
  wd : 0 ≤ WD ∧ WD ≤ 259
  fl : (F.length : Int) = WD
  sym : ∀ i : Nat, i < 259 → ∃ c g : Nat, rd CL (i : Int) = (c : Int) ∧ (c : Int) < WD ∧ F[c]? = some (g : Int) ∧ lab sts g = lab sts i
theorem cl_of (sts : List St) : Cl sts (cls sts) (wid sts) (firstsS sts) := by
  refine ⟨cls_len sts, wid_le sts, ?_, fun i hi => ?_⟩
  · have h1 := firstsS_len sts;have h2 := wid_le sts;omega
  · obtain ⟨c, hc, hcw⟩ := cls_lt sts i hi;obtain ⟨g, hg, hlab⟩ := first_lab sts i hi c hc hcw;exact ⟨c, g, hc, hcw, hg, hlab⟩
section
variable (sts : List St) (CL : List Int) (WD : Int) (F : List Int)
theorem go_at (hcl : Cl sts CL WD F) (q : Qr) (acc : List Bool) (hD : Dn sts F q.1.length q) (hl : q.1.length ≤ 1000) (b : Nat) (hb : b < q.1.length) (i : Nat) (hi : i < 259) : ∃ k : Nat, tattingref11_Go.f CL WD 0 q.2 acc (b : Int) (i : Int) = some (k : Int) ∧ q.1[k]? = some (stepM sts (q.1.getD b []) (i : Int)) := by
  obtain ⟨c, g, hc, hcw, hg, hlab⟩ := hcl.sym i hi;obtain ⟨k, h1, h2⟩ := hD.go b hb c _ hg;have hwl := hcl.wd;have hF := hcl.fl;have hlen := hD.len;have hlt := (List.getElem?_eq_some_iff.1 h1).1;rw [stepM_alike sts _ g i hlab] at h2;refine ⟨k, ?_, h2⟩;have hbw : b * F.length ≤ 1000 * 259 := Nat.mul_le_mul (by omega) (by omega)
  have e1 : (b : Int) * WD = ((b * F.length : Nat) : Int) := by
    rw [Int.natCast_mul, hF]
  generalize b * F.length = P at *
  have e2 : wrap64 (wrap64 ((b : Int) * WD) + rd CL (i : Int)) = ((P + c : Nat) : Int) := by
    rw [e1, hc, wrap_in (x := (P : Int)) (by omega) (by omega), wrap_in (by omega) (by omega)];omega
  unfold tattingref11_Go.f;rw [e2, if_pos (by omega), if_pos (by rw [hcl.cl]; omega), if_pos (by omega), if_pos (by omega)];unfold rd;rw [Int.toNat_natCast, List.getD_eq_getElem?_getD, h1];rfl
theorem run_l0 (hcl : Cl sts CL WD F) (q : Qr) (acc : List Bool) (hD : Dn sts F q.1.length q) (hl : q.1.length ≤ 1000) (w : List Int) (hw : ∀ x ∈ w, 0 ≤ x ∧ x < 259) (hwl : w.length ≤ 1000) : ∀ (d j b : Nat), w.length - j = d → j ≤ w.length → b < q.1.length → ∃ k : Nat, q.1[k]? = some (foldM sts (q.1.getD b []) (w.drop j)) ∧ EV (fun n => tattingref11_Run.l0 n (b : Int) w (j : Int) CL WD 0 q.2 acc) (k : Int) := by
  intro d
  induction d with
  | zero =>
    intro j b hd hj hb;refine ⟨b, ?_, ?_⟩
    · rw [List.drop_of_length_le (by omega), List.getD_eq_getElem?_getD, List.getElem?_eq_getElem hb];rfl
    · (refine EV.stop fun n => ?_);simp only [tattingref11_Run.l0];rw [if_neg (by omega)]
  | succ d ih =>
    intro j b hd hj hb;(have hlt : j < w.length := by omega);have hx := hw w[j] (List.getElem_mem hlt);obtain ⟨i, hi⟩ : ∃ i : Nat, w[j] = (i : Int) := ⟨w[j].toNat, by omega⟩;obtain ⟨k1, hg, hm⟩ := go_at sts CL WD F hcl q acc hD hl b hb i (by omega);have hk1 := (List.getElem?_eq_some_iff.1 hm).1;obtain ⟨k, h1, h2⟩ := ih (j + 1) k1 (by omega) (by omega) hk1
    have hgd : q.1.getD k1 [] = stepM sts (q.1.getD b []) (i : Int) := by
      rw [List.getD_eq_getElem?_getD, hm, Option.getD_some]
    refine ⟨k, ?_, ?_⟩
    · rw [List.drop_eq_getElem_cons hlt, hi, foldM_cons, ← hgd];exact h1
    · (refine EV.step h2 fun n => ?_);simp only [tattingref11_Run.l0];rw [if_pos (by omega), if_pos (by omega), rd_at w j hlt, hi, hg, Option.bind_some, up_w (by omega)]
theorem run11_ev (hcl : Cl sts CL WD F) (q : Qr) (acc : List Bool) (hD : Dn sts F q.1.length q) (hl : q.1.length ≤ 1000) (h0 : 0 < q.1.length) (w : List Int) (hw : ∀ x ∈ w, 0 ≤ x ∧ x < 259) (hwl : w.length ≤ 1000) : ∃ k : Nat, q.1[k]? = some (foldM sts (q.1.getD 0 []) w) ∧ EV (fun n => tattingref11_Run.f n CL WD 0 q.2 acc 0 w) (k : Int) := by
  obtain ⟨k, h1, h2⟩ := run_l0 sts CL WD F hcl q acc hD hl w hw hwl w.length 0 0 (by omega) (by omega) h0;rw [List.drop_zero] at h1;exact ⟨k, h1, h2⟩
end
def bytesW (t : ByteArray) (i : Nat) : Nat → List Int
  | 0 => []
  | k + 1 => bytesW t i k ++ [bt t ((i + k : Nat) : Int)]
theorem bytesW_len (t : ByteArray) (i : Nat) : ∀ k, (bytesW t i k).length = k
  | 0 => rfl
  | k + 1 => by simp [bytesW, bytesW_len t i k]
def wordW (t : ByteArray) (i j : Nat) : List Int := if t.size = 0 then [258] else (if i = 0 then [256] else []) ++ bytesW t i (j - i) ++ (if j = t.size then [257] else [])
theorem word_l0 (t : ByteArray) (ht : t.size ≤ 100) (i j : Nat) (hij : i ≤ j) (hj : j ≤ t.size) (pre : List Int) (hp : pre.length ≤ 1) : ∀ d k : Nat, j - i - k = d → i + k ≤ j → EV (fun n => tattingref11_Word.l0 n t (j : Int) (pre ++ bytesW t i k) ((i + k : Nat) : Int)) (pre ++ bytesW t i (j - i) ++ (if j = t.size then [257] else [])) := by
  intro d
  induction d with
  | zero =>
    intro k hd hk;(obtain rfl : k = j - i := by omega);have hl := bytesW_len t i (j - i);(refine EV.stop fun n => ?_);simp only [tattingref11_Word.l0];rw [if_neg (by omega)];by_cases e : j = t.size
    · rw [if_pos (by omega), if_pos e, if_pos (by rw [List.length_append, hl]; omega)]
    · rw [if_neg (by omega), if_neg e, List.append_nil]
  | succ d ih =>
    intro k hd hk;have hl := bytesW_len t i k;have hh := ih (k + 1) (by omega) (by omega);have hb := bt_lt t ((i + k : Nat) : Int)
    have e : pre ++ bytesW t i (k + 1) = pre ++ bytesW t i k ++ [bt t ((i + k : Nat) : Int)] := by
      show pre ++ (bytesW t i k ++ [bt t ((i + k : Nat) : Int)]) = _
      rw [List.append_assoc]
    rw [e] at hh;(refine EV.step hh fun n => ?_);simp only [tattingref11_Word.l0];rw [if_pos (by omega), if_pos (by omega), if_pos (by omega), if_pos (by rw [List.length_append, hl]; omega), up_w (by omega), wrap_in (by omega) (by omega)];rfl
theorem word_ev (t : ByteArray) (ht : t.size ≤ 100) (i j : Nat) (hij : i ≤ j) (hj : j ≤ t.size) : EV (fun n => tattingref11_Word.f n t (i : Int) (j : Int)) (wordW t i j) := by
  unfold tattingref11_Word.f wordW;by_cases hz : t.size = 0
  · rw [if_pos hz];(exact EV.now fun n => if_pos (by omega))
  · rw [if_neg hz];refine EV.congr (fun n => if_neg (by omega)) ?_;by_cases hi : i = 0
    · subst hi;refine EV.congr (fun n => if_pos rfl) ?_;refine EV.congr (fun n => if_pos (by decide)) ?_;(refine EV.step (word_l0 t ht 0 j hij hj [256] (by simp) (j - 0) 0 (by omega) (by omega)) fun n => ?_);simp [tattingref11_Word.j0, bytesW]
    · refine EV.congr (fun n => if_neg (by omega)) ?_;rw [if_neg hi];(refine EV.step (word_l0 t ht i j hij hj [] (by simp) (j - i) 0 (by omega) (by omega)) fun n => ?_);simp [tattingref11_Word.j0, bytesW]
theorem bytesW_in (t : ByteArray) (i : Nat) : ∀ k, ∀ x ∈ bytesW t i k, 0 ≤ x ∧ x < 256
  | 0, x, hx => by cases hx
  | k + 1, x, hx => by
    rcases List.mem_append.1 hx with h | h
    · exact bytesW_in t i k x h
    · rw [List.mem_singleton.1 h]; exact bt_lt t _
theorem wordW_in (t : ByteArray) (i j : Nat) : ∀ x ∈ wordW t i j, 0 ≤ x ∧ x < 259 := by
  intro x hx;unfold wordW at hx;split at hx
  · rw [List.mem_singleton.1 hx]; omega
  · rcases List.mem_append.1 hx with h | h
    · rcases List.mem_append.1 h with h | h
      · split at h
        · rw [List.mem_singleton.1 h]; omega
        · cases h
      · have := bytesW_in t i _ x h;omega
    · split at h
      · rw [List.mem_singleton.1 h]; omega
      · cases h
theorem fold_bytes (sts : List St) (t : ByteArray) (i : Nat) (m : List Bool) : ∀ k, foldM sts m (bytesW t i k) = bytesR sts t i m k
  | 0 => rfl
  | k + 1 => by
    have ih := fold_bytes sts t i m k
    have hb := bt_lt t ((i + k : Nat) : Int)
    show foldM sts m (bytesW t i k ++ [bt t ((i + k : Nat) : Int)]) = stepR sts (bt t ((i + k : Nat) : Int)) (bytesR sts t i m k)
    unfold foldM at ih ⊢
    rw [List.foldl_append, ih]
    show stepM sts (bytesR sts t i m k) (bt t ((i + k : Nat) : Int)) = _
    unfold stepM
    rw [if_pos hb.2]
theorem fold_word (sts : List St) (s f : Int) (t : ByteArray) (i j : Nat) : rdOf false (foldM sts (closeR sts 0 (ofN sts.length [s])) (wordW t i j)) f = fitsR sts s f t i j := by
  unfold fitsR wordW;generalize closeR sts 0 (ofN sts.length [s]) = m0;by_cases hz : t.size = 0
  · simp only [hz, if_true];rfl
  · simp only [hz, if_false]
    have e1 : foldM sts m0 (if i = 0 then [256] else []) = if i = 0 then closeR sts 256 m0 else m0 := by
      by_cases hi : i = 0
      · rw [if_pos hi, if_pos hi]; rfl
      · rw [if_neg hi, if_neg hi]; rfl
    have e2 : ∀ a b c : List Int, foldM sts m0 (a ++ b ++ c) = foldM sts (foldM sts (foldM sts m0 a) b) c := by
      intro a b c;unfold foldM;rw [List.foldl_append, List.foldl_append]
    rw [e2, e1, fold_bytes];generalize bytesR sts t i (if i = 0 then closeR sts 256 m0 else m0) (j - i) = m2;by_cases hj : j = t.size
    · rw [if_pos hj, if_pos hj]; rfl
    · rw [if_neg hj, if_neg hj]; rfl
end Go.Proofs.YtfjemaeidmikmaaDoorQ
