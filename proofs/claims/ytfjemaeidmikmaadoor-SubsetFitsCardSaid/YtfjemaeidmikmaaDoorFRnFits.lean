import Derived.Test.YtfjemaeidmikmaaDoorFRnRep
import Derived.Test.YtfjemaeidmikmaaDoorFM5
import Derived.Test.YtfjemaeidmikmaaDoorFFitEv
set_option linter.unusedVariables false
set_option linter.unusedSimpArgs false
namespace Go.Proofs.YtfjemaeidmikmaaDoorQ
open Go.RowKit Go.Proofs.YtfjemaeidmikmaaDoorW.PrintWords Go.Proofs.YtfjemaeidmikmaaDoorW.PrintLast Go.Proofs.Bs Go.Proofs.YtfjemaeidmikmaaDoor
theorem at_get {F : List St} {q : Nat} (h : q < F.length) : F[q]? = some (stAt F q) := by
  unfold stAt rd_T64;rw [Int.toNat_natCast, List.getD_eq_getElem?_getD, List.getElem?_eq_getElem h];rfl
theorem get_at {F : List St} {q : Nat} {st : St} (h : F[q]? = some st) : q < F.length ∧ stAt F q = st := by
  have hq := (List.getElem?_eq_some_iff.1 h).1;have := at_get hq;rw [h] at this;injection this with this;exact ⟨hq, this.symm⟩
section
variable {F : List St} {Q : Nat → Prop} {n : Nat} {tx : Nat → Nat}
theorem edge_eps {sym : Int} {p i j : Nat} (h : edge F sym i j = true) (hs : sym = 0 ∨ sym = 256 ∧ p = 0 ∨ sym = 257 ∧ p = n ∨ sym = 258 ∧ p = 0 ∧ p = n) : Edge n tx (stAt F i) p j p := by
  unfold edge goesA at h;simp only [Bool.or_eq_true, Bool.and_eq_true, decide_eq_true_eq] at h;refine .inl ⟨rfl, ?_⟩;rcases h with ⟨h1, h2⟩ | h
  · refine .inl ⟨?_, h2⟩;omega
  · exact .inr h
theorem eps_edge {sym : Int} {p i j k : Nat} (h : Edge n tx (stAt F i) p j k) (hk : k = p) (h0 : p = 0 → sym = 256 ∨ sym = 258) (hn : p = n → sym = 257 ∨ sym = 258) : edge F sym i j = true := by
  unfold edge goesA;simp only [Bool.or_eq_true, Bool.and_eq_true, decide_eq_true_eq];rcases h with ⟨_, ⟨h1, h2⟩ | h⟩ | ⟨h1, _⟩
  · refine .inl ⟨?_, h2⟩;omega
  · exact .inr h
  · omega
theorem mem_close (hok : okSts F) (sym : Int) (m : List Bool) (hm : m.length = F.length) (j : Nat) : pOf (closeR F sym m) j = true ↔ Nf.Reach F.length (fun i j => edge F sym i j = true) (fun i => pOf m i = true) j := by
  have ht := Nf.turns_reach F.length (edge F sym) (pOf m) (edge_lt hok sym) (fun i h => by have := pOf_lt h; rwa [hm] at this) j;constructor
  · intro h;have hj := pOf_lt h;rw [closeR_len] at hj;rw [pOf_close F sym m j hj] at h;exact ht.1 h
  · intro h;rw [pOf_close F sym m j h.lt];exact ht.2 h
theorem reach_runs (hQ : ∀ q, q < F.length → ∀ i u k, Edge n tx (stAt F q) i u k → Q q) {sym : Int} {p : Nat} (hs : sym = 0 ∨ sym = 256 ∧ p = 0 ∨ sym = 257 ∧ p = n ∨ sym = 258 ∧ p = 0 ∧ p = n) {P : Nat → Prop} {s i : Nat} (hP : ∀ q, P q → Runs F Q n tx s i q p) {q : Nat}
    (h : Nf.Reach F.length (fun a b => edge F sym a b = true) P q) : Runs F Q n tx s i q p := by
  induction h with
  | base h h2 => exact hP _ h2
  | step h e hj ih =>
    have he := edge_eps (tx := tx) e hs;exact ih.trans (Runs.cons (hQ _ h.lt _ _ _ he) (at_get h.lt) he (Runs.refl _ _))
theorem toP_iff (b : Int) (p : Nat → Bool) (j : Nat) : ∀ L, toP F b p L j = true ↔ ∃ a, a < L ∧ p a = true ∧ (stAt F a).f0 = 1 ∧ hasSt (stAt F a) b = true ∧ (j : Int) = (stAt F a).f1 := by
  intro L
  induction L with
  | zero =>
    constructor
    · intro h; cases h
    · rintro ⟨a, h, _⟩; omega
  | succ L ih =>
    simp only [toP, Bool.or_eq_true, Bool.and_eq_true, decide_eq_true_eq, ih];constructor
    · rintro (⟨a, h1, h2⟩ | ⟨h1, h2, h3, h4⟩)
      · exact ⟨a, by omega, h2⟩
      · exact ⟨L, by omega, h1, h2, h3, h4⟩
    · rintro ⟨a, h1, h2, h3, h4, h5⟩;by_cases e : a = L
      · subst e; exact .inr ⟨h2, h3, h4, h5⟩
      · exact .inl ⟨a, by omega, h2, h3, h4, h5⟩
theorem mem_step (hok : okSts F) (b : Int) (m : List Bool) (hm : m.length = F.length) (j : Nat) : pOf (stepR F b m) j = true ↔ Nf.Reach F.length (fun i j => edge F 0 i j = true) (fun j => ∃ a, a < F.length ∧ pOf m a = true ∧ (stAt F a).f0 = 1 ∧ hasSt (stAt F a) b = true ∧ (j : Int) = (stAt F a).f1) j := by
  unfold stepR;rw [mem_close hok 0 _ (tab_len _ _)];constructor
  · (refine fun h => h.mono fun i hi hp => .base hi ?_);have e : pOf (tab F.length (toP F b (pOf m) F.length)) i = toP F b (pOf m) F.length i := tab_at _ _ _ hi;rw [e] at hp;exact (toP_iff b _ i _).1 hp
  · (refine fun h => h.mono fun i hi hp => .base hi ?_);have e : pOf (tab F.length (toP F b (pOf m) F.length)) i = toP F b (pOf m) F.length i := tab_at _ _ _ hi;rw [e];exact (toP_iff b _ i _).2 hp
end
section
variable {F : List St} {Q : Nat → Prop}
theorem fits_sound (hok : okSts F) (t : ByteArray) (hQ : ∀ q, q < F.length → ∀ i u k, Edge t.size (txN t) (stAt F q) i u k → Q q) (s f : Nat) {i j : Nat} (hij : i ≤ j) (hj : j ≤ t.size) (h : fitsR F (s : Int) (f : Int) t i j = true) : Runs F Q t.size (txN t) s i f j := by
  have h0 : ∀ q, pOf (closeR F 0 (ofN F.length [(s : Int)])) q = true → Runs F Q t.size (txN t) s i q i := fun q hq => by
    rw [mem_close hok 0 _ (ofN_len _ _)] at hq;refine reach_runs hQ (.inl rfl) (fun q hq => ?_) hq;rw [ofN_at] at hq;unfold pIn at hq;rw [decide_eq_true_eq] at hq
    have : q = s := by
      have := List.mem_singleton.1 hq.2;omega
    subst this;exact Runs.refl _ _
  have hl0 := closeR_len F 0 (ofN F.length [(s : Int)]);unfold fitsR at h;generalize closeR F 0 (ofN F.length [(s : Int)]) = m0 at *;by_cases hz : t.size = 0
  · simp only [hz, if_true] at h;(have hi : i = 0 := by omega);(have hj0 : j = 0 := by omega);subst hi; subst hj0;have h' : pOf (closeR F 258 m0) f = true := h;rw [mem_close hok 258 _ hl0] at h';exact reach_runs hQ (.inr (.inr (.inr ⟨rfl, rfl, hz.symm⟩))) h0 h'
  · simp only [hz, if_false] at h
    have h1 : ∀ q, pOf (if i = 0 then closeR F 256 m0 else m0) q = true → Runs F Q t.size (txN t) s i q i := fun q hq => by
      by_cases hi : i = 0
      · rw [if_pos hi, mem_close hok 256 _ hl0] at hq;exact reach_runs hQ (.inr (.inl ⟨rfl, hi⟩)) h0 hq
      · rw [if_neg hi] at hq;exact h0 q hq
    have hl1 : (if i = 0 then closeR F 256 m0 else m0).length = F.length := by
      split
      · exact closeR_len _ _ _
      · exact hl0
    generalize (if i = 0 then closeR F 256 m0 else m0) = m1 at *
    have h2 : ∀ k, i + k ≤ t.size → ∀ q, pOf (bytesR F t i m1 k) q = true → Runs F Q t.size (txN t) s i q (i + k) := by
      intro k
      induction k with
      | zero => exact fun _ => h1
      | succ k ih =>
        intro hk q hq;have hq' : pOf (stepR F (bt t ((i + k : Nat) : Int)) (bytesR F t i m1 k)) q = true := hq;rw [mem_step hok _ _ (bytesR_len F t i m1 hl1 k)] at hq';refine reach_runs hQ (.inl rfl) (fun q hq => ?_) hq';obtain ⟨a, ha, h3, h4, h5, h6⟩ := hq
        have he : Edge t.size (txN t) (stAt F a) (i + k) q (i + (k + 1)) := by
          refine .inr ⟨by omega, by omega, h4, ?_, h6⟩;rw [bt_tx] at h5;unfold hasSt at h5;rwa [Int.toNat_natCast] at h5
        exact (ih (by omega) a h3).trans (Runs.cons (hQ a ha _ _ _ he) (at_get ha) he (Runs.refl _ _))
    have h3 := h2 (j - i) (by omega);have hl2 := bytesR_len F t i m1 hl1 (j - i);rw [show i + (j - i) = j by omega] at h3;generalize bytesR F t i m1 (j - i) = m2 at *;by_cases he : j = t.size
    · rw [if_pos he] at h;have h' : pOf (closeR F 257 m2) f = true := h;rw [mem_close hok 257 _ hl2] at h';exact reach_runs hQ (.inr (.inr (.inl ⟨rfl, he⟩))) h3 h'
    · rw [if_neg he] at h;exact h3 f h
theorem run_mask (hok : okSts F) (t : ByteArray) (i f j : Nat) (m1 : List Bool) (hl1 : m1.length = F.length) (hz : ¬ t.size = 0)
    (hc : ∀ k, i + k < t.size → ∀ q u sym, pOf (bytesR F t i m1 k) q = true → ((i + k = 0 → sym = 256 ∨ sym = 258) ∧ (sym = 0 ∨ sym = 256 ∧ i + k = 0)) → edge F sym q u = true → pOf (bytesR F t i m1 k) u = true)
    {L u p : Nat} (r : Run F Q t.size (txN t) L u p f j) : j ≤ t.size → ∀ k, p = i + k → pOf (if i + k = t.size then closeR F 257 (bytesR F t i m1 k) else bytesR F t i m1 k) u = true → ∃ k2, j = i + k2 ∧ pOf (if i + k2 = t.size then closeR F 257 (bytesR F t i m1 k2) else bytesR F t i m1 k2) f = true := by
  have hlen := bytesR_len F t i m1 hl1
  induction r with
  | refl => exact fun _ k hk h => ⟨k, hk, h⟩
  | step hq hs e r ih =>
    rename_i L u p v p2 f j st;intro hj k hk h;obtain ⟨hu, hst⟩ := get_at hs;subst hst
    have hpn : p ≤ t.size := by
      have := e;rcases e with ⟨h1, _⟩ | ⟨_, h1, _⟩
      · have : ∀ {L u p f j : Nat}, Run F Q t.size (txN t) L u p f j → p ≤ j := by
          intro L u p f j r
          induction r with
          | refl => omega
          | step _ _ e r ih => rcases e with ⟨h, _⟩ | ⟨h, _⟩ <;> omega
        have := this r;omega
      · omega
    by_cases hp2 : p2 = p
    · refine ih hj k (by omega) ?_;by_cases hkn : i + k = t.size
      · rw [if_pos hkn] at h ⊢;rw [mem_close hok 257 _ (hlen k)] at h ⊢;have he : edge F 257 u v = true := eps_edge e hp2 (fun h0 => by omega) (fun _ => .inl rfl);exact h.step he (edge_lt hok 257 u v hu he)
      · rw [if_neg hkn] at h ⊢;by_cases h0 : i + k = 0
        · exact hc k (by omega) u v 256 h ⟨fun _ => .inl rfl, .inr ⟨rfl, h0⟩⟩ (eps_edge e hp2 (fun _ => .inl rfl) (fun h1 => by omega))
        · exact hc k (by omega) u v 0 h ⟨fun h1 => absurd h1 h0, .inl rfl⟩ (eps_edge e hp2 (fun h1 => by omega) (fun h1 => by omega))
    · obtain ⟨e1, e2, e3, e4, e5⟩ : p2 = p + 1 ∧ p < t.size ∧ (stAt F u).f0 = 1 ∧ has (setI (stAt F u).f3.f0 (stAt F u).f3.f1 (stAt F u).f3.f2 (stAt F u).f3.f3) (txN t p) = true ∧ (v : Int) = (stAt F u).f1 := by
        rcases e with ⟨h1, _⟩ | h1
        · omega
        · exact h1
      refine ih hj (k + 1) (by omega) ?_;rw [if_neg (by omega)] at h
      have hv : v < F.length := by
        have := (hok u hu).1;omega
      have hm : pOf (bytesR F t i m1 (k + 1)) v = true := by
        show pOf (stepR F (bt t ((i + k : Nat) : Int)) (bytesR F t i m1 k)) v = true
        rw [mem_step hok _ _ (hlen k)];refine .base hv ⟨u, hu, h, e3, ?_, e5⟩;rw [bt_tx];unfold hasSt;rw [Int.toNat_natCast, ← hk];exact e4
      split
      · rw [mem_close hok 257 _ (hlen (k + 1))];exact .base hv hm
      · exact hm
theorem fits_full (hok : okSts F) (t : ByteArray) (s f : Nat) (hs : s < F.length) {i j : Nat} (hij : i ≤ j) (hj : j ≤ t.size) (h : Runs F Q t.size (txN t) s i f j) : fitsR F (s : Int) (f : Int) t i j = true := by
  obtain ⟨L, r⟩ := h
  have h0 : pOf (closeR F 0 (ofN F.length [(s : Int)])) s = true := by
    rw [mem_close hok 0 _ (ofN_len _ _)];refine .base hs ?_;rw [ofN_at];unfold pIn;rw [decide_eq_true_eq];exact ⟨hs, List.mem_singleton.2 rfl⟩
  have hsh := shut_close F hok 0 (ofN F.length [(s : Int)]) (ofN_len _ _);unfold fitsR;generalize closeR F 0 (ofN F.length [(s : Int)]) = m0 at *;have hl0 := hsh.1;by_cases hz : t.size = 0
  · simp only [hz, if_true];(have hi : i = 0 := by omega);(have hj0 : j = 0 := by omega);subst hi; subst hj0
    have key : ∀ {L u p f2 j2 : Nat}, Run F Q t.size (txN t) L u p f2 j2 → p = 0 → pOf (closeR F 258 m0) u = true → pOf (closeR F 258 m0) f2 = true := by
      intro L u p f2 j2 r
      induction r with
      | refl => exact fun _ h => h
      | step hq hs e r ih =>
        rename_i L u p v p2 f2 j2 st;intro hp h;obtain ⟨hu, hst⟩ := get_at hs;subst hst
        have hp2 : p2 = p := by
          rcases e with ⟨h1, _⟩ | ⟨_, h1, _⟩
          · exact h1
          · omega
        refine ih (by omega) ?_;rw [mem_close hok 258 _ hl0] at h ⊢;have he : edge F 258 u v = true := eps_edge e hp2 (fun _ => .inr rfl) (fun _ => .inr rfl);exact h.step he (edge_lt hok 258 u v hu he)
    refine key r rfl ?_;rw [mem_close hok 258 _ hl0];exact .base hs h0
  · simp only [hz, if_false]
    have h1 : pOf (if i = 0 then closeR F 256 m0 else m0) s = true := by
      split
      · rw [mem_close hok 256 _ hl0];exact .base hs h0
      · exact h0
    have hsh1 : shut F (if i = 0 then closeR F 256 m0 else m0) := by
      split
      · exact shut_close F hok 256 m0 hl0
      · exact hsh
    have hc0 : i = 0 → ∀ q u, pOf (if i = 0 then closeR F 256 m0 else m0) q = true → edge F 256 q u = true → pOf (if i = 0 then closeR F 256 m0 else m0) u = true := fun hi q u hq he => by
      rw [if_pos hi] at hq ⊢;rw [mem_close hok 256 _ hl0] at hq ⊢;exact hq.step he (edge_lt hok 256 q u hq.lt he)
    generalize (if i = 0 then closeR F 256 m0 else m0) = m1 at *;have hshk := shut_bytes F hok t i m1 hsh1
    have hc : ∀ k, i + k < t.size → ∀ q u sym, pOf (bytesR F t i m1 k) q = true → ((i + k = 0 → sym = 256 ∨ sym = 258) ∧ (sym = 0 ∨ sym = 256 ∧ i + k = 0)) → edge F sym q u = true → pOf (bytesR F t i m1 k) u = true := by
      intro k hk q u sym hq hsym he;rcases hsym.2 with e | ⟨e, e0⟩
      · subst e;have hs2 := hshk k;rw [← hs2.2] at hq ⊢;rw [mem_close hok 0 _ hs2.1] at hq ⊢;exact hq.step he (edge_lt hok 0 q u hq.lt he)
      · subst e;(have : k = 0 := by omega);subst this;exact hc0 (by omega) q u hq he
    have hst : pOf (if i + 0 = t.size then closeR F 257 (bytesR F t i m1 0) else bytesR F t i m1 0) s = true := by
      split
      · rw [mem_close hok 257 _ (hshk 0).1];exact .base hs h1
      · exact h1
    obtain ⟨k2, e2, hf⟩ := run_mask hok t i f j m1 hsh1.1 hz hc r hj 0 (by omega) hst;(have : j - i = k2 := by omega);rw [this];rw [← e2] at hf;exact hf
end
theorem mk_fits (l : List Nd) (hr : rightB l = true) (hw : ∀ x ∈ l, x.set.wf) (hs : attr fSz l (l.length - 1) ≤ 600) (sts : List St) (a b : Nat) (hM : attr fMk l (l.length - 1) [] = ⟨sts, a, b⟩) :
    rightN (sts.set b fSt) a b = true ∧ wfSts (sts.set b fSt) ∧ sts.length = attr fSz l (l.length - 1) ∧ ∀ (t : ByteArray) (i j : Nat), i ≤ j → j ≤ t.size → fitsN (sts.set b fSt) a b t i j = attr (fitG t.size (txN t)) l (l.length - 1) i j := by
  have hlen := ((rightB_iff l).1 hr).2.2.1;have hok1 := (mk_ok l hr (l.length - 1) (by omega) []).1;(have G := fun n tx => mk_good l hr hw n tx (l.length - 1) (by omega));have hf := (G 0 (fun _ => 0)).fst [];have hl := (G 0 (fun _ => 0)).lst [];have hfine := (G 0 (fun _ => 0)).fine [];(have hlang := fun n tx => (G n tx).lang []);rw [hM] at hok1 hf hl hfine hlang;simp only [List.length_nil, Nat.zero_add] at hok1 hf hl hfine hlang;have hL : (sts.set b fSt).length = sts.length := List.length_set;(have hset : ∀ p, p ≠ b → (sts.set b fSt)[p]? = sts[p]? := fun p hp => List.getElem?_set_ne (Ne.symm hp))
  have hat : ∀ p, p < sts.length → p ≠ b → FineS 0 sts.length (stAt (sts.set b fSt) p) := fun p hp hne => by
    obtain ⟨st, h1, h2⟩ := hfine p ⟨by omega, hp, hne⟩;have := (get_at (F := sts.set b fSt) (q := p) (st := st) (by rw [hset p hne]; exact h1)).2;rw [this];exact h2
  have hatb : stAt (sts.set b fSt) b = fSt := (get_at (F := sts.set b fSt) (q := b) (st := fSt) (by rw [List.getElem?_set_self hl.2])).2
  have hR : rightN (sts.set b fSt) a b = true := by
    unfold rightN rightFrom;rw [Bool.and_eq_true, decide_eq_true_eq, hL];refine ⟨by omega, (rightAt_iff _ _ _ _).2 fun p _ hp => ?_⟩;rw [Nat.zero_add] at hp
    show fieldsN (stAt (sts.set b fSt) p) _ = true ∧ ((stAt (sts.set b fSt) p).f0 = 6 ↔ (p : Int) = b)
    rw [hL];by_cases e : p = b
    · subst e;rw [hatb];refine ⟨decide_eq_true ⟨by decide, by decide, .inr ⟨rfl, rfl, rfl, rfl⟩, .inr rfl, fun _ => rfl, ⟨by show (0 : Int) ≤ 0; omega, by show (0 : Int) < _; omega⟩, by show (0 : Int) ≤ 0; omega, by show (0 : Int) < _; omega⟩, fun _ => rfl, fun _ => rfl⟩
    · have h := hat p hp e;have hk := h.k;have ha := h.a;have hb := h.b;have hb3 := h.b3;have hz := h.z;refine ⟨decide_eq_true ⟨hk.1, by omega, ?_, ?_, fun h6 => by omega, by omega, ?_⟩, fun h6 => by omega, fun h6 => by omega⟩
      · by_cases e1 : (stAt (sts.set b fSt) p).f0 = 1
        · exact .inl e1
        · rw [hz e1]; exact .inr ⟨rfl, rfl, rfl, rfl⟩
      · by_cases e3 : (stAt (sts.set b fSt) p).f0 = 3
        · exact .inl e3
        · exact .inr (hb e3)
      · by_cases e3 : (stAt (sts.set b fSt) p).f0 = 3
        · have := hb3 e3; omega
        · rw [hb e3]; omega
  refine ⟨hR, ?_, hok1, fun t i j hij hj => ?_⟩
  · intro p h0 h1;obtain ⟨q, rfl⟩ := Int.eq_ofNat_of_zero_le h0
    show wfSt (stAt (sts.set b fSt) q)
    by_cases e : q = b
    · subst e; rw [hatb]; exact wfI_zero
    · exact (hat q (by rw [hL] at h1; omega) e).wf
  · have hok := okSts_of hR;rw [fits_page _ _ _ t i j hR hij hj, Bool.eq_iff_iff];have hlg := hlang t.size (txN t) (sts.set b fSt) (fun p hp => hset p hp.2.2) i j (by omega)
    have hQ : ∀ q, q < (sts.set b fSt).length → ∀ i u k, Edge t.size (txN t) (stAt (sts.set b fSt) q) i u k → Blk 0 sts.length b q := by
      intro q hq i u k e;refine ⟨by omega, by rwa [hL] at hq, fun hb => ?_⟩;subst hb;rw [hatb] at e;rcases e with ⟨_, ⟨h1, _⟩ | ⟨h1, _⟩⟩ | ⟨_, _, h1, _⟩
      · have : fSt.f0 = 6 := rfl;omega
      · exact absurd (show (6 : Int) = 3 from h1) (by decide)
      · exact absurd (show (6 : Int) = 1 from h1) (by decide)
    rw [← hlg];exact ⟨fits_sound hok t hQ a b hij hj, fits_full hok t a b (by rw [hL]; exact hf.2) hij hj⟩
end Go.Proofs.YtfjemaeidmikmaaDoorQ
