
/- Plain: what holds with rounds enough. -/
namespace Go.Proofs.YtibabfgfahlekaaQ
def EV {α : Type} (g : Nat → Option α) (r : α) : Prop := ∃ k0, ∀ k, k0 ≤ k → g k = some r
namespace EV
variable {α β : Type}
theorem const {r : α} : EV (fun _ => some r) r := ⟨0, fun _ _ => rfl⟩
theorem succ {g : Nat → Option α} {r : α} (h : EV (fun k => g (k + 1)) r) : EV g r := by
  obtain ⟨k0, h⟩ := h
  refine ⟨k0 + 1, fun k hk => ?_⟩
  have := h (k - 1) (by omega)
  simp only at this
  rwa [show k - 1 + 1 = k by omega] at this
theorem bind {g : Nat → Option α} {h : Nat → α → Option β} {a : α} {r : β} (hg : EV g a) (hh : EV (fun k => h k a) r) : EV (fun k => (g k).bind (h k)) r := by
  obtain ⟨k0, hg⟩ := hg
  obtain ⟨k1, hh⟩ := hh
  exact ⟨max k0 k1, fun k hk => by show (g k).bind (h k) = _; rw [hg k (by omega)]; exact hh k (by omega)⟩
theorem congr {g g' : Nat → Option α} {r : α} (h : ∀ k, g k = g' k) (hg : EV g' r) : EV g r := by
  obtain ⟨k0, hg⟩ := hg
  exact ⟨k0, fun k hk => (h k).trans (hg k hk)⟩
theorem step {g g' : Nat → Option α} {r : α} (h : EV g' r) (e : ∀ k, g (k + 1) = g' k) : EV g r := succ (congr e h)
theorem stop {g : Nat → Option α} {r : α} (e : ∀ k, g (k + 1) = some r) : EV g r := succ (congr e const)
theorem now {g : Nat → Option α} {r : α} (e : ∀ k, g k = some r) : EV g r := congr e const
theorem ex {g : Nat → Option α} {r : α} (h : EV g r) : ∃ k, g k = some r := by
  obtain ⟨k0, h⟩ := h
  exact ⟨k0, h k0 (Nat.le_refl _)⟩
theorem cast {g : Nat → Option α} {r r' : α} (h : EV g r) (e : r = r') : EV g r' := e ▸ h
end EV
end Go.Proofs.YtibabfgfahlekaaQ
