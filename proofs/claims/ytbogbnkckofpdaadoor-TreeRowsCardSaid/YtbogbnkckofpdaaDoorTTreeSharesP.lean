/- What functions of the program compute, each function once: steps over the model, and the plain law of it. -/
import Derived.Test.YtbogbnkckofpdaaDoorTTreeLaid
namespace Go.Proofs.YtbogbnkckofpdaaDoor.B
open Go
set_option linter.unusedVariables false
set_option linter.unusedSimpArgs false
theorem all_len : ∀ (rs : List Rc) {b b' : Bt}, b.all rs = .ok b' → b'.recs.length = b.recs.length + rs.length ∧ b'.pool = b.pool
 | [], b, b', h => by rw [Bt.all] at h; injection h with h; subst h; exact ⟨rfl, rfl⟩
 | r :: rs, b, b', h => by
  rw [Bt.all] at h
  split at h
  ·cases h
  rename_i b1 hb
  have := all_len rs h
  rw [Bt.doR] at hb
  split at hb
  ·cases hb
  injection hb with hb; subst hb
  simp only [List.length_append, List.length_cons, List.length_nil] at this ⊢
  exact ⟨by omega, this.2⟩
theorem Runs.len {b b' : Bt} {k : Nat} (h : Runs b b' k) : b'.recs.length ≤ b.recs.length + k ∧ b'.pool = b.pool := by
 obtain ⟨rs, h1, _, h3⟩ := h
 have := all_len rs h3
 exact ⟨by omega, this.2⟩
end Go.Proofs.YtbogbnkckofpdaaDoor.B
