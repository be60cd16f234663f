/- What functions of the program compute, each function once: steps over the model, and the plain law of it. -/
import Derived.Test.YtbogbnkckofpdaaDoorTTreeLaid
namespace Go.Proofs.YtbogbnkckofpdaaDoor.B
open Go
set_option linter.unusedVariables false
set_option linter.unusedSimpArgs false
set_option linter.unnecessarySimpa false
/-! ### the leaves in their order -/
def Chn (V : Vw) : Nat → Int → Int → Ens → Prop
 | 0, fl, nx, kv => fl = nx ∧ kv = []
 | m + 1, fl, nx, kv => ∃ x kv2, V fl = some x ∧ kv = x.ents ++ kv2 ∧ Chn V m x.next nx kv2
theorem Chn.append {V : Vw} {md nx : Int} {kv2 : Ens} {m2 : Nat} (h2 : Chn V m2 md nx kv2) : ∀ (m : Nat) {fl : Int} {kv1 : Ens}, Chn V m fl md kv1 → Chn V (m + m2) fl nx (kv1 ++ kv2)
 | 0, fl, kv1, h => by obtain ⟨rfl, rfl⟩ := h; simpa using h2
 | m + 1, fl, kv1, h => by
  obtain ⟨x, k, h3, rfl, h4⟩ := h
  rw [show m + 1 + m2 = (m + m2) + 1 by omega]
  exact ⟨x, k ++ kv2, h3, by rw [List.append_assoc], Chn.append h2 m h4⟩
theorem Chs.chain {C : CP} {V : Vw} : ∀ (es : Ens) {lo hi fl nx ids kv}, (∀ id lo hi fl nx js kv, C id lo hi fl nx js kv → ∃ m, m ≤ js.length ∧ Chn V m fl nx kv) → Chs C es lo hi fl nx ids kv → ∃ m, m ≤ ids.length ∧ Chn V m fl nx kv
 | [], _, _, _, _, _, _, _, h => h.elim
 | [e], _, _, _, _, _, _, hC, h => hC _ _ _ _ _ _ _ h.2
 | e :: e2 :: r, _, _, _, _, _, _, hC, h => by
  obtain ⟨h0, h1, h2, md, i1, i2, k1, k2, rfl, rfl, h3, h4⟩ := h
  obtain ⟨m1, l1, c1⟩ := hC _ _ _ _ _ _ _ h3
  obtain ⟨m2, l2, c2⟩ := Chs.chain (e2 :: r) hC h4
  exact ⟨m1 + m2, by rw [List.length_append]; omega, Chn.append c2 m1 c1⟩
theorem SubT.chain {V : Vw} : ∀ (n : Nat) {id lo hi fl nx ids kv}, SubT V n id lo hi fl nx ids kv → ∃ m, m ≤ ids.length ∧ Chn V m fl nx kv
 | 0, id, _, _, _, _, _, _, h => by
  obtain ⟨rfl, rfl, x, h3, h4, h5, h6, _⟩ := h
  exact ⟨1, by simp, x, [], h3, by rw [h6]; simp, by rw [h5]; exact ⟨rfl, rfl⟩⟩
 | n + 1, id, _, _, _, _, _, _, h => by
  obtain ⟨js, rfl, x, _, _, _, _, _, h7⟩ := h
  obtain ⟨m, l, c⟩ := Chs.chain _ (fun _ _ _ _ _ _ _ hs => SubT.chain n hs) h7
  exact ⟨m, by simp only [List.length_cons]; omega, c⟩
end Go.Proofs.YtbogbnkckofpdaaDoor.B
