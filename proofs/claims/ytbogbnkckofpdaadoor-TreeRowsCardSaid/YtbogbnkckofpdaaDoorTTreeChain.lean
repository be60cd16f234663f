/- What functions of the program compute, each function once: steps over the model, and the plain law of it. -/
import Derived.Test.YtbogbnkckofpdaaDoorTTreeLaid
namespace Go.Proofs.YtbogbnkckofpdaaDoor.B
open Go
set_option linter.unusedVariables false
set_option linter.unusedSimpArgs false
set_option linter.unnecessarySimpa false
/-! ### the leaves in their order -/
def Chn (V : Vw) : Nat → Int → Int → Ens → Prop
 | 0, fl, nx, kv => fl = nx ∧ kv = []
 | m + 1, fl, nx, kv => ∃ x kv2, V fl = some x ∧ kv = x.ents ++ kv2 ∧ Chn V m x.next nx kv2
theorem Chn.append {V : Vw} {md nx : Int} {kv2 : Ens} {m2 : Nat} (h2 : Chn V m2 md nx kv2) : ∀ (m : Nat) {fl : Int} {kv1 : Ens}, Chn V m fl md kv1 → Chn V (m + m2) fl nx (kv1 ++ kv2)
 | 0, fl, kv1, h => by obtain ⟨rfl, rfl⟩ := h; simpa using h2
 | m + 1, fl, kv1, h => by
  obtain ⟨x, k, h3, rfl, h4⟩ := h
  rw [show m + 1 + m2 = (m + m2) + 1 by omega]
  exact ⟨x, k ++ kv2, h3, by rw [List.append_assoc], Chn.append h2 m h4⟩
theorem Chs.chain {C : CP} {V : Vw} : ∀ (es : Ens) {lo hi fl nx ids kv}, (∀ id lo hi fl nx js kv, C id lo hi fl nx js kv → ∃ m, m ≤ js.length ∧ Chn V m fl nx kv) → Chs C es lo hi fl nx ids kv → ∃ m, m ≤ ids.length ∧ Chn V m fl nx kv
 | [], _, _, _, _, _, _, _, h => h.elim
 | [e], _, _, _, _, _, _, hC, h => hC _ _ _ _ _ _ _ h.2
 | e :: e2 :: r, _, _, _, _, _, _, hC, h => by
  obtain ⟨h0, h1, h2, md, i1, i2, k1, k2, rfl, rfl, h3, h4⟩ := h
  obtain ⟨m1, l1, c1⟩ := hC _ _ _ _ _ _ _ h3
  obtain ⟨m2, l2, c2⟩ := Chs.chain (e2 :: r) hC h4
  exact ⟨m1 + m2, by rw [List.length_append]; omega, Chn.append c2 m1 c1⟩
theorem SubT.chain {V : Vw} : ∀ (n : Nat) {id lo hi fl nx ids kv}, SubT V n id lo hi fl nx ids kv → ∃ m, m ≤ ids.length ∧ Chn V m fl nx kv
 | 0, id, _, _, _, _, _, _, h => by
  obtain ⟨rfl, rfl, x, h3, h4, h5, h6, _⟩ := h
  exact ⟨1, by simp, x, [], h3, by rw [h6]; simp, by rw [h5]; exact ⟨rfl, rfl⟩⟩
 | n + 1, id, _, _, _, _, _, _, h => by
  obtain ⟨js, rfl, x, _, _, _, _, _, h7⟩ := h
  obtain ⟨m, l, c⟩ := Chs.chain _ (fun _ _ _ _ _ _ _ hs => SubT.chain n hs) h7
  exact ⟨m, by simp only [List.length_cons]; omega, c⟩
/-- The child of a key, with what lies on both sides. -/
theorem Chs.sides {C : CP} {V : Vw} (hK : ∀ id lo hi fl nx js kv, C id lo hi fl nx js kv → KvOk lo hi kv) (hC : ∀ id lo hi fl nx js kv, C id lo hi fl nx js kv → ∃ m, m ≤ js.length ∧ Chn V m fl nx kv) :
  ∀ (es : Ens) (e : Bs × Bs) {lo hi fl nx ids kv} {key : Bs}, Chs C (e :: es) lo hi fl nx ids kv → InR lo hi key →
  ∃ pre c post lo' hi' fl' nx' ids' kvL kv' kvR m mi, e :: es = pre ++ c :: post ∧ pre.length = cnt key es ∧ InR lo' hi' key ∧ c.2.length = 2 ∧ C (numberP c.2) lo' hi' fl' nx' ids' kv' ∧ kv = kvL ++ kv' ++ kvR ∧
   (∀ e ∈ kvL, ltB e.1 key = true) ∧ (∀ e ∈ kvR, ltB key e.1 = true) ∧ Chn V m nx' nx kvR ∧ m + ids'.length + mi = ids.length
 | [], e, lo, hi, fl, nx, ids, kv, key, h, hk => ⟨[], e, [], lo, hi, fl, nx, ids, [], kv, [], 0, 0, rfl, rfl, hk, h.1, h.2, by simp, by simp, by simp, ⟨rfl, rfl⟩, by omega⟩
 | e2 :: r, e, lo, hi, fl, nx, ids, kv, key, h, hk => by
  obtain ⟨h0, h1, h2, md, i1, i2, k1, k2, rfl, rfl, h3, h4⟩ := h
  by_cases hlt : ltB key e2.1 = true
  ·obtain ⟨m, lm, cm⟩ := Chs.chain (e2 :: r) hC h4
   refine ⟨[], e, e2 :: r, lo, some e2.1, fl, md, i1, [], k1, k2, m, i2.length - m, rfl, by simp [cnt, hlt], ⟨hk.1, hlt⟩, h0, h3, by simp, by simp, fun q hq => ?_, cm, by rw [List.length_append]; omega⟩
   exact ltB_le_trans hlt ((Chs.kv hK (e2 :: r) h4).2 q hq).2.1
  have hge : ltB key e2.1 = false := by simpa using hlt
  obtain ⟨pre, c, post, lo', hi', fl', nx', ids', kvL, kv', kvR, m, mi, g1, g2, g3, g4, g5, rfl, g7, g8, g9, g10⟩ := Chs.sides hK hC r e2 h4 ⟨hge, hk.2⟩
  refine ⟨e :: pre, c, post, lo', hi', fl', nx', ids', k1 ++ kvL, kv', kvR, m, mi + i1.length, by rw [g1]; rfl, by simp [cnt, hlt, g2], g3, g4, g5, by simp, fun q hq => ?_, g8, g9, by rw [List.length_append]; omega⟩
  rcases List.mem_append.1 hq with q1 | q1
  ·have := ((hK _ _ _ _ _ _ _ h3).2 q q1).2.2
   exact ltB_le_trans this hge
  exact g7 q q1
end Go.Proofs.YtbogbnkckofpdaaDoor.B
