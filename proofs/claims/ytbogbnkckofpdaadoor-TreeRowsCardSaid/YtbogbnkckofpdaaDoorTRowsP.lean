/- What functions of the program compute, each function once: steps over the model, and the plain law of it. -/
import Derived.Test.YtbogbnkckofpdaaDoorTDLawA
namespace Go.Proofs.YtbogbnkckofpdaaDoor.B
open Go Go.Proofs
set_option linter.unusedVariables false
set_option linter.unusedSimpArgs false
/-! ### keys put in one order, taken in another -/
def mulS : Nat → Nat
 | 0 => 1
 | 1 => 3
 | 2 => 7
 | 3 => 11
 | _ => 13
def invS : Nat → Nat
 | 0 => 1
 | 1 => 141
 | 2 => 181
 | 3 => 96
 | _ => 65
theorem mulS_inv : ∀ s, s < 5 → ∀ j, j < 211 → (j * mulS s % 211) * invS s % 211 = j := by decide +kernel
theorem invS_mul : ∀ s, s < 5 → ∀ q, q < 211 → (q * invS s % 211) * mulS s % 211 = q := by decide +kernel
theorem mulS_le (s : Nat) : 1 ≤ mulS s ∧ mulS s ≤ 13 := by unfold mulS; split <;> omega
theorem mulS_inj {s i j : Nat} (hs : s < 5) (hi : i < 211) (hj : j < 211) (h : i * mulS s % 211 = j * mulS s % 211) : i = j := by
 rw [← mulS_inv s hs i hi, h, mulS_inv s hs j hj]
theorem mulS_pos {s i : Nat} (hs : s < 5) (h1 : 1 ≤ i) (hi : i < 211) : 1 ≤ i * mulS s % 211 := by
 rcases Nat.eq_zero_or_pos (i * mulS s % 211) with h | h
 ·have := mulS_inv s hs i hi
  rw [h] at this; omega
 exact h
def keyR (s i : Nat) : Bs := [i * mulS s % 211, 1]
theorem keyR_right (s i : Nat) : rightK (keyR s i) = true := by simp [rightK, keyR]
theorem insKv_new_len {k v : Bs} : ∀ l : Ens, (∀ e ∈ l, e.1 ≠ k) → (insKv l k v).length = l.length + 1
 | [], _ => rfl
 | a :: r, h => by
  rw [insKv]
  split
  ·rw [List.length_cons, insKv_new_len r (fun e he => h e (by simp [he])), List.length_cons]
  rw [if_neg (h a (by simp))]; rfl
def PutR (s i : Nat) (kv : Ens) : Prop := kv.length + 1 = i ∧ ∀ e ∈ kv, ∃ j, 1 ≤ j ∧ j < i ∧ e.1 = keyR s j
theorem PutR.start (s : Nat) : PutR s 1 [] := ⟨rfl, by simp⟩
theorem PutR.step {s i : Nat} {kv : Ens} {v : Bs} (hs : s < 5) (hi : i < 211) (h : PutR s i kv) : PutR s (i + 1) (insKv kv (keyR s i) v) := by
 have hne : ∀ e ∈ kv, e.1 ≠ keyR s i := by
  intro e he h0
  obtain ⟨j, h1, h2, h3⟩ := h.2 e he
  rw [h3] at h0
  have : j * mulS s % 211 = i * mulS s % 211 := by simpa [keyR] using h0
  have := mulS_inj hs (by omega) hi this
  omega
 refine ⟨by rw [insKv_new_len kv hne]; have := h.1; omega, fun e he => ?_⟩
 rcases insKv_mem kv he with q | q
 ·subst q; exact ⟨i, by have := h.1; omega, by omega, rfl⟩
 obtain ⟨j, h1, h2, h3⟩ := h.2 e q
 exact ⟨j, h1, by omega, h3⟩
def DelR (s n i gone : Nat) (kv : Ens) : Prop := gone + kv.length = n ∧ ∀ e ∈ kv, ∃ q, 1 ≤ q ∧ q ≤ 210 ∧ e.1 = [q, 1] ∧ ∀ j, 1 ≤ j → j < i → q ≠ j * mulS s % 211
theorem DelR.start {s s' n : Nat} {kv : Ens} (hs : s' < 5) (hn : n ≤ 200) (h : PutR s' (n + 1) kv) : DelR s n 1 0 kv := by
 refine ⟨by have := h.1; omega, fun e he => ?_⟩
 obtain ⟨j, h1, h2, h3⟩ := h.2 e he
 exact ⟨j * mulS s' % 211, mulS_pos hs h1 (by omega), by have := Nat.mod_lt (j * mulS s') (show 0 < 211 by decide); omega, h3, fun q h4 h5 => by omega⟩
theorem lookKv_some {kv : Ens} {k : Bs} (hs : Sorted kv) (h : (lookKv kv k).isSome = true) : (delKv kv k).length + 1 = kv.length := by
 rw [← lookKv_find] at h
 have hf : (findP kv k).2 = true := by
  cases hq : (findP kv k).2 with
  | true => rfl
  | false => rw [hq] at h; simp at h
 have hlt := findP_lt hf
 rw [← delKv_found kv hs hf, List.length_eraseIdx, if_pos hlt]
 omega
theorem lookKv_not {kv : Ens} {k : Bs} (hs : Sorted kv) (h : (lookKv kv k).isSome = false) : delKv kv k = kv := by
 rw [← lookKv_find] at h
 refine delKv_none hs ?_
 cases hq : (findP kv k).2 with
 | true => rw [hq] at h; simp at h
 | false => rfl
theorem DelR.step {s n i gone : Nat} {kv : Ens} (hso : Sorted kv) (h : DelR s n i gone kv) : DelR s n (i + 1) (if (lookKv kv (keyR s i)).isSome = true then gone + 1 else gone) (delKv kv (keyR s i)) := by
 refine ⟨?_, fun e he => ?_⟩
 ·have h0 := h.1
  split
  ·rename_i hc
   have := lookKv_some hso hc; omega
  rename_i hc
  rw [lookKv_not hso (by simpa using hc)]; exact h0
 have hm := List.mem_filter.1 he
 obtain ⟨q, h1, h2, h3, h4⟩ := h.2 e hm.1
 refine ⟨q, h1, h2, h3, fun j h5 h6 => ?_⟩
 by_cases hj : j = i
 ·subst hj
  intro h7
  have : e.1 ≠ keyR s j := by simpa using hm.2
  exact this (by rw [h3, h7]; rfl)
 exact h4 j h5 (by omega)
theorem DelR.end_ {s n gone : Nat} {kv : Ens} (hs : s < 5) (h : DelR s n 211 gone kv) : gone = n ∧ kv = [] := by
 have hk : kv = [] := by
  cases kv with
  | nil => rfl
  | cons e r =>
   exfalso
   obtain ⟨q, h1, h2, h3, h4⟩ := h.2 e (by simp)
   have h5 := invS_mul s hs q (by omega)
   have hlt := Nat.mod_lt (q * invS s) (show 0 < 211 by decide)
   refine h4 (q * invS s % 211) ?_ hlt h5.symm
   rcases Nat.eq_zero_or_pos (q * invS s % 211) with h6 | h6
   ·rw [h6] at h5; omega
   exact h6
 subst hk
 exact ⟨by have := h.1; simpa using this, rfl⟩
end Go.Proofs.YtbogbnkckofpdaaDoor.B
