/- What functions of the program compute, each function once: steps over the model, and the plain law of it. -/
import Derived.Test.YtbogbnkckofpdaaDoorTCheckL
import Derived.Test.YtbogbnkckofpdaaDoorTTreeSharesP
namespace Go.Proofs.YtbogbnkckofpdaaDoor.B
open Go Go.Proofs
set_option linter.unusedVariables false
set_option linter.unusedSimpArgs false
/-! ### rising keys, put one behind the other -/
def kvF (f : Nat → Bs) (v : Bs) : Nat → Ens
 | 0 => []
 | n + 1 => kvF f v n ++ [(f n, v)]
theorem kvF_len (f : Nat → Bs) (v : Bs) : ∀ n, (kvF f v n).length = n
 | 0 => rfl
 | n + 1 => by rw [kvF, List.length_append, kvF_len f v n]; rfl
theorem kvF_mem {f : Nat → Bs} {v : Bs} : ∀ {n : Nat} {e : Bs × Bs}, e ∈ kvF f v n → ∃ i, i < n ∧ e = (f i, v)
 | 0, e, h => by simp [kvF] at h
 | n + 1, e, h => by
  rw [kvF] at h
  rcases List.mem_append.1 h with h | h
  ·obtain ⟨i, hi, he⟩ := kvF_mem h
   exact ⟨i, by omega, he⟩
  exact ⟨n, by omega, by simpa using h⟩
theorem kvF_ins {f : Nat → Bs} {v : Bs} {n : Nat} (hf : ∀ i, i < n → ltB (f i) (f n) = true) : insKv (kvF f v n) (f n) v = kvF f v (n + 1) := by
 have h := insKv_left (k := f n) (v := v) (l := []) (kvF f v n) (fun e he => by
  obtain ⟨i, hi, rfl⟩ := kvF_mem he
  exact hf i hi)
 rw [List.append_nil] at h
 rw [h]
 rfl
theorem runs_step {P : Pl} {b : Bt} {kv : Ens} {i : Nat} {k v : Bs} (hP : AllOk (newBt P)) (hr : Runs (newBt P) b (601 * i)) (hb : Holds b kv) (hl : kv.length ≤ 700) (hk : rightK k = true) (hv : v.length ≤ 64) :
  ∃ b', b.put k v = .ok b' ∧ Runs (newBt P) b' (601 * (i + 1)) ∧ Holds b' (insKv kv k v) := by
 obtain ⟨b', h3, h4⟩ := hb.put hl hk hv
 exact ⟨b', h3, hr.trans (put_runs (hr.ok hP) h3) (by omega), h4⟩
theorem one_lt {a b : Nat} (h : a < b) : ltB [a] [b] = true := by
 rw [ltB, if_neg (by omega)]; simp [h]
end Go.Proofs.YtbogbnkckofpdaaDoor.B
