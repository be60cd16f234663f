/- What functions of the program compute, each function once: steps over the model, and the plain law of it. -/
import Derived.Test.YtbogbnkckofpdaaDoorTCheckL
import Derived.Test.YtbogbnkckofpdaaDoorTTreeSharesP
namespace Go.Proofs.YtbogbnkckofpdaaDoor.B
open Go Go.Proofs
set_option linter.unusedVariables false
set_option linter.unusedSimpArgs false
/-! ### rising keys, put one behind the other -/
def kvF (f : Nat → Bs) (v : Bs) : Nat → Ens
  | 0 => []
  | n + 1 => kvF f v n ++ [(f n, v)]
theorem kvF_len (f : Nat → Bs) (v : Bs) : ∀ n, (kvF f v n).length = n
  | 0 => rfl
  | n + 1 => by rw [kvF, List.length_append, kvF_len f v n]; rfl
theorem kvF_mem {f : Nat → Bs} {v : Bs} : ∀ {n : Nat} {e : Bs × Bs}, e ∈ kvF f v n → ∃ i, i < n ∧ e = (f i, v)
  | 0, e, h => by simp [kvF] at h
  | n + 1, e, h => by
    rw [kvF] at h
    rcases List.mem_append.1 h with h | h
    · obtain ⟨i, hi, he⟩ := kvF_mem h
      exact ⟨i, by omega, he⟩
    exact ⟨n, by omega, by simpa using h⟩
theorem kvF_ins {f : Nat → Bs} {v : Bs} {n : Nat} (hf : ∀ i, i < n → ltB (f i) (f n) = true) : insKv (kvF f v n) (f n) v = kvF f v (n + 1) := by
  have h := insKv_left (k := f n) (v := v) (l := []) (kvF f v n) (fun e he => by
    obtain ⟨i, hi, rfl⟩ := kvF_mem he
    exact hf i hi)
  rw [List.append_nil] at h
  rw [h]
  rfl
theorem kvF_look {f : Nat → Bs} {v : Bs} : ∀ {n i : Nat}, (∀ i j, i < j → j < n → ltB (f i) (f j) = true) → i < n → lookKv (kvF f v n) (f i) = some v
  | 0, i, _, h => by omega
  | n + 1, i, hf, h => by
    rw [kvF]
    rcases Nat.lt_or_eq_of_le (Nat.lt_succ_iff.1 h) with h | rfl
    · rw [lookKv_right (R := [(f n, v)]) (k := f i) (fun e he => by
        obtain rfl : e = (f n, v) := by simpa using he
        exact hf i n h (by omega))]
      exact kvF_look (fun a b hab hb => hf a b hab (by omega)) h
    rw [lookKv_left (kvF f v i) (fun e he => by
      obtain ⟨j, hj, rfl⟩ := kvF_mem he
      exact hf j i hj (by omega))]
    simp [lookKv, ltB_irrefl]
theorem runs_step {P : Pl} {b : Bt} {kv : Ens} {i : Nat} {k v : Bs} (hP : AllOk (newBt P)) (hr : Runs (newBt P) b (601 * i)) (hb : Holds b kv) (hl : kv.length ≤ 700) (hk : rightK k = true) (hv : v.length ≤ 64) :
    ∃ b', b.put k v = .ok b' ∧ Runs (newBt P) b' (601 * (i + 1)) ∧ Holds b' (insKv kv k v) := by
  obtain ⟨b', h3, h4⟩ := hb.put hl hk hv
  exact ⟨b', h3, hr.trans (put_runs (hr.ok hP) h3) (by omega), h4⟩
theorem look_find {k : Bs} {l : Ens} {v : Bs} (h : lookKv l k = some v) : (findP l k).2 = true := by
  rw [← lookKv_find] at h
  cases hq : (findP l k).2 with
  | true => rfl
  | false => rw [hq] at h; simp at h
/-- A key that is there: one record, that changes its value. -/
theorem put_change {b b' : Bt} {kv : Ens} {key val v0 : Bs} (h : Holds b kv) (hl : kv.length ≤ 700) (hk : rightK key = true) (hv : val.length ≤ 64) (hg : lookKv kv key = some v0) (hp : b.put key val = .ok b') :
    ∃ r, b'.recs = b.recs ++ [r] ∧ r.kind = 4 := by
  obtain ⟨n, u, fl, ids, h⟩ := h
  obtain ⟨hn5, _⟩ := tr_small h hl
  have hk0 : key ≠ [] := by rintro rfl; simp [rightK] at hk
  obtain ⟨l', ks', y, hd, hy8, hw⟩ := down_n (key := key) h.g.i n 17 [] [] (by omega) h.g.nd h.s (InR.all key)
  have hlast : lastPg ([] ++ l' ++ [y]) = y := lastPg_end _ _
  obtain ⟨w1, w2, w3, kvL, kvR, lo', hi', rfl, w5, w6, w7, w8, w9⟩ := hw.keys hk0 hw.1
  rw [lookKv_right w8, lookKv_left _ w7] at hg
  have hf := look_find hg
  rw [Bt.put, if_neg (by rw [hk]; simp; omega), Bt.down, hd] at hp
  simp only [hlast] at hp
  rw [if_pos hf] at hp
  rw [Bt.doR, if_neg (by simp)] at hp
  cases hpg : b.page y.id with
  | fail c o => simp only [hpg] at hp; cases hp
  | ok x =>
    simp only [hpg] at hp
    injection hp with hp
    subst hp
    exact ⟨_, rfl, rfl⟩
theorem insKv_there {kv : Ens} {k v v0 : Bs} (h : lookKv kv k = some v0) : (insKv kv k v).length = kv.length := by
  rw [← insKv_found kv (look_find h)]
  simp
theorem lookKv_same {kv : Ens} {k v : Bs} (hs : Sorted kv) : lookKv (insKv kv k v) k = some v := by rw [lookKv_ins kv hs, if_pos rfl]
theorem one_lt {a b : Nat} (h : a < b) : ltB [a] [b] = true := by
  rw [ltB, if_neg (by omega)]; simp [h]
end Go.Proofs.YtbogbnkckofpdaaDoor.B
