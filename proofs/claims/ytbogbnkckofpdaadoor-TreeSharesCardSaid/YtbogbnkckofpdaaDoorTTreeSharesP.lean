/- What functions of the program compute, each function once: steps over the model, and the plain law of it. -/
import Derived.Test.YtbogbnkckofpdaaDoorTTreeLaid
namespace Go.Proofs.YtbogbnkckofpdaaDoor.B
open Go
set_option linter.unusedVariables false
set_option linter.unusedSimpArgs false
/-! ### keys put in turn -/
def putKv (l : List Bs) (v : Bs) : Ens := l.foldl (fun kv k => if k = [] then kv else insKv kv k v) []
theorem putKv_snoc (l : List Bs) (k v : Bs) : putKv (l ++ [k]) v = if k = [] then putKv l v else insKv (putKv l v) k v := by simp [putKv]
theorem putKv_take {l : List Bs} {i : Nat} {k : Bs} (v : Bs) (h : l[i]? = some k) : putKv (l.take (i + 1)) v = if k = [] then putKv (l.take i) v else insKv (putKv (l.take i) v) k v := by
  rw [List.take_add_one, h]; exact putKv_snoc _ _ _
theorem putKv_len (v : Bs) : ∀ (n : Nat) (l : List Bs), l.length = n → (putKv l v).length ≤ n
  | 0, l, h => by rw [List.length_eq_zero_iff.1 h]; simp [putKv]
  | n + 1, l, h => by
    have hne : l ≠ [] := by intro e; subst e; simp at h
    obtain ⟨m, k, rfl⟩ : ∃ m k, l = m ++ [k] := ⟨l.dropLast, l.getLast hne, (List.dropLast_concat_getLast hne).symm⟩
    have ih := putKv_len v n m (by simpa using h)
    rw [putKv_snoc]
    split
    · omega
    · have := (insKv_len (k := k) (v := v) (putKv m v)).2; omega
theorem putKv_sorted (v : Bs) : ∀ (n : Nat) (l : List Bs), l.length = n → Sorted (putKv l v)
  | 0, l, h => by rw [List.length_eq_zero_iff.1 h]; simp [putKv, Sorted]
  | n + 1, l, h => by
    have hne : l ≠ [] := by intro e; subst e; simp at h
    obtain ⟨m, k, rfl⟩ : ∃ m k, l = m ++ [k] := ⟨l.dropLast, l.getLast hne, (List.dropLast_concat_getLast hne).symm⟩
    have ih := putKv_sorted v n m (by simpa using h)
    rw [putKv_snoc]
    split
    · exact ih
    · exact insKv_sorted _ ih
theorem putKv_look (v : Bs) {key : Bs} (hk : key ≠ []) : ∀ (n : Nat) (l : List Bs), l.length = n → lookKv (putKv l v) key = if key ∈ l then some v else none
  | 0, l, h => by rw [List.length_eq_zero_iff.1 h]; simp [putKv, lookKv]
  | n + 1, l, h => by
    have hne : l ≠ [] := by intro e; subst e; simp at h
    obtain ⟨m, k, rfl⟩ : ∃ m k, l = m ++ [k] := ⟨l.dropLast, l.getLast hne, (List.dropLast_concat_getLast hne).symm⟩
    have hm : m.length = n := by simpa using h
    have ih := putKv_look v hk n m hm
    rw [putKv_snoc]
    by_cases h0 : k = []
    · subst h0
      rw [if_pos rfl, ih]
      simp [hk]
    · rw [if_neg h0, lookKv_ins _ (putKv_sorted v n m hm), ih]
      by_cases h1 : key = k
      · subst h1; simp
      · simp [h1]
theorem all_len : ∀ (rs : List Rc) {b b' : Bt}, b.all rs = .ok b' → b'.recs.length = b.recs.length + rs.length ∧ b'.pool = b.pool
  | [], b, b', h => by rw [Bt.all] at h; injection h with h; subst h; exact ⟨rfl, rfl⟩
  | r :: rs, b, b', h => by
    rw [Bt.all] at h
    split at h
    · cases h
    rename_i b1 hb
    have := all_len rs h
    rw [Bt.doR] at hb
    split at hb
    · cases hb
    · injection hb with hb; subst hb
      simp only [List.length_append, List.length_cons, List.length_nil] at this ⊢
      exact ⟨by omega, this.2⟩
theorem Runs.len {b b' : Bt} {k : Nat} (h : Runs b b' k) : b'.recs.length ≤ b.recs.length + k ∧ b'.pool = b.pool := by
  obtain ⟨rs, h1, _, h3⟩ := h
  have := all_len rs h3
  exact ⟨by omega, this.2⟩
theorem right_of {k : Bs} (h1 : k ≠ []) (h2 : (k.length : Int) ≤ 32) : rightK k = true := by
  rw [rightK, decide_eq_true_eq]
  have : k.length ≠ 0 := fun e => h1 (List.length_eq_zero_iff.1 e)
  omega
/-- One more key put. -/
theorem puts_step {P : Pl} {b : Bt} {l : List Bs} {i : Nat} {k v : Bs} (hP : AllOk (newBt P)) (hr : Runs (newBt P) b (601 * i)) (hb : Holds b (putKv (l.take i) v)) (hx : l[i]? = some k) (h1 : k ≠ []) (h2 : (k.length : Int) ≤ 32) (hv : v.length ≤ 64) (hl : l.length ≤ 600) :
    ∃ b', b.put k v = .ok b' ∧ Runs (newBt P) b' (601 * (i + 1)) ∧ Holds b' (putKv (l.take (i + 1)) v) := by
  have hlen : (putKv (l.take i) v).length ≤ 700 := by
    have := putKv_len v _ (l.take i) rfl
    rw [List.length_take] at this; omega
  obtain ⟨b', t, h⟩ := hb.put (key := k) (val := v) hlen (right_of h1 h2) hv
  refine ⟨b', t, hr.trans (put_runs (hr.ok hP) t) (by omega), ?_⟩
  rw [putKv_take v hx, if_neg h1]; exact h
theorem puts_skip {P : Pl} {b : Bt} {l : List Bs} {i : Nat} {v : Bs} (hr : Runs (newBt P) b (601 * i)) (hb : Holds b (putKv (l.take i) v)) (hx : l[i]? = some []) :
    Runs (newBt P) b (601 * (i + 1)) ∧ Holds b (putKv (l.take (i + 1)) v) := by
  refine ⟨hr.mono (by omega), ?_⟩
  rw [putKv_take v hx, if_pos rfl]; exact hb
theorem mem_take_succ {l : List Bs} {i : Nat} {k key : Bs} (h : l[i]? = some k) : key ∈ l.take (i + 1) ↔ key ∈ l.take i ∨ key = k := by
  rw [List.take_add_one, h]; simp
theorem puts_get {b : Bt} {l : List Bs} {v key : Bs} (h : Holds b (putKv l v)) (hl : l.length ≤ 600) (hk : rightK key = true) : b.get key = .ok (if key ∈ l then some v else none) := by
  have h0 : key ≠ [] := by rintro rfl; simp [rightK] at hk
  rw [h.get (by have := putKv_len v _ l rfl; omega) hk, putKv_look v h0 _ l rfl]
theorem one_put {key v : Bs} (hk : rightK key = true) (hv : v.length ≤ 64) : ∃ b, (newBt E0).put key v = .ok b ∧ b.get key = .ok (some v) ∧ b.pool = E0.f := by
  obtain ⟨b, t, h⟩ := Holds.put (key := key) (val := v) E0_holds.2 (by simp) hk hv
  refine ⟨b, t, ?_, (put_runs (AllOk.new E0_ok) t).len.2⟩
  rw [h.get (by simp [insKv]) hk]
  simp [insKv, lookKv, ltB_irrefl]
end Go.Proofs.YtbogbnkckofpdaaDoor.B
