/- A program logic over the model: what is owned, what is written no more, and one lemma for each kind of step. -/
import Derived.Test.YtbogbnkckofpdaaDoorSOps
namespace Go.Proofs.YtbogbnkckofpdaaDoor.B
open Go
set_option linter.unusedVariables false
set_option linter.unusedSimpArgs false
section
variable {α : Type} {size : Nat} {R : Sto → List Value → α → Prop} {D D' : Sto} {v : Value} {xs : List α} {s : Seg} {T : Nat}
theorem mul_le_of_lt {i n size : Nat} (h : i < n) : i * size + size ≤ n * size := by
  have := Nat.mul_le_mul_right size (show i + 1 ≤ n by omega)
  rw [Nat.add_mul, Nat.one_mul] at this; exact this
theorem At.insert {cur C : Array Value} {i : Nat} {vs : List Value} {x : α} (h : At size R D cur 0 xs) (hi : i ≤ xs.length) (hv : vs.length = size) (hx : R D vs x)
    (h1 : ∀ p, p < i * size → C[p]? = cur[p]?) (h2 : ∀ j u, vs[j]? = some u → C[i * size + j]? = some u) (h3 : ∀ p, i * size ≤ p → p < xs.length * size → C[p + size]? = cur[p]?) : At size R D C 0 (xs.insertIdx i x) := fun q y hy => by
  rw [List.getElem?_insertIdx] at hy
  split at hy
  · rename_i hq
    obtain ⟨us, k1, k2, k3⟩ := h q y hy
    refine ⟨us, k1, k2, fun j u hu => ?_⟩
    have hj := (List.getElem?_eq_some_iff.1 hu).1
    have := mul_le_of_lt (size := size) hq
    have h4 := k3 j u hu
    rw [Nat.zero_add] at h4 ⊢
    rw [h1 _ (by omega)]; exact h4
  · rename_i hq
    split at hy
    · rename_i hq2
      subst hq2
      have hxy : x = y := by
        rw [if_pos hi] at hy
        exact Option.some.inj hy
      subst hxy
      exact ⟨vs, hv, hx, fun j u hu => by rw [Nat.zero_add]; exact h2 j u hu⟩
    · rename_i hq2
      obtain ⟨us, k1, k2, k3⟩ := h (q - 1) y hy
      refine ⟨us, k1, k2, fun j u hu => ?_⟩
      have hj := (List.getElem?_eq_some_iff.1 hu).1
      have hql := (List.getElem?_eq_some_iff.1 hy).1
      have h4 := k3 j u hu
      have h5 := mul_le_of_lt (size := size) hql
      have h6 := Nat.mul_le_mul_right size (show i ≤ q - 1 by omega)
      have h7 : q * size = (q - 1) * size + size := by
        obtain ⟨r, rfl⟩ : ∃ r, q = r + 1 := ⟨q - 1, by omega⟩
        rw [Nat.add_mul, Nat.one_mul]; rfl
      rw [Nat.zero_add] at h4 ⊢
      rw [h7, show (q - 1) * size + size + j = (q - 1) * size + j + size by omega, h3 _ (by omega) (by omega)]
      exact h4
theorem At.erase {cur C : Array Value} {i : Nat} (h : At size R D cur 0 xs) (hi : i < xs.length)
    (h1 : ∀ p, p < i * size → C[p]? = cur[p]?) (h3 : ∀ p, i * size + size ≤ p → p < xs.length * size → C[p - size]? = cur[p]?) : At size R D C 0 (xs.eraseIdx i) := fun q y hy => by
  rw [List.getElem?_eraseIdx] at hy
  split at hy
  · rename_i hq
    obtain ⟨us, k1, k2, k3⟩ := h q y hy
    refine ⟨us, k1, k2, fun j u hu => ?_⟩
    have hj := (List.getElem?_eq_some_iff.1 hu).1
    have := mul_le_of_lt (size := size) hq
    have h4 := k3 j u hu
    rw [Nat.zero_add] at h4 ⊢
    rw [h1 _ (by omega)]; exact h4
  · rename_i hq
    obtain ⟨us, k1, k2, k3⟩ := h (q + 1) y hy
    refine ⟨us, k1, k2, fun j u hu => ?_⟩
    have hj := (List.getElem?_eq_some_iff.1 hu).1
    have hql := (List.getElem?_eq_some_iff.1 hy).1
    have h4 := k3 j u hu
    have h5 := mul_le_of_lt (size := size) hql
    have h6 := Nat.mul_le_mul_right size (show i ≤ q by omega)
    have h7 : (q + 1) * size = q * size + size := by rw [Nat.add_mul, Nat.one_mul]
    have h8 := h3 ((q + 1) * size + j) (by omega) (by omega)
    rw [Nat.zero_add] at h4 ⊢
    rw [show (q + 1) * size + j - size = q * size + j by omega] at h8
    rw [h8]; exact h4
theorem At.same {cur C : Array Value} (h : At size R D cur 0 xs) (h1 : ∀ p, p < xs.length * size → C[p]? = cur[p]?) : At size R D C 0 xs := fun q y hy => by
  obtain ⟨us, k1, k2, k3⟩ := h q y hy
  refine ⟨us, k1, k2, fun j u hu => ?_⟩
  have hj := (List.getElem?_eq_some_iff.1 hu).1
  have := mul_le_of_lt (size := size) (List.getElem?_eq_some_iff.1 hy).1
  have h4 := k3 j u hu
  rw [Nat.zero_add] at h4 ⊢
  rw [h1 _ (by omega)]; exact h4
/-- One element is another one. -/
theorem At.modify {cur C : Array Value} {i : Nat} {f : α → α} (h : At size R D cur 0 xs)
    (h1 : ∀ p, p < i * size ∨ i * size + size ≤ p → C[p]? = cur[p]?) (h2 : ∀ x, xs[i]? = some x → ∃ vs, vs.length = size ∧ R D vs (f x) ∧ ∀ j u, vs[j]? = some u → C[i * size + j]? = some u) : At size R D C 0 (xs.modify i f) := fun q y hy => by
  rw [List.getElem?_modify] at hy
  by_cases hq : i = q
  · subst hq
    simp only [if_true] at hy
    cases hx : xs[i]? with
    | none => rw [hx] at hy; cases hy
    | some x =>
      rw [hx] at hy
      have : f x = y := by simpa using hy
      subst this
      obtain ⟨vs, k1, k2, k3⟩ := h2 x hx
      exact ⟨vs, k1, k2, fun j u hu => by rw [Nat.zero_add]; exact k3 j u hu⟩
  · have hy' : xs[q]? = some y := by
      cases hx : xs[q]? with
      | none => rw [hx] at hy; cases hy
      | some x => rw [hx] at hy; simpa [hq] using hy
    obtain ⟨us, k1, k2, k3⟩ := h q y hy'
    refine ⟨us, k1, k2, fun j u hu => ?_⟩
    have hj := (List.getElem?_eq_some_iff.1 hu).1
    have h4 := k3 j u hu
    rw [Nat.zero_add] at h4 ⊢
    rw [h1 _ ?_]
    · exact h4
    · rcases Nat.lt_or_gt_of_ne hq with hlt | hlt
      · right
        have := mul_le_of_lt (size := size) hlt
        omega
      · left
        have := mul_le_of_lt (size := size) hlt
        omega
/-- What of an owned row is read. -/
theorem OR.some {A : Addr} {n c : Nat} (h : OR size R D T (.slice (Option.some A) n c) xs s) : ∃ g cur, A = ⟨g, 0, none⟩ ∧ n = xs.length ∧ s = [(g, .cells cur T (0, 0))] ∧ xs.length ≤ c ∧ c ≤ maxLen ∧ cur.size = c * size ∧ At size R D cur 0 xs := by
  rcases h with ⟨h1, h2, h3⟩ | ⟨g, cap, cur, h1, h2, h3, h4, h5, h6⟩
  · cases h1
  · injection h1 with h1 hn hc
    injection h1 with h1
    subst hc
    exact ⟨g, cur, h1, hn, h2, h3, h4, h5, h6⟩
theorem OR.none {n c : Nat} (h : OR size R D T (.slice Option.none n c) xs s) : xs = [] ∧ n = 0 ∧ c = 0 ∧ s = [] := by
  rcases h with ⟨h1, h2, h3⟩ | ⟨g, cap, cur, h1, h2, h3, h4, h5, h6⟩
  · injection h1 with _ hn hc; exact ⟨h2, hn, hc, h3⟩
  · cases h1
theorem OR.ofAt {g cap n : Nat} {cur : Array Value} (hn : n = xs.length) (hle : xs.length ≤ cap) (hc : cap ≤ maxLen) (hs : cur.size = cap * size) (h : At size R D cur 0 xs) : OR size R D T (.slice (Option.some ⟨g, 0, Option.none⟩) n cap) xs [(g, .cells cur T (0, 0))] := by
  subst hn; exact Or.inr ⟨g, cap, cur, rfl, rfl, hle, hc, hs, h⟩
/-- An element of a row that is read whole. -/
theorem At.extract {cs : Array Value} {off i : Nat} {x : α} (h : At size R D cs off xs) (hx : xs[i]? = Option.some x) (hs : 0 < size) : ∃ vs, vs.length = size ∧ R D vs x ∧ cs.extract (off + i * size) (off + i * size + size) = vs.toArray ∧ off + i * size + size ≤ cs.size ∧ ∀ j u, vs[j]? = Option.some u → cs[off + i * size + j]? = Option.some u := by
  obtain ⟨vs, k1, k2, k3⟩ := h i x hx
  have hsz : off + i * size + size ≤ cs.size := by
    have h1 : vs[size - 1]? = Option.some vs[size - 1] := List.getElem?_eq_getElem (by omega)
    have := (Array.getElem?_eq_some_iff.1 (k3 _ _ h1)).1
    omega
  refine ⟨vs, k1, k2, ?_, hsz, k3⟩
  apply Array.ext_getElem?
  intro j
  have h9 : vs.toArray[j]? = vs[j]? := List.getElem?_toArray
  rw [Array.getElem?_extract, h9]
  by_cases hj : j < size
  · have h2 : vs[j]? = Option.some vs[j] := List.getElem?_eq_getElem (by omega)
    rw [h2, if_pos (by omega)]; exact k3 _ _ h2
  · rw [if_neg (by omega), List.getElem?_eq_none (by omega)]
end
section
variable {α : Type} {size : Nat} {R : Sto → List Value → α → Prop} {P : Program} {ops : Array Oper} {Q : Exit → Act → World → Prop} {a : Act} {w0 w w' : World} {D : Sto} {ss : List Seg} {rest : List Oper} {o : Oper} {N : Nat} {env : Env} {K : Act → World → Prop}
/-- append of one element that lies in a block of its own (segment j) to an owned row (segment i). -/
theorem o_appendOR {x y : Operand} {t e bytes d b T : Nat} {z v : Value} {xs : List α} {s : Seg} {el : α} {cs : Array Value} (i j : Nat) (hE : EnvOk N env a) (hI : Inv w0 D ss w) (hd : o.dst = some d) (hN : Nat.blt d N = true)
    (ho : o.op = .call { callee := .builtin .append, args := #[x, y], argTypes := #[t, t] }) (hx : ev env x = some v) (hy : ev env y = some (.slice (some ⟨b, 0, none⟩) 1 1)) (ht : P.underlying t = some (.slice e))
    (hinfo : (P.info? e).map (fun i => (i.zero, i.size, i.bytes)) = some (some z, size, bytes)) (hz : z.cells.size = size) (hsz : Nat.blt 0 size = true) (hi : ss[i]? = some s) (hO : OR size R D e v xs s)
    (hj : ss[j]? = some [(b, .cells cs T (0, 0))]) (hcs : cs.toList.length = size) (hR : R D cs.toList el) (h1 : ∀ u ∈ cs.toList, u.oneCell' = true) (hb : (xs.length + 1) * bytes ≤ 140737488355328) (hm : xs.length + 1 ≤ 9223372036854775807)
    (k : ∀ v' s' w', OR size R D e v' (xs ++ [el]) s' → Inv w0 D (ss.set i s') w' → ∀ a', EnvOk N ((d, v') :: env) a' → K a' w') : o.wp P a w K Q := by
  obtain ⟨ys, hrow, hat⟩ := hO.row
  have hc := hI.seg j hj
  refine o_append (n := xs.length) (news := cs.toList) i hE hI hd hN ho hx hy ht hinfo hz hsz hi hrow (by rw [hcs, Nat.one_mul]) (fun q u hq => lit_news hc q u hq) h1 hb hm ?_
  intro v' s' w' hR' hI' a' hE'
  exact k v' s' w' (OR.ofRow hR' (by simp) (At.snoc hat hrow.len hcs hR)) hI' a' hE'
end
end Go.Proofs.YtbogbnkckofpdaaDoor.B
