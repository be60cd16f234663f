/- A program logic over the model: what is owned, what is written no more, and one lemma for each kind of step. -/
import Derived.Test.YtbogbnkckofpdaaDoorSMap
import Derived.Lib.Overlaps
import Derived.Lib.AppendZerosOnto
import Derived.Laws.Externs
namespace Go.Proofs.YtbogbnkckofpdaaDoor.B
open Go
set_option linter.unusedVariables false
set_option linter.unusedSimpArgs false
/-! ### rows of structs -/
section
variable {α : Type} {size : Nat} {R : Sto → List Value → α → Prop} {D D' : Sto} {v : Value} {xs : List α} {s : Seg} {T : Nat}
/-- The elements xs stand in these cells, from off on. -/
def At (size : Nat) (R : Sto → List Value → α → Prop) (D : Sto) (cs : Array Value) (off : Nat) (xs : List α) : Prop :=
  ∀ i x, xs[i]? = some x → ∃ vs, vs.length = size ∧ R D vs x ∧ ∀ j u, vs[j]? = some u → cs[off + i * size + j]? = some u
/-- A row that is written no more. -/
def DR (size : Nat) (R : Sto → List Value → α → Prop) (D : Sto) (v : Value) (xs : List α) : Prop :=
  ∃ A c, v = .slice A xs.length c ∧ xs.length ≤ c ∧ (A = none → c = 0) ∧
    (xs ≠ [] → ∃ b off cs T fr, A = some ⟨b, off, none⟩ ∧ D b = some (.cells cs T fr) ∧ At size R D cs off xs)
/-- A row that is owned. -/
def OR (size : Nat) (R : Sto → List Value → α → Prop) (D : Sto) (T : Nat) (v : Value) (xs : List α) (s : Seg) : Prop :=
  (v = .slice none 0 0 ∧ xs = [] ∧ s = []) ∨ ∃ g cap cur, v = .slice (some ⟨g, 0, none⟩) xs.length cap ∧ s = [(g, .cells cur T (0, 0))] ∧ xs.length ≤ cap ∧ cap ≤ maxLen ∧ cur.size = cap * size ∧ At size R D cur 0 xs
def Keeps (R : Sto → List Value → α → Prop) : Prop := ∀ D D' vs x, Le D D' → R D vs x → R D' vs x
theorem At.mono (hR : Keeps R) {cs : Array Value} {off : Nat} (h : At size R D cs off xs) (hD : Le D D') : At size R D' cs off xs := fun i x hx => by
  obtain ⟨vs, h1, h2, h3⟩ := h i x hx
  exact ⟨vs, h1, hR _ _ _ _ hD h2, h3⟩
theorem DR.mono (hR : Keeps R) (h : DR size R D v xs) (hD : Le D D') : DR size R D' v xs := by
  obtain ⟨A, c, h1, h2, h3, h4⟩ := h
  refine ⟨A, c, h1, h2, h3, fun hn => ?_⟩
  obtain ⟨b, off, cs, T, fr, h5, h6, h7⟩ := h4 hn
  exact ⟨b, off, cs, T, fr, h5, hD _ _ h6, h7.mono hR hD⟩
theorem OR.mono (hR : Keeps R) (h : OR size R D T v xs s) (hD : Le D D') : OR size R D' T v xs s := by
  rcases h with h | ⟨g, cap, cur, h1, h2, h3, h4, h5, h6⟩
  · exact .inl h
  · exact .inr ⟨g, cap, cur, h1, h2, h3, h4, h5, h6.mono hR hD⟩
theorem DR.nil (size : Nat) (R : Sto → List Value → α → Prop) (D : Sto) : DR size R D (.slice none 0 0) [] := ⟨none, 0, rfl, Nat.le_refl _, fun _ => rfl, fun h => absurd rfl h⟩
theorem OR.nil (size : Nat) (R : Sto → List Value → α → Prop) (D : Sto) (T : Nat) : OR size R D T (.slice none 0 0) [] [] := .inl ⟨rfl, rfl, rfl⟩
theorem DR.slice (h : DR size R D v xs) : ∃ A c, v = .slice A xs.length c ∧ xs.length ≤ c := by
  obtain ⟨A, c, h1, h2, _, _⟩ := h; exact ⟨A, c, h1, h2⟩
theorem OR.slice (h : OR size R D T v xs s) : ∃ A c, v = .slice A xs.length c ∧ xs.length ≤ c := by
  rcases h with ⟨h1, h2, h3⟩ | ⟨g, cap, cur, h1, h2, h3, h4, h5, h6⟩
  · subst h2; exact ⟨none, 0, h1, Nat.le_refl _⟩
  · exact ⟨_, cap, h1, h3⟩
theorem DR.at_ {A : Option Addr} {n c : Nat} (h : DR size R D (.slice A n c) xs) (hn : xs ≠ []) :
    ∃ b off cs T fr, A = some ⟨b, off, none⟩ ∧ D b = some (.cells cs T fr) ∧ At size R D cs off xs := by
  obtain ⟨A', c', h1, h2, h3, h4⟩ := h
  injection h1 with h1 _ _; subst h1
  exact h4 hn
/-- An owned row is data from now on. -/
theorem OR.shut (hR : Keeps R) (h : OR size R D T v xs s) (hD : Le D (Sto.put D s)) : DR size R (Sto.put D s) v xs := by
  rcases h with ⟨rfl, rfl, rfl⟩ | ⟨g, cap, cur, h1, h2, h3, h4, h5, h6⟩
  · exact DR.nil _ _ _
  · subst h2
    exact ⟨_, cap, h1, h3, (fun h => by cases h), fun hn => ⟨g, 0, cur, T, (0, 0), rfl, Sto.put_one _ _ _, h6.mono hR hD⟩⟩
/-- The row, as append wants it. -/
theorem OR.row (h : OR size R D T v xs s) : ∃ ys, Row T size v xs.length ys s ∧ ∀ cs : List Value, At size R D (ys ++ cs).toArray 0 xs := by
  rcases h with ⟨rfl, rfl, rfl⟩ | ⟨g, cap, cur, h1, h2, h3, h4, h5, h6⟩
  · exact ⟨[], Row.nil T size, fun cs i x hx => by simp at hx⟩
  · have hle : xs.length * size ≤ cur.toList.length := by
      have h7 : cur.toList.length = cur.size := Array.length_toList
      rw [h7, h5]; exact Nat.mul_le_mul_right _ h3
    refine ⟨cur.toList.take (xs.length * size), ⟨by rw [List.length_take]; omega, .inr ⟨g, cap, cur, h1, h2, h3, h4, h5, rfl⟩⟩, fun cs i x hx => ?_⟩
    obtain ⟨vs, k1, k2, k3⟩ := h6 i x hx
    refine ⟨vs, k1, k2, fun j u hu => ?_⟩
    have hi := (List.getElem?_eq_some_iff.1 hx).1
    have hj := (List.getElem?_eq_some_iff.1 hu).1
    have h7 : i * size + size ≤ xs.length * size := by
      have := Nat.mul_le_mul_right size (show i + 1 ≤ xs.length by omega)
      rw [Nat.add_mul, Nat.one_mul] at this; exact this
    have h8 := k3 j u hu
    simp only [Nat.zero_add] at h8 ⊢
    rw [List.getElem?_toArray, List.getElem?_append_left (by rw [List.length_take]; omega), List.getElem?_take_of_lt (by omega), Array.getElem?_toList]
    exact h8
theorem OR.ofRow {n : Nat} {ys : List Value} (h : Row T size v n ys s) (hn : n = xs.length) (ha : ∀ cs : List Value, At size R D (ys ++ cs).toArray 0 xs) : OR size R D T v xs s := by
  subst hn
  rcases h.at_ with ⟨h1, h2, h3⟩ | ⟨g, cap, cur, h1, h2, h3, h4, h5, h6⟩
  · exact .inl ⟨h1, List.length_eq_zero_iff.1 h2, h3⟩
  · refine .inr ⟨g, cap, cur, h1, h2, h3, h4, h5, ?_⟩
    have := ha (cur.toList.drop (xs.length * size))
    rw [← h6, List.take_append_drop] at this
    simpa using this
theorem At.snoc {ys vs : List Value} {x : α} (h : ∀ cs : List Value, At size R D (ys ++ cs).toArray 0 xs) (hl : ys.length = xs.length * size) (hv : vs.length = size) (hx : R D vs x) :
    ∀ cs : List Value, At size R D (ys ++ vs ++ cs).toArray 0 (xs ++ [x]) := fun cs i y hy => by
  by_cases hi : i < xs.length
  · rw [List.getElem?_append_left hi] at hy
    have := h (vs ++ cs) i y hy
    rwa [← List.append_assoc] at this
  · have hi' : i = xs.length := by
      have := (List.getElem?_eq_some_iff.1 hy).1
      simp at this; omega
    subst hi'
    have hxy : x = y := by simpa using hy
    subst hxy
    refine ⟨vs, hv, hx, fun j u hu => ?_⟩
    have hj := (List.getElem?_eq_some_iff.1 hu).1
    rw [List.getElem?_toArray, List.append_assoc, List.getElem?_append_right (by omega), List.getElem?_append_left (by omega)]
    rw [show 0 + xs.length * size + j - ys.length = j by omega]
    exact hu
/-- Fewer of them. -/
theorem OR.take (h : OR size R D T v xs s) {A : Option Addr} {n c m : Nat} (hv : v = .slice A n c) (hm : m ≤ xs.length) : OR size R D T (.slice A m c) (xs.take m) s := by
  rcases h with ⟨h1, rfl, h3⟩ | ⟨g, cap, cur, h1, h2, h3, h4, h5, h6⟩
  · rw [h1] at hv; injection hv with a b c'; subst a; subst b; subst c'
    have : m = 0 := by simpa using hm
    subst this
    exact .inl ⟨rfl, rfl, h3⟩
  · rw [h1] at hv; injection hv with a b c'; subst a; subst c'
    refine .inr ⟨g, cap, cur, by rw [List.length_take, Nat.min_eq_left hm], h2, by rw [List.length_take]; omega, h4, h5, fun i x hx => ?_⟩
    rw [List.getElem?_take] at hx
    split at hx
    · exact h6 i x hx
    · cases hx
/-- A piece of a row that is data. -/
theorem DR.cut {A : Option Addr} {n c l h : Nat} (hr : DR size R D (.slice A n c) xs) (hl : l ≤ h) (hh : h ≤ xs.length) :
    DR size R D (.slice (if c = l then A else A.map (·.add (l * size))) (h - l) (c - l)) ((xs.drop l).take (h - l)) := by
  obtain ⟨A', c', h1, h2, h3, h4⟩ := hr
  injection h1 with h1 hn hc; subst h1; subst hn; subst hc
  have hlen : ((xs.drop l).take (h - l)).length = h - l := by simp; omega
  refine ⟨_, _, by rw [hlen], by rw [hlen]; omega, fun hA => ?_, fun hne => ?_⟩
  · by_cases hcl : c = l
    · omega
    · rw [if_neg hcl] at hA
      have : A = none := by simpa using hA
      have := h3 this
      omega
  · have hne' : xs ≠ [] := by
      rintro rfl; simp at hne
    obtain ⟨b, off, cs, T, fr, h5, h6, h7⟩ := h4 hne'
    subst h5
    have hlt : l < h := by
      have h0 : ((xs.drop l).take (h - l)).length ≠ 0 := fun e => hne (List.length_eq_zero_iff.1 e)
      omega
    rw [if_neg (by omega)]
    refine ⟨b, off + l * size, cs, T, fr, by simp [Addr.add], h6, fun i x hx => ?_⟩
    rw [List.getElem?_take] at hx
    split at hx
    · rw [List.getElem?_drop] at hx
      obtain ⟨vs, k1, k2, k3⟩ := h7 _ x hx
      refine ⟨vs, k1, k2, fun j u hu => ?_⟩
      have := k3 j u hu
      rw [Nat.add_mul] at this
      rw [show off + l * size + i * size + j = off + (l * size + i * size) + j by omega]
      exact this
    · cases hx
end
theorem getElem?_splice : ∀ (vs : List Value) (cs : Array Value) (off p : Nat), off + vs.length ≤ cs.size → (splice cs off vs)[p]? = if off ≤ p ∧ p < off + vs.length then vs[p - off]? else cs[p]?
  | [], cs, off, p, h => by
    rw [if_neg (by simp)]; rfl
  | v :: r, cs, off, p, h => by
    simp only [List.length_cons] at h ⊢
    simp only [splice]
    rw [getElem?_splice r _ _ _ (by simp; omega)]
    by_cases h1 : off + 1 ≤ p ∧ p < off + 1 + r.length
    · rw [if_pos h1, if_pos (by omega), show p - off = (p - (off + 1)) + 1 by omega, List.getElem?_cons_succ]
    · rw [if_neg h1]
      by_cases h2 : p = off
      · subst h2
        rw [if_pos (by omega)]; simp [Array.getElem?_setIfInBounds_self_of_lt (show p < cs.size by omega)]
      · rw [if_neg (by omega), Array.getElem?_setIfInBounds_ne (by omega)]
end Go.Proofs.YtbogbnkckofpdaaDoor.B
