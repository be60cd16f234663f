/- A program logic over the model: what is owned, what is written no more, and one lemma for each kind of step. -/
import Derived.Test.YtbogbnkckofpdaaDoorTRow
namespace Go.Proofs.YtbogbnkckofpdaaDoor.B
open Go
set_option linter.unusedVariables false
set_option linter.unusedSimpArgs false
section
variable {α : Type} {size : Nat} {R : Sto → List Value → α → Prop} {P : Program} {ops : Array Oper} {Q : Exit → Act → World → Prop} {a : Act} {w0 w w' : World} {D : Sto} {ss : List Seg} {rest : List Oper} {o : Oper} {N : Nat} {env : Env} {K : Act → World → Prop}
theorem At.cells {cs : Array Value} {off : Nat} {xs : List α} (h : At size R D cs off xs) (h1 : ∀ vs x, R D vs x → ∀ u ∈ vs, u.oneCell' = true) (hz : 0 < size) :
    ∃ news : List Value, news.length = xs.length * size ∧ (∀ j, j < xs.length * size → news[j]? = cs[off + j]?) ∧ ∀ u ∈ news, u.oneCell' = true := by
  have hone : ∀ p, p < xs.length * size → ∃ u, cs[off + p]? = some u ∧ u.oneCell' = true := fun p hp => by
    have hq : p / size < xs.length := Nat.div_lt_of_lt_mul (by rw [Nat.mul_comm]; exact hp)
    obtain ⟨vs, hl, hr, hc⟩ := h (p / size) xs[p / size] (List.getElem?_eq_getElem hq)
    have hm : p % size < vs.length := by rw [hl]; exact Nat.mod_lt _ hz
    have h2 := hc (p % size) vs[p % size] (List.getElem?_eq_getElem hm)
    have h3 : p / size * size + p % size = p := by rw [Nat.mul_comm]; exact Nat.div_add_mod p size
    exact ⟨_, by rw [Nat.add_assoc, h3] at h2; exact h2, h1 _ _ hr _ (List.getElem_mem hm)⟩
  have hget : ∀ j, j < xs.length * size → ((cs.toList.drop off).take (xs.length * size))[j]? = cs[off + j]? := fun j hj => by
    rw [List.getElem?_take_of_lt hj, List.getElem?_drop, Array.getElem?_toList]
  have hlen : ((cs.toList.drop off).take (xs.length * size)).length = xs.length * size := by
    rcases Nat.eq_zero_or_pos (xs.length * size) with h0 | h0
    · rw [h0]; simp
    · obtain ⟨u, hu, _⟩ := hone (xs.length * size - 1) (by omega)
      have h1 := (Array.getElem?_eq_some_iff.1 hu).1
      have h2 : cs.toList.length = cs.size := Array.length_toList
      simp; omega
  refine ⟨_, hlen, hget, fun u hu => ?_⟩
  obtain ⟨j, hj, rfl⟩ := List.getElem_of_mem hu
  have h1 : ((cs.toList.drop off).take (xs.length * size))[j]? = some _ := List.getElem?_eq_getElem hj
  rw [hget j (by omega)] at h1
  obtain ⟨u, hu, h2⟩ := hone j (by omega)
  rw [hu] at h1
  injection h1 with h1
  rw [← h1]; exact h2
theorem At.append {cs : Array Value} {off : Nat} {xs ys' : List α} {ys news : List Value} (hx : ∀ cs : List Value, At size R D (ys ++ cs).toArray 0 xs) (hl : ys.length = xs.length * size)
    (hy : At size R D cs off ys') (hn : ∀ j, j < ys'.length * size → news[j]? = cs[off + j]?) (hnl : news.length = ys'.length * size) (tail : List Value) : At size R D ((ys ++ news) ++ tail).toArray 0 (xs ++ ys') := fun i x hix => by
  by_cases hi : i < xs.length
  · rw [List.getElem?_append_left hi] at hix
    have h2 := hx (news ++ tail) i x hix
    rw [← List.append_assoc] at h2
    exact h2
  · rw [List.getElem?_append_right (by omega)] at hix
    obtain ⟨vs, h1, h2, h3⟩ := hy _ x hix
    refine ⟨vs, h1, h2, fun j u hj => ?_⟩
    have hj' := (List.getElem?_eq_some_iff.1 hj).1
    have hi' := (List.getElem?_eq_some_iff.1 hix).1
    have hm := mul_le_of_lt (size := size) hi'
    have hs : (i - xs.length) * size = i * size - xs.length * size := Nat.sub_mul _ _ _
    have hle : xs.length * size ≤ i * size := Nat.mul_le_mul_right _ (by omega)
    have h4 := h3 j u hj
    rw [Nat.add_assoc, ← hn _ (by omega)] at h4
    show ((ys ++ news) ++ tail).toArray[0 + i * size + j]? = some u
    rw [List.getElem?_toArray, List.append_assoc, List.getElem?_append_right (by omega), List.getElem?_append_left (by omega)]
    rw [← h4]
    congr 1
    omega
theorem OR.make {T b c : Nat} {z : Value} (hc : c ≤ maxLen) : OR size R D T (.slice (Option.some ⟨b, 0, Option.none⟩) 0 c) ([] : List α) [(b, .cells (madeCells z.cells (c * size)) T (0, 0))] :=
  OR.ofAt (n := 0) rfl (Nat.zero_le _) hc (size_madeCells' _ _) (fun i x (hx : ([] : List α)[i]? = Option.some x) => by simp at hx)
theorem Inv.shutOR {T : Nat} {v : Value} {xs : List α} {s : Seg} (i : Nat) (hI : Inv w0 D ss w) (hi : ss[i]? = some s) (hR : Keeps R) (hO : OR size R D T v xs s) : ∃ D', Le D D' ∧ Inv w0 D' (ss.eraseIdx i) w ∧ DR size R D' v xs :=
  ⟨_, (hI.shut_at i hi).2, (hI.shut_at i hi).1, hO.shut hR (hI.shut_at i hi).2⟩
end
end Go.Proofs.YtbogbnkckofpdaaDoor.B
