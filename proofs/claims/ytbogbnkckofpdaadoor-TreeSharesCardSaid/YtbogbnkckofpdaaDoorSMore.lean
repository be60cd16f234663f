/- A program logic over the model: what is owned, what is written no more, and one lemma for each kind of step. -/
import Derived.Test.YtbogbnkckofpdaaDoorSReg
import Derived.LaidEql
import Derived.Laws.MakeOwn
namespace Go.Proofs.YtbogbnkckofpdaaDoor.B
open Go
set_option linter.unusedVariables false
set_option linter.unusedSimpArgs false
section
variable {P : Program} {ops : Array Oper} {Q : Exit → Act → World → Prop} {a : Act} {w0 w w' : World} {D : Sto} {ss : List Seg} {o : Oper} {N : Nat} {env : Env} {K : Act → World → Prop}
/-! ### append of bytes that may be none -/
theorem o_appendRB {x y : Operand} {t e d n : Nat} {v vy : Value} {xs : List Value} {s : Seg} {bs : List Nat} (i : Nat) (hE : EnvOk N env a) (hI : Inv w0 D ss w) (hd : o.dst = some d) (hN : Nat.blt d N = true)
    (ho : o.op = .call { callee := .builtin .append, args := #[x, y], argTypes := #[t, t] }) (hx : ev env x = some v) (hy : ev env y = some vy) (ht : P.underlying t = some (.slice e))
    (hinfo : (P.info? e).map (fun i => (i.zero, i.size, i.bytes)) = some (some (.int .u8 0), 1, 1)) (hi : ss[i]? = some s) (hR : Row e 1 v n xs s) (hr : RB D vy bs) (hb : n + bs.length ≤ 140737488355328)
    (k : ∀ v' s' w', Row e 1 v' (n + bs.length) (xs ++ bytesV bs) s' → Inv w0 D (ss.set i s') w' → ∀ a', EnvOk N ((d, v') :: env) a' → K a' w') : o.wp P a w K Q := by
  obtain ⟨A, c, rfl, hc, hlt, hnil, hat⟩ := hr
  cases A with
  | none =>
    have : bs = [] := by
      cases bs with
      | nil => rfl
      | cons x r => obtain ⟨b, off, cs, T, fr, h6, _⟩ := hat (by simp); cases h6
    subst this
    have hc0 := hnil rfl
    subst hc0
    have hs : (P.info? e).map (·.size) = some 1 := by
      obtain ⟨inf, hi0, hzz⟩ := Option.map_eq_some_iff.1 hinfo
      simp only [Prod.mk.injEq] at hzz
      rw [hi0, Option.map_some, hzz.2.1]
    refine o_appendNil hE hI hd hN ho hx hy ht hs hR (hI.segs i hi) fun a' hE' => ?_
    have h1 : ss.set i s = ss := by
      apply List.ext_getElem?
      intro j
      by_cases hj : i = j
      · subst hj; rw [hi, List.getElem?_set_self (List.getElem?_eq_some_iff.1 hi).1]
      · rw [List.getElem?_set_ne hj]
    exact k v s w (by simpa [bytesV] using hR) (by rw [h1]; exact hI) a' hE'
  | some ad =>
    have hnews : ∀ j u, (bytesV bs)[j]? = some u → w.cell? (ad.add j) = some u := by
      intro j u hj
      have hne : bs ≠ [] := by rintro rfl; simp [bytesV] at hj
      obtain ⟨b, off, cs, T, fr, h6, h7, h8⟩ := hat hne
      obtain rfl := Option.some.inj h6
      rw [addr_add, cell_of (hI.data _ _ h7)]
      simp only [bytesV, List.getElem?_map, Option.map_eq_some_iff] at hj
      obtain ⟨x, hx1, rfl⟩ := hj
      exact h8 j x hx1
    refine o_append (z := .int .u8 0) i hE hI hd hN ho hx hy ht hinfo rfl rfl hi hR (by simp [bytesV]) hnews ?_ (by omega) (by omega) k
    intro u hu
    simp only [bytesV, List.mem_map] at hu
    obtain ⟨x, _, rfl⟩ := hu
    rfl
/-! ### make -/
theorem o_make {t e size bytes d : Nat} {x y : Operand} {z : Value} {kl kc : IntKind} {l c : Int} {ss' : Nat → List Seg} (i : Nat) (hE : EnvOk N env a) (hI : Inv w0 D ss w) (hd : o.dst = some d) (hN : Nat.blt d N = true)
    (ho : o.op = .makeSlice t x y) (hx : ev env x = some (.int kl l)) (hy : ev env y = some (.int kc c)) (ht : P.underlying t = some (.slice e))
    (hinfo : (P.info? e).map (fun i => (i.zero, i.size, i.bytes)) = some (some z, size, bytes)) (h0 : 0 ≤ l) (hlc : l ≤ c) (hb : (bytes : Int) * c ≤ 281474976710656) (hm : c ≤ 9223372036854775807)
    (hss : ∀ b, insAt i [(b, .cells (madeCells z.cells (c.toNat * size)) e (0, 0))] ss = ss' b)
    (k : ∀ a' b w', EnvOk N ((d, .slice (some ⟨b, 0, none⟩) l.toNat c.toNat) :: env) a' → Inv w0 D (ss' b) w' → K a' w') : o.wp P a w K Q := by
  obtain ⟨inf, hi0, hzz⟩ := Option.map_eq_some_iff.1 hinfo
  simp only [Prod.mk.injEq] at hzz
  obtain ⟨hz, rfl, rfl⟩ := hzz
  have hr := run_make (P := P) w t e inf z ht hi0 hz kl kc l c h0 hlc hb hm
  have hrun : (execOp a.eval o).run P w = .ok (.value (.slice (some ⟨w.heap.size, 0, none⟩) l.toNat c.toNat)) { w with heap := w.heap.push (.cells (madeCells z.cells (c.toNat * inf.size)) e (0, 0)) } := by
    simp [execOp, ho, hE.eval hx, hE.eval hy, hr]
  exact o_val hrun (by rw [hd]; exact k _ w.heap.size _ (hE.put hN _) (hss _ ▸ hI.new_at i _))
theorem madeCells_one (z : Value) (h : z.cells = #[z]) (n : Nat) : (madeCells z.cells n).toList = List.replicate n z := by
  apply List.ext_getElem?
  intro i
  simp only [madeCells, Array.getElem?_toList, h]
  by_cases hi : i < n
  · simp [hi, List.getElem?_replicate, Nat.mod_one]
  · simp [hi, List.getElem?_replicate]
theorem size_madeCells' (z : Value) (n : Nat) : (madeCells z.cells n).size = n := by simp [madeCells]
/-- What make has made, as a row. -/
theorem Row.made {T b l c : Nat} {z : Value} (hz : z.cells = #[z]) (hl : l ≤ c) (hc : c ≤ 9223372036854775807) : Row T 1 (.slice (some ⟨b, 0, none⟩) l c) l (List.replicate l z) [(b, .cells (madeCells z.cells (c * 1)) T (0, 0))] := by
  refine ⟨by simp, .inr ⟨b, c, _, rfl, rfl, hl, by simpa [maxLen] using hc, by rw [size_madeCells'], ?_⟩⟩
  rw [madeCells_one z hz]
  simp [List.take_replicate, Nat.min_eq_left hl]
end
end Go.Proofs.YtbogbnkckofpdaaDoor.B
