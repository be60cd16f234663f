/- A program logic over the model: what is owned, what is written no more, and one lemma for each kind of step. -/
import Derived.Test.YtbogbnkckofpdaaDoorSMore
namespace Go.Proofs.YtbogbnkckofpdaaDoor.B
open Go
set_option linter.unusedVariables false
set_option linter.unusedSimpArgs false
/-! ### the same steps, with conditions that reduce to plain terms -/
def getL : List Value → Nat → Option Value
  | [], _ => none
  | x :: _, 0 => some x
  | _ :: r, n + 1 => getL r n
theorem getL_eq : ∀ (l : List Value) (n : Nat), getL l n = l[n]?
  | [], n => by simp [getL]
  | x :: r, 0 => by simp [getL]
  | x :: r, n + 1 => by simp [getL, getL_eq r n]
def cutL : List Value → Nat → Nat → List Value
  | _, _, 0 => []
  | [], _, _ + 1 => []
  | x :: r, 0, n + 1 => x :: cutL r 0 n
  | _ :: r, o + 1, n + 1 => cutL r o (n + 1)
theorem cutL_eq : ∀ (l : List Value) (o n : Nat), cutL l o n = (l.drop o).take n
  | _, _, 0 => by simp [cutL]
  | [], _, _ + 1 => by simp [cutL]
  | x :: r, 0, n + 1 => by simp [cutL, cutL_eq r 0 n]
  | _ :: r, o + 1, n + 1 => by simp [cutL, cutL_eq r o (n + 1)]
def layL : List Value → Nat → List Value → List Value
  | l, _, [] => l
  | [], _, _ :: _ => []
  | _ :: r, 0, v :: vs => v :: layL r 0 vs
  | x :: r, o + 1, v :: vs => x :: layL r o (v :: vs)
theorem splice_cons (x : Value) : ∀ (vs : List Value) (r : List Value) (o : Nat), (splice (x :: r).toArray (o + 1) vs).toList = x :: (splice r.toArray o vs).toList
  | [], r, o => rfl
  | v :: vs, r, o => by
    simp only [splice]
    have e : (x :: r).toArray.setIfInBounds (o + 1) v = (x :: r.set o v).toArray := by simp
    have e2 : r.toArray.setIfInBounds o v = (r.set o v).toArray := by simp
    rw [e, e2]
    exact splice_cons x vs (r.set o v) (o + 1)
theorem layL_eq : ∀ (l : List Value) (o : Nat) (vs : List Value), (splice l.toArray o vs).toList = layL l o vs
  | l, o, [] => by cases l <;> cases o <;> simp [splice, layL]
  | [], o, v :: vs => by
    have : ∀ (vs : List Value) (o : Nat), (splice #[] o vs) = #[] := by
      intro vs
      induction vs with
      | nil => intro o; rfl
      | cons v vs ih => intro o; simp only [splice]; simpa using ih (o + 1)
    simp only [layL]
    rw [this]
  | x :: r, 0, v :: vs => by
    simp only [layL, splice]
    have e : (x :: r).toArray.setIfInBounds 0 v = (v :: r).toArray := by simp
    rw [e, splice_cons, layL_eq r 0 vs]
  | x :: r, o + 1, v :: vs => by
    simp only [layL]
    rw [splice_cons, layL_eq r o (v :: vs)]
section
variable {P : Program} {ops : Array Oper} {Q : Exit → Act → World → Prop} {a : Act} {w0 w w' : World} {D : Sto} {ss : List Seg} {o : Oper} {N : Nat} {env : Env} {K : Act → World → Prop}
theorem f_extract {x : Operand} {vs : Array Value} {i : Nat} {v : Value} (hx : ev env x = some (.tuple vs)) (hv : getL vs.toList i = some v) : PureOp P env (.extract x i) v :=
  p_extract hx (by rw [getL_eq] at hv; simpa using hv)
theorem f_load {t : TypeId} {x : Operand} {b off : Nat} {cs : Array Value} {T : TypeId} {fr : Nat × Nat} {v : Value} (hx : ev env x = some (.pointer (some ⟨b, off, none⟩))) (ht : isScal P t = true)
    (hc : w.heap[b]? = some (.cells cs T fr)) (hv : getL cs.toList off = some v) : RunOp P env w (.load t x) v := r_load hx ht hc (by rw [getL_eq] at hv; simpa using hv)
theorem f_loadA {t : TypeId} {x : Operand} {b off n : Nat} {cs : Array Value} {vs : List Value} {T : TypeId} {fr : Nat × Nat} (hx : ev env x = some (.pointer (some ⟨b, off, none⟩))) (ht : aggSize P t = some n)
    (hc : w.heap[b]? = some (.cells cs T fr)) (hle : Nat.ble (off + n) cs.size = true) (hv : cutL cs.toList off n = vs) : RunOp P env w (.load t x) (.agg vs.toArray) := r_loadA hx ht hc (Nat.le_of_ble_eq_true hle) (by
  rw [cutL_eq] at hv
  subst hv
  apply Array.toList_inj.1
  simp)
theorem f_store {t : TypeId} {x y : Operand} {b off : Nat} {cs : Array Value} {l : List Value} {T : TypeId} {v : Value} {ss' : List Seg} (i : Nat) (hE : EnvOk N env a) (hI : Inv w0 D ss w) (hd : o.dst = none) (ho : o.op = .store t x y)
    (hx : ev env x = some (.pointer (some ⟨b, off, none⟩))) (hy : ev env y = some v) (hi : ss[i]? = some [(b, .cells cs T (0, 0))]) (hsz : (P.info? t).map (·.size) = some v.cells.size)
    (h1 : v.cells.all (·.oneCell') = true) (hle : Nat.ble (off + v.cells.size) cs.size = true) (hcs : layL cs.toList off v.cells.toList = l) (hss : ss.set i [(b, .cells l.toArray T (0, 0))] = ss')
    (k : ∀ w', Inv w0 D ss' w' → K a w') : o.wp P a w K Q := by
  refine o_store i hE hI hd ho hx hy hi hsz h1 hle rfl ?_ k
  rw [← layL_eq] at hcs
  subst hcs
  rw [← hss]
theorem f_box {t : TypeId} {x : Operand} {d : Nat} {v : Value} {cs : Array Value} (hE : EnvOk N env a) (hI : Inv w0 D ss w) (hd : o.dst = some d) (hN : Nat.blt d N = true) (ho : o.op = .box t x)
    (hx : ev env x = some v) (hcs : v.cells = cs)
    (k : ∀ a' b w', EnvOk N ((d, .pointer (some ⟨b, 0, none⟩)) :: env) a' → Inv w0 D ([(b, .cells cs t (0, 0))] :: ss) w' → K a' w') : o.wp P a w K Q :=
  o_box 0 hE hI hd hN ho hx hcs (fun _ => rfl) k
theorem f_alloc {t : TypeId} {d : Nat} {z : Value} {cs : Array Value} (hE : EnvOk N env a) (hI : Inv w0 D ss w) (hd : o.dst = some d) (hN : Nat.blt d N = true) (ho : o.op = .alloc t)
    (hz : (P.info? t).bind (·.zero) = some z) (hcs : z.cells = cs)
    (k : ∀ a' b w', EnvOk N ((d, .pointer (some ⟨b, 0, none⟩)) :: env) a' → Inv w0 D ([(b, .cells cs t (0, 0))] :: ss) w' → K a' w') : o.wp P a w K Q :=
  o_alloc 0 hE hI hd hN ho hz hcs (fun _ => rfl) k
theorem f_make {t e size bytes d : Nat} {x y : Operand} {z : Value} {kl kc : IntKind} {l c : Int} (hE : EnvOk N env a) (hI : Inv w0 D ss w) (hd : o.dst = some d) (hN : Nat.blt d N = true)
    (ho : o.op = .makeSlice t x y) (hx : ev env x = some (.int kl l)) (hy : ev env y = some (.int kc c)) (ht : P.underlying t = some (.slice e))
    (hinfo : (P.info? e).map (fun i => (i.zero, i.size, i.bytes)) = some (some z, size, bytes)) (h0 : 0 ≤ l) (hlc : l ≤ c) (hb : (bytes : Int) * c ≤ 281474976710656) (hm : c ≤ 9223372036854775807)
    (k : ∀ a' b w', EnvOk N ((d, .slice (some ⟨b, 0, none⟩) l.toNat c.toNat) :: env) a' → Inv w0 D ([(b, .cells (madeCells z.cells (c.toNat * size)) e (0, 0))] :: ss) w' → K a' w') : o.wp P a w K Q :=
  o_make 0 hE hI hd hN ho hx hy ht hinfo h0 hlc hb hm (fun _ => rfl) k
/-- A struct's value, field by field. -/
def fillL (pl : List (Nat × Nat)) : List (Nat × Value) → List Value → Option (List Value)
  | [], z => some z
  | (i, v) :: r, z => match pl[i]? with
    | none => none
    | some (off, size) => bif Nat.beq v.cells.size size && Nat.ble (off + size) z.length then fillL pl r (layL z off v.cells.toList) else none
theorem fillL_fillS {pl : List (Nat × Nat)} : ∀ (vs : List (Nat × Value)) (z l : List Value), fillL pl vs z = some l → fillS (pl.toArray[·]?) z.toArray vs = some l.toArray
  | [], z, l, h => by simp [fillL] at h; subst h; rfl
  | (i, v) :: r, z, l, h => by
    simp only [fillL] at h
    simp only [fillS]
    have e : pl.toArray[i]? = pl[i]? := by simp
    rw [e]
    cases hp : pl[i]? with
    | none => rw [hp] at h; cases h
    | some q =>
      obtain ⟨off, size⟩ := q
      rw [hp] at h
      simp only at h ⊢
      cases hc : (Nat.beq v.cells.size size && Nat.ble (off + size) z.length) with
      | false => rw [hc] at h; cases h
      | true =>
        rw [hc] at h
        simp only [cond_true] at h
        simp only [List.size_toArray, hc, if_true]
        have := fillL_fillS r _ _ h
        rw [← layL_eq] at this
        simpa using this
theorem f_build {t : TypeId} {parts : Array (Nat × Operand)} {vs : List (Nat × Value)} {pl : List (Nat × Nat)} {z l : List Value} (hv : parts.toList.map (fun p => (p.1, ev env p.2)) = vs.map (fun p => (p.1, some p.2)))
    (hb : ∀ vs, P.built t vs = Instr.fill (pl.toArray[·]?) z.toArray vs) (hf : fillL pl vs z = some l) : PureOp P env (.build t parts) (.agg l.toArray) :=
  p_buildS hv hb (fillL_fillS _ _ _ hf)
/-- A slice's literal, all of its parts told in their order. -/
def litL (size : Nat) : Nat → List (Nat × Value) → Option (List Value)
  | _, [] => some []
  | n, (i, v) :: r => bif Nat.beq i n && Nat.beq v.cells.size size then (match litL size (n + 1) r with | some l => some (v.cells.toList ++ l) | none => none) else none
theorem litL_fillS {size : Nat} : ∀ (vs : List (Nat × Value)) (n : Nat) (pre post l : List Value), litL size n vs = some l → pre.length = n * size → post.length = vs.length * size →
    fillS (fun i => some (i * size, size)) (pre ++ post).toArray vs = some (pre ++ l).toArray
  | [], n, pre, post, l, h, hp, hq => by
    simp [litL] at h; subst h
    have : post = [] := List.eq_nil_of_length_eq_zero (by simpa using hq)
    subst this; rfl
  | (i, v) :: r, n, pre, post, l, h, hp, hq => by
    simp only [litL] at h
    cases hc : (Nat.beq i n && Nat.beq v.cells.size size) with
    | false => rw [hc] at h; cases h
    | true =>
      rw [hc] at h
      simp only [cond_true] at h
      simp only [Bool.and_eq_true] at hc
      have h1 := Nat.eq_of_beq_eq_true hc.1
      have h2 := Nat.eq_of_beq_eq_true hc.2
      subst h1
      split at h
      · rename_i l' hl'
        injection h with h
        subst h
        simp only [List.length_cons, Nat.add_mul, Nat.one_mul] at hq
        have hle : Nat.ble (i * size + size) (pre ++ post).toArray.size = true := Nat.ble_eq_true_of_le (by simp; omega)
        simp only [fillS, hle, hc.2, Bool.and_self, if_true]
        have hlay : ∀ (pre : List Value) (vs post : List Value), vs.length ≤ post.length → layL (pre ++ post) pre.length vs = pre ++ (vs ++ post.drop vs.length) := by
          intro pre
          induction pre with
          | nil =>
            intro vs
            induction vs with
            | nil => intro post _; cases post <;> simp [layL]
            | cons v vs ih =>
              intro post hl
              cases post with
              | nil => simp at hl
              | cons p post =>
                have := ih post (by simpa using hl)
                simp only [List.nil_append, List.length_nil] at this
                simp [layL, this]
          | cons x pre ih =>
            intro vs post hl
            cases vs with
            | nil => simp [layL]
            | cons v vs => simp only [List.cons_append, List.length_cons, layL, ih (v :: vs) post hl]
        have hsp : splice (pre ++ post).toArray (i * size) v.cells.toList = ((pre ++ v.cells.toList) ++ post.drop size).toArray := by
          apply Array.toList_inj.1
          rw [layL_eq, ← hp, hlay pre _ post (by simp; omega)]
          simp [h2]
        rw [hsp, litL_fillS r (i + 1) (pre ++ v.cells.toList) (post.drop size) l' hl' (by simp [hp, h2, Nat.add_mul]) (by simp; omega)]
        simp
      · cases h
theorem f_lit {t e len size d : Nat} {parts : Array (Nat × Operand)} {vs : List (Nat × Value)} {z : Value} {l : List Value} (hE : EnvOk N env a) (hI : Inv w0 D ss w) (hd : o.dst = some d) (hN : Nat.blt d N = true)
    (ho : o.op = .buildSlice t len parts) (hv : parts.toList.map (fun p => (p.1, ev env p.2)) = vs.map (fun p => (p.1, some p.2))) (ht : P.underlying t = some (.slice e))
    (hinfo : (P.info? e).map (fun i => (i.zero, i.size)) = some (some z, size)) (hsm : Nat.ble (len * size) 1000 = true) (hlen : Nat.beq vs.length len = true) (hf : litL size 0 vs = some l)
    (k : ∀ a' b w', EnvOk N ((d, .slice (some ⟨b, 0, none⟩) len len) :: env) a' → Inv w0 D ([(b, .cells l.toArray e (0, 0))] :: ss) w' → K a' w') : o.wp P a w K Q := by
  refine o_lit 0 hE hI hd hN ho hv ht hinfo hsm ?_ (fun _ => rfl) k
  have := litL_fillS vs 0 [] ((List.range (len * size)).map (fun i => z.cells[i % z.cells.size]!)) l hf (by simp) (by rw [Nat.eq_of_beq_eq_true hlen]; simp)
  simpa using this
/-- A piece of bytes. -/
theorem RB.cut {D : Sto} {A : Option Addr} {n c l h : Nat} {bs : List Nat} (hr : RB D (.slice A n c) bs) (hl : l ≤ h) (hh : h ≤ bs.length) :
    h ≤ c ∧ RB D (.slice (if c = l then A else A.map (·.add (l * 1))) (h - l) (c - l)) ((bs.drop l).take (h - l)) := by
  have hlen := hr.len
  refine ⟨by omega, ?_⟩
  have h3 := hr.lt
  obtain ⟨A', c', h1, h2, _, h4, h5⟩ := hr
  injection h1 with e1 e2 e3
  subst e1; subst e3
  refine ⟨(if c = l then A else A.map (·.add (l * 1))), c - l, ?_, ?_, fun x hx => h3 x (List.mem_of_mem_drop (List.mem_of_mem_take hx)), ?_, fun hne => ?_⟩
  · simp; omega
  · simp; omega
  · intro hn
    split at hn
    · have := h4 hn; omega
    · cases A with
      | none => have := h4 rfl; omega
      | some a => simp at hn
  · have hlt : l < h := by
      rcases Nat.lt_or_ge l h with h6 | h6
      · exact h6
      · exfalso; apply hne
        have : h - l = 0 := by omega
        rw [this]; simp
    obtain ⟨b, off, cs, T, fr, h6, h7, h8⟩ := h5 (by rintro rfl; simp at hh; omega)
    subst h6
    rw [if_neg (by omega)]
    refine ⟨b, off + l, cs, T, fr, ?_, h7, fun i x hi => ?_⟩
    · simp [addr_add]
    · have h9 := List.getElem?_eq_some_iff.1 hi
      obtain ⟨hi1, hi2⟩ := h9
      simp at hi1 hi2
      have : bs[l + i]? = some x := by rw [List.getElem?_eq_getElem (by omega), hi2]
      have := h8 (l + i) x this
      rw [Nat.add_assoc]
      exact this
def loE (env : Env) (d : Nat) : Option Operand → Option Nat
  | none => some d
  | some y => match ev env y with
    | some (.int _ i) => if 0 ≤ i then some i.toNat else none
    | _ => none
theorem lo_at {env : Env} {d n : Nat} {y : Operand} {k : IntKind} {i : Int} (he : ev env y = some (.int k i)) (h0 : 0 ≤ i) (h1 : i.toNat = n) : loE env d (some y) = some n := by
  simp only [loE, he, if_pos h0, h1]
end
end Go.Proofs.YtbogbnkckofpdaaDoor.B
