/- A program logic over the model: what is owned, what is written no more, and one lemma for each kind of step. -/
import Derived.Test.YtbogbnkckofpdaaDoorSCtl
namespace Go.Proofs.YtbogbnkckofpdaaDoor.B
open Go
set_option linter.unusedVariables false
set_option linter.unusedSimpArgs false
section
variable {w0 w w' : World} {D D' : Sto} {ss : List Seg}
theorem Inv.weaken (h : Inv w0 D' ss w) (hD : Le D D') : Inv w0 D ss w :=
  ⟨h.os, h.tape, h.output, h.size, fun b o hb => h.data b o (hD b o hb), h.own, fun p hp => (by
    cases hb : D p.1 with
    | none => rfl
    | some o => have := hD _ _ hb; rw [h.apart p hp] at this; cases this), h.nodup⟩
theorem Inv.erase (i : Nat) (h : Inv w0 D ss w) : Inv w0 D (ss.eraseIdx i) w := by
  cases hi : ss[i]? with
  | none =>
    have : ss.eraseIdx i = ss := List.eraseIdx_of_length_le (by
      have := List.getElem?_eq_none_iff.1 hi; exact this)
    rw [this]; exact h
  | some s => exact (h.perm (erase_perm i ss hi).flatten).drop
/-- Segment i is data from now on. -/
theorem Inv.shut_at {s : Seg} (i : Nat) (h : Inv w0 D ss w) (hi : ss[i]? = some s) : Inv w0 (Sto.put D s) (ss.eraseIdx i) w ∧ Le D (Sto.put D s) :=
  let h' := h.perm (erase_perm i ss hi).flatten
  ⟨h'.shut, h'.le_shut⟩
theorem Sto.put_one (D : Sto) (b : Nat) (o : Obj) : Sto.put D [(b, o)] b = some o := by simp [Sto.put]
/-- Where the whole of memory is data: the start. -/
theorem Inv.start (w : World) : Inv w (fun b => w.heap[b]?) [] w :=
  ⟨rfl, rfl, rfl, Nat.le_refl _, fun _ _ h => h, by simp, by simp, by simp⟩
end
/-! ### rows that are owned: a slice that the call made and writes -/
structure Row (T size : Nat) (v : Value) (n : Nat) (xs : List Value) (s : Seg) : Prop where
  len : xs.length = n * size
  at_ : (v = .slice none 0 0 ∧ n = 0 ∧ s = []) ∨ ∃ g cap cur, v = .slice (some ⟨g, 0, none⟩) n cap ∧ s = [(g, .cells cur T (0, 0))] ∧ n ≤ cap ∧ cap ≤ maxLen ∧ cur.size = cap * size ∧ cur.toList.take (n * size) = xs
theorem Row.nil (T size : Nat) : Row T size (.slice none 0 0) 0 [] [] := ⟨by simp, .inl ⟨rfl, rfl, rfl⟩⟩
section
variable {T size n : Nat} {v : Value} {xs : List Value} {s : Seg} {P : Program} {ops : Array Oper} {Q : Exit → Act → World → Prop} {a : Act} {w0 w w' : World} {D : Sto} {ss : List Seg} {rest : List Oper} {o : Oper} {N : Nat} {env : Env} {K : Act → World → Prop}
theorem Row.own (h : Row T size v n xs s) (hw : ∀ p ∈ s, w.heap[p.1]? = some p.2) : w.ownsRow 0 T size v n xs := by
  refine ⟨h.len, ?_⟩
  rcases h.at_ with ⟨h1, h2, h3⟩ | ⟨g, cap, cur, h1, h2, h3, h4, h5, h6⟩
  · exact .inl ⟨h1, h2⟩
  · subst h2
    exact .inr ⟨g, cap, cur, h1, Nat.zero_le _, hw (g, _) (by simp), h3, h4, h5, h6⟩
theorem Row.slice (h : Row T size v n xs s) : ∃ A c, v = .slice A n c ∧ n ≤ c := by
  rcases h.at_ with ⟨h1, h2, h3⟩ | ⟨g, cap, cur, h1, h2, h3, h4, h5, h6⟩
  · subst h2; exact ⟨none, 0, h1, Nat.le_refl _⟩
  · exact ⟨_, _, h1, h3⟩
theorem of_own {v' : Value} {m : Nat} {ys : List Value} (h : w'.ownsRow 0 T size v' m ys) : ∃ s', Row T size v' m ys s' ∧ (∀ p ∈ s', w'.heap[p.1]? = some p.2 ∧ v'.ownBlock = some p.1) ∧ (s'.map (·.1)).Nodup := by
  rcases h.2 with ⟨rfl, rfl⟩ | ⟨g, cap, cur, rfl, hb, hg, h3, h4, h5, h6⟩
  · exact ⟨[], ⟨h.1, .inl ⟨rfl, rfl, rfl⟩⟩, by simp, by simp⟩
  · exact ⟨[(g, .cells cur T (0, 0))], ⟨h.1, .inr ⟨g, cap, cur, rfl, rfl, h3, h4, h5, h6⟩⟩, by simp [hg, Value.ownBlock], by simp⟩
theorem Row.block (h : Row T size v n xs s) : ∀ k, v.ownBlock = some k → k ∈ s.map (·.1) := by
  intro k hk
  rcases h.at_ with ⟨rfl, h2, h3⟩ | ⟨g, cap, cur, rfl, h2, _⟩
  · simp [Value.ownBlock] at hk
  · subst h2
    simp [Value.ownBlock] at hk
    simp [hk]
theorem Row.blocks (h : Row T size v n xs s) : ∀ k, k ∈ s.map (·.1) → v.ownBlock = some k := by
  intro k hk
  rcases h.at_ with ⟨rfl, h2, h3⟩ | ⟨g, cap, cur, rfl, h2, _⟩
  · subst h3; simp at hk
  · subst h2
    simp at hk
    simp [Value.ownBlock, hk]
/-- append: the row is segment i; what is appended lies anywhere. -/
theorem o_append {x y : Operand} {t e bytes m c d : Nat} {z : Value} {ad : Addr} {news : List Value} (i : Nat) (hE : EnvOk N env a) (hI : Inv w0 D ss w) (hd : o.dst = some d) (hN : Nat.blt d N = true)
    (ho : o.op = .call { callee := .builtin .append, args := #[x, y], argTypes := #[t, t] }) (hx : ev env x = some v) (hy : ev env y = some (.slice (some ad) m c)) (ht : P.underlying t = some (.slice e))
    (hinfo : (P.info? e).map (fun i => (i.zero, i.size, i.bytes)) = some (some z, size, bytes)) (hz : z.cells.size = size) (hsz : Nat.blt 0 size = true) (hi : ss[i]? = some s) (hR : Row e size v n xs s)
    (hl : news.length = m * size) (hnews : ∀ j u, news[j]? = some u → w.cell? (ad.add j) = some u) (h1 : ∀ u ∈ news, u.oneCell' = true)
    (hb : (n + m) * bytes ≤ 140737488355328) (hm : n + m ≤ 9223372036854775807)
    (k : ∀ v' s' w', Row e size v' (n + m) (xs ++ news) s' → Inv w0 D (ss.set i s') w' → ∀ a', EnvOk N ((d, v') :: env) a' → K a' w') : o.wp P a w K Q := by
  obtain ⟨inf, hi0, hzz⟩ := Option.map_eq_some_iff.1 hinfo
  simp only [Prod.mk.injEq] at hzz
  obtain ⟨v', w', hr, hown, hgrow, hnil, hat⟩ := run_append_own_at (P := P) w 0 t o.type e inf z size bytes ht hi0 hzz.1 hzz.2.1 hzz.2.2 hz (Nat.le_of_ble_eq_true hsz) v n xs (hR.own (hI.segs i hi)) ad m c news hl hnews h1 (by simpa [maxLen] using hm) hb (Nat.zero_le _)
  obtain ⟨s', hR', hs', hn'⟩ := of_own hown
  have hrun : (execOp a.eval o).run P w = .ok (.value v') w' := by
    simp only [execOp, ho, resolve, invoke, builtin, Sem.run_bind, Sem.run_pure, Result.andThen_ok, List.map_toArray, List.map_cons, List.map_nil, hE.eval hx, hE.eval hy, hr]
  have hI' : Inv w0 D (ss.set i s') w' := by
   refine hI.replace_at i hi hgrow.os hgrow.tape hgrow.output hgrow.size (fun b hb hm => ?_) (fun p hp => (hs' p hp).1) hn' (fun p hp => ?_)
   · exact hgrow.block b hb (fun e => hm (hR.block b e.symm))
   · have h2 := (hs' p hp).2
     rcases hat with hat | hat
     · rw [hat] at h2
       exact .inl (hR.block _ h2)
     · rw [hat] at h2
       injection h2 with h2
       exact .inr (by omega)
  exact o_val hrun (by rw [hd]; exact k v' s' w' hR' hI' _ (hE.put hN _))
theorem o_appendNil {x y : Operand} {t e d : Nat} (hE : EnvOk N env a) (hI : Inv w0 D ss w) (hd : o.dst = some d) (hN : Nat.blt d N = true)
    (ho : o.op = .call { callee := .builtin .append, args := #[x, y], argTypes := #[t, t] }) (hx : ev env x = some v) (hy : ev env y = some (.slice none 0 0)) (ht : P.underlying t = some (.slice e)) (hsome : (P.info? e).map (·.size) = some size)
    (hR : Row e size v n xs s) (hs : ∀ p ∈ s, w.heap[p.1]? = some p.2)
    (k : ∀ a', EnvOk N ((d, v) :: env) a' → K a' w) : o.wp P a w K Q := by
  obtain ⟨inf, hi0, rfl⟩ := Option.map_eq_some_iff.1 hsome
  have hrun := run_append_owned_none (P := P) (w := w) 0 t o.type e inf inf.size ht hi0 v n xs (hR.own hs)
  have hr : (execOp a.eval o).run P w = .ok (.value v) w := by
    simp [execOp, ho, resolve, invoke, builtin, hE.eval hx, hE.eval hy, hrun]
  exact o_val hr (by rw [hd]; exact k _ (hE.put hN _))
/-! ### literals -/
def fillS (place : Nat → Option (Nat × Nat)) (cells : Array Value) : List (Nat × Value) → Option (Array Value)
  | [] => some cells
  | (i, v) :: r => match place i with
    | none => none
    | some (off, size) => if Nat.beq v.cells.size size && Nat.ble (off + size) cells.size then fillS place (splice cells off v.cells.toList) r else none
theorem fold_splice : ∀ (vs : List Value) (cs : Array Value) (off j : Nat), (vs.zipIdx j).foldl (fun cs (x : Value × Nat) => cs.setIfInBounds (off + x.2) x.1) cs = splice cs (off + j) vs
  | [], cs, off, j => rfl
  | v :: r, cs, off, j => by
    simp only [List.zipIdx_cons, List.foldl_cons, splice]
    rw [fold_splice r _ off (j + 1), Nat.add_assoc]
theorem fill_of_S {place : Nat → Option (Nat × Nat)} : ∀ {parts : List (Nat × Value)} {cells cs : Array Value}, fillS place cells parts = some cs → Instr.fill place cells parts = some cs
  | [], cells, cs, h => h
  | (i, v) :: r, cells, cs, h => by
    simp only [fillS] at h
    simp only [Instr.fill]
    cases hp : place i with
    | none => rw [hp] at h; cases h
    | some q =>
      obtain ⟨off, size⟩ := q
      rw [hp] at h
      simp only at h ⊢
      split at h
      · rename_i hc
        simp only [Bool.and_eq_true] at hc
        have h1 := Nat.eq_of_beq_eq_true hc.1
        have h2 := Nat.le_of_ble_eq_true hc.2
        rw [if_neg (by rw [h1]; simp; omega)]
        have h3 : (v.cells.zipIdx.foldl (fun cs (x : Value × Nat) => cs.setIfInBounds (off + x.2) x.1) cells) = splice cells off v.cells.toList := by
          rw [← Array.foldl_toList, Array.toList_zipIdx, fold_splice]
          rfl
        have := fill_of_S h
        rw [← h3] at this
        exact this
      · cases h
theorem p_buildS {P : Program} {env : Env} {t : TypeId} {parts : Array (Nat × Operand)} {vs : List (Nat × Value)} {pl : Array (Nat × Nat)} {z cells : Array Value} (hv : parts.toList.map (fun p => (p.1, ev env p.2)) = vs.map (fun p => (p.1, some p.2)))
    (hb : ∀ vs, P.built t vs = Instr.fill (pl[·]?) z vs) (hf : fillS (pl[·]?) z vs = some cells) : PureOp P env (.build t parts) (.agg cells) :=
  p_build hv (by rw [hb]; exact fill_of_S hf)
theorem range_map (n : Nat) (f : Nat → Value) : (Array.range n).map f = ((List.range n).map f).toArray := by
  apply Array.ext_getElem?
  intro i
  simp [Array.getElem?_range, List.getElem?_range']
  by_cases h : i < n <;> simp [h, Array.getElem?_range, List.getElem?_range]
theorem o_lit {t e len size d : Nat} {parts : Array (Nat × Operand)} {vs : List (Nat × Value)} {z : Value} {cells : Array Value} {ss' : Nat → List Seg} (i : Nat) (hE : EnvOk N env a) (hI : Inv w0 D ss w) (hd : o.dst = some d) (hN : Nat.blt d N = true)
    (ho : o.op = .buildSlice t len parts) (hv : parts.toList.map (fun p => (p.1, ev env p.2)) = vs.map (fun p => (p.1, some p.2))) (ht : P.underlying t = some (.slice e))
    (hinfo : (P.info? e).map (fun i => (i.zero, i.size)) = some (some z, size)) (hsm : Nat.ble (len * size) 1000 = true)
    (hf' : fillS (fun i => some (i * size, size)) ((List.range (len * size)).map (fun i => z.cells[i % z.cells.size]!)).toArray vs = some cells)
    (hss : ∀ b, insAt i [(b, .cells cells e (0, 0))] ss = ss' b)
    (k : ∀ a' b w', EnvOk N ((d, .slice (some ⟨b, 0, none⟩) len len) :: env) a' → Inv w0 D (ss' b) w' → K a' w') : o.wp P a w K Q := by
  have key : ∀ (l : List (Nat × Operand)) (vs : List (Nat × Value)), l.map (fun p => (p.1, ev env p.2)) = vs.map (fun p => (p.1, some p.2)) → l.map (fun p => (p.1, a.eval p.2)) = vs := by
    intro l
    induction l with
    | nil => intro vs h; cases vs with
      | nil => rfl
      | cons _ _ => simp at h
    | cons p l ih => intro vs h; cases vs with
      | nil => simp at h
      | cons q vs =>
        simp only [List.map_cons, List.cons.injEq, Prod.mk.injEq] at h
        simp only [List.map_cons, ih vs h.2, hE.eval h.1.2, h.1.1]
  have hp : (parts.map fun (i, x) => (i, a.eval x)).toList = vs := by
    rw [Array.toList_map]
    exact key _ _ hv
  have hf := fill_of_S hf'
  obtain ⟨inf, hi0, hzz⟩ := Option.map_eq_some_iff.1 hinfo
  simp only [Prod.mk.injEq] at hzz
  obtain ⟨hz, rfl⟩ := hzz
  have hle := Nat.le_of_ble_eq_true hsm
  have hbig : ¬ len * inf.size > 2 ^ 24 := by omega
  have hrun : (Instr.buildSlice t len (parts.map fun (i, x) => (i, a.eval x))).run P w = .ok (.slice (some ⟨w.heap.size, 0, none⟩) len len) { w with heap := w.heap.push (.cells cells e (0, 0)) } := by
    by_cases h0 : len * inf.size = 0
    · have hf0 : Instr.fill (fun i => some (i * inf.size, inf.size)) #[] vs = some cells := by
        rw [h0] at hf; simpa using hf
      unfold Instr.buildSlice
      simp only [hp]
      have he : (Array.range 0).map (fun _ => (default : Value)) = #[] := by simp
      simp [run_underlying ht, sizeOf, typeInfo, hi0, h0, zeroValue]
      rw [he, hf0]
      simp [run_newRow]
    · unfold Instr.buildSlice
      simp only [hp]
      simp [run_underlying ht, sizeOf, typeInfo, hi0, hbig, h0, zeroValue, hz, range_map, hf, run_newRow]
  have hr : (execOp a.eval o).run P w = .ok (.value (.slice (some ⟨w.heap.size, 0, none⟩) len len)) { w with heap := w.heap.push (.cells cells e (0, 0)) } := by
    simp [execOp, ho, hrun]
  exact o_val hr (by rw [hd]; exact k _ w.heap.size _ (hE.put hN _) (hss _ ▸ hI.new_at i _))
end
/-! ### bytes -/
def RB (D : Sto) (v : Value) (bs : List Nat) : Prop :=
  ∃ A c, v = .slice A bs.length c ∧ bs.length ≤ c ∧ (∀ x ∈ bs, x < 256) ∧ (A = none → c = 0) ∧
    (bs ≠ [] → ∃ b off cs T fr, A = some ⟨b, off, none⟩ ∧ D b = some (.cells cs T fr) ∧ ∀ i x, bs[i]? = some x → cs[off + i]? = some (.int .u8 (x : Nat)))
theorem RB.mono {D D' : Sto} {v : Value} {bs : List Nat} (h : RB D v bs) (hD : Le D D') : RB D' v bs := by
  obtain ⟨A, c, h1, h2, h3, h4, h5⟩ := h
  refine ⟨A, c, h1, h2, h3, h4, fun hn => ?_⟩
  obtain ⟨b, off, cs, T, fr, h6, h7, h8⟩ := h5 hn
  exact ⟨b, off, cs, T, fr, h6, hD _ _ h7, h8⟩
theorem RB.nil (D : Sto) : RB D (.slice none 0 0) [] := ⟨none, 0, rfl, Nat.le_refl _, by simp, fun _ => rfl, fun h => absurd rfl h⟩
theorem RB.slice {D : Sto} {v : Value} {bs : List Nat} (h : RB D v bs) : ∃ A c, v = .slice A bs.length c ∧ bs.length ≤ c := by
  obtain ⟨A, c, h1, h2, _⟩ := h; exact ⟨A, c, h1, h2⟩
theorem RB.lt {D : Sto} {v : Value} {bs : List Nat} (h : RB D v bs) : ∀ x ∈ bs, x < 256 := by
  obtain ⟨A, c, h1, h2, h3, _⟩ := h; exact h3
theorem RB.at_ {D : Sto} {A : Option Addr} {n c : Nat} {bs : List Nat} (h : RB D (.slice A n c) bs) (hn : bs ≠ []) :
    ∃ b off cs T fr, A = some ⟨b, off, none⟩ ∧ D b = some (.cells cs T fr) ∧ ∀ i x, bs[i]? = some x → cs[off + i]? = some (.int .u8 (x : Nat)) := by
  obtain ⟨A', c', h1, h2, h3, h4, h5⟩ := h
  injection h1 with h1 _ _
  subst h1
  exact h5 hn
theorem RB.len {D : Sto} {A : Option Addr} {n c : Nat} {bs : List Nat} (h : RB D (.slice A n c) bs) : n = bs.length ∧ n ≤ c := by
  obtain ⟨A', c', h1, h2, _⟩ := h
  injection h1 with _ h3 h4
  subst h3; subst h4
  exact ⟨rfl, h2⟩
def bytesV (bs : List Nat) : List Value := bs.map fun x => .int .u8 (x : Nat)
theorem bytesV_get {bs : List Nat} {i x : Nat} (h : bs[i]? = some x) : (bytesV bs)[i]? = some (.int .u8 (x : Nat)) := by simp [bytesV, h]
/-- A row of bytes that is written no more. -/
theorem Row.shut_bytes {T n : Nat} {v : Value} {bs : List Nat} {s : Seg} {D : Sto} (h : Row T 1 v n (bytesV bs) s) (hb : ∀ x ∈ bs, x < 256) : RB (Sto.put D s) v bs := by
  have hl : bs.length = n := by have := h.len; simp [bytesV] at this; exact this
  rcases h.at_ with ⟨rfl, h2, h3⟩ | ⟨g, cap, cur, rfl, h2, h3, h4, h5, h6⟩
  · have : bs = [] := List.eq_nil_of_length_eq_zero (by omega)
    subst this; exact RB.nil _
  · subst h2
    refine ⟨some ⟨g, 0, none⟩, cap, by rw [hl], by omega, hb, by simp, fun _ => ⟨g, 0, cur, T, (0, 0), rfl, Sto.put_one _ _ _, fun i x hi => ?_⟩⟩
    have h7 : (cur.toList.take (n * 1))[i]? = some (.int .u8 (x : Nat)) := by rw [h6]; exact bytesV_get hi
    have hlt : i < bs.length := (List.getElem?_eq_some_iff.1 hi).1
    rw [List.getElem?_take_of_lt (by omega)] at h7
    simpa using h7
/-- Bytes of data, as what is appended wants them. -/
theorem RB.news {D : Sto} {c n : Nat} {bs : List Nat} {w0 w : World} {ss : List Seg} {ad : Addr} (h : RB D (.slice (some ad) n c) bs) (hI : Inv w0 D ss w) :
    (bytesV bs).length = n * 1 ∧ (∀ j u, (bytesV bs)[j]? = some u → w.cell? (ad.add j) = some u) ∧ (∀ u ∈ bytesV bs, u.oneCell' = true) := by
  obtain ⟨rfl, _⟩ := h.len
  refine ⟨by simp [bytesV], fun j u hj => ?_, fun u hu => ?_⟩
  · simp only [bytesV, List.getElem?_map, Option.map_eq_some_iff] at hj
    obtain ⟨x, hx, rfl⟩ := hj
    obtain ⟨b, off, cs, T, fr, h1, h2, h3⟩ := h.at_ (fun e => by subst e; simp at hx)
    injection h1 with h1
    subst h1
    rw [addr_add, cell_of (hI.data _ _ h2)]
    exact h3 j x hx
  · simp only [bytesV, List.mem_map] at hu
    obtain ⟨x, _, rfl⟩ := hu
    rfl
end Go.Proofs.YtbogbnkckofpdaaDoor.B
