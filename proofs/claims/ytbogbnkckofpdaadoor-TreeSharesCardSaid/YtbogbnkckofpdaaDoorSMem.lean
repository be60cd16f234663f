/- A program logic over the model: what is owned, what is written no more, and one lemma for each kind of step. -/
import Derived.Test.YtbogbnkckofpdaaDoorSSteps
import Derived.Maps.AppendAt
import Derived.Laws.AppendOwnNone
import Derived.Laws.Tables
namespace Go.Proofs.YtbogbnkckofpdaaDoor.B
open Go
set_option linter.unusedVariables false
set_option linter.unusedSimpArgs false
section
variable {w0 w w' : World} {D : Sto} {ss : List Seg}
/-- The first segment gives way to another one. -/
theorem Inv.replace {s s' : Seg} (h : Inv w0 D (s :: ss) w) (hos : w'.os = w.os) (htape : w'.tape = w.tape) (hout : w'.output = w.output) (hsize : w.heap.size ≤ w'.heap.size)
    (hkeep : ∀ b, b < w.heap.size → b ∉ s.map (·.1) → w'.heap[b]? = w.heap[b]?) (hnew : ∀ p ∈ s', w'.heap[p.1]? = some p.2) (hn : (s'.map (·.1)).Nodup)
    (hat : ∀ p ∈ s', p.1 ∈ s.map (·.1) ∨ w.heap.size ≤ p.1) : Inv w0 D (s' :: ss) w' := by
  have hd := h.drop
  have hnd := h.nodup
  simp only [List.flatten_cons, List.map_append] at hnd
  obtain ⟨h1, h2, h3⟩ := List.nodup_append.1 hnd
  have hsD : ∀ b, b ∈ s.map (·.1) → D b = none := fun b hb => by
    obtain ⟨p, hp, rfl⟩ := List.mem_map.1 hb
    exact h.apart p (by simp [hp])
  have hlt : ∀ b o, D b = some o → b < w.heap.size := fun b o hb => heap_lt (h.data b o hb)
  have hltO : ∀ p ∈ ss.flatten, p.1 < w.heap.size := fun p hp => heap_lt (hd.own p hp)
  refine ⟨hos.trans h.os, htape.trans h.tape, hout.trans h.output, Nat.le_trans h.size hsize, fun b o hb => ?_, fun p hp => ?_, fun p hp => ?_, ?_⟩
  · rw [hkeep b (hlt b o hb) (fun hm => by rw [hsD b hm] at hb; cases hb)]
    exact h.data b o hb
  · simp only [List.flatten_cons, List.mem_append] at hp
    rcases hp with hp | hp
    · exact hnew p hp
    · rw [hkeep p.1 (hltO p hp) (fun hm => h3 _ hm _ (List.mem_map_of_mem hp) rfl)]
      exact hd.own p hp
  · simp only [List.flatten_cons, List.mem_append] at hp
    rcases hp with hp | hp
    · rcases hat p hp with hm | hge
      · exact hsD _ hm
      · cases hD : D p.1 with
        | none => rfl
        | some o => have := hlt _ _ hD; omega
    · exact hd.apart p hp
  · simp only [List.flatten_cons, List.map_append]
    refine List.nodup_append.2 ⟨hn, h2, fun x hx y hy => ?_⟩
    intro e
    subst e
    obtain ⟨p, hp, rfl⟩ := List.mem_map.1 hx
    obtain ⟨q, hq, he⟩ := List.mem_map.1 hy
    rcases hat p hp with hm | hge
    · exact h3 _ hm _ hy rfl
    · have := hltO q hq
      omega
theorem set_perm {α : Type} {s x : α} : ∀ (i : Nat) (l : List α), l[i]? = some s → (x :: l.eraseIdx i).Perm (l.set i x)
  | _, [], h => by simp at h
  | 0, y :: r, h => by simp
  | i + 1, y :: r, h => by
    have ih := set_perm (x := x) i r (by simpa using h)
    simp only [List.eraseIdx_cons_succ, List.set_cons_succ]
    exact (List.Perm.swap y x _).trans (ih.cons y)
theorem Inv.replace_at {s s' : Seg} (i : Nat) (h : Inv w0 D ss w) (hi : ss[i]? = some s) (hos : w'.os = w.os) (htape : w'.tape = w.tape) (hout : w'.output = w.output) (hsize : w.heap.size ≤ w'.heap.size)
    (hkeep : ∀ b, b < w.heap.size → b ∉ s.map (·.1) → w'.heap[b]? = w.heap[b]?) (hnew : ∀ p ∈ s', w'.heap[p.1]? = some p.2) (hn : (s'.map (·.1)).Nodup)
    (hat : ∀ p ∈ s', p.1 ∈ s.map (·.1) ∨ w.heap.size ≤ p.1) : Inv w0 D (ss.set i s') w' :=
  ((h.perm (erase_perm i ss hi).flatten).replace hos htape hout hsize hkeep hnew hn hat).perm (set_perm i ss hi).symm.flatten
def insAt {α : Type} : Nat → α → List α → List α
  | 0, x, l => x :: l
  | _ + 1, x, [] => [x]
  | i + 1, x, y :: r => y :: insAt i x r
theorem insAt_perm {α : Type} (x : α) : ∀ (i : Nat) (l : List α), (insAt i x l).Perm (x :: l)
  | 0, l => List.Perm.refl _
  | _ + 1, [] => List.Perm.refl _
  | i + 1, y :: r => ((insAt_perm x i r).cons y).trans (List.Perm.swap x y r)
theorem Inv.new_at (i : Nat) (h : Inv w0 D ss w) (o : Obj) : Inv w0 D (insAt i [(w.heap.size, o)] ss) { w with heap := w.heap.push o } :=
  (h.new o).perm (insAt_perm _ i ss).flatten
theorem Inv.seg {b : Nat} {o : Obj} (i : Nat) (h : Inv w0 D ss w) (hi : ss[i]? = some [(b, o)]) : w.heap[b]? = some o :=
  h.own (b, o) (List.mem_flatten.2 ⟨_, List.mem_of_getElem? hi, by simp⟩)
theorem Inv.segs {s : Seg} (i : Nat) (h : Inv w0 D ss w) (hi : ss[i]? = some s) : ∀ p ∈ s, w.heap[p.1]? = some p.2 := fun p hp =>
  h.own p (List.mem_flatten.2 ⟨_, List.mem_of_getElem? hi, hp⟩)
theorem Inv.turn_at {b : Nat} {o o' : Obj} (i : Nat) (h : Inv w0 D ss w) (hi : ss[i]? = some [(b, o)]) : Inv w0 D (ss.set i [(b, o')]) { w with heap := w.heap.setIfInBounds b o' } := by
  have hb := h.seg i hi
  refine h.replace_at i hi rfl rfl rfl (by simp) (fun k hk hm => ?_) (fun p hp => ?_) (by simp) (fun p hp => ?_)
  · simp only [List.map_cons, List.map_nil, List.mem_singleton] at hm
    exact Array.getElem?_setIfInBounds_ne (fun e => hm e.symm)
  · simp only [List.mem_singleton] at hp; subst hp
    exact Array.getElem?_setIfInBounds_self_of_lt (heap_lt hb)
  · simp only [List.mem_singleton] at hp; subst hp
    exact .inl (by simp)
end
section
variable {P : Program} {ops : Array Oper} {Q : Exit → Act → World → Prop} {a : Act} {w0 w w' : World} {D : Sto} {ss : List Seg} {rest : List Oper} {o : Oper} {N : Nat} {env : Env}
/-! ### loads -/
def isScal (P : Program) (t : TypeId) : Bool := match P.underlying t with
  | some (.struct _) => false
  | some (.array _ _) => false
  | some _ => true
  | none => false
def aggSize (P : Program) (t : TypeId) : Option Nat := match P.underlying t with
  | some (.struct _) => (P.info? t).map (·.size)
  | some (.array _ _) => (P.info? t).map (·.size)
  | _ => none
def RunOp (P : Program) (env : Env) (w : World) (op : Op) (v : Value) : Prop := ∀ (N : Nat) (a : Act) (o : Oper), EnvOk N env a → o.op = op → (execOp a.eval o).run P w = .ok (.value v) w
theorem PureOp.run {op : Op} {v : Value} (h : PureOp P env op v) : RunOp P env w op v := fun N a o => h N a w o
theorem isAgg_scal {t : TypeId} (h : isScal P t = true) : ∀ w, (isAgg t).run P w = .ok false w := fun w => by
  unfold isScal at h
  split at h <;> try cases h
  rename_i d h1 h2 hd
  cases d <;> first | exact absurd rfl (h1 _) | exact absurd rfl (h2 _ _) | simp [isAgg, underlying, program, hd, Sem.run]
theorem isAgg_agg {t : TypeId} {n : Nat} (h : aggSize P t = some n) : ∀ w, (isAgg t).run P w = .ok true w ∧ (sizeOf t).run P w = .ok n w := fun w => by
  unfold aggSize at h
  split at h <;> try cases h
  all_goals
    rename_i hd
    obtain ⟨i, hi, rfl⟩ := Option.map_eq_some_iff.1 h
    simp [isAgg, underlying, program, hd, Sem.run, sizeOf, typeInfo, hi]
theorem addr_add (b off n : Nat) : (⟨b, off, none⟩ : Addr).add n = ⟨b, off + n, none⟩ := by unfold Addr.add; split <;> simp_all
theorem cell_of {b : Nat} {cs : Array Value} {T : TypeId} {fr : Nat × Nat} (hc : w.heap[b]? = some (.cells cs T fr)) (i : Nat) : w.cell? ⟨b, i, none⟩ = cs[i]? := by
  simp [World.cell?, hc]
theorem run_load_at {ad : Addr} {v : Value} (h : w.cell? ad = some v) : (load ad).run P w = .ok v w := by
  simp [load, Sem.run, h]
theorem loadCells_row {b off : Nat} {cs : Array Value} {T : TypeId} {fr : Nat × Nat} (hc : w.heap[b]? = some (.cells cs T fr)) : ∀ (n i : Nat) (acc : Array Value), off + i + n ≤ cs.size →
    (loadCellsFrom ⟨b, off, none⟩ i n acc).run P w = .ok (acc ++ cs.extract (off + i) (off + i + n)) w
  | 0, i, acc, _ => by
    have : cs.extract (off + i) (off + i + 0) = #[] := by simp; omega
    simp only [loadCellsFrom, this]
    simp
  | n + 1, i, acc, h => by
    have hlt : off + i < cs.size := by omega
    have h1 : (load ((⟨b, off, none⟩ : Addr).add i)).run P w = .ok cs[off + i] w := run_load_at (by rw [addr_add, cell_of hc, Array.getElem?_eq_getElem hlt])
    have ih := loadCells_row (off := off) hc n (i + 1) (acc.push cs[off + i]) (by omega)
    simp only [loadCellsFrom, Sem.run_bind, h1, Result.andThen_ok, ih]
    congr 1
    apply Array.ext_getElem?
    intro j
    simp only [Array.getElem?_append, Array.size_push, Array.getElem?_push, Array.getElem?_extract]
    by_cases h1 : j < acc.size
    · simp [h1, show j < acc.size + 1 by omega, show j ≠ acc.size by omega]
    · by_cases h2 : j = acc.size
      · subst h2
        simp [hlt]
        omega
      · simp [h1, show ¬ j < acc.size + 1 by omega]
        have e1 : off + (i + 1) + (j - (acc.size + 1)) = off + i + (j - acc.size) := by omega
        rw [e1]
        have e2 : (j - (acc.size + 1) < min (off + (i + 1) + n) cs.size - (off + (i + 1))) ↔ (j - acc.size < min (off + i + (n + 1)) cs.size - (off + i)) := by omega
        simp only [e2]
theorem r_load {t : TypeId} {x : Operand} {b off : Nat} {cs : Array Value} {T : TypeId} {fr : Nat × Nat} {v : Value} (hx : ev env x = some (.pointer (some ⟨b, off, none⟩))) (ht : isScal P t = true)
    (hc : w.heap[b]? = some (.cells cs T fr)) (hv : cs[off]? = some v) : RunOp P env w (.load t x) v := fun _ a o hE ho => by
  have h1 := hE.eval hx
  have h2 : (load ⟨b, off, none⟩).run P w = .ok v w := run_load_at (by rw [cell_of hc, hv])
  simp only [execOp, ho, h1, Instr.loadAt, Instr.sureAddr, loadVar, Sem.run_bind, Sem.run_pure, isAgg_scal ht w, Result.andThen_ok, Bool.false_eq_true, if_false, h2]
theorem r_loadA {t : TypeId} {x : Operand} {b off n : Nat} {cs vs : Array Value} {T : TypeId} {fr : Nat × Nat} (hx : ev env x = some (.pointer (some ⟨b, off, none⟩))) (ht : aggSize P t = some n)
    (hc : w.heap[b]? = some (.cells cs T fr)) (hle : off + n ≤ cs.size) (hv : cs.extract off (off + n) = vs) : RunOp P env w (.load t x) (.agg vs) := fun _ a o hE ho => by
  have h1 := hE.eval hx
  have h3 := isAgg_agg ht w
  have h2 := loadCells_row (P := P) (off := off) hc n 0 #[] (by omega)
  simp only [Nat.add_zero, Array.empty_append, hv] at h2
  simp only [execOp, ho, h1, Instr.loadAt, Instr.sureAddr, loadVar, Sem.run_bind, Sem.run_pure, h3.1, h3.2, Result.andThen_ok, if_true, loadCells, h2]
/-! ### stores into what is owned -/
def splice (cs : Array Value) (off : Nat) : List Value → Array Value
  | [] => cs
  | v :: r => splice (cs.setIfInBounds off v) (off + 1) r
theorem size_splice : ∀ (vs : List Value) (cs : Array Value) (off : Nat), (splice cs off vs).size = cs.size
  | [], _, _ => rfl
  | v :: r, cs, off => by simp [splice, size_splice r]
theorem heap_ext {w : World} {h h' : Array Obj} (he : ∀ k : Nat, h[k]? = h'[k]?) : ({ w with heap := h } : World) = { w with heap := h' } := by
  rw [Array.ext_getElem? he]
theorem setCell_block {b : Nat} {cs : Array Value} {T : TypeId} {fr : Nat × Nat} (hc : w.heap[b]? = some (.cells cs T fr)) (i : Nat) (v : Value) :
    w.setCell ⟨b, i, none⟩ v = { w with heap := w.heap.setIfInBounds b (.cells (cs.setIfInBounds i v) T fr) } := by
  unfold World.setCell
  refine heap_ext fun k => ?_
  rw [Array.getElem?_modify]
  by_cases hk : b = k
  · subst hk
    rw [Array.getElem?_setIfInBounds_self_of_lt (heap_lt hc)]
    simp [hc]
  · rw [Array.getElem?_setIfInBounds_ne hk]
    simp [hk]
theorem set_self {b : Nat} {o : Obj} (hc : w.heap[b]? = some o) : ({ w with heap := w.heap.setIfInBounds b o } : World) = w := by
  have : w = { w with heap := w.heap } := rfl
  conv => rhs; rw [this]
  refine heap_ext fun k => ?_
  by_cases hk : b = k
  · subst hk
    rw [Array.getElem?_setIfInBounds_self_of_lt (heap_lt hc), hc]
  · rw [Array.getElem?_setIfInBounds_ne hk]
theorem run_store_cell {b i : Nat} {cs : Array Value} {T : TypeId} {v : Value} (hc : w.heap[b]? = some (.cells cs T (0, 0))) (hi : i < cs.size) (h1 : v.oneCell' = true) :
    (store ⟨b, i, none⟩ v).run P w = .ok () { w with heap := w.heap.setIfInBounds b (.cells (cs.setIfInBounds i v) T (0, 0)) } := by
  have hcell : w.cell? ⟨b, i, none⟩ = some cs[i] := by rw [cell_of hc, Array.getElem?_eq_getElem hi]
  have hfro : w.frozen? ⟨b, i, none⟩ = false := by simp [World.frozen?, hc]
  rw [run_store P w _ v _ h1, hcell]
  simp [hfro, setCell_block hc]
theorem set_set (w : World) (b : Nat) (o o' : Obj) : ({ ({ w with heap := w.heap.setIfInBounds b o } : World) with heap := ({ w with heap := w.heap.setIfInBounds b o } : World).heap.setIfInBounds b o' } : World) = { w with heap := w.heap.setIfInBounds b o' } := by
  simp
theorem run_storeCells_off {b : Nat} {T : TypeId} : ∀ (vs : List Value) (off i : Nat) (cs : Array Value) (w : World), w.heap[b]? = some (.cells cs T (0, 0)) → off + i + vs.length ≤ cs.size → (∀ v ∈ vs, v.oneCell' = true) →
    (storeCells ⟨b, off, none⟩ vs i).run P w = .ok () { w with heap := w.heap.setIfInBounds b (.cells (splice cs (off + i) vs) T (0, 0)) }
  | [], off, i, cs, w, hc, _, _ => by
    simp only [storeCells, splice]
    rw [set_self hc]
    rfl
  | v :: r, off, i, cs, w, hc, hl, h1 => by
    have hst := run_store_cell (P := P) hc (i := off + i) (by simp at hl; omega) (h1 v (by simp))
    have hc' : ({ w with heap := w.heap.setIfInBounds b (.cells (cs.setIfInBounds (off + i) v) T (0, 0)) } : World).heap[b]? = some (.cells (cs.setIfInBounds (off + i) v) T (0, 0)) :=
      Array.getElem?_setIfInBounds_self_of_lt (heap_lt hc)
    have ih := run_storeCells_off (b := b) (T := T) r off (i + 1) _ _ hc' (by simp at hl ⊢; omega) (fun x hx => h1 x (by simp [hx]))
    simp only [storeCells, Sem.run_bind, addr_add, hst, Result.andThen_ok, ih, splice]
    rw [set_set, show off + (i + 1) = off + i + 1 by omega]
variable {K : Act → World → Prop}
theorem o_val {v : Value} (hr : (execOp a.eval o).run P w = .ok (.value v) w') (k : K (a.put o.dst v) w') : o.wp P a w K Q := by
  unfold Oper.wp
  rw [hr]
  exact k
theorem o_skip (hr : (execOp a.eval o).run P w = .ok .skip w') (k : K (a.put o.dst undef) w') : o.wp P a w K Q := by
  unfold Oper.wp
  rw [hr]
  exact k
/-- At a list of operations. -/
theorem l_step (hg : o.guard = none) (h : o.wp P a w (wpList P ops Q rest) Q) : wpList P ops Q (o :: rest) a w := by
  unfold wpList
  rw [if_pos (by simp [Region.wanted, hg])]
  exact .inl h
/-- A store: block b is segment i. -/
theorem o_store {t : TypeId} {x y : Operand} {b off : Nat} {cs cs' : Array Value} {T : TypeId} {v : Value} {ss' : List Seg} (i : Nat) (hE : EnvOk N env a) (hI : Inv w0 D ss w) (hd : o.dst = none) (ho : o.op = .store t x y)
    (hx : ev env x = some (.pointer (some ⟨b, off, none⟩))) (hy : ev env y = some v) (hi : ss[i]? = some [(b, .cells cs T (0, 0))]) (hsz : (P.info? t).map (·.size) = some v.cells.size)
    (h1 : v.cells.all (·.oneCell') = true) (hle : Nat.ble (off + v.cells.size) cs.size = true) (hcs : splice cs off v.cells.toList = cs') (hss : ss.set i [(b, .cells cs' T (0, 0))] = ss')
    (k : ∀ w', Inv w0 D ss' w' → K a w') : o.wp P a w K Q := by
  subst hcs; subst hss
  have hc := hI.seg i hi
  have h := run_storeCells_off (P := P) v.cells.toList off 0 cs w hc (by have := Nat.le_of_ble_eq_true hle; simpa using this) (fun u hu => (Array.all_eq_true_iff_forall_mem.1 h1) u (by simpa using hu))
  obtain ⟨inf, hinf, hs⟩ := Option.map_eq_some_iff.1 hsz
  have hrun : (execOp a.eval o).run P w = .ok .skip { w with heap := w.heap.setIfInBounds b (.cells (splice cs off v.cells.toList) T (0, 0)) } := by
    simp only [Nat.add_zero] at h
    simp [execOp, ho, hE.eval hx, hE.eval hy, Instr.storeAt, Instr.sureAddr, storeVar, sizeOf, typeInfo, hinf, hs, h]
  refine o_skip hrun ?_
  rw [hd]
  exact k _ (hI.turn_at i hi)
/-! ### new blocks -/
theorem run_newRow {t : TypeId} {cs : Array Value} : (newRow t cs).run P w = .ok ⟨w.heap.size, 0, none⟩ { w with heap := w.heap.push (.cells cs t (0, 0)) } := by
  simp [newRow, newObj, Sem.run]
theorem o_box {t : TypeId} {x : Operand} {d : Nat} {v : Value} {cs : Array Value} {ss' : Nat → List Seg} (i : Nat) (hE : EnvOk N env a) (hI : Inv w0 D ss w) (hd : o.dst = some d) (hN : Nat.blt d N = true) (ho : o.op = .box t x)
    (hx : ev env x = some v) (hcs : v.cells = cs) (hss : ∀ b, insAt i [(b, .cells cs t (0, 0))] ss = ss' b)
    (k : ∀ a' b w', EnvOk N ((d, .pointer (some ⟨b, 0, none⟩)) :: env) a' → Inv w0 D (ss' b) w' → K a' w') : o.wp P a w K Q := by
  subst hcs
  have hrun : (execOp a.eval o).run P w = .ok (.value (.pointer (some ⟨w.heap.size, 0, none⟩))) { w with heap := w.heap.push (.cells v.cells t (0, 0)) } := by
    simp [execOp, ho, hE.eval hx, Instr.box, newVar, run_newRow]
  exact o_val hrun (by rw [hd]; exact k _ w.heap.size _ (hE.put hN _) (hss _ ▸ hI.new_at i _))
theorem o_alloc {t : TypeId} {d : Nat} {z : Value} {cs : Array Value} {ss' : Nat → List Seg} (i : Nat) (hE : EnvOk N env a) (hI : Inv w0 D ss w) (hd : o.dst = some d) (hN : Nat.blt d N = true) (ho : o.op = .alloc t)
    (hz : (P.info? t).bind (·.zero) = some z) (hcs : z.cells = cs) (hss : ∀ b, insAt i [(b, .cells cs t (0, 0))] ss = ss' b)
    (k : ∀ a' b w', EnvOk N ((d, .pointer (some ⟨b, 0, none⟩)) :: env) a' → Inv w0 D (ss' b) w' → K a' w') : o.wp P a w K Q := by
  subst hcs
  obtain ⟨inf, hinf, hz'⟩ := Option.bind_eq_some_iff.1 hz
  have hrun : (execOp a.eval o).run P w = .ok (.value (.pointer (some ⟨w.heap.size, 0, none⟩))) { w with heap := w.heap.push (.cells z.cells t (0, 0)) } := by
    simp [execOp, ho, Instr.alloc, zeroValue, typeInfo, hinf, hz', newVar, run_newRow]
  exact o_val hrun (by rw [hd]; exact k _ w.heap.size _ (hE.put hN _) (hss _ ▸ hI.new_at i _))
theorem p_build {t : TypeId} {parts : Array (Nat × Operand)} {vs : List (Nat × Value)} {cells : Array Value} (hv : parts.toList.map (fun p => (p.1, ev env p.2)) = vs.map (fun p => (p.1, some p.2))) (hb : P.built t vs = some cells) :
    PureOp P env (.build t parts) (.agg cells) := fun _ a w o hE ho => by
  have key : ∀ (l : List (Nat × Operand)) (vs : List (Nat × Value)), l.map (fun p => (p.1, ev env p.2)) = vs.map (fun p => (p.1, some p.2)) → l.map (fun p => (p.1, a.eval p.2)) = vs := by
    intro l
    induction l with
    | nil => intro vs h; cases vs with
      | nil => rfl
      | cons _ _ => simp at h
    | cons p l ih => intro vs h; cases vs with
      | nil => simp at h
      | cons q vs =>
        simp only [List.map_cons, List.cons.injEq, Prod.mk.injEq] at h
        simp only [List.map_cons, ih vs h.2, hE.eval h.1.2, h.1.1]
  have h : (parts.map fun (i, x) => (i, a.eval x)).toList = vs := by
    rw [Array.toList_map]
    exact key _ _ hv
  have hr := run_build (P := P) w t (parts.map fun (i, x) => (i, a.eval x)) cells (by rw [h]; exact hb)
  simp only [execOp, ho, Sem.run_bind, hr, Result.andThen_ok, Sem.run_pure]
end
end Go.Proofs.YtbogbnkckofpdaaDoor.B
