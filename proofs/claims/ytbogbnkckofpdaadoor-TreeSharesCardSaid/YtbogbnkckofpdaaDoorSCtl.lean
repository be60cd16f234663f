/- A program logic over the model: what is owned, what is written no more, and one lemma for each kind of step. -/
import Derived.Test.YtbogbnkckofpdaaDoorSMem
namespace Go.Proofs.YtbogbnkckofpdaaDoor.B
open Go
set_option linter.unusedVariables false
set_option linter.unusedSimpArgs false
section
variable {P : Program} {ops : Array Oper} {Q : Exit → Act → World → Prop} {a : Act} {w0 w w' : World} {D : Sto} {ss : List Seg} {rest : List Oper} {o : Oper} {N : Nat} {env : Env} {K : Act → World → Prop}
/-! ### calls -/
def Ret (R : Value → World → Prop) : Ending → World → Prop := fun e w => ∃ r, e = .returned r ∧ R r w
def enters (P : Program) (f : FuncId) : Bool := match P.funcs[f]? with
  | some fn => fn.name != "runtime.NumGoroutine" && fn.body.isSome
  | none => false
theorem args_of {xs : Array Operand} {vs : Array Value} (hE : EnvOk N env a) (hv : xs.toList.map (ev env) = vs.toList.map some) : xs.map a.eval = vs := by
  have key : ∀ (l : List Operand) (vs : List Value), l.map (ev env) = vs.map some → l.map a.eval = vs := by
    intro l
    induction l with
    | nil => intro vs h; cases vs with
      | nil => rfl
      | cons _ _ => simp at h
    | cons p l ih => intro vs h; cases vs with
      | nil => simp at h
      | cons q vs =>
        simp only [List.map_cons, List.cons.injEq] at h
        simp only [List.map_cons, ih vs h.2, hE.eval h.1]
  have h := key _ _ hv
  rw [← Array.toList_map] at h
  exact Array.toList_inj.1 h
theorem callFunc_enters {f : FuncId} {vs : Array Value} (hf : enters P f = true) : (callFunc f vs).run P w = .ok (.enter f vs) w := by
  unfold enters at hf
  split at hf
  · rename_i fn hfn
    simp only [Bool.and_eq_true, bne_iff_ne, ne_eq] at hf
    have h2 : fn.body.isNone = false := by cases hb : fn.body <;> simp [hb] at hf ⊢
    have h3 : fn.body ≠ none := fun e => by rw [e] at h2; cases h2
    simp [callFunc, program, Sem.run, hfn, hf.1, h3]
  · cases hf
theorem upon_ret {f : FuncId} {vs : Array Value} {R : Value → World → Prop} (hrun : (execOp a.eval o).run P w = .ok (.enter f vs) w) (hc : Calls P f vs w (Ret R))
    (k : ∀ r w', R r w' → K (a.put o.dst r) w') : o.wp P a w K Q := by
  unfold Oper.wp
  rw [hrun, Oper.upon_enter]
  refine hc.mono fun e w' he => ?_
  obtain ⟨r, rfl, hr⟩ := he
  exact k r w' hr
theorem o_call {f : FuncId} {xs : Array Operand} {ts : Array TypeId} {vs : Array Value} {d : Nat} {R : Value → World → Prop} (hE : EnvOk N env a) (hd : o.dst = some d) (hN : Nat.blt d N = true)
    (ho : o.op = .call { callee := .value (.func f), args := xs, argTypes := ts }) (hv : xs.toList.map (ev env) = vs.toList.map some) (hf : enters P f = true) (hc : Calls P f vs w (Ret R))
    (k : ∀ r w', R r w' → ∀ a', EnvOk N ((d, r) :: env) a' → K a' w') : o.wp P a w K Q := by
  have hargs := args_of hE hv
  have hrun : (execOp a.eval o).run P w = .ok (.enter f vs) w := by
    simp [execOp, ho, resolve, Act.eval, Deferred.ofValue, invoke, hargs, callFunc_enters hf]
  exact upon_ret hrun hc fun r w' hr => k r w' hr _ (hd ▸ hE.put hN r)
/-- A call of a function value. -/
theorem o_callv {x : Operand} {f : FuncId} {first captured : Array Value} {xs : Array Operand} {ts : Array TypeId} {vs us : Array Value} {d : Nat} {R : Value → World → Prop} (hE : EnvOk N env a) (hd : o.dst = some d) (hN : Nat.blt d N = true)
    (ho : o.op = .call { callee := .value x, args := xs, argTypes := ts }) (hx : ev env x = some (.func (.func f) first captured)) (hv : xs.toList.map (ev env) = vs.toList.map some) (hu : first ++ vs ++ captured = us)
    (hf : enters P f = true) (hc : Calls P f us w (Ret R))
    (k : ∀ r w', R r w' → ∀ a', EnvOk N ((d, r) :: env) a' → K a' w') : o.wp P a w K Q := by
  subst hu
  have hargs := args_of hE hv
  have hrun : (execOp a.eval o).run P w = .ok (.enter f (first ++ vs ++ captured)) w := by
    simp [execOp, ho, resolve, hE.eval hx, Deferred.ofValue, invoke, hargs, callFunc_enters hf]
  exact upon_ret hrun hc fun r w' hr => k r w' hr _ (hd ▸ hE.put hN r)
theorem iff_t {p : Prop} (h : true = true ↔ p) : p := h.1 rfl
theorem iff_f {p : Prop} (h : false = true ↔ p) : ¬ p := fun hp => Bool.noConfusion (h.2 hp)
/-- The first segment goes back to its place. -/
theorem Inv.put_back {s : Seg} (i : Nat) (h : Inv w0 D (s :: ss) w) : Inv w0 D (insAt i s ss) w := h.perm (insAt_perm s i ss).flatten
/-! ### control -/
theorem then_normal {next : Act → World → Prop} (h : next a w) : Exit.then next Q .normal a w := h
theorem then_ret {next : Act → World → Prop} (h : Q .ret a w) : Exit.then next Q .ret a w := h
theorem then_exit {next : Act → World → Prop} {id : Nat} (h : Q (.exit id) a w) : Exit.then next Q (.exit id) a w := h
theorem blk_normal {id : Nat} (h : Q .normal a w) : Exit.inBlock id Q .normal a w := h
theorem blk_ret {id : Nat} (h : Q .ret a w) : Exit.inBlock id Q .ret a w := h
theorem blk_same {id : Nat} (h : Q .normal a w) : Exit.inBlock id Q (.exit id) a w := by simp [Exit.inBlock, h]
theorem c_true {c : Operand} {x y : Code} (hE : EnvOk N env a) (hc : ev env c = some (.bool true)) (h : x.wp P Q a w) : (Code.cond c x y).wp P Q a w := wp_cond_true (hE.eval hc) h
theorem c_false {c : Operand} {x y : Code} (hE : EnvOk N env a) (hc : ev env c = some (.bool false)) (h : y.wp P Q a w) : (Code.cond c x y).wp P Q a w := wp_cond_false (hE.eval hc) h
/-- A loop: x: what the round begins with. -/
theorem c_loop {X : Type} {c : Code} (en : X → Env) (W : X → World → Prop) (m : X → Nat) (x0 : X) (hE : EnvOk N (en x0) a) (hW : W x0 w)
    (round : ∀ x a w, EnvOk N (en x) a → W x w → c.wp P (Exit.then (fun a' w' => ∃ x', EnvOk N (en x') a' ∧ W x' w' ∧ m x' < m x) Q) a w) : (Code.loop c).wp P Q a w := by
  intro b k cs
  have key : ∀ n x a w, m x = n → EnvOk N (en x) a → W x w →
      ∃ e a' w', Q e a' w' ∧ Arrives P (lone (b.at a (.code c :: .inLoop c :: k)) cs w) b k cs e a' w' := by
    intro n
    induction n using Nat.strongRecOn with
    | _ n ih =>
      intro x a w hn hE hW
      obtain ⟨e, a₁, w₁, hq, harr⟩ := round x a w hE hW b (.inLoop c :: k) cs
      cases e with
      | normal =>
        obtain ⟨x', hE', hW', hlt⟩ := hq
        obtain ⟨e₂, a₂, w₂, hq₂, harr₂⟩ := ih (m x') (hn ▸ hlt) x' a₁ w₁ rfl hE' hW'
        exact ⟨e₂, a₂, w₂, hq₂, .of_steps (Steps.trans harr (.one step_inLoop)) harr₂⟩
      | exit id => exact ⟨_, a₁, w₁, hq, .pass (x := .inLoop c) rfl (fun _ _ => .inl (by simp)) harr⟩
      | goto l => exact ⟨_, a₁, w₁, hq, .pass (x := .inLoop c) rfl (fun _ _ => .inl (by simp)) harr⟩
      | ret => exact ⟨_, a₁, w₁, hq, .pass (x := .inLoop c) rfl (fun _ _ => .inl (by simp)) harr⟩
      | panic ch => exact ⟨_, a₁, w₁, hq, .pass (x := .inLoop c) rfl (fun _ _ => .inl (by simp)) harr⟩
      | outgrown => exact ⟨_, a₁, w₁, hq, .pass (x := .inLoop c) rfl (fun _ _ => .inl (by simp)) harr⟩
  obtain ⟨e, a', w', hq, harr⟩ := key _ x0 a w rfl hE hW
  exact ⟨e, a', w', hq, .of_steps (.one step_loop) harr⟩
def numbered : Nat → List Value → Env
  | _, [] => []
  | i, v :: r => (i, v) :: numbered (i + 1) r
theorem look_numbered : ∀ (vs : List Value) (i t : Nat) (v : Value), look (numbered i vs) t = some v → i ≤ t ∧ vs[t - i]? = some v
  | [], i, t, v, h => by simp [numbered, look] at h
  | u :: r, i, t, v, h => by
    simp only [numbered, look_cons] at h
    split at h
    · rename_i e; subst e; simpa using h
    · rename_i e
      obtain ⟨h1, h2⟩ := look_numbered r (i + 1) t v h
      refine ⟨by omega, ?_⟩
      rw [show t - i = (t - (i + 1)) + 1 by omega]
      simpa using h2
theorem enter {f : FuncId} {fn : Func} {c : Code} {vs : Array Value} {R : Ending → World → Prop} (hf : P.funcs[f]? = some fn) (hb : fn.body = some c) (hn : fn.ntmps = N) (hs : Nat.ble vs.size N = true)
    (h : ∀ a, EnvOk N (numbered 0 vs.toList) a → c.wp P (bodyPost P fn R) a w) : Calls P f vs w R := by
  have hle := Nat.le_of_ble_eq_true hs
  refine calls_of_wp hf hb (h _ ⟨rfl, by simp [hn]; omega, fun t v ht => ?_⟩)
  obtain ⟨_, h2⟩ := look_numbered _ 0 t v ht
  have h3 : vs[t]? = some v := by simpa using h2
  rw [Array.getElem?_append_left (Array.getElem?_eq_some_iff.1 h3).1]
  exact h3
theorem look_at (hE : EnvOk N env a) {t : Nat} {v : Value} (h : look env t = some v) : a.tmps.getD t undef = v := by
  rw [Array.getD_eq_getD_getElem?, hE.get t v h]; rfl
theorem look_at' (hE : EnvOk N env a) {t : Nat} {v : Value} (h : look env t = some v) : a.tmps[t]?.getD undef = v := by
  rw [hE.get t v h]; rfl
section
variable {fn : Func} {R : Value → World → Prop}
theorem ret0 (hr : fn.results = #[]) (hE : EnvOk N env a) (h : R (.tuple #[]) w) : bodyPost P fn (Ret R) .normal a w :=
  ⟨hE.defers, _, results_none hr _ _ _, _, rfl, h⟩
theorem ret1 {t : Nat} {v : Value} (hr : fn.results = #[.tmp t]) (hE : EnvOk N env a) (hv : look env t = some v) (h : R v w) : bodyPost P fn (Ret R) .ret a w :=
  ⟨hE.defers, _, results_tmp hr _ _ _, _, rfl, by rw [look_at hE hv]; exact h⟩
theorem ret2 {t u : Nat} {v v' : Value} (hr : fn.results = #[.tmp t, .tmp u]) (hE : EnvOk N env a) (hv : look env t = some v) (hv' : look env u = some v') (h : R (.tuple #[v, v']) w) : bodyPost P fn (Ret R) .ret a w :=
  ⟨hE.defers, _, results_tmp2 hr _ _ _, _, rfl, by rw [look_at hE hv, look_at hE hv']; exact h⟩
theorem ret3 {t u s : Nat} {v v' v'' : Value} (hr : fn.results = #[.tmp t, .tmp u, .tmp s]) (hE : EnvOk N env a) (hv : look env t = some v) (hv' : look env u = some v') (hv'' : look env s = some v'') (h : R (.tuple #[v, v', v'']) w) : bodyPost P fn (Ret R) .ret a w :=
  ⟨hE.defers, .tuple #[v, v', v''], by simp [results, hr, look_at' hE hv, look_at' hE hv', look_at' hE hv''], _, rfl, h⟩
theorem run_loadVar_agg {t : TypeId} {b off n : Nat} {cs vs : Array Value} {T : TypeId} {fr : Nat × Nat} (ht : aggSize P t = some n) (hc : w.heap[b]? = some (.cells cs T fr)) (hle : off + n ≤ cs.size) (hv : cs.extract off (off + n) = vs) :
    (loadVar t ⟨b, off, none⟩).run P w = .ok (.agg vs) w := by
  have h3 := isAgg_agg ht w
  have h2 := loadCells_row (P := P) (off := off) hc n 0 #[] (by omega)
  simp only [Nat.add_zero, Array.empty_append, hv] at h2
  simp only [loadVar, Sem.run_bind, Sem.run_pure, h3.1, h3.2, Result.andThen_ok, if_true, loadCells, h2]
theorem retc1 {p : Nat} {ty : TypeId} {b n : Nat} {cs : Array Value} {T : TypeId} {fr : Nat × Nat} (hr : fn.results = #[.cell p ty]) (hE : EnvOk N env a) (hp : look env p = some (.pointer (some ⟨b, 0, none⟩))) (ht : aggSize P ty = some n)
    (hc : w.heap[b]? = some (.cells cs T fr)) (hle : n = cs.size) (h : R (.agg cs) w) : bodyPost P fn (Ret R) .ret a w := by
  have h1 := run_loadVar_agg (off := 0) ht hc (by omega) (vs := cs) (by simp [hle])
  exact ⟨hE.defers, .agg cs, by simp [results, hr, look_at' hE hp, asAddr, h1], _, rfl, h⟩
theorem retc2 {p u : Nat} {ty : TypeId} {b n : Nat} {cs : Array Value} {T : TypeId} {fr : Nat × Nat} {v : Value} (hr : fn.results = #[.cell p ty, .tmp u]) (hE : EnvOk N env a) (hp : look env p = some (.pointer (some ⟨b, 0, none⟩))) (ht : aggSize P ty = some n)
    (hc : w.heap[b]? = some (.cells cs T fr)) (hle : n = cs.size) (hu : look env u = some v) (h : R (.tuple #[.agg cs, v]) w) : bodyPost P fn (Ret R) .ret a w := by
  have h1 := run_loadVar_agg (off := 0) ht hc (by omega) (vs := cs) (by simp [hle])
  exact ⟨hE.defers, .tuple #[.agg cs, v], by simp [results, hr, look_at' hE hp, look_at' hE hu, asAddr, h1], _, rfl, h⟩
end
/-! ### guards -/
def wantedE (ops : Array Oper) (env : Env) (o : Oper) : Option Bool := match o.guard with
  | none => some true
  | some (j, want) => match (ops[j]?).bind (·.dst) with
    | some t => match look env t with
      | some (.bool b) => some (b == want)
      | some (.tuple _) => some false
      | _ => none
    | none => none
theorem wanted_of {c : Bool} (hE : EnvOk N env a) (h : wantedE ops env o = some c) : Region.wanted o (yielded ops a.tmps) = c := by
  unfold wantedE at h
  unfold Region.wanted
  split at h
  · rename_i hg; rw [hg]; injection h
  · rename_i j want hg
    rw [hg]
    split at h <;> try cases h
    rename_i t ht
    split at h <;> try cases h
    · rename_i b hb
      have := hE.get t _ hb
      simp only [yielded, ht, Option.bind_some, this]
      cases b <;> cases want <;> rfl
    · rename_i b hb
      have := hE.get t _ hb
      simp only [yielded, ht, Option.bind_some, this]
      cases want <;> rfl
theorem l_go (hE : EnvOk N env a) (hw : wantedE ops env o = some true) (h : o.wp P a w (wpList P ops Q rest) Q) : wpList P ops Q (o :: rest) a w := by
  unfold wpList
  rw [if_pos (wanted_of hE hw)]
  exact .inl h
theorem l_skip {d : Nat} (hE : EnvOk N env a) (hw : wantedE ops env o = some false) (hd : o.dst = some d) (hN : Nat.blt d N = true) (h : ∀ a', EnvOk N ((d, undef) :: env) a' → wpList P ops Q rest a' w) : wpList P ops Q (o :: rest) a w := by
  unfold wpList
  rw [if_neg (by rw [wanted_of hE hw]; simp), hd]
  exact h _ (hE.put hN _)
theorem o_pure {d : Nat} {v : Value} (hE : EnvOk N env a) (hd : o.dst = some d) (hN : Nat.blt d N = true) (hp : RunOp P env w o.op v) (k : ∀ a', EnvOk N ((d, v) :: env) a' → K a' w) : o.wp P a w K Q :=
  o_val (hp _ a o hE rfl) (by rw [hd]; exact k _ (hE.put hN v))
/-! ### regions that draw their order -/
section
variable {S : World → Prop} {fuel : Nat} {listed listed' : Array Bool}
theorem wpOp_go {i : Nat} (hE : EnvOk N env a) (hi : ops[i]? = some o) (hw : wantedE ops env o = some true) (h : o.wp P a w K Q) : wpOp P ops Q i K a w := by
  unfold wpOp
  simp only [hi, wanted_of hE hw, if_true]
  exact .inl h
end
end
end Go.Proofs.YtbogbnkckofpdaaDoor.B
