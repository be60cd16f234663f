/- A program logic over the model: what is owned, what is written no more, and one lemma for each kind of step. -/
import Derived.Test.YtbogbnkckofpdaaDoorSFast
import Derived.Maps.RangeRun
namespace Go.Proofs.YtbogbnkckofpdaaDoor.B
open Go Go.ChangeMaps
set_option linter.unusedVariables false
set_option linter.unusedSimpArgs false
/-! ### maps whose keys are whole numbers -/
def getM : List (Int × Value) → Int → Option Value
  | [], _ => none
  | (q, v) :: r, k => if q = k then some v else getM r k
def putM : List (Int × Value) → Int → Value → List (Int × Value)
  | [], k, v => [(k, v)]
  | (q, u) :: r, k, v => if q = k then (k, v) :: r else (q, u) :: putM r k v
def delM (m : List (Int × Value)) (k : Int) : List (Int × Value) := m.filter fun p => decide (p.1 ≠ k)
theorem getM_put : ∀ (m : List (Int × Value)) (k j : Int) (v : Value), getM (putM m k v) j = if k = j then some v else getM m j
  | [], k, j, v => by simp [putM, getM]
  | (q, u) :: r, k, j, v => by
    simp only [putM]
    by_cases h : q = k
    · subst h
      simp only [if_true, getM]
      by_cases hj : q = j <;> simp [hj]
    · rw [if_neg h]
      simp only [getM, getM_put r k j v]
      by_cases hq : q = j
      · subst hq
        rw [if_pos rfl, if_neg (fun e => h e.symm), if_pos rfl]
      · rw [if_neg hq, if_neg hq]
theorem putM_keys : ∀ (m : List (Int × Value)) (k : Int) (v : Value), (putM m k v).map (·.1) = if k ∈ m.map (·.1) then m.map (·.1) else m.map (·.1) ++ [k]
  | [], k, v => by simp [putM]
  | (q, u) :: r, k, v => by
    simp only [putM]
    by_cases h : q = k
    · subst h; simp
    · rw [if_neg h]
      simp only [List.map_cons, putM_keys r k v, List.mem_cons]
      by_cases hk : k ∈ r.map (·.1)
      · rw [if_pos hk, if_pos (.inr hk)]
      · rw [if_neg hk, if_neg]
        · rfl
        · rintro (e | e)
          · exact h e.symm
          · exact hk e
theorem getM_none {m : List (Int × Value)} {k : Int} : getM m k = none ↔ k ∉ m.map (·.1) := by
  induction m with
  | nil => simp [getM]
  | cons p r ih =>
    obtain ⟨q, u⟩ := p
    simp only [getM, List.map_cons, List.mem_cons, not_or]
    by_cases h : q = k
    · subst h; simp
    · rw [if_neg h, ih]
      constructor
      · exact fun h2 => ⟨fun e => h e.symm, h2⟩
      · exact fun h2 => h2.2
theorem getM_mem {m : List (Int × Value)} {k : Int} {v : Value} (h : getM m k = some v) : (k, v) ∈ m := by
  induction m with
  | nil => cases h
  | cons p r ih =>
    obtain ⟨q, u⟩ := p
    simp only [getM] at h
    split at h
    · rename_i e; subst e; injection h with h; subst h; simp
    · exact List.mem_cons_of_mem _ (ih h)
theorem getM_of_mem {m : List (Int × Value)} (hn : (m.map (·.1)).Nodup) {k : Int} {v : Value} (h : (k, v) ∈ m) : getM m k = some v := by
  induction m with
  | nil => cases h
  | cons p r ih =>
    obtain ⟨q, u⟩ := p
    simp only [List.map_cons, List.nodup_cons] at hn
    simp only [getM]
    rcases List.mem_cons.1 h with h | h
    · injection h with h1 h2; subst h1; subst h2; rw [if_pos rfl]
    · rw [if_neg, ih hn.2 h]
      rintro rfl
      exact hn.1 (List.mem_map_of_mem (f := (·.1)) h)
theorem del_nodup {m : List (Int × Value)} (hn : (m.map (·.1)).Nodup) (k : Int) : ((delM m k).map (·.1)).Nodup :=
  hn.sublist (List.Sublist.map _ List.filter_sublist)
def entOf (p : Int × Value) : Value × Value := (.int .i64 p.1, p.2)
/-- What a map's block holds. -/
structure IntMap (es : Array MapEntry) (clock : Nat) (m : List (Int × Value)) : Prop where
  eq : es.toList.map (fun e => (e.key, e.val)) = m.map entOf
  nd : (m.map (·.1)).Nodup
  old : ∀ e ∈ es.toList, e.born < clock
  born : (es.toList.map (·.born)).Nodup
theorem IntMap.empty : IntMap #[] 0 [] := ⟨rfl, by simp, by simp, by simp⟩
theorem IntMap.size {es : Array MapEntry} {clock : Nat} {m : List (Int × Value)} (h : IntMap es clock m) : es.size = m.length := by
  have := congrArg List.length h.eq
  simpa using this
/-- Where a key stands. -/
def atM : List (Int × Value) → Int → Nat → Option (Nat × Value)
  | [], _, _ => none
  | (q, v) :: r, k, i => if q = k then some (i, v) else atM r k (i + 1)
theorem find_int {d : TypeDesc} {kd : IntKind} (hd : d = .int kd) (k : Int) : ∀ (es : List MapEntry) (m : List (Int × Value)) (i : Nat), es.map (fun e => (e.key, e.val)) = m.map entOf →
    Instr.findNow d (.int .i64 k) es i = some (atM m k i)
  | [], [], i, _ => rfl
  | [], _ :: _, i, h => by simp at h
  | _ :: _, [], i, h => by simp at h
  | e :: es, (q, v) :: m, i, h => by
    subst hd
    simp only [List.map_cons, List.cons.injEq, entOf, Prod.mk.injEq] at h
    obtain ⟨⟨h1, h2⟩, h3⟩ := h
    simp only [Instr.findNow, h1, h2, Instr.sameNow, if_true, atM]
    by_cases hk : q = k
    · subst hk; simp
    · have : (k == q) = false := by simpa using fun e => hk e.symm
      rw [this, if_neg hk]
      exact find_int rfl k es m (i + 1) h3
theorem atM_get : ∀ (m : List (Int × Value)) (k : Int) (i : Nat), (atM m k i).map (·.2) = getM m k
  | [], _, _ => rfl
  | (q, v) :: r, k, i => by
    simp only [atM, getM]
    by_cases h : q = k
    · rw [if_pos h, if_pos h]; rfl
    · rw [if_neg h, if_neg h]; exact atM_get r k (i + 1)
theorem atM_spec : ∀ (m : List (Int × Value)) (k : Int) (i j : Nat) (v : Value), atM m k i = some (j, v) → i ≤ j ∧ m[j - i]? = some (k, v)
  | [], _, _, _, _, h => by cases h
  | (q, u) :: r, k, i, j, v, h => by
    simp only [atM] at h
    split at h
    · rename_i e; subst e
      injection h with h; injection h with h1 h2; subst h1; subst h2
      simp
    · obtain ⟨h1, h2⟩ := atM_spec r k (i + 1) j v h
      refine ⟨by omega, ?_⟩
      rw [show j - i = (j - (i + 1)) + 1 by omega, List.getElem?_cons_succ]
      exact h2
section
variable {P : Program} {ops : Array Oper} {Q : Exit → Act → World → Prop} {a : Act} {w0 w w' : World} {D : Sto} {ss : List Seg} {o : Oper} {N : Nat} {env : Env} {K : Act → World → Prop}
def intKeyed (P : Program) (t : TypeId) : Option TypeId := match P.underlying t with
  | some (.map k e) => match P.underlying k with
    | some (.int _) => some e
    | _ => none
  | _ => none
theorem intKeyed_spec {t e : TypeId} (h : intKeyed P t = some e) : ∃ k kd, P.underlying t = some (.map k e) ∧ P.underlying k = some (.int kd) := by
  unfold intKeyed at h
  split at h <;> try cases h
  rename_i k e' hk
  split at h <;> try cases h
  rename_i kd hkd
  exact ⟨k, kd, hk, hkd⟩
theorem checkKey_int {k : TypeId} {kd : IntKind} (hk : P.underlying k = some (.int kd)) (b : Bool) (n : Nat) (i : Int) : ∀ w, (Instr.checkKey b (n + 1) k (.int .i64 i)).run P w = .ok () w := fun w => by
  simp [Instr.checkKey, underlying, program, hk, Sem.run]
theorem findKey_int {k : TypeId} {kd : IntKind} (hk : P.underlying k = some (.int kd)) {es : Array MapEntry} {clock : Nat} {m : List (Int × Value)} (hm : IntMap es clock m) (i : Int) : ∀ w, (Instr.findKey k (.int .i64 i) es.toList).run P w = .ok (atM m i 0) w := fun w => by
  simp [Instr.findKey, underlying, program, hk, Sem.run, find_int rfl i es.toList m 0 hm.eq]
theorem run_getObj {b : Nat} {ob : Obj} (h : w.heap[b]? = some ob) (hc : (match ob with | .cells .. => false | _ => true) = true) : (getObj b).run P w = .ok ob w := by
  simp only [getObj, Sem.run, h]
  cases ob <;> simp at hc <;> rfl
theorem run_setObj {b : Nat} {ob : Obj} (h : w.heap[b]? = some ob) (hc : (match ob with | .cells .. => false | _ => true) = true) (ob' : Obj) : (setObj b ob').run P w = .ok () { w with heap := w.heap.setIfInBounds b ob' } := by
  simp only [setObj, Sem.run, h]
  cases ob <;> simp at hc <;> rfl
theorem run_lookup_int {t e : TypeId} {b : Nat} {es : Array MapEntry} {clock : Nat} {m : List (Int × Value)} {i : Int} {z : Value} {ok : Bool} (ht : intKeyed P t = some e) (hb : w.heap[b]? = some (.map es clock)) (hm : IntMap es clock m)
    (hz : (P.info? e).bind (·.zero) = some z) :
    (Instr.lookup t (.map (some b)) (.int .i64 i) ok).run P w = .ok (if ok then .tuple #[(getM m i).getD z, .bool (getM m i).isSome] else (getM m i).getD z) w := by
  obtain ⟨k, kd, h1, h2⟩ := intKeyed_spec ht
  obtain ⟨inf, hinf, hz'⟩ := Option.bind_eq_some_iff.1 hz
  have hg := atM_get m i 0
  cases hat : atM m i 0 with
  | none =>
    rw [hat] at hg
    simp only [Option.map_none] at hg
    simp [Instr.lookup, run_underlying h1, run_getObj hb rfl, checkKey_int h2, findKey_int h2 hm, hat, zeroValue, typeInfo, hinf, hz', ← hg]
  | some q =>
    rw [hat] at hg
    simp only [Option.map_some] at hg
    simp [Instr.lookup, run_underlying h1, run_getObj hb rfl, checkKey_int h2, findKey_int h2 hm, hat, ← hg]
/-- m[k] with ', ok'. -/
theorem r_lookupY {t e : TypeId} {x y : Operand} {b : Nat} {es : Array MapEntry} {clock : Nat} {m : List (Int × Value)} {i : Int} {z v : Value} (hx : ev env x = some (.map (some b))) (hy : ev env y = some (.int .i64 i)) (ht : intKeyed P t = some e)
    (hz : (P.info? e).bind (·.zero) = some z) (hb : w.heap[b]? = some (.map es clock)) (hm : IntMap es clock m) (hg : getM m i = some v) : RunOp P env w (.lookup t x y true) (.tuple #[v, .bool true]) := fun _ a o hE ho => by
  have h := run_lookup_int (ok := true) (i := i) ht hb hm hz
  rw [hg] at h
  simp only [if_true, Option.getD_some, Option.isSome_some] at h
  simp [execOp, ho, hE.eval hx, hE.eval hy, h]
theorem r_lookupN {t e : TypeId} {x y : Operand} {b : Nat} {es : Array MapEntry} {clock : Nat} {m : List (Int × Value)} {i : Int} {z : Value} (hx : ev env x = some (.map (some b))) (hy : ev env y = some (.int .i64 i)) (ht : intKeyed P t = some e)
    (hz : (P.info? e).bind (·.zero) = some z) (hb : w.heap[b]? = some (.map es clock)) (hm : IntMap es clock m) (hg : getM m i = none) : RunOp P env w (.lookup t x y true) (.tuple #[z, .bool false]) := fun _ a o hE ho => by
  have h := run_lookup_int (ok := true) (i := i) ht hb hm hz
  rw [hg] at h
  simp only [if_true, Option.getD_none, Option.isSome_none] at h
  simp [execOp, ho, hE.eval hx, hE.eval hy, h]
theorem f_makeMap {t d : Nat} (hE : EnvOk N env a) (hI : Inv w0 D ss w) (hd : o.dst = some d) (hN : Nat.blt d N = true) (ho : o.op = .makeMap t none)
    (k : ∀ a' b w', EnvOk N ((d, .map (some b)) :: env) a' → Inv w0 D ([(b, .map #[] 0)] :: ss) w' → K a' w') : o.wp P a w K Q := by
  have hrun : (execOp a.eval o).run P w = .ok (.value (.map (some w.heap.size))) { w with heap := w.heap.push (.map #[] 0) } := by
    simp [execOp, ho, Instr.makeMap, newObj, Sem.run]
  exact o_val hrun (by rw [hd]; exact k _ w.heap.size _ (hE.put hN _) (hI.new _))
theorem put_map {es : Array MapEntry} {clock : Nat} {m : List (Int × Value)} (hm : IntMap es clock m) (i : Int) (v : Value) :
    (∀ j u, atM m i 0 = some (j, u) → IntMap (es.modify j fun e => { e with key := .int .i64 i, val := v }) clock (putM m i v)) ∧ (atM m i 0 = none → IntMap (es.push { key := .int .i64 i, val := v, born := clock }) (clock + 1) (putM m i v)) := by
  constructor
  · intro j u hj
    obtain ⟨_, hmj⟩ := atM_spec m i 0 j u hj
    simp only [Nat.sub_zero] at hmj
    have hput : ∀ (m : List (Int × Value)) (s : Nat), atM m i s = some (j + s, u) → putM m i v = m.set j (i, v) := by
      clear hmj hj hm
      intro m
      induction m generalizing j with
      | nil => intro s h; cases h
      | cons p r ih =>
        intro s h
        obtain ⟨q, x⟩ := p
        simp only [atM] at h
        simp only [putM]
        split at h
        · rename_i e
          injection h with h; injection h with h1 _
          have : j = 0 := by omega
          subst this
          rw [if_pos e]; rfl
        · rename_i e
          rw [if_neg e]
          obtain ⟨h1, _⟩ := atM_spec r i (s + 1) _ u h
          obtain ⟨j', rfl⟩ : ∃ j', j = j' + 1 := ⟨j - 1, by omega⟩
          rw [ih j' (Nat.zero_le _) (s + 1) (by rw [h]; congr 2; omega)]
          rfl
    have hp := hput m 0 hj
    have hlen := hm.size
    have hjl : j < m.length := (List.getElem?_eq_some_iff.1 hmj).1
    have htl : (es.modify j fun e => { e with key := .int .i64 i, val := v }).toList = es.toList.set j { (es[j]'(by omega)) with key := .int .i64 i, val := v } := by
      apply List.ext_getElem?
      intro q
      simp only [Array.getElem?_toList, Array.getElem?_modify, List.getElem?_set, Array.length_toList]
      by_cases hq : j = q
      · subst hq; simp [hlen, hjl]
      · simp [hq]
    have hb : ((es.toList.set j { (es[j]'(by omega)) with key := .int .i64 i, val := v }).map (·.born)) = es.toList.map (·.born) := by
      rw [List.map_set]
      apply List.ext_getElem?
      intro q
      rw [List.getElem?_set]
      by_cases hq : j = q
      · subst hq; simp [hlen, hjl]
      · simp [hq]
    refine ⟨?_, ?_, ?_, ?_⟩
    · rw [htl, List.map_set, hm.eq, hp, List.map_set]; rfl
    · rw [putM_keys, if_pos]
      · exact hm.nd
      · exact List.mem_map.2 ⟨_, List.mem_of_getElem? hmj, rfl⟩
    · intro e he
      rw [htl] at he
      have : e.born ∈ (es.toList.set j { (es[j]'(by omega)) with key := .int .i64 i, val := v }).map (·.born) := List.mem_map_of_mem he
      rw [hb] at this
      obtain ⟨e', he', hbe⟩ := List.mem_map.1 this
      rw [← hbe]; exact hm.old e' he'
    · rw [htl, hb]; exact hm.born
  · intro hn
    have hg : getM m i = none := by rw [← atM_get m i 0, hn]; rfl
    have hk := getM_none.1 hg
    have hp : ∀ (m : List (Int × Value)), i ∉ m.map (·.1) → putM m i v = m ++ [(i, v)] := by
      intro m
      induction m with
      | nil => intro _; rfl
      | cons p r ih =>
        intro h
        simp only [List.map_cons, List.mem_cons, not_or] at h
        obtain ⟨q, x⟩ := p
        simp only [putM]
        rw [if_neg (fun e => h.1 e.symm), ih h.2]
        rfl
    refine ⟨?_, ?_, ?_, ?_⟩
    · rw [hp m hk]; simp [hm.eq, entOf]
    · rw [putM_keys, if_neg hk]
      rw [List.nodup_append]
      exact ⟨hm.nd, by simp, fun x hx y hy e => by simp at hy; subst hy; subst e; exact hk hx⟩
    · intro e he
      simp only [Array.toList_push, List.mem_append, List.mem_singleton] at he
      rcases he with he | rfl
      · have := hm.old e he; omega
      · simp
    · simp only [Array.toList_push, List.map_append, List.map_cons, List.map_nil]
      rw [List.nodup_append]
      refine ⟨hm.born, by simp, fun x hx y hy e => ?_⟩
      simp at hy; subst hy; subst e
      obtain ⟨e', he', hb⟩ := List.mem_map.1 hx
      have := hm.old e' he'
      omega
theorem run_update_int {t e : TypeId} {b : Nat} {es : Array MapEntry} {clock : Nat} {m : List (Int × Value)} {i : Int} {v : Value} (ht : intKeyed P t = some e) (hb : w.heap[b]? = some (.map es clock)) (hm : IntMap es clock m) :
    ∃ es' clock', IntMap es' clock' (putM m i v) ∧ (Instr.mapUpdate t (.map (some b)) (.int .i64 i) v).run P w = .ok () { w with heap := w.heap.setIfInBounds b (.map es' clock') } := by
  obtain ⟨k, kd, h1, h2⟩ := intKeyed_spec ht
  cases hat : atM m i 0 with
  | none =>
    exact ⟨_, _, (put_map hm i v).2 hat, by simp [Instr.mapUpdate, run_underlying h1, run_getObj hb rfl, checkKey_int h2, findKey_int h2 hm, hat, run_setObj hb rfl]⟩
  | some q =>
    obtain ⟨j, u⟩ := q
    obtain ⟨_, hmj⟩ := atM_spec m i 0 j u hat
    simp only [Nat.sub_zero] at hmj
    have hjl : j < m.length := (List.getElem?_eq_some_iff.1 hmj).1
    have hkey : ((es[j]?).map (·.key)).getD (.int .i64 i) = .int .i64 i := by
      have h3 : (es.toList.map (fun e => (e.key, e.val)))[j]? = some (.int .i64 i, u) := by rw [hm.eq, List.getElem?_map, hmj]; rfl
      rw [List.getElem?_map] at h3
      cases h4 : es[j]? with
      | none => rfl
      | some x =>
        rw [Array.getElem?_toList, h4] at h3
        simp at h3
        simp [h3.1]
    have hstay : ∀ w, (Instr.keyThatStays (.int .i64 i) (.int .i64 i)).run P w = .ok (.int .i64 i) w := fun w => by
      simp [Instr.keyThatStays, Instr.sameBits]
    exact ⟨_, _, (put_map hm i v).1 j u hat, by simp [Instr.mapUpdate, run_underlying h1, run_getObj hb rfl, checkKey_int h2, findKey_int h2 hm, hat, hkey, hstay, run_setObj hb rfl]⟩
/-- m[k] = v: the map is segment j. -/
theorem o_mapUpdate {t e : TypeId} {x y u : Operand} {b : Nat} {es : Array MapEntry} {clock : Nat} {m : List (Int × Value)} {i : Int} {v : Value} (j : Nat) (hE : EnvOk N env a) (hI : Inv w0 D ss w) (hd : o.dst = none)
    (ho : o.op = .mapUpdate t x y u ∨ o.op = .insert t x y u) (hx : ev env x = some (.map (some b))) (hy : ev env y = some (.int .i64 i)) (hu : ev env u = some v) (ht : intKeyed P t = some e) (hj : ss[j]? = some [(b, .map es clock)]) (hm : IntMap es clock m)
    (k : ∀ es' clock' w', IntMap es' clock' (putM m i v) → Inv w0 D (ss.set j [(b, .map es' clock')]) w' → K a w') : o.wp P a w K Q := by
  have hb := hI.seg j hj
  obtain ⟨es', clock', hm', hr⟩ := run_update_int (P := P) (i := i) (v := v) ht hb hm
  have hrun : (execOp a.eval o).run P w = .ok .skip { w with heap := w.heap.setIfInBounds b (.map es' clock') } := by
    rcases ho with ho | ho <;> simp [execOp, ho, hE.eval hx, hE.eval hy, hE.eval hu, hr]
  refine o_skip hrun ?_
  rw [hd]
  exact k _ _ _ hm' (hI.turn_at j hj)
theorem del_map {es : Array MapEntry} {clock : Nat} {m : List (Int × Value)} (hm : IntMap es clock m) (i : Int) :
    (∀ j u, atM m i 0 = some (j, u) → IntMap (es.eraseIdxIfInBounds j) clock (delM m i)) ∧ (atM m i 0 = none → delM m i = m) := by
  constructor
  · intro j u hj
    obtain ⟨_, hmj⟩ := atM_spec m i 0 j u hj
    simp only [Nat.sub_zero] at hmj
    have hd : ∀ (m : List (Int × Value)) (j : Nat), (m.map (·.1)).Nodup → m[j]? = some (i, u) → delM m i = m.eraseIdx j := by
      clear hmj hj hm
      intro m
      induction m with
      | nil => intro j _ h; simp at h
      | cons p r ih =>
        intro j hn h
        obtain ⟨q, x⟩ := p
        simp only [List.map_cons, List.nodup_cons] at hn
        cases j with
        | zero =>
          simp at h
          obtain ⟨rfl, rfl⟩ := h
          simp only [delM, List.filter_cons, ne_eq, not_true_eq_false, decide_false, Bool.false_eq_true, if_false, List.eraseIdx_zero, List.tail_cons]
          rw [List.filter_eq_self]
          intro y hy
          have : y.1 ≠ q := fun e => hn.1 (by rw [← e]; exact List.mem_map_of_mem (f := (·.1)) hy)
          simpa using this
        | succ j =>
          simp only [List.getElem?_cons_succ] at h
          have hq : q ≠ i := by
            rintro rfl
            exact hn.1 (List.mem_map.2 ⟨_, List.mem_of_getElem? h, rfl⟩)
          have := ih j hn.2 h
          simp only [delM] at this ⊢
          rw [List.filter_cons, List.eraseIdx_cons_succ, ← this]
          simp [hq]
    have hlen := hm.size
    have hjl : j < m.length := (List.getElem?_eq_some_iff.1 hmj).1
    have htl : (es.eraseIdxIfInBounds j).toList = es.toList.eraseIdx j := by
      rw [Array.eraseIdxIfInBounds, dif_pos (by omega)]
      simp
    refine ⟨?_, del_nodup hm.nd i, fun e he => ?_, ?_⟩
    · rw [htl, hd m j hm.nd hmj, map_eraseIdx, hm.eq, map_eraseIdx]
    · rw [htl] at he
      exact hm.old e (List.mem_of_mem_eraseIdx he)
    · rw [htl, map_eraseIdx]
      exact hm.born.sublist (List.eraseIdx_sublist _ _)
  · intro hn
    have hg : getM m i = none := by rw [← atM_get m i 0, hn]; rfl
    have hk := getM_none.1 hg
    unfold delM
    rw [List.filter_eq_self]
    intro y hy
    have : y.1 ≠ i := fun e => hk (by rw [← e]; exact List.mem_map_of_mem (f := (·.1)) hy)
    simpa using this
/-! ### going through a map that stands still -/
structure Vis (es : Array MapEntry) (seen : Array Nat) (m vis : List (Int × Value)) : Prop where
  sub : ∀ p ∈ vis, p ∈ m
  nd : (vis.map (·.1)).Nodup
  iff : ∀ e ∈ es.toList, ∀ p, (e.key, e.val) = entOf p → (seen.contains e.born = true ↔ p ∈ vis)
/-- The entry that the last step handed out. -/
def Last (es : Array MapEntry) (seen : Array Nat) (p : Int × Value) : Prop := ∃ e ∈ es.toList, seen.back? = some e.born ∧ (e.key, e.val) = entOf p
theorem Vis.start (es : Array MapEntry) (m : List (Int × Value)) : Vis es #[] m [] := ⟨by simp, by simp, fun e _ p _ => by simp⟩
theorem f_range {t k e d : Nat} {x : Operand} {b : Nat} {es : Array MapEntry} {clock : Nat} (j : Nat) (hE : EnvOk N env a) (hI : Inv w0 D ss w) (hd : o.dst = some d) (hN : Nat.blt d N = true) (ho : o.op = .range t x)
    (hx : ev env x = some (.map (some b))) (ht : P.underlying t = some (.map k e)) (hj : ss[j]? = some [(b, .map es clock)])
    (kk : ∀ a' r w', EnvOk N ((d, .pointer (some ⟨r, 0, none⟩)) :: env) a' → Inv w0 D ([(r, .mapIter (some b) clock #[] clock)] :: ss) w' → K a' w') : o.wp P a w K Q := by
  have hb := hI.seg j hj
  have hrun : (execOp a.eval o).run P w = .ok (.value (.pointer (some ⟨w.heap.size, 0, none⟩))) { w with heap := w.heap.push (.mapIter (some b) clock #[] clock) } := by
    simp [execOp, ho, hE.eval hx, Instr.range, run_underlying ht, run_getObj hb rfl, newObj, Sem.run]
  exact o_val hrun (by rw [hd]; exact kk _ w.heap.size _ (hE.put hN _) (hI.new _))
/-- One step: over, or one that is left, whichever. q: the iterator's segment. -/
theorem o_next {d : Nat} {x : Operand} {b r : Nat} {es : Array MapEntry} {clock : Nat} {m vis : List (Int × Value)} {seen : Array Nat} (j q : Nat) (hE : EnvOk N env a) (hI : Inv w0 D ss w) (hd : o.dst = some d) (hN : Nat.blt d N = true) (ho : o.op = .next x false)
    (hx : ev env x = some (.pointer (some ⟨r, 0, none⟩))) (hj : ss[j]? = some [(b, .map es clock)]) (hq : ss[q]? = some [(r, .mapIter (some b) clock seen clock)]) (hm : IntMap es clock m) (hv : Vis es seen m vis)
    (over : (∀ p ∈ m, p ∈ vis) → ∀ a', EnvOk N ((d, .tuple #[.bool false]) :: env) a' → K a' w)
    (step : ∀ p, p ∈ m → p ∉ vis → ∀ seen' w', Vis es seen' m (p :: vis) → Last es seen' p → Inv w0 D (ss.set q [(r, .mapIter (some b) clock seen' clock)]) w' →
      ∀ a', EnvOk N ((d, .tuple #[.bool true, .int .i64 p.1, p.2]) :: env) a' → K a' w') : o.wp P a w K Q := by
  have hb := hI.seg j hj
  have hr := hI.seg q hq
  have hent : ∀ e ∈ es.toList, ∃ p, p ∈ m ∧ (e.key, e.val) = entOf p := by
    intro e he
    have h1 : (e.key, e.val) ∈ es.toList.map (fun e => (e.key, e.val)) := List.mem_map_of_mem (f := fun e => (e.key, e.val)) he
    rw [hm.eq] at h1
    obtain ⟨p, hp, hpe⟩ := List.mem_map.1 h1
    exact ⟨p, hp, hpe.symm⟩
  have hmem : ∀ p ∈ m, ∃ e ∈ es.toList, (e.key, e.val) = entOf p := by
    intro p hp
    have h1 : entOf p ∈ m.map entOf := List.mem_map_of_mem hp
    rw [← hm.eq] at h1
    obtain ⟨e, he, hee⟩ := List.mem_map.1 h1
    exact ⟨e, he, hee⟩
  have einj : ∀ p p' : Int × Value, entOf p = entOf p' → p = p' := by
    intro p p' h
    simp only [entOf, Prod.mk.injEq, Value.int.injEq, true_and] at h
    exact Prod.ext h.1 h.2
  rcases run_next_at (P := P) w o.type r b clock clock seen es clock hr hb hm.old (Nat.le_refl _) with ⟨h0, hrun⟩ | ⟨e, he, w1, hw1, hrun⟩
  · have hrun' : (execOp a.eval o).run P w = .ok (.value (.tuple #[.bool false])) w := by simp [execOp, ho, hE.eval hx, hrun]
    have hall : ∀ p ∈ m, p ∈ vis := fun p hp => by
      obtain ⟨e, he, hee⟩ := hmem p hp
      refine (hv.iff e he p hee).1 ?_
      have hl : leftOf es seen = #[] := Array.eq_empty_of_size_eq_zero h0
      unfold leftOf at hl
      rw [Array.filter_eq_empty_iff] at hl
      have := hl e (by simpa using he)
      simpa using this
    exact o_val hrun' (by rw [hd]; exact over hall _ (hE.put hN _))
  · have hrun' : (execOp a.eval o).run P w = .ok (.value (.tuple #[.bool true, e.key, e.val])) (setBlock w1 r (.mapIter (some b) clock (seen.push e.born) clock)) := by simp [execOp, ho, hE.eval hx, hrun]
    have he' : e ∈ es.toList ∧ seen.contains e.born = false := by
      unfold leftOf at he
      simp only [Array.toList_filter, List.mem_filter, Bool.not_eq_true'] at he
      exact he
    obtain ⟨p, hp, hpe⟩ := hent e he'.1
    have hnv : p ∉ vis := fun h => by
      have := (hv.iff e he'.1 p hpe).2 h
      rw [he'.2] at this; cases this
    have hI1 : Inv w0 D ss w1 := by
      rcases hw1 with rfl | rfl
      · exact hI
      · exact hI.drawn _
    have hkv : e.key = .int .i64 p.1 ∧ e.val = p.2 := by simpa [entOf] using hpe
    refine o_val hrun' ?_
    rw [hd, hkv.1, hkv.2]
    refine step p hp hnv (seen.push e.born) _ ⟨?_, ?_, ?_⟩ ⟨e, he'.1, by simp, hpe⟩ (hI1.turn_at q hq) _ (hE.put hN _)
    · intro x hx'
      rcases List.mem_cons.1 hx' with rfl | hx'
      · exact hp
      · exact hv.sub x hx'
    · simp only [List.map_cons, List.nodup_cons]
      refine ⟨fun hmem' => ?_, hv.nd⟩
      obtain ⟨y, hy, hye⟩ := List.mem_map.1 hmem'
      have h1 := getM_of_mem hm.nd (hv.sub y hy)
      have h2 := getM_of_mem hm.nd hp
      rw [hye] at h1
      rw [h1] at h2
      injection h2 with h2
      have hyp : y = p := Prod.ext hye h2
      exact hnv (hyp ▸ hy)
    · intro e2 he2 p2 hpe2
      rw [Array.contains_push]
      simp only [Bool.or_eq_true, beq_iff_eq, List.mem_cons]
      constructor
      · rintro (h | h)
        · right; exact (hv.iff e2 he2 p2 hpe2).1 h
        · left
          have hee : e2 = e := by
            have := find_born e2 es.toList hm.born he2
            have h3 := find_born e es.toList hm.born he'.1
            rw [h] at this
            rw [this] at h3
            exact Option.some.inj h3
          subst hee
          exact einj _ _ (hpe2.symm.trans hpe)
      · rintro (h | h)
        · right
          subst h
          have h1 : ∀ (l : List MapEntry) (m : List (Int × Value)), l.map (fun e => (e.key, e.val)) = m.map entOf → (m.map (·.1)).Nodup → e ∈ l → e2 ∈ l → e2 = e := by
            intro l
            induction l with
            | nil => intro m _ _ h; cases h
            | cons x l ih =>
              intro m h hn h1 h2
              cases m with
              | nil => simp at h
              | cons y m =>
                simp only [List.map_cons, List.cons.injEq, List.nodup_cons] at h hn
                have no : ∀ z ∈ l, (z.key, z.val) = entOf p2 → (x.key, x.val) = entOf p2 → False := by
                  intro z hz h3 h4
                  have h5 : (z.key, z.val) ∈ l.map (fun e => (e.key, e.val)) := List.mem_map_of_mem (f := fun e => (e.key, e.val)) hz
                  rw [h.2, h3] at h5
                  obtain ⟨y', hy', hy2⟩ := List.mem_map.1 h5
                  rw [einj _ _ hy2] at hy'
                  rw [h.1] at h4
                  rw [einj _ _ h4] at hn
                  exact hn.1 (List.mem_map_of_mem (f := (·.1)) hy')
                rcases List.mem_cons.1 h1 with g1 | g1 <;> rcases List.mem_cons.1 h2 with g2 | g2
                · rw [g1, g2]
                · exact (no _ g2 hpe2 (by rw [← g1]; exact hpe)).elim
                · exact (no _ g1 hpe (by rw [← g2]; exact hpe2)).elim
                · exact ih m h.2 hn.2 g1 g2
          exact congrArg _ (h1 es.toList m hm.eq hm.nd he'.1 he2)
        · left; exact (hv.iff e2 he2 p2 hpe2).2 h
/-- What the step handed out, read behind it. -/
theorem r_entry {x : Operand} {b r clock : Nat} {es : Array MapEntry} {m : List (Int × Value)} {seen : Array Nat} {p : Int × Value} (hx : ev env x = some (.pointer (some ⟨r, 0, none⟩))) (hb : w.heap[b]? = some (.map es clock))
    (hr : w.heap[r]? = some (.mapIter (some b) clock seen clock)) (hm : IntMap es clock m) (hl : Last es seen p) : RunOp P env w (.entry x) (.tuple #[.int .i64 p.1, p.2]) := fun _ a o hE ho => by
  obtain ⟨e, he, hbk, hpe⟩ := hl
  have hkv : e.key = .int .i64 p.1 ∧ e.val = p.2 := by simpa [entOf] using hpe
  have hf : es.find? (·.born == e.born) = some e := by rw [← Array.find?_toList]; exact find_born e es.toList hm.born he
  have hrun : (Instr.entry (.pointer (some ⟨r, 0, none⟩))).run P w = .ok (.tuple #[e.key, e.val]) w := by
    simp [Instr.entry, run_getObj hr rfl, run_getObj hb rfl, hbk, hf]
  simp [execOp, ho, hE.eval hx, hrun, hkv.1, hkv.2]
end
end Go.Proofs.YtbogbnkckofpdaaDoor.B
