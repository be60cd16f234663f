/- A program logic over the model: what is owned, what is written no more, and one lemma for each kind of step. -/
import Derived.Test.YtbogbnkckofpdaaDoorSBase
import Derived.WideLaws
namespace Go.Proofs.YtbogbnkckofpdaaDoor.B
open Go
section
variable {P : Program} {ops : Array Oper} {Q : Exit → Act → World → Prop} {a : Act} {w w' : World} {rest : List Oper} {o : Oper} {N : Nat} {env : Env}
/-- What needs no world. -/
def PureOp (P : Program) (env : Env) (op : Op) (v : Value) : Prop := ∀ (N : Nat) (a : Act) (w : World) (o : Oper), EnvOk N env a → o.op = op → (execOp a.eval o).run P w = .ok (.value v) w
theorem p_move {x : Operand} {v : Value} (hx : ev env x = some v) : PureOp P env (.move x) v := fun _ a w o hE ho => by
  simp [execOp, ho, hE.eval hx]
theorem p_assign {x : Operand} {v : Value} (hx : ev env x = some v) : PureOp P env (.assign x) v := fun _ a w o hE ho => by
  simp [execOp, ho, hE.eval hx]
theorem p_pick {c x y : Operand} {b : Bool} {v : Value} (hc : ev env c = some (.bool b)) (hx : ev env (if b then x else y) = some v) : PureOp P env (.pick c x y) v := fun _ a w o hE ho => by
  have h1 := hE.eval hc
  have h2 := hE.eval hx
  simp only [execOp, ho, h1, asBool]
  cases b <;> simpa using h2
theorem p_not {t : TypeId} {x : Operand} {b : Bool} (hx : ev env x = some (.bool b)) : PureOp P env (.unOp .not t x) (.bool !b) := fun _ a w o hE ho => by
  simp [execOp, ho, hE.eval hx, Op.unary]
def cmpB : BinOp → Int → Int → Option Bool
  | .eql, x, y => some (x == y)
  | .neq, x, y => some (x != y)
  | .lss, x, y => some (decide (x < y))
  | .leq, x, y => some (decide (x ≤ y))
  | .gtr, x, y => some (decide (x > y))
  | .geq, x, y => some (decide (x ≥ y))
  | _, _, _ => none
theorem p_cmp {op : BinOp} {t t' : TypeId} {x y : Operand} {k : IntKind} {m n : Int} {b : Bool} (hx : ev env x = some (.int k m)) (hy : ev env y = some (.int k n)) (hb : cmpB op m n = some b) :
    PureOp P env (.binOp op t x y t') (.bool b) := fun _ a w o hE ho => by
  have h1 := hE.eval hx
  have h2 := hE.eval hy
  simp only [execOp, ho, h1, h2, eqGuard, binOp]
  cases op <;> simp only [cmpB, Option.some.injEq, reduceCtorEq] at hb <;> subst hb <;> simp [Op.intCmp]
def arithZ : BinOp → IntKind → Int → Int → Option Int
  | .add, k, x, y => some (k.wrap (x + y))
  | .sub, k, x, y => some (k.wrap (x - y))
  | .mul, k, x, y => some (k.wrap (x * y))
  | .quo, k, x, y => if y = 0 then none else some (k.wrap (x.tdiv y))
  | .rem, _, x, y => if y = 0 then none else some (x.tmod y)
  | .and, k, x, y => some (k.wrap (BitVec.ofInt k.bits x &&& BitVec.ofInt k.bits y).toNat)
  | .or, k, x, y => some (k.wrap (BitVec.ofInt k.bits x ||| BitVec.ofInt k.bits y).toNat)
  | .xor, k, x, y => some (k.wrap (BitVec.ofInt k.bits x ^^^ BitVec.ofInt k.bits y).toNat)
  | .andNot, k, x, y => some (k.wrap (BitVec.ofInt k.bits x &&& ~~~(BitVec.ofInt k.bits y)).toNat)
  | _, _, _, _ => none
theorem p_arith {op : BinOp} {t t' : TypeId} {x y : Operand} {k : IntKind} {m n z : Int} (hx : ev env x = some (.int k m)) (hy : ev env y = some (.int k n)) (hz : arithZ op k m n = some z) :
    PureOp P env (.binOp op t x y t') (.int k z) := fun _ a w o hE ho => by
  have h1 := hE.eval hx
  have h2 := hE.eval hy
  simp only [execOp, ho, h1, h2, eqGuard, binOp]
  cases op <;> simp only [arithZ, Option.some.injEq, reduceCtorEq] at hz
  case quo =>
    split at hz
    · cases hz
    · rename_i h0; injection hz with hz; subst hz; simp [Op.intDiv, h0]
  case rem =>
    split at hz
    · cases hz
    · rename_i h0; injection hz with hz; subst hz; simp [Op.intDiv, h0]
  all_goals subst hz; simp [Op.intArith, Op.intBits]
theorem p_shl {t t' : TypeId} {x y : Operand} {k k' : IntKind} {m n z : Int} (hx : ev env x = some (.int k m)) (hy : ev env y = some (.int k' n)) (h0 : 0 ≤ n) (hz : k.wrap (m * 2 ^ min n.toNat k.bits) = z) :
    PureOp P env (.binOp .shl t x y t') (.int k z) := fun _ a w o hE ho => by
  have h1 := hE.eval hx
  have h2 := hE.eval hy
  have h3 : ¬ n < 0 := by omega
  subst hz
  simp [execOp, ho, h1, h2, eqGuard, binOp, Op.shift, h3]
theorem p_shr {t t' : TypeId} {x y : Operand} {k k' : IntKind} {m n z : Int} (hx : ev env x = some (.int k m)) (hy : ev env y = some (.int k' n)) (h0 : 0 ≤ n) (hz : m.fdiv (2 ^ min n.toNat k.bits) = z) :
    PureOp P env (.binOp .shr t x y t') (.int k z) := fun _ a w o hE ho => by
  have h1 := hE.eval hx
  have h2 := hE.eval hy
  have h3 : ¬ n < 0 := by omega
  subst hz
  simp [execOp, ho, h1, h2, eqGuard, binOp, Op.shift, h3]
def eqB : BinOp → Bool → Option Bool
  | .eql, b => some b
  | .neq, b => some (!b)
  | _, _ => none
/-- '==', '!=' on what is no number and no string. -/
theorem p_eq {op : BinOp} {t t' : TypeId} {x y : Operand} {u v : Value} {e b : Bool} (hx : ev env x = some u) (hy : ev env y = some v)
    (hg : ∀ w, (eqGuard op t x y u v).run P w = .ok () w) (hf : ∀ w, (Op.equalIn (9999 + 1) t u v).run P w = .ok e w)
    (hu : (match u with | .int .. | .float .. | .complex .. | .string _ => false | _ => true) = true) (hb : eqB op e = some b) : PureOp P env (.binOp op t x y t') (.bool b) := fun _ a w o hE ho => by
  have h1 := hE.eval hx
  have h2 := hE.eval hy
  have h3 : ∀ w, (binOp op t u v).run P w = .ok (.bool b) w := fun w => by
    cases op <;> simp only [eqB, Option.some.injEq, reduceCtorEq] at hb <;> subst hb <;> cases u <;> simp only [Bool.false_eq_true] at hu <;>
      (simp only [binOp, Op.equal]; rw [show Op.maxDepth = 9999 + 1 from rfl]; simp [hf w])
  simp [execOp, ho, h1, h2, hg w, h3 w]
theorem g_form (op : BinOp) (t : TypeId) (x y : Operand) (u v : Value) : eqGuard op t x y u v = (pure () : Sem Unit) ∨ eqGuard op t x y u v = eqGuard .eql t x y u v := by
  cases op <;> first | exact .inr rfl | exact .inl rfl
theorem g_none {op : BinOp} {t : TypeId} {x y : Operand} {u v : Value} (h : (match u, v with | .nilIface, .nilIface => false | .agg _, .agg _ => false | _, _ => true) = true) :
    ∀ w, (eqGuard op t x y u v).run P w = .ok () w := fun w => by
  rcases g_form op t x y u v with e | e
  · rw [e]; rfl
  · rw [e]
    simp only [eqGuard]
    split
    · rfl
    · split
      · simp at h
      · simp at h
      · rfl
theorem g_nilLit {op : BinOp} {t : TypeId} {x : Operand} {u c : Value} : ∀ w, (eqGuard op t x (.const c) u .nilIface).run P w = .ok () w := fun w => by
  rcases g_form op t x (.const c) u .nilIface with e | e
  · rw [e]; rfl
  · rw [e]
    cases u <;> simp [eqGuard]
theorem e_bool {d : Nat} {t : TypeId} {m n : Bool} (ht : P.underlying t = some .bool) : ∀ w, (Op.equalIn (d + 1) t (.bool m) (.bool n)).run P w = .ok (m == n) w := fun w => by
  simp [Op.equalIn, underlying, program, ht, Sem.run]
theorem p_boolEq {op : BinOp} {t t' : TypeId} {x y : Operand} {m n b : Bool} (ht : P.underlying t = some .bool) (hx : ev env x = some (.bool m)) (hy : ev env y = some (.bool n))
    (hb : eqB op (m == n) = some b) : PureOp P env (.binOp op t x y t') (.bool b) := p_eq hx hy (g_none rfl) (e_bool ht) rfl hb
/-- An interface value against the literal nil. -/
def nilI : Value → Option Bool
  | .nilIface => some true
  | .iface _ _ => some false
  | _ => none
theorem e_ifaceNil {d : Nat} {t : TypeId} {ms : Array (String × TypeId)} {u : Value} {e : Bool} (ht : P.underlying t = some (.interface ms)) (hu : nilI u = some e) :
    ∀ w, (Op.equalIn (d + 1) t u .nilIface).run P w = .ok e w := fun w => by
  cases u <;> simp [nilI] at hu <;> subst hu <;> simp [Op.equalIn, underlying, program, ht, Sem.run]
theorem p_ifaceNil {op : BinOp} {t t' : TypeId} {x : Operand} {ms : Array (String × TypeId)} {u : Value} {e b : Bool} (ht : P.underlying t = some (.interface ms)) (hx : ev env x = some u)
    (hu : nilI u = some e) (hb : eqB op e = some b) : PureOp P env (.binOp op t x (.const .nilIface) t') (.bool b) := by
  exact p_eq (y := .const .nilIface) (v := .nilIface) hx rfl g_nilLit (e_ifaceNil ht hu) (by cases u <;> simp [nilI] at hu <;> rfl) hb
/-- A slice against nil. -/
theorem e_sliceNil {d : Nat} {t e : TypeId} {A : Option Addr} {n c : Nat} {b : Bool} (ht : P.underlying t = some (.slice e)) (hb : A.isNone = b) :
    ∀ w, (Op.equalIn (d + 1) t (.slice A n c) (.slice none 0 0)).run P w = .ok b w := fun w => by
  subst hb
  cases A <;> simp [Op.equalIn, underlying, program, ht, Sem.run]
/-- A pointer against nil. -/
theorem e_ptrNil {d : Nat} {t e : TypeId} {A : Option Addr} {b : Bool} (ht : P.underlying t = some (.pointer e)) (hb : A.isNone = b) :
    ∀ w, (Op.equalIn (d + 1) t (.pointer A) (.pointer none)).run P w = .ok b w := fun w => by
  subst hb
  cases A <;> simp [Op.equalIn, underlying, program, ht, Sem.run, samePointer, sizeOf, typeInfo]
theorem p_int {src dst : TypeId} {x : Operand} {k k' : IntKind} {m z : Int} {d : TypeDesc} (hs : P.underlying src = some d) (hd : P.underlying dst = some (.int k)) (hx : ev env x = some (.int k' m)) (hz : k.wrap m = z) :
    PureOp P env (.convert src dst x) (.int k z) := fun _ a w o hE ho => by
  have h1 := hE.eval hx
  subst hz
  simp [execOp, ho, h1, convert, underlying, program, hs, hd, Sem.run, Conv.intToInt]
theorem p_extract {x : Operand} {vs : Array Value} {i : Nat} {v : Value} (hx : ev env x = some (.tuple vs)) (hv : vs[i]? = some v) : PureOp P env (.extract x i) v := fun _ a w o hE ho => by
  have h1 := hE.eval hx
  simp [execOp, ho, h1, Instr.extract, hv]
theorem p_nilCheck {x : Operand} {p : Addr} (hx : ev env x = some (.pointer (some p))) : PureOp P env (.nilCheck x) (.pointer (some p)) := fun _ a w o hE ho => by
  have h1 := hE.eval hx
  simp [execOp, ho, h1]
theorem p_func {fn : Fn} {first captured : Array Operand} {vs us : Array Value} (hv : first.toList.map (ev env) = vs.toList.map some) (hu : captured.toList.map (ev env) = us.toList.map some) :
    PureOp P env (.makeFunc fn first captured) (.func fn vs us) := fun _ a w o hE ho => by
  have key : ∀ (l : List Operand) (vs : List Value), l.map (ev env) = vs.map some → l.map a.eval = vs := by
    intro l
    induction l with
    | nil => intro vs h; cases vs with
      | nil => rfl
      | cons _ _ => simp at h
    | cons p l ih => intro vs h; cases vs with
      | nil => simp at h
      | cons q vs =>
        simp only [List.map_cons, List.cons.injEq] at h
        simp only [List.map_cons, ih vs h.2, hE.eval h.1]
  have h1 := key _ _ hv
  have h2 := key _ _ hu
  rw [← Array.toList_map] at h1 h2
  simp only [execOp, ho, Array.toList_inj.1 h1, Array.toList_inj.1 h2, Instr.makeFunc, Sem.run_bind, Sem.run_pure, Result.andThen_ok]
/-- Where field f of a struct lies (in cells), if it has any. -/
def fieldOff (P : Program) (s : TypeId) (f : Nat) : Option Nat :=
  match P.underlying s with
  | some (.struct fs) => match fs[f]? with
    | some fl => match P.info? fl.type with
      | some i => if i.size = 0 then none else some fl.offset
      | none => none
    | none => none
  | _ => none
theorem p_fieldAddr {s : TypeId} {x : Operand} {f b off n m : Nat} (hx : ev env x = some (.pointer (some ⟨b, off, none⟩))) (hf : fieldOff P s f = some n) (hm : off + n = m) :
    PureOp P env (.fieldAddr s x f) (.pointer (some ⟨b, m, none⟩)) := fun _ a w o hE ho => by
  have h1 := hE.eval hx
  subst hm
  unfold fieldOff at hf
  split at hf <;> try cases hf
  rename_i fs hs
  split at hf <;> try cases hf
  rename_i fl hfl
  split at hf <;> try cases hf
  rename_i i hi
  split at hf <;> try cases hf
  rename_i hz
  have hadd : (⟨b, off, none⟩ : Addr).add fl.offset = ⟨b, off + fl.offset, none⟩ := by unfold Addr.add; split <;> simp_all
  simp [execOp, ho, h1, Instr.fieldAt, underlying, program, hs, Sem.run, hfl, Instr.sureAddr, fieldPlace, sizeOf, typeInfo, hi, hz, hadd]
theorem p_indexAddr {t e : TypeId} {x y : Operand} {b off len cap size m : Nat} {k : IntKind} {i : Int} (hx : ev env x = some (.slice (some ⟨b, off, none⟩) len cap)) (hy : ev env y = some (.int k i))
    (ht : P.underlying t = some (.slice e)) (hs : (P.info? e).map (·.size) = some size) (h0 : 0 ≤ i) (h1 : i < len) (hm : off + i.toNat * size = m) :
    PureOp P env (.indexAddr t x y) (.pointer (some ⟨b, m, none⟩)) := fun _ a w o hE ho => by
  have e1 := hE.eval hx
  have e2 := hE.eval hy
  subst hm
  obtain ⟨inf, hi, rfl⟩ := Option.map_eq_some_iff.1 hs
  have hadd : ∀ n, (⟨b, off, none⟩ : Addr).add n = ⟨b, off + n, none⟩ := fun n => by unfold Addr.add; split <;> simp_all
  simp [execOp, ho, e1, e2, Instr.indexAt, asIntOf, underlying, program, ht, Sem.run, sizeOf, typeInfo, hi, hadd, h0, h1]
theorem p_len {t : TypeId} {e : TypeId} {x : Operand} {A : Option Addr} {n c : Nat} {ts : Array TypeId} (hx : ev env x = some (.slice A n c)) (hts : ts[0]? = some t) (ht : P.underlying t = some (.slice e)) :
    PureOp P env (.call { callee := .builtin .len, args := #[x], argTypes := ts }) (.int .i64 n) := fun _ a w o hE ho => by
  have h1 := hE.eval hx
  simp [execOp, ho, resolve, h1, invoke, builtin, Builtin.len_, hts, underlying, program, ht, Sem.run, goInt]
theorem p_slice {t e : TypeId} {x : Operand} {lo hi : Option Operand} {A : Option Addr} {n c size : Nat} {l h : Nat}
    (hx : ev env x = some (.slice A n c)) (ht : P.underlying t = some (.slice e)) (hs : (P.info? e).map (·.size) = some size)
    (hl : (match lo with | none => some 0 | some y => match ev env y with | some (.int _ i) => if 0 ≤ i then some i.toNat else none | _ => none) = some l)
    (hh : (match hi with | none => some n | some y => match ev env y with | some (.int _ i) => if 0 ≤ i then some i.toNat else none | _ => none) = some h) (hlh : l ≤ h) (hhc : h ≤ c) :
    PureOp P env (.slice t x lo hi none) (.slice (if c = l then A else A.map (·.add (l * size))) (h - l) (c - l)) := fun _ a w o hE ho => by
  have e1 := hE.eval hx
  obtain ⟨inf, hi', rfl⟩ := Option.map_eq_some_iff.1 hs
  have hb : ∀ (y : Operand) (m : Nat) (lim : Nat) (code : BoundsCode), (match ev env y with | some (.int _ i) => if 0 ≤ i then some i.toNat else none | _ => none) = some m → m ≤ lim →
      ∀ w, (Instr.sliceBound (a.eval y) lim code).run P w = .ok m w := fun y m lim code hm hle w => by
    split at hm <;> try cases hm
    rename_i k i hy
    split at hm <;> try cases hm
    rename_i h0
    have h2 : i ≤ (lim : Int) := by omega
    simp [Instr.sliceBound, hE.eval hy, asIntOf, h0, h2]
  cases lo <;> cases hi <;> simp only [Option.some.injEq] at hl hh
  · subst hl; subst hh
    simp [execOp, ho, e1, Instr.sliceAt, Instr.slice, underlying, program, ht, Sem.run, Instr.sliceBounds, sizeOf, typeInfo, hi']
  · subst hl
    rename_i y
    have := hb y h c .sliceAcap hh hhc
    simp [execOp, ho, e1, Instr.sliceAt, Instr.slice, underlying, program, ht, Sem.run, Instr.sliceBounds, sizeOf, typeInfo, hi', this]
  · subst hh
    rename_i y
    have := hb y l n .sliceB hl hlh
    simp [execOp, ho, e1, Instr.sliceAt, Instr.slice, underlying, program, ht, Sem.run, Instr.sliceBounds, sizeOf, typeInfo, hi', this]
  · rename_i y z
    have h2 := hb z h c .sliceAcap hh hhc
    have h3 := hb y l h .sliceB hl hlh
    simp [execOp, ho, e1, Instr.sliceAt, Instr.slice, underlying, program, ht, Sem.run, Instr.sliceBounds, sizeOf, typeInfo, hi', h2, h3]
end
end Go.Proofs.YtbogbnkckofpdaaDoor.B
