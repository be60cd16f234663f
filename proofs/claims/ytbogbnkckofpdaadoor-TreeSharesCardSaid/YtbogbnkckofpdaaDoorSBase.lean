/- A program logic over the model: what is owned, what is written no more, and one lemma for each kind of step. -/
import Derived.OrdersHeld
import Derived.Tactics
import Derived.KernelRfl
namespace Go.Proofs.YtbogbnkckofpdaaDoor.B
open Go
/-! ### the slots of a frame -/
abbrev Env := List (Nat × Value)
def look : Env → Nat → Option Value
  | [], _ => none
  | (k, v) :: r, t => bif Nat.beq t k then some v else look r t
structure EnvOk (N : Nat) (env : Env) (a : Act) : Prop where
  defers : a.defers = []
  size : a.tmps.size = N
  get : ∀ t v, look env t = some v → a.tmps[t]? = some v
theorem look_cons (k : Nat) (v : Value) (r : Env) (t : Nat) : look ((k, v) :: r) t = if t = k then some v else look r t := by
  simp only [look]
  by_cases h : t = k
  · subst h; simp
  · rw [if_neg h]
    have : Nat.beq t k = false := by
      cases hb : Nat.beq t k with
      | false => rfl
      | true => exact absurd (Nat.eq_of_beq_eq_true hb) h
    rw [this]; rfl
theorem EnvOk.put {N d : Nat} {env : Env} {a : Act} (h : EnvOk N env a) (hd : Nat.blt d N = true) (v : Value) : EnvOk N ((d, v) :: env) (a.put (some d) v) := by
  have hd' : d < N := by
    have := Nat.le_of_ble_eq_true hd
    omega
  refine ⟨h.defers, by simp [Act.put, h.size], fun t u hu => ?_⟩
  rw [look_cons] at hu
  simp only [Act.put]
  by_cases e : t = d
  · subst e
    rw [if_pos rfl] at hu
    rw [Array.getElem?_setIfInBounds_self_of_lt (by rw [h.size]; exact hd')]
    exact hu
  · rw [if_neg e] at hu
    rw [Array.getElem?_setIfInBounds_ne (fun h => e h.symm)]
    exact h.get t u hu
theorem EnvOk.sub {N : Nat} {env env' : Env} {a : Act} (h : EnvOk N env a) (hs : ∀ t v, look env' t = some v → look env t = some v) : EnvOk N env' a :=
  ⟨h.defers, h.size, fun t v ht => h.get t v (hs t v ht)⟩
/-- Only these slots are kept. -/
def pick (env : Env) : List Nat → Env
  | [] => []
  | t :: ts => match look env t with
    | some v => (t, v) :: pick env ts
    | none => pick env ts
theorem look_pick (env : Env) : ∀ (ts : List Nat) (t : Nat) (v : Value), look (pick env ts) t = some v → look env t = some v
  | [], t, v, h => by simp [pick, look] at h
  | s :: ts, t, v, h => by
    simp only [pick] at h
    split at h
    · rename_i u hu
      rw [look_cons] at h
      by_cases e : t = s
      · subst e; rw [if_pos rfl] at h; rw [hu]; exact h
      · rw [if_neg e] at h; exact look_pick env ts t v h
    · exact look_pick env ts t v h
theorem EnvOk.pick {N : Nat} {env : Env} {a : Act} (h : EnvOk N env a) (ts : List Nat) : EnvOk N (pick env ts) a := h.sub (look_pick env ts)
def ev (env : Env) : Operand → Option Value
  | .tmp t => look env t
  | .const v => some v
  | .global g => some (.pointer (some ⟨g, 0, none⟩))
  | .func f => some (.func (.func f) #[] #[])
theorem EnvOk.eval {N : Nat} {env : Env} {a : Act} (h : EnvOk N env a) {x : Operand} {v : Value} (hx : ev env x = some v) : a.eval x = v := by
  cases x with
  | tmp t =>
    have := h.get t v hx
    simp [Act.eval, Array.getD_eq_getD_getElem?, this]
  | const u => simpa [ev, Act.eval] using hx
  | global g => simpa [ev, Act.eval] using hx
  | func f => simpa [ev, Act.eval] using hx
/-! ### the world: data that is written no more, and what is owned -/
abbrev Sto := Nat → Option Obj
abbrev Seg := List (Nat × Obj)
structure Inv (w0 : World) (D : Sto) (ss : List Seg) (w : World) : Prop where
  os : w.os = w0.os
  tape : w.tape = w0.tape
  output : w.output = w0.output
  size : w0.heap.size ≤ w.heap.size
  data : ∀ b o, D b = some o → w.heap[b]? = some o
  own : ∀ p ∈ ss.flatten, w.heap[p.1]? = some p.2
  apart : ∀ p ∈ ss.flatten, D p.1 = none
  nodup : (ss.flatten.map (·.1)).Nodup
def Le (D D' : Sto) : Prop := ∀ b o, D b = some o → D' b = some o
theorem Le.refl (D : Sto) : Le D D := fun _ _ h => h
theorem Le.trans {D D' D'' : Sto} (h : Le D D') (k : Le D' D'') : Le D D'' := fun b o hb => k b o (h b o hb)
section
variable {w0 w : World} {D : Sto} {ss : List Seg}
theorem Inv.perm {ss' : List Seg} (h : Inv w0 D ss w) (hp : ss'.flatten.Perm ss.flatten) : Inv w0 D ss' w :=
  ⟨h.os, h.tape, h.output, h.size, h.data, fun p hm => h.own p (hp.mem_iff.1 hm), fun p hm => h.apart p (hp.mem_iff.1 hm), (hp.map _).nodup_iff.2 h.nodup⟩
/-- Segment i first. -/
def bring (i : Nat) (ss : List Seg) : List Seg := match ss[i]? with
  | some s => s :: ss.eraseIdx i
  | none => ss
theorem erase_perm {α : Type} {s : α} : ∀ (i : Nat) (l : List α), l[i]? = some s → (s :: l.eraseIdx i).Perm l
  | _, [], h => by simp at h
  | 0, x :: r, h => by
    have : x = s := by simpa using h
    subst this; exact List.Perm.refl _
  | i + 1, x :: r, h => by
    have ih := erase_perm i r (by simpa using h)
    rw [List.eraseIdx_cons_succ]
    exact (List.Perm.swap x s _).trans (ih.cons x)
theorem bring_perm (i : Nat) (ss : List Seg) : (bring i ss).flatten.Perm ss.flatten := by
  simp only [bring]
  split
  · rename_i s hs
    exact (erase_perm i ss hs).flatten
  · exact List.Perm.refl _
theorem Inv.bring (h : Inv w0 D ss w) (i : Nat) : Inv w0 D (bring i ss) w := h.perm (bring_perm i ss)
/-- The first segment is owned no more. -/
theorem Inv.drop {s : Seg} (h : Inv w0 D (s :: ss) w) : Inv w0 D ss w :=
  ⟨h.os, h.tape, h.output, h.size, h.data, fun p hm => h.own p (by simp only [List.flatten_cons, List.mem_append]; exact .inr hm),
   fun p hm => h.apart p (by simp only [List.flatten_cons, List.mem_append]; exact .inr hm),
   by have := h.nodup; simp only [List.flatten_cons, List.map_append] at this; exact (List.nodup_append.1 this).2.1⟩
def Sto.put (D : Sto) : Seg → Sto
  | [] => D
  | (b, o) :: r => fun k => if k = b then some o else Sto.put D r k
theorem Sto.put_none (D : Sto) : ∀ (s : Seg) (k : Nat), k ∉ s.map (·.1) → Sto.put D s k = D k
  | [], k, _ => rfl
  | (b, o) :: r, k, h => by
    simp only [List.map_cons, List.mem_cons, not_or] at h
    simp only [Sto.put, if_neg h.1]
    exact Sto.put_none D r k h.2
theorem Sto.put_some (D : Sto) : ∀ (s : Seg) (k : Nat) (o : Obj), Sto.put D s k = some o → (k, o) ∈ s ∨ D k = some o
  | [], k, o, h => .inr h
  | (b, o') :: r, k, o, h => by
    simp only [Sto.put] at h
    split at h
    · rename_i e; subst e; injection h with h; subst h; exact .inl (by simp)
    · rcases Sto.put_some D r k o h with h' | h'
      · exact .inl (by simp [h'])
      · exact .inr h'
/-- The first segment is written no more: it is data. -/
theorem Inv.shut {s : Seg} (h : Inv w0 D (s :: ss) w) : Inv w0 (Sto.put D s) ss w := by
  have hd := h.drop
  have hn := h.nodup
  simp only [List.flatten_cons, List.map_append] at hn
  obtain ⟨h1, h2, h3⟩ := List.nodup_append.1 hn
  refine ⟨h.os, h.tape, h.output, h.size, fun b o hb => ?_, hd.own, fun p hm => ?_, hd.nodup⟩
  · rcases Sto.put_some D s b o hb with hb | hb
    · exact h.own (b, o) (by simp [hb])
    · exact h.data b o hb
  · rw [Sto.put_none]
    · exact hd.apart p hm
    · intro hk
      exact h3 p.1 hk p.1 (List.mem_map_of_mem hm) rfl
theorem Le.put {D : Sto} {s : Seg} (h : ∀ p ∈ s, D p.1 = none) : Le D (Sto.put D s) := by
  intro b o hb
  rw [Sto.put_none]
  · exact hb
  · intro hm
    obtain ⟨p, hp, rfl⟩ := List.mem_map.1 hm
    rw [h p hp] at hb
    cases hb
theorem Inv.le_shut {s : Seg} (h : Inv w0 D (s :: ss) w) : Le D (Sto.put D s) := Le.put fun p hp => h.apart p (by simp [hp])
theorem Inv.head {b : Nat} {o : Obj} (h : Inv w0 D ([(b, o)] :: ss) w) : w.heap[b]? = some o := h.own (b, o) (by simp)
theorem Inv.drawn (h : Inv w0 D ss w) (n : Nat) : Inv w0 D ss { w with drawn := n } := ⟨h.os, h.tape, h.output, h.size, h.data, h.own, h.apart, h.nodup⟩
theorem heap_lt {w : World} {b : Nat} {o : Obj} (h : w.heap[b]? = some o) : b < w.heap.size := (Array.getElem?_eq_some_iff.1 h).1
/-- A new block. -/
theorem Inv.new (h : Inv w0 D ss w) (o : Obj) : Inv w0 D ([(w.heap.size, o)] :: ss) { w with heap := w.heap.push o } := by
  have hlt : ∀ b o', w.heap[b]? = some o' → (w.heap.push o)[b]? = some o' := fun b o' hb => by
    have := heap_lt hb
    rw [Array.getElem?_push_lt this]
    exact (Array.getElem?_eq_getElem this).symm.trans hb
  refine ⟨h.os, h.tape, h.output, by simp; have := h.size; omega, fun b o' hb => hlt b o' (h.data b o' hb), fun p hp => ?_, fun p hp => ?_, ?_⟩
  · simp only [List.flatten_cons, List.mem_append, List.mem_singleton] at hp
    rcases hp with rfl | hp
    · simp
    · exact hlt _ _ (h.own p hp)
  · simp only [List.flatten_cons, List.mem_append, List.mem_singleton] at hp
    rcases hp with rfl | hp
    · cases hD : D w.heap.size with
      | none => rfl
      | some o' => have := heap_lt (h.data _ _ hD); omega
    · exact h.apart p hp
  · simp only [List.flatten_cons, List.map_cons, List.singleton_append, List.nodup_cons]
    refine ⟨fun hm => ?_, h.nodup⟩
    obtain ⟨p, hp, he⟩ := List.mem_map.1 hm
    have := heap_lt (h.own p hp)
    omega
/-- The first block turned. -/
theorem Inv.turn {b : Nat} {o o' : Obj} (h : Inv w0 D ([(b, o)] :: ss) w) : Inv w0 D ([(b, o')] :: ss) { w with heap := w.heap.setIfInBounds b o' } := by
  have hb := h.head
  have hD : D b = none := h.apart (b, o) (by simp)
  have hn := h.nodup
  simp only [List.flatten_cons, List.map_cons, List.singleton_append, List.nodup_cons] at hn
  refine ⟨h.os, h.tape, h.output, by simp; exact h.size, fun k x hk => ?_, fun p hp => ?_, fun p hp => ?_, ?_⟩
  · have hne : b ≠ k := fun e => by subst e; rw [hD] at hk; cases hk
    show (w.heap.setIfInBounds b o')[k]? = some x
    rw [Array.getElem?_setIfInBounds_ne hne]
    exact h.data k x hk
  · simp only [List.flatten_cons, List.mem_append, List.mem_singleton] at hp
    show (w.heap.setIfInBounds b o')[p.1]? = some p.2
    rcases hp with rfl | hp
    · exact Array.getElem?_setIfInBounds_self_of_lt (heap_lt hb)
    · rw [Array.getElem?_setIfInBounds_ne (fun e => hn.1 (by rw [e]; exact List.mem_map_of_mem hp))]
      exact h.own p (by simp [hp])
  · simp only [List.flatten_cons, List.mem_append, List.mem_singleton] at hp
    rcases hp with rfl | hp
    · exact hD
    · exact h.apart p (by simp [hp])
  · simpa using hn
end
end Go.Proofs.YtbogbnkckofpdaaDoor.B
