/- What functions of the program compute, each function once: steps over the model, and the plain law of it. -/
import Derived.Test.YtbogbnkckofpdaaDoorTTreeLaid
namespace Go.Proofs.YtbogbnkckofpdaaDoor.B
open Go Go.Proofs
set_option linter.unusedVariables false
set_option linter.unusedSimpArgs false
/-! ### Check, as a function of the pages -/
structure Ck where
 seen : List Int
 leaves : List Pg
 keys : Int
def entB (level : Int) (low : Bs) (high : Option Bs) (l : Ens) (i : Nat) : Bool :=
 if 0 < level ∧ i = 0 then decide ((l.getD i ([], [])).1 = [])
 else (!(decide ((l.getD i ([], [])).1 = []) || ltB (l.getD i ([], [])).1 low || (match high with | none => false | some h => !ltB (l.getD i ([], [])).1 h))) && (decide (i = 0) || ltB (l.getD (i - 1) ([], [])).1 (l.getD i ([], [])).1)
def entsOk (level : Int) (low : Bs) (high : Option Bs) (l : Ens) : Bool := (List.range l.length).all (entB level low high l)
def belowL (w : Int → Bs → Option Bs → Ck → Res Ck) (x : Pg) (low : Bs) (high : Option Bs) : Nat → Nat → Ck → Res Ck
 | 0, _, c => .ok c
 | n + 1, i, c => match atP x i with
  | .fail e o => .fail e o
  | .ok id => match w id (if 0 < i then (x.ents.getD i ([], [])).1 else low) (if i + 1 < x.ents.length then some (x.ents.getD (i + 1) ([], [])).1 else high) c with
   | .fail e o => .fail e o
   | .ok c => belowL w x low high n (i + 1) c
def Bt.walkF (b : Bt) : Nat → Int → Int → Bs → Option Bs → Ck → Res Ck
 | 0, _, _, _, _, _ => .fail 103 none
 | f + 1, id, level, low, high, c => if id ∈ c.seen ∨ level < 0 then .fail 103 none else match b.page id with
  | .fail e o => .fail e o
  | .ok x => if x.level ≠ level ∨ (0 < level ∧ x.ents = []) then .fail 103 none
   else if entsOk level low high x.ents = false then .fail 103 none
   else if level = 0 then .ok ⟨id :: c.seen, c.leaves ++ [x], c.keys + x.ents.length⟩
   else if x.next ≠ -1 then .fail 103 none
   else belowL (fun id low high c => b.walkF f id (level - 1) low high c) x low high x.ents.length 0 ⟨id :: c.seen, c.leaves, c.keys⟩
def Bt.belowF (b : Bt) (f : Nat) (x : Pg) (low : Bs) (high : Option Bs) (c : Ck) : Res Ck :=
 if x.next ≠ -1 then .fail 103 none else belowL (fun id low high c => b.walkF f id (x.level - 1) low high c) x low high x.ents.length 0 c
theorem entB_first {level : Int} {low : Bs} {high : Option Bs} {l : Ens} {e : Bs × Bs} (hl : 0 < level) (he : l[0]? = some e) : entB level low high l 0 = true ↔ e.1 = [] := by
 have : l.getD 0 ([], []) = e := by simp [List.getD, he]
 unfold entB
 rw [if_pos ⟨hl, rfl⟩, this]
 simp
theorem entB_rest {level : Int} {low : Bs} {high : Option Bs} {l : Ens} {i : Nat} {e : Bs × Bs} (hn : ¬ (0 < level ∧ i = 0)) (he : l[i]? = some e) :
  entB level low high l i = true ↔ e.1 ≠ [] ∧ ltB e.1 low = false ∧ (∀ h, high = some h → ltB e.1 h = true) ∧ (0 < i → ∀ p, l[i - 1]? = some p → ltB p.1 e.1 = true) := by
 have h1 : l.getD i ([], []) = e := by simp [List.getD, he]
 unfold entB
 rw [if_neg hn, h1]
 have h2 : (decide (i = 0) || ltB (l.getD (i - 1) ([], [])).1 e.1) = true ↔ (0 < i → ∀ p, l[i - 1]? = some p → ltB p.1 e.1 = true) := by
  rcases Nat.eq_zero_or_pos i with h0 | h0
  ·subst h0; simp
  have hi := (List.getElem?_eq_some_iff.1 he).1
  have h3 : l[i - 1]? = some l[i - 1] := List.getElem?_eq_getElem (by omega)
  have h4 : l.getD (i - 1) ([], []) = l[i - 1] := by simp [List.getD, h3]
  rw [h4]
  constructor
  ·intro h _ p hp
   rw [h3] at hp; injection hp with hp; subst hp
   simpa [show i ≠ 0 by omega] using h
  intro h
  simp [h h0 _ h3]
 cases high with
 | none => simp only [Bool.and_eq_true, h2]; simp [and_assoc]
 | some h => simp only [Bool.and_eq_true, h2]; simp [and_assoc]
theorem entsOk_iff {level : Int} {low : Bs} {high : Option Bs} {l : Ens} : entsOk level low high l = true ↔ ∀ i, i < l.length → entB level low high l i = true := by
 simp [entsOk]
theorem entsOk_no {level : Int} {low : Bs} {high : Option Bs} {l : Ens} {i : Nat} (hi : i < l.length) (h : ¬ entB level low high l i = true) : entsOk level low high l = false := by
 cases hq : entsOk level low high l with
 | false => rfl
 | true => exact absurd (entsOk_iff.1 hq i hi) h
section
variable {b : Bt} {f : Nat} {id level : Int} {low : Bs} {high : Option Bs} {c : Ck} {x : Pg}
theorem walk_seen (h : id ∈ c.seen ∨ level < 0) : b.walkF (f + 1) id level low high c = .fail 103 none := by rw [Bt.walkF, if_pos h]
theorem walk_page {e : Nat} {o : Option Int} (h : ¬ (id ∈ c.seen ∨ level < 0)) (hp : b.page id = .fail e o) : b.walkF (f + 1) id level low high c = .fail e o := by rw [Bt.walkF, if_neg h, hp]
theorem walk_shape (h : ¬ (id ∈ c.seen ∨ level < 0)) (hp : b.page id = .ok x) (hx : x.level ≠ level ∨ (0 < level ∧ x.ents = [])) : b.walkF (f + 1) id level low high c = .fail 103 none := by
 rw [Bt.walkF, if_neg h, hp]; simp only []; rw [if_pos hx]
theorem walk_ents (h : ¬ (id ∈ c.seen ∨ level < 0)) (hp : b.page id = .ok x) (hx : ¬ (x.level ≠ level ∨ (0 < level ∧ x.ents = []))) (he : entsOk level low high x.ents = false) : b.walkF (f + 1) id level low high c = .fail 103 none := by
 rw [Bt.walkF, if_neg h, hp]; simp only []; rw [if_neg hx, if_pos he]
theorem walk_leaf (h : ¬ (id ∈ c.seen ∨ level < 0)) (hp : b.page id = .ok x) (hx : ¬ (x.level ≠ level ∨ (0 < level ∧ x.ents = []))) (he : entsOk level low high x.ents = true) (h0 : level = 0) :
  b.walkF (f + 1) id level low high c = .ok ⟨id :: c.seen, c.leaves ++ [x], c.keys + x.ents.length⟩ := by
 rw [Bt.walkF, if_neg h, hp]; simp only []; rw [if_neg hx, if_neg (by rw [he]; simp), if_pos h0]
theorem walk_below (h : ¬ (id ∈ c.seen ∨ level < 0)) (hp : b.page id = .ok x) (hx : ¬ (x.level ≠ level ∨ (0 < level ∧ x.ents = []))) (he : entsOk level low high x.ents = true) (h0 : level ≠ 0) :
  b.walkF (f + 1) id level low high c = b.belowF f x low high ⟨id :: c.seen, c.leaves, c.keys⟩ := by
 have hl : x.level = level := by
  rcases Classical.em (x.level = level) with h | h
  ·exact h
  exact absurd (.inl h) hx
 rw [Bt.walkF, if_neg h, hp]; simp only []; rw [if_neg hx, if_neg (by rw [he]; simp), if_neg h0, Bt.belowF, hl]
end
/-- What of the pages seen holds all along. -/
structure CkOk (c : Ck) : Prop where
 nodup : c.seen.Nodup
 range : ∀ i ∈ c.seen, 0 ≤ i ∧ i < 256
 leaves : c.leaves.length ≤ c.seen.length
 keys0 : 0 ≤ c.keys
 keys1 : c.keys ≤ 8 * (c.leaves.length : Nat)
theorem nats_len : ∀ (n : Nat) (l : List Nat), l.Nodup → (∀ x ∈ l, x < n) → l.length ≤ n
 | 0, [], _, _ => by simp
 | 0, x :: l, _, h => by have := h x (by simp); omega
 | n + 1, l, hn, h => by
  have ih := nats_len n (l.erase n) (hn.erase n) (fun x hx => by
   have h1 := (hn.mem_erase_iff).1 hx
   have := h x h1.2
   omega)
  by_cases hm : n ∈ l
  ·rw [List.length_erase_of_mem hm] at ih
   omega
  rw [List.erase_of_not_mem hm] at ih
  omega
theorem ints_len {l : List Int} (h : l.Nodup) (hr : ∀ i ∈ l, 0 ≤ i ∧ i < 256) : l.length ≤ 256 := by
 have h2 : ∀ (l : List Int), l.Nodup → (∀ i ∈ l, 0 ≤ i ∧ i < 256) → (l.map Int.toNat).Nodup := by
  intro l
  induction l with
  | nil => intro _ _; simp
  | cons a r ih =>
   intro hn hq
   rw [List.nodup_cons] at hn
   rw [List.map_cons, List.nodup_cons]
   refine ⟨fun hm => ?_, ih hn.2 (fun i hi => hq i (by simp [hi]))⟩
   obtain ⟨b, hb, he⟩ := List.mem_map.1 hm
   have h1 := hq a (by simp); have h2 := hq b (by simp [hb])
   have : b = a := by omega
   exact hn.1 (this ▸ hb)
 have := nats_len 256 (l.map Int.toNat) (h2 l h hr) (fun x hx => by
  obtain ⟨i, hi, rfl⟩ := List.mem_map.1 hx
  have := hr i hi
  omega)
 simpa using this
def chainOk : List Pg → Bool
 | [] => true
 | [x] => decide (x.next = -1)
 | x :: y :: r => decide (x.next = y.id) && chainOk (y :: r)
/-- The map of the pages seen. -/
def seenM (ids : List Int) : List (Int × Value) := ids.reverse.map fun i => (i, .bool true)
theorem getM_map (k : Int) : ∀ l : List Int, getM (l.map fun i => (i, Value.bool true)) k = if k ∈ l then some (.bool true) else none
 | [] => by simp [getM]
 | i :: r => by
  rw [List.map_cons, getM, getM_map k r]
  by_cases h : i = k
  ·subst h; simp
  rw [if_neg h]
  have : (k ∈ i :: r) ↔ k ∈ r := by simp [Ne.symm h]
  simp only [this]
theorem getM_seen (ids : List Int) (k : Int) : getM (seenM ids) k = if k ∈ ids then some (.bool true) else none := by
 rw [seenM, getM_map]; simp only [List.mem_reverse]
theorem putM_end {v : Value} (k : Int) : ∀ m : List (Int × Value), (∀ p ∈ m, p.1 ≠ k) → putM m k v = m ++ [(k, v)]
 | [], _ => rfl
 | (q, u) :: r, h => by
  rw [putM, if_neg (h (q, u) (by simp)), putM_end k r (fun p hp => h p (by simp [hp]))]; rfl
theorem putM_seen {ids : List Int} {k : Int} (h : k ∉ ids) : putM (seenM ids) k (.bool true) = seenM (k :: ids) := by
 rw [putM_end]
 ·simp [seenM]
 intro p hp e
 simp only [seenM, List.mem_map, List.mem_reverse] at hp
 obtain ⟨i, hi, rfl⟩ := hp
 exact h (e ▸ hi)
theorem seenM_len (ids : List Int) : (seenM ids).length = ids.length := by simp [seenM]
theorem seenM_mem {ids : List Int} {p : Int × Value} (h : p ∈ seenM ids) : p.1 ∈ ids := by
 simp only [seenM, List.mem_map, List.mem_reverse] at h
 obtain ⟨i, hi, rfl⟩ := h
 exact hi
theorem CkOk.put {c : Ck} {id : Int} (h : CkOk c) (hn : id ∉ c.seen) (h0 : 0 ≤ id ∧ id < 256) : CkOk ⟨id :: c.seen, c.leaves, c.keys⟩ :=
 ⟨List.nodup_cons.2 ⟨hn, h.nodup⟩, fun i hi => by
  rcases List.mem_cons.1 hi with rfl | hi
  ·exact h0
  exact h.range i hi, by have := h.leaves; simp only [List.length_cons]; omega, h.keys0, h.keys1⟩
theorem CkOk.leaf {c : Ck} {id : Int} {x : Pg} (h : CkOk c) (hn : id ∉ c.seen) (h0 : 0 ≤ id ∧ id < 256) (hx : x.ents.length ≤ 8) : CkOk ⟨id :: c.seen, c.leaves ++ [x], c.keys + x.ents.length⟩ :=
 ⟨(h.put hn h0).nodup, (h.put hn h0).range, by have := h.leaves; simp only [List.length_cons, List.length_append, List.length_nil]; omega, by have := h.keys0; simp only []; omega, by have := h.keys1; simp only [List.length_append, List.length_cons, List.length_nil]; omega⟩
end Go.Proofs.YtbogbnkckofpdaaDoor.B
