/- What functions of the program compute, each function once: steps over the model, and the plain law of it. -/
import Derived.Test.YtbogbnkckofpdaaDoorTWire2
import Derived.Test.YtbogbnkckofpdaaDoorTUndoOrder
namespace Go.Proofs.YtbogbnkckofpdaaDoor.B
open Go
set_option linter.unusedVariables false
theorem bytes_okR {r : Rd} (hr : r.Ok) {most : Int} : (r.bytes most).2.Ok := by
  have h := num_ok hr 0 most
  unfold Rd.bytes; simp only
  split
  · exact h
  · split
    · exact ⟨by show r.pos ≤ (r.num 0 most).2.bs.length; rw [num_bs]; exact hr.le, h.most⟩
    · rename_i h2
      exact ⟨by show _ + _ ≤ (r.num 0 most).2.bs.length; have := h.le; omega, h.most⟩
structure Ent where
  tx : Int
  n : Int
  key : List Nat
  had : Bool
  value : List Nat
def Ent.Ok (e : Ent) : Prop := (1 ≤ e.tx ∧ e.tx ≤ 2251799813685248 ∧ 0 ≤ e.n ∧ e.n < 12) ∧ (1 ≤ e.key.length ∧ e.key.length ≤ 20) ∧ e.value.length ≤ 24 ∧ (e.had = true ∨ e.value.length = 0)
def hadZ (b : Bool) : Int := if b then 1 else 0
def Ent.enc (e : Ent) : List Nat := putZ (e.key.length : Nat) ++ e.key ++ putZ (hadZ e.had) ++ putZ (e.value.length : Nat) ++ e.value
theorem enc_lt {e : Ent} (hk : ∀ x ∈ e.key, x < 256) (hv : ∀ x ∈ e.value, x < 256) : ∀ x ∈ e.enc, x < 256 := by
  intro x hx
  simp only [Ent.enc, List.mem_append] at hx
  rcases hx with (((h | h) | h) | h) | h
  · exact putZ_lt _ x h
  · exact hk x h
  · exact putZ_lt _ x h
  · exact putZ_lt _ x h
  · exact hv x h
theorem putZ_small {n : Int} (h0 : 0 ≤ n) (h1 : n < 64) : putZ n = [(2 * n).toNat] := by
  unfold putZ zig
  rw [if_pos h0, putN, if_pos (by omega)]
theorem enc_len {e : Ent} (h : e.Ok) : e.enc.length ≤ 60 := by
  obtain ⟨_, ⟨h1, h2⟩, h3, _⟩ := h
  have e1 : (putZ (e.key.length : Nat)).length = 1 := by rw [putZ_small (by omega) (by omega)]; rfl
  have e2 : (putZ (hadZ e.had)).length = 1 := by rw [putZ_small (by unfold hadZ; split <;> omega) (by unfold hadZ; split <;> omega)]; rfl
  have e3 : (putZ (e.value.length : Nat)).length = 1 := by rw [putZ_small (by omega) (by omega)]; rfl
  simp only [Ent.enc, List.length_append, e1, e2, e3]
  omega
def saidL (k : List Nat) : Option (Int × Int) :=
  if k.length = 10 ∧ k.getD 0 0 = 117 then
    if 1 ≤ valL ((k.drop 1).take 8) ∧ valL ((k.drop 1).take 8) ≤ 2251799813685248 ∧ k.getD 9 0 < 12 then some ((valL ((k.drop 1).take 8) : Nat), (k.getD 9 0 : Nat)) else none
  else none
theorem be8_len (t : Int) : (be8 t).length = 8 := by simp [be8]
theorem valL_snoc (l : List Nat) (x : Nat) : valL (l ++ [x]) = valL l * 256 + x := by simp [valL]
theorem said_key {t n : Int} (h : 1 ≤ t ∧ t ≤ 2251799813685248 ∧ 0 ≤ n ∧ n < 12) : saidL (keyL t n) = some (t, n) := by
  obtain ⟨h1, h2, h3, h4⟩ := h
  obtain ⟨t', rfl⟩ : ∃ t' : Nat, t = t' := ⟨t.toNat, by omega⟩
  obtain ⟨n', rfl⟩ : ∃ n' : Nat, n = n' := ⟨n.toNat, by omega⟩
  have hk := valL_key t' n' (by omega) (by omega)
  have e1 : keyL t' n' = 117 :: (be8 t' ++ [n']) := by
    simp only [keyL, List.cons_append]
    congr 3
    omega
  have e2 : ((keyL t' n').drop 1).take 8 = be8 t' := by
    rw [e1]
    simp only [List.drop_succ_cons, List.drop_zero]
    rw [List.take_left' (be8_len _)]
  have e3 : (keyL t' n').getD 9 0 = n' := by
    rw [e1, List.getD_eq_getElem?_getD, List.getElem?_cons_succ, List.getElem?_append_right (by rw [be8_len]; omega), be8_len]
    rfl
  have e4 : valL (be8 t') = t' := by
    rw [e1, valL_cons, valL_snoc] at hk
    simp only [List.length_append, be8_len, List.length_cons, List.length_nil] at hk
    omega
  unfold saidL
  rw [if_pos ⟨keyL_len _ _, by rw [e1]; rfl⟩, e2, e3, e4, if_pos (by omega)]
theorem said_ok {k : List Nat} {t n : Int} (h : saidL k = some (t, n)) : 1 ≤ t ∧ t ≤ 2251799813685248 ∧ 0 ≤ n ∧ n < 12 := by
  unfold saidL at h
  split at h
  · split at h
    · injection h with h; injection h with h1 h2; omega
    · cases h
  · cases h

/-! ### what a reader takes of what was put -/
def Rd.rem (r : Rd) : List Nat := r.bs.drop r.pos
theorem rem_len (r : Rd) : r.rem.length = r.bs.length - r.pos := by simp [Rd.rem]
theorem num_put {r : Rd} {m low high : Int} {rest : List Nat} (he : r.err = .none) (hr : r.rem = putZ m ++ rest) (h0 : low ≤ m) (h1 : m ≤ high) (h2 : -9223372036854775808 ≤ m) (h3 : m ≤ 9223372036854775807) :
    r.num low high = (m, { r with pos := r.pos + (putZ m).length }) := by
  unfold Rd.num
  rw [if_neg (by rw [he]; simp)]
  have hg := getN_put (zig m) 0 0 rest (by have := zig_lt h2 h3; simp; omega) (by omega) (by omega)
  have hr' : r.bs.drop r.pos = putN (zig m) ++ rest := hr
  rw [hr', hg]
  simp only [Nat.mul_zero, Nat.pow_zero, Nat.mul_one, Nat.zero_add, unzig_zig]
  rw [if_neg (by omega)]
  rfl
theorem rem_step {r : Rd} {xs rest : List Nat} (hr : r.rem = xs ++ rest) : ({ r with pos := r.pos + xs.length } : Rd).rem = rest := by
  simp only [Rd.rem] at hr ⊢
  rw [← List.drop_drop, hr, List.drop_left]
theorem bytes_put {r : Rd} {most : Int} {xs rest : List Nat} (he : r.err = .none) (hr : r.rem = putZ (xs.length : Nat) ++ (xs ++ rest)) (h1 : (xs.length : Int) ≤ most) (h3 : xs.length ≤ 1000) :
    r.bytes most = (xs, { r with pos := r.pos + (putZ (xs.length : Nat) ++ xs).length }) := by
  have hn := num_put (low := 0) (high := most) he hr (by omega) h1 (by omega) (by omega)
  have hrem := rem_step hr
  unfold Rd.bytes
  simp only [hn]
  rw [if_neg (by rw [he]; simp)]
  have hl : ({ r with pos := r.pos + (putZ (xs.length : Nat)).length } : Rd).rem.length = (xs ++ rest).length := by rw [hrem]
  rw [rem_len] at hl
  simp only [List.length_append] at hl
  rw [if_neg (by omega)]
  simp only [Rd.rem] at hrem
  simp only [Int.toNat_natCast, hrem, List.take_left, List.length_append, Nat.add_assoc]
theorem num_inv {r : Rd} {low high : Int} (hb : ∀ x ∈ r.bs, x < 256) (he : (r.num low high).2.err = .none) :
    ∃ rest, r.rem = putZ (r.num low high).1 ++ rest ∧ (r.num low high).2 = { r with pos := r.pos + (putZ (r.num low high).1).length } ∧ r.err = .none := by
  have hr := num_range low high he
  unfold Rd.num at he ⊢
  rw [if_neg (by rw [hr.2.2]; simp)] at he ⊢
  split at he
  · cases he
  · rename_i z k hk
    obtain ⟨z1, rest, h1, h2, h3, _, _⟩ := getN_inv _ 0 0 z k (fun x hx => hb x (List.mem_of_mem_drop hx)) hk (by omega)
    simp only [Nat.mul_zero, Nat.pow_zero, Nat.mul_one, Nat.zero_add] at h1 h3
    subst h1
    split at he
    · cases he
    · rename_i h4
      simp only [if_neg h4]
      refine ⟨rest, ?_, ?_, hr.2.2⟩
      · unfold putZ; rw [zig_unzig]; exact h2
      · unfold putZ; rw [zig_unzig, h3]
theorem bytes_inv {r : Rd} {most : Int} (hok : r.Ok) (hb : ∀ x ∈ r.bs, x < 256) (he : (r.bytes most).2.err = .none) :
    ∃ rest, r.rem = putZ ((r.bytes most).1.length : Nat) ++ ((r.bytes most).1 ++ rest) ∧ (r.bytes most).2 = { r with pos := r.pos + (putZ ((r.bytes most).1.length : Nat) ++ (r.bytes most).1).length } ∧ r.err = .none ∧ ((r.bytes most).1.length : Int) ≤ most := by
  have hx : (r.num 0 most).2.err = .none := by
    unfold Rd.bytes at he; simp only at he
    split at he
    · exact he
    · rename_i h; simpa using h
  have hy : ¬ (((r.num 0 most).2.bs.length - (r.num 0 most).2.pos : Nat) : Int) < (r.num 0 most).1 := by
    intro h
    unfold Rd.bytes at he; simp only at he
    rw [if_neg (by rw [hx]; simp), if_pos h] at he
    cases he
  have e1 : (r.bytes most).1 = _ := bytes_ok hx (by omega)
  have e2 : (r.bytes most).2 = _ := bytes_ok' hx (by omega)
  obtain ⟨rest, h1, h2, h3⟩ := num_inv hb hx
  have hr := num_range 0 most hx
  have hrem := rem_step h1
  rw [← h2] at hrem
  simp only [Rd.rem] at hrem
  have hlen : (r.bytes most).1.length = (r.num 0 most).1.toNat := by
    rw [e1, List.length_take, List.length_drop]
    omega
  have hz : (((r.bytes most).1.length : Nat) : Int) = (r.num 0 most).1 := by rw [hlen]; omega
  refine ⟨rest.drop (r.num 0 most).1.toNat, ?_, ?_, h3, by rw [hz]; exact hr.2.1⟩
  · rw [hz, e1, hrem, List.take_append_drop]; exact h1
  · rw [e2, h2, hz]
    simp only [List.length_append, hlen, Nat.add_assoc]
def readP (k v : List Nat) : Flt ⊕ Ent := match saidL k with
  | none => .inl (.bare 103)
  | some (t, n) =>
    let x1 := (⟨v, 0, .none⟩ : Rd).bytes 20
    let x2 := x1.2.num 0 1
    let x3 := x2.2.bytes 24
    if x3.2.err ≠ .none then .inl x3.2.err else
    if 0 < x3.2.bs.length - x3.2.pos then .inl (.at_ 103 x3.2.pos) else
    if 1 ≤ x1.1.length ∧ (x2.1 = 1 ∨ x3.1.length = 0) then .inr ⟨t, n, x1.1, decide (x2.1 = 1), x3.1⟩ else .inl (.bare 105)
theorem hadZ_one (b : Bool) : decide (hadZ b = 1) = b := by cases b <;> rfl
/-- What was put is read; with more behind it, it is none. -/
theorem read_enc {e : Ent} (h : e.Ok) (rest : List Nat) : readP (keyL e.tx e.n) (e.enc ++ rest) = if 0 < rest.length then .inl (.at_ 103 e.enc.length) else .inr e := by
  obtain ⟨h1, ⟨h2, h3⟩, h4, h5⟩ := h
  unfold readP
  rw [said_key h1]
  simp only
  have r0 : (⟨e.enc ++ rest, 0, .none⟩ : Rd).rem = putZ (e.key.length : Nat) ++ (e.key ++ (putZ (hadZ e.had) ++ (putZ (e.value.length : Nat) ++ (e.value ++ rest)))) := by simp [Rd.rem, Ent.enc]
  have b1 := bytes_put (most := 20) rfl r0 (by omega) (by omega)
  rw [b1]
  have r1 := rem_step (xs := putZ (e.key.length : Nat) ++ e.key) (rest := putZ (hadZ e.had) ++ (putZ (e.value.length : Nat) ++ (e.value ++ rest))) (by rw [r0]; simp)
  dsimp only at r1 ⊢
  have hz : 0 ≤ hadZ e.had ∧ hadZ e.had ≤ 1 := by unfold hadZ; split <;> omega
  have b2 := num_put (low := 0) (high := 1) rfl r1 hz.1 hz.2 (by omega) (by omega)
  dsimp only at b2 ⊢
  rw [b2]
  have r2 := rem_step r1
  dsimp only at r2 ⊢
  have b3 := bytes_put (most := 24) rfl r2 (by omega) (by omega)
  dsimp only at b3 ⊢
  rw [b3]
  dsimp only
  have hlen : 0 + (putZ (e.key.length : Nat) ++ e.key).length + (putZ (hadZ e.had)).length + (putZ (e.value.length : Nat) ++ e.value).length = e.enc.length := by
    simp only [Ent.enc, List.length_append]; omega
  simp only [ne_eq, not_true_eq_false, if_false, hlen]
  have hc : (e.enc ++ rest).length - e.enc.length = rest.length := by simp
  rw [hc]
  split
  · rfl
  · rw [if_pos ⟨h2, by rcases h5 with h | h; left; rw [h]; rfl; right; exact h⟩, hadZ_one]
/-- What is read was put. -/
theorem read_inv {k v : List Nat} {e : Ent} (hl : v.length ≤ 140737488355328) (hb : ∀ x ∈ v, x < 256) (h : readP k v = .inr e) : v = e.enc ∧ e.Ok ∧ saidL k = some (e.tx, e.n) := by
  unfold readP at h
  split at h
  · cases h
  · rename_i t n hs
    simp only at h
    generalize hx1 : (⟨v, 0, .none⟩ : Rd).bytes 20 = x1 at h
    generalize hx2 : x1.2.num 0 1 = x2 at h
    generalize hx3 : x2.2.bytes 24 = x3 at h
    split at h
    · cases h
    · rename_i he
      have he : x3.2.err = .none := by simpa using he
      split at h
      · cases h
      · rename_i hleft
        split at h
        · rename_i hv
          injection h with h
          subst h
          have ok0 : (⟨v, 0, .none⟩ : Rd).Ok := ⟨Nat.zero_le _, hl⟩
          have bs1 : x1.2.bs = v := by rw [← hx1]; exact bytes_bs _ _
          have bs2 : x2.2.bs = v := by rw [← hx2, num_bs]; exact bs1
          have ok1 : x1.2.Ok := by
            have := bytes_okR ok0 (most := 20); rw [hx1] at this; exact this
          have ok2 : x2.2.Ok := by rw [← hx2]; exact num_ok ok1 0 1
          subst hx3
          obtain ⟨rest3, a1, a2, a3, a4⟩ := bytes_inv ok2 (by rw [bs2]; exact hb) he
          subst hx2
          obtain ⟨rest2, c1, c2, c3⟩ := num_inv (by rw [bs1]; exact hb) a3
          have hrg := num_range 0 1 a3
          subst hx1
          obtain ⟨rest1, d1, d2, d3, d4⟩ := bytes_inv ok0 hb c3
          have e1 := rem_step (rest := rest1) (xs := putZ (((⟨v, 0, .none⟩ : Rd).bytes 20).1.length : Nat) ++ ((⟨v, 0, .none⟩ : Rd).bytes 20).1) (by rw [d1]; simp only [List.append_assoc])
          rw [← d2, c1] at e1
          have e2 := rem_step c1
          rw [← c2, a1] at e2
          have e3 := rem_step (rest := rest3) (xs := putZ (((((⟨v, 0, .none⟩ : Rd).bytes 20).2.num 0 1).2.bytes 24).1.length : Nat) ++ ((((⟨v, 0, .none⟩ : Rd).bytes 20).2.num 0 1).2.bytes 24).1) (by rw [a1]; simp only [List.append_assoc])
          rw [← a2] at e3
          have e4 : rest3 = [] := by
            have := congrArg List.length e3
            rw [rem_len] at this
            exact List.eq_nil_of_length_eq_zero (by omega)
          have hv0 : v = (⟨v, 0, .none⟩ : Rd).rem := by simp [Rd.rem]
          have hone : hadZ (decide ((((⟨v, 0, .none⟩ : Rd).bytes 20).2.num 0 1).1 = 1)) = (((⟨v, 0, .none⟩ : Rd).bytes 20).2.num 0 1).1 := by
            unfold hadZ
            split
            · rename_i h; simp at h; omega
            · rename_i h; simp at h; omega
          refine ⟨?_, ⟨said_ok hs, ⟨hv.1, by dsimp only; omega⟩, by dsimp only; omega, ?_⟩, hs⟩
          · conv => lhs; rw [hv0, d1, ← e1, ← e2, e4]
            simp only [Ent.enc, hone, List.append_assoc, List.append_nil]
          · rcases hv.2 with h | h
            · left; simp [h]
            · right; exact h
        · cases h
end Go.Proofs.YtbogbnkckofpdaaDoor.B
