/- What functions of the program compute, each function once: steps over the model, and the plain law of it. -/
import Derived.Test.YtbogbnkckofpdaaDoorTBadP
namespace Go.Proofs.YtbogbnkckofpdaaDoor.B
open Go Go.Proofs
set_option linter.unusedVariables false
set_option linter.unusedSimpArgs false
/-! ### from the root down to a leaf -/
theorem Chs.nthK {C : CP} : ∀ (es : Ens) {lo hi fl nx ids kv}, Chs C es lo hi fl nx ids kv → ∀ k, k < es.length → ∃ lo' hi' fl' nx' js kv', C (numberP (es.getD k ([], [])).2) lo' hi' fl' nx' js kv' ∧ (∀ i ∈ js, i ∈ ids) ∧ ∀ e ∈ kv', e ∈ kv
 | [], _, _, _, _, _, _, h, _, _ => h.elim
 | [e], lo, hi, fl, nx, ids, kv, h, k, hk => by
  obtain rfl : k = 0 := by simp at hk; omega
  exact ⟨_, _, _, _, _, _, h.2, fun _ hi => hi, fun _ h => h⟩
 | e :: e2 :: r, lo, hi, fl, nx, ids, kv, h, k, hk => by
  obtain ⟨h0, h1, h2, md, i1, i2, k1, k2, rfl, rfl, h3, h4⟩ := h
  cases k with
  | zero => exact ⟨_, _, _, _, _, _, h3, fun i hi => by simp [hi], fun e he => by simp [he]⟩
  | succ k =>
   obtain ⟨lo', hi', fl', nx', js, kv', q1, q2, q3⟩ := Chs.nthK (e2 :: r) h4 k (by simpa using hk)
   exact ⟨lo', hi', fl', nx', js, kv', by simpa using q1, fun i hi => by simp [q2 i hi], fun e he => by simp [q3 e he]⟩
def AtPg (b : Bt) (ids : List Int) (kv : Ens) (id : Int) (m : Nat) : Prop := ∃ lo hi fl nx js kv', SubT b.view m id lo hi fl nx js kv' ∧ (∀ i ∈ js, i ∈ ids) ∧ ∀ e ∈ kv', e ∈ kv
theorem AtPg.view {b : Bt} {ids : List Int} {kv : Ens} {id : Int} {m : Nat} (h : AtPg b ids kv id m) : ∃ x, b.view id = some x ∧ x.level = (m : Int) ∧ id ∈ ids := by
 obtain ⟨lo, hi, fl, nx, js, kv', h1, h2, _⟩ := h
 obtain ⟨x, js', q1, q2, _, q4⟩ := h1.page
 exact ⟨x, q1, q2, h2 id (by rw [q4]; simp)⟩
theorem AtPg.child {b : Bt} {ids : List Int} {kv : Ens} {id : Int} {m : Nat} {x : Pg} (h : AtPg b ids kv id m) (hx : b.view id = some x) (hl : x.level ≠ 0) :
  ∃ m', m = m' + 1 ∧ 0 < x.ents.length ∧ ∀ k, k < x.ents.length → AtPg b ids kv (numberP (x.ents.getD k ([], [])).2) m' ∧ (x.ents.getD k ([], [])).2.length = 2 ∧ atP x k = .ok (numberP (x.ents.getD k ([], [])).2) := by
 obtain ⟨lo, hi, fl, nx, js, kv', h1, h2, h3⟩ := h
 cases m with
 | zero => obtain ⟨_, _, z, z1, z2, _⟩ := h1; rw [hx] at z1; injection z1 with z1; subst z1; exact absurd z2 hl
 | succ m =>
  obtain ⟨js', rfl, z, z1, z2, z3, z4, ⟨v, r, z5⟩, z6⟩ := h1
  rw [hx] at z1; injection z1 with z1; subst z1
  refine ⟨m, rfl, by rw [z5]; simp, fun k hk => ?_⟩
  obtain ⟨lo2, hi2, fl2, nx2, js2, kv2, w1, w2, w3⟩ := Chs.nthK _ z6 k hk
  refine ⟨⟨lo2, hi2, fl2, nx2, js2, kv2, w1, fun i hi => h2 i (by simp [w2 i hi]), fun e he => h3 e (w3 e he)⟩, ?_, atP_nth z6 hk⟩
  refine Chs.two _ z6 _ ?_
  rw [List.getD_eq_getElem?_getD, List.getElem?_eq_getElem hk]
  exact List.getElem_mem hk
theorem AtPg.leaf {b : Bt} {n : Nat} {u fl0 : Int} {ids : List Int} {kv : Ens} {id : Int} {m : Nat} {x : Pg} (ht : Tr b n u fl0 ids kv) (hkv : kv ≠ []) (h : AtPg b ids kv id m) (hx : b.view id = some x) (hl : x.level = 0) : x.ents ≠ [] ∧ ∀ e ∈ x.ents, e ∈ kv := by
 obtain ⟨y, hy, hyl, hmem⟩ := h.view
 rw [hx] at hy; injection hy with hy; subst hy
 have hm : m = 0 := by omega
 subst hm
 obtain ⟨lo, hi, fl, nx, js, kv', h1, h2, h3⟩ := h
 obtain ⟨_, _, z, z1, z2, z3, z4, _⟩ := h1
 rw [hx] at z1; injection z1 with z1; subst z1
 refine ⟨?_, fun e he => h3 e (z4 ▸ he)⟩
 by_cases h0 : id = 0
 ·subst h0
  have hs := ht.s
  obtain ⟨y, _, q1, q2, _, _⟩ := hs.page
  rw [hx] at q1; injection q1 with q1; subst q1
  have hn : n = 0 := by omega
  subst hn
  obtain ⟨_, _, z, w1, _, _, w4, _⟩ := hs
  rw [hx] at w1; injection w1 with w1; subst w1
  rw [w4]; exact hkv
 have := ht.o id hmem h0 x hx
 intro q; rw [q] at this; simp at this
/-! ### what is laid over a leaf -/
theorem papply_at {P : Pl} {r : Rc} {x : Pg} (h : P.f r.page = some x) : P.apply r = some { P with f := fun k => if k = r.page then some (applyP x r) else P.f k } := by
 rw [Pl.apply, h]
theorem bad_front {x : Pg} {k0 : Bs} (hl : x.level = 0) (hne : x.ents ≠ []) (hk : ∀ e ∈ x.ents, ltB k0 e.1 = false) (y : Pg) (hy : y.level = 0) (he : y.ents = (k0, []) :: x.ents) : BadPg y := .inl fun lo hi => by
 rw [hy]
 obtain ⟨e, r, hxe⟩ := List.exists_cons_of_ne_nil hne
 have h1 : y.ents[1]? = some e := by rw [he, hxe]; rfl
 refine entsOk_no (i := 1) (by rw [he, hxe]; simp) fun hq => ?_
 have h2 := ((entB_rest (by omega) h1).1 hq).2.2.2 (by omega) (k0, []) (by rw [he]; rfl)
 rw [hk e (by rw [hxe]; simp)] at h2; cases h2
theorem bad_end {x : Pg} {k0 : Bs} (hl : x.level = 0) (hne : x.ents ≠ []) (hk : ∀ e ∈ x.ents, ltB e.1 k0 = false) (y : Pg) (hy : y.level = 0) (he : y.ents = x.ents ++ [(k0, [])]) : BadPg y := .inl fun lo hi => by
 rw [hy]
 have hlen : 0 < x.ents.length := List.length_pos_iff.2 hne
 have h1 : y.ents[x.ents.length]? = some (k0, []) := by rw [he]; simp
 refine entsOk_no (i := x.ents.length) (by rw [he]; simp) fun hq => ?_
 have h0 : x.ents[x.ents.length - 1]? = some x.ents[x.ents.length - 1] := List.getElem?_eq_getElem (by omega)
 have h2 := ((entB_rest (by omega) h1).1 hq).2.2.2 hlen x.ents[x.ents.length - 1] (by rw [he, List.getElem?_append_left (by omega)]; exact h0)
 rw [hk _ (List.getElem_mem _)] at h2; cases h2
/-- A record laid over a leaf, that makes it a bad one. -/
theorem check_laid {P P' : Pl} {kv : Ens} {ids : List Int} {n m : Nat} {u fl : Int} {id : Int} {x : Pg} {r : Rc} {ls : Int} (hP : PlOk P ls) (ht : Tr (newBt P) n u fl ids kv) (hl : kv.length ≤ 700) (hA : AtPg (newBt P) ids kv id m) (hrf : RF (newBt P) 0 id) (hx : P.f id = some x) (hx0 : x.level = 0)
  (hr : r.page = id) (hls : r.lsn = ls) (hk1 : r.kind ≠ 1) (hap : P.apply r = some P') (hbad : BadPg (effP x r)) {px : Pg} (hpx : (newBt P').page 0 = .ok px) {f : Nat} (hf : 6 ≤ f) :
  (∀ c, (newBt P').walkF f 0 px.level [] none ⟨[1], [], 0⟩ = .ok c → chainOk c.leaves = false) ∧ ∀ e o, (newBt P').walkF f 0 px.level [] none ⟨[1], [], 0⟩ = .fail e o → e = 103 := by
 subst hr
 obtain ⟨y, hy, _, hmem⟩ := hA.view
 have hrg := ht.g.rg _ hmem
 have hu := tr_small ht hl
 have hid : 0 ≤ r.page ∧ r.page < 256 := by omega
 have hv : (newBt P).view r.page = some x := by rw [newBt_view hid.1 hid.2]; exact hx
 have hx' : applyP x r = { effP x r with lsn := ls } := by
  have h1 := hP _ _ hx
  unfold applyP
  rw [if_neg (by omega), hls]
 rw [papply_at hx] at hap
 injection hap with hap
 subst hap
 have hpg : ∀ j, j ≠ r.page → (newBt { P with f := fun k => if k = r.page then some (applyP x r) else P.f k }).page j = (newBt P).page j := fun j hj => by
  simp only [Bt.page, newBt, if_neg hj]
 have hpr : (newBt { P with f := fun k => if k = r.page then some (applyP x r) else P.f k }).page r.page = .ok (applyP x r) := by
  simp only [Bt.page, newBt, if_true]
  rw [if_neg (by omega)]
 have hidx : (applyP x r).id = r.page := by rw [hx']; simp only []; rw [(effP_id x r).1]; exact (hP _ _ hx).2.1
 have hlv : (effP x r).level = 0 := by
  unfold effP
  rw [if_neg hk1]
  repeat' split
  all_goals exact hx0
 refine check_bad ⟨n, u, fl, ids, ht⟩ hl (fun j z hz => ?_) hrf (page_of_view hv) hx0 hpg hpr (by rw [hx']; exact hlv) ?_ hpx hf
 ·by_cases hj : j = r.page
  ·subst hj; rw [hpr] at hz; injection hz with hz; subst hz; exact hidx
  rw [hpg j hj] at hz; exact ht.g.i _ _ (view_of_page hz)
 rw [hx']
 rcases hbad with hb | hb
 ·exact .inl hb
 exact .inr hb
theorem eff_front {x : Pg} {r : Rc} (hk : r.kind = 2) (hs : r.slot = 0) (hl : x.ents.length < 8) : (effP x r).ents = (r.key, r.val) :: x.ents ∧ (effP x r).level = x.level := by
 unfold effP
 rw [if_neg (by omega), if_pos hk, if_pos hl]
 have : (min r.slot (x.ents.length : Nat)).toNat = 0 := by omega
 rw [this]
 exact ⟨by simp, rfl⟩
theorem eff_end {x : Pg} {r : Rc} (hk : r.kind = 2) (hs : r.slot = 8) (hl : x.ents.length < 8) : (effP x r).ents = x.ents ++ [(r.key, r.val)] ∧ (effP x r).level = x.level := by
 unfold effP
 rw [if_neg (by omega), if_pos hk, if_pos hl]
 have : (min r.slot (x.ents.length : Nat)).toNat = x.ents.length := by omega
 rw [this]
 exact ⟨by simp [List.insertIdx_length_self], rfl⟩
theorem eff_link {x : Pg} {r : Rc} (hk : r.kind = 5) (hs : r.slot = x.id) (h0 : 0 ≤ x.id) (h1 : x.id < 256) : BadPg (effP x r) := by
 have he : effP x r = { x with next := x.id } := by
  unfold effP
  rw [if_neg (by omega), if_neg (by omega), if_neg (by omega), if_neg (by omega), if_pos hk, if_neg (by omega), hs]
 rw [he]
 exact .inr ⟨h0, rfl⟩
end Go.Proofs.YtbogbnkckofpdaaDoor.B
