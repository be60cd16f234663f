/- What functions of the program compute, each function once: steps over the model, and the plain law of it. -/
import Derived.Test.YtbogbnkckofpdaaDoorTCheckL
import Derived.Test.YtbogbnkckofpdaaDoorTCheckG
import Derived.Test.YtbogbnkckofpdaaDoorTValuesP
namespace Go.Proofs.YtbogbnkckofpdaaDoor.B
open Go Go.Proofs
set_option linter.unusedVariables false
set_option linter.unusedSimpArgs false
/-! ### what a check that ends well has seen -/
def LInvC (c : Ck) : Prop := (∀ y ∈ c.leaves, y.id ∈ c.seen) ∧ (c.leaves.map (·.id)).Nodup
def Seen1 (b : Bt) (c1 : Ck) (j : Int) : Prop := ∃ y, b.page j = .ok y ∧ (∃ lo hi, entsOk y.level lo hi y.ents = true) ∧ (y.level = 0 → y ∈ c1.leaves) ∧ (y.level ≠ 0 → ∀ k : Nat, k < y.ents.length → ∃ id, atP y k = .ok id ∧ id ∈ c1.seen)
structure Wk (b : Bt) (c c1 : Ck) : Prop where
 mono : ∀ j ∈ c.seen, j ∈ c1.seen
 lmono : ∀ y ∈ c.leaves, y ∈ c1.leaves
 new : ∀ j ∈ c1.seen, j ∉ c.seen → Seen1 b c1 j
 inv : LInvC c → LInvC c1
theorem Seen1.more {b : Bt} {c1 c2 : Ck} {j : Int} (h : Seen1 b c1 j) (hs : ∀ j ∈ c1.seen, j ∈ c2.seen) (hl : ∀ y ∈ c1.leaves, y ∈ c2.leaves) : Seen1 b c2 j := by
 obtain ⟨y, h1, h2, h3, h4⟩ := h
 exact ⟨y, h1, h2, fun h0 => hl _ (h3 h0), fun h0 k hk => by obtain ⟨id, q1, q2⟩ := h4 h0 k hk; exact ⟨id, q1, hs _ q2⟩⟩
theorem Wk.refl (b : Bt) (c : Ck) : Wk b c c := ⟨fun _ h => h, fun _ h => h, fun j h1 h2 => absurd h1 h2, id⟩
theorem Wk.trans {b : Bt} {c c1 c2 : Ck} (h : Wk b c c1) (k : Wk b c1 c2) : Wk b c c2 :=
 ⟨fun j hj => k.mono j (h.mono j hj), fun y hy => k.lmono y (h.lmono y hy), fun j h1 h2 => by
  by_cases hj : j ∈ c1.seen
  ·exact (h.new j hj h2).more k.mono k.lmono
  exact k.new j h1 hj, fun hi => k.inv (h.inv hi)⟩
theorem below_wk {b : Bt} {w : Int → Bs → Option Bs → Ck → Res Ck} {x : Pg} {low : Bs} {high : Option Bs} (hw : ∀ id lo hi c c1, w id lo hi c = .ok c1 → Wk b c c1 ∧ id ∈ c1.seen) : ∀ (n i : Nat) (c c1 : Ck), belowL w x low high n i c = .ok c1 →
  Wk b c c1 ∧ ∀ k, i ≤ k → k < i + n → ∃ id, atP x k = .ok id ∧ id ∈ c1.seen
 | 0, i, c, c1, h => by
  rw [belowL] at h; injection h with h; subst h
  exact ⟨Wk.refl _ _, fun k h1 h2 => by omega⟩
 | n + 1, i, c, c1, h => by
  rw [belowL] at h
  cases ha : atP x i with
  | fail e o => rw [ha] at h; cases h
  | ok id =>
   rw [ha] at h; simp only [] at h
   split at h
   ·cases h
   rename_i c2 hc2
   obtain ⟨h1, h2⟩ := hw _ _ _ _ _ hc2
   obtain ⟨h3, h4⟩ := below_wk hw n (i + 1) c2 c1 h
   refine ⟨h1.trans h3, fun k hk1 hk2 => ?_⟩
   rcases Nat.lt_or_eq_of_le hk1 with q | q
   ·exact h4 k (by omega) (by omega)
   subst q; exact ⟨id, ha, h3.mono _ h2⟩
theorem walk_wk {b : Bt} (hid : ∀ j x, b.page j = .ok x → x.id = j) : ∀ (f : Nat) {id level : Int} {low : Bs} {high : Option Bs} {c c1 : Ck}, b.walkF f id level low high c = .ok c1 → Wk b c c1 ∧ id ∈ c1.seen
 | 0, _, _, _, _, _, _, h => by rw [Bt.walkF] at h; cases h
 | f + 1, id, level, low, high, c, c1, h => by
  rw [Bt.walkF] at h
  split at h
  ·cases h
  rename_i hgo
  have hns : id ∉ c.seen := fun q => hgo (.inl q)
  split at h
  ·cases h
  rename_i x hx
  split at h
  ·cases h
  rename_i hsh
  have hl : x.level = level := by
   rcases Classical.em (x.level = level) with q | q
   ·exact q
   exact absurd (.inl q) hsh
  split at h
  ·cases h
  rename_i hen
  have hen' : entsOk x.level low high x.ents = true := by rw [hl]; simpa using hen
  split at h
  ·rename_i h0
   injection h with h; subst h
   refine ⟨⟨fun j hj => by simp [hj], fun y hy => by simp [hy], fun j h1 h2 => ?_, fun hi => ⟨fun y hy => ?_, ?_⟩⟩, by simp⟩
   ·rcases List.mem_cons.1 h1 with rfl | h1
    ·exact ⟨x, hx, ⟨low, high, hen'⟩, fun _ => by simp, fun q => absurd (hl.trans h0) q⟩
    exact absurd h1 h2
   ·rcases List.mem_append.1 hy with hy | hy
    ·exact List.mem_cons_of_mem _ (hi.1 y hy)
    have : y = x := by simpa using hy
    subst this
    rw [hid _ _ hx]; simp
   rw [List.map_append, List.nodup_append]
   refine ⟨hi.2, by simp, fun a ha b' hb => ?_⟩
   obtain ⟨y, hy, rfl⟩ := List.mem_map.1 ha
   have : b' = x.id := by simpa using hb
   subst this
   rw [hid _ _ hx]
   intro e
   exact hns (e ▸ hi.1 y hy)
  rename_i h0
  split at h
  ·cases h
  obtain ⟨h1, h2⟩ := below_wk (b := b) (fun id lo hi c c1 hq => walk_wk hid f hq) _ _ _ _ h
  have hm : id ∈ c1.seen := h1.mono id (by simp)
  refine ⟨⟨fun j hj => h1.mono j (by simp [hj]), h1.lmono, fun j q1 q2 => ?_, fun hi => h1.inv ⟨fun y hy => List.mem_cons_of_mem _ (hi.1 y hy), hi.2⟩⟩, hm⟩
  by_cases hj : j = id
  ·subst hj
   exact ⟨x, hx, ⟨low, high, hen'⟩, fun q => absurd (hl.symm.trans q) h0, fun _ k hk => h2 k (by omega) (by omega)⟩
  exact h1.new j q1 (by simp [hj, q2])
/-- From page to page, down. -/
inductive RF (b : Bt) (i : Int) : Int → Prop
 | here : RF b i i
 | down {j id : Int} {y : Pg} {k : Nat} : RF b i j → b.page j = .ok y → y.level ≠ 0 → k < y.ents.length → atP y k = .ok id → RF b i id
theorem RF.head {b : Bt} {i i2 j : Int} {y : Pg} {k : Nat} (hp : b.page i = .ok y) (hl : y.level ≠ 0) (hk : k < y.ents.length) (ha : atP y k = .ok i2) (h : RF b i2 j) : RF b i j := by
 induction h with
 | here => exact .down .here hp hl hk ha
 | down _ q1 q2 q3 q4 ih => exact .down ih q1 q2 q3 q4
theorem rf_seen {b b' : Bt} {c1 : Ck} (h0 : (0 : Int) ∈ c1.seen) (hs : ∀ j ∈ c1.seen, j ≠ 1 → Seen1 b c1 j) (h1 : ∀ j, RF b' 0 j → j ≠ 1) (hp : ∀ j y, b'.page j = .ok y → y.level ≠ 0 → b.page j = .ok y) : ∀ j, RF b' 0 j → j ∈ c1.seen := by
 intro j h
 induction h with
 | here => exact h0
 | down hr q1 q2 q3 q4 ih =>
  obtain ⟨y, p1, _, _, p4⟩ := hs _ ih (h1 _ hr)
  rw [hp _ _ q1 q2] at p1
  injection p1 with p1; subst p1
  obtain ⟨i, r1, r2⟩ := p4 q2 _ q3
  rw [r1] at q4; injection q4 with q4; subst q4
  exact r2
theorem below_103 {w : Int → Bs → Option Bs → Ck → Res Ck} {x : Pg} {low : Bs} {high : Option Bs} : ∀ (n i : Nat) (c : Ck) {e : Nat} {o : Option Int}, i + n = x.ents.length → (∀ k id lo hi c e o, k < x.ents.length → atP x k = .ok id → w id lo hi c = .fail e o → e = 103) → belowL w x low high n i c = .fail e o → e = 103
 | 0, i, c, e, o, _, _, h => by rw [belowL] at h; cases h
 | n + 1, i, c, e, o, hn, hw, h => by
  rw [belowL] at h
  cases ha : atP x i with
  | fail e2 o2 =>
   rw [ha] at h
   injection h with h1 h2
   unfold atP at ha
   split at ha
   ·injection ha with q; omega
   split at ha
   ·injection ha with q; omega
   cases ha
  | ok id =>
   rw [ha] at h; simp only [] at h
   split at h
   ·rename_i e2 o2 he2
    injection h with h1 h2; subst h1
    exact hw i id _ _ _ _ _ (by omega) ha he2
   exact below_103 n (i + 1) _ (by omega) hw h
theorem walk_103 {b : Bt} : ∀ (f : Nat) {id level : Int} {low : Bs} {high : Option Bs} {c : Ck} {e : Nat} {o : Option Int}, (∀ j, RF b id j → ∃ y, b.page j = .ok y) → b.walkF f id level low high c = .fail e o → e = 103
 | 0, _, _, _, _, _, _, _, _, h => by rw [Bt.walkF] at h; injection h with h; omega
 | f + 1, id, level, low, high, c, e, o, hr, h => by
  rw [Bt.walkF] at h
  split at h
  ·injection h with h; omega
  rename_i hgo
  obtain ⟨x, hx⟩ := hr id .here
  rw [hx] at h; simp only [] at h
  split at h
  ·injection h with h; omega
  rename_i hsh
  have hl : x.level = level := by
   rcases Classical.em (x.level = level) with q | q
   ·exact q
   exact absurd (.inl q) hsh
  split at h
  ·injection h with h; omega
  split at h
  ·cases h
  rename_i h0
  split at h
  ·injection h with h; omega
  exact below_103 _ _ _ (by omega) (fun k i lo hi c e o hk ha hw => walk_103 f (fun j hj => hr j (RF.head hx (by omega) hk ha hj)) hw) h
theorem Chs.nth {C : CP} : ∀ (es : Ens) {lo hi fl nx ids kv}, Chs C es lo hi fl nx ids kv → ∀ k, k < es.length → ∃ lo' hi' fl' nx' js kv', C (numberP (es.getD k ([], [])).2) lo' hi' fl' nx' js kv' ∧ ∀ i ∈ js, i ∈ ids
 | [], _, _, _, _, _, _, h, _, _ => h.elim
 | [e], lo, hi, fl, nx, ids, kv, h, k, hk => by
  obtain rfl : k = 0 := by simp at hk; omega
  exact ⟨_, _, _, _, _, _, h.2, fun _ hi => hi⟩
 | e :: e2 :: r, lo, hi, fl, nx, ids, kv, h, k, hk => by
  obtain ⟨h0, h1, h2, md, i1, i2, k1, k2, rfl, rfl, h3, h4⟩ := h
  cases k with
  | zero => exact ⟨_, _, _, _, _, _, h3, fun i hi => by simp [hi]⟩
  | succ k =>
   obtain ⟨lo', hi', fl', nx', js, kv', q1, q2⟩ := Chs.nth (e2 :: r) h4 k (by simpa using hk)
   exact ⟨lo', hi', fl', nx', js, kv', by simpa using q1, fun i hi => by simp [q2 i hi]⟩
theorem Chs.two {C : CP} : ∀ (es : Ens) {lo hi fl nx ids kv}, Chs C es lo hi fl nx ids kv → ∀ e ∈ es, e.2.length = 2
  | [], _, _, _, _, _, _, h => h.elim
  | [e], _, _, _, _, _, _, h => by intro x hx; obtain rfl : x = e := by simpa using hx
                                   exact h.1
  | e :: e2 :: r, _, _, _, _, _, _, h => by
    obtain ⟨h0, h1, h2, md, i1, i2, k1, k2, rfl, rfl, h3, h4⟩ := h
    intro x hx
    rcases List.mem_cons.1 hx with rfl | hx
    · exact h0
    exact Chs.two (e2 :: r) h4 x hx
theorem atP_nth {C : CP} {y : Pg} {lo hi fl nx ids kv} {k : Nat} (h : Chs C y.ents lo hi fl nx ids kv) (hk : k < y.ents.length) : atP y k = .ok (numberP (y.ents.getD k ([], [])).2) := by
 have hm : (y.ents.getD k ([], [])) ∈ y.ents := by
  rw [List.getD_eq_getElem?_getD, List.getElem?_eq_getElem hk]
  exact List.getElem_mem hk
 rw [atP, if_neg (by omega)]
 simp only [Int.toNat_natCast]
 rw [if_neg (by rw [Chs.two _ h _ hm]; simp)]
/-- A page that no check lets pass. -/
def BadPg (x : Pg) : Prop := (∀ lo hi, entsOk x.level lo hi x.ents = false) ∨ (0 ≤ x.id ∧ x.next = x.id)
/-- A tree, one leaf of which has become a bad one: it is told. -/
theorem check_bad {b b' : Bt} {id : Int} {x x' : Pg} {kv : Ens} (h : Holds b kv) (hl : kv.length ≤ 700) (hid' : ∀ j x, b'.page j = .ok x → x.id = j) (hrf : RF b 0 id) (hx : b.page id = .ok x) (hx0 : x.level = 0)
  (hpg : ∀ j, j ≠ id → b'.page j = b.page j) (hx' : b'.page id = .ok x') (hx'0 : x'.level = 0) (hbad : BadPg x') {f : Nat} {px : Pg} (hpx : b'.page 0 = .ok px) (hf : 6 ≤ f) :
  (∀ c, b'.walkF f 0 px.level [] none ⟨[1], [], 0⟩ = .ok c → chainOk c.leaves = false) ∧ ∀ e o, b'.walkF f 0 px.level [] none ⟨[1], [], 0⟩ = .fail e o → e = 103 := by
 obtain ⟨px0, n, hp0, hlv, hn5, hchk⟩ := check_ok h hl
 have hidb : ∀ j x, b.page j = .ok x → x.id = j := fun j y hy => by
  by_cases hj : j = id
  ·subst hj
   obtain ⟨n, u, fl, ids, ht⟩ := h
   have hv := ht.g.i
   exact hv j y (view_of_page hy)
  exact hid' j y (by rw [hpg j hj]; exact hy)
 obtain ⟨c1, hw1, hch1, _⟩ := hchk 6 (by omega)
 obtain ⟨hk1, h01⟩ := walk_wk hidb 6 hw1
 have hs1 : ∀ j ∈ c1.seen, j ≠ 1 → Seen1 b c1 j := fun j hj h1 => hk1.new j hj (by simpa using h1)
 -- page 1 is no child
 have hch : ∀ j y, b'.page j = .ok y → y.level ≠ 0 → b.page j = .ok y := fun j y hy h0 => by
  by_cases hj : j = id
  ·subst hj; rw [hx'] at hy; injection hy with hy; subst hy; exact absurd hx'0 h0
  rw [← hpg j hj]; exact hy
 have hch2 : ∀ j y, b.page j = .ok y → y.level ≠ 0 → b'.page j = .ok y := fun j y hy h0 => by
  by_cases hj : j = id
  ·subst hj; rw [hx] at hy; injection hy with hy; subst hy; exact absurd hx0 h0
  rw [hpg j hj]; exact hy
 have hrfb : ∀ j, RF b' 0 j → RF b 0 j := fun j hj => by
  induction hj with
  | here => exact .here
  | down _ q1 q2 q3 q4 ih => exact .down ih (hch _ _ q1 q2) q2 q3 q4
 have hrfb2 : ∀ j, RF b 0 j → RF b' 0 j := fun j hj => by
  induction hj with
  | here => exact .here
  | down _ q1 q2 q3 q4 ih => exact .down ih (hch2 _ _ q1 q2) q2 q3 q4
 have hne1 : ∀ j, RF b 0 j → j ≠ 1 := by
  obtain ⟨n, u, fl, ids, ht⟩ := h
  have hin : ∀ j, RF b 0 j → ∃ n id lo hi fl nx js kv, id = j ∧ SubT b.view n id lo hi fl nx js kv ∧ ∀ i ∈ js, i ∈ ids := fun j hj => by
   induction hj with
   | here => exact ⟨n, 0, [], none, fl, -1, ids, kv, rfl, ht.s, fun _ h => h⟩
   | down _ q1 q2 q3 q4 ih =>
    obtain ⟨m, i, lo, hi, fl', nx, js, kv', rfl, hs, hm⟩ := ih
    have hv := view_of_page q1
    cases m with
    | zero => obtain ⟨_, _, z, z1, z2, _⟩ := hs; rw [hv] at z1; injection z1 with z1; subst z1; exact absurd z2 q2
    | succ m =>
     obtain ⟨js', rfl, z, z1, z2, z3, z4, z5, z6⟩ := hs
     rw [hv] at z1; injection z1 with z1; subst z1
     obtain ⟨lo2, hi2, fl2, nx2, js2, kv2, w1, w2⟩ := Chs.nth _ z6 _ q3
     rw [atP_nth z6 q3] at q4; injection q4 with q4
     exact ⟨m, _, lo2, hi2, fl2, nx2, js2, kv2, q4, w1, fun i hi => hm i (by simp [w2 i hi])⟩
  intro j hj
  obtain ⟨m, i, lo, hi, fl', nx, js, kv', rfl, hs, hm⟩ := hin j hj
  obtain ⟨_, js', _, _, _, hjs⟩ := hs.page
  exact (ht.g.rg i (hm i (by rw [hjs]; simp))).2.2
 refine ⟨fun c hc => ?_, fun e o he => ?_⟩
 ·obtain ⟨hk2, h02⟩ := walk_wk hid' f hc
  have hs2 : ∀ j ∈ c.seen, j ≠ 1 → Seen1 b' c j := fun j hj h1 => hk2.new j hj (by simpa using h1)
  have hmem := rf_seen h02 hs2 (fun j hj => hne1 j hj) hch2 id hrf
  obtain ⟨y, p1, ⟨lo, hi, p2⟩, p3, _⟩ := hs2 id hmem (hne1 id hrf)
  rw [hx'] at p1; injection p1 with p1; subst p1
  rcases hbad with hb | ⟨hb0, hb⟩
  ·rw [hb lo hi] at p2; cases p2
  have hl' := p3 hx'0
  obtain ⟨k, hk, hkx⟩ := List.getElem_of_mem hl'
  have hinv := hk2.inv ⟨by simp, by simp⟩
  have hx9 : c.leaves[k]? = some x' := by rw [← hkx]; exact List.getElem?_eq_getElem hk
  refine chain_no hx9 ?_
  cases hq : c.leaves[k + 1]? with
  | none => show x'.next ≠ -1; omega
  | some z =>
   show x'.next ≠ z.id
   intro e
   have hk2' := (List.getElem?_eq_some_iff.1 hq)
   obtain ⟨hk3, hz⟩ := hk2'
   have := (List.pairwise_iff_getElem.1 hinv.2) k (k + 1) (by simpa using hk) (by simpa using hk3) (by omega)
   rw [List.getElem_map, List.getElem_map, hkx, hz] at this
   exact this (by omega)
 refine walk_103 f (fun j hj => ?_) he
 have hjb := rf_seen (b := b) (b' := b') h01 hs1 (fun j hj => hne1 j (hrfb j hj)) hch j hj
 obtain ⟨y, hy, _⟩ := hs1 j hjb (hne1 j (hrfb j hj))
 by_cases hji : j = id
 ·subst hji; exact ⟨x', hx'⟩
 exact ⟨y, by rw [hpg j hji]; exact hy⟩
end Go.Proofs.YtbogbnkckofpdaaDoor.B
