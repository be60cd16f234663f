/- What functions of the program compute, each function once: steps over the model, and the plain law of it. -/
import Derived.Test.YtbogbnkckofpdaaDoorTTreeLawA
import Derived.Test.YtbogbnkckofpdaaDoorTTree7
import Derived.Test.YtbogbnkckofpdaaDoorTTreeLaid
import Derived.Test.YtbogbnkckofpdaaDoorTTreeChain
import Derived.Test.YtbogbnkckofpdaaDoorTCheckL
import Derived.Test.YtbogbnkckofpdaaDoorTCheckA
namespace Go.Proofs.YtbogbnkckofpdaaDoor.B
open Go
set_option linter.unusedVariables false
set_option linter.unusedSimpArgs false
set_option linter.unnecessarySimpa false
/-! ### the pages that are to be had, in their order -/
def FreeC (V : Vw) : Int → List Int → Prop
 | f, [] => f = 0
 | f, j :: r => f = j ∧ 1 < j ∧ j < 256 ∧ ∃ y, V j = some y ∧ y.level = 0 ∧ y.ents = [] ∧ FreeC V (max y.next 0) r
def upTo (u : Nat) : List Int := (List.range' u (256 - u)).map fun i => ((i : Nat) : Int)
theorem upTo_cons {u : Nat} (h : u < 256) : upTo u = (u : Int) :: upTo (u + 1) := by
 unfold upTo
 rw [show 256 - u = (256 - (u + 1)) + 1 by omega, List.range'_succ]; rfl
theorem upTo_nil {u : Nat} (h : 256 ≤ u) : upTo u = [] := by unfold upTo; rw [show 256 - u = 0 by omega]; rfl
theorem mem_upTo {u : Nat} {j : Int} : j ∈ upTo u ↔ (u : Int) ≤ j ∧ j < 256 := by
 unfold upTo
 rw [List.mem_map]
 constructor
 ·rintro ⟨i, hi, rfl⟩
  rw [List.mem_range'_1] at hi; omega
 intro h
 exact ⟨j.toNat, by rw [List.mem_range'_1]; omega, by omega⟩
structure AvU (V : Vw) (u : Nat) (f : Int) (fr : List Int) : Prop where
 m : ∃ x, V 1 = some x ∧ x.ents = [([110], twoB u ++ twoB f)]
 c : FreeC V f fr
 u1 : 1 < u
 u2 : u ≤ 256
def AvV (V : Vw) (av : List Int) : Prop := ∃ u f fr, AvU V u f fr ∧ av = fr ++ upTo u
theorem FreeC.frame {V V' : Vw} : ∀ (fr : List Int) {f : Int}, (∀ j ∈ fr, V' j = V j) → FreeC V f fr → FreeC V' f fr
 | [], _, _, h => h
 | j :: r, _, hf, ⟨h1, h2, h3, y, h4, h5, h6, h7⟩ => ⟨h1, h2, h3, y, by rw [hf j (by simp)]; exact h4, h5, h6, FreeC.frame r (fun k hk => hf k (by simp [hk])) h7⟩
theorem FreeC.rg {V : Vw} : ∀ (fr : List Int) {f : Int}, FreeC V f fr → (∀ j ∈ fr, 1 < j ∧ j < 256) ∧ 0 ≤ f ∧ f < 256
 | [], _, h => ⟨by simp, by have : _ = (0 : Int) := h; omega⟩
 | j :: r, _, ⟨h1, h2, h3, y, h4, h5, h6, h7⟩ => ⟨fun k hk => by
   rcases List.mem_cons.1 hk with q | q
   ·subst q; exact ⟨h2, h3⟩
   exact (FreeC.rg r h7).1 k q, by omega⟩
theorem AvV.frame {V V' : Vw} {av : List Int} (h : AvV V av) (h1 : V' 1 = V 1) (hf : ∀ j ∈ av, V' j = V j) : AvV V' av := by
 obtain ⟨u, f, fr, ⟨m, c, u1, u2⟩, rfl⟩ := h
 exact ⟨u, f, fr, ⟨by rw [h1]; exact m, c.frame fr (fun j hj => hf j (by simp [hj])), u1, u2⟩, rfl⟩
theorem AvU.pages {b : Bt} {u : Nat} {f : Int} {fr : List Int} (h : AvU b.view u f fr) : b.pages = .ok ((u : Int), f) := by
 obtain ⟨x, hx, hxe⟩ := h.m
 have hu := h.u2
 have hf := (FreeC.rg fr h.c).2
 rw [Bt.pages, page_of_view hx]
 simp only [hxe]
 rw [if_neg (by simp [twoB])]
 have e1 : numberP (([([110], twoB u ++ twoB f)] : Ens).getD 0 ([], [])).2 = (u : Int) := by
  have := numberP_twoB (u := (u : Int)) (by omega) (by omega)
  simpa [numberP, twoB] using this
 have e2 : numberP ((([([110], twoB u ++ twoB f)] : Ens).getD 0 ([], [])).2.drop 2) = f := by
  have := numberP_twoB (u := f) (by omega) (by omega)
  simpa [numberP, twoB] using this
 rw [e1, e2]
theorem count_view {b : Bt} {u : Nat} {f : Int} {fr : List Int} (h : AvU b.view u f fr) (hi : IdsOk b.view) (a c : Int) :
  ∃ b' m, b.count a c = .ok b' ∧ b'.view = b.view.upd 1 m ∧ m.id = 1 ∧ m.ents = [([110], twoB a ++ twoB c)] := by
 obtain ⟨x, hx, hxe⟩ := h.m
 have hid := hi 1 x hx
 obtain ⟨b', h2, hv⟩ := doR_view (b := b) (r := { page := 1, kind := 4, val := twoB a ++ twoB c }) (x := x) (.inr ⟨by simp, hx⟩) hid
 have he : effP x { page := 1, kind := 4, val := twoB a ++ twoB c } = { x with ents := [([110], twoB a ++ twoB c)] } := by
  unfold effP
  rw [if_neg (by simp), if_neg (by simp), if_neg (by simp), if_pos rfl, if_pos (by rw [hxe]; simp), hxe]
  rfl
 rw [he] at hv
 exact ⟨b', _, h2, hv, hid, rfl⟩
/-- A page taken. -/
theorem take_av {b : Bt} {p : Int} {av : List Int} (h : AvV b.view (p :: av)) (hi : IdsOk b.view) (hn : (p :: av).Nodup) :
  ∃ b' m, b.take = .ok (p, b') ∧ b'.view = b.view.upd 1 m ∧ m.id = 1 ∧ AvV b'.view av := by
 obtain ⟨u, f, fr, h, he⟩ := h
 have hp := h.pages
 have hu := h.u2
 have hu1 := h.u1
 cases fr with
 | nil =>
  have hf : f = 0 := h.c
  subst hf
  have hlt : u < 256 := by
   rcases Nat.lt_or_ge u 256 with q | q
   ·exact q
   rw [List.nil_append, upTo_nil q] at he; cases he
  rw [List.nil_append, upTo_cons hlt] at he
  injection he with h1 h2
  subst h1
  obtain ⟨b', m, hc, hv, m1, m2⟩ := count_view h hi ((u : Int) + 1) 0
  refine ⟨b', m, ?_, hv, m1, u + 1, 0, [], ⟨⟨m, by rw [hv, upd_same], m2⟩, rfl, by omega, by omega⟩, h2⟩
  rw [Bt.take, hp]
  simp only [if_true]
  rw [if_neg (by omega), hc]
 | cons j r =>
  obtain ⟨rfl, c2, c3, y, c4, c5, c6, c7⟩ := h.c
  rw [List.cons_append] at he
  injection he with h1 h2
  subst h1
  subst h2
  obtain ⟨b', m, hc, hv, m1, m2⟩ := count_view h hi u (max y.next 0)
  have hne : ∀ k ∈ r, k ≠ 1 := fun k hk => by have := (FreeC.rg r c7).1 k hk; omega
  refine ⟨b', m, ?_, hv, m1, u, _, r, ⟨⟨m, by rw [hv, upd_same], m2⟩, c7.frame r (fun k hk => by rw [hv, upd_other (hne k hk)]), hu1, hu⟩, rfl⟩
  rw [Bt.take, hp]
  simp only []
  rw [if_neg (by omega), page_of_view c4]
  simp only []
  rw [hc]
theorem take_full {b : Bt} (h : AvV b.view []) : b.take = .fail 109 none := by
 obtain ⟨u, f, fr, h, he⟩ := h
 have hp := h.pages
 have hu := h.u2
 obtain ⟨rfl, h2⟩ := List.append_eq_nil_iff.1 he.symm
 have hf : f = 0 := h.c
 subst hf
 have hge : ¬ u < 256 := fun q => by rw [upTo_cons q] at h2; cases h2
 rw [Bt.take, hp]
 simp only [if_true]
 rw [if_pos (by omega)]
/-- A page let go. -/
theorem free_av {b : Bt} {p : Int} {av : List Int} (h : AvV b.view av) (hi : IdsOk b.view) (hp1 : 1 < p) (hp2 : p < 256) (hn : p ∉ av) :
  ∃ b' m, b.free p = .ok b' ∧ m.id = 1 ∧ (∃ q, q.id = p ∧ b'.view = (b.view.upd p q).upd 1 m) ∧ AvV b'.view (p :: av) := by
 obtain ⟨u, f, fr, h, rfl⟩ := h
 have hpg := h.pages
 have hf := (FreeC.rg fr h.c).2
 have hu1 := h.u1
 have hu2 := h.u2
 obtain ⟨b1, t1, v1⟩ := doR_view (b := b) (r := { page := p, kind := 1 }) (x := newPg p) (.inl ⟨rfl, rfl⟩) rfl
 have e1 : effP (newPg p) { page := p, kind := 1 } = ⟨p, 0, 0, -1, []⟩ := by unfold effP; rw [if_pos rfl]; rfl
 rw [e1] at v1
 obtain ⟨b2, t2, v2⟩ := doR_view (b := b1) (r := { page := p, kind := 5, slot := if f = 0 then 256 else f }) (x := ⟨p, 0, 0, -1, []⟩) (.inr ⟨by simp, by rw [v1]; exact upd_same _ _ _⟩) rfl
 have e2 : effP ⟨p, 0, 0, -1, []⟩ { page := p, kind := 5, slot := if f = 0 then 256 else f } = ⟨p, 0, 0, if f = 0 then -1 else f, []⟩ := by
  unfold effP
  rw [if_neg (by simp), if_neg (by simp), if_neg (by simp), if_neg (by simp), if_pos rfl]
  simp only []
  by_cases h0 : f = 0
  ·rw [if_pos h0, if_pos h0, if_pos (by omega)]
  rw [if_neg h0, if_neg h0, if_neg (by omega)]
 rw [e2] at v2
 have v2' : b2.view = b.view.upd p ⟨p, 0, 0, if f = 0 then -1 else f, []⟩ := by
  rw [v2, v1]; funext j
  by_cases hj : j = p
  ·subst hj; simp only [upd_same]
  simp only [upd_other hj]
 have hA : AvU b2.view u f fr := by
  obtain ⟨x, hx, hxe⟩ := h.m
  refine ⟨⟨x, by rw [v2', upd_other (by omega)]; exact hx, hxe⟩, h.c.frame fr (fun k hk => ?_), hu1, hu2⟩
  rw [v2', upd_other]
  rintro rfl
  exact hn (by simp [hk])
 obtain ⟨b3, m, t3, v3, m1, m2⟩ := count_view hA (by rw [v2']; exact hi.upd rfl) u p
 refine ⟨b3, m, ?_, m1, ⟨_, rfl, by rw [v3, v2']⟩, u, p, p :: fr, ⟨⟨m, by rw [v3, upd_same], m2⟩, ⟨rfl, hp1, hp2, _, by rw [v3, upd_other (by omega), v2', upd_same], rfl, rfl, ?_⟩, hu1, hu2⟩, by simp⟩
 ·rw [Bt.free, hpg]
  simp only []
  rw [Bt.all, t1]; simp only []
  rw [Bt.all, t2]; simp only []
  rw [Bt.count] at t3
  rw [Bt.all, t3]; rfl
 have e4 : max (if f = 0 then -1 else f) 0 = f := by split <;> omega
 simp only []
 rw [e4]
 refine h.c.frame fr (fun k hk => ?_)
 have h1 : k ≠ p := by rintro rfl; exact hn (by simp [hk])
 have h2 := (FreeC.rg fr h.c).1 k hk
 rw [v3, upd_other (by omega), v2', upd_other h1]
end Go.Proofs.YtbogbnkckofpdaaDoor.B

namespace Go.Proofs.YtbogbnkckofpdaaDoor.B
open Go
set_option linter.unusedVariables false
set_option linter.unusedSimpArgs false
set_option linter.unnecessarySimpa false
/-! ### what a page weighs -/
def pw (V : Vw) (j : Int) : Nat := match V j with
 | some x => (x.ents.length - 4) + 3
 | none => 0
def wt (V : Vw) (l : List Int) : Nat := (l.map (pw V)).sum
theorem wt_nil (V : Vw) : wt V [] = 0 := rfl
theorem wt_cons (V : Vw) (j : Int) (l : List Int) : wt V (j :: l) = pw V j + wt V l := by simp [wt]
theorem wt_append (V : Vw) (l m : List Int) : wt V (l ++ m) = wt V l + wt V m := by simp [wt]
theorem pw_some {V : Vw} {j : Int} {x : Pg} (h : V j = some x) : pw V j = (x.ents.length - 4) + 3 := by rw [pw, h]
theorem wt_frame {V V' : Vw} : ∀ (l : List Int), (∀ j ∈ l, V' j = V j) → wt V' l = wt V l
 | [], _ => rfl
 | j :: l, h => by rw [wt_cons, wt_cons, wt_frame l (fun k hk => h k (by simp [hk])), pw, pw, h j (by simp)]
theorem wt_perm {V : Vw} {l m : List Int} (h : l.Perm m) : wt V l = wt V m := by
 induction h with
 | nil => rfl
 | cons x _ ih => rw [wt_cons, wt_cons, ih]
 | swap x y l => simp only [wt_cons]; omega
 | trans _ _ h1 h2 => rw [h1, h2]
/-! ### room on the way, out of the pages that are to be had -/
structure GoodA (b : Bt) (av ids : List Int) : Prop where
 m : AvV b.view av
 i : IdsOk b.view
 nd : (ids ++ av).Nodup
 rg : ∀ j ∈ ids ++ av, 0 ≤ j ∧ j < 256 ∧ j ≠ 1
 a1 : ∀ j ∈ av, 1 < j
theorem GoodA.ids {b : Bt} {av ids : List Int} (h : GoodA b av ids) : ids.Nodup := (List.nodup_append.1 h.nd).1
theorem GoodA.avs {b : Bt} {av ids : List Int} (h : GoodA b av ids) : av.Nodup := (List.nodup_append.1 h.nd).2.1
theorem GoodA.dis {b : Bt} {av ids : List Int} (h : GoodA b av ids) {j : Int} (h1 : j ∈ ids) (h2 : j ∈ av) : False := (List.nodup_append.1 h.nd).2.2 j h1 j h2 rfl
theorem GoodA.rgi {b : Bt} {av ids : List Int} (h : GoodA b av ids) {j : Int} (h1 : j ∈ ids) : 0 ≤ j ∧ j < 256 ∧ j ≠ 1 := h.rg j (by simp [h1])
theorem GoodA.sub {b : Bt} {av ids ids' : List Int} (h : GoodA b av ids) (h1 : ids'.Nodup) (h2 : ∀ j ∈ ids', j ∈ ids) : GoodA b av ids' := by
 refine ⟨h.m, h.i, List.nodup_append.2 ⟨h1, h.avs, ?_⟩, fun j hj => ?_, h.a1⟩
 ·rintro a ha c hc rfl; exact h.dis (h2 a ha) hc
 rcases List.mem_append.1 hj with q | q
 ·exact h.rgi (h2 j q)
 exact h.rg j (by simp [q])
def OccL (V : Vw) (id : Int) (ids : List Int) : Prop := ∀ j ∈ ids, j ≠ id → ∀ x, V j = some x → 2 ≤ x.level → 4 ≤ x.ents.length
def RoomPostA (b : Bt) (n : Nat) (av : List Int) (id : Int) (lo : Bs) (hi : Option Bs) (fl nx : Int) (ids : List Int) (kv : Ens) (key : Bs) (x : Pg) (b' : Bt) (y : Pg) : Prop :=
 ∃ (av' ids' : List Int), GoodA b' av' ids' ∧ (∀ j ∈ ids', j ∈ ids ∨ j ∈ av) ∧ (∀ j ∈ ids, j ∈ ids') ∧ (∀ j ∈ av', j ∈ av) ∧ ids'.length + av'.length = ids.length + av.length ∧
  (∀ j, j ≠ 1 → j ∉ ids → j ∉ av → b'.view j = b.view j) ∧ (OccL b.view id ids → OccL b'.view id ids') ∧
  (∃ x', b'.view id = some x' ∧ x.ents.length ≤ x'.ents.length ∧ x'.level = x.level ∧ wt b'.view ids'.tail + x'.ents.length ≤ wt b.view ids.tail + x.ents.length) ∧
  y.ents.length < 8 ∧ Wand b'.view n id lo hi fl nx ids' kv key y
def RoomNA (n : Nat) : Prop := ∀ (f : Nat) (b : Bt) (av : List Int) {id lo hi fl nx ids kv} (x : Pg) (key : Bs), 2 * n + 1 ≤ f → n ≤ 16 → nx < 256 → GoodA b av ids → SubT b.view n id lo hi fl nx ids kv → b.view id = some x → x.ents.length < 8 → InR lo hi key →
 (∃ b' y, Bt.roomF key f b x = .ok (b', y) ∧ RoomPostA b n av id lo hi fl nx ids kv key x b' y) ∨ (av.length < n ∧ Bt.roomF key f b x = .fail 109 none)
theorem Wand.sub {V : Vw} {n : Nat} {id lo hi fl nx ids kv key y} (h : Wand V n id lo hi fl nx ids kv key y) (h8 : y.ents.length ≤ 8) : SubT V n id lo hi fl nx ids kv := by
 obtain ⟨w1, w2, w3, kvL, kvR, lo', hi', rfl, w5, w6, w7, w8, w9⟩ := h
 exact w9 V y.ents (fun _ _ _ => rfl) w1 h8 w6
theorem roomA_zero : RoomNA 0 := by
 intro f b av id lo hi fl nx ids kv x key hf hn hnx hg hs hx hl hk
 obtain ⟨f, rfl⟩ : ∃ g, f = g + 1 := ⟨f - 1, by omega⟩
 obtain ⟨rfl, rfl, y, hy, h1, h2, h3, h4, h5, h6⟩ := hs
 rw [hx] at hy; injection hy with hy; subst hy
 have hid := hg.i _ x hx
 subst h3
 refine .inl ⟨b, x, by rw [Bt.roomF, if_pos h1], av, [fl], hg, fun j hj => .inl hj, fun j hj => hj, fun j hj => hj, rfl, fun _ _ _ _ => rfl, fun h => h, ⟨x, hx, Nat.le_refl _, rfl, Nat.le_refl _⟩, hl, ?_⟩
 refine ⟨by rw [hid]; exact hx, h1, by simp [hid], [], [], lo, hi, by simp, hk, ⟨h5, h6⟩, ltB_irrefl _, fun h hh => ⟨h, hh, ltB_irrefl _⟩, ?_⟩
 intro V'' ents' hf hy hl' hkv
 rw [hid] at hy
 exact ⟨rfl, rfl, _, hy, h1, h2, by simp, by simpa using hl', by simpa using hkv.1, by simpa using hkv.2⟩
theorem roomA_down {n : Nat} (IH : RoomNA n) (f : Nat) (b : Bt) (av : List Int) {id lo hi fl nx ids kv} (x : Pg) (key : Bs) (hf : 2 * n + 1 ≤ f) (hn : n ≤ 16) (hnx : nx < 256) (hg : GoodA b av ids)
  (hs : SubT b.view (n + 1) id lo hi fl nx ids kv) (hx : b.view id = some x) (hk : InR lo hi key)
  (hc : ∀ c z, x.ents[childP x key]? = some c → b.view (numberP c.2) = some z → z.ents.length < 8) :
  (∃ b' y, Bt.roomF key (f + 1) b x = .ok (b', y) ∧ RoomPostA b (n + 1) av id lo hi fl nx ids kv key x b' y) ∨ (av.length < n ∧ Bt.roomF key (f + 1) b x = .fail 109 none) := by
 obtain ⟨js, rfl, x', hx', hlv, hxn, hlen, ⟨v, r, hes⟩, hch⟩ := hs
 rw [hx] at hx'; injection hx' with hx'; subst hx'
 have hch' := Chs.nxs (N := 256) (fun _ _ _ _ _ _ _ h => SubT.fl_mem n h) _ hnx (fun j hj => (hg.rgi (j := j) (by simp [hj])).2.1) hch
 rw [hes] at hch'
 obtain ⟨pre, c, post, lo', hi', fl', nx', idsL, ids', idsR, kvL, kv', kvR, g1, g2, g3, g4, ⟨g5, g5'⟩, rfl, rfl, g8, g9, g10⟩ := Chs.focus r ([], v) hch' hk
 have hcp : childP x key = pre.length := by rw [childP_cnt hes (Chs.rise _ _ hch'), g2]
 have hget : x.ents[pre.length]? = some c := by rw [hes, g1]; simp
 have hat : atP x (childP x key : Nat) = .ok (numberP c.2) := by
  have hlt : pre.length < x.ents.length := by rw [hes, g1]; simp
  have hd : x.ents.getD ((pre.length : Int)).toNat ([], []) = c := by simp [List.getD, hget]
  rw [atP, hcp, if_neg (by omega), hd, if_neg (by simp [g4])]
 obtain ⟨y, js', hy, hyl, hylen, hyids⟩ := SubT.page g5
 have hy8 := hc c y (by rw [hcp]; exact hget) hy
 have hnd2 := List.nodup_cons.1 hg.ids
 have hnd3 := List.nodup_append.1 hnd2.2
 have hnd4 := List.nodup_append.1 hnd3.1
 have hg' : GoodA b av ids' := hg.sub hnd4.2.1 (fun j hj => by simp [hj])
 have hroom : Bt.roomF key (f + 1) b x = Bt.roomF key f b y := by
  rw [Bt.roomF, if_neg (by omega), hat]
  simp only []
  rw [page_of_view hy]
  simp only []
  rw [if_neg (by omega)]
 rw [hroom]
 rcases IH f b av y key hf hn g5' hg' g5 hy hy8 g3 with ⟨b', z, hr, av', ids'', p3, p4, p5, pa, p6, p7, p8, ⟨y', p9, p9', p9l, p9w⟩, p10, hw⟩ | hfail
 rotate_left
 ·exact .inr hfail
 have hsub' := hw.sub (by omega)
 obtain ⟨_, js2, _, _, _, hids2⟩ := SubT.page hsub'
 obtain ⟨w1, w2, w3, kL, kR, lo2, hi2, rfl, w5, w6, w7, w8, w9⟩ := hw
 have hL : ∀ j ∈ idsL, j ∉ ids' := fun j hj hj' => hnd4.2.2 j hj j hj' rfl
 have hR : ∀ j ∈ idsR, j ∉ ids' := fun j hj hj' => hnd3.2.2 j (List.mem_append_right _ hj') j hj rfl
 have hid' : id ∉ ids' := fun h => hnd2.1 (by simp [h])
 have hav : ∀ j ∈ id :: (idsL ++ ids' ++ idsR), j ∉ av := fun j hj h => hg.dis hj h
 have hLR : ∀ j, (j ∈ idsL ∨ j ∈ idsR) → j ∉ ids' ∧ 0 ≤ j ∧ j ∉ av ∧ j ≠ 1 := by
  rintro j (hj | hj)
  ·have := hg.rgi (j := j) (by simp [hj]); exact ⟨hL j hj, this.1, hav j (by simp [hj]), this.2.2⟩
  have := hg.rgi (j := j) (by simp [hj]); exact ⟨hR j hj, this.1, hav j (by simp [hj]), this.2.2⟩
 have hidr := hg.rgi (j := id) (by simp)
 have hida := hav id (by simp)
 have hnew : ∀ j, (j ∈ idsL ∨ j ∈ idsR ∨ j = id) → j ∉ ids'' := by
  intro j hj hj'
  rcases p4 j hj' with h | h
  ·rcases hj with q | q | q
   ·exact hL j q h
   ·exact hR j q h
   subst q; exact hid' h
  rcases hj with q | q | q
  ·exact (hLR j (.inl q)).2.2.1 h
  ·exact (hLR j (.inr q)).2.2.1 h
  subst q; exact hida h
 have hvid : b'.view id = some x := by rw [p7 id hidr.2.2 hid' hida]; exact hx
 have hvo : ∀ j, (j ∈ idsL ∨ j ∈ idsR) → b'.view j = b.view j := fun j hj => p7 j (hLR j hj).2.2.2 (hLR j hj).1 (hLR j hj).2.2.1
 refine .inl ⟨b', z, hr, av', id :: (idsL ++ ids'' ++ idsR), ?_, ?_, ?_, pa, ?_, ?_, ?_, ⟨x, hvid, Nat.le_refl _, rfl, ?_⟩, p10, ?_⟩
 ·have hnn : (id :: (idsL ++ ids'' ++ idsR)).Nodup := by
   refine List.nodup_cons.2 ⟨?_, List.nodup_append.2 ⟨List.nodup_append.2 ⟨hnd4.1, p3.ids, ?_⟩, hnd3.2.1, ?_⟩⟩
   ·intro h
    rcases List.mem_append.1 h with h | h
    ·rcases List.mem_append.1 h with h | h
     ·exact hnd2.1 (by simp [h])
     exact hnew id (.inr (.inr rfl)) h
    exact hnd2.1 (by simp [h])
   ·rintro a ha c hc rfl; exact hnew a (.inl ha) hc
   rintro a ha c hc rfl
   rcases List.mem_append.1 ha with h | h
   ·exact hnd3.2.2 a (List.mem_append_left _ h) a hc rfl
   exact hnew a (.inr (.inl hc)) h
  refine ⟨p3.m, p3.i, List.nodup_append.2 ⟨hnn, p3.avs, ?_⟩, ?_, p3.a1⟩
  ·rintro a ha c hc rfl
   rcases List.mem_cons.1 ha with rfl | ha
   ·exact hida (pa _ hc)
   rcases List.mem_append.1 ha with ha | ha
   ·rcases List.mem_append.1 ha with ha | ha
    ·exact (hLR a (.inl ha)).2.2.1 (pa a hc)
    exact p3.dis ha hc
   exact (hLR a (.inr ha)).2.2.1 (pa a hc)
  intro j hj
  rcases List.mem_append.1 hj with hj | hj
  ·rcases List.mem_cons.1 hj with rfl | hj
   ·exact hidr
   rcases List.mem_append.1 hj with hj | hj
   ·rcases List.mem_append.1 hj with hj | hj
    ·exact hg.rgi (by simp [hj])
    exact p3.rgi hj
   exact hg.rgi (by simp [hj])
  exact p3.rg j (by simp [hj])
 ·intro j hj
  simp only [List.mem_cons, List.mem_append] at hj ⊢
  rcases hj with h | (h | h) | h
  ·exact .inl (.inl h)
  ·exact .inl (.inr (.inl (.inl h)))
  ·rcases p4 j h with h | h
   ·exact .inl (.inr (.inl (.inr h)))
   exact .inr h
  exact .inl (.inr (.inr h))
 ·intro j hj
  simp only [List.mem_cons, List.mem_append] at hj ⊢
  rcases hj with h | (h | h) | h
  ·exact .inl h
  ·exact .inr (.inl (.inl h))
  ·exact .inr (.inl (.inr (p5 j h)))
  exact .inr (.inr h)
 ·simp only [List.length_cons, List.length_append] at p6 ⊢; omega
 ·intro j h1 h2 h3
  exact p7 j h1 (fun h => h2 (by simp [h])) h3
 ·intro ho j hj hne q hq hl2
  have hoc : OccL b'.view (numberP c.2) ids'' := p8 (fun j2 hj2 hne q hq => ho j2 (by simp [hj2]) (fun e => hid' (by rw [← e]; exact hj2)) q hq)
  rcases List.mem_cons.1 hj with h | hj
  ·exact absurd h hne
  rcases List.mem_append.1 hj with hj | hj
  ·rcases List.mem_append.1 hj with hj | hj
   ·exact ho j (by simp [hj]) hne q (by rw [← hvo j (.inl hj)]; exact hq) hl2
   by_cases e : j = numberP c.2
   ·subst e
    rw [p9] at hq; injection hq with hq; subst hq
    have hoy : 4 ≤ y.ents.length := ho (numberP c.2) (by simp [hyids]) (fun e => hid' (by rw [← e, hyids]; simp)) y hy (by omega)
    omega
   exact hoc j hj e q hq hl2
  exact ho j (by simp [hj]) hne q (by rw [← hvo j (.inr hj)]; exact hq) hl2
 ·have eL := wt_frame (V := b.view) (V' := b'.view) idsL (fun j hj => hvo j (.inl hj))
  have eR := wt_frame (V := b.view) (V' := b'.view) idsR (fun j hj => hvo j (.inr hj))
  rw [hids2, hyids] at p9w
  simp only [List.tail_cons] at p9w ⊢
  rw [wt_append, wt_append, wt_append, wt_append, eL, eR, hids2, hyids, wt_cons, wt_cons, pw_some p9, pw_some hy]
  omega
 refine ⟨w1, w2, by simp [w3], kvL ++ kL, kR ++ kvR, lo2, hi2, by simp, w5, w6, ?_, ?_, ?_⟩
 ·cases hq : ltB lo2 lo with
  | false => rfl
  | true => have h2 := ltB_le_trans hq g8; rw [w7] at h2; cases h2
 ·intro h hh
  obtain ⟨h', e1, e2⟩ := g9 h hh
  obtain ⟨h'', e3, e4⟩ := w8 h' e1
  refine ⟨h'', e3, ?_⟩
  cases hq : ltB h h'' with
  | false => rfl
  | true => have h2 := ltB_le_trans hq e4; rw [e2] at h2; cases h2
 intro V'' ents' hV hz hl hkv
 have hzid : z.id ≠ id := fun e => hnew id (.inr (.inr rfl)) (by rw [← e]; exact w3)
 have hVo : ∀ j, (j ∈ idsL ∨ j ∈ idsR) → V'' j = b.view j := fun j hj => by
  rw [hV j (by rcases hj with h | h <;> simp [h]) (fun e => hnew j (by rcases hj with h | h; exact .inl h; exact .inr (.inl h)) (by rw [e]; exact w3)), hvo j hj]
 have hsub := w9 V'' ents' (fun j hj hne => hV j (by simp [hj]) hne) hz hl hkv
 have hall := g10 (SubT V'' n) [] ids'' (kL ++ ents' ++ kR) (fun id' lo hi fl nx is kv hj hs' => SubT.frame n (fun j hjm => hVo j (hj j hjm)) hs'.1) ⟨g4, hsub⟩
 refine ⟨idsL ++ ids'' ++ idsR, rfl, x, by rw [hV id (by simp) (Ne.symm hzid)]; exact hvid, hlv, hxn, hlen, ⟨v, r, hes⟩, ?_⟩
 rw [hes, g1]
 simpa using hall
end Go.Proofs.YtbogbnkckofpdaaDoor.B

namespace Go.Proofs.YtbogbnkckofpdaaDoor.B
open Go
set_option linter.unusedVariables false
set_option linter.unusedSimpArgs false
set_option linter.unnecessarySimpa false
theorem split_full {b : Bt} {p x : Pg} {k : Int} (h : AvV b.view []) : b.split p k x = .fail 109 none := by rw [Bt.split, take_full h]
theorem split_av {b : Bt} {u : Int} {av : List Int} {p x : Pg} {k : Nat} (hm : AvV b.view (u :: av)) (hi : IdsOk b.view) (hav : (u :: av).Nodup) (h0 : 1 < u) (h1 : u < 256) (hp : b.view p.id = some p) (hx : b.view x.id = some x)
  (hxl : x.ents.length = 8) (hpl : p.ents.length < 8) (hk : k + 1 ≤ p.ents.length) (hv : x.level ≤ 16) (hn : x.next < 256)
  (d1 : x.id ≠ 1) (d2 : x.id ≠ u) (d3 : p.id ≠ 1) (d4 : p.id ≠ u) (d5 : p.id ≠ x.id) (d6 : x.id ∉ av) (d7 : p.id ∉ av) (d8 : ∀ j ∈ av, 1 < j) :
  ∃ b' m, b.split p k x = .ok b' ∧ m.id = 1 ∧ AvV b'.view av ∧
   b'.view = (((b.view.upd 1 m).upd u (halfR u x)).upd x.id (halfL u x)).upd p.id { p with ents := p.ents.insertIdx (k + 1) ((x.ents.getD 4 ([], [])).1, twoB u) } := by
 obtain ⟨b1, m, t1, v1, m1, m2⟩ := take_av hm hi hav
 have hnx : (if x.level = 0 then x.next else -1) < 256 := by split <;> omega
 obtain ⟨b2, t2, v2⟩ := fill_view (b := b1) (id := u) (level := x.level) (next := if x.level = 0 then x.next else -1) (l := x.ents.drop 4) (by simp; omega) hv hnx
 have hx2 : b2.view x.id = some x := by rw [v2, upd_other d2, v1, upd_other d1]; exact hx
 obtain ⟨b3, t3, v3⟩ := doR_view (b := b2) (r := { page := x.id, kind := 6, slot := 4 }) (x := x) (.inr ⟨by simp, hx2⟩) rfl
 have e3 : effP x { page := x.id, kind := 6, slot := 4 } = { x with ents := x.ents.take 4 } := by
  unfold effP
  rw [if_neg (by simp), if_neg (by simp), if_neg (by simp), if_neg (by simp), if_neg (by simp), if_pos rfl, hxl]
  rfl
 rw [e3] at v3
 have t4 : ∃ b4, ((if x.level = 0 then b3.doR { page := x.id, kind := 5, slot := u } else .ok b3) : Res Bt) = .ok b4 ∧ b4.view = b2.view.upd x.id (halfL u x) := by
  by_cases hl : x.level = 0
  ·rw [if_pos hl]
   obtain ⟨b4, t4, v4⟩ := doR_view (b := b3) (r := { page := x.id, kind := 5, slot := u }) (x := { x with ents := x.ents.take 4 }) (.inr ⟨by simp, by rw [v3]; exact upd_same _ _ _⟩) rfl
   refine ⟨b4, t4, ?_⟩
   have e4 : effP { x with ents := x.ents.take 4 } { page := x.id, kind := 5, slot := u } = halfL u x := by
    unfold effP halfL
    rw [if_neg (by simp), if_neg (by simp), if_neg (by simp), if_neg (by simp), if_pos rfl, if_neg (by simp only []; omega), if_pos hl]
   rw [v4, e4, v3]
   funext j
   by_cases hj : j = x.id
   ·subst hj; simp only [upd_same]
   simp only [upd_other hj]
  rw [if_neg hl]
  refine ⟨b3, rfl, ?_⟩
  rw [v3, halfL, if_neg hl]
 obtain ⟨b4, t4, v4⟩ := t4
 have hp4 : b4.view p.id = some p := by rw [v4, upd_other d5, v2, upd_other d4, v1, upd_other d3]; exact hp
 obtain ⟨b5, t5, v5⟩ := doR_view (b := b4) (r := { page := p.id, kind := 2, slot := k + 1, key := (x.ents.getD 4 ([], [])).1, val := twoB u }) (x := p) (.inr ⟨by simp, hp4⟩) rfl
 have e5 : effP p { page := p.id, kind := 2, slot := k + 1, key := (x.ents.getD 4 ([], [])).1, val := twoB u } = { p with ents := p.ents.insertIdx (k + 1) ((x.ents.getD 4 ([], [])).1, twoB u) } := by
  unfold effP
  rw [if_neg (by simp), if_pos rfl, if_pos hpl]
  have : (min ((k : Int) + 1) (p.ents.length : Nat)).toNat = k + 1 := by omega
  rw [this]
 rw [e5] at v5
 have huav : u ∉ av := (List.nodup_cons.1 hav).1
 refine ⟨b5, m, ?_, m1, ?_, by rw [v5, v4, v2, v1]; rfl⟩
 ·rw [Bt.split, t1]
  simp only [t2, t3, t4]
  exact t5
 refine m2.frame ?_ (fun j hj => ?_)
 ·rw [v5, upd_other (Ne.symm d3), v4, upd_other (Ne.symm d1), v2, upd_other (by omega)]
 rw [v5, upd_other (by rintro rfl; exact d7 hj), v4, upd_other (by rintro rfl; exact d6 hj), v2, upd_other (by rintro rfl; exact huav hj)]
theorem roomA_succ {n : Nat} (IH : RoomNA n) : RoomNA (n + 1) := by
 intro f b av id lo hi fl nx ids kv x key hf hn hnx hg hs hx hl hk
 obtain ⟨f, rfl⟩ : ∃ g, f = g + 1 + 1 := ⟨f - 2, by omega⟩
 have hs0 := hs
 obtain ⟨js, rfl, x', hx', hlv, hxn, hlen, ⟨v, r, hes⟩, hch⟩ := hs
 rw [hx] at hx'; injection hx' with hx'; subst hx'
 have hch' := Chs.nxs (N := 256) (fun _ _ _ _ _ _ _ h => SubT.fl_mem n h) _ hnx (fun j hj => (hg.rgi (j := j) (by simp [hj])).2.1) hch
 rw [hes] at hch'
 obtain ⟨pre, c, post, lo', hi', fl', nx', idsL, ids', idsR, kvL, kv', kvR, g1, g2, g3, g4, ⟨g5, g5'⟩, rfl, rfl, g8, g9, g10⟩ := Chs.focus r ([], v) hch' hk
 have hrise := Chs.rise _ _ hch'
 have hcp : childP x key = pre.length := by rw [childP_cnt hes hrise, g2]
 have hget : x.ents[pre.length]? = some c := by rw [hes, g1]; simp
 have hlt : pre.length < x.ents.length := by rw [hes, g1]; simp
 have hat : atP x (childP x key : Nat) = .ok (numberP c.2) := by
  have hd : x.ents.getD ((pre.length : Int)).toNat ([], []) = c := by simp [List.getD, hget]
  rw [atP, hcp, if_neg (by omega), hd, if_neg (by simp [g4])]
 obtain ⟨y, js', hy, hyl, hylen, hyids⟩ := SubT.page g5
 by_cases hy8 : y.ents.length < 8
 ·rcases roomA_down IH (f + 1) b av x key (by omega) (by omega) hnx hg hs0 hx hk (by
   intro c2 z h1 h2
   rw [hcp, hget] at h1; injection h1 with h1; subst h1
   rw [hy] at h2; injection h2 with h2; subst h2
   exact hy8) with h | ⟨h1, h2⟩
  ·exact .inl h
  exact .inr ⟨by omega, h2⟩
 have hy8' : y.ents.length = 8 := by omega
 have hnd2 := List.nodup_cons.1 hg.ids
 have hnd3 := List.nodup_append.1 hnd2.2
 have hnd4 := List.nodup_append.1 hnd3.1
 have hid' : id ∉ ids' := fun h => hnd2.1 (by simp [h])
 have hxid : x.id = id := hg.i _ _ hx
 have hyid : y.id = numberP c.2 := hg.i _ _ hy
 have hym : y.id ∈ ids' := by rw [hyid, hyids]; simp
 have hyr := hg.rgi (j := y.id) (by simp [hym])
 have hidr := hg.rgi (j := id) (by simp)
 have hxy : id ≠ y.id := fun e => hid' (by rw [e]; exact hym)
 have hroom : ∀ b1, b.split x (childP x key : Nat) y = .ok b1 → ∀ x1, b1.view id = some x1 → Bt.roomF key (f + 1 + 1) b x = Bt.roomF key (f + 1) b1 x1 := by
  intro b1 t1 x1 hx1
  rw [Bt.roomF, if_neg (by omega), hat]
  simp only []
  rw [page_of_view hy]
  simp only []
  rw [if_pos (by omega), t1]
  simp only []
  rw [hxid, page_of_view hx1]
 cases av with
 | nil =>
  refine .inr ⟨by simp, ?_⟩
  rw [Bt.roomF, if_neg (by omega), hat]
  simp only []
  rw [page_of_view hy]
  simp only []
  rw [if_pos (by omega), split_full hg.m]
 | cons u av =>
 have hu1 := hg.a1 u (by simp)
 have hur := hg.rg u (by simp)
 have huav : u ∉ av := (List.nodup_cons.1 hg.avs).1
 have hug : u ∉ id :: (idsL ++ ids' ++ idsR) := fun h => hg.dis h (by simp)
 have hin : ∀ j ∈ id :: (idsL ++ ids' ++ idsR), j ≠ u ∧ j ∉ av := fun j hj => ⟨by rintro rfl; exact hug hj, fun h => hg.dis hj (by simp [h])⟩
 obtain ⟨b1, m, t1, m1, m2, v1⟩ := split_av (k := pre.length) hg.m hg.i hg.avs hu1 hur.2.1 (p := x) (x := y) (by rw [hxid]; exact hx) (by rw [hyid]; exact hy) hy8' hl (by omega) (by omega) (SubT.next_lt n g5 g5' hy) hyr.2.2 (hin _ (by simp [hym])).1 (by rw [hxid]; exact hidr.2.2) (by rw [hxid]; exact (hin _ (by simp)).1) (by rw [hxid]; exact hxy) (hin _ (by simp [hym])).2 (by rw [hxid]; exact (hin _ (by simp)).2) (fun j hj => hg.a1 j (by simp [hj]))
 generalize hse : (y.ents.getD 4 ([], [])).1 = s at v1
 rw [hxid] at v1
 have huid : id ≠ u := (hin _ (by simp)).1
 have huy : y.id ≠ u := (hin _ (by simp [hym])).1
 have vy : b1.view y.id = some (halfL u y) := by rw [v1, upd_other (Ne.symm hxy), upd_same]
 have vu : b1.view u = some (halfR u y) := by rw [v1, upd_other (Ne.symm huid), upd_other (Ne.symm huy), upd_same]
 have vo : ∀ j, j ≠ id → j ≠ y.id → j ≠ u → j ≠ 1 → b1.view j = b.view j := fun j h1 h2 h3 h4 => by rw [v1, upd_other h1, upd_other h2, upd_other h3, upd_other h4]
 have vx : b1.view id = some { x with ents := x.ents.insertIdx (pre.length + 1) (s, twoB u) } := by rw [v1, upd_same, ← hxid]
 obtain ⟨md, i1, i2, k1, k2, rfl, hperm, q1, q2, S1, S2⟩ := SubT.split n g5 hy hy8' hyid (fun h => hug (by simp [h])) hnd4.2.1 (W := b1.view) (u := u)
  (fun j hj hne => vo j (fun e => hid' (by rw [← e]; exact hj)) (by rw [hyid]; exact hne) (hin j (by simp [hj])).1 (hg.rgi (j := j) (by simp [hj])).2.2)
  (by rw [← hyid]; exact vy) vu
 rw [hse] at q1 q2 S1 S2
 have htw : numberP (twoB u) = u := numberP_twoB (by omega) (by omega)
 have hL : ∀ j ∈ idsL, j ∉ ids' := fun j hj hj' => hnd4.2.2 j hj j hj' rfl
 have hR : ∀ j ∈ idsR, j ∉ ids' := fun j hj hj' => hnd3.2.2 j (List.mem_append_right _ hj') j hj rfl
 have hvo : ∀ j, (j ∈ idsL ∨ j ∈ idsR) → b1.view j = b.view j := by
  intro j hj
  have hjm : j ∈ id :: (idsL ++ ids' ++ idsR) := by rcases hj with h | h <;> simp [h]
  refine vo j (fun e => ?_) (fun e => ?_) (hin j hjm).1 (hg.rgi hjm).2.2
  ·subst e; exact hnd2.1 (by rcases hj with h | h <;> simp [h])
  subst e
  rcases hj with h | h
  ·exact hL _ h hym
  exact hR _ h hym
 have hall := g10 (SubT b1.view n) [(s, twoB u)] (i1 ++ i2) (k1 ++ k2) (fun id' lo hi fl nx is kv hj hs' => SubT.frame n (fun j hjm => hvo j (hj j hjm)) hs'.1)
  ⟨g4, q1, q2, md, i1, i2, k1, k2, rfl, rfl, S1, rfl, by rw [htw]; exact S2⟩
 have hins : x.ents.insertIdx (pre.length + 1) (s, twoB u) = pre ++ c :: (s, twoB u) :: post := by rw [hes, g1]; exact insertIdx_mid c (s, twoB u) post pre
 have hins2 : x.ents.insertIdx (pre.length + 1) (s, twoB u) = ([], v) :: (r.take (cnt key r) ++ (s, twoB u) :: r.drop (cnt key r)) := by
  rw [hes, g2, List.insertIdx_succ_cons, insertIdx_take _ _ _ (cnt_le key r)]
 have hinl : (x.ents.insertIdx (pre.length + 1) (s, twoB u)).length = x.ents.length + 1 := by rw [hins, hes, g1]; simp only [List.length_append, List.length_cons]; omega
 have hall' : Chs (SubT b1.view n) (x.ents.insertIdx (pre.length + 1) (s, twoB u)) lo hi fl nx (idsL ++ (i1 ++ i2) ++ idsR) (kvL ++ (k1 ++ k2) ++ kvR) := by
  rw [hins]; simpa using hall
 have hsub : SubT b1.view (n + 1) id lo hi fl nx (id :: (idsL ++ (i1 ++ i2) ++ idsR)) (kvL ++ (k1 ++ k2) ++ kvR) :=
  ⟨_, rfl, _, vx, hlv, hxn, by simp only []; omega, ⟨v, _, hins2⟩, hall'⟩
 have hp1 : (id :: (idsL ++ (i1 ++ i2) ++ idsR)).Perm (u :: id :: (idsL ++ ids' ++ idsR)) := by
  have a1 : (idsL ++ (i1 ++ i2) ++ idsR).Perm (u :: (idsL ++ ids' ++ idsR)) := by
   have a2 : (idsL ++ (i1 ++ i2) ++ idsR).Perm (idsL ++ (u :: ids') ++ idsR) := List.Perm.append_right _ (List.Perm.append_left _ hperm)
   have a3 : (idsL ++ (u :: ids') ++ idsR).Perm (u :: (idsL ++ ids' ++ idsR)) := by
    have := List.perm_middle (a := u) (l₁ := idsL) (l₂ := ids' ++ idsR)
    simpa using this
   exact a2.trans a3
  exact (a1.cons id).trans (List.Perm.swap _ _ _)
 have hmem1 : ∀ j, j ∈ id :: (idsL ++ (i1 ++ i2) ++ idsR) → j = u ∨ j ∈ id :: (idsL ++ ids' ++ idsR) := fun j hj => List.mem_cons.1 (hp1.mem_iff.1 hj)
 have hgood : GoodA b1 av (id :: (idsL ++ (i1 ++ i2) ++ idsR)) := by
  refine ⟨m2, ?_, List.nodup_append.2 ⟨hp1.nodup_iff.2 (List.nodup_cons.2 ⟨hug, hg.ids⟩), (List.nodup_cons.1 hg.avs).2, ?_⟩, ?_, fun j hj => hg.a1 j (by simp [hj])⟩
  ·rw [v1]
   exact IdsOk.upd (IdsOk.upd (IdsOk.upd (hg.i.upd m1) (x := halfR u y) rfl) (x := halfL u y) rfl) rfl
  ·rintro a ha c hc rfl
   rcases hmem1 a ha with h | h
   ·subst h; exact huav hc
   exact (hin a h).2 hc
  intro j hj
  rcases List.mem_append.1 hj with hj | hj
  ·rcases hmem1 j hj with h | h
   ·subst h; exact hur
   exact hg.rgi h
  exact hg.rg j (by simp [hj])
 have hlen4L : (halfL u y).ents.length = 4 := by show (y.ents.take 4).length = 4; rw [List.length_take, hy8']; rfl
 have hlen4R : (halfR u y).ents.length = 4 := by show (clrK y.level (y.ents.drop 4)).length = 4; rw [clrK_len, List.length_drop, hy8']
 have hwt : wt b1.view (idsL ++ (i1 ++ i2) ++ idsR) + 1 = wt b.view (idsL ++ ids' ++ idsR) := by
  have hnd5 := List.nodup_cons.1 (hyids ▸ hnd4.2.1)
  have ejs := wt_frame (V := b.view) (V' := b1.view) js' (fun j hj => by
   have hjm : j ∈ ids' := by rw [hyids]; simp [hj]
   exact vo j (fun e => hid' (by rw [← e]; exact hjm)) (fun e => hnd5.1 (by rw [← hyid, ← e]; exact hj)) (hin j (by simp [hjm])).1 (hg.rgi (j := j) (by simp [hjm])).2.2)
  have eL := wt_frame (V := b.view) (V' := b1.view) idsL (fun j hj => hvo j (.inl hj))
  have eR := wt_frame (V := b.view) (V' := b1.view) idsR (fun j hj => hvo j (.inr hj))
  have e1 : wt b1.view (i1 ++ i2) = 3 + (3 + wt b.view js') := by
   rw [wt_perm hperm, hyids, wt_cons, wt_cons, ejs, pw_some vu, ← hyid, pw_some vy, hlen4L, hlen4R]
  have e2 : wt b.view ids' = 7 + wt b.view js' := by
   rw [hyids, wt_cons, pw_some hy, hy8']
  rw [wt_append, wt_append, wt_append b.view (idsL ++ ids'), wt_append b.view idsL, eL, eR, e1, e2]
  omega
 have hri := hall'
 rw [hins2] at hri
 have hcp1 : childP { x with ents := x.ents.insertIdx (pre.length + 1) (s, twoB u) } key = pre.length + (if ltB key s = true then 0 else 1) := by
  rw [childP_cnt (x := { x with ents := x.ents.insertIdx (pre.length + 1) (s, twoB u) }) hins2 (Chs.rise _ _ hri), cnt_ins, g2]
 rw [hroom b1 (by rw [hcp]; exact t1) _ vx]
 rcases roomA_down IH f b1 av _ key (by omega) (by omega) hnx hgood hsub vx hk (by
  intro c2 z h1 h2
  rw [hcp1] at h1
  simp only [hins] at h1
  split at h1
  ·have : c2 = c := by simpa using h1.symm
   subst this
   rw [← hyid, vy] at h2; injection h2 with h2; subst h2; omega
  have : c2 = (s, twoB u) := by
   rw [List.getElem?_append_right (by omega)] at h1
   simpa using h1.symm
  subst this
  rw [htw, vu] at h2; injection h2 with h2; subst h2; omega) with ⟨b', z, hr, av', ids2, p3, p4, p5, pa, p6, p7, p8, ⟨x2, p9, p9', p9l, p9w⟩, p10, p11⟩ | ⟨h1, h2⟩
 rotate_left
 ·exact .inr ⟨by simp only [List.length_cons]; omega, h2⟩
 simp only [List.tail_cons] at p9w
 refine .inl ⟨b', z, hr, av', ids2, p3, ?_, ?_, fun j hj => by simp [pa j hj], ?_, ?_, ?_, ⟨x2, p9, ?_, p9l, ?_⟩, p10, p11⟩
 ·intro j hj
  rcases p4 j hj with h | h
  ·rcases hmem1 j h with h | h
   ·exact .inr (by simp [h])
   exact .inl h
  exact .inr (by simp [h])
 ·intro j hj
  exact p5 j (hp1.mem_iff.2 (List.mem_cons_of_mem _ hj))
 ·have := hp1.length_eq
  rw [p6, this]
  simp only [List.length_cons]
  omega
 ·intro j h1 h2 h3
  simp only [List.mem_cons, not_or] at h3
  rw [p7 j h1 (fun h => by
   rcases hmem1 j h with h | h
   ·exact h3.1 h
   exact h2 h) h3.2]
  exact vo j (fun e => h2 (by simp [e])) (fun e => h2 (by rw [e]; simp [hym])) h3.1 h1
 ·intro ho
  refine p8 (fun j hj hne q hq hl2 => ?_)
  by_cases hju : j = u
  ·subst hju; rw [vu] at hq; injection hq with hq; subst hq; omega
  by_cases hjy : j = y.id
  ·subst hjy; rw [vy] at hq; injection hq with hq; subst hq; omega
  rcases hmem1 j hj with h | h
  ·exact absurd h hju
  exact ho j h hne q (by rw [← vo j hne hjy hju (hg.rgi h).2.2]; exact hq) hl2
 ·have p := p9'
  simp only [] at p
  omega
 simp only [List.tail_cons]; omega
theorem roomA_n : ∀ n, RoomNA n
 | 0 => roomA_zero
 | n + 1 => roomA_succ (roomA_n n)
end Go.Proofs.YtbogbnkckofpdaaDoor.B

namespace Go.Proofs.YtbogbnkckofpdaaDoor.B
open Go
set_option linter.unusedVariables false
set_option linter.unusedSimpArgs false
set_option linter.unnecessarySimpa false
/-! ### a tree that a batch holds; K: how many keys were ever put -/
structure TrA (b : Bt) (K n : Nat) (av : List Int) (fl : Int) (ids : List Int) (kv : Ens) : Prop where
 g : GoodA b av ids
 s : SubT b.view n 0 [] none fl (-1) ids kv
 o : OccL b.view 0 ids
 c : ids.length + av.length = 255
 r : ∀ x, b.view 0 = some x → 0 < n → 2 ≤ x.ents.length
 w : ∀ x, b.view 0 = some x → wt b.view ids.tail + (x.ents.length - 2) ≤ K
theorem TrA.mono {b : Bt} {K K' n : Nat} {av ids : List Int} {fl : Int} {kv : Ens} (h : TrA b K n av fl ids kv) (hk : K ≤ K') : TrA b K' n av fl ids kv :=
 ⟨h.g, h.s, h.o, h.c, h.r, fun x hx => by have := h.w x hx; omega⟩
theorem Chs.size {C : CP} {m : Nat} : ∀ (es : Ens) {lo hi fl nx ids kv}, (∀ id lo hi fl nx js kv, (∀ j ∈ js, j ∈ ids) → C id lo hi fl nx js kv → m ≤ js.length) → Chs C es lo hi fl nx ids kv → es.length * m ≤ ids.length
 | [], _, _, _, _, _, _, _, h => h.elim
 | [e], _, _, _, _, _, _, hC, h => by have := hC _ _ _ _ _ _ _ (fun _ hj => hj) h.2; simpa using this
 | e :: e2 :: r, _, _, _, _, _, _, hC, h => by
  obtain ⟨h0, h1, h2, md, i1, i2, k1, k2, rfl, rfl, h3, h4⟩ := h
  have a := hC _ _ _ _ _ _ _ (fun _ hj => by simp [hj]) h3
  have b := Chs.size (m := m) (e2 :: r) (fun _ _ _ _ _ _ _ hj hs => hC _ _ _ _ _ _ _ (fun j hjm => by simp [hj j hjm]) hs) h4
  have e1 : (e :: e2 :: r).length * m = (e2 :: r).length * m + m := by simp only [List.length_cons, Nat.add_mul, Nat.one_mul]
  rw [e1, List.length_append]
  omega
theorem SubT.size {V : Vw} : ∀ (n : Nat) {id lo hi fl nx ids kv}, (∀ j ∈ ids, ∀ x, V j = some x → 2 ≤ x.level → 4 ≤ x.ents.length) → SubT V (n + 1) id lo hi fl nx ids kv → 4 ^ n ≤ ids.length
 | 0, id, _, _, _, _, _, _, ho, h => by
  obtain ⟨js, rfl, _⟩ := h; simp
 | n + 1, id, _, _, _, _, _, _, ho, h => by
  obtain ⟨js, rfl, x, h2, h3, _, _, _, h7⟩ := h
  have hx := ho id (by simp) x h2 (by omega)
  have := Chs.size (m := 4 ^ n) _ (fun _ _ _ _ _ is _ hj hs => SubT.size n (fun j hjm => ho j (by simp [hj j hjm])) hs) h7
  have e1 : 4 * 4 ^ n ≤ x.ents.length * 4 ^ n := Nat.mul_le_mul_right _ hx
  have e2 : 4 ^ (n + 1) = 4 * 4 ^ n := by rw [Nat.pow_succ]; omega
  simp only [List.length_cons]
  omega
theorem TrA.lvl {b : Bt} {K n : Nat} {av ids : List Int} {fl : Int} {kv : Ens} (h : TrA b K n av fl ids kv) : n ≤ 5 := by
 have hs := h.s
 have hc := h.c
 rcases Nat.lt_or_ge n 6 with q | q
 ·omega
 obtain ⟨k, rfl⟩ : ∃ k, n = k + 2 := ⟨n - 2, by omega⟩
 obtain ⟨js, rfl, x, hx, _, _, _, _, hch⟩ := hs
 have h2 := h.r x hx (by omega)
 have hnd := List.nodup_cons.1 h.g.ids
 have := Chs.size (m := 4 ^ k) _ (fun _ _ _ _ _ is _ hj hs => SubT.size k (fun j hjm => h.o j (by simp [hj j hjm]) (fun e => hnd.1 (by rw [← e]; exact hj j hjm))) hs) hch
 have e1 : 2 * 4 ^ k ≤ x.ents.length * 4 ^ k := Nat.mul_le_mul_right _ h2
 have h3 : 4 ^ 4 ≤ 4 ^ k := Nat.pow_le_pow_right (by decide) (by omega)
 have h4 : 4 ^ 4 = 256 := by decide
 simp only [List.length_cons] at hc
 omega
/-- How many pages. -/
theorem wt_len {V : Vw} : ∀ (l : List Int), (∀ j ∈ l, ∃ x, V j = some x) → 3 * l.length ≤ wt V l
 | [], _ => by simp [wt]
 | j :: l, h => by
  obtain ⟨x, hx⟩ := h j (by simp)
  have := wt_len l (fun k hk => h k (by simp [hk]))
  rw [wt_cons, pw_some hx, List.length_cons]; omega
theorem Chs.all_some {C : CP} {V : Vw} : ∀ (es : Ens) {lo hi fl nx ids kv}, (∀ id lo hi fl nx js kv, C id lo hi fl nx js kv → ∀ j ∈ js, ∃ x, V j = some x) → Chs C es lo hi fl nx ids kv → ∀ j ∈ ids, ∃ x, V j = some x
 | [], _, _, _, _, _, _, _, h => h.elim
 | [e], _, _, _, _, _, _, hC, h => hC _ _ _ _ _ _ _ h.2
 | e :: e2 :: r, _, _, _, _, _, _, hC, h => by
  obtain ⟨h0, h1, h2, md, i1, i2, k1, k2, rfl, rfl, h3, h4⟩ := h
  intro j hj
  rcases List.mem_append.1 hj with q | q
  ·exact hC _ _ _ _ _ _ _ h3 j q
  exact Chs.all_some (e2 :: r) hC h4 j q
theorem SubT.all_some {V : Vw} : ∀ (n : Nat) {id lo hi fl nx ids kv}, SubT V n id lo hi fl nx ids kv → ∀ j ∈ ids, ∃ x, V j = some x
 | 0, id, _, _, _, _, _, _, h => by
  obtain ⟨_, rfl, x, h3, _⟩ := h
  intro j hj; rw [List.mem_singleton] at hj; subst hj; exact ⟨x, h3⟩
 | n + 1, id, _, _, _, _, _, _, h => by
  obtain ⟨js, rfl, x, h2, _, _, _, _, h7⟩ := h
  intro j hj
  rcases List.mem_cons.1 hj with q | q
  ·subst q; exact ⟨x, h2⟩
  exact Chs.all_some _ (fun _ _ _ _ _ _ _ hs => SubT.all_some n hs) h7 j q
theorem TrA.pages {b : Bt} {K n : Nat} {av ids : List Int} {fl : Int} {kv : Ens} (h : TrA b K n av fl ids kv) : 3 * ids.length ≤ K + 3 := by
 obtain ⟨x, js, hx, _, _, e⟩ := SubT.page h.s
 have h1 := h.w x hx
 have h2 := wt_len ids.tail (fun j hj => SubT.all_some n h.s j (List.mem_of_mem_tail hj))
 rw [e] at h1 h2 ⊢
 simp only [List.tail_cons, List.length_cons] at h1 h2 ⊢
 omega
/-! ### the root split -/
theorem splitRoot_full {b : Bt} {x : Pg} {av : List Int} (h : AvV b.view av) (hi : IdsOk b.view) (hnd : av.Nodup) (hl : av.length < 2) : b.splitRoot x = .fail 109 none := by
 cases av with
 | nil => rw [Bt.splitRoot, take_full h]
 | cons l av =>
  cases av with
  | nil =>
   obtain ⟨b1, m, t1, v1, m1, m2⟩ := take_av h hi hnd
   rw [Bt.splitRoot, t1]
   simp only []
   rw [take_full m2]
  | cons r av => simp at hl; omega
theorem splitRoot_av {b : Bt} {l r : Int} {av : List Int} {x : Pg} (hm : AvV b.view (l :: r :: av)) (hi : IdsOk b.view) (hnd : (l :: r :: av).Nodup) (ha : ∀ j ∈ l :: r :: av, 1 < j ∧ j < 256) (hx : b.view 0 = some x)
  (hxl : x.ents.length = 8) (hv : x.level < 16) :
  ∃ b' m, b.splitRoot x = .ok b' ∧ m.id = 1 ∧ AvV b'.view av ∧
   b'.view = (((b.view.upd 1 m).upd l ⟨l, 0, x.level, if x.level = 0 then r else -1, clrK x.level (x.ents.take 4)⟩).upd r ⟨r, 0, x.level, -1, clrK x.level (x.ents.drop 4)⟩).upd 0 ⟨0, 0, x.level + 1, -1, [([], twoB l), ((x.ents.getD 4 ([], [])).1, twoB r)]⟩ := by
 have hid := hi 0 x hx
 have hl := ha l (by simp)
 have hr := ha r (by simp)
 have hnd2 := List.nodup_cons.1 hnd
 have hnd3 := List.nodup_cons.1 hnd2.2
 have hlr : r ≠ l := by rintro rfl; exact hnd2.1 (by simp)
 obtain ⟨b1, m1, t1, v1, m11, m12⟩ := take_av hm hi hnd
 obtain ⟨b2, m, t2, v2, m21, m22⟩ := take_av m12 (by rw [v1]; exact hi.upd m11) hnd2.2
 have v2' : b2.view = b.view.upd 1 m := by
  rw [v2, v1]; funext j
  by_cases hj : j = 1
  ·subst hj; simp only [upd_same]
  simp only [upd_other hj]
 obtain ⟨b3, t3, v3⟩ := fill_view (b := b2) (id := l) (level := x.level) (next := if x.level = 0 then r else -1) (l := x.ents.take 4) (by rw [List.length_take]; omega) (by omega) (by split <;> omega)
 obtain ⟨b4, t4, v4⟩ := fill_view (b := b3) (id := r) (level := x.level) (next := -1) (l := x.ents.drop 4) (by rw [List.length_drop]; omega) (by omega) (by omega)
 generalize hse : (x.ents.getD 4 ([], [])).1 = s
 obtain ⟨b5, t5, v5⟩ := doR_view (b := b4) (r := { page := 0, kind := 1, slot := x.level + 1 }) (x := newPg 0) (.inl ⟨rfl, rfl⟩) rfl
 have q5 : effP (newPg 0) { page := 0, kind := 1, slot := x.level + 1 } = ⟨0, 0, x.level + 1, -1, []⟩ := by
  unfold effP; rw [if_pos rfl]; simp only [newPg]; congr 1; omega
 rw [q5] at v5
 obtain ⟨b6, t6, v6⟩ := doR_view (b := b5) (r := { page := 0, kind := 2, val := twoB l }) (x := ⟨0, 0, x.level + 1, -1, []⟩) (.inr ⟨by simp, by rw [v5, upd_same]⟩) rfl
 have q6 : effP ⟨0, 0, x.level + 1, -1, []⟩ { page := 0, kind := 2, val := twoB l } = ⟨0, 0, x.level + 1, -1, [([], twoB l)]⟩ := by
  unfold effP; rw [if_neg (by simp), if_pos rfl, if_pos (by simp)]; rfl
 rw [q6] at v6
 obtain ⟨b7, t7, v7⟩ := doR_view (b := b6) (r := { page := 0, kind := 2, slot := 1, key := s, val := twoB r }) (x := ⟨0, 0, x.level + 1, -1, [([], twoB l)]⟩) (.inr ⟨by simp, by rw [v6, upd_same]⟩) rfl
 have q7 : effP ⟨0, 0, x.level + 1, -1, [([], twoB l)]⟩ { page := 0, kind := 2, slot := 1, key := s, val := twoB r } = ⟨0, 0, x.level + 1, -1, [([], twoB l), (s, twoB r)]⟩ := by
  unfold effP; rw [if_neg (by simp), if_pos rfl, if_pos (by simp)]; rfl
 rw [q7] at v7
 have v7' : b7.view = (((b.view.upd 1 m).upd l ⟨l, 0, x.level, if x.level = 0 then r else -1, clrK x.level (x.ents.take 4)⟩).upd r ⟨r, 0, x.level, -1, clrK x.level (x.ents.drop 4)⟩).upd 0 ⟨0, 0, x.level + 1, -1, [([], twoB l), (s, twoB r)]⟩ := by
  rw [v7, v6, v5, v4, v3, v2']
  funext j
  by_cases hj : j = 0
  ·subst hj; simp only [upd_same]
  simp only [upd_other hj]
 refine ⟨b7, m, ?_, m21, ?_, v7'⟩
 ·rw [Bt.splitRoot, t1]
  simp only [t2, t3, t4, hse]
  rw [Bt.all, t5]; simp only []
  rw [Bt.all, t6]; simp only []
  rw [Bt.all, t7]; rfl
 refine m22.frame ?_ (fun j hj => ?_)
 ·rw [v7', upd_other (by omega), upd_other (by omega), upd_other (by omega), v2']
 have := ha j (by simp [hj])
 rw [v7', upd_other (by omega), upd_other (by rintro rfl; exact hnd3.1 hj), upd_other (by rintro rfl; exact hnd2.1 (by simp [hj])), v2']
theorem splitRoot_trA {b : Bt} {K n : Nat} {l r fl : Int} {av ids : List Int} {kv : Ens} {x : Pg} (h : TrA b K n (l :: r :: av) fl ids kv) (hx : b.view 0 = some x) (hxl : x.ents.length = 8) :
  ∃ b' fl' ids' x', b.splitRoot x = .ok b' ∧ TrA b' K (n + 1) av fl' ids' kv ∧ b'.view 0 = some x' ∧ x'.ents.length = 2 := by
 have hn := h.lvl
 obtain ⟨y, _, hy, hlv, _, _⟩ := SubT.page h.s
 rw [hx] at hy; injection hy with hy; subst hy
 have hrl := h.g.rg l (by simp)
 have hrr := h.g.rg r (by simp)
 have h1l := h.g.a1 l (by simp)
 have h1r := h.g.a1 r (by simp)
 have hnd2 := List.nodup_cons.1 h.g.avs
 have hnd3 := List.nodup_cons.1 hnd2.2
 have hlr : l ≠ r := by rintro rfl; exact hnd2.1 (by simp)
 obtain ⟨b', m, t, m1, m2, v⟩ := splitRoot_av h.g.m h.g.i h.g.avs (fun j hj => ⟨h.g.a1 j hj, (h.g.rg j (by simp only [List.mem_append]; exact .inr hj)).2.1⟩) hx hxl (by omega)
 generalize hse : (x.ents.getD 4 ([], [])).1 = s at v
 have v0 : b'.view 0 = some ⟨0, 0, x.level + 1, -1, [([], twoB l), (s, twoB r)]⟩ := by rw [v, upd_same]
 have vr : b'.view r = some ⟨r, 0, x.level, -1, clrK x.level (x.ents.drop 4)⟩ := by rw [v, upd_other (by omega), upd_same]
 have vl : b'.view l = some ⟨l, 0, x.level, if x.level = 0 then r else -1, clrK x.level (x.ents.take 4)⟩ := by rw [v, upd_other (by omega), upd_other hlr, upd_same]
 have vo : ∀ j, j ≠ 0 → j ≠ 1 → j ≠ l → j ≠ r → b'.view j = b.view j := fun j h1 h2 h3 h4 => by rw [v, upd_other h1, upd_other h4, upd_other h3, upd_other h2]
 have hxnx : x.level = 0 → x.next = -1 := by
  intro h0
  have hs := h.s
  cases n with
  | zero =>
   obtain ⟨_, _, z, hz, _, h2, _⟩ := hs
   rw [hx] at hz; injection hz with hz; subst hz; exact h2
  | succ n => omega
 have hnl : ∀ j ∈ ids, j ≠ l ∧ j ≠ r ∧ j ∉ av := fun j hj => ⟨by rintro rfl; exact h.g.dis hj (by simp), by rintro rfl; exact h.g.dis hj (by simp), fun q => h.g.dis hj (by simp [q])⟩
 obtain ⟨js, fl', md, i1, i2, k1, k2, rfl, rfl, hp, q1, q2, S1, S2⟩ := SubT.split2 n h.s hx hxl h.g.ids (W := b'.view) (l := l) (r := r)
  (fun j hj hne => vo j hne (h.g.rgi hj).2.2 (hnl j hj).1 (hnl j hj).2.1) vl vr rfl rfl rfl (by simp only []; split <;> rename_i hc; exact (hxnx hc).symm; rfl) rfl rfl
 rw [hse] at q1 q2 S1 S2
 have hnd := List.nodup_cons.1 h.g.ids
 have hpm : ∀ j, j ∈ i1 ++ i2 → j = l ∨ j = r ∨ j ∈ js := by
  intro j hj
  have := hp.mem_iff.1 hj
  simpa using this
 have hjs : ∀ j ∈ js, j ≠ 0 ∧ j ≠ 1 ∧ j ≠ l ∧ j ≠ r := fun j hj => ⟨fun e => hnd.1 (by rw [← e]; exact hj), (h.g.rgi (j := j) (by simp [hj])).2.2, (hnl j (by simp [hj])).1, (hnl j (by simp [hj])).2.1⟩
 refine ⟨b', fl', 0 :: (i1 ++ i2), _, t, ⟨⟨m2, ?_, ?_, ?_, fun j hj => h.g.a1 j (by simp [hj])⟩, ?_, ?_, ?_, ?_, ?_⟩, v0, rfl⟩
 ·rw [v]
  refine IdsOk.upd (IdsOk.upd (IdsOk.upd (h.g.i.upd m1) ?_) ?_) ?_ <;> rfl
 ·refine List.nodup_append.2 ⟨List.nodup_cons.2 ⟨fun h0 => ?_, hp.nodup_iff.2 (List.nodup_cons.2 ⟨fun hh => ?_, List.nodup_cons.2 ⟨fun hh => (hjs r hh).2.2.2 rfl, hnd.2⟩⟩)⟩, hnd3.2, ?_⟩
  ·rcases hpm 0 h0 with q | q | q
   ·omega
   ·omega
   exact hnd.1 q
  ·rcases List.mem_cons.1 hh with q | q
   ·exact hlr q
   exact (hjs l q).2.2.1 rfl
  rintro a ha c hc rfl
  rcases List.mem_cons.1 ha with q | q
  ·subst q; exact (hnl 0 (by simp)).2.2 hc
  rcases hpm a q with q | q | q
  ·subst q; exact hnd2.1 (by simp [hc])
  ·subst q; exact hnd3.1 hc
  exact (hnl a (by simp [q])).2.2 hc
 ·intro j hj
  rcases List.mem_append.1 hj with hj | hj
  ·rcases List.mem_cons.1 hj with q | q
   ·omega
   rcases hpm j q with q | q | q
   ·subst q; exact hrl
   ·subst q; exact hrr
   exact h.g.rgi (by simp [q])
  exact h.g.rg j (by simp [hj])
 ·refine ⟨i1 ++ i2, rfl, _, v0, by simp only []; omega, rfl, by simp, ⟨twoB l, _, rfl⟩, ?_⟩
  exact ⟨rfl, q1, trivial, md, i1, i2, k1, k2, rfl, rfl, by rw [numberP_twoB (by omega) (by omega)]; exact S1, rfl, by rw [numberP_twoB (by omega) (by omega)]; exact S2⟩
 ·intro j hj hne q hq hl2
  rcases List.mem_cons.1 hj with e | e
  ·exact absurd e hne
  rcases hpm j e with e | e | e
  ·subst e; rw [vl] at hq; injection hq with hq; subst hq; simp only [clrK_len, List.length_take, hxl]; omega
  ·subst e; rw [vr] at hq; injection hq with hq; subst hq; simp only [clrK_len, List.length_drop, hxl]; omega
  have := hjs j e; exact h.o j (by simp [e]) hne q (by rw [← vo j hne this.2.1 this.2.2.1 this.2.2.2]; exact hq) hl2
 ·have h1 := hp.length_eq
  have h2 := h.c
  simp only [List.length_cons] at h1 h2 ⊢
  omega
 ·intro z hz _
  rw [v0] at hz; injection hz with hz; subst hz; exact Nat.le_refl _
 intro z hz
 rw [v0] at hz; injection hz with hz; subst hz
 have h1 := h.w x hx
 have ejs := wt_frame (V := b.view) (V' := b'.view) js (fun j hj => by have := hjs j hj; exact vo j this.1 this.2.1 this.2.2.1 this.2.2.2)
 simp only [List.tail_cons] at h1 ⊢
 rw [wt_perm hp, wt_cons, wt_cons, ejs, pw_some vl, pw_some vr]
 simp only [clrK_len, List.length_take, List.length_drop, List.length_cons, List.length_nil, hxl] at h1 ⊢
 omega
theorem trA_of_post {b b' : Bt} {K n : Nat} {av : List Int} {fl : Int} {ids : List Int} {kv : Ens} {key : Bs} {x y : Pg} (h : TrA b K n av fl ids kv) (hx : b.view 0 = some x) (hp : RoomPostA b n av 0 [] none fl (-1) ids kv key x b' y) :
  ∃ av' ids', TrA b' K n av' fl ids' kv ∧ y.ents.length < 8 ∧ Wand b'.view n 0 [] none fl (-1) ids' kv key y := by
 obtain ⟨av', ids', p3, p4, p5, pa, p6, p7, p8, ⟨x', p9, p9', p9l, p9w⟩, p10, p11⟩ := hp
 have hs' := p11.sub (by omega)
 refine ⟨av', ids', ⟨p3, hs', p8 h.o, by have := h.c; omega, ?_, ?_⟩, p10, p11⟩
 ·intro z hz hn
  rw [p9] at hz; injection hz with hz; subst hz
  exact Nat.le_trans (h.r x hx hn) p9'
 intro z hz
 rw [p9] at hz; injection hz with hz; subst hz
 have h1 := h.w x hx
 cases n with
 | zero =>
  obtain ⟨_, rfl, _⟩ := hs'
  obtain ⟨_, rfl, _⟩ := h.s
  simp only [List.tail_cons, wt_nil] at p9w h1 ⊢
  omega
 | succ n =>
  have h2 := h.r x hx (by omega)
  omega
theorem room_trA {b : Bt} {K n : Nat} {av : List Int} {fl : Int} {ids : List Int} {kv : Ens} (key : Bs) (h : TrA b K n av fl ids kv) :
  (∃ b' y n' av' fl' ids', b.room key = .ok (b', y) ∧ TrA b' K n' av' fl' ids' kv ∧ y.ents.length < 8 ∧ Wand b'.view n' 0 [] none fl' (-1) ids' kv key y) ∨ (av.length < 8 ∧ b.room key = .fail 109 none) := by
 have hn := h.lvl
 obtain ⟨x, _, hx, hlv, hl8, _⟩ := SubT.page h.s
 have hroom0 : b.room key = match ((if 8 ≤ x.ents.length then (match b.splitRoot x with
   | .fail c o => .fail c o
   | .ok b => match b.page 0 with
    | .fail c o => .fail c o
    | .ok x => .ok (b, x)) else .ok (b, x)) : Res (Bt × Pg)) with
  | .fail c o => .fail c o
  | .ok (b, x) => Bt.roomF key 34 b x := by rw [Bt.room, page_of_view hx]; rfl
 by_cases h8 : 8 ≤ x.ents.length
 ·rw [if_pos h8] at hroom0
  rcases Nat.lt_or_ge av.length 2 with q | q
  ·rw [splitRoot_full h.g.m h.g.i h.g.avs q] at hroom0
   exact .inr ⟨by omega, hroom0⟩
  obtain ⟨l, r, av, rfl⟩ : ∃ l r av', av = l :: r :: av' := by
   cases av with
   | nil => simp at q
   | cons l av => cases av with
    | nil => simp at q
    | cons r av => exact ⟨l, r, av, rfl⟩
  obtain ⟨b1, fl1, ids1, x1, t1, h1, hx1, hl1⟩ := splitRoot_trA h hx (by omega)
  rw [t1] at hroom0
  simp only [] at hroom0
  rw [page_of_view hx1] at hroom0
  simp only [] at hroom0
  rcases roomA_n (n + 1) 34 b1 av x1 key (by omega) (by omega) (by omega) h1.g h1.s hx1 (by omega) (InR.all key) with ⟨b', y, hr, hp⟩ | ⟨e1, e2⟩
  ·obtain ⟨av', ids', p⟩ := trA_of_post h1 hx1 hp
   exact .inl ⟨b', y, n + 1, av', fl1, ids', by rw [hroom0]; exact hr, p⟩
  exact .inr ⟨by simp only [List.length_cons]; omega, by rw [hroom0]; exact e2⟩
 rw [if_neg h8] at hroom0
 simp only [] at hroom0
 rcases roomA_n n 34 b av x key (by omega) (by omega) (by omega) h.g h.s hx (by omega) (InR.all key) with ⟨b', y, hr, hp⟩ | ⟨e1, e2⟩
 ·obtain ⟨av', ids', p⟩ := trA_of_post h hx hp
  exact .inl ⟨b', y, n, av', fl, ids', by rw [hroom0]; exact hr, p⟩
 exact .inr ⟨by omega, by rw [hroom0]; exact e2⟩
end Go.Proofs.YtbogbnkckofpdaaDoor.B

namespace Go.Proofs.YtbogbnkckofpdaaDoor.B
open Go
set_option linter.unusedVariables false
set_option linter.unusedSimpArgs false
set_option linter.unnecessarySimpa false
theorem wt_upd {V : Vw} {k : Int} {x y : Pg} {d : Nat} (hy : V k = some y) (hl : x.ents.length ≤ y.ents.length + d) : ∀ (l : List Int), l.Nodup → wt (V.upd k x) l ≤ wt V l + d
 | [], _ => by simp [wt]
 | j :: l, hn => by
  have hn' := List.nodup_cons.1 hn
  rw [wt_cons, wt_cons]
  by_cases h : j = k
  ·subst h
   have e2 := wt_frame (V := V) (V' := V.upd j x) l (fun i hi => upd_other (by rintro rfl; exact hn'.1 hi))
   rw [pw_some (upd_same _ _ _), pw_some hy, e2]
   omega
  have := wt_upd hy hl l hn'.2
  have e : pw (V.upd k x) j = pw V j := by rw [pw, pw, upd_other h]
  omega
theorem TrA.id0 {b : Bt} {K n : Nat} {av ids : List Int} {fl : Int} {kv : Ens} (h : TrA b K n av fl ids kv) : ∃ x js, b.view 0 = some x ∧ x.level = (n : Int) ∧ x.ents.length ≤ 8 ∧ ids = 0 :: js := SubT.page h.s
/-- A leaf's entries changed. -/
theorem leaf_trA {b b'' : Bt} {K d n : Nat} {av : List Int} {fl : Int} {ids : List Int} {kvL kvR ents' : Ens} {y : Pg} {kv : Ens} (h : TrA b K n av fl ids kv) (hy : b.view y.id = some y) (hm : y.id ∈ ids) (hlv : y.level = 0)
  (hv : b''.view = b.view.upd y.id { y with ents := ents' }) (hl : ents'.length ≤ y.ents.length + d)
  (hs : SubT b''.view n 0 [] none fl (-1) ids (kvL ++ ents' ++ kvR)) : TrA b'' (K + d) n av fl ids (kvL ++ ents' ++ kvR) := by
 have hy1 := (h.g.rgi hm).2.2
 obtain ⟨x0, js, hx0, hx0l, _, hids⟩ := h.id0
 have hv0 : 0 < n → (0 : Int) ≠ y.id := by
  intro hn e
  rw [← e, hx0] at hy; injection hy with hy; subst hy
  omega
 refine ⟨⟨?_, ?_, h.g.nd, h.g.rg, h.g.a1⟩, hs, ?_, h.c, ?_, ?_⟩
 ·refine h.g.m.frame (by rw [hv, upd_other (Ne.symm hy1)]) (fun j hj => ?_)
  rw [hv, upd_other]
  rintro rfl
  exact h.g.dis hm hj
 ·rw [hv]; exact h.g.i.upd rfl
 ·intro j hj hne x hx hl2
  rw [hv] at hx
  by_cases e : j = y.id
  ·subst e
   rw [upd_same] at hx; injection hx with hx; subst hx
   simp only [] at hl2; omega
  rw [upd_other e] at hx; exact h.o j hj hne x hx hl2
 ·intro x hx hn
  rw [hv, upd_other (hv0 hn)] at hx
  exact h.r x hx hn
 intro x hx
 by_cases e : (0 : Int) = y.id
 ·rw [hv, e, upd_same] at hx; injection hx with hx; subst hx
  have hn : n = 0 := by
   rcases Nat.eq_zero_or_pos n with q | q
   ·exact q
   exact absurd e (hv0 q)
  subst hn
  have h1 := h.w y (by rw [e]; exact hy)
  obtain ⟨_, rfl, _⟩ := h.s
  simp only [List.tail_cons, wt_nil] at h1 ⊢
  omega
 rw [hv, upd_other e] at hx
 have h1 := h.w x hx
 have h2 := wt_upd (V := b.view) (k := y.id) (x := { y with ents := ents' }) hy hl ids.tail (h.g.ids.sublist (List.tail_sublist _))
 rw [hv]
 omega
/-- Put. -/
theorem put_trA {b : Bt} {K n : Nat} {av : List Int} {fl : Int} {ids : List Int} {kv : Ens} {key val : Bs} (h : TrA b K n av fl ids kv) (hk : rightK key = true) (hv : val.length ≤ 64) :
  (∃ b' n' av' fl' ids', b.put key val = .ok b' ∧ TrA b' (K + 1) n' av' fl' ids' (insKv kv key val)) ∨ (av.length < 8 ∧ lookKv kv key = none ∧ b.put key val = .fail 109 none) := by
 have hn := h.lvl
 have hk0 : key ≠ [] := by rintro rfl; simp [rightK] at hk
 obtain ⟨l', ks', y, hd, hy8, hw⟩ := down_n (key := key) h.g.i n 17 [] [] (by omega) h.g.ids h.s (InR.all key)
 have hlast : lastPg ([] ++ l' ++ [y]) = y := lastPg_end _ _
 obtain ⟨w1, w2, w3, kvL, kvR, lo', hi', rfl, w5, w6, w7, w8, w9⟩ := hw.keys hk0 hw.1
 have hput : b.put key val = (if (findP y.ents key).2 then b.doR { page := y.id, kind := 4, slot := (findP y.ents key).1, val := val } else match b.room key with
  | .fail c o => .fail c o
  | .ok (b, y) => b.doR { page := y.id, kind := 2, slot := (findP y.ents key).1, key := key, val := val }) := by
  rw [Bt.put, if_neg (by rw [hk]; simp; omega), Bt.down, hd]
  simp only [hlast]
  rfl
 cases hf : (findP y.ents key).2 with
 | true =>
  rw [hf] at hput
  have hlt := findP_lt hf
  obtain ⟨b', t, v⟩ := doR_view (b := b) (r := { page := y.id, kind := 4, slot := (findP y.ents key).1, val := val }) (x := y) (.inr ⟨by simp, w1⟩) rfl
  have he : effP y { page := y.id, kind := 4, slot := (findP y.ents key).1, val := val } = { y with ents := insKv y.ents key val } := by
   unfold effP
   rw [if_neg (by simp), if_neg (by simp), if_neg (by simp), if_pos rfl, if_pos (by simp only []; omega)]
   simp only [Int.toNat_natCast]
   rw [insKv_found _ hf]
  rw [he] at v
  refine .inl ⟨b', n, av, fl, ids, by rw [hput]; exact t, ?_⟩
  rw [insKv_right w8, insKv_left _ w7]
  have hlen8 : (insKv y.ents key val).length ≤ 8 := by rw [← insKv_found _ hf]; simpa using hy8
  exact leaf_trA h w1 w3 w2 v (insKv_len _).2 (w9 _ _ (fun j _ hne => by rw [v, upd_other hne]) (by rw [v, upd_same]) hlen8 (insKv_ok w6 w5 hk0))
 | false =>
  rw [hf] at hput
  rcases room_trA key h with ⟨b1, z, n1, av1, fl1, ids1, hr, h1, hz8, hw1⟩ | ⟨e1, e2⟩
  rotate_left
  ·refine .inr ⟨e1, ?_, by rw [hput]; simp only [Bool.false_eq_true, if_false]; rw [e2]⟩
   rw [lookKv_right w8, lookKv_left _ w7, ← lookKv_find, if_neg (by rw [hf]; simp)]
  obtain ⟨z1, z2, z3, kL, kR, lo2, hi2, hkv, z5, z6, z7, z8, z9⟩ := hw1.keys hk0 hw1.1
  have hfz : (findP z.ents key).2 = false := by
   cases hq : (findP z.ents key).2 with
   | false => rfl
   | true =>
    exfalso
    obtain ⟨e, he, hek⟩ := findP_mem _ hq
    have hmem : e ∈ kvL ++ y.ents ++ kvR := by rw [hkv]; simp [he]
    have hfy : (findP y.ents key).2 = true := by
     refine findP_of_mem _ w6.1 ⟨e, ?_, hek⟩
     rcases List.mem_append.1 hmem with q | q
     ·rcases List.mem_append.1 q with q | q
      ·have := w7 e q; rw [hek, ltB_irrefl] at this; cases this
      exact q
     have := w8 e q; rw [hek, ltB_irrefl] at this; cases this
    rw [hf] at hfy; cases hfy
  obtain ⟨b', t, v⟩ := doR_view (b := b1) (r := { page := z.id, kind := 2, slot := (findP z.ents key).1, key := key, val := val }) (x := z) (.inr ⟨by simp, z1⟩) rfl
  have he : effP z { page := z.id, kind := 2, slot := (findP z.ents key).1, key := key, val := val } = { z with ents := insKv z.ents key val } := by
   unfold effP
   rw [if_neg (by simp), if_pos rfl, if_pos hz8]
   have := findP_le z.ents key
   rw [show (min ((findP z.ents key).1 : Int) (z.ents.length : Nat)).toNat = (findP z.ents key).1 by omega, insKv_new _ hfz]
  rw [he] at v
  refine .inl ⟨b', n1, av1, fl1, ids1, by rw [hput]; simp only [Bool.false_eq_true, if_false]; rw [hr]; exact t, ?_⟩
  rw [hkv, insKv_right z8, insKv_left _ z7]
  have hlen8 : (insKv z.ents key val).length ≤ 8 := by have := (insKv_len (k := key) (v := val) z.ents).2; omega
  exact leaf_trA h1 z1 z3 z2 v (insKv_len _).2 (z9 _ _ (fun j _ hne => by rw [v, upd_other hne]) (by rw [v, upd_same]) hlen8 (insKv_ok z6 z5 hk0))
theorem get_trA {b : Bt} {K n : Nat} {av : List Int} {fl : Int} {ids : List Int} {kv : Ens} {key : Bs} (h : TrA b K n av fl ids kv) (hk : rightK key = true) : b.get key = .ok (lookKv kv key) := by
 have hn := h.lvl
 have hk0 : key ≠ [] := by rintro rfl; simp [rightK] at hk
 obtain ⟨l', ks', y, hd, hy8, hw⟩ := down_n (key := key) h.g.i n 17 [] [] (by omega) h.g.ids h.s (InR.all key)
 have hlast : lastPg ([] ++ l' ++ [y]) = y := lastPg_end _ _
 obtain ⟨w1, w2, w3, kvL, kvR, lo', hi', rfl, w5, w6, w7, w8, w9⟩ := hw.keys hk0 hw.1
 rw [lookKv_right w8, lookKv_left _ w7, ← lookKv_find, Bt.get, if_neg (by rw [hk]; simp), Bt.down, hd]
 simp only [hlast]
 split <;> rfl
/-- A batch that holds a tree of these keys; K: how many were ever put. -/
def HoldsA (b : Bt) (K : Nat) (kv : Ens) : Prop := ∃ n av fl ids, TrA b K n av fl ids kv
theorem HoldsA.mono {b : Bt} {K K' : Nat} {kv : Ens} (h : HoldsA b K kv) (hk : K ≤ K') : HoldsA b K' kv := by
 obtain ⟨n, av, fl, ids, h⟩ := h; exact ⟨n, av, fl, ids, h.mono hk⟩
theorem HoldsA.sorted {b : Bt} {K : Nat} {kv : Ens} (h : HoldsA b K kv) : Sorted kv := by
 obtain ⟨n, av, fl, ids, h⟩ := h
 exact (SubT.kv n h.s).1
theorem HoldsA.put {b : Bt} {K : Nat} {kv : Ens} {key val : Bs} (h : HoldsA b K kv) (hl : K ≤ 735) (hk : rightK key = true) (hv : val.length ≤ 64) : ∃ b', b.put key val = .ok b' ∧ HoldsA b' (K + 1) (insKv kv key val) := by
 obtain ⟨n, av, fl, ids, h⟩ := h
 have h1 := h.pages
 have h2 := h.c
 rcases put_trA h hk hv with ⟨b', n', av', fl', ids', t, h'⟩ | ⟨e, _⟩
 ·exact ⟨b', t, n', av', fl', ids', h'⟩
 omega
theorem HoldsA.get {b : Bt} {K : Nat} {kv : Ens} {key : Bs} (h : HoldsA b K kv) (hk : rightK key = true) : b.get key = .ok (lookKv kv key) := by
 obtain ⟨n, av, fl, ids, h⟩ := h
 exact get_trA h hk
end Go.Proofs.YtbogbnkckofpdaaDoor.B

namespace Go.Proofs.YtbogbnkckofpdaaDoor.B
open Go
set_option linter.unusedVariables false
set_option linter.unusedSimpArgs false
set_option linter.unnecessarySimpa false
/-! ### a key taken out of a list -/
def delKv (l : Ens) (k : Bs) : Ens := l.filter fun e => decide (e.1 ≠ k)
theorem delKv_append (l m : Ens) (k : Bs) : delKv (l ++ m) k = delKv l k ++ delKv m k := by simp [delKv]
theorem delKv_id {l : Ens} {k : Bs} (h : ∀ e ∈ l, e.1 ≠ k) : delKv l k = l := by
 rw [delKv, List.filter_eq_self]; intro e he; simpa using h e he
theorem delKv_right {k : Bs} {R : Ens} (hR : ∀ e ∈ R, ltB k e.1 = true) (l : Ens) : delKv (l ++ R) k = delKv l k ++ R := by
 rw [delKv_append, delKv_id (l := R)]
 intro e he h; have := hR e he; rw [h, ltB_irrefl] at this; cases this
theorem delKv_left {k : Bs} {l : Ens} (L : Ens) (hL : ∀ e ∈ L, ltB e.1 k = true) : delKv (L ++ l) k = L ++ delKv l k := by
 rw [delKv_append, delKv_id (l := L)]
 intro e he h; have := hL e he; rw [h, ltB_irrefl] at this; cases this
theorem delKv_found {k : Bs} : ∀ l : Ens, Sorted l → (findP l k).2 = true → l.eraseIdx (findP l k).1 = delKv l k
 | [], _, h => by simp [findP] at h
 | e :: r, hs, h => by
  have hs' := List.pairwise_cons.1 hs
  rw [findP] at h ⊢
  split at h
  ·rename_i h1
   have hne : e.1 ≠ k := by intro e2; rw [e2, ltB_irrefl] at h1; cases h1
   rw [if_pos h1]
   simp only [List.eraseIdx_cons_succ]
   rw [delKv_found r hs'.2 h, delKv, delKv, List.filter_cons_of_pos (by simpa using hne)]
  rename_i h1
  have he : e.1 = k := by simpa using h
  rw [if_neg h1]
  simp only [List.eraseIdx_cons_zero]
  have : delKv r k = r := delKv_id (fun q hq h2 => by have := hs'.1 q hq; rw [h2, he, ltB_irrefl] at this; cases this)
  rw [delKv, List.filter_cons_of_neg (by simpa using he)]
  exact this.symm
theorem delKv_none {l : Ens} {k : Bs} (hs : Sorted l) (h : (findP l k).2 = false) : delKv l k = l := by
 refine delKv_id (fun e he h2 => ?_)
 rw [findP_of_mem l hs ⟨e, he, h2⟩] at h; cases h
theorem delKv_ok {lo : Bs} {hi : Option Bs} {l : Ens} (k : Bs) (h : KvOk lo hi l) : KvOk lo hi (delKv l k) :=
 ⟨List.Pairwise.sublist List.filter_sublist h.1, fun e he => h.2 e (List.mem_filter.1 he).1⟩
theorem delKv_len (l : Ens) (k : Bs) : (delKv l k).length ≤ l.length := List.length_filter_le _ _
/-! ### two leaves put together -/
theorem insR_view {id : Int} : ∀ (l : Ens) (i : Nat) (b : Bt) (x : Pg), b.view id = some x → x.id = id → x.ents.length = i → i + l.length ≤ 8 →
  ∃ b', b.all (insR id i l) = .ok b' ∧ b'.view = b.view.upd id { x with ents := x.ents ++ l }
 | [], i, b, x, hv, hid, hi, hl => by
  refine ⟨b, rfl, ?_⟩
  funext k
  by_cases hk : k = id
  ·subst hk; rw [upd_same, hv, List.append_nil]
  rw [upd_other hk]
 | e :: r, i, b, x, hv, hid, hi, hl => by
  simp only [List.length_cons] at hl
  obtain ⟨b1, h1, hv1⟩ := doR_view (b := b) (r := { page := id, kind := 2, slot := (i : Nat), key := e.1, val := e.2 }) (x := x) (.inr ⟨by simp, hv⟩) hid
  have he : effP x { page := id, kind := 2, slot := (i : Nat), key := e.1, val := e.2 } = { x with ents := x.ents ++ [e] } := by
   unfold effP
   rw [if_neg (by simp), if_pos rfl, if_pos (by omega)]
   have hm : (min ((i : Nat) : Int) (x.ents.length : Nat)).toNat = x.ents.length := by omega
   rw [hm, insertIdx_len]
  rw [he] at hv1
  obtain ⟨b2, h2, hv2⟩ := insR_view r (i + 1) b1 { x with ents := x.ents ++ [e] } (by rw [hv1, upd_same]) hid (by simp [hi]) (by omega)
  refine ⟨b2, by rw [insR, Bt.all, h1]; exact h2, ?_⟩
  rw [hv2, hv1]
  funext k
  by_cases hk : k = id
  ·subst hk; rw [upd_same, upd_same]; simp
  rw [upd_other hk, upd_other hk, upd_other hk]
theorem join_view {b : Bt} {av : List Int} {p X Y : Pg} {kk : Nat} (hm : AvV b.view av) (hi : IdsOk b.view) (hp : b.view p.id = some p) (hX : b.view X.id = some X) (hY : b.view Y.id = some Y) (hs : X.ents.length + Y.ents.length ≤ 6) (hk : kk + 1 < p.ents.length) (hn : Y.next < 256)
  (d1 : p.id ≠ X.id) (d2 : X.id ≠ Y.id) (d3 : p.id ≠ Y.id) (d4 : p.id ≠ 1) (d5 : X.id ≠ 1) (d6 : 1 < Y.id) (d7 : Y.id < 256) (a1 : p.id ∉ av) (a2 : X.id ∉ av) (a3 : Y.id ∉ av) :
  ∃ b' m q, b.joinL p kk X Y = .ok b' ∧ m.id = 1 ∧ q.id = Y.id ∧ b'.view = (((b.view.upd X.id { X with ents := X.ents ++ Y.ents, next := Y.next }).upd p.id { p with ents := p.ents.eraseIdx (kk + 1) }).upd Y.id q).upd 1 m ∧ AvV b'.view (Y.id :: av) := by
 obtain ⟨b1, t1, v1⟩ := insR_view (id := X.id) Y.ents X.ents.length b X hX rfl rfl (by omega)
 obtain ⟨b2, t2, v2⟩ := doR_view (b := b1) (r := { page := X.id, kind := 5, slot := nextP Y }) (x := { X with ents := X.ents ++ Y.ents }) (.inr ⟨by simp, by rw [v1, upd_same]⟩) rfl
 have e2 : effP { X with ents := X.ents ++ Y.ents } { page := X.id, kind := 5, slot := nextP Y } = { X with ents := X.ents ++ Y.ents, next := Y.next } := by
  unfold effP
  rw [if_neg (by simp), if_neg (by simp), if_neg (by simp), if_neg (by simp), if_pos rfl]
  by_cases h : Y.next = -1
  ·have h1 : nextP Y = 256 := by rw [nextP, if_pos h]
   rw [if_pos (by simp only []; omega), h]
  have h1 : nextP Y = Y.next := by rw [nextP, if_neg h]
  rw [if_neg (by simp only []; omega)]
  simp only [h1]
 rw [e2] at v2
 have hp2 : b2.view p.id = some p := by rw [v2, upd_other d1, v1, upd_other d1]; exact hp
 obtain ⟨b3, t3, v3⟩ := doR_view (b := b2) (r := { page := p.id, kind := 3, slot := ((kk + 1 : Nat) : Int) }) (x := p) (.inr ⟨by simp, hp2⟩) rfl
 have e3 : effP p { page := p.id, kind := 3, slot := ((kk + 1 : Nat) : Int) } = { p with ents := p.ents.eraseIdx (kk + 1) } := by
  unfold effP
  rw [if_neg (by simp), if_neg (by simp), if_pos rfl, if_pos (by simp only []; omega)]
  simp only [Int.toNat_natCast]
 rw [e3] at v3
 have v3' : b3.view = (b.view.upd X.id { X with ents := X.ents ++ Y.ents, next := Y.next }).upd p.id { p with ents := p.ents.eraseIdx (kk + 1) } := by
  rw [v3, v2, v1]
  funext j
  by_cases hj : j = p.id
  ·subst hj; simp only [upd_same]
  rw [upd_other hj, upd_other hj]
  by_cases h2 : j = X.id
  ·subst h2; simp only [upd_same]
  simp only [upd_other h2]
 have hA3 : AvV b3.view av := hm.frame (by rw [v3', upd_other (Ne.symm d4), upd_other (Ne.symm d5)]) (fun j hj => by rw [v3', upd_other (by rintro rfl; exact a1 hj), upd_other (by rintro rfl; exact a2 hj)])
 have hi3 : IdsOk b3.view := by rw [v3']; refine IdsOk.upd (IdsOk.upd hi ?_) ?_ <;> rfl
 obtain ⟨b4, m, t4, m1, ⟨q, q1, v4⟩, hA4⟩ := free_av hA3 hi3 d6 d7 a3
 refine ⟨b4, m, q, ?_, m1, q1, by rw [v4, v3'], hA4⟩
 rw [Bt.joinL, if_neg (by omega), t1]
 simp only []
 rw [Bt.all, t2]
 simp only []
 rw [Bt.all, t3]
 simp only [Bt.all]
 exact t4
/-- Two children side by side, and what may stand in their place. -/
theorem Chs.pair {C : CP} {a c : Bs × Bs} {post : Ens} : ∀ (pre : Ens) {lo : Bs} {hi : Option Bs} {fl nx : Int} {ids : List Int} {kv : Ens}, Chs C (pre ++ a :: c :: post) lo hi fl nx ids kv →
  ∃ lo1 hi1 f1 m1 n1 iL i1 i2 iR kL k1 k2 kR, a.2.length = 2 ∧ c.2.length = 2 ∧ ltB lo1 c.1 = true ∧ below c.1 hi1 ∧ C (numberP a.2) lo1 (some c.1) f1 m1 i1 k1 ∧ C (numberP c.2) c.1 hi1 m1 n1 i2 k2 ∧ ids = iL ++ (i1 ++ i2) ++ iR ∧ kv = kL ++ (k1 ++ k2) ++ kR ∧
   ∀ (C' : CP) ids'' kv'', (∀ id lo hi fl nx js kv, (∀ j ∈ js, j ∈ iL ∨ j ∈ iR) → C id lo hi fl nx js kv → C' id lo hi fl nx js kv) → C' (numberP a.2) lo1 hi1 f1 n1 ids'' kv'' → Chs C' (pre ++ a :: post) lo hi fl nx (iL ++ ids'' ++ iR) (kL ++ kv'' ++ kR)
 | [], lo, hi, fl, nx, ids, kv, h => by
  obtain ⟨h0, h1, h2, md, i1, i2, k1, k2, rfl, rfl, h3, h4⟩ := h
  cases post with
  | nil =>
   refine ⟨lo, hi, fl, md, nx, [], i1, i2, [], [], k1, k2, [], h0, h4.1, h1, h2, h3, h4.2, by simp, by simp, fun C' ids'' kv'' _ hm => ?_⟩
   simp only [List.nil_append, List.append_nil]
   exact ⟨h0, hm⟩
  | cons d post =>
   obtain ⟨g0, g1, g2, md2, j1, j2, l1, l2, rfl, rfl, g3, g4⟩ := h4
   refine ⟨lo, some d.1, fl, md, md2, [], i1, j1, j2, [], k1, l1, l2, h0, g0, h1, g1, h3, g3, by simp, by simp, fun C' ids'' kv'' hc hm => ?_⟩
   simp only [List.nil_append]
   exact ⟨h0, ltB_trans h1 g1, g2, md2, ids'', j2, kv'', l2, rfl, rfl, hm, Chs.mono (d :: post) (fun id lo hi fl nx js kv hj => hc id lo hi fl nx js kv (fun j hjm => .inr (hj j hjm))) g4⟩
 | p :: pre, lo, hi, fl, nx, ids, kv, h => by
  obtain ⟨e2, r, he⟩ : ∃ e2 r, pre ++ a :: c :: post = e2 :: r := by cases pre with
   | nil => exact ⟨_, _, rfl⟩
   | cons q s => exact ⟨_, _, rfl⟩
  rw [List.cons_append, he] at h
  obtain ⟨h0, h1, h2, md, i1, i2, k1, k2, rfl, rfl, h3, h4⟩ := h
  rw [← he] at h4
  obtain ⟨lo1, hi1, f1, m1, n1, iL, j1, j2, iR, kL, l1, l2, kR, g1, g2, g3, g4, g5, g6, rfl, rfl, g9⟩ := Chs.pair pre h4
  refine ⟨lo1, hi1, f1, m1, n1, i1 ++ iL, j1, j2, iR, k1 ++ kL, l1, l2, kR, g1, g2, g3, g4, g5, g6, by simp, by simp, fun C' ids'' kv'' hc hm => ?_⟩
  have h5 := g9 C' ids'' kv'' (fun id lo hi fl nx js kv hj => hc id lo hi fl nx js kv (fun j hjm => by rcases hj j hjm with q | q; exact .inl (by simp [q]); exact .inr q)) hm
  obtain ⟨r', he'⟩ : ∃ r', pre ++ a :: post = e2 :: r' := by
   cases pre with
   | nil => simp only [List.nil_append, List.cons.injEq] at he; exact ⟨post, by rw [List.nil_append, he.1]⟩
   | cons q s => simp only [List.cons_append, List.cons.injEq] at he; exact ⟨s ++ a :: post, by rw [List.cons_append, he.1]⟩
  rw [List.cons_append, he']
  rw [he'] at h5
  refine ⟨h0, h1, h2, md, i1, iL ++ ids'' ++ iR, k1, kL ++ kv'' ++ kR, by simp, by simp, ?_, h5⟩
  exact hc _ _ _ _ _ _ _ (fun j hj => .inl (by simp [hj])) h3
/-! ### the page above the leaf of a key -/
def WandP (V : Vw) (n : Nat) (id : Int) (lo : Bs) (hi : Option Bs) (fl nx : Int) (ids : List Int) (kv : Ens) (key : Bs) (p : Pg) : Prop :=
 ∃ (idsL idsp idsR : List Int) (kvL kvp kvR : Ens) (lo' : Bs) (hi' : Option Bs) (fl' nx' : Int), ids = idsL ++ idsp ++ idsR ∧ kv = kvL ++ kvp ++ kvR ∧ V p.id = some p ∧ SubT V 1 p.id lo' hi' fl' nx' idsp kvp ∧ InR lo' hi' key ∧
  ((n = 1 ∧ p.id = id ∧ idsL = [] ∧ idsR = []) ∨ (1 < n ∧ ∃ t, idsL = id :: t)) ∧
  ∀ (V'' : Vw) idsp'' kvp'', (∀ j ∈ idsL, V'' j = V j) → (∀ j ∈ idsR, V'' j = V j) → SubT V'' 1 p.id lo' hi' fl' nx' idsp'' kvp'' → SubT V'' n id lo hi fl nx (idsL ++ idsp'' ++ idsR) (kvL ++ kvp'' ++ kvR)
theorem down_p {b : Bt} {key : Bs} (hi0 : IdsOk b.view) : ∀ (m f : Nat) {id lo hi fl nx ids kv} (l : List Pg) (ks : List Nat), m + 2 ≤ f → SubT b.view (m + 1) id lo hi fl nx ids kv → InR lo hi key →
  ∃ l' ks' p y, b.downF key f id l ks = .ok (l ++ l' ++ [p, y], ks ++ ks' ++ [childP p key]) ∧ (∃ c, p.ents[childP p key]? = some c ∧ c.2.length = 2 ∧ b.view (numberP c.2) = some y ∧ y.level = 0) ∧ WandP b.view (m + 1) id lo hi fl nx ids kv key p
 | 0, f, id, lo, hi, fl, nx, ids, kv, l, ks, hf, hs, hk => by
  obtain ⟨f, rfl⟩ : ∃ g, f = g + 1 + 1 := ⟨f - 2, by omega⟩
  have hs0 := hs
  obtain ⟨js, rfl, x, hx, hlv, hxn, hlen, ⟨v, r, hes⟩, hch⟩ := hs
  have hxid := hi0 _ x hx
  rw [hes] at hch
  obtain ⟨pre, c, post, lo', hi', fl', nx', idsL, ids', idsR, kvL, kv', kvR, g1, g2, g3, g4, g5, rfl, rfl, g8, g9, g10⟩ := Chs.focus r ([], v) hch hk
  have hcp : childP x key = pre.length := by rw [childP_cnt hes (Chs.rise _ _ hch), g2]
  have hget : x.ents[pre.length]? = some c := by rw [hes, g1]; simp
  have hlt : pre.length < x.ents.length := by rw [hes, g1]; simp
  have hat : atP x (childP x key : Nat) = .ok (numberP c.2) := by
   have hd : x.ents.getD ((pre.length : Int)).toNat ([], []) = c := by simp [List.getD, hget]
   rw [atP, hcp, if_neg (by omega), hd, if_neg (by simp [g4])]
  obtain ⟨e1, e2, y, hy, hy0, _⟩ := g5
  refine ⟨[], [], x, y, ?_, ⟨c, by rw [hcp]; exact hget, g4, hy, hy0⟩, ?_⟩
  ·rw [Bt.downF, page_of_view hx]
   simp only []
   rw [if_neg (by omega), hat]
   simp only []
   rw [Bt.downF, page_of_view hy]
   simp only []
   rw [if_pos hy0]
   simp
  refine ⟨[], id :: (idsL ++ ids' ++ idsR), [], [], kvL ++ kv' ++ kvR, [], lo, hi, fl, nx, by simp, by simp, by rw [hxid]; exact hx, by rw [hxid]; exact hs0, hk, .inl ⟨rfl, hxid, rfl, rfl⟩, fun V'' idsp'' kvp'' _ _ hS => ?_⟩
  rw [hxid] at hS
  simpa using hS
 | m + 1, f, id, lo, hi, fl, nx, ids, kv, l, ks, hf, hs, hk => by
  obtain ⟨f, rfl⟩ : ∃ g, f = g + 1 := ⟨f - 1, by omega⟩
  obtain ⟨js, rfl, x, hx, hlv, hxn, hlen, ⟨v, r, hes⟩, hch⟩ := hs
  rw [hes] at hch
  obtain ⟨pre, c, post, lo', hi', fl', nx', idsL, ids', idsR, kvL, kv', kvR, g1, g2, g3, g4, g5, rfl, rfl, g8, g9, g10⟩ := Chs.focus r ([], v) hch hk
  have hcp : childP x key = pre.length := by rw [childP_cnt hes (Chs.rise _ _ hch), g2]
  have hget : x.ents[pre.length]? = some c := by rw [hes, g1]; simp
  have hlt : pre.length < x.ents.length := by rw [hes, g1]; simp
  have hat : atP x (childP x key : Nat) = .ok (numberP c.2) := by
   have hd : x.ents.getD ((pre.length : Int)).toNat ([], []) = c := by simp [List.getD, hget]
   rw [atP, hcp, if_neg (by omega), hd, if_neg (by simp [g4])]
  obtain ⟨l', ks', p, y, hr, hy, iL, ip, iR, kL, kp, kR, lo2, hi2, f2, n2, rfl, rfl, w1, w2, wk, w3, w4⟩ := down_p hi0 m f (l ++ [x]) (ks ++ [childP x key]) (by omega) g5 g3
  refine ⟨x :: l', childP x key :: ks', p, y, ?_, hy, id :: (idsL ++ iL), ip, iR ++ idsR, kvL ++ kL, kp, kR ++ kvR, lo2, hi2, f2, n2, by simp, by simp, w1, w2, wk, .inr ⟨by omega, _, rfl⟩, fun V'' ip'' kp'' hL hR hS => ?_⟩
  ·rw [Bt.downF, page_of_view hx]
   simp only []
   rw [if_neg (by omega), hat]
   simp only []
   rw [hr]
   simp
  have h1 := w4 V'' ip'' kp'' (fun j hj => hL j (by simp [hj])) (fun j hj => hR j (by simp [hj])) hS
  have hall := g10 (SubT V'' (m + 1)) [] (iL ++ ip'' ++ iR) (kL ++ kp'' ++ kR) (fun id' lo hi fl nx is kv hj hs' => SubT.frame (m + 1) (fun j hjm => by
   rcases hj j hjm with q | q
   ·exact hL j (by simp [q])
   exact hR j (by simp [q])) hs') ⟨g4, h1⟩
  refine ⟨idsL ++ iL ++ ip'' ++ (iR ++ idsR), by simp, x, by rw [hL id (by simp)]; exact hx, hlv, hxn, hlen, ⟨v, r, hes⟩, ?_⟩
  rw [hes, g1]
  simpa using hall
end Go.Proofs.YtbogbnkckofpdaaDoor.B

namespace Go.Proofs.YtbogbnkckofpdaaDoor.B
open Go
set_option linter.unusedVariables false
set_option linter.unusedSimpArgs false
set_option linter.unnecessarySimpa false
/-- As TrA, whatever the root has. -/
structure TrW (b : Bt) (K n : Nat) (av : List Int) (fl : Int) (ids : List Int) (kv : Ens) : Prop where
 g : GoodA b av ids
 s : SubT b.view n 0 [] none fl (-1) ids kv
 o : OccL b.view 0 ids
 c : ids.length + av.length = 255
 w : ∀ x, b.view 0 = some x → wt b.view ids.tail + (x.ents.length - 2) ≤ K
theorem TrA.toW {b : Bt} {K n : Nat} {av ids : List Int} {fl : Int} {kv : Ens} (h : TrA b K n av fl ids kv) : TrW b K n av fl ids kv := ⟨h.g, h.s, h.o, h.c, h.w⟩
theorem TrW.toA {b : Bt} {K n : Nat} {av ids : List Int} {fl : Int} {kv : Ens} (h : TrW b K n av fl ids kv) (hr : ∀ x, b.view 0 = some x → 0 < n → 2 ≤ x.ents.length) : TrA b K n av fl ids kv := ⟨h.g, h.s, h.o, h.c, hr, h.w⟩
theorem eraseIdx_mid {α : Type} (a c : α) (post : List α) : ∀ pre : List α, (pre ++ a :: c :: post).eraseIdx (pre.length + 1) = pre ++ a :: post
 | [] => rfl
 | p :: ps => by simp only [List.cons_append, List.length_cons, List.eraseIdx_cons_succ]; rw [eraseIdx_mid a c post ps]
theorem split_two {α : Type} (l : List α) (k : Nat) (h : k + 1 < l.length) : ∃ pre a c post, l = pre ++ a :: c :: post ∧ pre.length = k := by
 refine ⟨l.take k, l[k], l[k + 1], l.drop (k + 2), ?_, by rw [List.length_take]; omega⟩
 rw [← List.drop_eq_getElem_cons h, ← List.drop_eq_getElem_cons (by omega : k < l.length), List.take_append_drop]
theorem atP_get {p : Pg} {k : Nat} {c : Bs × Bs} (h : p.ents[k]? = some c) (h2 : c.2.length = 2) : atP p (k : Nat) = .ok (numberP c.2) := by
 obtain ⟨h1, _⟩ := List.getElem?_eq_some_iff.1 h
 have hd : p.ents.getD ((k : Int)).toNat ([], []) = c := by simp [List.getD, h]
 rw [atP, if_neg (by omega), hd, if_neg (by simp [h2])]
theorem free_runs {b b' : Bt} {p : Int} {av : List Int} (hA : AvV b.view av) (hp : 0 ≤ p ∧ p < 256) (ht : b.free p = .ok b') : Runs b b' 3 := by
 obtain ⟨u, f, fr, h, _⟩ := hA
 have hf := (FreeC.rg fr h.c).2
 rw [Bt.free, h.pages] at ht
 refine ⟨_, by simp, ?_, ht⟩
 intro r hr
 simp only [List.mem_cons, List.not_mem_nil, or_false] at hr
 rcases hr with q | q | q <;> subst q
 ·exact ⟨⟨rfl, rfl, rfl, rfl⟩, hp, ⟨by simp, by simp⟩, ⟨by simp, by simp⟩, by simp, by simp⟩
 ·exact ⟨⟨rfl, rfl, rfl, rfl⟩, hp, ⟨by simp, by simp⟩, ⟨by simp only []; split <;> omega, by simp only []; split <;> omega⟩, by simp, by simp⟩
 exact ⟨⟨rfl, rfl, rfl, rfl⟩, ⟨by simp, by simp⟩, ⟨by simp, by simp⟩, ⟨by simp, by simp⟩, by simp, by simp [twoB]⟩
theorem insR_ok {id : Int} (hid : 0 ≤ id ∧ id < 256) : ∀ (l : Ens) (i : Nat), i + l.length ≤ 32768 → (∀ e ∈ l, e.1.length ≤ 32 ∧ e.2.length ≤ 64) → ∀ r ∈ insR id i l, RcOk r ∧ r.page = id
 | [], i, _, _ => by simp [insR]
 | e :: s, i, hl, he => by
  simp only [List.length_cons] at hl
  have h2 := insR_ok hid s (i + 1) (by omega) (fun q hq => he q (by simp [hq]))
  intro r hr
  rw [insR] at hr
  rcases List.mem_cons.1 hr with q | q
  ·subst q
   exact ⟨⟨⟨rfl, rfl, rfl, rfl⟩, hid, ⟨by simp, by simp⟩, ⟨by simp only []; omega, by simp only []; omega⟩, (he e (by simp)).1, (he e (by simp)).2⟩, rfl⟩
  exact h2 r q
theorem page1_all {b' : Bt} : ∀ (rs : List Rc) {b : Bt}, (∀ r ∈ rs, r.page ≠ 1) → b.all rs = .ok b' → b'.page 1 = b.page 1
 | [], b, _, ha => by rw [Bt.all] at ha; injection ha with ha; subst ha; rfl
 | r :: rs, b, hr, ha => by
  rw [Bt.all] at ha
  split at ha
  ·cases ha
  rename_i b1 hb
  rw [page1_all rs (fun q hq => hr q (by simp [hq])) ha]
  rw [Bt.doR] at hb
  split at hb
  ·cases hb
  injection hb with hb; subst hb
  have := hr r (by simp)
  simp only [Bt.page]
  rw [if_neg (Ne.symm this)]
theorem joinL_runs {b b' : Bt} {av : List Int} {p X Y : Pg} {k : Nat} (hA : AvV b.view av) (hX : PgOk X) (hY : PgOk Y) (hp : PgOk p) (h1 : X.id ≠ 1) (h2 : p.id ≠ 1) (hk : k < 8) (ht : b.joinL p k X Y = .ok b') : Runs b b' 13 := by
 rw [Bt.joinL] at ht
 split at ht
 ·injection ht with ht; subst ht; exact Runs.refl _ _
 split at ht
 ·cases ht
 rename_i b1 t1
 split at ht
 ·cases ht
 rename_i b2 t2
 obtain ⟨u, f, fr, h, _⟩ := hA
 have hf := (FreeC.rg fr h.c).2
 have hok1 := insR_ok (id := X.id) hX.id Y.ents X.ents.length (by have := hX.len; have := hY.len; omega) (fun e he => hY.ents e he)
 have r1 : Runs b b1 8 := ⟨_, by rw [insR_len]; exact hY.len, fun r hr => (hok1 r hr).1, t1⟩
 have hnn : 0 ≤ nextP Y ∧ nextP Y ≤ 256 := by have := hY.next; rw [nextP]; split <;> omega
 have r2 : Runs b1 b2 2 := by
  refine ⟨_, by simp, ?_, t2⟩
  intro r hr
  simp only [List.mem_cons, List.not_mem_nil, or_false] at hr
  rcases hr with q | q <;> subst q
  ·exact ⟨⟨rfl, rfl, rfl, rfl⟩, hX.id, ⟨by simp, by simp⟩, ⟨hnn.1, by simp only []; omega⟩, by simp, by simp⟩
  exact ⟨⟨rfl, rfl, rfl, rfl⟩, hp.id, ⟨by simp, by simp⟩, ⟨by simp only []; omega, by simp only []; omega⟩, by simp, by simp⟩
 have e1 : b1.page 1 = b.page 1 := page1_all _ (fun r hr => by rw [(hok1 r hr).2]; exact h1) t1
 have e2 : b2.page 1 = b1.page 1 := page1_all _ (fun r hr => by
  simp only [List.mem_cons, List.not_mem_nil, or_false] at hr
  rcases hr with q | q <;> subst q
  ·exact h1
  exact h2) t2
 have hpg : b2.pages = .ok ((u : Int), f) := by
  have := h.pages
  rw [Bt.pages] at this ⊢
  rw [e2, e1]; exact this
 have r3 : Runs b2 b' 3 := by
  rw [Bt.free, hpg] at ht
  refine ⟨_, by simp, ?_, ht⟩
  intro r hr
  simp only [List.mem_cons, List.not_mem_nil, or_false] at hr
  rcases hr with q | q | q <;> subst q
  ·exact ⟨⟨rfl, rfl, rfl, rfl⟩, hY.id, ⟨by simp, by simp⟩, ⟨by simp, by simp⟩, by simp, by simp⟩
  ·exact ⟨⟨rfl, rfl, rfl, rfl⟩, hY.id, ⟨by simp, by simp⟩, ⟨by simp only []; split <;> omega, by simp only []; split <;> omega⟩, by simp, by simp⟩
  exact ⟨⟨rfl, rfl, rfl, rfl⟩, ⟨by simp, by simp⟩, ⟨by simp, by simp⟩, ⟨by simp, by simp⟩, by simp, by simp [twoB]⟩
 exact (r1.trans r2 (Nat.le_refl _)).trans r3 (Nat.le_refl _)
theorem join_trW {b : Bt} {K n : Nat} {av ids : List Int} {fl : Int} {kv : Ens} {p : Pg} {k : Nat} {key : Bs} (h : TrA b K n av fl ids kv) (ha : AllOk b) (hw : WandP b.view n 0 [] none fl (-1) ids kv key p) (hk : k < p.ents.length) :
  ∃ b2 av2 ids2, b.join p (k : Nat) = .ok b2 ∧ Runs b b2 13 ∧ TrW b2 K n av2 fl ids2 kv ∧ ∀ x, b2.view 0 = some x → (1 < n → 2 ≤ x.ents.length) ∧ 1 ≤ x.ents.length := by
 obtain ⟨idsL, idsp, idsR, kvL, kvp, kvR, lo', hi', fl', nx', rfl, rfl, hp, hS, _, hpos, hre⟩ := hw
 have hn1 : 1 ≤ n := by rcases hpos with ⟨q, _⟩ | ⟨q, _⟩ <;> omega
 have hroot : ∀ x, b.view 0 = some x → (1 < n → 2 ≤ x.ents.length) ∧ 1 ≤ x.ents.length := fun x hx => by
  have := h.r x hx (by omega); exact ⟨fun _ => this, by omega⟩
 by_cases h2 : p.ents.length < 2
 ·exact ⟨b, av, _, by rw [Bt.join, if_pos h2], Runs.refl _ _, h.toW, hroot⟩
 obtain ⟨js, rfl, p', hp', hplv, hpn, hpl, ⟨v, r, hpe⟩, hch⟩ := hS
 rw [hp] at hp'; injection hp' with hp'; subst hp'
 have hplv1 : p.level = 1 := hplv
 clear hplv
 have hkk : kkP p k + 1 < p.ents.length := by rw [kkP]; split <;> omega
 obtain ⟨pre, a, c, post, hsp, hpre⟩ := split_two p.ents (kkP p k) hkk
 rw [hsp] at hch
 obtain ⟨lo1, hi1, f1, m1, n1, iL, i1, i2, iR, kL, k1, k2, kR, ha2, hc2, hlt, hbl, ⟨e1, e2, X, hX, hX0, hXn, hXe, hX8, hXs, hXk⟩, ⟨e3, e4, Y, hY, hY0, hYn, hYe, hY8, hYs, hYk⟩, e5, e6, hre2⟩ := Chs.pair pre hch
 subst e1; subst e2; subst e3; subst e4; subst e5; subst e6
 have hXid := h.g.i _ _ hX
 have hYid := h.g.i _ _ hY
 have hpick : b.pickF p [kkP p k, kkP p k + 1] [] = .ok [X, Y] := by
  have g1 : p.ents[kkP p k]? = some a := by rw [hsp, ← hpre]; simp
  have g2 : p.ents[kkP p k + 1]? = some c := by rw [hsp, ← hpre, List.getElem?_append_right (by omega)]; simp
  rw [Bt.pickF, atP_get g1 ha2]
  simp only []
  rw [page_of_view hX]
  simp only []
  rw [Bt.pickF, atP_get g2 hc2]
  simp only []
  rw [page_of_view hY]
  rfl
 have hj : b.join p (k : Nat) = b.joinL p (kkP p k) X Y := by
  rw [join_eq (by omega), hpick]; rfl
 by_cases h6 : 6 < X.ents.length + Y.ents.length
 ·exact ⟨b, av, _, by rw [hj, Bt.joinL, if_pos h6], Runs.refl _ _, h.toW, hroot⟩
 have hnd := h.g.ids
 have hin : ∀ j ∈ idsL ++ (p.id :: (iL ++ ([numberP a.2] ++ [numberP c.2]) ++ iR)) ++ idsR, 0 ≤ j ∧ j < 256 ∧ j ≠ 1 ∧ j ∉ av := fun j hj => ⟨(h.g.rgi hj).1, (h.g.rgi hj).2.1, (h.g.rgi hj).2.2, fun q => h.g.dis hj q⟩
 have hpP := hin p.id (by simp)
 have hpX := hin (numberP a.2) (by simp)
 have hpY := hin (numberP c.2) (by simp)
 -- the order in which all are other ones
 have hperm : (idsL ++ (p.id :: (iL ++ ([numberP a.2] ++ [numberP c.2]) ++ iR)) ++ idsR).Perm (numberP c.2 :: (idsL ++ (p.id :: (iL ++ [numberP a.2] ++ iR)) ++ idsR)) := by
  have q := List.perm_middle (a := numberP c.2) (l₁ := idsL ++ (p.id :: (iL ++ [numberP a.2]))) (l₂ := iR ++ idsR)
  simpa using q
 have hnd2 := List.nodup_cons.1 (hperm.nodup_iff.1 hnd)
 have hnewm : ∀ j ∈ idsL ++ (p.id :: (iL ++ [numberP a.2] ++ iR)) ++ idsR, j ∈ idsL ++ (p.id :: (iL ++ ([numberP a.2] ++ [numberP c.2]) ++ iR)) ++ idsR := fun j hj => hperm.mem_iff.2 (List.mem_cons_of_mem _ hj)
 have hneY : ∀ j ∈ idsL ++ (p.id :: (iL ++ [numberP a.2] ++ iR)) ++ idsR, j ≠ numberP c.2 := fun j hj e => hnd2.1 (by rw [← e]; exact hj)
 have hnd3 := hnd2.2
 have hnd4 : (p.id :: numberP a.2 :: (idsL ++ iL ++ iR ++ idsR)).Nodup := by
  have q1 : (idsL ++ (p.id :: (iL ++ [numberP a.2] ++ iR)) ++ idsR).Perm (p.id :: (idsL ++ (iL ++ [numberP a.2] ++ iR) ++ idsR)) := by
   have q := List.perm_middle (a := p.id) (l₁ := idsL) (l₂ := iL ++ [numberP a.2] ++ iR ++ idsR)
   simpa using q
  have q2 : (idsL ++ (iL ++ [numberP a.2] ++ iR) ++ idsR).Perm (numberP a.2 :: (idsL ++ iL ++ iR ++ idsR)) := by
   have q := List.perm_middle (a := numberP a.2) (l₁ := idsL ++ iL) (l₂ := iR ++ idsR)
   simpa using q
  exact (q1.trans (q2.cons p.id)).nodup_iff.1 hnd3
 have hnd5 := List.nodup_cons.1 hnd4
 have hnd6 := List.nodup_cons.1 hnd5.2
 have hoth : ∀ j ∈ idsL ++ iL ++ iR ++ idsR, j ≠ p.id ∧ j ≠ numberP a.2 ∧ j ≠ numberP c.2 ∧ j ≠ 1 := by
  intro j hj
  refine ⟨fun e => hnd5.1 (by rw [← e]; simp only [List.mem_cons]; exact .inr hj), fun e => hnd6.1 (by rw [← e]; exact hj), hneY j ?_, (hin j ?_).2.2.1⟩
  ·simp only [List.mem_append, List.mem_cons] at hj ⊢; rcases hj with ((q | q) | q) | q <;> simp [q]
  simp only [List.mem_append, List.mem_cons] at hj ⊢; rcases hj with ((q | q) | q) | q <;> simp [q]
 have hpXne : p.id ≠ numberP a.2 := fun e => hnd5.1 (by rw [e]; simp)
 have hpYne : p.id ≠ numberP c.2 := hneY p.id (by simp)
 have hXYne : numberP a.2 ≠ numberP c.2 := hneY _ (by simp)
 have hY0id : numberP c.2 ≠ 0 := by
  intro e
  obtain ⟨x0, t, _, _, _, hids⟩ := h.id0
  rcases hpos with ⟨_, q2, q3, _⟩ | ⟨_, t2, q2⟩
  ·rw [← q2] at e; exact hpYne e.symm
  have : (0 : Int) ∈ idsL := by rw [q2]; simp
  exact hneY 0 (by simp [this]) e.symm
 have hYnx : Y.next < 256 := (ha _ _ (page_of_view hY)).1.next.2
 obtain ⟨b2, m, q, t2, m1, q1, v2, hA2⟩ := join_view (p := p) (X := X) (Y := Y) (kk := kkP p k) h.g.m h.g.i hp (by rw [hXid]; exact hX) (by rw [hYid]; exact hY) (by omega) hkk hYnx (by rw [hXid]; exact hpXne) (by rw [hXid, hYid]; exact hXYne) (by rw [hYid]; exact hpYne) hpP.2.2.1 (by rw [hXid]; exact hpX.2.2.1) (by rw [hYid]; omega) (by rw [hYid]; exact hpY.2.1) hpP.2.2.2 (by rw [hXid]; exact hpX.2.2.2) (by rw [hYid]; exact hpY.2.2.2)
 rw [hXid, hYid] at v2
 rw [hYid] at hA2 q1
 have hers : p.ents.eraseIdx (kkP p k + 1) = pre ++ a :: post := by rw [hsp, ← hpre]; exact eraseIdx_mid a c post pre
 rw [hers] at v2
 have vp : b2.view p.id = some { p with ents := pre ++ a :: post } := by rw [v2, upd_other hpP.2.2.1, upd_other hpYne, upd_same]
 have vX : b2.view (numberP a.2) = some { X with ents := X.ents ++ Y.ents, next := Y.next } := by rw [v2, upd_other hpX.2.2.1, upd_other hXYne, upd_other (Ne.symm hpXne), upd_same, ← hXid]
 have vo : ∀ j, j ≠ p.id → j ≠ numberP a.2 → j ≠ numberP c.2 → j ≠ 1 → b2.view j = b.view j := fun j h1 h2 h3 h4 => by rw [v2, upd_other h4, upd_other h3, upd_other h1, upd_other h2]
 have voth : ∀ j ∈ idsL ++ iL ++ iR ++ idsR, b2.view j = b.view j := fun j hj => by have := hoth j hj; exact vo j this.1 this.2.1 this.2.2.1 this.2.2.2
 have hkv12 : KvOk lo1 hi1 (k1 ++ k2) := KvOk.append ⟨hXs, hXk⟩ ⟨hYs, hYk⟩ hlt hbl
 have hXnew : SubT b2.view 0 (numberP a.2) lo1 hi1 (numberP a.2) n1 [numberP a.2] (k1 ++ k2) :=
  ⟨rfl, rfl, _, vX, hX0, hYn, by simp only [hXe, hYe], by rw [List.length_append, ← hXe, ← hYe]; omega, hkv12.1, hkv12.2⟩
 have hch2 := hre2 (SubT b2.view 0) [numberP a.2] (k1 ++ k2) (fun id' lo hi fl nx is kv hj hs' => SubT.frame 0 (fun j hjm => voth j (by rcases hj j hjm with q | q <;> simp [q])) hs') hXnew
 have hSp : SubT b2.view 1 p.id lo' hi' fl' nx' (p.id :: (iL ++ [numberP a.2] ++ iR)) (kL ++ (k1 ++ k2) ++ kR) := by
  refine ⟨_, rfl, _, vp, hplv1, hpn, ?_, ?_, hch2⟩
  ·have e := congrArg List.length hsp
   simp only [List.length_append, List.length_cons] at e ⊢; omega
  cases pre with
  | nil =>
   rw [hpe] at hsp; simp only [List.nil_append, List.cons.injEq] at hsp
   exact ⟨v, post, by simp only [List.nil_append]; rw [← hsp.1]⟩
  | cons d s =>
   rw [hpe] at hsp; simp only [List.cons_append, List.cons.injEq] at hsp
   exact ⟨v, s ++ a :: post, by simp only [List.cons_append]; rw [← hsp.1]⟩
 have hSn := hre b2.view _ _ (fun j hj => voth j (by simp [hj])) (fun j hj => voth j (by simp [hj])) hSp
 have hplen : (pre ++ a :: post).length + 1 = p.ents.length := by
  have e := congrArg List.length hsp
  simp only [List.length_append, List.length_cons] at e ⊢; omega
 refine ⟨b2, numberP c.2 :: av, idsL ++ (p.id :: (iL ++ [numberP a.2] ++ iR)) ++ idsR, by rw [hj]; exact t2, joinL_runs h.g.m (ha _ _ (page_of_view hX)).1 (ha _ _ (page_of_view hY)).1 (ha _ _ (page_of_view hp)).1 (by rw [hXid]; exact hpX.2.2.1) hpP.2.2.1 (by omega) t2, ⟨⟨hA2, ?_, ?_, ?_, ?_⟩, hSn, ?_, ?_, ?_⟩, ?_⟩
 ·rw [v2]
  refine IdsOk.upd (IdsOk.upd (IdsOk.upd (IdsOk.upd h.g.i ?_) ?_) q1) m1 <;> rfl
 ·refine List.nodup_append.2 ⟨hnd3, List.nodup_cons.2 ⟨hpY.2.2.2, h.g.avs⟩, ?_⟩
  rintro x hx y hy rfl
  rcases List.mem_cons.1 hy with e | e
  ·exact hneY x hx e
  exact (hin x (hnewm x hx)).2.2.2 e
 ·intro j hj
  rcases List.mem_append.1 hj with hj | hj
  ·exact h.g.rgi (hnewm j hj)
  rcases List.mem_cons.1 hj with e | e
  ·subst e; exact ⟨hpY.1, hpY.2.1, hpY.2.2.1⟩
  exact h.g.rg j (by simp only [List.mem_append]; exact .inr e)
 ·intro j hj
  rcases List.mem_cons.1 hj with e | e
  ·subst e; omega
  exact h.g.a1 j e
 ·intro j hj hne x hx hl2
  by_cases e1 : j = p.id
  ·subst e1; rw [vp] at hx; injection hx with hx; subst hx
   simp only [] at hl2; omega
  by_cases e2 : j = numberP a.2
  ·subst e2; rw [vX] at hx; injection hx with hx; subst hx
   simp only [] at hl2; omega
  exact h.o j (hnewm j hj) hne x (by rw [← vo j e1 e2 (hneY j hj) (hin j (hnewm j hj)).2.2.1]; exact hx) hl2
 ·have e := hperm.length_eq
  have hc := h.c
  simp only [List.length_cons] at e hc ⊢
  omega
 ·intro x hx
  have pwX : pw b2.view (numberP a.2) + 1 ≤ pw b.view (numberP a.2) + pw b.view (numberP c.2) := by
   rw [pw_some vX, pw_some hX, pw_some hY]
   simp only [List.length_append]
   omega
  have eL := wt_frame (V := b.view) (V' := b2.view) idsL (fun j hj => voth j (by simp [hj]))
  have eiL := wt_frame (V := b.view) (V' := b2.view) iL (fun j hj => voth j (by simp [hj]))
  have eiR := wt_frame (V := b.view) (V' := b2.view) iR (fun j hj => voth j (by simp [hj]))
  have eR := wt_frame (V := b.view) (V' := b2.view) idsR (fun j hj => voth j (by simp [hj]))
  rcases hpos with ⟨q2, q3, q4, q5⟩ | ⟨q2, t, q3⟩
  ·subst q4; subst q5
   rw [← q3, vp] at hx; injection hx with hx; subst hx
   have h1 := h.w p (by rw [← q3]; exact hp)
   simp only [List.nil_append, List.append_nil, List.tail_cons, wt_append, wt_cons, wt_nil] at h1 ⊢
   rw [eiL, eiR]
   omega
  subst q3
  have h0 : (0 : Int) ∈ (0 :: t) ++ iL ++ iR ++ idsR := by simp
  have h00 := hoth 0 h0
  have h1 := h.w x (by rw [← voth 0 h0]; exact hx)
  have pwp : pw b2.view p.id ≤ pw b.view p.id := by rw [pw_some vp, pw_some hp]; simp only []; omega
  have et := wt_frame (V := b.view) (V' := b2.view) t (fun j hj => voth j (by simp [hj]))
  simp only [List.cons_append, List.tail_cons, wt_append, wt_cons, wt_nil] at h1 ⊢
  rw [eiL, eiR, eR, et]
  omega
 intro x hx
 rcases hpos with ⟨q2, q3, q4, q5⟩ | ⟨q2, t, q3⟩
 ·rw [← q3, vp] at hx; injection hx with hx; subst hx
  exact ⟨fun q => by omega, by simp only []; omega⟩
 subst q3
 have h0 : (0 : Int) ∈ (0 :: t) ++ iL ++ iR ++ idsR := by simp
 exact hroot x (by rw [← voth 0 h0]; exact hx)
end Go.Proofs.YtbogbnkckofpdaaDoor.B

namespace Go.Proofs.YtbogbnkckofpdaaDoor.B
open Go
set_option linter.unusedVariables false
set_option linter.unusedSimpArgs false
set_option linter.unnecessarySimpa false
theorem sink_trA {b : Bt} {K n : Nat} {av ids : List Int} {fl : Int} {kv : Ens} (h : TrW b K n av fl ids kv) (ha : AllOk b) (hr : ∀ x, b.view 0 = some x → (1 < n → 2 ≤ x.ents.length) ∧ (0 < n → 1 ≤ x.ents.length)) :
  ∃ b' n' av' fl' ids', b.sink = .ok b' ∧ Runs b b' 13 ∧ TrA b' K n' av' fl' ids' kv := by
 obtain ⟨x, js, hx, hlv, hx8, hids⟩ := SubT.page h.s
 have hrx := hr x hx
 have hpg := page_of_view hx
 by_cases h0 : n = 0
 ·refine ⟨b, n, av, fl, ids, ?_, Runs.refl _ _, h.toA (fun _ _ q => by omega)⟩
  rw [Bt.sink, Bt.sinkF, hpg]
  simp only []
  rw [if_pos (.inl (by omega))]
 by_cases h1 : x.ents.length = 1
 rotate_left
 ·refine ⟨b, n, av, fl, ids, ?_, Runs.refl _ _, h.toA (fun y hy q => ?_)⟩
  ·rw [Bt.sink, Bt.sinkF, hpg]
   simp only []
   rw [if_pos (.inr h1)]
  rw [hx] at hy; injection hy with hy; subst hy
  have := hrx.2 q; omega
 have hn1 : n = 1 := by
  rcases Nat.lt_or_ge 1 n with q | q
  ·have := hrx.1 q; omega
  omega
 subst hn1
 have hs := h.s
 obtain ⟨js', hjs, x', hx', hlv', hxn, _, ⟨v, r, hes⟩, hch⟩ := hs
 rw [hx] at hx'; injection hx' with hx'; subst hx'
 have hr0 : r = [] := by rw [hes] at h1; simpa using h1
 subst hr0
 rw [hes] at hch
 obtain ⟨hv2, e1, e2, Y, hY, hY0, hYn, hYe, hY8, hYs, hYk⟩ := hch
 simp only [] at hv2 e1 e2 hY
 subst e1; subst e2; subst hjs
 have hYid := h.g.i _ _ hY
 have hYr := h.g.rgi (j := numberP v) (by simp)
 have hnd := List.nodup_cons.1 h.g.ids
 have hY0' : numberP v ≠ 0 := fun e => hnd.1 (by rw [e]; simp)
 have hYav : numberP v ∉ av := fun q => h.g.dis (j := numberP v) (by simp) q
 have h0av : (0 : Int) ∉ av := fun q => h.g.dis (j := 0) (by simp) q
 obtain ⟨b1, t1, v1⟩ := fill_view (b := b) (id := 0) (level := Y.level) (next := -1) (l := Y.ents) (by rw [hYe]; exact hY8) (by omega) (by omega)
 rw [hY0, clrK_zero, hYe] at v1
 have hA1 : AvV b1.view av := h.g.m.frame (by rw [v1, upd_other (by omega)]) (fun j hj => by rw [v1, upd_other (by rintro rfl; exact h0av hj)])
 obtain ⟨b2, m, t2, m1, ⟨q, q1, v2⟩, hA2⟩ := free_av (p := numberP v) hA1 (by rw [v1]; exact h.g.i.upd rfl) (by omega) hYr.2.1 hYav
 have v0 : b2.view 0 = some ⟨0, 0, 0, -1, kv⟩ := by rw [v2, upd_other (by omega), upd_other (Ne.symm hY0'), v1, upd_same]
 have hat : atP x 0 = .ok (numberP v) := by
  have := atP_get (p := x) (k := 0) (c := ([], v)) (by rw [hes]; rfl) hv2
  simpa using this
 have hYok := (ha _ _ (page_of_view hY)).1
 have hrr : Runs b b2 13 := (fill_runs ⟨by omega, by omega⟩ ⟨by omega, by omega⟩ ⟨by omega, by omega⟩ hYok.len hYok.ents t1).trans (free_runs hA1 ⟨hYr.1, hYr.2.1⟩ t2) (by decide)
 refine ⟨b2, 0, numberP v :: av, 0, [0], ?_, hrr, ⟨⟨hA2, ?_, ?_, ?_, ?_⟩, ?_, ?_, ?_, fun _ _ q => by omega, ?_⟩⟩
 ·rw [Bt.sink, Bt.sinkF, hpg]
  simp only []
  rw [if_neg (by rw [h1]; simp; omega), hat]
  simp only []
  rw [page_of_view hY]
  simp only []
  rw [t1]
  simp only []
  rw [t2]
  simp only []
  rw [Bt.sinkF, page_of_view v0]
  simp
 ·rw [v2, v1]
  refine IdsOk.upd (IdsOk.upd (IdsOk.upd h.g.i ?_) q1) m1
  rfl
 ·refine List.nodup_cons.2 ⟨?_, List.nodup_cons.2 ⟨hYav, h.g.avs⟩⟩
  show (0 : Int) ∉ numberP v :: av
  simp only [List.mem_cons, not_or]
  exact ⟨Ne.symm hY0', h0av⟩
 ·intro j hj
  simp only [List.mem_append, List.mem_cons, List.not_mem_nil, or_false] at hj
  rcases hj with e | e | e
  ·omega
  ·subst e; exact hYr
  exact h.g.rg j (by simp [e])
 ·intro j hj
  rcases List.mem_cons.1 hj with e | e
  ·subst e; omega
  exact h.g.a1 j e
 ·exact ⟨rfl, rfl, _, v0, rfl, rfl, rfl, hY8, hYs, hYk⟩
 ·intro j hj hne; simp at hj; exact absurd hj hne
 ·have := h.c; simp at this ⊢; omega
 intro z hz
 rw [v0] at hz; injection hz with hz; subst hz
 have h2 := h.w x hx
 simp only [List.tail_cons, wt_cons, wt_nil] at h2 ⊢
 rw [pw_some hY, hYe] at h2
 omega
theorem snoc2 {α : Type} {l l' : List α} {p y z : α} (h : l ++ [z] = l' ++ [p, y]) : z = y := by
 have := congrArg List.getLast? h
 simpa using this
/-- Delete. -/
theorem delete_trA {b : Bt} {K n : Nat} {av : List Int} {fl : Int} {ids : List Int} {kv : Ens} {key : Bs} (h : TrA b K n av fl ids kv) (ha : AllOk b) (hk : rightK key = true) :
  ∃ b' n' av' fl' ids', b.delete key = .ok ((lookKv kv key).isSome, b') ∧ Runs b b' 27 ∧ TrA b' K n' av' fl' ids' (delKv kv key) := by
 have hn := h.lvl
 have hk0 : key ≠ [] := by rintro rfl; simp [rightK] at hk
 obtain ⟨l', ks', y, hd, hy8, hw⟩ := down_n (key := key) h.g.i n 17 [] [] (by omega) h.g.ids h.s (InR.all key)
 have hlast : lastPg ([] ++ l' ++ [y]) = y := lastPg_end _ _
 obtain ⟨w1, w2, w3, kvL, kvR, lo', hi', hkv, w5, w6, w7, w8, w9⟩ := hw.keys hk0 hw.1
 have hlook : lookKv kv key = if (findP y.ents key).2 then some (y.ents.getD (findP y.ents key).1 ([], [])).2 else none := by rw [hkv, lookKv_right w8, lookKv_left _ w7, lookKv_find]
 have hdk : delKv kv key = kvL ++ delKv y.ents key ++ kvR := by rw [hkv, delKv_right w8, delKv_left _ w7]
 have hdel : b.delete key = (if (findP y.ents key).2 = false then .ok (false, b) else match b.doR { page := y.id, kind := 3, slot := (findP y.ents key).1 } with
  | .fail c o => .fail c o
  | .ok b => match ((if 1 < ([] ++ l' ++ [y]).length ∧ (y.ents.length : Int) - 1 ≤ 2 then b.join (([] ++ l' ++ [y]).getD (([] ++ l' ++ [y]).length - 2) (newPg 0)) (([] ++ ks').getLastD 0 : Nat) else .ok b) : Res Bt) with
   | .fail c o => .fail c o
   | .ok b => match b.sink with
    | .fail c o => .fail c o
    | .ok b => .ok (true, b)) := by
  rw [Bt.delete, if_neg (by rw [hk]; simp), Bt.down, hd]
  simp only [hlast]
  rfl
 cases hf : (findP y.ents key).2 with
 | false =>
  rw [hf] at hdel hlook
  refine ⟨b, n, av, fl, ids, by rw [hdel, hlook]; rfl, Runs.refl _ _, ?_⟩
  rw [hdk, delKv_none w6.1 hf, ← hkv]; exact h
 | true =>
  rw [hf] at hdel hlook
  have hlt := findP_lt hf
  obtain ⟨b1, t, v⟩ := doR_view (b := b) (r := { page := y.id, kind := 3, slot := (findP y.ents key).1 }) (x := y) (.inr ⟨by simp, w1⟩) rfl
  have he : effP y { page := y.id, kind := 3, slot := (findP y.ents key).1 } = { y with ents := delKv y.ents key } := by
   unfold effP
   rw [if_neg (by simp), if_neg (by simp), if_pos rfl, if_pos (by simp only []; omega)]
   simp only [Int.toNat_natCast]
   rw [delKv_found _ w6.1 hf]
  rw [he] at v
  have hdl := delKv_len y.ents key
  have h1 : TrA b1 (K + 0) n av fl ids (kvL ++ delKv y.ents key ++ kvR) := leaf_trA h w1 w3 w2 v (by omega) (w9 _ _ (fun j _ hne => by rw [v, upd_other hne]) (by rw [v, upd_same]) (by omega) (delKv_ok key w6))
  rw [← hdk, Nat.add_zero] at h1
  have hrc : RcOk { page := y.id, kind := 3, slot := (findP y.ents key).1 } := by
   have hyo := (ha _ _ (page_of_view w1)).1.id
   exact ⟨⟨rfl, rfl, rfl, rfl⟩, hyo, ⟨by simp, by simp⟩, ⟨by simp only []; omega, by simp only []; omega⟩, by simp, by simp⟩
  have ha1 : AllOk b1 := ha.doR hrc t
  have hjoin : ∃ b2 av2 ids2, ((if 1 < ([] ++ l' ++ [y]).length ∧ (y.ents.length : Int) - 1 ≤ 2 then b1.join (([] ++ l' ++ [y]).getD (([] ++ l' ++ [y]).length - 2) (newPg 0)) (([] ++ ks').getLastD 0 : Nat) else .ok b1) : Res Bt) = .ok b2 ∧ Runs b1 b2 13 ∧ TrW b2 K n av2 fl ids2 (delKv kv key) ∧
    ∀ x, b2.view 0 = some x → (1 < n → 2 ≤ x.ents.length) ∧ (0 < n → 1 ≤ x.ents.length) := by
   split
   rotate_left
   ·exact ⟨b1, av, ids, rfl, Runs.refl _ _, h1.toW, fun x hx => ⟨fun q => h1.r x hx (by omega), fun q => by have := h1.r x hx q; omega⟩⟩
   rename_i hc
   have hc1 : 1 ≤ l'.length := by have := hc.1; simp only [List.nil_append, List.length_append, List.length_cons, List.length_nil] at this; omega
   cases n with
   | zero =>
    exfalso
    obtain ⟨_, _, z, hz, hz0, _⟩ := h.s
    rw [Bt.downF, page_of_view hz] at hd
    simp only [] at hd
    rw [if_pos hz0] at hd
    injection hd with hd
    injection hd with hd1 hd2
    have := congrArg List.length hd1
    simp only [List.nil_append, List.length_append, List.length_cons, List.length_nil] at this; omega
   | succ m =>
    obtain ⟨l2, ks2, p, y2, hd2, ⟨c, hc2, hc3, hc4, hc5⟩, hwp⟩ := down_p (key := key) h.g.i m 17 [] [] (by omega) h.s (InR.all key)
    rw [hd] at hd2
    injection hd2 with hd2
    injection hd2 with hd3 hd4
    have hyy : y = y2 := snoc2 (by simpa using hd3)
    subst hyy
    have hgl : ([] ++ l' ++ [y]).getD (([] ++ l' ++ [y]).length - 2) (newPg 0) = p := by
     rw [hd3]
     simp only [List.nil_append, List.length_append, List.length_cons, List.length_nil]
     rw [show l2.length + (0 + 1 + 1) - 2 = l2.length by omega]
     simp [List.getD]
    have hgk : (([] ++ ks').getLastD 0 : Nat) = childP p key := by
     rw [hd4]; simp [List.getLastD_eq_getLast?]
    rw [hgl, hgk]
    obtain ⟨idsL, idsp, idsR, kL, kvp, kR, lo2, hi2, fl2, nx2, hids, hkv2, hp, hS, hin2, hpos, hre⟩ := hwp
    have hndp : idsp.Nodup := by
     have q := h.g.ids; rw [hids] at q
     exact (List.nodup_append.1 (List.nodup_append.1 q).1).2.1
    have hpl : p.level = 1 := by
     obtain ⟨_, _, z, hz, hz1, _⟩ := hS
     rw [hp] at hz; injection hz with hz; subst hz; exact hz1
    obtain ⟨la, ka, ya, hda, hya8, hwa⟩ := down_n (key := key) h.g.i 1 17 [] [] (by omega) hndp hS hin2
    have hyya : ya = y := by
     rw [Bt.downF, page_of_view hp] at hda
     simp only [] at hda
     rw [if_neg (by omega), atP_get hc2 hc3] at hda
     simp only [] at hda
     rw [Bt.downF, page_of_view hc4] at hda
     simp only [] at hda
     rw [if_pos hc5] at hda
     injection hda with hda
     injection hda with hda1 hda2
     have q : la ++ [ya] = [p] ++ [y] := by simpa using hda1.symm
     exact snoc2 (l' := []) (p := p) (by simpa using q)
    subst hyya
    obtain ⟨u1, u2, u3, kLa, kRa, lo3, hi3, hkvp, u5, u6, u7, u8, u9⟩ := hwa
    have hyp : ya.id ≠ p.id := by
     intro e; rw [e, hp] at w1; injection w1 with w1; subst w1; omega
    have hsub1 := u9 b1.view (delKv ya.ents key) (fun j _ hne => by rw [v, upd_other hne]) (by rw [v, upd_same]) (by omega) (delKv_ok key u6)
    have hLn : ∀ j ∈ idsL, j ≠ ya.id := by
     intro j hj e
     have q := h.g.ids; rw [hids] at q
     exact (List.nodup_append.1 (List.nodup_append.1 q).1).2.2 j hj ya.id u3 e
    have hRn : ∀ j ∈ idsR, j ≠ ya.id := by
     intro j hj e
     have q := h.g.ids; rw [hids] at q
     exact (List.nodup_append.1 q).2.2 ya.id (List.mem_append_right _ u3) j hj e.symm
    have hvL : ∀ j ∈ idsL, b1.view j = b.view j := fun j hj => by rw [v, upd_other (hLn j hj)]
    have hvR : ∀ j ∈ idsR, b1.view j = b.view j := fun j hj => by rw [v, upd_other (hRn j hj)]
    -- the keys on both sides
    have hso := (SubT.kv _ h.s).1
    obtain ⟨e0, he0, he0k⟩ := findP_mem _ hf
    have hdk2 : delKv kv key = kL ++ (kLa ++ delKv ya.ents key ++ kRa) ++ kR := by
     rw [hkv2, hkvp] at hso ⊢
     have q1 := List.pairwise_append.1 hso
     have q2 := List.pairwise_append.1 q1.1
     have q3 := List.pairwise_append.1 q2.2.1
     have q4 := List.pairwise_append.1 q3.1
     rw [delKv_right (R := kR) (fun e he => by have := q1.2.2 e0 (by simp [he0]) e he; rwa [he0k] at this), delKv_left kL (fun e he => by have := q2.2.2 e he e0 (by simp [he0]); rwa [he0k] at this),
      delKv_right (R := kRa) (fun e he => by have := q3.2.2 e0 (by simp [he0]) e he; rwa [he0k] at this), delKv_left kLa (fun e he => by have := q4.2.2 e he e0 he0; rwa [he0k] at this)]
    have hwp1 : WandP b1.view (m + 1) 0 [] none fl (-1) ids (delKv kv key) key p :=
     ⟨idsL, idsp, idsR, kL, _, kR, lo2, hi2, fl2, nx2, hids, hdk2, by rw [v, upd_other (Ne.symm hyp)]; exact hp, hsub1, hin2, hpos, fun V'' ip kp hL hR hSs => hre V'' ip kp (fun j hj => by rw [hL j hj, hvL j hj]) (fun j hj => by rw [hR j hj, hvR j hj]) hSs⟩
    obtain ⟨b2, av2, ids2, t2, rn2, hW2, hr2⟩ := join_trW h1 ha1 hwp1 (List.getElem?_eq_some_iff.1 hc2).1
    exact ⟨b2, av2, ids2, t2, rn2, hW2, fun x hx => ⟨(hr2 x hx).1, fun _ => (hr2 x hx).2⟩⟩
  obtain ⟨b2, av2, ids2, t2, rn2, hW2, hr2⟩ := hjoin
  obtain ⟨b3, n3, av3, fl3, ids3, t3, rn3, h3⟩ := sink_trA hW2 (rn2.ok ha1) hr2
  refine ⟨b3, n3, av3, fl3, ids3, ?_, ((Runs.one t hrc).trans rn2 (Nat.le_refl _)).trans rn3 (Nat.le_refl _), h3⟩
  rw [hdel, hlook]
  simp only [Bool.true_eq_false, if_false, if_true, Option.isSome_some]
  rw [t]
  simp only []
  rw [t2]
  simp only []
  rw [t3]
theorem HoldsA.delete {b : Bt} {K : Nat} {kv : Ens} {key : Bs} (h : HoldsA b K kv) (ha : AllOk b) (hk : rightK key = true) : ∃ b', b.delete key = .ok ((lookKv kv key).isSome, b') ∧ Runs b b' 27 ∧ HoldsA b' K (delKv kv key) := by
 obtain ⟨n, av, fl, ids, h⟩ := h
 obtain ⟨b', n', av', fl', ids', t, r, h'⟩ := delete_trA h ha hk
 exact ⟨b', t, r, n', av', fl', ids', h'⟩
end Go.Proofs.YtbogbnkckofpdaaDoor.B

namespace Go.Proofs.YtbogbnkckofpdaaDoor.B
open Go
set_option linter.unusedVariables false
set_option linter.unusedSimpArgs false
set_option linter.unnecessarySimpa false
theorem FreeC.frameL {V V' : Vw} : ∀ (fr : List Int) {f : Int}, (∀ j ∈ fr, (V' j).map noL = (V j).map noL) → FreeC V f fr → FreeC V' f fr
 | [], _, _, h => h
 | j :: r, _, hf, ⟨h1, h2, h3, y, h4, h5, h6, h7⟩ => by
  obtain ⟨z, hz, e⟩ := map_noL (hf j (by simp)) h4
  obtain ⟨_, e1, e2, e3⟩ := noL_eq e
  exact ⟨h1, h2, h3, z, hz, by rw [e1]; exact h5, by rw [e3]; exact h6, by rw [e2]; exact FreeC.frameL r (fun k hk => hf k (by simp [hk])) h7⟩
theorem pw_noL {V V' : Vw} {j : Int} (h : (V' j).map noL = (V j).map noL) : pw V' j = pw V j := by
 cases hv : V j with
 | none =>
  rw [hv] at h
  have : V' j = none := by simpa using h
  rw [pw, pw, hv, this]
 | some x =>
  obtain ⟨z, hz, e⟩ := map_noL h hv
  rw [pw_some hv, pw_some hz, (noL_eq e).2.2.2]
theorem HoldsA.laid {b b' : Bt} {K : Nat} {kv : Ens} (h : HoldsA b K kv) (hi : IdsOk b'.view) (hv : ∀ id, 0 ≤ id → id < 256 → (b'.view id).map noL = (b.view id).map noL) : HoldsA b' K kv := by
 obtain ⟨n, av, fl, ids, h⟩ := h
 have hids : ∀ j ∈ ids, (b'.view j).map noL = (b.view j).map noL := fun j hj => by have := h.g.rgi hj; exact hv j this.1 this.2.1
 have hback : ∀ j ∈ ids, ∀ x, b'.view j = some x → ∃ y, b.view j = some y ∧ y.ents = x.ents ∧ y.level = x.level := fun j hj x hx => by
  obtain ⟨y, hy, e⟩ := map_noL (hids j hj).symm hx
  exact ⟨y, hy, (noL_eq e).2.2.2, (noL_eq e).2.1⟩
 have h0 : (0 : Int) ∈ ids := by
  obtain ⟨x, js, _, _, _, e⟩ := h.id0
  rw [e]; simp
 refine ⟨n, av, fl, ids, ⟨⟨?_, hi, h.g.nd, h.g.rg, h.g.a1⟩, SubT.frameL n hids h.s, ?_, h.c, ?_, ?_⟩⟩
 ·obtain ⟨u, f, fr, ⟨⟨x, hx, he⟩, c, u1, u2⟩, hav⟩ := h.g.m
  obtain ⟨y, hy, e⟩ := map_noL (hv 1 (by omega) (by omega)) hx
  exact ⟨u, f, fr, ⟨⟨y, hy, by rw [(noL_eq e).2.2.2]; exact he⟩, c.frameL fr (fun j hj => by have := (FreeC.rg fr c).1 j hj; exact hv j (by omega) this.2), u1, u2⟩, hav⟩
 ·intro j hj hne x hx hl2
  obtain ⟨y, hy, e, e2⟩ := hback j hj x hx
  rw [← e]; exact h.o j hj hne y hy (by omega)
 ·intro x hx hn
  obtain ⟨y, hy, e, _⟩ := hback 0 h0 x hx
  rw [← e]; exact h.r y hy hn
 intro x hx
 obtain ⟨y, hy, e, _⟩ := hback 0 h0 x hx
 have h1 := h.w y hy
 have h2 : wt b'.view ids.tail = wt b.view ids.tail := by
  have : ∀ l : List Int, (∀ j ∈ l, j ∈ ids) → wt b'.view l = wt b.view l := by
   intro l
   induction l with
   | nil => intro _; rfl
   | cons j l ih => intro hl; rw [wt_cons, wt_cons, ih (fun k hk => hl k (by simp [hk])), pw_noL (hids j (hl j (by simp)))]
  exact this _ (fun j hj => List.mem_of_mem_tail hj)
 rw [h2, ← e]; exact h1
/-- A pool that holds a tree; K: how many keys were ever put. -/
def PHoldsA (P : Pl) (n : Int) (K : Nat) (kv : Ens) : Prop := PlOk P n ∧ HoldsA (newBt P) K kv
theorem laid_holdsA {P : Pl} {n : Int} {b : Bt} {K : Nat} {kv : Ens} {k : Nat} (hP : PlOk P n) (h1 : 1 ≤ n) (hr : Runs (newBt P) b k) (hk : n + k ≤ 1099511627777) (hb : HoldsA b K kv) :
  b.recs.length ≤ k ∧ ∃ P', laidP P b.recs n = some (P', n + b.recs.length) ∧ PHoldsA P' (n + b.recs.length) K kv := by
 obtain ⟨rs, r1, r2, r3⟩ := hr
 have e0 : (newBt P).recs.length = 0 := rfl
 obtain ⟨⟨P', l1, l2, l3⟩, e1⟩ := LInv.all h1 rs (LInv.new hP) (AllOk.new hP) (by rw [e0]; omega) r2 r3
 refine ⟨by omega, P', l1, l2, hb.laid (IdsOk.new l2) (fun id i1 i2 => ?_)⟩
 rw [newBt_view i1 i2]; exact l3 id i1 i2
theorem upTo_nodup (u : Nat) : (upTo u).Nodup := by
 unfold upTo
 refine List.Pairwise.map _ (fun a b h => ?_) (List.nodup_range' (step := 1) (by omega))
 simp only [ne_eq] at h ⊢
 omega
theorem upTo_len (u : Nat) : (upTo u).length = 256 - u := by simp [upTo]
theorem E0_holdsA : PHoldsA E0 4 0 [] := by
 refine ⟨E0_ok, 0, upTo 2, 0, [0], ⟨⟨?_, IdsOk.new E0_ok, ?_, ?_, ?_⟩, ?_, ?_, by rw [upTo_len]; rfl, ?_, ?_⟩⟩
 ·obtain ⟨x, h1, h2⟩ := E0_1
  exact ⟨2, 0, [], ⟨⟨x, by rw [newBt_view (by omega) (by omega)]; exact h1, h2⟩, rfl, by omega, by omega⟩, rfl⟩
 ·refine List.nodup_cons.2 ⟨?_, upTo_nodup 2⟩
  show (0 : Int) ∉ upTo 2
  rw [mem_upTo]; omega
 ·intro j hj
  rcases List.mem_cons.1 hj with e | e
  ·omega
  have : j ∈ upTo 2 := e
  rw [mem_upTo] at this; omega
 ·intro j hj; rw [mem_upTo] at hj; omega
 ·obtain ⟨x, h1, h2, h3, h4⟩ := E0_0
  exact ⟨rfl, rfl, x, by rw [newBt_view (by omega) (by omega)]; exact h1, h2, h3, h4, by simp, by simp [Sorted], by simp⟩
 ·intro j hj hne
  simp at hj
  exact absurd hj hne
 ·intro x _ h; omega
 intro x hx
 obtain ⟨y, h1, _, _, h4⟩ := E0_0
 rw [newBt_view (by omega) (by omega), h1] at hx
 injection hx with hx; subst hx
 simp [h4, wt]
end Go.Proofs.YtbogbnkckofpdaaDoor.B

namespace Go.Proofs.YtbogbnkckofpdaaDoor.B
open Go Go.Proofs
set_option linter.unusedVariables false
set_option linter.unusedSimpArgs false
theorem FreeC.toW {b : Bt} : ∀ (fr : List Int) {f : Int}, FreeC b.view f fr → FreeW b f fr
 | [], _, h => h
 | j :: r, _, ⟨h1, h2, h3, y, h4, h5, h6, h7⟩ => ⟨h1, h2, h3, y, page_of_view h4, h5, h6, FreeC.toW r h7⟩
/-- A pool that holds a tree is told to be one, with just its keys. -/
theorem check_okA {b : Bt} {K : Nat} {kv : Ens} (h : HoldsA b K kv) : ∃ px n, b.page 0 = .ok px ∧ px.level = (n : Nat) ∧ n ≤ 5 ∧ ∀ f, n + 1 ≤ f → ∃ c, b.walkF f 0 px.level [] none ⟨[1], [], 0⟩ = .ok c ∧ chainOk c.leaves = true ∧ c.keys = (kv.length : Nat) ∧
  ∃ y v u ff fr, b.page 1 = .ok y ∧ y.ents = [([110], v)] ∧ b.pages = .ok (u, ff) ∧ 2 ≤ u ∧ u ≤ 256 ∧ (c.seen.length : Int) + (fr.length : Nat) = u ∧ (∀ i ∈ c.seen, i < u) ∧ FreeW b ff fr ∧ (∀ j ∈ fr, j ∉ c.seen) ∧ fr.Nodup ∧ ∀ j ∈ fr, j < u := by
 obtain ⟨n, av, fl, ids, h⟩ := h
 have hn5 := h.lvl
 obtain ⟨x, js, hx, hlv, _, hids⟩ := h.s.page
 have hfr : ∀ j ∈ ids, j ∉ ([1] : List Int) := fun j hj hm => (h.g.rgi hj).2.2 (by simpa using hm)
 refine ⟨x, n, page_of_view hx, hlv, hn5, fun f hf => ?_⟩
 obtain ⟨S, L, a1, a2, a3⟩ := walk_sub n f ⟨[1], [], 0⟩ hf h.g.i h.s h.g.ids hfr
 obtain ⟨u, ff, fr, hA, hav⟩ := h.g.m
 have hu1 := hA.u1
 have hu2 := hA.u2
 have hpg := hA.pages
 obtain ⟨y, hy, hye⟩ := hA.m
 have hfrr := (FreeC.rg fr hA.c).1
 have havn := h.g.avs
 rw [hav] at havn
 have havn2 := List.nodup_append.1 havn
 have hup : ∀ j : Int, j ∉ upTo u → j < 256 → j < u := fun j h1 h2 => by
  rcases Int.lt_or_le j u with q | q
  ·exact q
  exact absurd (mem_upTo.2 ⟨q, h2⟩) h1
 have hseen : ∀ j ∈ S ++ [1], j = 1 ∨ j ∈ ids := fun j hj => by
  rcases List.mem_append.1 hj with q | q
  ·exact .inr (a2.mem_iff.1 q)
  simp only [List.mem_cons, List.not_mem_nil, or_false] at q; exact .inl q
 refine ⟨_, by rw [hlv]; exact a1, LC.chain _ a3, by simp, y, _, u, ff, fr, page_of_view hy, hye, hpg, by omega, by omega, ?_, ?_, hA.c.toW fr, ?_, havn2.1, ?_⟩
 ·have hc := h.c
  have h1 := a2.length_eq
  rw [hav, List.length_append, upTo_len] at hc
  simp only [List.length_append, List.length_cons, List.length_nil]
  omega
 ·intro i hi
  rcases hseen i hi with q | q
  ·omega
  exact hup i (fun e => h.g.dis q (by rw [hav]; simp [e])) (h.g.rgi q).2.1
 ·intro j hj hm
  rcases hseen j hm with q | q
  ·have := hfrr j hj; omega
  exact h.g.dis q (by rw [hav]; simp [hj])
 intro j hj
 exact hup j (fun e => havn2.2.2 j hj j e rfl) (hfrr j hj).2
end Go.Proofs.YtbogbnkckofpdaaDoor.B

