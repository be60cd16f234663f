/- What functions of the program compute, each function once: steps over the model, and the plain law of it. -/
import Derived.Test.YtbogbnkckofpdaaDoorTTreePure
import Derived.Test.YtbogbnkckofpdaaDoorSLogB
import Derived.Test.YtbogbnkckofpdaaDoorTSee
import Derived.Test.YtbogbnkckofpdaaDoorTUndoRead
namespace Go.Proofs.YtbogbnkckofpdaaDoor.B
open Go
set_option linter.unusedVariables false
set_option linter.unusedSimpArgs false
def EOk (e : Bs × Bs) : Prop := e.1.length ≤ 100000 ∧ e.2.length ≤ 100000
structure POk (p : Pg) : Prop where
 l0 : -4611686018427387904 ≤ p.lsn
 l1 : p.lsn ≤ 4611686018427387904
 v0 : 0 ≤ p.level
 v1 : p.level ≤ 16
 n0 : -1 ≤ p.next
 n1 : p.next ≤ 4611686018427387904
 len : p.ents.length ≤ 8
 ents : ∀ e ∈ p.ents, EOk e
structure ROk (r : Rc) : Prop where
 l0 : -4611686018427387904 ≤ r.lsn
 l1 : r.lsn ≤ 4611686018427387904
 s0 : 0 ≤ r.slot
 s1 : r.slot ≤ 4611686018427387904
 k : r.key.length ≤ 100000
 v : r.val.length ≤ 100000
def EnR (D : Sto) (vs : List Value) (e : Bs × Bs) : Prop := ∃ k v, vs = [k, v] ∧ RB D k e.1 ∧ RB D v e.2 ∧ EOk e
theorem EnR.keeps : Keeps EnR := fun D D' vs x hD ⟨k, v, h1, h2, h3, h4⟩ => ⟨k, v, h1, h2.mono hD, h3.mono hD, h4⟩
abbrev EnD (D : Sto) (v : Value) (es : Ens) : Prop := DR 2 EnR D v es
def pgCells (p : Pg) (e : Value) : List Value := [.int .i64 p.id, .int .i64 p.lsn, .int .i64 p.level, .int .i64 p.next, e]
def PgR (D : Sto) (vs : List Value) (p : Pg) : Prop := ∃ e, vs = pgCells p e ∧ EnD D e p.ents ∧ POk p
theorem PgR.keeps : Keeps PgR := fun D D' vs x hD ⟨e, h1, h2, h3⟩ => ⟨e, h1, h2.mono EnR.keeps hD, h3⟩
def PgV (D : Sto) (v : Value) (p : Pg) : Prop := ∃ e, v = .agg (pgCells p e).toArray ∧ EnD D e p.ents ∧ POk p
theorem PgV.mono {D D' : Sto} {v : Value} {p : Pg} (h : PgV D v p) (hD : Le D D') : PgV D' v p := by
 obtain ⟨e, h1, h2, h3⟩ := h; exact ⟨e, h1, h2.mono EnR.keeps hD, h3⟩
def rcCells (r : Rc) (k v : Value) : List Value := [.int .i64 r.lsn, .int .i64 r.back, .int .i64 r.epoch, .int .i64 r.group, .int .i64 r.page, .int .i64 r.kind, .int .i64 r.slot, k, v, .bool r.last]
def RcR (D : Sto) (vs : List Value) (r : Rc) : Prop := ∃ k v, vs = rcCells r k v ∧ RB D k r.key ∧ RB D v r.val ∧ ROk r
theorem RcR.keeps : Keeps RcR := fun D D' vs x hD ⟨k, v, h1, h2, h3, h4⟩ => ⟨k, v, h1, h2.mono hD, h3.mono hD, h4⟩
/-- A map of pages. -/
def MapD (D : Sto) (m : List (Int × Value)) (f : Int → Option Pg) : Prop := ∀ k, match f k with
 | none => getM m k = none
 | some p => ∃ v, getM m k = some v ∧ PgV D v p
theorem MapD.mono {D D' : Sto} {m : List (Int × Value)} {f : Int → Option Pg} (h : MapD D m f) (hD : Le D D') : MapD D' m f := fun k => by
 have := h k
 cases hf : f k with
 | none => rw [hf] at this; exact this
 | some p => rw [hf] at this; obtain ⟨v, h1, h2⟩ := this; exact ⟨v, h1, h2.mono hD⟩
theorem MapD.none {D : Sto} {m : List (Int × Value)} {f : Int → Option Pg} (h : MapD D m f) {k : Int} (hf : f k = .none) : getM m k = .none := by have := h k; rw [hf] at this; exact this
theorem MapD.some {D : Sto} {m : List (Int × Value)} {f : Int → Option Pg} (h : MapD D m f) {k : Int} {p : Pg} (hf : f k = .some p) : ∃ e, getM m k = .some (.agg (pgCells p e).toArray) ∧ EnD D e p.ents ∧ POk p := by
 have := h k; rw [hf] at this; obtain ⟨v, h1, e, rfl, h2, h3⟩ := this; exact ⟨e, h1, h2, h3⟩
theorem MapD.empty (D : Sto) : MapD D [] (fun _ => .none) := fun k => rfl
theorem MapD.put {D : Sto} {m : List (Int × Value)} {f : Int → Option Pg} (h : MapD D m f) {k : Int} {v : Value} {p : Pg} (hp : PgV D v p) : MapD D (putM m k v) (fun j => if j = k then .some p else f j) := fun j => by
 simp only [getM_put]
 by_cases hj : j = k
 ·subst hj; simp only [if_true]; exact ⟨v, rfl, hp⟩
 rw [if_neg hj, if_neg (fun e => hj e.symm)]; exact h j
/-- A pool: the struct, its pages, what is wanted. -/
def PoolS (D : Sto) (vp : Value) (P : Pl) (s : Seg) : Prop := ∃ bp bl bw es clk m es' clk' mw, vp = .pointer (some ⟨bp, 0, none⟩) ∧ s = [(bp, .cells #[.map (some bl), .map (some bw)] 145 (0, 0)), (bl, .map es clk), (bw, .map es' clk')] ∧
 IntMap es clk m ∧ MapD D m P.f ∧ m.length = P.n ∧ IntMap es' clk' mw ∧ mw.map (·.1) = P.wants
theorem PoolS.mono {D D' : Sto} {vp : Value} {P : Pl} {s : Seg} (h : PoolS D vp P s) (hD : Le D D') : PoolS D' vp P s := by
 obtain ⟨bp, bl, bw, es, clk, m, es', clk', mw, h1, h2, h3, h4, h5, h6, h7⟩ := h
 exact ⟨bp, bl, bw, es, clk, m, es', clk', mw, h1, h2, h3, h4.mono hD, h5, h6, h7⟩
/-- A batch: the struct, its own pages, its records. -/
def BatchS (D : Sto) (vb vp : Value) (b : Bt) (s : Seg) : Prop := ∃ bb bo es clk m vr sr, vb = .pointer (some ⟨bb, 0, none⟩) ∧ s = (bb, .cells #[vp, .map (some bo), vr] 120 (0, 0)) :: (bo, .map es clk) :: sr ∧
 IntMap es clk m ∧ MapD D m b.own ∧ OR 10 RcR D 88 vr b.recs sr
theorem BatchS.mono {D D' : Sto} {vb vp : Value} {b : Bt} {s : Seg} (h : BatchS D vb vp b s) (hD : Le D D') : BatchS D' vb vp b s := by
 obtain ⟨bb, bo, es, clk, m, vr, sr, h1, h2, h3, h4, h5⟩ := h
 exact ⟨bb, bo, es, clk, m, vr, sr, h1, h2, h3, h4.mono hD, h5.mono RcR.keeps hD⟩
/-- A batch with its pool. -/
def TreeS (D : Sto) (vb vp : Value) (b : Bt) (P : Pl) (s : Seg) : Prop := ∃ sb sp, s = sb ++ sp ∧ BatchS D vb vp b sb ∧ PoolS D vp P sp ∧ b.pool = P.f
theorem TreeS.mono {D D' : Sto} {vb vp : Value} {b : Bt} {P : Pl} {s : Seg} (h : TreeS D vb vp b P s) (hD : Le D D') : TreeS D' vb vp b P s := by
 obtain ⟨sb, sp, h1, h2, h3, h4⟩ := h
 exact ⟨sb, sp, h1, h2.mono hD, h3.mono hD, h4⟩
/-- What a call that failed may have done. -/
def Ext (b b' : Bt) : Prop := b'.pool = b.pool ∧ ∃ l, b'.recs = b.recs ++ l
theorem Ext.refl (b : Bt) : Ext b b := ⟨rfl, [], by simp⟩
theorem Ext.trans {a b c : Bt} (h : Ext a b) (k : Ext b c) : Ext a c := by
 obtain ⟨h1, l, h2⟩ := h; obtain ⟨k1, m, k2⟩ := k
 exact ⟨k1.trans h1, l ++ m, by rw [k2, h2, List.append_assoc]⟩
/-! ### comparing -/
theorem cmpL_lt : ∀ a b : List Nat, cmpL a b < 0 ↔ ltB a b = true
 | [], [] => by simp [cmpL, ltB]
 | [], _ :: _ => by simp [cmpL, ltB]
 | _ :: _, [] => by simp [cmpL, ltB]
 | x :: xs, y :: ys => by
  simp only [cmpL, ltB]
  by_cases h : x = y
  ·rw [if_pos h, if_pos h]; exact cmpL_lt xs ys
  rw [if_neg h, if_neg h]
  by_cases h2 : x < y
  ·simp [h2]
  simp [h2]
theorem cmpL_eq : ∀ a b : List Nat, cmpL a b = 0 ↔ a = b
 | [], [] => by simp [cmpL]
 | [], _ :: _ => by simp [cmpL]
 | _ :: _, [] => by simp [cmpL]
 | x :: xs, y :: ys => by
  simp only [cmpL]
  by_cases h : x = y
  ·rw [if_pos h, cmpL_eq xs ys, h]; simp
  rw [if_neg h]
  by_cases h2 : x < y
  ·simp [h2, h]
  simp [h2, h]
def RcV (D : Sto) (v : Value) (r : Rc) : Prop := ∃ k u, v = .agg (rcCells r k u).toArray ∧ RB D k r.key ∧ RB D u r.val ∧ ROk r
theorem RcV.mono {D D' : Sto} {v : Value} {r : Rc} (h : RcV D v r) (hD : Le D D') : RcV D' v r := by
 obtain ⟨k, u, h1, h2, h3, h4⟩ := h; exact ⟨k, u, h1, h2.mono hD, h3.mono hD, h4⟩
/-- The errors that the tree's code answers with. -/
structure TSents (D : Sto) (ad : Nat → Addr) : Prop where
 g103 : GlobIs D 1 (errV ad 103)
 g104 : GlobIs D 5 (errV ad 104)
 g105 : GlobIs D 0 (errV ad 105)
 g106 : GlobIs D 4 (errV ad 106)
 g109 : GlobIs D 10 (errV ad 109)
 g113 : GlobIs D 3 (errV ad 113)
theorem TSents.mono {D D' : Sto} {ad : Nat → Addr} (h : TSents D ad) (hD : Le D D') : TSents D' ad := ⟨h.g103.mono hD, h.g104.mono hD, h.g105.mono hD, h.g106.mono hD, h.g109.mono hD, h.g113.mono hD⟩
theorem Sents.t {D : Sto} {ad : Nat → Addr} (h : Sents D ad) : TSents D ad := ⟨h.g103, h.g104, h.g105, h.g106, h.g109, h.g113⟩
end Go.Proofs.YtbogbnkckofpdaaDoor.B
