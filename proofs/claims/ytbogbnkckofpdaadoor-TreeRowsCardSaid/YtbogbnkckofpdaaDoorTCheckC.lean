/- What functions of the program compute, each function once: steps over the model, and the plain law of it. -/
import Derived.Test.YtbogbnkckofpdaaDoorTCheckP
import Derived.Test.YtbogbnkckofpdaaDoorTCheck
import Derived.Test.YtbogbnkckofpdaaDoorSOrow
namespace Go.Proofs.YtbogbnkckofpdaaDoor.B
open Go Go.Proofs
set_option linter.unusedVariables false
set_option linter.unusedSimpArgs false
/-- A bound that may be none. -/
def HighV (D : Sto) (v : Value) (high : Option Bs) : Prop := ∃ A n c, v = .slice A n c ∧ RB D v (high.getD []) ∧ (A = none ↔ high = none)
theorem HighV.mono {D D' : Sto} {v : Value} {high : Option Bs} (h : HighV D v high) (hD : Le D D') : HighV D' v high := by
 obtain ⟨A, n, c, h1, h2, h3⟩ := h; exact ⟨A, n, c, h1, h2.mono hD, h3⟩
theorem HighV.none (D : Sto) : HighV D (.slice Option.none 0 0) Option.none := ⟨_, _, _, rfl, RB.nil D, by simp⟩
theorem HighV.key {D : Sto} {v : Value} {k : Bs} (h : RB D v k) (hk : k ≠ []) : HighV D v (Option.some k) := by
 obtain ⟨A, c, rfl, hc, hlt, hA, hat⟩ := h
 refine ⟨A, _, c, rfl, ⟨A, c, rfl, hc, hlt, hA, hat⟩, ?_⟩
 cases A with
 | none =>
  have := hA rfl
  have hl : k.length = 0 := by omega
  exact absurd (List.length_eq_zero_iff.1 hl) hk
 | some a => simp
/-- What a part of the check leaves. -/
def CkPost (w0 : World) (D : Sto) (ss : List Seg) (bc bs : Nat) (vb vp : Value) (P : Pl) (b : Bt) (ad : Nat → Addr) (res : Res Ck) (r : Value) (w' : World) : Prop :=
 (∃ c, res = .ok c ∧ r = .nilIface ∧ CkOk c ∧ ∃ D' es clk vl sl s, Le D D' ∧ IntMap es clk (seenM c.seen) ∧ OR 5 PgR D' 83 vl c.leaves sl ∧ TreeS D' vb vp b P s ∧ Inv w0 D' ([(bc, .cells #[vb, .map (some bs), vl, .int .i64 c.keys] 141 (0, 0))] :: [(bs, .map es clk)] :: sl :: s :: ss) w') ∨
 (∃ e o, res = .fail e o ∧ r = errV ad e ∧ ∃ D' s, Le D D' ∧ TreeS D' vb vp b (P.after o) s ∧ Inv w0 D' (s :: ss) w')
/-- The contract of walk, for levels below f. -/
def WalkAt (b : Bt) (f : Nat) : Prop := ∀ {w0 w : World} {D : Sto} {ss : List Seg} {s sl : Seg} {vb vp vl vlow vhigh : Value} {P : Pl} {bc bs : Nat} {es : Array MapEntry} {clk : Nat} {c : Ck} {ad : Nat → Addr} {id level : Int} {low : Bs} {high : Option Bs},
 Inv w0 D ([(bc, .cells #[vb, .map (some bs), vl, .int .i64 c.keys] 141 (0, 0))] :: [(bs, .map es clk)] :: sl :: s :: ss) w → TSents D ad → TreeS D vb vp b P s → IntMap es clk (seenM c.seen) → OR 5 PgR D 83 vl c.leaves sl → CkOk c → RB D vlow low → HighV D vhigh high → level < f →
  Calls Tryd.prog 89 #[.pointer (some ⟨bc, 0, none⟩), .int .i64 id, .int .i64 level, vlow, vhigh] w (Ret fun r w' => CkPost w0 D ss bc bs vb vp P b ad (b.walkF f id level low high c) r w')
theorem belowL_step {w : Int → Bs → Option Bs → Ck → Res Ck} {x : Pg} {low : Bs} {high : Option Bs} {i : Nat} {c : Ck} {id : Int} (hi : i < x.ents.length) (ha : atP x i = .ok id) :
  belowL w x low high (x.ents.length - i) i c = match w id (if 0 < i then (x.ents.getD i ([], [])).1 else low) (if i + 1 < x.ents.length then some (x.ents.getD (i + 1) ([], [])).1 else high) c with
   | .fail e o => .fail e o
   | .ok c => belowL w x low high (x.ents.length - (i + 1)) (i + 1) c := by
 obtain ⟨n, hn⟩ : ∃ n, x.ents.length - i = n + 1 := ⟨x.ents.length - i - 1, by omega⟩
 rw [hn, belowL, ha]
 have : x.ents.length - (i + 1) = n := by omega
 rw [this]
 rfl
theorem belowL_fail {w : Int → Bs → Option Bs → Ck → Res Ck} {x : Pg} {low : Bs} {high : Option Bs} {i : Nat} {c : Ck} {e : Nat} {o : Option Int} (hi : i < x.ents.length) (ha : atP x i = .fail e o) :
  belowL w x low high (x.ents.length - i) i c = .fail e o := by
 obtain ⟨n, hn⟩ : ∃ n, x.ents.length - i = n + 1 := ⟨x.ents.length - i - 1, by omega⟩
 rw [hn, belowL, ha]
/-- A piece that yields a bool: all ways through it meet behind it. -/
theorem c_cutB {P : Program} {Q : Exit → Act → World → Prop} {N : Nat} {env : Env} {a : Act} {w : World} {x y : Code} (slots : List Nat) (d : Nat) (W : Bool → World → Prop) (hE : EnvOk N env a)
  (h : x.wp P (Exit.then (fun a' w' => ∃ b : Bool, EnvOk N ((d, .bool b) :: pick env slots) a' ∧ W b w') Q) a w)
  (k : ∀ (b : Bool) a' w', EnvOk N ((d, .bool b) :: pick env slots) a' → W b w' → y.wp P Q a' w') : (Code.seq x y).wp P Q a w :=
 wp_seq (wp_mono h fun e a' w' q => by
  cases e <;> first | exact q | (obtain ⟨b, hE', hW⟩ := q; exact k b a' w' hE' hW))
end Go.Proofs.YtbogbnkckofpdaaDoor.B
