/- What functions of the program compute, each function once: steps over the model, and the plain law of it. -/
import Derived.Test.YtbogbnkckofpdaaDoorTLaw21
import Derived.Laws.BytesString
namespace Go.Proofs.YtbogbnkckofpdaaDoor.B
open Go Go.Proofs
set_option linter.unusedVariables false
set_option linter.unusedSimpArgs false
set_option maxRecDepth 20000
set_option maxHeartbeats 8000000
namespace FTCheck
theorem agg_83 : aggSize Tryd.prog 83 = some 5 := by kernel_rfl
theorem built_141 : ∀ vs, Tryd.prog.built 141 vs = Instr.fill (([(0, 1), (1, 1), (2, 1), (3, 1)] : List (Nat × Nat)).toArray[·]?) ([.pointer none, .map none, .slice none 0 0, .int .i64 0] : List Value).toArray vs := fun _ => by kernel_rfl
theorem ent_117 : enters Tryd.prog 117 = true := by kernel_rfl
theorem ent_119 : enters Tryd.prog 119 = true := by kernel_rfl
theorem ent_33 : enters Tryd.prog 33 = true := by kernel_rfl
theorem ent_88 : enters Tryd.prog 88 = true := by kernel_rfl
theorem ent_89 : enters Tryd.prog 89 = true := by kernel_rfl
theorem ent_90 : enters Tryd.prog 90 = true := by kernel_rfl
theorem ent_95 : enters Tryd.prog 95 = true := by kernel_rfl
theorem fo_141_0 : fieldOff Tryd.prog 141 0 = some 0 := by kernel_rfl
theorem fo_141_1 : fieldOff Tryd.prog 141 1 = some 1 := by kernel_rfl
theorem fo_141_2 : fieldOff Tryd.prog 141 2 = some 2 := by kernel_rfl
theorem fo_141_3 : fieldOff Tryd.prog 141 3 = some 3 := by kernel_rfl
theorem fo_69_0 : fieldOff Tryd.prog 69 0 = some 0 := by kernel_rfl
theorem fo_83_2 : fieldOff Tryd.prog 83 2 = some 2 := by kernel_rfl
theorem fo_83_3 : fieldOff Tryd.prog 83 3 = some 3 := by kernel_rfl
theorem fo_83_4 : fieldOff Tryd.prog 83 4 = some 4 := by kernel_rfl
theorem ik_139 : intKeyed Tryd.prog 139 = some 4 := by kernel_rfl
theorem scal_121 : isScal Tryd.prog 121 = true := by kernel_rfl
theorem scal_139 : isScal Tryd.prog 139 = true := by kernel_rfl
theorem scal_22 : isScal Tryd.prog 22 = true := by kernel_rfl
theorem scal_3 : isScal Tryd.prog 3 = true := by kernel_rfl
theorem scal_55 : isScal Tryd.prog 55 = true := by kernel_rfl
theorem scal_65 : isScal Tryd.prog 65 = true := by kernel_rfl
theorem sz_121 : (Tryd.prog.info? 121).map (·.size) = some 1 := by kernel_rfl
theorem sz_3 : (Tryd.prog.info? 3).map (·.size) = some 1 := by kernel_rfl
theorem sz_69 : (Tryd.prog.info? 69).map (·.size) = some 2 := by kernel_rfl
theorem sz_83 : (Tryd.prog.info? 83).map (·.size) = some 5 := by kernel_rfl
theorem zer_4 : (Tryd.prog.info? 4).bind (·.zero) = some (.bool false) := by kernel_rfl
theorem zer_83 : (Tryd.prog.info? 83).bind (·.zero) = some (.agg #[.int .i64 0, .int .i64 0, .int .i64 0, .int .i64 0, .slice none 0 0]) := by kernel_rfl
theorem zs_83 : (Tryd.prog.info? 83).map (fun i => (i.zero, i.size)) = some (some (.agg #[.int .i64 0, .int .i64 0, .int .i64 0, .int .i64 0, .slice none 0 0]), 5) := by kernel_rfl
theorem zsb_83 : (Tryd.prog.info? 83).map (fun i => (i.zero, i.size, i.bytes)) = some (some (.agg #[.int .i64 0, .int .i64 0, .int .i64 0, .int .i64 0, .slice none 0 0]), 5, 56) := by kernel_rfl
end FTCheck
open FTCheck
section
variable {P : Program} {ops : Array Oper} {Q : Exit → Act → World → Prop} {a : Act} {w0 w w' : World} {D : Sto} {ss : List Seg} {o : Oper} {N : Nat} {env : Env} {K : Act → World → Prop}
def strOf (bs : List Nat) : ByteArray := (bs.map (fun x => ((x : Nat) : Int))).foldl (fun r n => r.push (UInt8.ofNat n.toNat)) ByteArray.empty
theorem r_toString {src dst e : TypeId} {x : Operand} {v : Value} {bs : List Nat} (hI : Inv w0 D ss w) (hx : ev env x = some v) (hr : RB D v bs) (hs : P.underlying src = some (.slice e)) (he : P.underlying e = some (.int .u8)) (hd : P.underlying dst = some .string) :
  RunOp P env w (.convert src dst x) (.string (strOf bs)) := fun _ a o hE ho => by
 obtain ⟨A, c, rfl, hc, hlt, hA, hat⟩ := hr
 have h1 := run_convert_bytes_string (P := P) w src dst e A bs.length c hs he hd
 have h2 : (Conv.bytesToString (.slice A bs.length c)).run P w = .ok (.string (strOf bs)) w := by
  cases bs with
  | nil =>
   cases A with
   | none => rfl
   | some ad =>
    have := run_bytesToString (P := P) w ad 0 c [] (by simpa using run_loadCells_list (P := P) w ad [] (by simp))
    simpa [strOf] using this
  | cons y r =>
   obtain ⟨b, off, cs, T, fr, rfl, h7, h8⟩ := hat (by simp)
   have hld := run_loadCells_list (P := P) w ⟨b, off, none⟩ (((y :: r).map (fun x => ((x : Nat) : Int))).map (Value.int .u8)) (fun j u hu => by
    rw [addr_add, cell_of (hI.data _ _ h7)]
    simp only [List.map_map, List.getElem?_map, Option.map_eq_some_iff] at hu
    obtain ⟨z, hz, rfl⟩ := hu
    exact h8 j z hz)
   simp only [List.length_map] at hld
   exact run_bytesToString (P := P) w ⟨b, off, none⟩ _ c _ hld
 simp [execOp, ho, hE.eval hx, h1, h2]
theorem p_strEql {t t' : TypeId} {x y : Operand} {s u : ByteArray} {e : Bool} (hx : ev env x = some (.string s)) (hy : ev env y = some (.string u)) (he : (s.toList == u.toList) = e) : PureOp P env (.binOp .eql t x y t') (.bool e) := fun _ a w o hE ho => by
 have h1 := hE.eval hx; have h2 := hE.eval hy
 subst he
 simp [execOp, ho, h1, h2, eqGuard, binOp, Op.stringOp, Sem.run]
end
theorem Equal_same {w0 w : World} {D : Sto} {ss : List Seg} (hI : Inv w0 D ss w) {va vb : Value} {ka : List Nat} (ha : RB D va ka) (hb : RB D vb ka) :
  Calls Tryd.prog 117 #[va, vb] w (Ret fun r w' => r = .bool true ∧ Inv w0 D ss w') := by
 obtain ⟨A1, c2, rfl, _⟩ := ha.slice
 obtain ⟨A3, c4, rfl, _⟩ := hb.slice
 refine enter (N := 10) Tryd.func117 rfl rfl rfl ?_
 intro a hE
 refine wsr ?_
 refine za hE ?_; clear hE a; intro a hE
 refine wnt ?_
 refine wsr ?_
 refine zm hE ?_; clear hE a; intro a hE
 refine zl hE (r_toString hI rfl ha Tryd.underlying22 Tryd.underlying5 Tryd.underlying9) ?_; clear hE a; intro a hE
 refine zm hE ?_; clear hE a; intro a hE
 refine zl hE (r_toString hI rfl hb Tryd.underlying22 Tryd.underlying5 Tryd.underlying9) ?_; clear hE a; intro a hE
 refine zs hE (p_strEql rfl rfl (beq_self_eq_true _)) ?_; clear hE a; intro a hE
 refine za hE ?_; clear hE a; intro a hE
 refine wnt ?_
 refine wp_ret ?_
 refine ret1 rfl hE rfl ?_
 exact ⟨rfl, hI⟩
theorem TreeS.ptr {D : Sto} {vb vp : Value} {b : Bt} {P : Pl} {s : Seg} (h : TreeS D vb vp b P s) : ∃ bb, vb = .pointer (some ⟨bb, 0, none⟩) := by
 obtain ⟨sb, sp, _, ⟨bb, bo, es, clk, m, vr, sr, h1, _⟩, _⟩ := h; exact ⟨bb, h1⟩
theorem Inv.merge {w0 w : World} {D : Sto} {ss : List Seg} {s1 s2 : Seg} (h : Inv w0 D (s1 :: s2 :: ss) w) : Inv w0 D ((s1 ++ s2) :: ss) w := h.perm (List.Perm.of_eq (by simp))
theorem Inv.right {w0 w : World} {D : Sto} {ss : List Seg} {s1 s2 : Seg} (h : Inv w0 D ((s1 ++ s2) :: ss) w) : Inv w0 D (s2 :: ss) w :=
 (h.perm (ss' := s1 :: s2 :: ss) (List.Perm.of_eq (by simp))).drop
theorem TreeS.join {D : Sto} {vb vp : Value} {b : Bt} {P : Pl} {sb sp : Seg} (h : BatchS D vb vp b sb) (k : PoolS D vp P sp) (hp : b.pool = P.f) : TreeS D vb vp b P (sb ++ sp) := ⟨sb, sp, rfl, h, k, hp⟩
theorem BatchS.ptr {D : Sto} {vb vp : Value} {b : Bt} {s : Seg} (h : BatchS D vb vp b s) : ∃ bb, vb = .pointer (some ⟨bb, 0, none⟩) := by
 obtain ⟨bb, bo, es, clk, m, vr, sr, h1, _⟩ := h; exact ⟨bb, h1⟩
end Go.Proofs.YtbogbnkckofpdaaDoor.B
