/- What functions of the program compute, each function once: steps over the model, and the plain law of it. -/
import Derived.Test.YtbogbnkckofpdaaDoorTLaw21
import Derived.Laws.BytesString
namespace Go.Proofs.YtbogbnkckofpdaaDoor.B
open Go Go.Proofs
set_option linter.unusedVariables false
set_option linter.unusedSimpArgs false
set_option maxRecDepth 20000
set_option maxHeartbeats 8000000
namespace FTCheck
theorem agg_83 : aggSize Tryd.prog 83 = some 5 := by kernel_rfl
theorem built_141 : ∀ vs, Tryd.prog.built 141 vs = Instr.fill (([(0, 1), (1, 1), (2, 1), (3, 1)] : List (Nat × Nat)).toArray[·]?) ([.pointer none, .map none, .slice none 0 0, .int .i64 0] : List Value).toArray vs := fun _ => by kernel_rfl
theorem ent_117 : enters Tryd.prog 117 = true := by kernel_rfl
theorem ent_119 : enters Tryd.prog 119 = true := by kernel_rfl
theorem ent_33 : enters Tryd.prog 33 = true := by kernel_rfl
theorem ent_88 : enters Tryd.prog 88 = true := by kernel_rfl
theorem ent_89 : enters Tryd.prog 89 = true := by kernel_rfl
theorem ent_90 : enters Tryd.prog 90 = true := by kernel_rfl
theorem ent_95 : enters Tryd.prog 95 = true := by kernel_rfl
theorem fo_141_0 : fieldOff Tryd.prog 141 0 = some 0 := by kernel_rfl
theorem fo_141_1 : fieldOff Tryd.prog 141 1 = some 1 := by kernel_rfl
theorem fo_141_2 : fieldOff Tryd.prog 141 2 = some 2 := by kernel_rfl
theorem fo_141_3 : fieldOff Tryd.prog 141 3 = some 3 := by kernel_rfl
theorem fo_69_0 : fieldOff Tryd.prog 69 0 = some 0 := by kernel_rfl
theorem fo_83_2 : fieldOff Tryd.prog 83 2 = some 2 := by kernel_rfl
theorem fo_83_3 : fieldOff Tryd.prog 83 3 = some 3 := by kernel_rfl
theorem fo_83_4 : fieldOff Tryd.prog 83 4 = some 4 := by kernel_rfl
theorem ik_139 : intKeyed Tryd.prog 139 = some 4 := by kernel_rfl
theorem scal_121 : isScal Tryd.prog 121 = true := by kernel_rfl
theorem scal_139 : isScal Tryd.prog 139 = true := by kernel_rfl
theorem scal_22 : isScal Tryd.prog 22 = true := by kernel_rfl
theorem scal_3 : isScal Tryd.prog 3 = true := by kernel_rfl
theorem scal_55 : isScal Tryd.prog 55 = true := by kernel_rfl
theorem scal_65 : isScal Tryd.prog 65 = true := by kernel_rfl
theorem sz_121 : (Tryd.prog.info? 121).map (·.size) = some 1 := by kernel_rfl
theorem sz_3 : (Tryd.prog.info? 3).map (·.size) = some 1 := by kernel_rfl
theorem sz_69 : (Tryd.prog.info? 69).map (·.size) = some 2 := by kernel_rfl
theorem sz_83 : (Tryd.prog.info? 83).map (·.size) = some 5 := by kernel_rfl
theorem zer_4 : (Tryd.prog.info? 4).bind (·.zero) = some (.bool false) := by kernel_rfl
theorem zer_83 : (Tryd.prog.info? 83).bind (·.zero) = some (.agg #[.int .i64 0, .int .i64 0, .int .i64 0, .int .i64 0, .slice none 0 0]) := by kernel_rfl
theorem zs_83 : (Tryd.prog.info? 83).map (fun i => (i.zero, i.size)) = some (some (.agg #[.int .i64 0, .int .i64 0, .int .i64 0, .int .i64 0, .slice none 0 0]), 5) := by kernel_rfl
theorem zsb_83 : (Tryd.prog.info? 83).map (fun i => (i.zero, i.size, i.bytes)) = some (some (.agg #[.int .i64 0, .int .i64 0, .int .i64 0, .int .i64 0, .slice none 0 0]), 5, 56) := by kernel_rfl
end FTCheck
open FTCheck
section
variable {P : Program} {ops : Array Oper} {Q : Exit → Act → World → Prop} {a : Act} {w0 w w' : World} {D : Sto} {ss : List Seg} {o : Oper} {N : Nat} {env : Env} {K : Act → World → Prop}
def strOf (bs : List Nat) : ByteArray := (bs.map (fun x => ((x : Nat) : Int))).foldl (fun r n => r.push (UInt8.ofNat n.toNat)) ByteArray.empty
theorem r_toString {src dst e : TypeId} {x : Operand} {v : Value} {bs : List Nat} (hI : Inv w0 D ss w) (hx : ev env x = some v) (hr : RB D v bs) (hs : P.underlying src = some (.slice e)) (he : P.underlying e = some (.int .u8)) (hd : P.underlying dst = some .string) :
    RunOp P env w (.convert src dst x) (.string (strOf bs)) := fun _ a o hE ho => by
  obtain ⟨A, c, rfl, hc, hlt, hA, hat⟩ := hr
  have h1 := run_convert_bytes_string (P := P) w src dst e A bs.length c hs he hd
  have h2 : (Conv.bytesToString (.slice A bs.length c)).run P w = .ok (.string (strOf bs)) w := by
    cases bs with
    | nil =>
      cases A with
      | none => rfl
      | some ad =>
        have := run_bytesToString (P := P) w ad 0 c [] (by simpa using run_loadCells_list (P := P) w ad [] (by simp))
        simpa [strOf] using this
    | cons y r =>
      obtain ⟨b, off, cs, T, fr, rfl, h7, h8⟩ := hat (by simp)
      have hld := run_loadCells_list (P := P) w ⟨b, off, none⟩ (((y :: r).map (fun x => ((x : Nat) : Int))).map (Value.int .u8)) (fun j u hu => by
        rw [addr_add, cell_of (hI.data _ _ h7)]
        simp only [List.map_map, List.getElem?_map, Option.map_eq_some_iff] at hu
        obtain ⟨z, hz, rfl⟩ := hu
        exact h8 j z hz)
      simp only [List.length_map] at hld
      exact run_bytesToString (P := P) w ⟨b, off, none⟩ _ c _ hld
  simp [execOp, ho, hE.eval hx, h1, h2]
theorem p_strEql {t t' : TypeId} {x y : Operand} {s u : ByteArray} {e : Bool} (hx : ev env x = some (.string s)) (hy : ev env y = some (.string u)) (he : (s.toList == u.toList) = e) : PureOp P env (.binOp .eql t x y t') (.bool e) := fun _ a w o hE ho => by
  have h1 := hE.eval hx; have h2 := hE.eval hy
  subst he
  simp [execOp, ho, h1, h2, eqGuard, binOp, Op.stringOp, Sem.run]
/-- A loop whose first round is its last. -/
theorem c_once {c : Code} (h : c.wp P (Exit.then (fun _ _ => False) Q) a w) : (Code.loop c).wp P Q a w :=
  wp_loop (fun a' w' => a' = a ∧ w' = w) (fun _ _ => 0) ⟨rfl, rfl⟩ (by
    rintro a' w' ⟨rfl, rfl⟩
    exact wp_mono h (fun e a w hq => by cases e <;> first | exact hq.elim | exact hq))
end
theorem Equal_same {w0 w : World} {D : Sto} {ss : List Seg} (hI : Inv w0 D ss w) {va vb : Value} {ka : List Nat} (ha : RB D va ka) (hb : RB D vb ka) :
    Calls Tryd.prog 117 #[va, vb] w (Ret fun r w' => r = .bool true ∧ Inv w0 D ss w') := by
  obtain ⟨A1, c2, rfl, _⟩ := ha.slice
  obtain ⟨A3, c4, rfl, _⟩ := hb.slice
  refine enter (N := 10) Tryd.func117 rfl rfl rfl ?_
  intro a hE
  refine wp_seq ?_
  refine wp_region_list ?_   -- region 0
  refine l_step rfl (o_pure hE rfl rfl (p_assign rfl).run ?_); clear hE a; intro a hE
  refine wpList_nil ?_
  refine then_normal ?_
  refine wp_seq ?_
  refine wp_region_list ?_   -- region 1
  refine l_step rfl (o_pure hE rfl rfl (p_move rfl).run ?_); clear hE a; intro a hE
  refine l_step rfl (o_pure hE rfl rfl (r_toString hI rfl ha Tryd.underlying22 Tryd.underlying5 Tryd.underlying9) ?_); clear hE a; intro a hE
  refine l_step rfl (o_pure hE rfl rfl (p_move rfl).run ?_); clear hE a; intro a hE
  refine l_step rfl (o_pure hE rfl rfl (r_toString hI rfl hb Tryd.underlying22 Tryd.underlying5 Tryd.underlying9) ?_); clear hE a; intro a hE
  refine l_step rfl (o_pure hE rfl rfl (p_strEql rfl rfl (beq_self_eq_true _)).run ?_); clear hE a; intro a hE
  refine l_step rfl (o_pure hE rfl rfl (p_assign rfl).run ?_); clear hE a; intro a hE
  refine wpList_nil ?_
  refine then_normal ?_
  refine wp_ret ?_
  refine ret1 rfl hE rfl ?_
  exact ⟨rfl, hI⟩
theorem TreeS.ptr {D : Sto} {vb vp : Value} {b : Bt} {P : Pl} {s : Seg} (h : TreeS D vb vp b P s) : ∃ bb, vb = .pointer (some ⟨bb, 0, none⟩) := by
  obtain ⟨sb, sp, _, ⟨bb, bo, es, clk, m, vr, sr, h1, _⟩, _⟩ := h; exact ⟨bb, h1⟩
theorem walk0_spec {w0 w : World} {D : Sto} {ss : List Seg} {s : Seg} {vb vp : Value} {b : Bt} {P : Pl} {bc bs : Nat} {es : Array MapEntry} {clk : Nat} {m : List (Int × Value)} {x : Pg} (hI : Inv w0 D ([(bc, .cells #[vb, .map (some bs), .slice none 0 0, .int .i64 0] 141 (0, 0))] :: [(bs, .map es clk)] :: s :: ss) w) {ad : Nat → Addr} (hS : Sents D ad) (hT : TreeS D vb vp b P s) (hm : IntMap es clk m) (hm0 : getM m 0 = none) (hpg : b.page 0 = .ok x) (hx0 : x.level = 0) (hxe : x.ents = []) :
    Calls Tryd.prog 89 #[.pointer (some ⟨bc, 0, none⟩), .int .i64 0, .int .i64 0, .slice none 0 0, .slice none 0 0] w (Ret fun r w' => r = .nilIface ∧ ∃ D' es' clk' vl sl, Le D D' ∧ IntMap es' clk' (putM m 0 (.bool true)) ∧ OR 5 PgR D' 83 vl [x] sl ∧ TreeS D' vb vp b P s ∧ Inv w0 D' ([(bc, .cells #[vb, .map (some bs), vl, .int .i64 0] 141 (0, 0))] :: [(bs, .map es' clk')] :: sl :: s :: ss) w') := by
  obtain ⟨bb0, hvb⟩ := hT.ptr
  subst hvb
  refine enter (N := 147) Tryd.func89 rfl rfl rfl ?_
  intro a hE
  refine wp_seq ?_
  refine wp_region_list ?_   -- region 0
  refine l_step rfl (o_pure hE rfl rfl (p_assign rfl).run ?_); clear hE a; intro a hE
  refine wpList_nil ?_
  refine then_normal ?_
  refine wp_seq ?_
  refine wp_seq ?_
  refine wp_region_list ?_   -- region 1
  refine l_step rfl (o_pure hE rfl rfl (p_move rfl).run ?_); clear hE a; intro a hE
  refine l_step rfl (o_pure hE rfl rfl (p_nilCheck rfl).run ?_); clear hE a; intro a hE
  refine l_step rfl (o_pure hE rfl rfl (p_fieldAddr (m := 1) rfl fo_141_1 rfl).run ?_); clear hE a; intro a hE
  refine l_step rfl (o_pure hE rfl rfl (f_load rfl scal_139 (hI.seg 0 rfl) rfl) ?_); clear hE a; intro a hE
  refine l_step rfl (o_pure hE rfl rfl (p_move rfl).run ?_); clear hE a; intro a hE
  refine l_step rfl (o_pure hE rfl rfl (r_lookup (v := .bool false) rfl rfl ik_139 zer_4 (hI.seg 1 rfl) hm (by rw [hm0]; rfl)) ?_); clear hE a; intro a hE
  refine l_step rfl (o_pure hE rfl rfl (p_move rfl).run ?_); clear hE a; intro a hE
  refine l_go hE rfl (o_pure hE rfl rfl (p_move rfl).run ?_); clear hE a; intro a hE
  refine l_go hE rfl (o_pure hE rfl rfl (p_cmp rfl rfl rfl).run ?_); clear hE a; intro a hE
  refine l_step rfl (o_pure hE rfl rfl (p_pick (b := false) rfl rfl).run ?_); clear hE a; intro a hE
  refine wpList_nil ?_
  refine then_normal ?_
  refine c_false hE rfl ?_
  refine wp_skip ?_
  refine then_normal ?_
  refine wp_seq ?_
  refine wp_region_list ?_   -- region 3
  refine l_step rfl (o_pure hE rfl rfl (p_move rfl).run ?_); clear hE a; intro a hE
  refine l_step rfl (o_pure hE rfl rfl (p_nilCheck rfl).run ?_); clear hE a; intro a hE
  refine l_step rfl (o_pure hE rfl rfl (p_fieldAddr (m := 1) rfl fo_141_1 rfl).run ?_); clear hE a; intro a hE
  refine l_step rfl (o_pure hE rfl rfl (f_load rfl scal_139 (hI.seg 0 rfl) rfl) ?_); clear hE a; intro a hE
  refine l_step rfl (o_pure hE rfl rfl (p_move rfl).run ?_); clear hE a; intro a hE
  refine l_step rfl (o_mapUpdate 1 hE hI rfl (.inl rfl) rfl rfl rfl ik_139 rfl hm ?_)
  clear hI w; intro es_1 clk_1 w hm_1 hI
  refine wpList_nil ?_
  refine then_normal ?_
  refine wp_seq ?_
  refine wp_region_list ?_   -- region 4
  refine l_step rfl (o_pure hE rfl rfl (p_move rfl).run ?_); clear hE a; intro a hE
  refine l_step rfl (o_pure hE rfl rfl (p_nilCheck rfl).run ?_); clear hE a; intro a hE
  refine l_step rfl (o_pure hE rfl rfl (p_fieldAddr (m := 0) rfl fo_141_0 rfl).run ?_); clear hE a; intro a hE
  refine l_step rfl (o_pure hE rfl rfl (f_load rfl scal_55 (hI.seg 0 rfl) rfl) ?_); clear hE a; intro a hE
  refine l_step rfl (o_pure hE rfl rfl (p_move rfl).run ?_); clear hE a; intro a hE
  refine l_step rfl (o_call hE rfl rfl rfl rfl ent_88 (page_spec (hI.bring 2) hS hT 0) ?_)
  clear hI hE a
  rintro r w h a hE; rcases h with ⟨x12, hx2, D3, e4, hD5, rfl, he6, ho7, hT8, hI⟩ | ⟨c9, o10, hbad, rfl, s11, hT8, hI⟩
  · skip
    replace hI := hI.put_back 2
    try simp only [splice, insAt, List.set_cons_succ, List.set_cons_zero, List.setIfInBounds_toArray, Value.cells, List.eraseIdx_cons_succ, List.eraseIdx_cons_zero, List.eraseIdx_zero, List.tail_cons] at hI
    rw [hpg] at hx2
    injection hx2 with hx2
    subst hx2
    have hlen_x := ho7.len
    obtain ⟨A13, c14, rfl, _⟩ := he6.slice
    refine l_step rfl (o_pure hE rfl rfl (p_move rfl).run ?_); clear hE a; intro a hE
    refine l_step rfl (o_pure hE rfl rfl (f_extract rfl rfl).run ?_); clear hE a; intro a hE
    refine l_step rfl (o_pure hE rfl rfl (f_extract rfl rfl).run ?_); clear hE a; intro a hE
    refine l_step rfl (f_alloc (cs := #[.int .i64 0, .int .i64 0, .int .i64 0, .int .i64 0, .slice none 0 0]) hE hI rfl rfl rfl zer_83 rfl ?_)
    clear hI hE a w; intro a b15 w hE hI
    refine l_step rfl (f_store (l := [_, _, _, _, _]) (ss' := _ :: _) 0 hE hI rfl rfl rfl rfl rfl sz_83 (by simp [Value.cells, Value.oneCell', pgCells, rcCells, zPg]) rfl rfl rfl ?_)
    clear hI w; intro w hI
    refine l_step rfl (o_pure hE rfl rfl (p_assign rfl).run ?_); clear hE a; intro a hE
    refine wpList_nil ?_
    refine then_normal ?_
    refine wp_seq ?_
    refine wp_seq ?_
    refine wp_region_list ?_   -- region 5
    refine l_step rfl (o_pure hE rfl rfl (p_move rfl).run ?_); clear hE a; intro a hE
    refine l_step rfl (o_pure hE rfl rfl (p_ifaceNil Tryd.underlying25 rfl rfl rfl).run ?_); clear hE a; intro a hE
    refine wpList_nil ?_
    refine then_normal ?_
    refine c_false hE rfl ?_
    refine wp_skip ?_
    refine then_normal ?_
    refine wp_seq ?_
    refine wp_seq ?_
    refine wp_region_list ?_   -- region 7
    refine l_step rfl (o_pure hE rfl rfl (p_fieldAddr (m := 2) rfl fo_83_2 rfl).run ?_); clear hE a; intro a hE
    refine l_step rfl (o_pure hE rfl rfl (f_load rfl scal_3 (hI.seg 0 rfl) rfl) ?_); clear hE a; intro a hE
    refine l_step rfl (o_pure hE rfl rfl (p_move rfl).run ?_); clear hE a; intro a hE
    refine l_step rfl (o_pure hE rfl rfl (p_cmp rfl rfl (neq_n (by omega))).run ?_); clear hE a; intro a hE
    refine l_step rfl (o_pure hE rfl rfl (p_move rfl).run ?_); clear hE a; intro a hE
    refine l_go hE rfl (o_pure hE rfl rfl (p_move rfl).run ?_); clear hE a; intro a hE
    refine l_go hE rfl (o_pure hE rfl rfl (p_cmp rfl rfl rfl).run ?_); clear hE a; intro a hE
    refine l_go hE rfl (o_pure hE rfl rfl (p_move rfl).run ?_); clear hE a; intro a hE
    refine l_skip hE rfl rfl rfl ?_; clear hE a; intro a hE
    refine l_skip hE rfl rfl rfl ?_; clear hE a; intro a hE
    refine l_skip hE rfl rfl rfl ?_; clear hE a; intro a hE
    refine l_skip hE rfl rfl rfl ?_; clear hE a; intro a hE
    refine l_go hE rfl (o_pure hE rfl rfl (p_pick (b := false) rfl rfl).run ?_); clear hE a; intro a hE
    refine l_step rfl (o_pure hE rfl rfl (p_pick (b := false) rfl rfl).run ?_); clear hE a; intro a hE
    refine wpList_nil ?_
    refine then_normal ?_
    refine c_false hE rfl ?_
    refine wp_skip ?_
    refine then_normal ?_
    refine wp_seq ?_
    refine wp_seq ?_
    have hl0 : x.ents.length = 0 := by rw [hxe]; rfl
    refine wp_region_list ?_   -- region 9
    refine l_step rfl (o_pure hE rfl rfl (p_fieldAddr (m := 4) rfl fo_83_4 rfl).run ?_); clear hE a; intro a hE
    refine l_step rfl (o_pure hE rfl rfl (f_load rfl scal_65 (hI.seg 0 rfl) rfl) ?_); clear hE a; intro a hE
    refine l_step rfl (o_pure hE rfl rfl (p_len rfl rfl Tryd.underlying65).run ?_); clear hE a; intro a hE
    refine l_step rfl (o_pure hE rfl rfl (p_move rfl).run ?_); clear hE a; intro a hE
    refine wpList_nil ?_
    refine then_normal ?_
    refine wp_block ?_
    refine c_once ?_
    refine wp_seq ?_
    refine wp_region_list ?_   -- region 10
    refine l_step rfl (o_pure hE rfl rfl (p_cmp rfl rfl (lss_n (by omega))).run ?_); clear hE a; intro a hE
    refine wpList_nil ?_
    refine then_normal ?_
    refine wp_seq ?_
    refine c_false hE rfl ?_
    refine wp_exit ?_
    refine then_exit ?_
    refine then_exit ?_
    refine blk_same ?_
    refine then_normal ?_
    refine wp_seq ?_
    refine wp_seq ?_
    refine wp_region_list ?_   -- region 20
    refine l_step rfl (o_pure hE rfl rfl (p_move rfl).run ?_); clear hE a; intro a hE
    refine l_step rfl (o_pure hE rfl rfl (p_cmp rfl rfl rfl).run ?_); clear hE a; intro a hE
    refine wpList_nil ?_
    refine then_normal ?_
    refine c_true hE rfl ?_
    refine wp_seq ?_
    refine d_start [10] [] (by kernel_rfl) hI rfl rfl ?_   -- region 21 draws its order
    clear hI w; intro w hI
    refine d_pure 0 hE rfl (by kernel_rfl) (by kernel_rfl) (by kernel_rfl) rfl (fun _ _ _ h => h) rfl rfl rfl (p_move rfl) (fun _ => hI) (listed' := #[true, false, false, false, false, false, false, false, false, false, false]) rfl ?_; clear hE a; intro a hE
    refine d_pure 1 hE rfl (by kernel_rfl) (by kernel_rfl) (by kernel_rfl) rfl (fun _ _ _ h => h) rfl rfl rfl (p_move rfl) (fun _ => hI) (listed' := #[true, true, false, false, false, false, false, false, false, false, false]) rfl ?_; clear hE a; intro a hE
    refine d_pure 2 hE rfl (by kernel_rfl) (by kernel_rfl) (by kernel_rfl) rfl (fun _ _ _ h => h) rfl rfl rfl (p_nilCheck rfl) (fun _ => hI) (listed' := #[true, true, true, false, false, false, false, false, false, false, false]) rfl ?_; clear hE a; intro a hE
    refine d_pure 3 hE rfl (by kernel_rfl) (by kernel_rfl) (by kernel_rfl) rfl (fun _ _ _ h => h) rfl rfl rfl (p_fieldAddr (m := 2) rfl fo_141_2 rfl) (fun _ => hI) (listed' := #[true, true, true, true, false, false, false, false, false, false, false]) rfl ?_; clear hE a; intro a hE
    refine d_load 4 hE rfl (by kernel_rfl) (by kernel_rfl) (by kernel_rfl) (by kernel_rfl) (by kernel_rfl) rfl rfl (fun _ _ _ h => h) rfl rfl rfl (fun w hS => f_load rfl scal_121 (Inv.seg 1 hS rfl) rfl) (hI) (listed' := #[true, true, true, true, true, false, false, false, false, false, false]) rfl ?_; clear hE a; intro a hE
    refine d_load 5 hE rfl (by kernel_rfl) (by kernel_rfl) (by kernel_rfl) (by kernel_rfl) (by kernel_rfl) rfl rfl (fun _ _ _ h => h) rfl rfl rfl (fun w hS => f_loadA (vs := [_, _, _, _, _]) rfl agg_83 (Inv.seg 0 hS rfl) rfl rfl) (hI) (listed' := #[true, true, true, true, true, true, false, false, false, false, false]) rfl ?_; clear hE a; intro a hE
    refine d_one 6 hE rfl (by kernel_rfl) rfl (listed' := #[true, true, true, true, true, true, true, false, false, false, false]) rfl ?_
    refine f_lit (vs := [(0, _)]) (l := [_, _, _, _, _]) hE hI rfl rfl rfl rfl Tryd.underlying121 zs_83 rfl rfl rfl ?_
    clear hI hE a w; intro a b16 w hE hI
    refine ⟨fun _ => (hI.dropS [0]), ?_⟩
    refine d_one 7 hE rfl (by kernel_rfl) rfl (listed' := #[true, true, true, true, true, true, true, true, false, false, false]) rfl ?_
    replace hI := hI.nilseg
    refine o_appendOR (R := PgR) (el := x) 0 1 hE hI rfl rfl rfl rfl rfl Tryd.underlying121 zsb_83 rfl rfl rfl (OR.nil 5 PgR D3 83) rfl rfl (⟨_, rfl, he6, ho7⟩) (by simp [Value.oneCell']) (by simp) (by simp) ?_
    clear hI hE a w; intro v17 s18 w hO19 hI a hE
    obtain ⟨A20, c21, rfl, _⟩ := hO19.slice
    replace hI := hI.erase 1
    try simp only [splice, insAt, List.set_cons_succ, List.set_cons_zero, List.setIfInBounds_toArray, Value.cells, List.eraseIdx_cons_succ, List.eraseIdx_cons_zero, List.eraseIdx_zero, List.tail_cons] at hI
    refine ⟨fun _ => (hI.dropS [0]), ?_⟩
    refine d_pure 8 hE rfl (by kernel_rfl) (by kernel_rfl) (by kernel_rfl) rfl (fun _ _ _ h => h) rfl rfl rfl (p_nilCheck rfl) (fun _ => (hI.dropS [0])) (listed' := #[true, true, true, true, true, true, true, true, true, false, false]) rfl ?_; clear hE a; intro a hE
    refine d_pure 9 hE rfl (by kernel_rfl) (by kernel_rfl) (by kernel_rfl) rfl (fun _ _ _ h => h) rfl rfl rfl (p_fieldAddr (m := 2) rfl fo_141_2 rfl) (fun _ => (hI.dropS [0])) (listed' := #[true, true, true, true, true, true, true, true, true, true, false]) rfl ?_; clear hE a; intro a hE
    refine d_one 10 hE rfl (by kernel_rfl) rfl (listed' := #[true, true, true, true, true, true, true, true, true, true, true]) rfl ?_
    refine f_store (l := [_, _, _, _]) (ss' := _ :: _ :: _ :: _) 2 hE hI rfl rfl rfl rfl rfl sz_121 (by simp [Value.cells, Value.oneCell', pgCells, rcCells, zPg]) rfl rfl rfl ?_
    clear hI w; intro w hI
    refine ⟨(fun h => Bool.noConfusion (show false = true from h)), ?_⟩
    refine d_done (by kernel_rfl) ?_
    refine then_normal ?_
    refine wp_seq ?_
    refine d_start [10] [] (by kernel_rfl) hI rfl rfl ?_   -- region 22 draws its order
    clear hI w; intro w hI
    refine d_pure 0 hE rfl (by kernel_rfl) (by kernel_rfl) (by kernel_rfl) rfl (fun _ _ _ h => h) rfl rfl rfl (p_move rfl) (fun _ => hI) (listed' := #[true, false, false, false, false, false, false, false, false, false, false]) rfl ?_; clear hE a; intro a hE
    refine d_pure 1 hE rfl (by kernel_rfl) (by kernel_rfl) (by kernel_rfl) rfl (fun _ _ _ h => h) rfl rfl rfl (p_nilCheck rfl) (fun _ => hI) (listed' := #[true, true, false, false, false, false, false, false, false, false, false]) rfl ?_; clear hE a; intro a hE
    refine d_pure 2 hE rfl (by kernel_rfl) (by kernel_rfl) (by kernel_rfl) rfl (fun _ _ _ h => h) rfl rfl rfl (p_fieldAddr (m := 3) rfl fo_141_3 rfl) (fun _ => hI) (listed' := #[true, true, true, false, false, false, false, false, false, false, false]) rfl ?_; clear hE a; intro a hE
    refine d_load 3 hE rfl (by kernel_rfl) (by kernel_rfl) (by kernel_rfl) (by kernel_rfl) (by kernel_rfl) rfl rfl (fun _ _ _ h => h) rfl rfl rfl (fun w hS => f_load rfl scal_3 (Inv.seg 2 hS rfl) rfl) (hI) (listed' := #[true, true, true, true, false, false, false, false, false, false, false]) rfl ?_; clear hE a; intro a hE
    refine d_pure 4 hE rfl (by kernel_rfl) (by kernel_rfl) (by kernel_rfl) rfl (fun _ _ _ h => h) rfl rfl rfl (p_fieldAddr (m := 4) rfl fo_83_4 rfl) (fun _ => hI) (listed' := #[true, true, true, true, true, false, false, false, false, false, false]) rfl ?_; clear hE a; intro a hE
    refine d_load 5 hE rfl (by kernel_rfl) (by kernel_rfl) (by kernel_rfl) (by kernel_rfl) (by kernel_rfl) rfl rfl (fun _ _ _ h => h) rfl rfl rfl (fun w hS => f_load rfl scal_65 (Inv.seg 1 hS rfl) rfl) (hI) (listed' := #[true, true, true, true, true, true, false, false, false, false, false]) rfl ?_; clear hE a; intro a hE
    refine d_pure 6 hE rfl (by kernel_rfl) (by kernel_rfl) (by kernel_rfl) rfl (fun _ _ _ h => h) rfl rfl rfl (p_len rfl rfl Tryd.underlying65) (fun _ => hI) (listed' := #[true, true, true, true, true, true, true, false, false, false, false]) rfl ?_; clear hE a; intro a hE
    refine d_pure 7 hE rfl (by kernel_rfl) (by kernel_rfl) (by kernel_rfl) rfl (fun _ _ _ h => h) rfl rfl rfl (p_arith (z := 0) rfl rfl (add_z (by omega) (by omega) (by omega))) (fun _ => hI) (listed' := #[true, true, true, true, true, true, true, true, false, false, false]) rfl ?_; clear hE a; intro a hE
    refine d_pure 8 hE rfl (by kernel_rfl) (by kernel_rfl) (by kernel_rfl) rfl (fun _ _ _ h => h) rfl rfl rfl (p_nilCheck rfl) (fun _ => hI) (listed' := #[true, true, true, true, true, true, true, true, true, false, false]) rfl ?_; clear hE a; intro a hE
    refine d_pure 9 hE rfl (by kernel_rfl) (by kernel_rfl) (by kernel_rfl) rfl (fun _ _ _ h => h) rfl rfl rfl (p_fieldAddr (m := 3) rfl fo_141_3 rfl) (fun _ => hI) (listed' := #[true, true, true, true, true, true, true, true, true, true, false]) rfl ?_; clear hE a; intro a hE
    refine d_one 10 hE rfl (by kernel_rfl) rfl (listed' := #[true, true, true, true, true, true, true, true, true, true, true]) rfl ?_
    refine f_store (l := [_, _, _, _]) (ss' := _ :: _ :: _ :: _) 2 hE hI rfl rfl rfl rfl rfl sz_3 (by simp [Value.cells, Value.oneCell', pgCells, rcCells, zPg]) rfl rfl rfl ?_
    clear hI w; intro w hI
    refine ⟨(fun h => Bool.noConfusion (show false = true from h)), ?_⟩
    refine d_done (by kernel_rfl) ?_
    refine then_normal ?_
    refine wp_seq ?_
    refine wp_region_list ?_   -- region 23
    refine l_step rfl (o_pure hE rfl rfl (p_assign rfl).run ?_); clear hE a; intro a hE
    refine wpList_nil ?_
    refine then_normal ?_
    refine wp_ret ?_
    refine then_ret ?_
    refine ret1 rfl hE rfl ?_
    replace hI := hI.erase 1
    replace hI := hI.bring 3
    replace hI := hI.bring 1
    replace hI := hI.bring 3
    replace hI := hI.bring 3
    exact ⟨rfl, _, _, _, _, _, hD5, hm_1, hO19, hT8, hI⟩
  · skip
    exfalso
    rw [hpg] at hbad; cases hbad
theorem rest0_spec {w0 w : World} {D : Sto} {ss : List Seg} {s : Seg} {vb vp vl : Value} {b : Bt} {P : Pl} {bc bs : Nat} {kk : Int} {es : Array MapEntry} {clk : Nat} {m : List (Int × Value)} {y : Pg} {v : Bs} (hI : Inv w0 D ([(bc, .cells #[vb, .map (some bs), vl, .int .i64 kk] 141 (0, 0))] :: [(bs, .map es clk)] :: s :: ss) w) {ad : Nat → Addr} (hS : Sents D ad) (hT : TreeS D vb vp b P s) (hm : IntMap es clk m) (hml : m.length = 2) (hmk : ∀ p ∈ m, p.1 < 2) (hpg : b.page 1 = .ok y) (hye : y.ents = [([110], v)]) (hps : b.pages = .ok (2, 0)) :
    Calls Tryd.prog 90 #[.pointer (some ⟨bc, 0, none⟩)] w (Ret fun r w' => r = .nilIface ∧ ∃ D', Le D D' ∧ TreeS D' vb vp b P s ∧ Inv w0 D' ([(bc, .cells #[vb, .map (some bs), vl, .int .i64 kk] 141 (0, 0))] :: [(bs, .map es clk)] :: s :: ss) w') := by
  obtain ⟨bb0, hvb⟩ := hT.ptr
  subst hvb
  refine enter (N := 115) Tryd.func90 rfl rfl rfl ?_
  intro a hE
  refine wp_seq ?_
  refine wp_region_list ?_   -- region 0
  refine l_step rfl (o_pure hE rfl rfl (p_assign rfl).run ?_); clear hE a; intro a hE
  refine wpList_nil ?_
  refine then_normal ?_
  refine wp_seq ?_
  refine wp_region_list ?_   -- region 1
  refine l_step rfl (o_pure hE rfl rfl (p_move rfl).run ?_); clear hE a; intro a hE
  refine l_step rfl (o_pure hE rfl rfl (p_nilCheck rfl).run ?_); clear hE a; intro a hE
  refine l_step rfl (o_pure hE rfl rfl (p_fieldAddr (m := 0) rfl fo_141_0 rfl).run ?_); clear hE a; intro a hE
  refine l_step rfl (o_pure hE rfl rfl (f_load rfl scal_55 (hI.seg 0 rfl) rfl) ?_); clear hE a; intro a hE
  refine l_step rfl (o_call hE rfl rfl rfl rfl ent_88 (page_spec (hI.bring 2) hS hT 1) ?_)
  clear hI hE a
  rintro r w h a hE; rcases h with ⟨x11, hx1, D2, e3, hD4, rfl, he5, ho6, hT7, hI⟩ | ⟨c8, o9, hbad, rfl, s10, hT7, hI⟩
  · skip
    replace hI := hI.put_back 2
    try simp only [splice, insAt, List.set_cons_succ, List.set_cons_zero, List.setIfInBounds_toArray, Value.cells, List.eraseIdx_cons_succ, List.eraseIdx_cons_zero, List.eraseIdx_zero, List.tail_cons] at hI
    rw [hpg] at hx1
    injection hx1 with hx1
    subst hx1
    have hlen_y := ho6.len
    obtain ⟨A12, c13, rfl, _⟩ := he5.slice
    refine l_step rfl (o_pure hE rfl rfl (p_move rfl).run ?_); clear hE a; intro a hE
    refine l_step rfl (o_pure hE rfl rfl (f_extract rfl rfl).run ?_); clear hE a; intro a hE
    refine l_step rfl (o_pure hE rfl rfl (f_extract rfl rfl).run ?_); clear hE a; intro a hE
    refine l_step rfl (f_alloc (cs := #[.int .i64 0, .int .i64 0, .int .i64 0, .int .i64 0, .slice none 0 0]) hE hI rfl rfl rfl zer_83 rfl ?_)
    clear hI hE a w; intro a b14 w hE hI
    refine l_step rfl (f_store (l := [_, _, _, _, _]) (ss' := _ :: _) 0 hE hI rfl rfl rfl rfl rfl sz_83 (by simp [Value.cells, Value.oneCell', pgCells, rcCells, zPg]) rfl rfl rfl ?_)
    clear hI w; intro w hI
    refine l_step rfl (o_pure hE rfl rfl (p_assign rfl).run ?_); clear hE a; intro a hE
    refine wpList_nil ?_
    refine then_normal ?_
    refine wp_seq ?_
    refine wp_seq ?_
    refine wp_region_list ?_   -- region 2
    refine l_step rfl (o_pure hE rfl rfl (p_move rfl).run ?_); clear hE a; intro a hE
    refine l_step rfl (o_pure hE rfl rfl (p_ifaceNil Tryd.underlying25 rfl rfl rfl).run ?_); clear hE a; intro a hE
    refine wpList_nil ?_
    refine then_normal ?_
    refine c_false hE rfl ?_
    refine wp_skip ?_
    refine then_normal ?_
    refine wp_seq ?_
    refine wp_region_list ?_   -- region 4
    refine l_step rfl (o_pure hE rfl rfl (p_move rfl).run ?_); clear hE a; intro a hE
    refine l_step rfl (o_pure hE rfl rfl (p_nilCheck rfl).run ?_); clear hE a; intro a hE
    refine l_step rfl (o_pure hE rfl rfl (p_fieldAddr (m := 0) rfl fo_141_0 rfl).run ?_); clear hE a; intro a hE
    refine l_step rfl (o_pure hE rfl rfl (f_load rfl scal_55 (hI.seg 1 rfl) rfl) ?_); clear hE a; intro a hE
    refine l_step rfl (o_call hE rfl rfl rfl rfl ent_119 (pages_spec (hI.bring 3) (hS.mono hD4) hT7) ?_)
    clear hI hE a
    rintro r w h a hE; rcases h with ⟨u15, f16, hx17, rfl, h27, h28, h29, h30, D18, hD19, hT20, hI⟩ | ⟨c21, o22, hbad, rfl, D23, s24, hD25, hT26, hI⟩
    · skip
      replace hI := hI.put_back 3
      try simp only [splice, insAt, List.set_cons_succ, List.set_cons_zero, List.setIfInBounds_toArray, Value.cells, List.eraseIdx_cons_succ, List.eraseIdx_cons_zero, List.eraseIdx_zero, List.tail_cons] at hI
      rw [hps] at hx17
      injection hx17 with hx17
      injection hx17 with hu1 hu2
      subst hu1
      subst hu2
      refine l_step rfl (o_pure hE rfl rfl (p_move rfl).run ?_); clear hE a; intro a hE
      refine l_step rfl (o_pure hE rfl rfl (f_extract rfl rfl).run ?_); clear hE a; intro a hE
      refine l_step rfl (o_pure hE rfl rfl (f_extract rfl rfl).run ?_); clear hE a; intro a hE
      refine l_step rfl (o_pure hE rfl rfl (f_extract rfl rfl).run ?_); clear hE a; intro a hE
      refine l_step rfl (o_pure hE rfl rfl (p_assign rfl).run ?_); clear hE a; intro a hE
      refine l_step rfl (o_pure hE rfl rfl (p_assign rfl).run ?_); clear hE a; intro a hE
      refine l_step rfl (o_pure hE rfl rfl (p_assign rfl).run ?_); clear hE a; intro a hE
      refine wpList_nil ?_
      refine then_normal ?_
      refine wp_seq ?_
      refine wp_seq ?_
      refine wp_region_list ?_   -- region 5
      refine l_step rfl (o_pure hE rfl rfl (p_move rfl).run ?_); clear hE a; intro a hE
      refine l_step rfl (o_pure hE rfl rfl (p_ifaceNil Tryd.underlying25 rfl rfl rfl).run ?_); clear hE a; intro a hE
      refine wpList_nil ?_
      refine then_normal ?_
      refine c_false hE rfl ?_
      refine wp_skip ?_
      refine then_normal ?_
      refine wp_seq ?_
      refine wp_seq ?_
      have hye1 : y.ents.length = 1 := by rw [hye]; rfl
      refine d_start [] [] (by kernel_rfl) hI rfl rfl ?_   -- region 7 draws its order
      clear hI w; intro w hI
      refine d_pure 0 hE rfl (by kernel_rfl) (by kernel_rfl) (by kernel_rfl) rfl (fun _ _ _ h => h) rfl rfl rfl (p_fieldAddr (m := 4) rfl fo_83_4 rfl) (fun _ => hI) (listed' := #[true, false, false, false, false, false, false, false, false, false, false, false, false, false, false, false]) rfl ?_; clear hE a; intro a hE
      refine d_load 1 hE rfl (by kernel_rfl) (by kernel_rfl) (by kernel_rfl) (by kernel_rfl) (by kernel_rfl) rfl rfl (fun _ _ _ h => h) rfl rfl rfl (fun w hS => f_load rfl scal_65 (Inv.seg 0 hS rfl) rfl) (hI) (listed' := #[true, true, false, false, false, false, false, false, false, false, false, false, false, false, false, false]) rfl ?_; clear hE a; intro a hE
      obtain ⟨x_31, hx_31⟩ : ∃ z9, (y.ents)[0]? = some z9 := ⟨_, List.getElem?_eq_getElem (by omega)⟩
      obtain ⟨b_31, o_31, cs_31, T_31, fr_31, rfl, hb_31, hat_31⟩ := he5.at_ (by intro h0; rw [h0] at hx_31; simp at hx_31)
      obtain ⟨vs_31, hl_31, ⟨k_31, v_31, rfl, hk_31, hv_31, hok_31⟩, hex_31, hsz_31, hce_31⟩ := hat_31.extract hx_31 (by omega)
      obtain ⟨A32, c33, rfl, _⟩ := hk_31.slice
      obtain ⟨A34, c35, rfl, _⟩ := hv_31.slice
      refine d_pure 2 hE rfl (by kernel_rfl) (by kernel_rfl) (by kernel_rfl) rfl (fun _ _ _ h => h) rfl rfl rfl (p_indexAddr (m := o_31 + 0 * 2) rfl rfl Tryd.underlying65 sz_69 (by omega) (by omega) (by simp)) (fun _ => hI) (listed' := #[true, true, true, false, false, false, false, false, false, false, false, false, false, false, false, false]) rfl ?_; clear hE a; intro a hE
      refine d_pure 3 hE rfl (by kernel_rfl) (by kernel_rfl) (by kernel_rfl) rfl (fun _ _ _ h => h) rfl rfl rfl (p_fieldAddr rfl fo_69_0 rfl) (fun _ => hI) (listed' := #[true, true, true, true, false, false, false, false, false, false, false, false, false, false, false, false]) rfl ?_; clear hE a; intro a hE
      refine d_load 4 hE rfl (by kernel_rfl) (by kernel_rfl) (by kernel_rfl) (by kernel_rfl) (by kernel_rfl) rfl rfl (fun _ _ _ h => h) rfl rfl rfl (fun w hS => r_load rfl scal_22 (Inv.data hS _ _ (hD19 _ _ (hb_31))) (hce_31 0 _ rfl)) (hI) (listed' := #[true, true, true, true, true, false, false, false, false, false, false, false, false, false, false, false]) rfl ?_; clear hE a; intro a hE
      refine d_one 5 hE rfl (by kernel_rfl) rfl (listed' := #[true, true, true, true, true, true, false, false, false, false, false, false, false, false, false, false]) rfl ?_
      refine o_call hE rfl rfl rfl rfl ent_95 (name_spec hI) ?_
      clear hI hE a
      rintro r w ⟨D36, hD37, hI, hb38⟩ a hE
      obtain ⟨A39, c40, rfl, _⟩ := hb38.slice
      refine ⟨fun _ => (Inv.weaken hI hD37), ?_⟩
      refine d_one 6 hE rfl (by kernel_rfl) rfl (listed' := #[true, true, true, true, true, true, true, false, false, false, false, false, false, false, false, false]) rfl ?_
      have he1 : x_31.1 = [110] := by rw [hye] at hx_31; simp at hx_31; rw [← hx_31]
      refine o_call hE rfl rfl rfl rfl ent_117 (Equal_same (ka := [110]) hI (he1 ▸ (hk_31.mono (hD19.trans hD37))) hb38) ?_
      clear hI hE a
      rintro r w ⟨rfl, hI⟩ a hE
      refine ⟨fun _ => (Inv.weaken hI hD37), ?_⟩
      refine d_pure 7 hE rfl (by kernel_rfl) (by kernel_rfl) (by kernel_rfl) rfl (fun _ _ _ h => h) rfl rfl rfl (p_not rfl) (fun _ => (Inv.weaken hI hD37)) (listed' := #[true, true, true, true, true, true, true, true, false, false, false, false, false, false, false, false]) rfl ?_; clear hE a; intro a hE
      refine d_pure 8 hE rfl (by kernel_rfl) (by kernel_rfl) (by kernel_rfl) rfl (fun _ _ _ h => h) rfl rfl rfl (p_move rfl) (fun _ => (Inv.weaken hI hD37)) (listed' := #[true, true, true, true, true, true, true, true, true, false, false, false, false, false, false, false]) rfl ?_; clear hE a; intro a hE
      refine d_pure 9 hE rfl (by kernel_rfl) (by kernel_rfl) (by kernel_rfl) rfl (fun _ _ _ h => h) rfl rfl rfl (p_move rfl) (fun _ => (Inv.weaken hI hD37)) (listed' := #[true, true, true, true, true, true, true, true, true, true, false, false, false, false, false, false]) rfl ?_; clear hE a; intro a hE
      refine d_pure 10 hE rfl (by kernel_rfl) (by kernel_rfl) (by kernel_rfl) rfl (fun _ _ _ h => h) rfl rfl rfl (p_cmp rfl rfl (lss_n (by omega))) (fun _ => (Inv.weaken hI hD37)) (listed' := #[true, true, true, true, true, true, true, true, true, true, true, false, false, false, false, false]) rfl ?_; clear hE a; intro a hE
      refine d_pure 11 hE rfl (by kernel_rfl) (by kernel_rfl) (by kernel_rfl) rfl (fun _ _ _ h => h) rfl rfl rfl (p_pick (b := false) rfl rfl) (fun _ => (Inv.weaken hI hD37)) (listed' := #[true, true, true, true, true, true, true, true, true, true, true, true, false, false, false, false]) rfl ?_; clear hE a; intro a hE
      refine d_pure 12 hE rfl (by kernel_rfl) (by kernel_rfl) (by kernel_rfl) rfl (fun _ _ _ h => h) rfl rfl rfl (p_move rfl) (fun _ => (Inv.weaken hI hD37)) (listed' := #[true, true, true, true, true, true, true, true, true, true, true, true, true, false, false, false]) rfl ?_; clear hE a; intro a hE
      refine d_pure 13 hE rfl (by kernel_rfl) (by kernel_rfl) (by kernel_rfl) rfl (fun _ _ _ h => h) rfl rfl rfl (p_move rfl) (fun _ => (Inv.weaken hI hD37)) (listed' := #[true, true, true, true, true, true, true, true, true, true, true, true, true, true, false, false]) rfl ?_; clear hE a; intro a hE
      refine d_pure 14 hE rfl (by kernel_rfl) (by kernel_rfl) (by kernel_rfl) rfl (fun _ _ _ h => h) rfl rfl rfl (p_cmp rfl rfl (gtr_n (by omega))) (fun _ => (Inv.weaken hI hD37)) (listed' := #[true, true, true, true, true, true, true, true, true, true, true, true, true, true, true, false]) rfl ?_; clear hE a; intro a hE
      refine d_pure 15 hE rfl (by kernel_rfl) (by kernel_rfl) (by kernel_rfl) rfl (fun _ _ _ h => h) rfl rfl rfl (p_pick (b := false) rfl rfl) (fun _ => (Inv.weaken hI hD37)) (listed' := #[true, true, true, true, true, true, true, true, true, true, true, true, true, true, true, true]) rfl ?_; clear hE a; intro a hE
      refine d_done (by kernel_rfl) ?_
      refine then_normal ?_
      refine c_false hE rfl ?_
      refine wp_skip ?_
      refine then_normal ?_
      refine wp_seq ?_
      refine wp_block ?_
      refine c_once ?_
      refine wp_seq ?_
      refine wp_seq ?_
      refine wp_region_list ?_   -- region 9
      refine l_step rfl (o_pure hE rfl rfl (p_move rfl).run ?_); clear hE a; intro a hE
      refine l_step rfl (o_pure hE rfl rfl (p_cmp rfl rfl (gtr_n (by omega))).run ?_); clear hE a; intro a hE
      refine wpList_nil ?_
      refine then_normal ?_
      refine c_false hE rfl ?_
      refine wp_exit ?_
      refine then_exit ?_
      refine then_exit ?_
      refine blk_same ?_
      refine then_normal ?_
      refine wp_seq ?_
      refine wp_seq ?_
      refine wp_region_list ?_   -- region 19
      refine l_step rfl (o_pure hE rfl rfl (p_move rfl).run ?_); clear hE a; intro a hE
      refine l_step rfl (o_pure hE rfl rfl (p_nilCheck rfl).run ?_); clear hE a; intro a hE
      refine l_step rfl (o_pure hE rfl rfl (p_fieldAddr (m := 1) rfl fo_141_1 rfl).run ?_); clear hE a; intro a hE
      refine l_step rfl (o_pure hE rfl rfl (f_load rfl scal_139 (hI.seg 1 rfl) rfl) ?_); clear hE a; intro a hE
      refine l_step rfl (o_pure hE rfl rfl (r_lenM rfl rfl Tryd.underlying139 (hI.seg 2 rfl) hm) ?_); clear hE a; intro a hE
      refine l_step rfl (o_pure hE rfl rfl (p_move rfl).run ?_); clear hE a; intro a hE
      refine l_step rfl (o_pure hE rfl rfl (p_cmp rfl rfl (neq_n (by omega))).run ?_); clear hE a; intro a hE
      refine wpList_nil ?_
      refine then_normal ?_
      refine c_false hE rfl ?_
      refine wp_skip ?_
      refine then_normal ?_
      refine wp_seq ?_
      refine wp_seq ?_
      refine wp_region_list ?_   -- region 21
      refine l_step rfl (o_pure hE rfl rfl (p_move rfl).run ?_); clear hE a; intro a hE
      refine l_step rfl (o_pure hE rfl rfl (p_nilCheck rfl).run ?_); clear hE a; intro a hE
      refine l_step rfl (o_pure hE rfl rfl (p_fieldAddr (m := 1) rfl fo_141_1 rfl).run ?_); clear hE a; intro a hE
      refine l_step rfl (o_pure hE rfl rfl (f_load rfl scal_139 (hI.seg 1 rfl) rfl) ?_); clear hE a; intro a hE
      refine l_step rfl (f_range 2 hE hI rfl rfl rfl rfl Tryd.underlying139 rfl ?_)
      clear hI hE a w; intro a r41 w hE hI
      refine wpList_nil ?_
      refine then_normal ?_
      refine wp_block ?_
      replace hI := hI.erase 1
      replace hI := hI.bring 3
      replace hI := hI.bring 3
      replace hI := hI.bring 3
      replace hI := hI.bring 3
      replace hI : Inv w0 D36 ([(r41, .mapIter (some bs) clk #[] clk)] :: [(bc, .cells #[.pointer (some ⟨bb0, 0, none⟩), .map (some bs), vl, .int .i64 kk] 141 (0, 0))] :: [(bs, .map es clk)] :: s :: ss) w := hI
      refine c_loop (X := Array Nat × List (Int × Value)) (fun x => [(5, _), (106, _)]) (fun x w => Vis es x.1 m x.2 ∧ Inv w0 D36 ([(r41, .mapIter (some bs) clk x.1 clk)] :: [(bc, .cells #[.pointer (some ⟨bb0, 0, none⟩), .map (some bs), vl, .int .i64 kk] 141 (0, 0))] :: [(bs, .map es clk)] :: s :: ss) w) (fun x => m.length - x.2.length) (#[], []) (hE.pick [5, 106]) ⟨Vis.start _ _, hI⟩ ?_
      clear hE hI a w
      rintro ⟨seen, vis⟩ a w hE ⟨hv, hI⟩
      try dsimp only at hE
      try dsimp only at hv
      try dsimp only at hI
      refine wp_seq ?_
      refine wp_region_list ?_   -- region 22
      refine l_step rfl (o_next 2 0 hE hI rfl rfl rfl rfl rfl rfl hm hv ?_ ?_)
      · clear hE a; intro hall a hE
        refine l_step rfl (o_pure hE rfl rfl (f_extract rfl rfl).run ?_); clear hE a; intro a hE
        refine wpList_nil ?_
        refine then_normal ?_
        refine wp_seq ?_
        refine c_false hE rfl ?_
        refine wp_exit ?_
        refine then_exit ?_
        refine then_exit ?_
        refine blk_same ?_
        refine then_normal ?_
        refine wp_seq ?_
        refine wp_region_list ?_   -- region 26
        refine l_step rfl (o_pure hE rfl rfl (p_assign rfl).run ?_); clear hE a; intro a hE
        refine wpList_nil ?_
        refine then_normal ?_
        refine wp_ret ?_
        refine ret1 rfl hE rfl ?_
        replace hI := hI.erase 0
        replace hI := hI.bring 2
        replace hI := hI.bring 2
        replace hI := hI.bring 2
        exact ⟨rfl, _, ((hD4.trans hD19).trans hD37), (hT20.mono hD37), hI⟩
      · clear hE hI a w; rintro ⟨pk, pv⟩ hpm hpn seen2 w hv2 hlast hI a hE
        refine l_step rfl (o_pure hE rfl rfl (f_extract rfl rfl).run ?_); clear hE a; intro a hE
        refine wpList_nil ?_
        refine then_normal ?_
        refine wp_seq ?_
        refine c_true hE rfl ?_
        refine wp_skip ?_
        refine then_normal ?_
        refine wp_block ?_
        refine wp_seq ?_
        refine wp_region_list ?_   -- region 23
        refine l_step rfl (o_pure hE rfl rfl (r_entry rfl (hI.seg 2 rfl) (hI.seg 0 rfl) hm hlast) ?_); clear hE a; intro a hE
        refine l_step rfl (o_pure hE rfl rfl (f_extract rfl rfl).run ?_); clear hE a; intro a hE
        refine l_step rfl (o_pure hE rfl rfl (p_assign rfl).run ?_); clear hE a; intro a hE
        refine wpList_nil ?_
        refine then_normal ?_
        refine wp_seq ?_
        refine wp_region_list ?_   -- region 24
        refine l_step rfl (o_pure hE rfl rfl (p_move rfl).run ?_); clear hE a; intro a hE
        refine l_step rfl (o_pure hE rfl rfl (p_move rfl).run ?_); clear hE a; intro a hE
        refine l_step rfl (o_pure hE rfl rfl (p_cmp rfl rfl (geq_n (by have h9 : pk < 2 := hmk _ hpm; omega))).run ?_); clear hE a; intro a hE
        refine wpList_nil ?_
        refine then_normal ?_
        refine c_false hE rfl ?_
        refine wp_skip ?_
        refine blk_normal ?_
        refine then_normal ?_
        replace hI := hI.bring 3
        replace hI := hI.bring 3
        replace hI := hI.bring 3
        replace hI := hI.bring 3
        exact ⟨(seen2, (pk, pv) :: vis), hE.pick [5, 106], ⟨hv2, hI⟩, by have := hv2.len; simp only [List.length_cons] at this; show m.length - (vis.length + 1) < m.length - vis.length; omega⟩
    · skip
      exfalso
      rw [hps] at hbad; cases hbad
  · skip
    exfalso
    rw [hpg] at hbad; cases hbad
theorem Inv.merge {w0 w : World} {D : Sto} {ss : List Seg} {s1 s2 : Seg} (h : Inv w0 D (s1 :: s2 :: ss) w) : Inv w0 D ((s1 ++ s2) :: ss) w := h.perm (List.Perm.of_eq (by simp))
theorem Inv.right {w0 w : World} {D : Sto} {ss : List Seg} {s1 s2 : Seg} (h : Inv w0 D ((s1 ++ s2) :: ss) w) : Inv w0 D (s2 :: ss) w :=
  (h.perm (ss' := s1 :: s2 :: ss) (List.Perm.of_eq (by simp))).drop
theorem TreeS.join {D : Sto} {vb vp : Value} {b : Bt} {P : Pl} {sb sp : Seg} (h : BatchS D vb vp b sb) (k : PoolS D vp P sp) (hp : b.pool = P.f) : TreeS D vb vp b P (sb ++ sp) := ⟨sb, sp, rfl, h, k, hp⟩
theorem putM_two {v u : Value} : (putM (putM [] 1 v) 0 u).length = 2 ∧ ∀ p ∈ putM (putM [] 1 v) 0 u, p.1 < 2 := by
  have h : putM (putM [] 1 v) 0 u = [(1, v), (0, u)] := by simp [putM]
  rw [h]
  refine ⟨rfl, ?_⟩
  intro p hp
  simp only [List.mem_cons, List.not_mem_nil, or_false] at hp
  rcases hp with rfl | rfl
  · show (1 : Int) < 2; omega
  · show (0 : Int) < 2; omega
theorem BatchS.ptr {D : Sto} {vb vp : Value} {b : Bt} {s : Seg} (h : BatchS D vb vp b s) : ∃ bb, vb = .pointer (some ⟨bb, 0, none⟩) := by
  obtain ⟨bb, bo, es, clk, m, vr, sr, h1, _⟩ := h; exact ⟨bb, h1⟩
theorem Check0_spec {w0 w : World} {D : Sto} {ss : List Seg} {s : Seg} {vp : Value} {P : Pl} {px y : Pg} (hI : Inv w0 D (s :: ss) w) (hP : PoolS D vp P s) {ad : Nat → Addr} (hS : Sents D ad) (hp0 : P.f 0 = some px) (hx0 : px.level = 0) (hxe : px.ents = []) (hxn : px.next = -1) (hp1 : P.f 1 = some y) (hye : y.ents = [([110], [0, 2, 0, 0])]) :
    Calls Tryd.prog 45 #[vp] w (Ret fun r w' => r = .tuple #[.int .i64 0, .nilIface] ∧ ∃ D' s', Le D D' ∧ PoolS D' vp P s' ∧ Inv w0 D' (s' :: ss) w') := by
  obtain ⟨bp, hbp⟩ := hP.ptr
  subst hbp
  have hpg0 : (newBt P).page 0 = .ok px := by simp only [Bt.page, newBt, hp0]; simp
  have hpg1 : (newBt P).page 1 = .ok y := by simp only [Bt.page, newBt, hp1]; simp
  have hps : (newBt P).pages = .ok (2, 0) := by rw [Bt.pages, hpg1]; simp only [hye]; rfl
  refine enter (N := 78) Tryd.func45 rfl rfl rfl ?_
  intro a hE
  refine wp_seq ?_
  refine wp_region_list ?_   -- region 0
  refine l_step rfl (o_pure hE rfl rfl (p_assign rfl).run ?_); clear hE a; intro a hE
  refine l_step rfl (o_pure hE rfl rfl (p_assign rfl).run ?_); clear hE a; intro a hE
  refine wpList_nil ?_
  refine then_normal ?_
  refine wp_seq ?_
  refine wp_region_list ?_   -- region 1
  refine l_step rfl (o_pure hE rfl rfl (p_move rfl).run ?_); clear hE a; intro a hE
  refine l_step rfl (o_call hE rfl rfl rfl rfl ent_33 (New_spec hI P (some ⟨bp, 0, none⟩)) ?_)
  clear hI hE a
  rintro r w ⟨sb1, hB2, hI⟩ a hE
  obtain ⟨bb0, hvb⟩ := BatchS.ptr hB2
  subst hvb
  refine l_step rfl (f_makeMap hE hI rfl rfl rfl ?_)
  clear hI hE a w; intro a b3 w hE hI
  refine l_step rfl (o_mapUpdate 0 hE hI rfl (.inr rfl) rfl rfl rfl ik_139 rfl IntMap.empty ?_)
  clear hI w; intro es_4 clk_4 w hm_4 hI
  refine l_step rfl (o_pure hE rfl rfl (p_move rfl).run ?_); clear hE a; intro a hE
  refine l_step rfl (o_pure hE rfl rfl (f_build (vs := [(0, _), (1, _)]) (l := [_, _, _, _]) rfl built_141 rfl).run ?_); clear hE a; intro a hE
  refine l_step rfl (f_box (cs := #[_, _, _, _]) hE hI rfl rfl rfl rfl rfl ?_)
  clear hI hE a w; intro a b5 w hE hI
  refine l_step rfl (o_pure hE rfl rfl (p_assign rfl).run ?_); clear hE a; intro a hE
  refine wpList_nil ?_
  refine then_normal ?_
  refine wp_seq ?_
  replace hI := hI.bring 1
  replace hI := hI.bring 1
  replace hI := hI.bring 3
  replace hI := hI.bring 3
  replace hI := hI.merge
  have hT := TreeS.join hB2 hP rfl
  refine wp_region_list ?_   -- region 2
  refine l_step rfl (o_pure hE rfl rfl (p_move rfl).run ?_); clear hE a; intro a hE
  refine l_step rfl (o_pure hE rfl rfl (p_nilCheck rfl).run ?_); clear hE a; intro a hE
  refine l_step rfl (o_pure hE rfl rfl (p_fieldAddr (m := 0) rfl fo_141_0 rfl).run ?_); clear hE a; intro a hE
  refine l_step rfl (o_pure hE rfl rfl (f_load rfl scal_55 (hI.seg 1 rfl) rfl) ?_); clear hE a; intro a hE
  refine l_step rfl (o_call hE rfl rfl rfl rfl ent_88 (page_spec hI hS hT 0) ?_)
  clear hI hE a
  rintro r w h a hE; rcases h with ⟨x16, hx6, D7, e8, hD9, rfl, he10, ho11, hT12, hI⟩ | ⟨c13, o14, hbad, rfl, s15, hT12, hI⟩
  · skip
    rw [hpg0] at hx6
    injection hx6 with hx6
    subst hx6
    have hlen_px := ho11.len
    obtain ⟨A17, c18, rfl, _⟩ := he10.slice
    refine l_step rfl (o_pure hE rfl rfl (p_move rfl).run ?_); clear hE a; intro a hE
    refine l_step rfl (o_pure hE rfl rfl (f_extract rfl rfl).run ?_); clear hE a; intro a hE
    refine l_step rfl (o_pure hE rfl rfl (f_extract rfl rfl).run ?_); clear hE a; intro a hE
    refine l_step rfl (f_alloc (cs := #[.int .i64 0, .int .i64 0, .int .i64 0, .int .i64 0, .slice none 0 0]) hE hI rfl rfl rfl zer_83 rfl ?_)
    clear hI hE a w; intro a b19 w hE hI
    refine l_step rfl (f_store (l := [_, _, _, _, _]) (ss' := _ :: _) 0 hE hI rfl rfl rfl rfl rfl sz_83 (by simp [Value.cells, Value.oneCell', pgCells, rcCells, zPg]) rfl rfl rfl ?_)
    clear hI w; intro w hI
    refine l_step rfl (o_pure hE rfl rfl (p_assign rfl).run ?_); clear hE a; intro a hE
    refine wpList_nil ?_
    refine then_normal ?_
    refine wp_seq ?_
    refine wp_seq ?_
    refine wp_region_list ?_   -- region 3
    refine l_step rfl (o_pure hE rfl rfl (p_move rfl).run ?_); clear hE a; intro a hE
    refine l_step rfl (o_pure hE rfl rfl (p_ifaceNil Tryd.underlying25 rfl rfl rfl).run ?_); clear hE a; intro a hE
    refine wpList_nil ?_
    refine then_normal ?_
    refine c_false hE rfl ?_
    refine wp_skip ?_
    refine then_normal ?_
    refine wp_seq ?_
    refine wp_seq ?_
    refine wp_region_list ?_   -- region 5
    refine l_step rfl (o_pure hE rfl rfl (p_move rfl).run ?_); clear hE a; intro a hE
    refine l_step rfl (o_pure hE rfl rfl (p_fieldAddr (m := 2) rfl fo_83_2 rfl).run ?_); clear hE a; intro a hE
    refine l_step rfl (o_pure hE rfl rfl (f_load rfl scal_3 (hI.seg 0 rfl) rfl) ?_); clear hE a; intro a hE
    replace hI := hI.bring 1
    replace hI := hI.bring 3
    replace hI := hI.bring 3
    rw [hx0] at hE
    refine l_step rfl (o_call hE rfl rfl rfl rfl ent_89 (walk0_spec hI (hS.mono hD9) hT12 hm_4 (by simp [putM, getM]) hpg0 hx0 hxe) ?_)
    clear hI hE a
    rintro r w ⟨rfl, D20, es21, clk22, vl23, sl24, hD25, hm26, hO27, hT28, hI⟩ a hE
    obtain ⟨A0, c0, rfl, _⟩ := hO27.slice
    rcases A0 with _ | A0
    · exfalso; have := hO27.none.1; simp at this
    obtain ⟨g0, cur0, rfl, _, rfl, _, _, _, hat0⟩ := hO27.some
    refine l_step rfl (o_pure hE rfl rfl (p_assign rfl).run ?_); clear hE a; intro a hE
    refine wpList_nil ?_
    refine then_normal ?_
    refine wp_seq ?_
    refine wp_region_list ?_   -- region 6
    refine l_step rfl (o_pure hE rfl rfl (p_move rfl).run ?_); clear hE a; intro a hE
    refine l_step rfl (o_pure hE rfl rfl (p_ifaceNil Tryd.underlying25 rfl rfl rfl).run ?_); clear hE a; intro a hE
    refine wpList_nil ?_
    refine then_normal ?_
    refine c_false hE rfl ?_
    refine wp_skip ?_
    refine then_normal ?_
    refine wp_seq ?_
    refine wp_seq ?_
    refine wp_region_list ?_   -- region 8
    refine l_step rfl (o_pure hE rfl rfl (p_move rfl).run ?_); clear hE a; intro a hE
    refine l_step rfl (o_pure hE rfl rfl (p_nilCheck rfl).run ?_); clear hE a; intro a hE
    refine l_step rfl (o_pure hE rfl rfl (p_fieldAddr (m := 2) rfl fo_141_2 rfl).run ?_); clear hE a; intro a hE
    refine l_step rfl (o_pure hE rfl rfl (f_load rfl scal_121 (hI.seg 0 rfl) rfl) ?_); clear hE a; intro a hE
    refine l_step rfl (o_pure hE rfl rfl (p_len rfl rfl Tryd.underlying121).run ?_); clear hE a; intro a hE
    refine l_step rfl (o_pure hE rfl rfl (p_move rfl).run ?_); clear hE a; intro a hE
    refine wpList_nil ?_
    refine then_normal ?_
    refine wp_block ?_
    replace hI := hI.erase 4
    replace hI := hI.bring 3
    replace hI := hI.bring 3
    replace hI := hI.bring 3
    replace hI := hI.bring 3
    replace hI : Inv w0 D20 ([(b5, .cells #[.pointer (some ⟨bb0, 0, none⟩), .map (some b3), .slice (some ⟨g0, 0, none⟩) ([px] : List Pg).length c0, .int .i64 0] 141 (0, 0))] :: [(b3, .map es21 clk22)] :: [(g0, .cells cur0 83 (0, 0))] :: (sb1 ++ s) :: ss) w := hI
    refine c_loop (X := Nat) (fun x => [(4, _), (39, _), (40, _), (41, .int .i64 (x : Nat))]) (fun x w => x ≤ 1 ∧ Inv w0 D20 ([(b5, .cells #[.pointer (some ⟨bb0, 0, none⟩), .map (some b3), .slice (some ⟨g0, 0, none⟩) ([px] : List Pg).length c0, .int .i64 0] 141 (0, 0))] :: [(b3, .map es21 clk22)] :: [(g0, .cells cur0 83 (0, 0))] :: (sb1 ++ s) :: ss) w) (fun x => 1 - x) 0 (hE.pick [4, 39, 40, 41]) ⟨Nat.zero_le _, hI⟩ ?_
    clear hE hI a w
    rintro i a w hE ⟨hi, hI⟩
    try dsimp only at hE
    try dsimp only at hi
    try dsimp only at hI
    refine wp_seq ?_
    refine wp_region_list ?_   -- region 9
    refine l_step rfl (o_cmp hE rfl rfl rfl rfl rfl rfl ?_ ?_)
    · intro hlt; replace hlt := lss_t hlt; clear hE a; intro a hE
      refine wpList_nil ?_
      refine then_normal ?_
      refine wp_seq ?_
      refine c_true hE rfl ?_
      refine wp_skip ?_
      refine then_normal ?_
      refine wp_seq ?_
      refine wp_block ?_
      refine wp_seq ?_
      refine wp_region_list ?_   -- region 10
      refine l_step rfl (o_pure hE rfl rfl (p_move rfl).run ?_); clear hE a; intro a hE
      obtain ⟨x_29, hx_29⟩ : ∃ z9, ([px])[i]? = some z9 := ⟨_, List.getElem?_eq_getElem (by omega)⟩
      obtain ⟨vs_29, hl_29, ⟨e_29, rfl, he_29, hok_29⟩, hex_29, hsz_29, hce_29⟩ := hat0.extract hx_29 (by omega)
      obtain ⟨A30, c31, rfl, _⟩ := he_29.slice
      refine l_step rfl (o_pure hE rfl rfl (p_indexAddr (m := 0 + i * 5) rfl rfl Tryd.underlying121 sz_83 (by omega) (by have : ([px] : List Pg).length = 1 := rfl; omega) (by simp)).run ?_); clear hE a; intro a hE
      refine l_step rfl (o_pure hE rfl rfl (r_loadA rfl agg_83 (hI.seg 2 rfl) hsz_29 hex_29) ?_); clear hE a; intro a hE
      refine l_step rfl (f_alloc (cs := #[.int .i64 0, .int .i64 0, .int .i64 0, .int .i64 0, .slice none 0 0]) hE hI rfl rfl rfl zer_83 rfl ?_)
      clear hI hE a w; intro a b32 w hE hI
      refine l_step rfl (o_pure hE rfl rfl (p_assign rfl).run ?_); clear hE a; intro a hE
      refine l_step rfl (f_store (l := [_, _, _, _, _]) (ss' := _ :: _) 0 hE hI rfl rfl rfl rfl rfl sz_83 (by simp [Value.cells, Value.oneCell', pgCells, rcCells, zPg]) rfl rfl rfl ?_)
      clear hI w; intro w hI
      refine wpList_nil ?_
      refine then_normal ?_
      refine wp_seq ?_
      obtain rfl : i = 0 := by have : ([px] : List Pg).length = 1 := rfl; omega
      have hxx : x_29 = px := by simpa using hx_29.symm
      refine wp_region_list ?_   -- region 11
      refine l_step rfl (o_pure hE rfl rfl (p_assign rfl).run ?_); clear hE a; intro a hE
      refine wpList_nil ?_
      refine then_normal ?_
      refine wp_seq ?_
      refine wp_seq ?_
      refine wp_region_list ?_   -- region 12
      refine l_step rfl (o_pure hE rfl rfl (p_move rfl).run ?_); clear hE a; intro a hE
      refine l_step rfl (o_pure hE rfl rfl (p_arith (z := (1 : Int)) rfl rfl (add_z (by omega) (by omega) (by omega))).run ?_); clear hE a; intro a hE
      refine l_step rfl (o_pure hE rfl rfl (p_move rfl).run ?_); clear hE a; intro a hE
      refine l_step rfl (o_pure hE rfl rfl (p_nilCheck rfl).run ?_); clear hE a; intro a hE
      refine l_step rfl (o_pure hE rfl rfl (p_fieldAddr (m := 2) rfl fo_141_2 rfl).run ?_); clear hE a; intro a hE
      refine l_step rfl (o_pure hE rfl rfl (f_load rfl scal_121 (hI.seg 1 rfl) rfl) ?_); clear hE a; intro a hE
      refine l_step rfl (o_pure hE rfl rfl (p_len rfl rfl Tryd.underlying121).run ?_); clear hE a; intro a hE
      refine l_step rfl (o_pure hE rfl rfl (p_cmp rfl rfl (lss_n (by have : ([px] : List Pg).length = 1 := rfl; omega))).run ?_); clear hE a; intro a hE
      refine wpList_nil ?_
      refine then_normal ?_
      refine c_false hE rfl ?_
      refine wp_skip ?_
      refine then_normal ?_
      refine wp_seq ?_
      refine wp_region_list ?_   -- region 14
      refine l_step rfl (o_pure hE rfl rfl (p_fieldAddr (m := 3) rfl fo_83_3 rfl).run ?_); clear hE a; intro a hE
      refine l_step rfl (o_pure hE rfl rfl (f_load rfl scal_3 (hI.seg 0 rfl) rfl) ?_); clear hE a; intro a hE
      refine l_step rfl (o_pure hE rfl rfl (p_move rfl).run ?_); clear hE a; intro a hE
      refine l_step rfl (o_pure hE rfl rfl (p_cmp rfl rfl (neq_n (by rw [hxx]; exact hxn))).run ?_); clear hE a; intro a hE
      refine wpList_nil ?_
      refine then_normal ?_
      refine c_false hE rfl ?_
      refine wp_skip ?_
      refine blk_normal ?_
      refine then_normal ?_
      refine wp_region_list ?_   -- region 16
      refine l_step rfl (o_pure hE rfl rfl (p_arith rfl rfl (add_z rfl (by omega) (by omega))).run ?_); clear hE a; intro a hE
      refine l_step rfl (o_pure hE rfl rfl (p_move rfl).run ?_); clear hE a; intro a hE
      refine wpList_nil ?_
      refine then_normal ?_
      replace hI := hI.erase 0
      replace hI := hI.bring 3
      replace hI := hI.bring 3
      replace hI := hI.bring 3
      replace hI := hI.bring 3
      exact ⟨0 + 1, hE.pick [4, 39, 40, 41], ⟨by show 0 + 1 ≤ 1; omega, hI⟩, by show 1 - (0 + 1) < 1 - 0; omega⟩
    · intro hlt; replace hlt := lss_f hlt; clear hE a; intro a hE
      refine wpList_nil ?_
      refine then_normal ?_
      refine wp_seq ?_
      refine c_false hE rfl ?_
      refine wp_exit ?_
      refine then_exit ?_
      refine then_exit ?_
      refine blk_same ?_
      refine then_normal ?_
      refine wp_seq ?_
      refine wp_seq ?_
      refine wp_region_list ?_   -- region 17
      refine l_step rfl (o_pure hE rfl rfl (p_move rfl).run ?_); clear hE a; intro a hE
      replace hI := hI.bring 3
      replace hI := hI.bring 2
      replace hI := hI.bring 2
      refine l_step rfl (o_call hE rfl rfl rfl rfl ent_90 (rest0_spec hI (hS.mono (hD9.trans hD25)) hT28 hm26 putM_two.1 putM_two.2 hpg1 hye hps) ?_)
      clear hI hE a
      rintro r w ⟨rfl, D33, hD34, hT35, hI⟩ a hE
      refine l_step rfl (o_pure hE rfl rfl (p_assign rfl).run ?_); clear hE a; intro a hE
      refine wpList_nil ?_
      refine then_normal ?_
      refine wp_seq ?_
      refine wp_region_list ?_   -- region 18
      refine l_step rfl (o_pure hE rfl rfl (p_move rfl).run ?_); clear hE a; intro a hE
      refine l_step rfl (o_pure hE rfl rfl (p_ifaceNil Tryd.underlying25 rfl rfl rfl).run ?_); clear hE a; intro a hE
      refine wpList_nil ?_
      refine then_normal ?_
      refine c_false hE rfl ?_
      refine wp_skip ?_
      refine then_normal ?_
      refine wp_seq ?_
      refine wp_region_list ?_   -- region 20
      refine l_step rfl (o_pure hE rfl rfl (p_move rfl).run ?_); clear hE a; intro a hE
      refine l_step rfl (o_pure hE rfl rfl (p_nilCheck rfl).run ?_); clear hE a; intro a hE
      refine l_step rfl (o_pure hE rfl rfl (p_fieldAddr (m := 3) rfl fo_141_3 rfl).run ?_); clear hE a; intro a hE
      refine l_step rfl (o_pure hE rfl rfl (f_load rfl scal_3 (hI.seg 0 rfl) rfl) ?_); clear hE a; intro a hE
      refine l_step rfl (o_pure hE rfl rfl (p_assign rfl).run ?_); clear hE a; intro a hE
      refine l_step rfl (o_pure hE rfl rfl (p_assign rfl).run ?_); clear hE a; intro a hE
      refine wpList_nil ?_
      refine then_normal ?_
      refine wp_ret ?_
      refine ret2 rfl hE rfl rfl ?_
      replace hI := hI.erase 3
      replace hI := hI.erase 1
      replace hI := hI.erase 0
      obtain ⟨sb2, sp2, hsp, hB2, hP2, _⟩ := hT35
      rw [hsp] at hI
      exact ⟨rfl, _, _, ((hD9.trans hD25).trans hD34), hP2, hI.right⟩
  · skip
    exfalso
    rw [hpg0] at hbad; cases hbad
end Go.Proofs.YtbogbnkckofpdaaDoor.B
