/- What functions of the program compute, each function once: steps over the model, and the plain law of it. -/
import Derived.Test.YtbogbnkckofpdaaDoorTTree3
namespace Go.Proofs.YtbogbnkckofpdaaDoor.B
open Go Go.Proofs
set_option linter.unusedVariables false
set_option linter.unusedSimpArgs false
set_option maxRecDepth 20000
set_option maxHeartbeats 8000000
namespace FTTree4
theorem agg_83 : aggSize Tryd.prog 83 = some 5 := by kernel_rfl
theorem built_83 : ∀ vs, Tryd.prog.built 83 vs = Instr.fill (([(0, 1), (1, 1), (2, 1), (3, 1), (4, 1)] : List (Nat × Nat)).toArray[·]?) ([.int .i64 0, .int .i64 0, .int .i64 0, .int .i64 0, .slice none 0 0] : List Value).toArray vs := fun _ => by kernel_rfl
theorem ent_105 : enters Tryd.prog 105 = true := by kernel_rfl
theorem ent_106 : enters Tryd.prog 106 = true := by kernel_rfl
theorem ent_108 : enters Tryd.prog 108 = true := by kernel_rfl
theorem ent_109 : enters Tryd.prog 109 = true := by kernel_rfl
theorem ent_110 : enters Tryd.prog 110 = true := by kernel_rfl
theorem ent_125 : enters Tryd.prog 125 = true := by kernel_rfl
theorem ent_126 : enters Tryd.prog 126 = true := by kernel_rfl
theorem ent_88 : enters Tryd.prog 88 = true := by kernel_rfl
theorem fo_83_0 : fieldOff Tryd.prog 83 0 = some 0 := by kernel_rfl
theorem fo_83_2 : fieldOff Tryd.prog 83 2 = some 2 := by kernel_rfl
theorem fo_83_4 : fieldOff Tryd.prog 83 4 = some 4 := by kernel_rfl
theorem scal_25 : isScal Tryd.prog 25 = true := by kernel_rfl
theorem scal_3 : isScal Tryd.prog 3 = true := by kernel_rfl
theorem scal_65 : isScal Tryd.prog 65 = true := by kernel_rfl
theorem sz_83 : (Tryd.prog.info? 83).map (·.size) = some 5 := by kernel_rfl
theorem zer_83 : (Tryd.prog.info? 83).bind (·.zero) = some (.agg #[.int .i64 0, .int .i64 0, .int .i64 0, .int .i64 0, .slice none 0 0]) := by kernel_rfl
theorem zs_3 : (Tryd.prog.info? 3).map (fun i => (i.zero, i.size)) = some (some (.int .i64 0), 1) := by kernel_rfl
theorem zs_83 : (Tryd.prog.info? 83).map (fun i => (i.zero, i.size)) = some (some (.agg #[.int .i64 0, .int .i64 0, .int .i64 0, .int .i64 0, .slice none 0 0]), 5) := by kernel_rfl
theorem zsb_3 : (Tryd.prog.info? 3).map (fun i => (i.zero, i.size, i.bytes)) = some (some (.int .i64 0), 1, 8) := by kernel_rfl
theorem zsb_83 : (Tryd.prog.info? 83).map (fun i => (i.zero, i.size, i.bytes)) = some (some (.agg #[.int .i64 0, .int .i64 0, .int .i64 0, .int .i64 0, .slice none 0 0]), 5, 56) := by kernel_rfl
end FTTree4
open FTTree4
theorem childP_le (x : Pg) (key : Bs) : childP x key ≤ x.ents.length := by
 have := findP_le x.ents key
 rw [childP]; split <;> omega
theorem free_ext {b b' : Bt} {id : Int} (h : b.free id = .ok b') : Ext b b' ∧ b'.recs.length = b.recs.length + 3 := by
 rw [Bt.free] at h
 split at h
 ·cases h
 exact all_ext _ h
theorem room_spec {w0 w : World} {D : Sto} {ss : List Seg} {s : Seg} {vb vp : Value} {b : Bt} {P : Pl} (hI : Inv w0 D (s :: ss) w) {ad : Nat → Addr} (hS : TSents D ad) (hT : TreeS D vb vp b P s) {vk : Value} {key : Bs} (hk : RB D vk key) (hlen : b.recs.length ≤ 1000000000 - 4000) :
  Calls Tryd.prog 75 #[vb, vk] w (Ret fun r w' => (∃ x b', b.room key = .ok (b', x) ∧ Ext b b' ∧ b'.recs.length ≤ b.recs.length + 600 ∧ ∃ D' s' e, Le D D' ∧ r = .tuple #[.agg (pgCells x e).toArray, .nilIface] ∧ EnD D' e x.ents ∧ POk x ∧ TreeS D' vb vp b' P s' ∧ Inv w0 D' (s' :: ss) w') ∨ (∃ c o, b.room key = .fail c o ∧ r = .tuple #[zPg, errV ad c] ∧ ∃ b' D' s', Ext b b' ∧ Le D D' ∧ TreeS D' vb vp b' (P.after o) s' ∧ Inv w0 D' (s' :: ss) w')) := by
 obtain ⟨A1, c2, rfl, _⟩ := hk.slice
 refine enter (N := 93) Tryd.func75 rfl rfl rfl ?_
 intro a hE
 refine wsr ?_
 refine l_step rfl (f_alloc (cs := #[.int .i64 0, .int .i64 0, .int .i64 0, .int .i64 0, .slice none 0 0]) hE hI rfl rfl rfl zer_83 rfl ?_)
 clear hI hE a w; intro a b3 w hE hI
 refine za hE ?_; clear hE a; intro a hE
 refine wnt ?_
 refine wsr ?_
 refine zm hE ?_; clear hE a; intro a hE
 refine l_step rfl (o_call hE rfl rfl rfl rfl ent_88 (page_spec (hI.bring 1) hS hT (0)) ?_)
 clear hI hE a
 rintro r w h a hE; rcases h with ⟨x4, hx5, D6, e7, hD8, rfl, he9, ho10, hT11, hI⟩ | ⟨c12, o13, hx5, rfl, s14, hT11, hI⟩
 ·skip
  replace hI := hI.put_back 1
  try simp only [nrm, Value.cells] at hI
  have hlen_x4 := ho10.len
  obtain ⟨A15, c16, rfl, _⟩ := he9.slice
  refine zm hE ?_; clear hE a; intro a hE
  refine zx hE ?_; clear hE a; intro a hE
  refine zx hE ?_; clear hE a; intro a hE
  refine l_step rfl (f_alloc (cs := #[.int .i64 0, .int .i64 0, .int .i64 0, .int .i64 0, .slice none 0 0]) hE hI rfl rfl rfl zer_83 rfl ?_)
  clear hI hE a w; intro a b17 w hE hI
  refine l_step rfl (f_store (l := [_, _, _, _, _]) (ss' := _ :: _) 0 hE hI rfl rfl rfl rfl rfl sz_83 (by simp [Value.cells, Value.oneCell', pgCells, rcCells, zPg]) rfl rfl rfl ?_)
  clear hI w; intro w hI
  refine za hE ?_; clear hE a; intro a hE
  refine wnt ?_
  refine wp_seq ?_
  refine wsr ?_
  refine zm hE ?_; clear hE a; intro a hE
  refine zs hE (p_ifaceNil Tryd.underlying25 rfl rfl rfl) ?_; clear hE a; intro a hE
  refine zm hE ?_; clear hE a; intro a hE
  refine gl hE (f_loadA (vs := [_, _, _, _, _]) rfl agg_83 (hI.seg 0 rfl) rfl rfl) ?_; clear hE a; intro a hE
  refine l_go hE rfl (o_call hE rfl rfl rfl rfl ent_108 (full_spec (p := x4) hI ⟨_, rfl, he9, ho10⟩) ?_)
  clear hI hE a
  rintro r w ⟨rfl, hI⟩ a hE
  obtain ⟨bf18, hbf19⟩ : ∃ b, decide (8 ≤ x4.ents.length) = b := ⟨_, rfl⟩
  rw [hbf19] at hE
  replace hbf19 : bf18 = true ↔ (8 ≤ x4.ents.length) := by rw [← hbf19]; exact decide_eq_true_iff
  refine zs hE (p_pick (b := true) rfl rfl) ?_; clear hE a; intro a hE
  refine wnt ?_
  rcases Bool.eq_false_or_eq_true bf18 with rfl | rfl
  ·replace hbf19 := iff_t hbf19
   refine c_true hE rfl ?_
   refine wsr ?_
   refine zm hE ?_; clear hE a; intro a hE
   refine zl hE (f_loadA (vs := [_, _, _, _, _]) rfl agg_83 (hI.seg 0 rfl) rfl rfl) ?_; clear hE a; intro a hE
   refine l_step rfl (o_call hE rfl rfl rfl rfl ent_109 (splitRoot_spec (hI.bring 2) (hS.mono hD8) hT11 (x := x4) ⟨_, rfl, he9, ho10⟩ (by omega) (by omega)) ?_)
   clear hI hE a
   rintro r w h a hE; rcases h with ⟨b21, hx20, rfl, D22, s27, hD23, hT24, hI⟩ | ⟨c25, o26, hx20, rfl, b32, D28, s31, hext33, hD29, hT30, hI⟩
   ·skip
    replace hI := hI.put_back 2
    try simp only [nrm, Value.cells] at hI
    have hext_hx20 := (splitRoot_ext ho10.len hx20).1
    have hlen_hx20 := (splitRoot_ext ho10.len hx20).2
    refine za hE ?_; clear hE a; intro a hE
    refine wnt ?_
    refine wsr ?_
    refine zm hE ?_; clear hE a; intro a hE
    refine zs hE (p_ifaceNil Tryd.underlying25 rfl rfl rfl) ?_; clear hE a; intro a hE
    refine wnt ?_
    refine c_true hE rfl ?_
    refine wp_region_list ?_
    refine zm hE ?_; clear hE a; intro a hE
    refine l_step rfl (o_call hE rfl rfl rfl rfl ent_88 (page_spec (hI.bring 2) (hS.mono (hD8.trans hD23)) hT24 (0)) ?_)
    clear hI hE a
    rintro r w h a hE; rcases h with ⟨x34, hx35, D36, e37, hD38, rfl, he39, ho40, hT41, hI⟩ | ⟨c42, o43, hx35, rfl, s44, hT41, hI⟩
    ·skip
     replace hI := hI.put_back 2
     try simp only [nrm, Value.cells] at hI
     have hlen_x34 := ho40.len
     obtain ⟨A45, c46, rfl, _⟩ := he39.slice
     refine zm hE ?_; clear hE a; intro a hE
     refine zx hE ?_; clear hE a; intro a hE
     refine zx hE ?_; clear hE a; intro a hE
     refine l_step rfl (f_store (l := [_, _, _, _, _]) (ss' := _ :: _) 0 hE hI rfl rfl rfl rfl rfl sz_83 (by simp [Value.cells, Value.oneCell', pgCells, rcCells, zPg]) rfl rfl rfl ?_)
     clear hI w; intro w hI
     refine za hE ?_; clear hE a; intro a hE
     refine wnt ?_
     refine wp_seq ?_
     refine wsr ?_
     refine zm hE ?_; clear hE a; intro a hE
     refine zs hE (p_ifaceNil Tryd.underlying25 rfl rfl rfl) ?_; clear hE a; intro a hE
     refine wnt ?_
     refine c_false hE rfl ?_
     refine wp_skip ?_
     refine then_normal ?_
     refine wp_seq ?_
     refine wsr ?_
     refine zm hE ?_; clear hE a; intro a hE
     refine wnt ?_
     refine wp_block ?_
     replace hI := hI.bring 1
     replace hI := hI.bring 1
     replace hI := hI.bring 2
     have heq0 : b.room key = Bt.roomF key 34 b21 x34 := by simp only [Bt.room, hx5, hx20, hx35, eq_true (show 8 ≤ x4.ents.length by omega), ite_true, ite_false, if_true, if_false]
     refine c_loop (X := Sto × Nat × Bt × Seg × Pg × Value) (fun x => [(0, _), (1, _), (4, _), (6, _), (38, .int .i64 (x.2.1 : Nat))]) (fun x w => x.2.1 ≤ 34 ∧ Le D x.1 ∧ Ext b x.2.2.1 ∧ b.room key = Bt.roomF key (34 - x.2.1) x.2.2.1 x.2.2.2.2.1 ∧ x.2.2.1.recs.length ≤ b.recs.length + 17 + 14 * x.2.1 ∧ EnD x.1 x.2.2.2.2.2 x.2.2.2.2.1.ents ∧ POk x.2.2.2.2.1 ∧ TreeS x.1 vb vp x.2.2.1 P x.2.2.2.1 ∧ Inv w0 x.1 (x.2.2.2.1 :: [(b17, .cells (pgCells x.2.2.2.2.1 x.2.2.2.2.2).toArray 83 (0, 0))] :: [(b3, .cells #[.int .i64 0, .int .i64 0, .int .i64 0, .int .i64 0, .slice none 0 0] 83 (0, 0))] :: ss) w) (fun x => 34 - x.2.1) (D36, 0, b21, _, x34, _) (hE.pick [0, 1, 4, 6, 38]) ⟨Nat.zero_le _, ((hD8.trans hD23).trans hD38), hext_hx20, heq0, by show (b21).recs.length ≤ b.recs.length + 17 + 14 * 0; omega, he39, ho40, hT41, hI⟩ ?_
     clear hE hI a w
     rintro ⟨D1, i, b1, s1, x1, e1⟩ a w hE ⟨hi, hD1, hx1, heq, hlen1, he1, ho1, hT1, hI⟩
     try dsimp only at hE
     try dsimp only at hi
     try dsimp only at hD1
     try dsimp only at hx1
     try dsimp only at heq
     try dsimp only at hlen1
     try dsimp only at he1
     try dsimp only at ho1
     try dsimp only at hT1
     try dsimp only at hI
     have hlen_x1 := ho1.len
     obtain ⟨A47, c48, rfl, _⟩ := he1.slice
     refine wsr ?_
     refine l_step rfl (o_cmp hE rfl rfl rfl rfl rfl rfl ?_ ?_)
     ·intro hlt; replace hlt := lss_t hlt; clear hE a; intro a hE
      refine wnt ?_
      refine wp_seq ?_
      refine c_true hE rfl ?_
      refine wp_skip ?_
      refine then_normal ?_
      refine wp_seq ?_
      refine wp_block ?_
      refine wp_seq ?_
      refine wsr ?_
      refine zs hE (p_fieldAddr (m := 2) rfl fo_83_2 rfl) ?_; clear hE a; intro a hE
      refine zl hE (f_load rfl scal_3 (hI.seg 1 rfl) rfl) ?_; clear hE a; intro a hE
      refine l_step rfl (o_cmp hE rfl rfl rfl rfl rfl rfl ?_ ?_)
      ·intro hlv; replace hlv := eql_t hlv; clear hE a; intro a hE
       refine wnt ?_
       refine c_true hE rfl ?_
       refine wsr ?_
       refine zl hE (f_loadA (vs := [_, _, _, _, _]) rfl agg_83 (hI.seg 1 rfl) rfl rfl) ?_; clear hE a; intro a hE
       refine l_step rfl (f_store (l := [_, _, _, _, _]) (ss' := _ :: _ :: _ :: _) 2 hE hI rfl rfl rfl rfl rfl sz_83 (by simp [Value.cells, Value.oneCell', pgCells, rcCells, zPg]) rfl rfl rfl ?_)
       clear hI w; intro w hI
       refine za hE ?_; clear hE a; intro a hE
       refine wnt ?_
       refine wp_ret ?_
       refine then_ret ?_
       refine blk_ret ?_
       refine then_ret ?_
       refine then_ret ?_
       refine blk_ret ?_
       refine then_ret ?_
       refine retc2 rfl hE rfl agg_83 (hI.seg 2 rfl) rfl rfl ?_
       replace hI := hI.erase 2
       replace hI := hI.erase 1
       exact .inl ⟨x1, b1, heq.trans (by rw [show 34 - i = (34 - (i + 1)) + 1 by omega]; simp only [Bt.roomF, eq_true (show x1.level = 0 by omega), ite_true, if_true]), hx1, by omega, _, _, _, hD1, rfl, he1, ho1, hT1, hI⟩
      intro hlv; replace hlv := eql_f hlv; clear hE a; intro a hE
      refine wnt ?_
      refine c_false hE rfl ?_
      refine wp_skip ?_
      refine then_normal ?_
      refine wsr ?_
      refine zl hE (f_loadA (vs := [_, _, _, _, _]) rfl agg_83 (hI.seg 1 rfl) rfl rfl) ?_; clear hE a; intro a hE
      refine zm hE ?_; clear hE a; intro a hE
      refine l_step rfl (o_call hE rfl rfl rfl rfl ent_105 (child_spec (p := x1) hI ⟨_, rfl, he1, ho1⟩ (hk.mono hD1)) ?_)
      clear hI hE a
      rintro r w ⟨rfl, hI⟩ a hE
      have hcl49 := childP_le x1 key
      refine za hE ?_; clear hE a; intro a hE
      refine wnt ?_
      refine wsr ?_
      refine zl hE (f_loadA (vs := [_, _, _, _, _]) rfl agg_83 (hI.seg 1 rfl) rfl rfl) ?_; clear hE a; intro a hE
      refine zm hE ?_; clear hE a; intro a hE
      refine l_step rfl (o_call hE rfl rfl rfl rfl ent_106 (at_spec (p := x1) hI (hS.mono hD1) ⟨_, rfl, he1, ho1⟩ (childP x1 key)) ?_)
      clear hI hE a
      rintro r w h a hE; rcases h with ⟨id50, hx51, rfl, hI⟩ | ⟨hx52, rfl, hI⟩
      ·skip
       refine zm hE ?_; clear hE a; intro a hE
       refine zx hE ?_; clear hE a; intro a hE
       refine zx hE ?_; clear hE a; intro a hE
       refine za hE ?_; clear hE a; intro a hE
       refine za hE ?_; clear hE a; intro a hE
       refine wnt ?_
       refine wp_seq ?_
       refine wsr ?_
       refine zm hE ?_; clear hE a; intro a hE
       refine zs hE (p_ifaceNil Tryd.underlying25 rfl rfl rfl) ?_; clear hE a; intro a hE
       refine wnt ?_
       refine c_false hE rfl ?_
       refine wp_skip ?_
       refine then_normal ?_
       refine wsr ?_
       refine zm hE ?_; clear hE a; intro a hE
       refine zm hE ?_; clear hE a; intro a hE
       refine l_step rfl (o_call hE rfl rfl rfl rfl ent_88 (page_spec hI (hS.mono hD1) hT1 (id50)) ?_)
       clear hI hE a
       rintro r w h a hE; rcases h with ⟨x53, hx54, D55, e56, hD57, rfl, he58, ho59, hT60, hI⟩ | ⟨c61, o62, hx54, rfl, s63, hT60, hI⟩
       ·skip
        have hlen_x53 := ho59.len
        obtain ⟨A64, c65, rfl, _⟩ := he58.slice
        refine zm hE ?_; clear hE a; intro a hE
        refine zx hE ?_; clear hE a; intro a hE
        refine zx hE ?_; clear hE a; intro a hE
        refine l_step rfl (f_alloc (cs := #[.int .i64 0, .int .i64 0, .int .i64 0, .int .i64 0, .slice none 0 0]) hE hI rfl rfl rfl zer_83 rfl ?_)
        clear hI hE a w; intro a b66 w hE hI
        refine l_step rfl (f_store (l := [_, _, _, _, _]) (ss' := _ :: _) 0 hE hI rfl rfl rfl rfl rfl sz_83 (by simp [Value.cells, Value.oneCell', pgCells, rcCells, zPg]) rfl rfl rfl ?_)
        clear hI w; intro w hI
        refine za hE ?_; clear hE a; intro a hE
        refine wnt ?_
        refine wp_seq ?_
        refine wsr ?_
        refine zm hE ?_; clear hE a; intro a hE
        refine zs hE (p_ifaceNil Tryd.underlying25 rfl rfl rfl) ?_; clear hE a; intro a hE
        refine wnt ?_
        refine c_false hE rfl ?_
        refine wp_skip ?_
        refine then_normal ?_
        refine wp_seq ?_
        refine wsr ?_
        refine zl hE (f_loadA (vs := [_, _, _, _, _]) rfl agg_83 (hI.seg 0 rfl) rfl rfl) ?_; clear hE a; intro a hE
        refine l_step rfl (o_call hE rfl rfl rfl rfl ent_108 (full_spec (p := x53) hI ⟨_, rfl, he58, ho59⟩) ?_)
        clear hI hE a
        rintro r w ⟨rfl, hI⟩ a hE
        obtain ⟨bf67, hbf68⟩ : ∃ b, decide (8 ≤ x53.ents.length) = b := ⟨_, rfl⟩
        rw [hbf68] at hE
        replace hbf68 : bf67 = true ↔ (8 ≤ x53.ents.length) := by rw [← hbf68]; exact decide_eq_true_iff
        refine wnt ?_
        rcases Bool.eq_false_or_eq_true bf67 with rfl | rfl
        ·replace hbf68 := iff_t hbf68
         refine c_true hE rfl ?_
         refine wp_seq ?_
         refine wsr ?_
         refine zm hE ?_; clear hE a; intro a hE
         refine zl hE (f_loadA (vs := [_, _, _, _, _]) rfl agg_83 (hI.seg 2 rfl) rfl rfl) ?_; clear hE a; intro a hE
         refine zm hE ?_; clear hE a; intro a hE
         refine zl hE (f_loadA (vs := [_, _, _, _, _]) rfl agg_83 (hI.seg 0 rfl) rfl rfl) ?_; clear hE a; intro a hE
         refine l_step rfl (o_call hE rfl rfl rfl rfl ent_110 (split_spec (hI.bring 1) (hS.mono (hD1.trans hD57)) hT60 (p := x1) (x := x53) ⟨_, rfl, (DR.mono EnR.keeps he1 hD57), ho1⟩ (k := (childP x1 key : Nat)) (by omega) (by omega) ⟨_, rfl, he58, ho59⟩ (by omega) (by omega)) ?_)
         clear hI hE a
         rintro r w h a hE; rcases h with ⟨b70, hx69, rfl, D71, s76, hD72, hT73, hI⟩ | ⟨c74, o75, hx69, rfl, b81, D77, s80, hext82, hD78, hT79, hI⟩
         ·skip
          replace hI := hI.put_back 1
          try simp only [nrm, Value.cells] at hI
          have hext_hx69 := (split_ext ho59.len hx69).1
          have hlen_hx69 := (split_ext ho59.len hx69).2
          refine za hE ?_; clear hE a; intro a hE
          refine wnt ?_
          refine wsr ?_
          refine zm hE ?_; clear hE a; intro a hE
          refine zs hE (p_ifaceNil Tryd.underlying25 rfl rfl rfl) ?_; clear hE a; intro a hE
          refine wnt ?_
          refine c_false hE rfl ?_
          refine wp_skip ?_
          refine then_normal ?_
          refine wp_seq ?_
          refine wsr ?_
          refine zm hE ?_; clear hE a; intro a hE
          refine zs hE (p_fieldAddr (m := 0) rfl fo_83_0 rfl) ?_; clear hE a; intro a hE
          refine zl hE (f_load rfl scal_3 (hI.seg 2 rfl) rfl) ?_; clear hE a; intro a hE
          refine l_step rfl (o_call hE rfl rfl rfl rfl ent_88 (page_spec (hI.bring 1) (hS.mono ((hD1.trans hD57).trans hD72)) hT73 (x1.id)) ?_)
          clear hI hE a
          rintro r w h a hE; rcases h with ⟨x83, hx84, D85, e86, hD87, rfl, he88, ho89, hT90, hI⟩ | ⟨c91, o92, hx84, rfl, s93, hT90, hI⟩
          ·skip
           replace hI := hI.put_back 1
           try simp only [nrm, Value.cells] at hI
           have hlen_x83 := ho89.len
           obtain ⟨A94, c95, rfl, _⟩ := he88.slice
           refine zm hE ?_; clear hE a; intro a hE
           refine zx hE ?_; clear hE a; intro a hE
           refine zx hE ?_; clear hE a; intro a hE
           refine l_step rfl (f_store (l := [_, _, _, _, _]) (ss' := _ :: _ :: _ :: _) 2 hE hI rfl rfl rfl rfl rfl sz_83 (by simp [Value.cells, Value.oneCell', pgCells, rcCells, zPg]) rfl rfl rfl ?_)
           clear hI w; intro w hI
           refine za hE ?_; clear hE a; intro a hE
           refine wnt ?_
           refine wsr ?_
           refine zm hE ?_; clear hE a; intro a hE
           refine zs hE (p_ifaceNil Tryd.underlying25 rfl rfl rfl) ?_; clear hE a; intro a hE
           refine wnt ?_
           refine c_false hE rfl ?_
           refine wp_skip ?_
           refine then_normal ?_
           refine wp_exit ?_
           refine then_exit ?_
           refine blk_same ?_
           refine then_normal ?_
           refine wp_region_list ?_
           refine zs hE (p_arith (z := ((i + 1 : Nat) : Int)) rfl rfl (add_z (by omega) (by omega) (by omega))) ?_; clear hE a; intro a hE
           refine zm hE ?_; clear hE a; intro a hE
           refine wnt ?_
           replace hI := hI.erase 0
           replace hI := hI.bring 2
           replace hI := hI.bring 2
           replace hI := hI.bring 2
           exact ⟨(D85, i + 1, b70, _, x83, _), hE.pick [0, 1, 4, 6, 38], ⟨by show i + 1 ≤ _; omega, (((hD1.trans hD57).trans hD72).trans hD87), (hx1.trans hext_hx69), heq.trans (by rw [show 34 - i = (34 - (i + 1)) + 1 by omega]; simp only [Bt.roomF, hx51, hx54, hx69, hx84, eq_false (show ¬ (x1.level = 0) by omega), eq_true (show 8 ≤ x53.ents.length by omega), ite_true, ite_false, if_true, if_false]), by show (b70).recs.length ≤ b.recs.length + 17 + 14 * (i + 1); omega, he88, ho89, hT90, hI⟩, by show 34 - (i + 1) < 34 - i; omega⟩
          replace hI := hI.put_back 1
          try simp only [nrm, Value.cells] at hI
          refine zm hE ?_; clear hE a; intro a hE
          refine zx hE ?_; clear hE a; intro a hE
          refine zx hE ?_; clear hE a; intro a hE
          refine l_step rfl (f_store (l := [_, _, _, _, _]) (ss' := _ :: _ :: _ :: _) 2 hE hI rfl rfl rfl rfl rfl sz_83 (by simp [Value.cells, Value.oneCell', pgCells, rcCells, zPg]) rfl rfl rfl ?_)
          clear hI w; intro w hI
          refine za hE ?_; clear hE a; intro a hE
          refine wnt ?_
          refine wsr ?_
          refine zm hE ?_; clear hE a; intro a hE
          refine zs hE (p_ifaceNil Tryd.underlying25 rfl rfl rfl) ?_; clear hE a; intro a hE
          refine wnt ?_
          refine c_true hE rfl ?_
          refine wsr ?_
          refine zs hE (f_build (vs := []) (l := [_, _, _, _, _]) rfl built_83 rfl) ?_; clear hE a; intro a hE
          refine zm hE ?_; clear hE a; intro a hE
          refine l_step rfl (f_store (l := [_, _, _, _, _]) (ss' := _ :: _ :: _ :: _ :: _) 3 hE hI rfl rfl rfl rfl rfl sz_83 (by simp [Value.cells, Value.oneCell', pgCells, rcCells, zPg]) rfl rfl rfl ?_)
          clear hI w; intro w hI
          refine za hE ?_; clear hE a; intro a hE
          refine wnt ?_
          refine wp_ret ?_
          refine then_ret ?_
          refine then_ret ?_
          refine blk_ret ?_
          refine then_ret ?_
          refine then_ret ?_
          refine blk_ret ?_
          refine then_ret ?_
          refine retc2 rfl hE rfl agg_83 (hI.seg 3 rfl) rfl rfl ?_
          replace hI := hI.erase 3
          replace hI := hI.erase 2
          replace hI := hI.erase 0
          exact .inr ⟨_, o92, heq.trans (by rw [show 34 - i = (34 - (i + 1)) + 1 by omega]; simp only [Bt.roomF, hx51, hx54, hx69, hx84, eq_false (show ¬ (x1.level = 0) by omega), eq_true (show 8 ≤ x53.ents.length by omega), ite_true, ite_false, if_true, if_false]), rfl, _, _, _, (hx1.trans hext_hx69), ((hD1.trans hD57).trans hD72), hT90, hI⟩
         replace hI := hI.put_back 1
         try simp only [nrm, Value.cells] at hI
         refine za hE ?_; clear hE a; intro a hE
         refine wnt ?_
         refine wsr ?_
         refine zm hE ?_; clear hE a; intro a hE
         refine zs hE (p_ifaceNil Tryd.underlying25 rfl rfl rfl) ?_; clear hE a; intro a hE
         refine wnt ?_
         refine c_true hE rfl ?_
         refine wsr ?_
         refine zs hE (f_build (vs := []) (l := [_, _, _, _, _]) rfl built_83 rfl) ?_; clear hE a; intro a hE
         refine zm hE ?_; clear hE a; intro a hE
         refine l_step rfl (f_store (l := [_, _, _, _, _]) (ss' := _ :: _ :: _ :: _ :: _) 3 hE hI rfl rfl rfl rfl rfl sz_83 (by simp [Value.cells, Value.oneCell', pgCells, rcCells, zPg]) rfl rfl rfl ?_)
         clear hI w; intro w hI
         refine za hE ?_; clear hE a; intro a hE
         refine wnt ?_
         refine wp_ret ?_
         refine then_ret ?_
         refine then_ret ?_
         refine blk_ret ?_
         refine then_ret ?_
         refine then_ret ?_
         refine blk_ret ?_
         refine then_ret ?_
         refine retc2 rfl hE rfl agg_83 (hI.seg 3 rfl) rfl rfl ?_
         replace hI := hI.erase 3
         replace hI := hI.erase 2
         replace hI := hI.erase 0
         exact .inr ⟨_, o75, heq.trans (by rw [show 34 - i = (34 - (i + 1)) + 1 by omega]; simp only [Bt.roomF, hx51, hx54, hx69, eq_false (show ¬ (x1.level = 0) by omega), eq_true (show 8 ≤ x53.ents.length by omega), ite_true, ite_false, if_true, if_false]), rfl, _, _, _, (hx1.trans hext82), ((hD1.trans hD57).trans hD78), hT79, hI⟩
        replace hbf68 := iff_f hbf68
        refine c_false hE rfl ?_
        refine wp_skip ?_
        refine then_normal ?_
        refine wp_region_list ?_
        refine zl hE (f_loadA (vs := [_, _, _, _, _]) rfl agg_83 (hI.seg 0 rfl) rfl rfl) ?_; clear hE a; intro a hE
        refine l_step rfl (f_store (l := [_, _, _, _, _]) (ss' := _ :: _ :: _ :: _) 2 hE hI rfl rfl rfl rfl rfl sz_83 (by simp [Value.cells, Value.oneCell', pgCells, rcCells, zPg]) rfl rfl rfl ?_)
        clear hI w; intro w hI
        refine wpList_nil ?_
        refine blk_normal ?_
        refine then_normal ?_
        refine wp_region_list ?_
        refine zs hE (p_arith (z := ((i + 1 : Nat) : Int)) rfl rfl (add_z (by omega) (by omega) (by omega))) ?_; clear hE a; intro a hE
        refine zm hE ?_; clear hE a; intro a hE
        refine wnt ?_
        replace hI := hI.erase 0
        replace hI := hI.bring 2
        replace hI := hI.bring 2
        replace hI := hI.bring 2
        exact ⟨(D55, i + 1, b1, _, x53, _), hE.pick [0, 1, 4, 6, 38], ⟨by show i + 1 ≤ _; omega, (hD1.trans hD57), hx1, heq.trans (by rw [show 34 - i = (34 - (i + 1)) + 1 by omega]; simp only [Bt.roomF, hx51, hx54, eq_false (show ¬ (x1.level = 0) by omega), eq_false (show ¬ (8 ≤ x53.ents.length) by omega), ite_true, ite_false, if_true, if_false]), by show (b1).recs.length ≤ b.recs.length + 17 + 14 * (i + 1); omega, he58, ho59, hT60, hI⟩, by show 34 - (i + 1) < 34 - i; omega⟩
       refine zm hE ?_; clear hE a; intro a hE
       refine zx hE ?_; clear hE a; intro a hE
       refine zx hE ?_; clear hE a; intro a hE
       refine l_step rfl (f_alloc (cs := #[.int .i64 0, .int .i64 0, .int .i64 0, .int .i64 0, .slice none 0 0]) hE hI rfl rfl rfl zer_83 rfl ?_)
       clear hI hE a w; intro a b96 w hE hI
       refine l_step rfl (f_store (l := [_, _, _, _, _]) (ss' := _ :: _) 0 hE hI rfl rfl rfl rfl rfl sz_83 (by simp [Value.cells, Value.oneCell', pgCells, rcCells, zPg]) rfl rfl rfl ?_)
       clear hI w; intro w hI
       refine za hE ?_; clear hE a; intro a hE
       refine wnt ?_
       refine wp_seq ?_
       refine wsr ?_
       refine zm hE ?_; clear hE a; intro a hE
       refine zs hE (p_ifaceNil Tryd.underlying25 rfl rfl rfl) ?_; clear hE a; intro a hE
       refine wnt ?_
       refine c_true hE rfl ?_
       refine wsr ?_
       refine zs hE (f_build (vs := []) (l := [_, _, _, _, _]) rfl built_83 rfl) ?_; clear hE a; intro a hE
       refine zm hE ?_; clear hE a; intro a hE
       refine l_step rfl (f_store (l := [_, _, _, _, _]) (ss' := _ :: _ :: _ :: _ :: _) 3 hE hI rfl rfl rfl rfl rfl sz_83 (by simp [Value.cells, Value.oneCell', pgCells, rcCells, zPg]) rfl rfl rfl ?_)
       clear hI w; intro w hI
       refine za hE ?_; clear hE a; intro a hE
       refine wnt ?_
       refine wp_ret ?_
       refine then_ret ?_
       refine blk_ret ?_
       refine then_ret ?_
       refine then_ret ?_
       refine blk_ret ?_
       refine then_ret ?_
       refine retc2 rfl hE rfl agg_83 (hI.seg 3 rfl) rfl rfl ?_
       replace hI := hI.erase 3
       replace hI := hI.erase 2
       replace hI := hI.erase 0
       exact .inr ⟨_, o62, heq.trans (by rw [show 34 - i = (34 - (i + 1)) + 1 by omega]; simp only [Bt.roomF, hx51, hx54, eq_false (show ¬ (x1.level = 0) by omega), ite_true, ite_false, if_true, if_false]), rfl, _, _, _, hx1, hD1, hT60, hI⟩
      refine zm hE ?_; clear hE a; intro a hE
      refine zx hE ?_; clear hE a; intro a hE
      refine zx hE ?_; clear hE a; intro a hE
      refine za hE ?_; clear hE a; intro a hE
      refine za hE ?_; clear hE a; intro a hE
      refine wnt ?_
      refine wp_seq ?_
      refine wsr ?_
      refine zm hE ?_; clear hE a; intro a hE
      refine zs hE (p_ifaceNil Tryd.underlying25 rfl rfl rfl) ?_; clear hE a; intro a hE
      refine wnt ?_
      refine c_true hE rfl ?_
      refine wsr ?_
      refine zs hE (f_build (vs := []) (l := [_, _, _, _, _]) rfl built_83 rfl) ?_; clear hE a; intro a hE
      refine zm hE ?_; clear hE a; intro a hE
      refine l_step rfl (f_store (l := [_, _, _, _, _]) (ss' := _ :: _ :: _ :: _) 2 hE hI rfl rfl rfl rfl rfl sz_83 (by simp [Value.cells, Value.oneCell', pgCells, rcCells, zPg]) rfl rfl rfl ?_)
      clear hI w; intro w hI
      refine za hE ?_; clear hE a; intro a hE
      refine wnt ?_
      refine wp_ret ?_
      refine then_ret ?_
      refine blk_ret ?_
      refine then_ret ?_
      refine then_ret ?_
      refine blk_ret ?_
      refine then_ret ?_
      refine retc2 rfl hE rfl agg_83 (hI.seg 2 rfl) rfl rfl ?_
      replace hI := hI.erase 2
      replace hI := hI.erase 1
      exact .inr ⟨_, none, heq.trans (by rw [show 34 - i = (34 - (i + 1)) + 1 by omega]; simp only [Bt.roomF, hx52, eq_false (show ¬ (x1.level = 0) by omega), ite_true, ite_false, if_true, if_false]), rfl, _, _, _, hx1, hD1, hT1, hI⟩
     intro hlt; replace hlt := lss_f hlt; clear hE a; intro a hE
     refine wnt ?_
     refine wp_seq ?_
     refine c_false hE rfl ?_
     refine wp_exit ?_
     refine then_exit ?_
     refine then_exit ?_
     refine blk_same ?_
     refine then_normal ?_
     refine wp_seq ?_
     refine d_start [] [] (by kernel_rfl) hI rfl rfl ?_
     clear hI w; intro w hI
     refine dp 0 hE rfl (f_build (vs := []) (l := [_, _, _, _, _]) rfl built_83 rfl) (fun _ => hI) (listed' := #[true, false, false, false]) ?_; clear hE a; intro a hE
     obtain ⟨T_97, fr_97, hg_97⟩ := hS.g103
     refine dl 1 hE rfl (fun w hS => f_load rfl scal_25 (Inv.data hS _ _ (hD1 _ _ (hg_97))) rfl) (hI) ?_; clear hE a; intro a hE
     refine do1 2 hE rfl ?_
     refine f_store (l := [_, _, _, _, _]) (ss' := _ :: _ :: _ :: _) 2 hE hI rfl rfl rfl rfl rfl sz_83 (by simp [Value.cells, Value.oneCell', pgCells, rcCells, zPg]) rfl rfl rfl ?_
     clear hI w; intro w hI
     refine ⟨fun _ => hI, ?_⟩
     refine dp 3 hE rfl (p_assign rfl) (fun _ => hI) ?_; clear hE a; intro a hE
     refine d_done (by kernel_rfl) ?_
     refine then_normal ?_
     refine wp_ret ?_
     refine retc2 rfl hE rfl agg_83 (hI.seg 2 rfl) rfl rfl ?_
     replace hI := hI.erase 2
     replace hI := hI.erase 1
     exact .inr ⟨103, none, by rw [heq, show 34 - i = 0 by omega]; rfl, rfl, _, _, _, hx1, hD1, hT1, hI⟩
    replace hI := hI.put_back 2
    try simp only [nrm, Value.cells] at hI
    refine zm hE ?_; clear hE a; intro a hE
    refine zx hE ?_; clear hE a; intro a hE
    refine zx hE ?_; clear hE a; intro a hE
    refine l_step rfl (f_store (l := [_, _, _, _, _]) (ss' := _ :: _) 0 hE hI rfl rfl rfl rfl rfl sz_83 (by simp [Value.cells, Value.oneCell', pgCells, rcCells, zPg]) rfl rfl rfl ?_)
    clear hI w; intro w hI
    refine za hE ?_; clear hE a; intro a hE
    refine wnt ?_
    refine wp_seq ?_
    refine wsr ?_
    refine zm hE ?_; clear hE a; intro a hE
    refine zs hE (p_ifaceNil Tryd.underlying25 rfl rfl rfl) ?_; clear hE a; intro a hE
    refine wnt ?_
    refine c_true hE rfl ?_
    refine wsr ?_
    refine zs hE (f_build (vs := []) (l := [_, _, _, _, _]) rfl built_83 rfl) ?_; clear hE a; intro a hE
    refine zm hE ?_; clear hE a; intro a hE
    refine l_step rfl (f_store (l := [_, _, _, _, _]) (ss' := _ :: _ :: _) 1 hE hI rfl rfl rfl rfl rfl sz_83 (by simp [Value.cells, Value.oneCell', pgCells, rcCells, zPg]) rfl rfl rfl ?_)
    clear hI w; intro w hI
    refine za hE ?_; clear hE a; intro a hE
    refine wnt ?_
    refine wp_ret ?_
    refine then_ret ?_
    refine retc2 rfl hE rfl agg_83 (hI.seg 1 rfl) rfl rfl ?_
    replace hI := hI.erase 1
    replace hI := hI.erase 0
    exact .inr ⟨_, _, by simp only [Bt.room, hx5, hx20, hx35, eq_true (show 8 ≤ x4.ents.length by omega), ite_true, ite_false, if_true, if_false], rfl, _, _, _, hext_hx20, (hD8.trans hD23), hT41, hI⟩
   replace hI := hI.put_back 2
   try simp only [nrm, Value.cells] at hI
   refine za hE ?_; clear hE a; intro a hE
   refine wnt ?_
   refine wsr ?_
   refine zm hE ?_; clear hE a; intro a hE
   refine zs hE (p_ifaceNil Tryd.underlying25 rfl rfl rfl) ?_; clear hE a; intro a hE
   refine wnt ?_
   refine c_false hE rfl ?_
   refine wp_skip ?_
   refine then_normal ?_
   refine wp_seq ?_
   refine wsr ?_
   refine zm hE ?_; clear hE a; intro a hE
   refine zs hE (p_ifaceNil Tryd.underlying25 rfl rfl rfl) ?_; clear hE a; intro a hE
   refine wnt ?_
   refine c_true hE rfl ?_
   refine wsr ?_
   refine zs hE (f_build (vs := []) (l := [_, _, _, _, _]) rfl built_83 rfl) ?_; clear hE a; intro a hE
   refine zm hE ?_; clear hE a; intro a hE
   refine l_step rfl (f_store (l := [_, _, _, _, _]) (ss' := _ :: _ :: _) 1 hE hI rfl rfl rfl rfl rfl sz_83 (by simp [Value.cells, Value.oneCell', pgCells, rcCells, zPg]) rfl rfl rfl ?_)
   clear hI w; intro w hI
   refine za hE ?_; clear hE a; intro a hE
   refine wnt ?_
   refine wp_ret ?_
   refine then_ret ?_
   refine retc2 rfl hE rfl agg_83 (hI.seg 1 rfl) rfl rfl ?_
   replace hI := hI.erase 1
   replace hI := hI.erase 0
   exact .inr ⟨_, _, by simp only [Bt.room, hx5, hx20, eq_true (show 8 ≤ x4.ents.length by omega), ite_true, ite_false, if_true, if_false], rfl, _, _, _, hext33, (hD8.trans hD29), hT30, hI⟩
  replace hbf19 := iff_f hbf19
  refine c_false hE rfl ?_
  refine wp_skip ?_
  refine then_normal ?_
  refine wp_seq ?_
  refine wsr ?_
  refine zm hE ?_; clear hE a; intro a hE
  refine zs hE (p_ifaceNil Tryd.underlying25 rfl rfl rfl) ?_; clear hE a; intro a hE
  refine wnt ?_
  refine c_false hE rfl ?_
  refine wp_skip ?_
  refine then_normal ?_
  refine wp_seq ?_
  refine wsr ?_
  refine zm hE ?_; clear hE a; intro a hE
  refine wnt ?_
  refine wp_block ?_
  replace hI := hI.bring 1
  replace hI := hI.bring 1
  replace hI := hI.bring 2
  have heq0 : b.room key = Bt.roomF key 34 b x4 := by simp only [Bt.room, hx5, eq_false (show ¬ (8 ≤ x4.ents.length) by omega), ite_true, ite_false, if_true, if_false]
  refine c_loop (X := Sto × Nat × Bt × Seg × Pg × Value) (fun x => [(0, _), (1, _), (4, _), (6, _), (38, .int .i64 (x.2.1 : Nat))]) (fun x w => x.2.1 ≤ 34 ∧ Le D x.1 ∧ Ext b x.2.2.1 ∧ b.room key = Bt.roomF key (34 - x.2.1) x.2.2.1 x.2.2.2.2.1 ∧ x.2.2.1.recs.length ≤ b.recs.length + 17 + 14 * x.2.1 ∧ EnD x.1 x.2.2.2.2.2 x.2.2.2.2.1.ents ∧ POk x.2.2.2.2.1 ∧ TreeS x.1 vb vp x.2.2.1 P x.2.2.2.1 ∧ Inv w0 x.1 (x.2.2.2.1 :: [(b17, .cells (pgCells x.2.2.2.2.1 x.2.2.2.2.2).toArray 83 (0, 0))] :: [(b3, .cells #[.int .i64 0, .int .i64 0, .int .i64 0, .int .i64 0, .slice none 0 0] 83 (0, 0))] :: ss) w) (fun x => 34 - x.2.1) (D6, 0, b, _, x4, _) (hE.pick [0, 1, 4, 6, 38]) ⟨Nat.zero_le _, hD8, (Ext.refl _), heq0, by show (b).recs.length ≤ b.recs.length + 17 + 14 * 0; omega, he9, ho10, hT11, hI⟩ ?_
  clear hE hI a w
  rintro ⟨D1, i, b1, s1, x1, e1⟩ a w hE ⟨hi, hD1, hx1, heq, hlen1, he1, ho1, hT1, hI⟩
  try dsimp only at hE
  try dsimp only at hi
  try dsimp only at hD1
  try dsimp only at hx1
  try dsimp only at heq
  try dsimp only at hlen1
  try dsimp only at he1
  try dsimp only at ho1
  try dsimp only at hT1
  try dsimp only at hI
  have hlen_x1 := ho1.len
  obtain ⟨A98, c99, rfl, _⟩ := he1.slice
  refine wsr ?_
  refine l_step rfl (o_cmp hE rfl rfl rfl rfl rfl rfl ?_ ?_)
  ·intro hlt; replace hlt := lss_t hlt; clear hE a; intro a hE
   refine wnt ?_
   refine wp_seq ?_
   refine c_true hE rfl ?_
   refine wp_skip ?_
   refine then_normal ?_
   refine wp_seq ?_
   refine wp_block ?_
   refine wp_seq ?_
   refine wsr ?_
   refine zs hE (p_fieldAddr (m := 2) rfl fo_83_2 rfl) ?_; clear hE a; intro a hE
   refine zl hE (f_load rfl scal_3 (hI.seg 1 rfl) rfl) ?_; clear hE a; intro a hE
   refine l_step rfl (o_cmp hE rfl rfl rfl rfl rfl rfl ?_ ?_)
   ·intro hlv; replace hlv := eql_t hlv; clear hE a; intro a hE
    refine wnt ?_
    refine c_true hE rfl ?_
    refine wsr ?_
    refine zl hE (f_loadA (vs := [_, _, _, _, _]) rfl agg_83 (hI.seg 1 rfl) rfl rfl) ?_; clear hE a; intro a hE
    refine l_step rfl (f_store (l := [_, _, _, _, _]) (ss' := _ :: _ :: _ :: _) 2 hE hI rfl rfl rfl rfl rfl sz_83 (by simp [Value.cells, Value.oneCell', pgCells, rcCells, zPg]) rfl rfl rfl ?_)
    clear hI w; intro w hI
    refine za hE ?_; clear hE a; intro a hE
    refine wnt ?_
    refine wp_ret ?_
    refine then_ret ?_
    refine blk_ret ?_
    refine then_ret ?_
    refine then_ret ?_
    refine blk_ret ?_
    refine then_ret ?_
    refine retc2 rfl hE rfl agg_83 (hI.seg 2 rfl) rfl rfl ?_
    replace hI := hI.erase 2
    replace hI := hI.erase 1
    exact .inl ⟨x1, b1, heq.trans (by rw [show 34 - i = (34 - (i + 1)) + 1 by omega]; simp only [Bt.roomF, eq_true (show x1.level = 0 by omega), ite_true, if_true]), hx1, by omega, _, _, _, hD1, rfl, he1, ho1, hT1, hI⟩
   intro hlv; replace hlv := eql_f hlv; clear hE a; intro a hE
   refine wnt ?_
   refine c_false hE rfl ?_
   refine wp_skip ?_
   refine then_normal ?_
   refine wsr ?_
   refine zl hE (f_loadA (vs := [_, _, _, _, _]) rfl agg_83 (hI.seg 1 rfl) rfl rfl) ?_; clear hE a; intro a hE
   refine zm hE ?_; clear hE a; intro a hE
   refine l_step rfl (o_call hE rfl rfl rfl rfl ent_105 (child_spec (p := x1) hI ⟨_, rfl, he1, ho1⟩ (hk.mono hD1)) ?_)
   clear hI hE a
   rintro r w ⟨rfl, hI⟩ a hE
   have hcl100 := childP_le x1 key
   refine za hE ?_; clear hE a; intro a hE
   refine wnt ?_
   refine wsr ?_
   refine zl hE (f_loadA (vs := [_, _, _, _, _]) rfl agg_83 (hI.seg 1 rfl) rfl rfl) ?_; clear hE a; intro a hE
   refine zm hE ?_; clear hE a; intro a hE
   refine l_step rfl (o_call hE rfl rfl rfl rfl ent_106 (at_spec (p := x1) hI (hS.mono hD1) ⟨_, rfl, he1, ho1⟩ (childP x1 key)) ?_)
   clear hI hE a
   rintro r w h a hE; rcases h with ⟨id101, hx102, rfl, hI⟩ | ⟨hx103, rfl, hI⟩
   ·skip
    refine zm hE ?_; clear hE a; intro a hE
    refine zx hE ?_; clear hE a; intro a hE
    refine zx hE ?_; clear hE a; intro a hE
    refine za hE ?_; clear hE a; intro a hE
    refine za hE ?_; clear hE a; intro a hE
    refine wnt ?_
    refine wp_seq ?_
    refine wsr ?_
    refine zm hE ?_; clear hE a; intro a hE
    refine zs hE (p_ifaceNil Tryd.underlying25 rfl rfl rfl) ?_; clear hE a; intro a hE
    refine wnt ?_
    refine c_false hE rfl ?_
    refine wp_skip ?_
    refine then_normal ?_
    refine wsr ?_
    refine zm hE ?_; clear hE a; intro a hE
    refine zm hE ?_; clear hE a; intro a hE
    refine l_step rfl (o_call hE rfl rfl rfl rfl ent_88 (page_spec hI (hS.mono hD1) hT1 (id101)) ?_)
    clear hI hE a
    rintro r w h a hE; rcases h with ⟨x104, hx105, D106, e107, hD108, rfl, he109, ho110, hT111, hI⟩ | ⟨c112, o113, hx105, rfl, s114, hT111, hI⟩
    ·skip
     have hlen_x104 := ho110.len
     obtain ⟨A115, c116, rfl, _⟩ := he109.slice
     refine zm hE ?_; clear hE a; intro a hE
     refine zx hE ?_; clear hE a; intro a hE
     refine zx hE ?_; clear hE a; intro a hE
     refine l_step rfl (f_alloc (cs := #[.int .i64 0, .int .i64 0, .int .i64 0, .int .i64 0, .slice none 0 0]) hE hI rfl rfl rfl zer_83 rfl ?_)
     clear hI hE a w; intro a b117 w hE hI
     refine l_step rfl (f_store (l := [_, _, _, _, _]) (ss' := _ :: _) 0 hE hI rfl rfl rfl rfl rfl sz_83 (by simp [Value.cells, Value.oneCell', pgCells, rcCells, zPg]) rfl rfl rfl ?_)
     clear hI w; intro w hI
     refine za hE ?_; clear hE a; intro a hE
     refine wnt ?_
     refine wp_seq ?_
     refine wsr ?_
     refine zm hE ?_; clear hE a; intro a hE
     refine zs hE (p_ifaceNil Tryd.underlying25 rfl rfl rfl) ?_; clear hE a; intro a hE
     refine wnt ?_
     refine c_false hE rfl ?_
     refine wp_skip ?_
     refine then_normal ?_
     refine wp_seq ?_
     refine wsr ?_
     refine zl hE (f_loadA (vs := [_, _, _, _, _]) rfl agg_83 (hI.seg 0 rfl) rfl rfl) ?_; clear hE a; intro a hE
     refine l_step rfl (o_call hE rfl rfl rfl rfl ent_108 (full_spec (p := x104) hI ⟨_, rfl, he109, ho110⟩) ?_)
     clear hI hE a
     rintro r w ⟨rfl, hI⟩ a hE
     obtain ⟨bf118, hbf119⟩ : ∃ b, decide (8 ≤ x104.ents.length) = b := ⟨_, rfl⟩
     rw [hbf119] at hE
     replace hbf119 : bf118 = true ↔ (8 ≤ x104.ents.length) := by rw [← hbf119]; exact decide_eq_true_iff
     refine wnt ?_
     rcases Bool.eq_false_or_eq_true bf118 with rfl | rfl
     ·replace hbf119 := iff_t hbf119
      refine c_true hE rfl ?_
      refine wp_seq ?_
      refine wsr ?_
      refine zm hE ?_; clear hE a; intro a hE
      refine zl hE (f_loadA (vs := [_, _, _, _, _]) rfl agg_83 (hI.seg 2 rfl) rfl rfl) ?_; clear hE a; intro a hE
      refine zm hE ?_; clear hE a; intro a hE
      refine zl hE (f_loadA (vs := [_, _, _, _, _]) rfl agg_83 (hI.seg 0 rfl) rfl rfl) ?_; clear hE a; intro a hE
      refine l_step rfl (o_call hE rfl rfl rfl rfl ent_110 (split_spec (hI.bring 1) (hS.mono (hD1.trans hD108)) hT111 (p := x1) (x := x104) ⟨_, rfl, (DR.mono EnR.keeps he1 hD108), ho1⟩ (k := (childP x1 key : Nat)) (by omega) (by omega) ⟨_, rfl, he109, ho110⟩ (by omega) (by omega)) ?_)
      clear hI hE a
      rintro r w h a hE; rcases h with ⟨b121, hx120, rfl, D122, s127, hD123, hT124, hI⟩ | ⟨c125, o126, hx120, rfl, b132, D128, s131, hext133, hD129, hT130, hI⟩
      ·skip
       replace hI := hI.put_back 1
       try simp only [nrm, Value.cells] at hI
       have hext_hx120 := (split_ext ho110.len hx120).1
       have hlen_hx120 := (split_ext ho110.len hx120).2
       refine za hE ?_; clear hE a; intro a hE
       refine wnt ?_
       refine wsr ?_
       refine zm hE ?_; clear hE a; intro a hE
       refine zs hE (p_ifaceNil Tryd.underlying25 rfl rfl rfl) ?_; clear hE a; intro a hE
       refine wnt ?_
       refine c_false hE rfl ?_
       refine wp_skip ?_
       refine then_normal ?_
       refine wp_seq ?_
       refine wsr ?_
       refine zm hE ?_; clear hE a; intro a hE
       refine zs hE (p_fieldAddr (m := 0) rfl fo_83_0 rfl) ?_; clear hE a; intro a hE
       refine zl hE (f_load rfl scal_3 (hI.seg 2 rfl) rfl) ?_; clear hE a; intro a hE
       refine l_step rfl (o_call hE rfl rfl rfl rfl ent_88 (page_spec (hI.bring 1) (hS.mono ((hD1.trans hD108).trans hD123)) hT124 (x1.id)) ?_)
       clear hI hE a
       rintro r w h a hE; rcases h with ⟨x134, hx135, D136, e137, hD138, rfl, he139, ho140, hT141, hI⟩ | ⟨c142, o143, hx135, rfl, s144, hT141, hI⟩
       ·skip
        replace hI := hI.put_back 1
        try simp only [nrm, Value.cells] at hI
        have hlen_x134 := ho140.len
        obtain ⟨A145, c146, rfl, _⟩ := he139.slice
        refine zm hE ?_; clear hE a; intro a hE
        refine zx hE ?_; clear hE a; intro a hE
        refine zx hE ?_; clear hE a; intro a hE
        refine l_step rfl (f_store (l := [_, _, _, _, _]) (ss' := _ :: _ :: _ :: _) 2 hE hI rfl rfl rfl rfl rfl sz_83 (by simp [Value.cells, Value.oneCell', pgCells, rcCells, zPg]) rfl rfl rfl ?_)
        clear hI w; intro w hI
        refine za hE ?_; clear hE a; intro a hE
        refine wnt ?_
        refine wsr ?_
        refine zm hE ?_; clear hE a; intro a hE
        refine zs hE (p_ifaceNil Tryd.underlying25 rfl rfl rfl) ?_; clear hE a; intro a hE
        refine wnt ?_
        refine c_false hE rfl ?_
        refine wp_skip ?_
        refine then_normal ?_
        refine wp_exit ?_
        refine then_exit ?_
        refine blk_same ?_
        refine then_normal ?_
        refine wp_region_list ?_
        refine zs hE (p_arith (z := ((i + 1 : Nat) : Int)) rfl rfl (add_z (by omega) (by omega) (by omega))) ?_; clear hE a; intro a hE
        refine zm hE ?_; clear hE a; intro a hE
        refine wnt ?_
        replace hI := hI.erase 0
        replace hI := hI.bring 2
        replace hI := hI.bring 2
        replace hI := hI.bring 2
        exact ⟨(D136, i + 1, b121, _, x134, _), hE.pick [0, 1, 4, 6, 38], ⟨by show i + 1 ≤ _; omega, (((hD1.trans hD108).trans hD123).trans hD138), (hx1.trans hext_hx120), heq.trans (by rw [show 34 - i = (34 - (i + 1)) + 1 by omega]; simp only [Bt.roomF, hx102, hx105, hx120, hx135, eq_false (show ¬ (x1.level = 0) by omega), eq_true (show 8 ≤ x104.ents.length by omega), ite_true, ite_false, if_true, if_false]), by show (b121).recs.length ≤ b.recs.length + 17 + 14 * (i + 1); omega, he139, ho140, hT141, hI⟩, by show 34 - (i + 1) < 34 - i; omega⟩
       replace hI := hI.put_back 1
       try simp only [nrm, Value.cells] at hI
       refine zm hE ?_; clear hE a; intro a hE
       refine zx hE ?_; clear hE a; intro a hE
       refine zx hE ?_; clear hE a; intro a hE
       refine l_step rfl (f_store (l := [_, _, _, _, _]) (ss' := _ :: _ :: _ :: _) 2 hE hI rfl rfl rfl rfl rfl sz_83 (by simp [Value.cells, Value.oneCell', pgCells, rcCells, zPg]) rfl rfl rfl ?_)
       clear hI w; intro w hI
       refine za hE ?_; clear hE a; intro a hE
       refine wnt ?_
       refine wsr ?_
       refine zm hE ?_; clear hE a; intro a hE
       refine zs hE (p_ifaceNil Tryd.underlying25 rfl rfl rfl) ?_; clear hE a; intro a hE
       refine wnt ?_
       refine c_true hE rfl ?_
       refine wsr ?_
       refine zs hE (f_build (vs := []) (l := [_, _, _, _, _]) rfl built_83 rfl) ?_; clear hE a; intro a hE
       refine zm hE ?_; clear hE a; intro a hE
       refine l_step rfl (f_store (l := [_, _, _, _, _]) (ss' := _ :: _ :: _ :: _ :: _) 3 hE hI rfl rfl rfl rfl rfl sz_83 (by simp [Value.cells, Value.oneCell', pgCells, rcCells, zPg]) rfl rfl rfl ?_)
       clear hI w; intro w hI
       refine za hE ?_; clear hE a; intro a hE
       refine wnt ?_
       refine wp_ret ?_
       refine then_ret ?_
       refine then_ret ?_
       refine blk_ret ?_
       refine then_ret ?_
       refine then_ret ?_
       refine blk_ret ?_
       refine then_ret ?_
       refine retc2 rfl hE rfl agg_83 (hI.seg 3 rfl) rfl rfl ?_
       replace hI := hI.erase 3
       replace hI := hI.erase 2
       replace hI := hI.erase 0
       exact .inr ⟨_, o143, heq.trans (by rw [show 34 - i = (34 - (i + 1)) + 1 by omega]; simp only [Bt.roomF, hx102, hx105, hx120, hx135, eq_false (show ¬ (x1.level = 0) by omega), eq_true (show 8 ≤ x104.ents.length by omega), ite_true, ite_false, if_true, if_false]), rfl, _, _, _, (hx1.trans hext_hx120), ((hD1.trans hD108).trans hD123), hT141, hI⟩
      replace hI := hI.put_back 1
      try simp only [nrm, Value.cells] at hI
      refine za hE ?_; clear hE a; intro a hE
      refine wnt ?_
      refine wsr ?_
      refine zm hE ?_; clear hE a; intro a hE
      refine zs hE (p_ifaceNil Tryd.underlying25 rfl rfl rfl) ?_; clear hE a; intro a hE
      refine wnt ?_
      refine c_true hE rfl ?_
      refine wsr ?_
      refine zs hE (f_build (vs := []) (l := [_, _, _, _, _]) rfl built_83 rfl) ?_; clear hE a; intro a hE
      refine zm hE ?_; clear hE a; intro a hE
      refine l_step rfl (f_store (l := [_, _, _, _, _]) (ss' := _ :: _ :: _ :: _ :: _) 3 hE hI rfl rfl rfl rfl rfl sz_83 (by simp [Value.cells, Value.oneCell', pgCells, rcCells, zPg]) rfl rfl rfl ?_)
      clear hI w; intro w hI
      refine za hE ?_; clear hE a; intro a hE
      refine wnt ?_
      refine wp_ret ?_
      refine then_ret ?_
      refine then_ret ?_
      refine blk_ret ?_
      refine then_ret ?_
      refine then_ret ?_
      refine blk_ret ?_
      refine then_ret ?_
      refine retc2 rfl hE rfl agg_83 (hI.seg 3 rfl) rfl rfl ?_
      replace hI := hI.erase 3
      replace hI := hI.erase 2
      replace hI := hI.erase 0
      exact .inr ⟨_, o126, heq.trans (by rw [show 34 - i = (34 - (i + 1)) + 1 by omega]; simp only [Bt.roomF, hx102, hx105, hx120, eq_false (show ¬ (x1.level = 0) by omega), eq_true (show 8 ≤ x104.ents.length by omega), ite_true, ite_false, if_true, if_false]), rfl, _, _, _, (hx1.trans hext133), ((hD1.trans hD108).trans hD129), hT130, hI⟩
     replace hbf119 := iff_f hbf119
     refine c_false hE rfl ?_
     refine wp_skip ?_
     refine then_normal ?_
     refine wp_region_list ?_
     refine zl hE (f_loadA (vs := [_, _, _, _, _]) rfl agg_83 (hI.seg 0 rfl) rfl rfl) ?_; clear hE a; intro a hE
     refine l_step rfl (f_store (l := [_, _, _, _, _]) (ss' := _ :: _ :: _ :: _) 2 hE hI rfl rfl rfl rfl rfl sz_83 (by simp [Value.cells, Value.oneCell', pgCells, rcCells, zPg]) rfl rfl rfl ?_)
     clear hI w; intro w hI
     refine wpList_nil ?_
     refine blk_normal ?_
     refine then_normal ?_
     refine wp_region_list ?_
     refine zs hE (p_arith (z := ((i + 1 : Nat) : Int)) rfl rfl (add_z (by omega) (by omega) (by omega))) ?_; clear hE a; intro a hE
     refine zm hE ?_; clear hE a; intro a hE
     refine wnt ?_
     replace hI := hI.erase 0
     replace hI := hI.bring 2
     replace hI := hI.bring 2
     replace hI := hI.bring 2
     exact ⟨(D106, i + 1, b1, _, x104, _), hE.pick [0, 1, 4, 6, 38], ⟨by show i + 1 ≤ _; omega, (hD1.trans hD108), hx1, heq.trans (by rw [show 34 - i = (34 - (i + 1)) + 1 by omega]; simp only [Bt.roomF, hx102, hx105, eq_false (show ¬ (x1.level = 0) by omega), eq_false (show ¬ (8 ≤ x104.ents.length) by omega), ite_true, ite_false, if_true, if_false]), by show (b1).recs.length ≤ b.recs.length + 17 + 14 * (i + 1); omega, he109, ho110, hT111, hI⟩, by show 34 - (i + 1) < 34 - i; omega⟩
    refine zm hE ?_; clear hE a; intro a hE
    refine zx hE ?_; clear hE a; intro a hE
    refine zx hE ?_; clear hE a; intro a hE
    refine l_step rfl (f_alloc (cs := #[.int .i64 0, .int .i64 0, .int .i64 0, .int .i64 0, .slice none 0 0]) hE hI rfl rfl rfl zer_83 rfl ?_)
    clear hI hE a w; intro a b147 w hE hI
    refine l_step rfl (f_store (l := [_, _, _, _, _]) (ss' := _ :: _) 0 hE hI rfl rfl rfl rfl rfl sz_83 (by simp [Value.cells, Value.oneCell', pgCells, rcCells, zPg]) rfl rfl rfl ?_)
    clear hI w; intro w hI
    refine za hE ?_; clear hE a; intro a hE
    refine wnt ?_
    refine wp_seq ?_
    refine wsr ?_
    refine zm hE ?_; clear hE a; intro a hE
    refine zs hE (p_ifaceNil Tryd.underlying25 rfl rfl rfl) ?_; clear hE a; intro a hE
    refine wnt ?_
    refine c_true hE rfl ?_
    refine wsr ?_
    refine zs hE (f_build (vs := []) (l := [_, _, _, _, _]) rfl built_83 rfl) ?_; clear hE a; intro a hE
    refine zm hE ?_; clear hE a; intro a hE
    refine l_step rfl (f_store (l := [_, _, _, _, _]) (ss' := _ :: _ :: _ :: _ :: _) 3 hE hI rfl rfl rfl rfl rfl sz_83 (by simp [Value.cells, Value.oneCell', pgCells, rcCells, zPg]) rfl rfl rfl ?_)
    clear hI w; intro w hI
    refine za hE ?_; clear hE a; intro a hE
    refine wnt ?_
    refine wp_ret ?_
    refine then_ret ?_
    refine blk_ret ?_
    refine then_ret ?_
    refine then_ret ?_
    refine blk_ret ?_
    refine then_ret ?_
    refine retc2 rfl hE rfl agg_83 (hI.seg 3 rfl) rfl rfl ?_
    replace hI := hI.erase 3
    replace hI := hI.erase 2
    replace hI := hI.erase 0
    exact .inr ⟨_, o113, heq.trans (by rw [show 34 - i = (34 - (i + 1)) + 1 by omega]; simp only [Bt.roomF, hx102, hx105, eq_false (show ¬ (x1.level = 0) by omega), ite_true, ite_false, if_true, if_false]), rfl, _, _, _, hx1, hD1, hT111, hI⟩
   refine zm hE ?_; clear hE a; intro a hE
   refine zx hE ?_; clear hE a; intro a hE
   refine zx hE ?_; clear hE a; intro a hE
   refine za hE ?_; clear hE a; intro a hE
   refine za hE ?_; clear hE a; intro a hE
   refine wnt ?_
   refine wp_seq ?_
   refine wsr ?_
   refine zm hE ?_; clear hE a; intro a hE
   refine zs hE (p_ifaceNil Tryd.underlying25 rfl rfl rfl) ?_; clear hE a; intro a hE
   refine wnt ?_
   refine c_true hE rfl ?_
   refine wsr ?_
   refine zs hE (f_build (vs := []) (l := [_, _, _, _, _]) rfl built_83 rfl) ?_; clear hE a; intro a hE
   refine zm hE ?_; clear hE a; intro a hE
   refine l_step rfl (f_store (l := [_, _, _, _, _]) (ss' := _ :: _ :: _ :: _) 2 hE hI rfl rfl rfl rfl rfl sz_83 (by simp [Value.cells, Value.oneCell', pgCells, rcCells, zPg]) rfl rfl rfl ?_)
   clear hI w; intro w hI
   refine za hE ?_; clear hE a; intro a hE
   refine wnt ?_
   refine wp_ret ?_
   refine then_ret ?_
   refine blk_ret ?_
   refine then_ret ?_
   refine then_ret ?_
   refine blk_ret ?_
   refine then_ret ?_
   refine retc2 rfl hE rfl agg_83 (hI.seg 2 rfl) rfl rfl ?_
   replace hI := hI.erase 2
   replace hI := hI.erase 1
   exact .inr ⟨_, none, heq.trans (by rw [show 34 - i = (34 - (i + 1)) + 1 by omega]; simp only [Bt.roomF, hx103, eq_false (show ¬ (x1.level = 0) by omega), ite_true, ite_false, if_true, if_false]), rfl, _, _, _, hx1, hD1, hT1, hI⟩
  intro hlt; replace hlt := lss_f hlt; clear hE a; intro a hE
  refine wnt ?_
  refine wp_seq ?_
  refine c_false hE rfl ?_
  refine wp_exit ?_
  refine then_exit ?_
  refine then_exit ?_
  refine blk_same ?_
  refine then_normal ?_
  refine wp_seq ?_
  refine d_start [] [] (by kernel_rfl) hI rfl rfl ?_
  clear hI w; intro w hI
  refine dp 0 hE rfl (f_build (vs := []) (l := [_, _, _, _, _]) rfl built_83 rfl) (fun _ => hI) (listed' := #[true, false, false, false]) ?_; clear hE a; intro a hE
  obtain ⟨T_148, fr_148, hg_148⟩ := hS.g103
  refine dl 1 hE rfl (fun w hS => f_load rfl scal_25 (Inv.data hS _ _ (hD1 _ _ (hg_148))) rfl) (hI) ?_; clear hE a; intro a hE
  refine do1 2 hE rfl ?_
  refine f_store (l := [_, _, _, _, _]) (ss' := _ :: _ :: _ :: _) 2 hE hI rfl rfl rfl rfl rfl sz_83 (by simp [Value.cells, Value.oneCell', pgCells, rcCells, zPg]) rfl rfl rfl ?_
  clear hI w; intro w hI
  refine ⟨fun _ => hI, ?_⟩
  refine dp 3 hE rfl (p_assign rfl) (fun _ => hI) ?_; clear hE a; intro a hE
  refine d_done (by kernel_rfl) ?_
  refine then_normal ?_
  refine wp_ret ?_
  refine retc2 rfl hE rfl agg_83 (hI.seg 2 rfl) rfl rfl ?_
  replace hI := hI.erase 2
  replace hI := hI.erase 1
  exact .inr ⟨103, none, by rw [heq, show 34 - i = 0 by omega]; rfl, rfl, _, _, _, hx1, hD1, hT1, hI⟩
 replace hI := hI.put_back 1
 try simp only [nrm, Value.cells] at hI
 refine zm hE ?_; clear hE a; intro a hE
 refine zx hE ?_; clear hE a; intro a hE
 refine zx hE ?_; clear hE a; intro a hE
 refine l_step rfl (f_alloc (cs := #[.int .i64 0, .int .i64 0, .int .i64 0, .int .i64 0, .slice none 0 0]) hE hI rfl rfl rfl zer_83 rfl ?_)
 clear hI hE a w; intro a b149 w hE hI
 refine l_step rfl (f_store (l := [_, _, _, _, _]) (ss' := _ :: _) 0 hE hI rfl rfl rfl rfl rfl sz_83 (by simp [Value.cells, Value.oneCell', pgCells, rcCells, zPg]) rfl rfl rfl ?_)
 clear hI w; intro w hI
 refine za hE ?_; clear hE a; intro a hE
 refine wnt ?_
 refine wp_seq ?_
 refine wsr ?_
 refine zm hE ?_; clear hE a; intro a hE
 refine zs hE (p_ifaceNil Tryd.underlying25 rfl rfl rfl) ?_; clear hE a; intro a hE
 refine zm hE ?_; clear hE a; intro a hE
 refine zk hE ?_; clear hE a; intro a hE
 refine zk hE ?_; clear hE a; intro a hE
 refine zs hE (p_pick (b := false) rfl rfl) ?_; clear hE a; intro a hE
 refine wnt ?_
 refine c_false hE rfl ?_
 refine wp_skip ?_
 refine then_normal ?_
 refine wp_seq ?_
 refine wsr ?_
 refine zm hE ?_; clear hE a; intro a hE
 refine zs hE (p_ifaceNil Tryd.underlying25 rfl rfl rfl) ?_; clear hE a; intro a hE
 refine wnt ?_
 refine c_true hE rfl ?_
 refine wsr ?_
 refine zs hE (f_build (vs := []) (l := [_, _, _, _, _]) rfl built_83 rfl) ?_; clear hE a; intro a hE
 refine zm hE ?_; clear hE a; intro a hE
 refine l_step rfl (f_store (l := [_, _, _, _, _]) (ss' := _ :: _ :: _) 1 hE hI rfl rfl rfl rfl rfl sz_83 (by simp [Value.cells, Value.oneCell', pgCells, rcCells, zPg]) rfl rfl rfl ?_)
 clear hI w; intro w hI
 refine za hE ?_; clear hE a; intro a hE
 refine wnt ?_
 refine wp_ret ?_
 refine then_ret ?_
 refine retc2 rfl hE rfl agg_83 (hI.seg 1 rfl) rfl rfl ?_
 replace hI := hI.erase 1
 replace hI := hI.erase 0
 exact .inr ⟨_, _, by simp only [Bt.room, hx5, ite_true, ite_false, if_true, if_false], rfl, _, _, _, (Ext.refl _), (Le.refl _), hT11, hI⟩
theorem down_spec {w0 w : World} {D : Sto} {ss : List Seg} {s : Seg} {vb vp : Value} {b : Bt} {P : Pl} (hI : Inv w0 D (s :: ss) w) {ad : Nat → Addr} (hS : TSents D ad) (hT : TreeS D vb vp b P s) {vk : Value} {key : Bs} (hk : RB D vk key) :
  Calls Tryd.prog 70 #[vb, vk] w (Ret fun r w' => (∃ l ks, b.down key = .ok (l, ks) ∧ l ≠ [] ∧ l.length = ks.length + 1 ∧ ∃ D' vl vks, Le D D' ∧ r = .tuple #[vl, vks, .nilIface] ∧ DR 5 PgR D' vl l ∧ DR 1 NaR D' vks ks ∧ TreeS D' vb vp b P s ∧ Inv w0 D' (s :: ss) w') ∨ (∃ c o, b.down key = .fail c o ∧ r = .tuple #[.slice none 0 0, .slice none 0 0, errV ad c] ∧ ∃ D' s', Le D D' ∧ TreeS D' vb vp b (P.after o) s' ∧ Inv w0 D' (s' :: ss) w')) := by
 obtain ⟨A1, c2, rfl, _⟩ := hk.slice
 refine enter (N := 51) Tryd.func70 rfl rfl rfl ?_
 intro a hE
 refine wsr ?_
 refine za hE ?_; clear hE a; intro a hE
 refine za hE ?_; clear hE a; intro a hE
 refine za hE ?_; clear hE a; intro a hE
 refine wnt ?_
 refine wsr ?_
 refine za hE ?_; clear hE a; intro a hE
 refine wnt ?_
 refine wsr ?_
 refine za hE ?_; clear hE a; intro a hE
 refine wnt ?_
 refine wsr ?_
 refine za hE ?_; clear hE a; intro a hE
 refine wnt ?_
 refine wp_seq ?_
 refine wsr ?_
 refine zm hE ?_; clear hE a; intro a hE
 refine wnt ?_
 refine wp_block ?_
 replace hI : Inv w0 D (s :: [] :: [] :: ss) w := hI.perm (List.Perm.refl _)
 refine c_loop (X := Sto × Nat × Int × List Pg × List Nat × Value × Value × Seg × Seg) (fun x => [(0, _), (1, _), (7, x.2.2.2.2.2.1), (8, x.2.2.2.2.2.2.1), (9, .int .i64 x.2.2.1), (13, .int .i64 (x.2.1 : Nat))]) (fun x w => x.2.1 ≤ 17 ∧ Le D x.1 ∧ b.down key = b.downF key (17 - x.2.1) x.2.2.1 x.2.2.2.1 x.2.2.2.2.1 ∧ x.2.2.2.1.length = x.2.1 ∧ x.2.2.2.2.1.length = x.2.1 ∧ OR 5 PgR x.1 83 x.2.2.2.2.2.1 x.2.2.2.1 x.2.2.2.2.2.2.2.1 ∧ OR 1 NaR x.1 3 x.2.2.2.2.2.2.1 x.2.2.2.2.1 x.2.2.2.2.2.2.2.2 ∧ TreeS x.1 vb vp b P s ∧ Inv w0 x.1 (s :: x.2.2.2.2.2.2.2.1 :: x.2.2.2.2.2.2.2.2 :: ss) w) (fun x => 17 - x.2.1) (D, 0, 0, [], [], .slice none 0 0, .slice none 0 0, [], []) (hE.pick [0, 1, 7, 8, 9, 13]) ⟨Nat.zero_le _, Le.refl _, rfl, rfl, rfl, OR.nil _ _ _ _, OR.nil _ _ _ _, hT, hI⟩ ?_
 clear hE hI a w
 rintro ⟨D1, i, id, l, ks, vl, vk2, sl, sk⟩ a w hE ⟨hi, hD1, heq, hll, hlk, hOl, hOk, hT1, hI⟩
 try dsimp only at hE
 try dsimp only at hi
 try dsimp only at hD1
 try dsimp only at heq
 try dsimp only at hll
 try dsimp only at hlk
 try dsimp only at hOl
 try dsimp only at hOk
 try dsimp only at hT1
 try dsimp only at hI
 obtain ⟨A3, c4, rfl, _⟩ := hOl.slice
 obtain ⟨A5, c6, rfl, _⟩ := hOk.slice
 refine wsr ?_
 refine l_step rfl (o_cmp hE rfl rfl rfl rfl rfl rfl ?_ ?_)
 ·intro hlt; replace hlt := lss_t hlt; clear hE a; intro a hE
  refine wnt ?_
  refine wp_seq ?_
  refine c_true hE rfl ?_
  refine wp_skip ?_
  refine then_normal ?_
  refine wp_seq ?_
  refine wp_block ?_
  refine wsr ?_
  refine zm hE ?_; clear hE a; intro a hE
  refine zm hE ?_; clear hE a; intro a hE
  refine l_step rfl (o_call hE rfl rfl rfl rfl ent_88 (page_spec hI (hS.mono hD1) hT1 (id)) ?_)
  clear hI hE a
  rintro r w h a hE; rcases h with ⟨x7, hx8, D9, e10, hD11, rfl, he12, ho13, hT14, hI⟩ | ⟨c15, o16, hx8, rfl, s17, hT14, hI⟩
  ·skip
   have hlen_x7 := ho13.len
   obtain ⟨A18, c19, rfl, _⟩ := he12.slice
   refine zm hE ?_; clear hE a; intro a hE
   refine zx hE ?_; clear hE a; intro a hE
   refine zx hE ?_; clear hE a; intro a hE
   refine l_step rfl (f_alloc (cs := #[.int .i64 0, .int .i64 0, .int .i64 0, .int .i64 0, .slice none 0 0]) hE hI rfl rfl rfl zer_83 rfl ?_)
   clear hI hE a w; intro a b20 w hE hI
   refine l_step rfl (f_store (l := [_, _, _, _, _]) (ss' := _ :: _) 0 hE hI rfl rfl rfl rfl rfl sz_83 (by simp [Value.cells, Value.oneCell', pgCells, rcCells, zPg]) rfl rfl rfl ?_)
   clear hI w; intro w hI
   refine za hE ?_; clear hE a; intro a hE
   refine wnt ?_
   refine wp_seq ?_
   refine wsr ?_
   refine zm hE ?_; clear hE a; intro a hE
   refine zs hE (p_ifaceNil Tryd.underlying25 rfl rfl rfl) ?_; clear hE a; intro a hE
   refine wnt ?_
   refine c_false hE rfl ?_
   refine wp_skip ?_
   refine then_normal ?_
   refine wsr ?_
   refine zm hE ?_; clear hE a; intro a hE
   refine zl hE (f_loadA (vs := [_, _, _, _, _]) rfl agg_83 (hI.seg 0 rfl) rfl rfl) ?_; clear hE a; intro a hE
   refine l_step rfl (f_lit (vs := [(0, _)]) (l := [_, _, _, _, _]) hE hI rfl rfl rfl rfl Tryd.underlying121 zs_83 rfl rfl rfl ?_)
   clear hI hE a w; intro a b21 w hE hI
   refine l_step rfl (o_appendOR (R := PgR) (el := x7) 3 0 hE hI rfl rfl rfl rfl rfl Tryd.underlying121 zsb_83 rfl rfl rfl (OR.mono PgR.keeps hOl hD11) rfl rfl (⟨_, rfl, he12, ho13⟩) (by simp [Value.oneCell']) (by omega) (by omega) ?_)
   clear hI hE a w; intro v22 s23 w hO24 hI a hE
   obtain ⟨A25, c26, rfl, _⟩ := hO24.slice
   replace hI := hI.erase 0
   try simp only [nrm, Value.cells] at hI
   refine za hE ?_; clear hE a; intro a hE
   refine wnt ?_
   refine wp_seq ?_
   refine wsr ?_
   refine zs hE (p_fieldAddr (m := 2) rfl fo_83_2 rfl) ?_; clear hE a; intro a hE
   refine zl hE (f_load rfl scal_3 (hI.seg 0 rfl) rfl) ?_; clear hE a; intro a hE
   refine l_step rfl (o_cmp hE rfl rfl rfl rfl rfl rfl ?_ ?_)
   ·intro hlv; replace hlv := eql_t hlv; clear hE a; intro a hE
    refine wnt ?_
    refine c_true hE rfl ?_
    refine wsr ?_
    refine zm hE ?_; clear hE a; intro a hE
    refine zm hE ?_; clear hE a; intro a hE
    refine za hE ?_; clear hE a; intro a hE
    refine za hE ?_; clear hE a; intro a hE
    refine za hE ?_; clear hE a; intro a hE
    refine wnt ?_
    refine wp_ret ?_
    refine then_ret ?_
    refine blk_ret ?_
    refine then_ret ?_
    refine then_ret ?_
    refine blk_ret ?_
    refine then_ret ?_
    refine ret3 rfl hE rfl rfl rfl ?_
    replace hI := hI.erase 0
    replace hI := hI.bring 2
    replace hI := hI.bring 2
    replace hI := hI.bring 2
    obtain ⟨hIz, hDz⟩ := hI.shut_at 1 rfl
    obtain ⟨hIy, hDy⟩ := hIz.shut_at 1 rfl
    exact .inl ⟨l ++ [x7], ks, heq.trans (by rw [show 17 - i = (17 - (i + 1)) + 1 by omega]; simp only [Bt.downF, hx8, eq_true (show x7.level = 0 by omega), ite_true, if_true]), by simp, by simp [hll, hlk], _, _, _, ((hD1.trans hD11).trans (hDz.trans hDy)), rfl, (hO24.shut PgR.keeps hDz).mono PgR.keeps hDy, (OR.mono NaR.keeps (OR.mono NaR.keeps hOk hD11) hDz).shut NaR.keeps hDy, hT14.mono (hDz.trans hDy), hIy⟩
   intro hlv; replace hlv := eql_f hlv; clear hE a; intro a hE
   refine wnt ?_
   refine c_false hE rfl ?_
   refine wp_skip ?_
   refine then_normal ?_
   refine wsr ?_
   refine zl hE (f_loadA (vs := [_, _, _, _, _]) rfl agg_83 (hI.seg 0 rfl) rfl rfl) ?_; clear hE a; intro a hE
   refine zm hE ?_; clear hE a; intro a hE
   refine l_step rfl (o_call hE rfl rfl rfl rfl ent_105 (child_spec (p := x7) hI ⟨_, rfl, he12, ho13⟩ (hk.mono (hD1.trans hD11))) ?_)
   clear hI hE a
   rintro r w ⟨rfl, hI⟩ a hE
   have hcl27 := childP_le x7 key
   refine za hE ?_; clear hE a; intro a hE
   refine wnt ?_
   refine wp_seq ?_
   refine wsr ?_
   refine zl hE (f_loadA (vs := [_, _, _, _, _]) rfl agg_83 (hI.seg 0 rfl) rfl rfl) ?_; clear hE a; intro a hE
   refine zm hE ?_; clear hE a; intro a hE
   refine l_step rfl (o_call hE rfl rfl rfl rfl ent_106 (at_spec (p := x7) hI (hS.mono (hD1.trans hD11)) ⟨_, rfl, he12, ho13⟩ (childP x7 key)) ?_)
   clear hI hE a
   rintro r w h a hE; rcases h with ⟨id28, hx29, rfl, hI⟩ | ⟨hx30, rfl, hI⟩
   ·skip
    refine zm hE ?_; clear hE a; intro a hE
    refine zx hE ?_; clear hE a; intro a hE
    refine zx hE ?_; clear hE a; intro a hE
    refine za hE ?_; clear hE a; intro a hE
    refine za hE ?_; clear hE a; intro a hE
    refine wnt ?_
    refine wsr ?_
    refine zm hE ?_; clear hE a; intro a hE
    refine zs hE (p_ifaceNil Tryd.underlying25 rfl rfl rfl) ?_; clear hE a; intro a hE
    refine wnt ?_
    refine c_false hE rfl ?_
    refine wp_skip ?_
    refine then_normal ?_
    refine wp_region_list ?_
    refine zm hE ?_; clear hE a; intro a hE
    refine zm hE ?_; clear hE a; intro a hE
    refine l_step rfl (f_lit (vs := [(0, _)]) (l := [_]) hE hI rfl rfl rfl rfl Tryd.underlying97 zs_3 rfl rfl rfl ?_)
    clear hI hE a w; intro a b31 w hE hI
    refine l_step rfl (o_appendOR (R := NaR) (el := childP x7 key) 4 0 hE hI rfl rfl rfl rfl rfl Tryd.underlying97 zsb_3 rfl rfl rfl (OR.mono NaR.keeps hOk hD11) rfl rfl (rfl) (by simp [Value.oneCell']) (by omega) (by omega) ?_)
    clear hI hE a w; intro v32 s33 w hO34 hI a hE
    obtain ⟨A35, c36, rfl, _⟩ := hO34.slice
    replace hI := hI.erase 0
    try simp only [nrm, Value.cells] at hI
    refine za hE ?_; clear hE a; intro a hE
    refine wpList_nil ?_
    refine blk_normal ?_
    refine then_normal ?_
    refine wp_region_list ?_
    refine zs hE (p_arith (z := ((i + 1 : Nat) : Int)) rfl rfl (add_z (by omega) (by omega) (by omega))) ?_; clear hE a; intro a hE
    refine zm hE ?_; clear hE a; intro a hE
    refine wnt ?_
    replace hI := hI.erase 0
    replace hI := hI.bring 2
    replace hI := hI.bring 2
    replace hI := hI.bring 2
    exact ⟨(D9, i + 1, id28, l ++ [x7], ks ++ [childP x7 key], _, _, _, _), hE.pick [0, 1, 7, 8, 9, 13], ⟨by show i + 1 ≤ _; omega, (hD1.trans hD11), heq.trans (by rw [show 17 - i = (17 - (i + 1)) + 1 by omega]; simp only [Bt.downF, hx8, hx29, eq_false (show ¬ (x7.level = 0) by omega), ite_false, if_false]), by show (l ++ [_]).length = i + 1; simp [hll], by show (ks ++ [_]).length = i + 1; simp [hlk], hO24, hO34, hT14, hI⟩, by show 17 - (i + 1) < 17 - i; omega⟩
   refine zm hE ?_; clear hE a; intro a hE
   refine zx hE ?_; clear hE a; intro a hE
   refine zx hE ?_; clear hE a; intro a hE
   refine za hE ?_; clear hE a; intro a hE
   refine za hE ?_; clear hE a; intro a hE
   refine wnt ?_
   refine wsr ?_
   refine zm hE ?_; clear hE a; intro a hE
   refine zs hE (p_ifaceNil Tryd.underlying25 rfl rfl rfl) ?_; clear hE a; intro a hE
   refine wnt ?_
   refine c_true hE rfl ?_
   refine wsr ?_
   refine zm hE ?_; clear hE a; intro a hE
   refine za hE ?_; clear hE a; intro a hE
   refine za hE ?_; clear hE a; intro a hE
   refine za hE ?_; clear hE a; intro a hE
   refine wnt ?_
   refine wp_ret ?_
   refine then_ret ?_
   refine blk_ret ?_
   refine then_ret ?_
   refine then_ret ?_
   refine blk_ret ?_
   refine then_ret ?_
   refine ret3 rfl hE rfl rfl rfl ?_
   replace hI := hI.erase 3
   replace hI := hI.erase 2
   replace hI := hI.erase 0
   exact .inr ⟨_, none, heq.trans (by rw [show 17 - i = (17 - (i + 1)) + 1 by omega]; simp only [Bt.downF, hx8, hx30, eq_false (show ¬ (x7.level = 0) by omega), ite_false, if_false]), rfl, _, _, (hD1.trans hD11), hT14, hI⟩
  refine zm hE ?_; clear hE a; intro a hE
  refine zx hE ?_; clear hE a; intro a hE
  refine zx hE ?_; clear hE a; intro a hE
  refine l_step rfl (f_alloc (cs := #[.int .i64 0, .int .i64 0, .int .i64 0, .int .i64 0, .slice none 0 0]) hE hI rfl rfl rfl zer_83 rfl ?_)
  clear hI hE a w; intro a b37 w hE hI
  refine l_step rfl (f_store (l := [_, _, _, _, _]) (ss' := _ :: _) 0 hE hI rfl rfl rfl rfl rfl sz_83 (by simp [Value.cells, Value.oneCell', pgCells, rcCells, zPg]) rfl rfl rfl ?_)
  clear hI w; intro w hI
  refine za hE ?_; clear hE a; intro a hE
  refine wnt ?_
  refine wp_seq ?_
  refine wsr ?_
  refine zm hE ?_; clear hE a; intro a hE
  refine zs hE (p_ifaceNil Tryd.underlying25 rfl rfl rfl) ?_; clear hE a; intro a hE
  refine wnt ?_
  refine c_true hE rfl ?_
  refine wsr ?_
  refine zm hE ?_; clear hE a; intro a hE
  refine za hE ?_; clear hE a; intro a hE
  refine za hE ?_; clear hE a; intro a hE
  refine za hE ?_; clear hE a; intro a hE
  refine wnt ?_
  refine wp_ret ?_
  refine then_ret ?_
  refine blk_ret ?_
  refine then_ret ?_
  refine then_ret ?_
  refine blk_ret ?_
  refine then_ret ?_
  refine ret3 rfl hE rfl rfl rfl ?_
  replace hI := hI.erase 3
  replace hI := hI.erase 2
  replace hI := hI.erase 0
  exact .inr ⟨_, o16, heq.trans (by rw [show 17 - i = (17 - (i + 1)) + 1 by omega]; simp only [Bt.downF, hx8, ite_true, ite_false, if_false]), rfl, _, _, hD1, hT14, hI⟩
 intro hlt; replace hlt := lss_f hlt; clear hE a; intro a hE
 refine wnt ?_
 refine wp_seq ?_
 refine c_false hE rfl ?_
 refine wp_exit ?_
 refine then_exit ?_
 refine then_exit ?_
 refine blk_same ?_
 refine then_normal ?_
 refine wp_seq ?_
 refine d_start [] [] (by kernel_rfl) hI rfl rfl ?_
 clear hI w; intro w hI
 obtain ⟨T_38, fr_38, hg_38⟩ := hS.g103
 refine dl 0 hE rfl (fun w hS => f_load rfl scal_25 (Inv.data hS _ _ (hD1 _ _ (hg_38))) rfl) (hI) (listed' := #[true, false, false, false]) ?_; clear hE a; intro a hE
 refine dp 1 hE rfl (p_assign rfl) (fun _ => hI) ?_; clear hE a; intro a hE
 refine dp 2 hE rfl (p_assign rfl) (fun _ => hI) ?_; clear hE a; intro a hE
 refine dp 3 hE rfl (p_assign rfl) (fun _ => hI) ?_; clear hE a; intro a hE
 refine d_done (by kernel_rfl) ?_
 refine then_normal ?_
 refine wp_ret ?_
 refine ret3 rfl hE rfl rfl rfl ?_
 replace hI := hI.erase 2
 replace hI := hI.erase 1
 exact .inr ⟨103, none, by rw [heq, show 17 - i = 0 by omega]; rfl, rfl, _, _, hD1, hT1, hI⟩
theorem sink_spec {w0 w : World} {D : Sto} {ss : List Seg} {s : Seg} {vb vp : Value} {b : Bt} {P : Pl} (hI : Inv w0 D (s :: ss) w) {ad : Nat → Addr} (hS : TSents D ad) (hT : TreeS D vb vp b P s) (hlen : b.recs.length ≤ 1000000000 - 4000) :
  Calls Tryd.prog 100 #[vb] w (Ret fun r w' => (∃ b', b.sink = .ok b' ∧ r = .nilIface ∧ ∃ D' s', Le D D' ∧ TreeS D' vb vp b' P s' ∧ Inv w0 D' (s' :: ss) w') ∨ (∃ c o, b.sink = .fail c o ∧ r = errV ad c ∧ ∃ b' D' s', Ext b b' ∧ Le D D' ∧ TreeS D' vb vp b' (P.after o) s' ∧ Inv w0 D' (s' :: ss) w')) := by
 refine enter (N := 61) Tryd.func100 rfl rfl rfl ?_
 intro a hE
 refine wsr ?_
 refine za hE ?_; clear hE a; intro a hE
 refine wnt ?_
 refine wp_seq ?_
 refine wsr ?_
 refine zm hE ?_; clear hE a; intro a hE
 refine wnt ?_
 refine wp_block ?_
 refine c_loop (X := Sto × Nat × Bt × Seg) (fun x => [(0, _), (9, .int .i64 (x.2.1 : Nat))]) (fun x w => x.2.1 ≤ 17 ∧ Le D x.1 ∧ Ext b x.2.2.1 ∧ b.sink = Bt.sinkF (17 - x.2.1) x.2.2.1 ∧ x.2.2.1.recs.length ≤ b.recs.length + 13 * x.2.1 ∧ TreeS x.1 vb vp x.2.2.1 P x.2.2.2 ∧ Inv w0 x.1 (x.2.2.2 :: ss) w) (fun x => 17 - x.2.1) (D, 0, b, s) (hE.pick [0, 9]) ⟨Nat.zero_le _, Le.refl _, Ext.refl _, rfl, by show b.recs.length ≤ b.recs.length + 13 * 0; omega, hT, hI⟩ ?_
 clear hE hI a w
 rintro ⟨D1, i, b1, s1⟩ a w hE ⟨hi, hD1, hx1, heq, hlen1, hT1, hI⟩
 try dsimp only at hE
 try dsimp only at hi
 try dsimp only at hD1
 try dsimp only at hx1
 try dsimp only at heq
 try dsimp only at hlen1
 try dsimp only at hT1
 try dsimp only at hI
 refine wsr ?_
 refine l_step rfl (o_cmp hE rfl rfl rfl rfl rfl rfl ?_ ?_)
 ·intro hlt; replace hlt := lss_t hlt; clear hE a; intro a hE
  refine wnt ?_
  refine wp_seq ?_
  refine c_true hE rfl ?_
  refine wp_skip ?_
  refine then_normal ?_
  refine wp_seq ?_
  refine wp_block ?_
  refine wsr ?_
  refine zm hE ?_; clear hE a; intro a hE
  refine l_step rfl (o_call hE rfl rfl rfl rfl ent_88 (page_spec hI (hS.mono hD1) hT1 (0)) ?_)
  clear hI hE a
  rintro r w h a hE; rcases h with ⟨x1, hx2, D3, e4, hD5, rfl, he6, ho7, hT8, hI⟩ | ⟨c9, o10, hx2, rfl, s11, hT8, hI⟩
  ·skip
   have hlen_x1 := ho7.len
   obtain ⟨A12, c13, rfl, _⟩ := he6.slice
   refine zm hE ?_; clear hE a; intro a hE
   refine zx hE ?_; clear hE a; intro a hE
   refine zx hE ?_; clear hE a; intro a hE
   refine l_step rfl (f_alloc (cs := #[.int .i64 0, .int .i64 0, .int .i64 0, .int .i64 0, .slice none 0 0]) hE hI rfl rfl rfl zer_83 rfl ?_)
   clear hI hE a w; intro a b14 w hE hI
   refine l_step rfl (f_store (l := [_, _, _, _, _]) (ss' := _ :: _) 0 hE hI rfl rfl rfl rfl rfl sz_83 (by simp [Value.cells, Value.oneCell', pgCells, rcCells, zPg]) rfl rfl rfl ?_)
   clear hI w; intro w hI
   refine za hE ?_; clear hE a; intro a hE
   refine wnt ?_
   refine wp_seq ?_
   refine wsr ?_
   refine zm hE ?_; clear hE a; intro a hE
   refine zs hE (p_ifaceNil Tryd.underlying25 rfl rfl rfl) ?_; clear hE a; intro a hE
   refine wnt ?_
   refine c_false hE rfl ?_
   refine wp_skip ?_
   refine then_normal ?_
   refine wp_seq ?_
   refine wsr ?_
   refine zs hE (p_fieldAddr (m := 2) rfl fo_83_2 rfl) ?_; clear hE a; intro a hE
   refine zl hE (f_load rfl scal_3 (hI.seg 0 rfl) rfl) ?_; clear hE a; intro a hE
   refine l_step rfl (o_cmp hE rfl rfl rfl rfl rfl rfl ?_ ?_)
   ·intro hlv; replace hlv := eql_t hlv; clear hE a; intro a hE
    refine zm hE ?_; clear hE a; intro a hE
    refine zk hE ?_; clear hE a; intro a hE
    refine zk hE ?_; clear hE a; intro a hE
    refine zk hE ?_; clear hE a; intro a hE
    refine zk hE ?_; clear hE a; intro a hE
    refine zs hE (p_pick (b := true) rfl rfl) ?_; clear hE a; intro a hE
    refine wnt ?_
    refine c_true hE rfl ?_
    refine wsr ?_
    refine za hE ?_; clear hE a; intro a hE
    refine wnt ?_
    refine wp_ret ?_
    refine then_ret ?_
    refine blk_ret ?_
    refine then_ret ?_
    refine then_ret ?_
    refine blk_ret ?_
    refine then_ret ?_
    refine ret1 rfl hE rfl ?_
    replace hI := hI.erase 0
    exact .inl ⟨b1, heq.trans (by rw [show 17 - i = (17 - (i + 1)) + 1 by omega]; simp only [Bt.sinkF, hx2, eq_true (show x1.level = 0 ∨ x1.ents.length ≠ 1 by omega), ite_true, if_true]), rfl, _, _, (hD1.trans hD5), hT8, hI⟩
   intro hlv; replace hlv := eql_f hlv; clear hE a; intro a hE
   refine zm hE ?_; clear hE a; intro a hE
   refine gs hE (p_fieldAddr (m := 4) rfl fo_83_4 rfl) ?_; clear hE a; intro a hE
   refine gl hE (f_load rfl scal_65 (hI.seg 0 rfl) rfl) ?_; clear hE a; intro a hE
   refine gs hE (p_len rfl rfl Tryd.underlying65) ?_; clear hE a; intro a hE
   refine l_go hE rfl (o_cmp hE rfl rfl rfl rfl rfl rfl ?_ ?_)
   ·intro hl1; replace hl1 := neq_t hl1; clear hE a; intro a hE
    refine zs hE (p_pick (b := false) rfl rfl) ?_; clear hE a; intro a hE
    refine wnt ?_
    refine c_true hE rfl ?_
    refine wsr ?_
    refine za hE ?_; clear hE a; intro a hE
    refine wnt ?_
    refine wp_ret ?_
    refine then_ret ?_
    refine blk_ret ?_
    refine then_ret ?_
    refine then_ret ?_
    refine blk_ret ?_
    refine then_ret ?_
    refine ret1 rfl hE rfl ?_
    replace hI := hI.erase 0
    exact .inl ⟨b1, heq.trans (by rw [show 17 - i = (17 - (i + 1)) + 1 by omega]; simp only [Bt.sinkF, hx2, eq_true (show x1.level = 0 ∨ x1.ents.length ≠ 1 by omega), ite_true, if_true]), rfl, _, _, (hD1.trans hD5), hT8, hI⟩
   intro hl1; replace hl1 := neq_f hl1; clear hE a; intro a hE
   refine zs hE (p_pick (b := false) rfl rfl) ?_; clear hE a; intro a hE
   refine wnt ?_
   refine c_false hE rfl ?_
   refine wp_skip ?_
   refine then_normal ?_
   refine wsr ?_
   refine zl hE (f_loadA (vs := [_, _, _, _, _]) rfl agg_83 (hI.seg 0 rfl) rfl rfl) ?_; clear hE a; intro a hE
   refine l_step rfl (o_call hE rfl rfl rfl rfl ent_106 (at_spec (p := x1) hI (hS.mono (hD1.trans hD5)) ⟨_, rfl, he6, ho7⟩ (0)) ?_)
   clear hI hE a
   rintro r w h a hE; rcases h with ⟨id15, hx16, rfl, hI⟩ | ⟨hx17, rfl, hI⟩
   ·skip
    refine zm hE ?_; clear hE a; intro a hE
    refine zx hE ?_; clear hE a; intro a hE
    refine zx hE ?_; clear hE a; intro a hE
    refine za hE ?_; clear hE a; intro a hE
    refine za hE ?_; clear hE a; intro a hE
    refine wnt ?_
    refine wp_seq ?_
    refine wsr ?_
    refine zm hE ?_; clear hE a; intro a hE
    refine zs hE (p_ifaceNil Tryd.underlying25 rfl rfl rfl) ?_; clear hE a; intro a hE
    refine wnt ?_
    refine c_false hE rfl ?_
    refine wp_skip ?_
    refine then_normal ?_
    refine wsr ?_
    refine zm hE ?_; clear hE a; intro a hE
    refine zm hE ?_; clear hE a; intro a hE
    refine l_step rfl (o_call hE rfl rfl rfl rfl ent_88 (page_spec (hI.bring 1) (hS.mono (hD1.trans hD5)) hT8 (id15)) ?_)
    clear hI hE a
    rintro r w h a hE; rcases h with ⟨x18, hx19, D20, e21, hD22, rfl, he23, ho24, hT25, hI⟩ | ⟨c26, o27, hx19, rfl, s28, hT25, hI⟩
    ·skip
     replace hI := hI.put_back 1
     try simp only [nrm, Value.cells] at hI
     have hlen_x18 := ho24.len
     obtain ⟨A29, c30, rfl, _⟩ := he23.slice
     refine zm hE ?_; clear hE a; intro a hE
     refine zx hE ?_; clear hE a; intro a hE
     refine zx hE ?_; clear hE a; intro a hE
     refine l_step rfl (f_alloc (cs := #[.int .i64 0, .int .i64 0, .int .i64 0, .int .i64 0, .slice none 0 0]) hE hI rfl rfl rfl zer_83 rfl ?_)
     clear hI hE a w; intro a b31 w hE hI
     refine l_step rfl (f_store (l := [_, _, _, _, _]) (ss' := _ :: _) 0 hE hI rfl rfl rfl rfl rfl sz_83 (by simp [Value.cells, Value.oneCell', pgCells, rcCells, zPg]) rfl rfl rfl ?_)
     clear hI w; intro w hI
     refine za hE ?_; clear hE a; intro a hE
     refine wnt ?_
     refine wp_seq ?_
     refine wsr ?_
     refine zm hE ?_; clear hE a; intro a hE
     refine zs hE (p_ifaceNil Tryd.underlying25 rfl rfl rfl) ?_; clear hE a; intro a hE
     refine wnt ?_
     refine c_false hE rfl ?_
     refine wp_skip ?_
     refine then_normal ?_
     refine wp_seq ?_
     refine wsr ?_
     refine zm hE ?_; clear hE a; intro a hE
     refine zs hE (p_fieldAddr (m := 2) rfl fo_83_2 rfl) ?_; clear hE a; intro a hE
     refine zl hE (f_load rfl scal_3 (hI.seg 0 rfl) rfl) ?_; clear hE a; intro a hE
     refine zs hE (p_fieldAddr (m := 4) rfl fo_83_4 rfl) ?_; clear hE a; intro a hE
     refine zl hE (f_load rfl scal_65 (hI.seg 0 rfl) rfl) ?_; clear hE a; intro a hE
     refine l_step rfl (o_call hE rfl rfl rfl rfl ent_126 (fill_spec (hI.bring 2) (hS.mono ((hD1.trans hD5).trans hD22)) hT25 (l := x18.ents) he23 0 (level := x18.level) (next := -1) (by omega) (by have := ho24.v0; omega) (by have := ho24.v1; omega) (by omega) (by omega) (by omega)) ?_)
     clear hI hE a
     rintro r w h a hE; rcases h with ⟨b33, hx32, rfl, D34, s39, hD35, hT36, hI⟩ | ⟨c37, o38, hx32, rfl, b44, D40, s43, hext45, hD41, hT42, hI⟩
     ·skip
      replace hI := hI.put_back 2
      try simp only [nrm, Value.cells] at hI
      have hext_hx32 := (fill_ext hx32).1
      have hlen_hx32 := (fill_ext hx32).2
      refine za hE ?_; clear hE a; intro a hE
      refine wnt ?_
      refine wsr ?_
      refine zm hE ?_; clear hE a; intro a hE
      refine zs hE (p_ifaceNil Tryd.underlying25 rfl rfl rfl) ?_; clear hE a; intro a hE
      refine wnt ?_
      refine c_false hE rfl ?_
      refine wp_skip ?_
      refine then_normal ?_
      refine wsr ?_
      refine zm hE ?_; clear hE a; intro a hE
      refine zm hE ?_; clear hE a; intro a hE
      refine l_step rfl (o_call hE rfl rfl rfl rfl ent_125 (free_spec (hI.bring 2) (hS.mono (((hD1.trans hD5).trans hD22).trans hD35)) hT36 id15 (by omega)) ?_)
      clear hI hE a
      rintro r w h a hE; rcases h with ⟨b47, hx46, rfl, D48, s53, hD49, hT50, hI⟩ | ⟨c51, o52, hx46, rfl, b58, D54, s57, hext59, hD55, hT56, hI⟩
      ·skip
       replace hI := hI.put_back 2
       try simp only [nrm, Value.cells] at hI
       have hext_hx46 := (free_ext hx46).1
       have hlen_hx46 := (free_ext hx46).2
       refine za hE ?_; clear hE a; intro a hE
       refine wnt ?_
       refine wsr ?_
       refine zm hE ?_; clear hE a; intro a hE
       refine zs hE (p_ifaceNil Tryd.underlying25 rfl rfl rfl) ?_; clear hE a; intro a hE
       refine wnt ?_
       refine c_false hE rfl ?_
       refine wp_skip ?_
       refine blk_normal ?_
       refine then_normal ?_
       refine wp_region_list ?_
       refine zs hE (p_arith (z := ((i + 1 : Nat) : Int)) rfl rfl (add_z (by omega) (by omega) (by omega))) ?_; clear hE a; intro a hE
       refine zm hE ?_; clear hE a; intro a hE
       refine wnt ?_
       replace hI := hI.erase 1
       replace hI := hI.erase 0
       exact ⟨(D48, i + 1, b47, _), hE.pick [0, 9], ⟨by show i + 1 ≤ _; omega, ((((hD1.trans hD5).trans hD22).trans hD35).trans hD49), (hx1.trans (hext_hx32.trans hext_hx46)), heq.trans (by rw [show 17 - i = (17 - (i + 1)) + 1 by omega]; simp only [Bt.sinkF, hx2, hx16, hx19, hx32, hx46, eq_false (show ¬ (x1.level = 0 ∨ x1.ents.length ≠ 1) by omega), ite_false, if_false]), by show (b47).recs.length ≤ b.recs.length + 13 * (i + 1); omega, hT50, hI⟩, by show 17 - (i + 1) < 17 - i; omega⟩
      replace hI := hI.put_back 2
      try simp only [nrm, Value.cells] at hI
      refine za hE ?_; clear hE a; intro a hE
      refine wnt ?_
      refine wsr ?_
      refine zm hE ?_; clear hE a; intro a hE
      refine zs hE (p_ifaceNil Tryd.underlying25 rfl rfl rfl) ?_; clear hE a; intro a hE
      refine wnt ?_
      refine c_true hE rfl ?_
      refine wsr ?_
      refine zm hE ?_; clear hE a; intro a hE
      refine za hE ?_; clear hE a; intro a hE
      refine wnt ?_
      refine wp_ret ?_
      refine blk_ret ?_
      refine then_ret ?_
      refine then_ret ?_
      refine blk_ret ?_
      refine then_ret ?_
      refine ret1 rfl hE rfl ?_
      replace hI := hI.erase 1
      replace hI := hI.erase 0
      exact .inr ⟨_, o52, heq.trans (by rw [show 17 - i = (17 - (i + 1)) + 1 by omega]; simp only [Bt.sinkF, hx2, hx16, hx19, hx32, hx46, eq_false (show ¬ (x1.level = 0 ∨ x1.ents.length ≠ 1) by omega), ite_false, if_false]), rfl, _, _, _, (hx1.trans (hext_hx32.trans hext59)), ((((hD1.trans hD5).trans hD22).trans hD35).trans hD55), hT56, hI⟩
     replace hI := hI.put_back 2
     try simp only [nrm, Value.cells] at hI
     refine za hE ?_; clear hE a; intro a hE
     refine wnt ?_
     refine wsr ?_
     refine zm hE ?_; clear hE a; intro a hE
     refine zs hE (p_ifaceNil Tryd.underlying25 rfl rfl rfl) ?_; clear hE a; intro a hE
     refine wnt ?_
     refine c_true hE rfl ?_
     refine wsr ?_
     refine zm hE ?_; clear hE a; intro a hE
     refine za hE ?_; clear hE a; intro a hE
     refine wnt ?_
     refine wp_ret ?_
     refine then_ret ?_
     refine blk_ret ?_
     refine then_ret ?_
     refine then_ret ?_
     refine blk_ret ?_
     refine then_ret ?_
     refine ret1 rfl hE rfl ?_
     replace hI := hI.erase 1
     replace hI := hI.erase 0
     exact .inr ⟨_, o38, heq.trans (by rw [show 17 - i = (17 - (i + 1)) + 1 by omega]; simp only [Bt.sinkF, hx2, hx16, hx19, hx32, eq_false (show ¬ (x1.level = 0 ∨ x1.ents.length ≠ 1) by omega), ite_false, if_false]), rfl, _, _, _, (hx1.trans hext45), (((hD1.trans hD5).trans hD22).trans hD41), hT42, hI⟩
    replace hI := hI.put_back 1
    try simp only [nrm, Value.cells] at hI
    refine zm hE ?_; clear hE a; intro a hE
    refine zx hE ?_; clear hE a; intro a hE
    refine zx hE ?_; clear hE a; intro a hE
    refine l_step rfl (f_alloc (cs := #[.int .i64 0, .int .i64 0, .int .i64 0, .int .i64 0, .slice none 0 0]) hE hI rfl rfl rfl zer_83 rfl ?_)
    clear hI hE a w; intro a b60 w hE hI
    refine l_step rfl (f_store (l := [_, _, _, _, _]) (ss' := _ :: _) 0 hE hI rfl rfl rfl rfl rfl sz_83 (by simp [Value.cells, Value.oneCell', pgCells, rcCells, zPg]) rfl rfl rfl ?_)
    clear hI w; intro w hI
    refine za hE ?_; clear hE a; intro a hE
    refine wnt ?_
    refine wp_seq ?_
    refine wsr ?_
    refine zm hE ?_; clear hE a; intro a hE
    refine zs hE (p_ifaceNil Tryd.underlying25 rfl rfl rfl) ?_; clear hE a; intro a hE
    refine wnt ?_
    refine c_true hE rfl ?_
    refine wsr ?_
    refine zm hE ?_; clear hE a; intro a hE
    refine za hE ?_; clear hE a; intro a hE
    refine wnt ?_
    refine wp_ret ?_
    refine then_ret ?_
    refine blk_ret ?_
    refine then_ret ?_
    refine then_ret ?_
    refine blk_ret ?_
    refine then_ret ?_
    refine ret1 rfl hE rfl ?_
    replace hI := hI.erase 1
    replace hI := hI.erase 0
    exact .inr ⟨_, o27, heq.trans (by rw [show 17 - i = (17 - (i + 1)) + 1 by omega]; simp only [Bt.sinkF, hx2, hx16, hx19, eq_false (show ¬ (x1.level = 0 ∨ x1.ents.length ≠ 1) by omega), ite_false, if_false]), rfl, _, _, _, hx1, (hD1.trans hD5), hT25, hI⟩
   refine zm hE ?_; clear hE a; intro a hE
   refine zx hE ?_; clear hE a; intro a hE
   refine zx hE ?_; clear hE a; intro a hE
   refine za hE ?_; clear hE a; intro a hE
   refine za hE ?_; clear hE a; intro a hE
   refine wnt ?_
   refine wp_seq ?_
   refine wsr ?_
   refine zm hE ?_; clear hE a; intro a hE
   refine zs hE (p_ifaceNil Tryd.underlying25 rfl rfl rfl) ?_; clear hE a; intro a hE
   refine wnt ?_
   refine c_true hE rfl ?_
   refine wsr ?_
   refine zm hE ?_; clear hE a; intro a hE
   refine za hE ?_; clear hE a; intro a hE
   refine wnt ?_
   refine wp_ret ?_
   refine then_ret ?_
   refine blk_ret ?_
   refine then_ret ?_
   refine then_ret ?_
   refine blk_ret ?_
   refine then_ret ?_
   refine ret1 rfl hE rfl ?_
   replace hI := hI.erase 0
   exact .inr ⟨_, none, heq.trans (by rw [show 17 - i = (17 - (i + 1)) + 1 by omega]; simp only [Bt.sinkF, hx2, hx17, eq_false (show ¬ (x1.level = 0 ∨ x1.ents.length ≠ 1) by omega), ite_false, if_false]), rfl, _, _, _, hx1, (hD1.trans hD5), hT8, hI⟩
  refine zm hE ?_; clear hE a; intro a hE
  refine zx hE ?_; clear hE a; intro a hE
  refine zx hE ?_; clear hE a; intro a hE
  refine l_step rfl (f_alloc (cs := #[.int .i64 0, .int .i64 0, .int .i64 0, .int .i64 0, .slice none 0 0]) hE hI rfl rfl rfl zer_83 rfl ?_)
  clear hI hE a w; intro a b61 w hE hI
  refine l_step rfl (f_store (l := [_, _, _, _, _]) (ss' := _ :: _) 0 hE hI rfl rfl rfl rfl rfl sz_83 (by simp [Value.cells, Value.oneCell', pgCells, rcCells, zPg]) rfl rfl rfl ?_)
  clear hI w; intro w hI
  refine za hE ?_; clear hE a; intro a hE
  refine wnt ?_
  refine wp_seq ?_
  refine wsr ?_
  refine zm hE ?_; clear hE a; intro a hE
  refine zs hE (p_ifaceNil Tryd.underlying25 rfl rfl rfl) ?_; clear hE a; intro a hE
  refine wnt ?_
  refine c_true hE rfl ?_
  refine wsr ?_
  refine zm hE ?_; clear hE a; intro a hE
  refine za hE ?_; clear hE a; intro a hE
  refine wnt ?_
  refine wp_ret ?_
  refine then_ret ?_
  refine blk_ret ?_
  refine then_ret ?_
  refine then_ret ?_
  refine blk_ret ?_
  refine then_ret ?_
  refine ret1 rfl hE rfl ?_
  replace hI := hI.erase 0
  exact .inr ⟨_, o10, heq.trans (by rw [show 17 - i = (17 - (i + 1)) + 1 by omega]; simp only [Bt.sinkF, hx2, ite_true, ite_false, if_false]), rfl, _, _, _, hx1, hD1, hT8, hI⟩
 intro hlt; replace hlt := lss_f hlt; clear hE a; intro a hE
 refine wnt ?_
 refine wp_seq ?_
 refine c_false hE rfl ?_
 refine wp_exit ?_
 refine then_exit ?_
 refine then_exit ?_
 refine blk_same ?_
 refine then_normal ?_
 refine wsr ?_
 refine za hE ?_; clear hE a; intro a hE
 refine wnt ?_
 refine wp_ret ?_
 refine ret1 rfl hE rfl ?_
 exact .inl ⟨b1, by rw [heq, show 17 - i = 0 by omega]; rfl, rfl, _, _, hD1, hT1, hI⟩
end Go.Proofs.YtbogbnkckofpdaaDoor.B
