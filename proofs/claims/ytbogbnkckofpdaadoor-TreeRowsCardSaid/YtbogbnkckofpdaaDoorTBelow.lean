/- What functions of the program compute, each function once: steps over the model, and the plain law of it. -/
import Derived.Test.YtbogbnkckofpdaaDoorTCheckC
namespace Go.Proofs.YtbogbnkckofpdaaDoor.B
open Go Go.Proofs
set_option linter.unusedVariables false
set_option linter.unusedSimpArgs false
set_option maxRecDepth 20000
set_option maxHeartbeats 8000000
namespace FTBelow
theorem agg_69 : aggSize Tryd.prog 69 = some 2 := by kernel_rfl
theorem agg_83 : aggSize Tryd.prog 83 = some 5 := by kernel_rfl
theorem ent_106 : enters Tryd.prog 106 = true := by kernel_rfl
theorem ent_89 : enters Tryd.prog 89 = true := by kernel_rfl
theorem fo_69_0 : fieldOff Tryd.prog 69 0 = some 0 := by kernel_rfl
theorem fo_83_2 : fieldOff Tryd.prog 83 2 = some 2 := by kernel_rfl
theorem fo_83_3 : fieldOff Tryd.prog 83 3 = some 3 := by kernel_rfl
theorem fo_83_4 : fieldOff Tryd.prog 83 4 = some 4 := by kernel_rfl
theorem scal_22 : isScal Tryd.prog 22 = true := by kernel_rfl
theorem scal_25 : isScal Tryd.prog 25 = true := by kernel_rfl
theorem scal_3 : isScal Tryd.prog 3 = true := by kernel_rfl
theorem scal_65 : isScal Tryd.prog 65 = true := by kernel_rfl
theorem sz_69 : (Tryd.prog.info? 69).map (·.size) = some 2 := by kernel_rfl
theorem zer_69 : (Tryd.prog.info? 69).bind (·.zero) = some (.agg #[.slice none 0 0, .slice none 0 0]) := by kernel_rfl
end FTBelow
open FTBelow
theorem Below_spec {w0 w : World} {D : Sto} {ss : List Seg} {s sl : Seg} {vb vp vl vlow vhigh : Value} {b : Bt} {f : Nat} {P : Pl} {bc bs : Nat} {es : Array MapEntry} {clk : Nat} {c : Ck} {low : Bs} {high : Option Bs} (hI : Inv w0 D ([(bc, .cells #[vb, .map (some bs), vl, .int .i64 c.keys] 141 (0, 0))] :: [(bs, .map es clk)] :: sl :: s :: ss) w) {ad : Nat → Addr} (hS : TSents D ad) (hT : TreeS D vb vp b P s) (hm : IntMap es clk (seenM c.seen)) (hO : OR 5 PgR D 83 vl c.leaves sl) (hC : CkOk c) (hlow : RB D vlow low) (hhigh : HighV D vhigh high) (hW : WalkAt b f) {vx : Value} {x : Pg} (hx : PgV D vx x) (hl : x.level - 1 < f) (hne : ∀ j, 0 < j → ∀ e, x.ents[j]? = some e → e.1 ≠ []) :
  Calls Tryd.prog 118 #[.pointer (some ⟨bc, 0, none⟩), vx, vlow, vhigh] w (Ret fun r w' => CkPost w0 D ss bc bs vb vp P b ad (b.belowF f x low high c) r w') := by
 obtain ⟨Av, cv, rfl, _⟩ := hO.slice
 obtain ⟨bb0, hvb⟩ := hT.ptr
 subst hvb
 obtain ⟨e1, rfl, he2, ho3⟩ := hx
 have hlen_x := ho3.len
 obtain ⟨A4, c5, rfl, _⟩ := he2.slice
 have hlv0 := ho3.v0
 have hlv1 := ho3.v1
 obtain ⟨A6, c7, rfl, _⟩ := hlow.slice
 obtain ⟨Ah, nh, ch, rfl, hhb, hhn⟩ := hhigh
 refine enter (N := 68) Tryd.func118 rfl rfl rfl ?_
 intro a hE
 refine wsr ?_
 refine l_step rfl (f_box (cs := #[_, _, _, _, _]) hE hI rfl rfl rfl rfl rfl ?_)
 clear hI hE a w; intro a b8 w hE hI
 refine za hE ?_; clear hE a; intro a hE
 refine wnt ?_
 refine wp_seq ?_
 refine wsr ?_
 refine zs hE (p_fieldAddr (m := 3) rfl fo_83_3 rfl) ?_; clear hE a; intro a hE
 refine zl hE (f_load rfl scal_3 (hI.seg 0 rfl) rfl) ?_; clear hE a; intro a hE
 refine l_step rfl (o_cmp hE rfl rfl rfl rfl rfl rfl ?_ ?_)
 ·intro hnx; replace hnx := neq_t hnx; clear hE a; intro a hE
  refine wnt ?_
  refine c_true hE rfl ?_
  refine wsr ?_
  obtain ⟨T_9, fr_9, hg_9⟩ := hS.g103
  refine zl hE (f_load rfl scal_25 (hI.data _ _ (hg_9)) rfl) ?_; clear hE a; intro a hE
  refine za hE ?_; clear hE a; intro a hE
  refine wnt ?_
  refine wp_ret ?_
  refine then_ret ?_
  refine ret1 rfl hE rfl ?_
  replace hI := hI.erase 3
  replace hI := hI.erase 2
  replace hI := hI.erase 1
  replace hI := hI.erase 0
  exact .inr ⟨103, none, (by rw [Bt.belowF, if_pos (by omega)]), rfl, D, _, (Le.refl _), hT, hI⟩
 intro hnx; replace hnx := neq_f hnx; clear hE a; intro a hE
 refine wnt ?_
 refine c_false hE rfl ?_
 refine wp_skip ?_
 refine then_normal ?_
 refine wp_seq ?_
 refine wsr ?_
 refine zs hE (p_fieldAddr (m := 4) rfl fo_83_4 rfl) ?_; clear hE a; intro a hE
 refine zl hE (f_load rfl scal_65 (hI.seg 0 rfl) rfl) ?_; clear hE a; intro a hE
 refine zs hE (p_len rfl rfl Tryd.underlying65) ?_; clear hE a; intro a hE
 refine zm hE ?_; clear hE a; intro a hE
 refine wnt ?_
 refine wp_block ?_
 replace hI := hI.bring 4
 replace hI := hI.bring 4
 replace hI := hI.bring 4
 replace hI := hI.bring 4
 refine c_loop (X := Sto × Nat × Ck × Array MapEntry × Nat × Value × Seg × Seg) (fun y => [(0, _), (2, _), (3, _), (5, _), (21, _), (22, _), (23, .int .i64 (y.2.1 : Nat))]) (fun y w => y.2.1 ≤ x.ents.length ∧ Le D y.1 ∧ b.belowF f x low high c = belowL (fun id low high c => b.walkF f id (x.level - 1) low high c) x low high (x.ents.length - y.2.1) y.2.1 y.2.2.1 ∧ CkOk y.2.2.1 ∧ IntMap y.2.2.2.1 y.2.2.2.2.1 (seenM y.2.2.1.seen) ∧ OR 5 PgR y.1 83 y.2.2.2.2.2.1 y.2.2.1.leaves y.2.2.2.2.2.2.1 ∧ TreeS y.1 (.pointer (some ⟨bb0, 0, none⟩)) vp b P y.2.2.2.2.2.2.2 ∧ Inv w0 y.1 ([(bc, .cells #[.pointer (some ⟨bb0, 0, none⟩), .map (some bs), y.2.2.2.2.2.1, .int .i64 y.2.2.1.keys] 141 (0, 0))] :: [(bs, .map y.2.2.2.1 y.2.2.2.2.1)] :: y.2.2.2.2.2.2.1 :: y.2.2.2.2.2.2.2 :: [(b8, .cells #[.int .i64 x.id, .int .i64 x.lsn, .int .i64 x.level, .int .i64 x.next, .slice A4 (x.ents).length c5] 83 (0, 0))] :: ss) w) (fun y => x.ents.length - y.2.1) (D, 0, c, es, clk, _, sl, s) (hE.pick [0, 2, 3, 5, 21, 22, 23]) ⟨Nat.zero_le _, Le.refl _, by rw [Bt.belowF, if_neg (by omega)]; rfl, hC, hm, hO, hT, hI⟩ ?_
 clear hE hI a w
 rintro ⟨D1, i, c1, es1, clk1, vl1, sl1, s1⟩ a w hE ⟨hi, hD1, heq, hC1, hm1, hO1, hT1, hI⟩
 try dsimp only at hE
 try dsimp only at hi
 try dsimp only at hD1
 try dsimp only at heq
 try dsimp only at hC1
 try dsimp only at hm1
 try dsimp only at hO1
 try dsimp only at hT1
 try dsimp only at hI
 obtain ⟨Aw, cw, rfl, _⟩ := hO1.slice
 refine wsr ?_
 refine l_step rfl (o_cmp hE rfl rfl rfl rfl rfl rfl ?_ ?_)
 ·intro hlt; replace hlt := lss_t hlt; clear hE a; intro a hE
  refine wnt ?_
  refine wp_seq ?_
  refine c_true hE rfl ?_
  refine wp_skip ?_
  refine then_normal ?_
  refine wp_seq ?_
  refine wp_block ?_
  refine wsr ?_
  refine zm hE ?_; clear hE a; intro a hE
  obtain ⟨x_10, hx_10⟩ : ∃ z9, (x.ents)[i]? = some z9 := ⟨_, List.getElem?_eq_getElem (by omega)⟩
  obtain ⟨b_10, o_10, cs_10, T_10, fr_10, rfl, hb_10, hat_10⟩ := he2.at_ (by intro h0; rw [h0] at hx_10; simp at hx_10)
  obtain ⟨vs_10, hl_10, ⟨k_10, v_10, rfl, hk_10, hv_10, hok_10⟩, hex_10, hsz_10, hce_10⟩ := hat_10.extract hx_10 (by omega)
  obtain ⟨A11, c12, rfl, _⟩ := hk_10.slice
  obtain ⟨A13, c14, rfl, _⟩ := hv_10.slice
  refine zs hE (p_indexAddr (m := o_10 + i * 2) rfl rfl Tryd.underlying65 sz_69 (by omega) (by omega) (by simp)) ?_; clear hE a; intro a hE
  refine zl hE (r_loadA rfl agg_69 (hI.data _ _ (hD1 _ _ (hb_10))) hsz_10 hex_10) ?_; clear hE a; intro a hE
  refine l_step rfl (f_alloc (cs := #[.slice none 0 0, .slice none 0 0]) hE hI rfl rfl rfl zer_69 rfl ?_)
  clear hI hE a w; intro a b15 w hE hI
  refine za hE ?_; clear hE a; intro a hE
  refine l_step rfl (f_store (l := [_, _]) (ss' := _ :: _) 0 hE hI rfl rfl rfl rfl rfl sz_69 (by simp [Value.cells, Value.oneCell', pgCells, rcCells, zPg]) rfl rfl rfl ?_)
  clear hI w; intro w hI
  refine wnt ?_
  refine wsr ?_
  refine zm hE ?_; clear hE a; intro a hE
  refine zm hE ?_; clear hE a; intro a hE
  refine za hE ?_; clear hE a; intro a hE
  refine za hE ?_; clear hE a; intro a hE
  refine wnt ?_
  refine wp_seq ?_
  refine wsr ?_
  refine zm hE ?_; clear hE a; intro a hE
  refine l_step rfl (o_cmp hE rfl rfl rfl rfl rfl rfl ?_ ?_)
  ·intro hi0; replace hi0 := gtr_t hi0; clear hE a; intro a hE
   refine wnt ?_
   refine c_true hE rfl ?_
   refine wp_region_list ?_
   refine zs hE (p_fieldAddr (m := 0) rfl fo_69_0 rfl) ?_; clear hE a; intro a hE
   refine zl hE (f_load rfl scal_22 (hI.seg 0 rfl) rfl) ?_; clear hE a; intro a hE
   refine za hE ?_; clear hE a; intro a hE
   refine wnt ?_
   refine wp_seq ?_
   refine wsr ?_
   refine zm hE ?_; clear hE a; intro a hE
   refine zs hE (p_arith (z := ((i + 1 : Nat) : Int)) rfl rfl (add_z (by omega) (by omega) (by omega))) ?_; clear hE a; intro a hE
   refine zs hE (p_fieldAddr (m := 4) rfl fo_83_4 rfl) ?_; clear hE a; intro a hE
   refine zl hE (f_load rfl scal_65 (hI.seg 5 rfl) rfl) ?_; clear hE a; intro a hE
   refine zs hE (p_len rfl rfl Tryd.underlying65) ?_; clear hE a; intro a hE
   refine l_step rfl (o_cmp hE rfl rfl rfl rfl rfl rfl ?_ ?_)
   ·intro hi1; replace hi1 := lss_t hi1; clear hE a; intro a hE
    refine wnt ?_
    refine c_true hE rfl ?_
    refine wp_region_list ?_
    refine zs hE (p_fieldAddr (m := 4) rfl fo_83_4 rfl) ?_; clear hE a; intro a hE
    refine zl hE (f_load rfl scal_65 (hI.seg 5 rfl) rfl) ?_; clear hE a; intro a hE
    refine zm hE ?_; clear hE a; intro a hE
    refine zs hE (p_arith (z := ((i + 1 : Nat) : Int)) rfl rfl (add_z (by omega) (by omega) (by omega))) ?_; clear hE a; intro a hE
    obtain ⟨x_16, hx_16⟩ : ∃ z9, (x.ents)[(i + 1)]? = some z9 := ⟨_, List.getElem?_eq_getElem (by omega)⟩
    obtain ⟨vs_16, hl_16, ⟨k_16, v_16, rfl, hk_16, hv_16, hok_16⟩, hex_16, hsz_16, hce_16⟩ := hat_10.extract hx_16 (by omega)
    obtain ⟨A17, c18, rfl, _⟩ := hk_16.slice
    obtain ⟨A19, c20, rfl, _⟩ := hv_16.slice
    refine zs hE (p_indexAddr (m := o_10 + (i + 1) * 2) rfl rfl Tryd.underlying65 sz_69 (by omega) (by omega) (by simp)) ?_; clear hE a; intro a hE
    refine zs hE (p_fieldAddr rfl fo_69_0 rfl) ?_; clear hE a; intro a hE
    refine zl hE (r_load rfl scal_22 (hI.data _ _ (hD1 _ _ (hb_10))) (hce_16 0 _ rfl)) ?_; clear hE a; intro a hE
    refine za hE ?_; clear hE a; intro a hE
    refine wnt ?_
    refine wsr ?_
    refine zl hE (f_loadA (vs := [_, _, _, _, _]) rfl agg_83 (hI.seg 5 rfl) rfl rfl) ?_; clear hE a; intro a hE
    refine zm hE ?_; clear hE a; intro a hE
    refine l_step rfl (o_call hE rfl rfl rfl rfl ent_106 (at_spec (p := x) hI (hS.mono hD1) ⟨_, rfl, (DR.mono EnR.keeps he2 hD1), ho3⟩ (i : Nat)) ?_)
    clear hI hE a
    rintro r w h a hE; rcases h with ⟨id21, hx22, rfl, hI⟩ | ⟨hx23, rfl, hI⟩
    ·skip
     refine zm hE ?_; clear hE a; intro a hE
     refine zx hE ?_; clear hE a; intro a hE
     refine zx hE ?_; clear hE a; intro a hE
     refine za hE ?_; clear hE a; intro a hE
     refine za hE ?_; clear hE a; intro a hE
     refine wnt ?_
     refine wp_seq ?_
     refine wsr ?_
     refine zm hE ?_; clear hE a; intro a hE
     refine zs hE (p_ifaceNil Tryd.underlying25 rfl rfl rfl) ?_; clear hE a; intro a hE
     refine wnt ?_
     refine c_false hE rfl ?_
     refine wp_skip ?_
     refine then_normal ?_
     refine wsr ?_
     refine zm hE ?_; clear hE a; intro a hE
     refine zm hE ?_; clear hE a; intro a hE
     refine zs hE (p_fieldAddr (m := 2) rfl fo_83_2 rfl) ?_; clear hE a; intro a hE
     refine zl hE (f_load rfl scal_3 (hI.seg 5 rfl) rfl) ?_; clear hE a; intro a hE
     refine zs hE (p_arith (z := x.level - 1) rfl rfl (sub_z rfl (by omega) (by omega))) ?_; clear hE a; intro a hE
     refine zm hE ?_; clear hE a; intro a hE
     refine zm hE ?_; clear hE a; intro a hE
     replace hI := hI.bring 4
     replace hI := hI.bring 4
     replace hI := hI.bring 4
     replace hI := hI.bring 4
     have hg1 : x.ents.getD i ([], []) = x_10 := by simp [List.getD, hx_10]
     have hg2 : x.ents.getD (i + 1) ([], []) = x_16 := by simp [List.getD, hx_16]
     have hst := belowL_step (w := (fun id low high c => b.walkF f id (x.level - 1) low high c)) (low := low) (high := high) (c := c1) (show i < x.ents.length by omega) hx22
     rw [if_pos (show 0 < i by omega), if_pos (show i + 1 < x.ents.length by omega), hg1, hg2] at hst
     refine l_step rfl (o_call hE rfl rfl rfl rfl ent_89 (hW (low := (x_10.1)) (high := (some x_16.1)) (level := x.level - 1) hI (hS.mono hD1) hT1 hm1 hO1 hC1 (hk_10.mono hD1) (HighV.key (hk_16.mono hD1) (hne (i + 1) (by omega) _ hx_16)) (by omega)) ?_)
     clear hI hE a
     rintro r w h a hE; rcases h with ⟨c24, hr24, rfl, hC24, D24, es24, clk24, vl24, sl24, s24, hD24, hm24, hO24, hT24, hI⟩ | ⟨e24, o24, hr24, rfl, D24, s24, hD24, hT24, hI⟩
     ·skip
      have heq9 := heq.trans (hst.trans (by rw [hr24]))
      obtain ⟨A24, cc24, rfl, _⟩ := hO24.slice
      refine za hE ?_; clear hE a; intro a hE
      refine wnt ?_
      refine wsr ?_
      refine zm hE ?_; clear hE a; intro a hE
      refine zs hE (p_ifaceNil Tryd.underlying25 rfl rfl rfl) ?_; clear hE a; intro a hE
      refine wnt ?_
      refine c_false hE rfl ?_
      refine wp_skip ?_
      refine blk_normal ?_
      refine then_normal ?_
      refine wp_region_list ?_
      refine zs hE (p_arith (z := ((i + 1 : Nat) : Int)) rfl rfl (add_z (by omega) (by omega) (by omega))) ?_; clear hE a; intro a hE
      refine zm hE ?_; clear hE a; intro a hE
      refine wnt ?_
      replace hI := hI.erase 4
      replace hI := hI.bring 4
      replace hI := hI.bring 4
      replace hI := hI.bring 4
      replace hI := hI.bring 4
      replace hI := hI.bring 4
      exact ⟨(D24, i + 1, c24, es24, clk24, _, sl24, s24), hE.pick [0, 2, 3, 5, 21, 22, 23], ⟨by show i + 1 ≤ _; omega, (hD1.trans hD24), heq9, hC24, hm24, hO24, hT24, hI⟩, by show x.ents.length - (i + 1) < x.ents.length - i; omega⟩
     refine za hE ?_; clear hE a; intro a hE
     refine wnt ?_
     refine wsr ?_
     refine zm hE ?_; clear hE a; intro a hE
     refine zs hE (p_ifaceNil Tryd.underlying25 rfl rfl rfl) ?_; clear hE a; intro a hE
     refine wnt ?_
     refine c_true hE rfl ?_
     refine wsr ?_
     refine zm hE ?_; clear hE a; intro a hE
     refine za hE ?_; clear hE a; intro a hE
     refine wnt ?_
     refine wp_ret ?_
     refine blk_ret ?_
     refine then_ret ?_
     refine then_ret ?_
     refine blk_ret ?_
     refine then_ret ?_
     refine ret1 rfl hE rfl ?_
     replace hI := hI.erase 2
     replace hI := hI.erase 1
     exact .inr ⟨e24, o24, (by rw [heq, hst, hr24]), rfl, D24, _, (hD1.trans hD24), hT24, hI⟩
    refine zm hE ?_; clear hE a; intro a hE
    refine zx hE ?_; clear hE a; intro a hE
    refine zx hE ?_; clear hE a; intro a hE
    refine za hE ?_; clear hE a; intro a hE
    refine za hE ?_; clear hE a; intro a hE
    refine wnt ?_
    refine wp_seq ?_
    refine wsr ?_
    refine zm hE ?_; clear hE a; intro a hE
    refine zs hE (p_ifaceNil Tryd.underlying25 rfl rfl rfl) ?_; clear hE a; intro a hE
    refine wnt ?_
    refine c_true hE rfl ?_
    refine wsr ?_
    refine zm hE ?_; clear hE a; intro a hE
    refine za hE ?_; clear hE a; intro a hE
    refine wnt ?_
    refine wp_ret ?_
    refine then_ret ?_
    refine blk_ret ?_
    refine then_ret ?_
    refine then_ret ?_
    refine blk_ret ?_
    refine then_ret ?_
    refine ret1 rfl hE rfl ?_
    replace hI := hI.erase 5
    replace hI := hI.erase 3
    replace hI := hI.erase 2
    replace hI := hI.erase 1
    replace hI := hI.erase 0
    exact .inr ⟨103, none, (by rw [heq, belowL_fail (show i < x.ents.length by omega) hx23]), rfl, D1, _, hD1, hT1, hI⟩
   intro hi1; replace hi1 := lss_f hi1; clear hE a; intro a hE
   refine wnt ?_
   refine c_false hE rfl ?_
   refine wp_skip ?_
   refine then_normal ?_
   refine wsr ?_
   refine zl hE (f_loadA (vs := [_, _, _, _, _]) rfl agg_83 (hI.seg 5 rfl) rfl rfl) ?_; clear hE a; intro a hE
   refine zm hE ?_; clear hE a; intro a hE
   refine l_step rfl (o_call hE rfl rfl rfl rfl ent_106 (at_spec (p := x) hI (hS.mono hD1) ⟨_, rfl, (DR.mono EnR.keeps he2 hD1), ho3⟩ (i : Nat)) ?_)
   clear hI hE a
   rintro r w h a hE; rcases h with ⟨id25, hx26, rfl, hI⟩ | ⟨hx27, rfl, hI⟩
   ·skip
    refine zm hE ?_; clear hE a; intro a hE
    refine zx hE ?_; clear hE a; intro a hE
    refine zx hE ?_; clear hE a; intro a hE
    refine za hE ?_; clear hE a; intro a hE
    refine za hE ?_; clear hE a; intro a hE
    refine wnt ?_
    refine wp_seq ?_
    refine wsr ?_
    refine zm hE ?_; clear hE a; intro a hE
    refine zs hE (p_ifaceNil Tryd.underlying25 rfl rfl rfl) ?_; clear hE a; intro a hE
    refine wnt ?_
    refine c_false hE rfl ?_
    refine wp_skip ?_
    refine then_normal ?_
    refine wsr ?_
    refine zm hE ?_; clear hE a; intro a hE
    refine zm hE ?_; clear hE a; intro a hE
    refine zs hE (p_fieldAddr (m := 2) rfl fo_83_2 rfl) ?_; clear hE a; intro a hE
    refine zl hE (f_load rfl scal_3 (hI.seg 5 rfl) rfl) ?_; clear hE a; intro a hE
    refine zs hE (p_arith (z := x.level - 1) rfl rfl (sub_z rfl (by omega) (by omega))) ?_; clear hE a; intro a hE
    refine zm hE ?_; clear hE a; intro a hE
    refine zm hE ?_; clear hE a; intro a hE
    replace hI := hI.bring 4
    replace hI := hI.bring 4
    replace hI := hI.bring 4
    replace hI := hI.bring 4
    have hg1 : x.ents.getD i ([], []) = x_10 := by simp [List.getD, hx_10]
    have hst := belowL_step (w := (fun id low high c => b.walkF f id (x.level - 1) low high c)) (low := low) (high := high) (c := c1) (show i < x.ents.length by omega) hx26
    rw [if_pos (show 0 < i by omega), if_neg (show ¬ i + 1 < x.ents.length by omega), hg1] at hst
    refine l_step rfl (o_call hE rfl rfl rfl rfl ent_89 (hW (low := (x_10.1)) (high := high) (level := x.level - 1) hI (hS.mono hD1) hT1 hm1 hO1 hC1 (hk_10.mono hD1) (⟨_, _, _, rfl, (hhb.mono hD1), hhn⟩ : HighV D1 _ high) (by omega)) ?_)
    clear hI hE a
    rintro r w h a hE; rcases h with ⟨c28, hr28, rfl, hC28, D28, es28, clk28, vl28, sl28, s28, hD28, hm28, hO28, hT28, hI⟩ | ⟨e28, o28, hr28, rfl, D28, s28, hD28, hT28, hI⟩
    ·skip
     have heq9 := heq.trans (hst.trans (by rw [hr28]))
     obtain ⟨A28, cc28, rfl, _⟩ := hO28.slice
     refine za hE ?_; clear hE a; intro a hE
     refine wnt ?_
     refine wsr ?_
     refine zm hE ?_; clear hE a; intro a hE
     refine zs hE (p_ifaceNil Tryd.underlying25 rfl rfl rfl) ?_; clear hE a; intro a hE
     refine wnt ?_
     refine c_false hE rfl ?_
     refine wp_skip ?_
     refine blk_normal ?_
     refine then_normal ?_
     refine wp_region_list ?_
     refine zs hE (p_arith (z := ((i + 1 : Nat) : Int)) rfl rfl (add_z (by omega) (by omega) (by omega))) ?_; clear hE a; intro a hE
     refine zm hE ?_; clear hE a; intro a hE
     refine wnt ?_
     replace hI := hI.erase 4
     replace hI := hI.bring 4
     replace hI := hI.bring 4
     replace hI := hI.bring 4
     replace hI := hI.bring 4
     replace hI := hI.bring 4
     exact ⟨(D28, i + 1, c28, es28, clk28, _, sl28, s28), hE.pick [0, 2, 3, 5, 21, 22, 23], ⟨by show i + 1 ≤ _; omega, (hD1.trans hD28), heq9, hC28, hm28, hO28, hT28, hI⟩, by show x.ents.length - (i + 1) < x.ents.length - i; omega⟩
    refine za hE ?_; clear hE a; intro a hE
    refine wnt ?_
    refine wsr ?_
    refine zm hE ?_; clear hE a; intro a hE
    refine zs hE (p_ifaceNil Tryd.underlying25 rfl rfl rfl) ?_; clear hE a; intro a hE
    refine wnt ?_
    refine c_true hE rfl ?_
    refine wsr ?_
    refine zm hE ?_; clear hE a; intro a hE
    refine za hE ?_; clear hE a; intro a hE
    refine wnt ?_
    refine wp_ret ?_
    refine blk_ret ?_
    refine then_ret ?_
    refine then_ret ?_
    refine blk_ret ?_
    refine then_ret ?_
    refine ret1 rfl hE rfl ?_
    replace hI := hI.erase 2
    replace hI := hI.erase 1
    exact .inr ⟨e28, o28, (by rw [heq, hst, hr28]), rfl, D28, _, (hD1.trans hD28), hT28, hI⟩
   refine zm hE ?_; clear hE a; intro a hE
   refine zx hE ?_; clear hE a; intro a hE
   refine zx hE ?_; clear hE a; intro a hE
   refine za hE ?_; clear hE a; intro a hE
   refine za hE ?_; clear hE a; intro a hE
   refine wnt ?_
   refine wp_seq ?_
   refine wsr ?_
   refine zm hE ?_; clear hE a; intro a hE
   refine zs hE (p_ifaceNil Tryd.underlying25 rfl rfl rfl) ?_; clear hE a; intro a hE
   refine wnt ?_
   refine c_true hE rfl ?_
   refine wsr ?_
   refine zm hE ?_; clear hE a; intro a hE
   refine za hE ?_; clear hE a; intro a hE
   refine wnt ?_
   refine wp_ret ?_
   refine then_ret ?_
   refine blk_ret ?_
   refine then_ret ?_
   refine then_ret ?_
   refine blk_ret ?_
   refine then_ret ?_
   refine ret1 rfl hE rfl ?_
   replace hI := hI.erase 5
   replace hI := hI.erase 3
   replace hI := hI.erase 2
   replace hI := hI.erase 1
   replace hI := hI.erase 0
   exact .inr ⟨103, none, (by rw [heq, belowL_fail (show i < x.ents.length by omega) hx27]), rfl, D1, _, hD1, hT1, hI⟩
  intro hi0; replace hi0 := gtr_f hi0; clear hE a; intro a hE
  refine wnt ?_
  refine c_false hE rfl ?_
  refine wp_skip ?_
  refine then_normal ?_
  refine wp_seq ?_
  refine wsr ?_
  refine zm hE ?_; clear hE a; intro a hE
  refine zs hE (p_arith (z := ((i + 1 : Nat) : Int)) rfl rfl (add_z (by omega) (by omega) (by omega))) ?_; clear hE a; intro a hE
  refine zs hE (p_fieldAddr (m := 4) rfl fo_83_4 rfl) ?_; clear hE a; intro a hE
  refine zl hE (f_load rfl scal_65 (hI.seg 5 rfl) rfl) ?_; clear hE a; intro a hE
  refine zs hE (p_len rfl rfl Tryd.underlying65) ?_; clear hE a; intro a hE
  refine l_step rfl (o_cmp hE rfl rfl rfl rfl rfl rfl ?_ ?_)
  ·intro hi1; replace hi1 := lss_t hi1; clear hE a; intro a hE
   refine wnt ?_
   refine c_true hE rfl ?_
   refine wp_region_list ?_
   refine zs hE (p_fieldAddr (m := 4) rfl fo_83_4 rfl) ?_; clear hE a; intro a hE
   refine zl hE (f_load rfl scal_65 (hI.seg 5 rfl) rfl) ?_; clear hE a; intro a hE
   refine zm hE ?_; clear hE a; intro a hE
   refine zs hE (p_arith (z := ((i + 1 : Nat) : Int)) rfl rfl (add_z (by omega) (by omega) (by omega))) ?_; clear hE a; intro a hE
   obtain ⟨x_29, hx_29⟩ : ∃ z9, (x.ents)[(i + 1)]? = some z9 := ⟨_, List.getElem?_eq_getElem (by omega)⟩
   obtain ⟨vs_29, hl_29, ⟨k_29, v_29, rfl, hk_29, hv_29, hok_29⟩, hex_29, hsz_29, hce_29⟩ := hat_10.extract hx_29 (by omega)
   obtain ⟨A30, c31, rfl, _⟩ := hk_29.slice
   obtain ⟨A32, c33, rfl, _⟩ := hv_29.slice
   refine zs hE (p_indexAddr (m := o_10 + (i + 1) * 2) rfl rfl Tryd.underlying65 sz_69 (by omega) (by omega) (by simp)) ?_; clear hE a; intro a hE
   refine zs hE (p_fieldAddr rfl fo_69_0 rfl) ?_; clear hE a; intro a hE
   refine zl hE (r_load rfl scal_22 (hI.data _ _ (hD1 _ _ (hb_10))) (hce_29 0 _ rfl)) ?_; clear hE a; intro a hE
   refine za hE ?_; clear hE a; intro a hE
   refine wnt ?_
   refine wsr ?_
   refine zl hE (f_loadA (vs := [_, _, _, _, _]) rfl agg_83 (hI.seg 5 rfl) rfl rfl) ?_; clear hE a; intro a hE
   refine zm hE ?_; clear hE a; intro a hE
   refine l_step rfl (o_call hE rfl rfl rfl rfl ent_106 (at_spec (p := x) hI (hS.mono hD1) ⟨_, rfl, (DR.mono EnR.keeps he2 hD1), ho3⟩ (i : Nat)) ?_)
   clear hI hE a
   rintro r w h a hE; rcases h with ⟨id34, hx35, rfl, hI⟩ | ⟨hx36, rfl, hI⟩
   ·skip
    refine zm hE ?_; clear hE a; intro a hE
    refine zx hE ?_; clear hE a; intro a hE
    refine zx hE ?_; clear hE a; intro a hE
    refine za hE ?_; clear hE a; intro a hE
    refine za hE ?_; clear hE a; intro a hE
    refine wnt ?_
    refine wp_seq ?_
    refine wsr ?_
    refine zm hE ?_; clear hE a; intro a hE
    refine zs hE (p_ifaceNil Tryd.underlying25 rfl rfl rfl) ?_; clear hE a; intro a hE
    refine wnt ?_
    refine c_false hE rfl ?_
    refine wp_skip ?_
    refine then_normal ?_
    refine wsr ?_
    refine zm hE ?_; clear hE a; intro a hE
    refine zm hE ?_; clear hE a; intro a hE
    refine zs hE (p_fieldAddr (m := 2) rfl fo_83_2 rfl) ?_; clear hE a; intro a hE
    refine zl hE (f_load rfl scal_3 (hI.seg 5 rfl) rfl) ?_; clear hE a; intro a hE
    refine zs hE (p_arith (z := x.level - 1) rfl rfl (sub_z rfl (by omega) (by omega))) ?_; clear hE a; intro a hE
    refine zm hE ?_; clear hE a; intro a hE
    refine zm hE ?_; clear hE a; intro a hE
    replace hI := hI.bring 4
    replace hI := hI.bring 4
    replace hI := hI.bring 4
    replace hI := hI.bring 4
    have hg1 : x.ents.getD i ([], []) = x_10 := by simp [List.getD, hx_10]
    have hg2 : x.ents.getD (i + 1) ([], []) = x_29 := by simp [List.getD, hx_29]
    have hst := belowL_step (w := (fun id low high c => b.walkF f id (x.level - 1) low high c)) (low := low) (high := high) (c := c1) (show i < x.ents.length by omega) hx35
    rw [if_neg (show ¬ 0 < i by omega), if_pos (show i + 1 < x.ents.length by omega), hg2] at hst
    refine l_step rfl (o_call hE rfl rfl rfl rfl ent_89 (hW (low := low) (high := (some x_29.1)) (level := x.level - 1) hI (hS.mono hD1) hT1 hm1 hO1 hC1 (hlow.mono hD1) (HighV.key (hk_29.mono hD1) (hne (i + 1) (by omega) _ hx_29)) (by omega)) ?_)
    clear hI hE a
    rintro r w h a hE; rcases h with ⟨c37, hr37, rfl, hC37, D37, es37, clk37, vl37, sl37, s37, hD37, hm37, hO37, hT37, hI⟩ | ⟨e37, o37, hr37, rfl, D37, s37, hD37, hT37, hI⟩
    ·skip
     have heq9 := heq.trans (hst.trans (by rw [hr37]))
     obtain ⟨A37, cc37, rfl, _⟩ := hO37.slice
     refine za hE ?_; clear hE a; intro a hE
     refine wnt ?_
     refine wsr ?_
     refine zm hE ?_; clear hE a; intro a hE
     refine zs hE (p_ifaceNil Tryd.underlying25 rfl rfl rfl) ?_; clear hE a; intro a hE
     refine wnt ?_
     refine c_false hE rfl ?_
     refine wp_skip ?_
     refine blk_normal ?_
     refine then_normal ?_
     refine wp_region_list ?_
     refine zs hE (p_arith (z := ((i + 1 : Nat) : Int)) rfl rfl (add_z (by omega) (by omega) (by omega))) ?_; clear hE a; intro a hE
     refine zm hE ?_; clear hE a; intro a hE
     refine wnt ?_
     replace hI := hI.erase 4
     replace hI := hI.bring 4
     replace hI := hI.bring 4
     replace hI := hI.bring 4
     replace hI := hI.bring 4
     replace hI := hI.bring 4
     exact ⟨(D37, i + 1, c37, es37, clk37, _, sl37, s37), hE.pick [0, 2, 3, 5, 21, 22, 23], ⟨by show i + 1 ≤ _; omega, (hD1.trans hD37), heq9, hC37, hm37, hO37, hT37, hI⟩, by show x.ents.length - (i + 1) < x.ents.length - i; omega⟩
    refine za hE ?_; clear hE a; intro a hE
    refine wnt ?_
    refine wsr ?_
    refine zm hE ?_; clear hE a; intro a hE
    refine zs hE (p_ifaceNil Tryd.underlying25 rfl rfl rfl) ?_; clear hE a; intro a hE
    refine wnt ?_
    refine c_true hE rfl ?_
    refine wsr ?_
    refine zm hE ?_; clear hE a; intro a hE
    refine za hE ?_; clear hE a; intro a hE
    refine wnt ?_
    refine wp_ret ?_
    refine blk_ret ?_
    refine then_ret ?_
    refine then_ret ?_
    refine blk_ret ?_
    refine then_ret ?_
    refine ret1 rfl hE rfl ?_
    replace hI := hI.erase 2
    replace hI := hI.erase 1
    exact .inr ⟨e37, o37, (by rw [heq, hst, hr37]), rfl, D37, _, (hD1.trans hD37), hT37, hI⟩
   refine zm hE ?_; clear hE a; intro a hE
   refine zx hE ?_; clear hE a; intro a hE
   refine zx hE ?_; clear hE a; intro a hE
   refine za hE ?_; clear hE a; intro a hE
   refine za hE ?_; clear hE a; intro a hE
   refine wnt ?_
   refine wp_seq ?_
   refine wsr ?_
   refine zm hE ?_; clear hE a; intro a hE
   refine zs hE (p_ifaceNil Tryd.underlying25 rfl rfl rfl) ?_; clear hE a; intro a hE
   refine wnt ?_
   refine c_true hE rfl ?_
   refine wsr ?_
   refine zm hE ?_; clear hE a; intro a hE
   refine za hE ?_; clear hE a; intro a hE
   refine wnt ?_
   refine wp_ret ?_
   refine then_ret ?_
   refine blk_ret ?_
   refine then_ret ?_
   refine then_ret ?_
   refine blk_ret ?_
   refine then_ret ?_
   refine ret1 rfl hE rfl ?_
   replace hI := hI.erase 5
   replace hI := hI.erase 3
   replace hI := hI.erase 2
   replace hI := hI.erase 1
   replace hI := hI.erase 0
   exact .inr ⟨103, none, (by rw [heq, belowL_fail (show i < x.ents.length by omega) hx36]), rfl, D1, _, hD1, hT1, hI⟩
  intro hi1; replace hi1 := lss_f hi1; clear hE a; intro a hE
  refine wnt ?_
  refine c_false hE rfl ?_
  refine wp_skip ?_
  refine then_normal ?_
  refine wsr ?_
  refine zl hE (f_loadA (vs := [_, _, _, _, _]) rfl agg_83 (hI.seg 5 rfl) rfl rfl) ?_; clear hE a; intro a hE
  refine zm hE ?_; clear hE a; intro a hE
  refine l_step rfl (o_call hE rfl rfl rfl rfl ent_106 (at_spec (p := x) hI (hS.mono hD1) ⟨_, rfl, (DR.mono EnR.keeps he2 hD1), ho3⟩ (i : Nat)) ?_)
  clear hI hE a
  rintro r w h a hE; rcases h with ⟨id38, hx39, rfl, hI⟩ | ⟨hx40, rfl, hI⟩
  ·skip
   refine zm hE ?_; clear hE a; intro a hE
   refine zx hE ?_; clear hE a; intro a hE
   refine zx hE ?_; clear hE a; intro a hE
   refine za hE ?_; clear hE a; intro a hE
   refine za hE ?_; clear hE a; intro a hE
   refine wnt ?_
   refine wp_seq ?_
   refine wsr ?_
   refine zm hE ?_; clear hE a; intro a hE
   refine zs hE (p_ifaceNil Tryd.underlying25 rfl rfl rfl) ?_; clear hE a; intro a hE
   refine wnt ?_
   refine c_false hE rfl ?_
   refine wp_skip ?_
   refine then_normal ?_
   refine wsr ?_
   refine zm hE ?_; clear hE a; intro a hE
   refine zm hE ?_; clear hE a; intro a hE
   refine zs hE (p_fieldAddr (m := 2) rfl fo_83_2 rfl) ?_; clear hE a; intro a hE
   refine zl hE (f_load rfl scal_3 (hI.seg 5 rfl) rfl) ?_; clear hE a; intro a hE
   refine zs hE (p_arith (z := x.level - 1) rfl rfl (sub_z rfl (by omega) (by omega))) ?_; clear hE a; intro a hE
   refine zm hE ?_; clear hE a; intro a hE
   refine zm hE ?_; clear hE a; intro a hE
   replace hI := hI.bring 4
   replace hI := hI.bring 4
   replace hI := hI.bring 4
   replace hI := hI.bring 4
   have hg1 : x.ents.getD i ([], []) = x_10 := by simp [List.getD, hx_10]
   have hst := belowL_step (w := (fun id low high c => b.walkF f id (x.level - 1) low high c)) (low := low) (high := high) (c := c1) (show i < x.ents.length by omega) hx39
   rw [if_neg (show ¬ 0 < i by omega), if_neg (show ¬ i + 1 < x.ents.length by omega)] at hst
   refine l_step rfl (o_call hE rfl rfl rfl rfl ent_89 (hW (low := low) (high := high) (level := x.level - 1) hI (hS.mono hD1) hT1 hm1 hO1 hC1 (hlow.mono hD1) (⟨_, _, _, rfl, (hhb.mono hD1), hhn⟩ : HighV D1 _ high) (by omega)) ?_)
   clear hI hE a
   rintro r w h a hE; rcases h with ⟨c41, hr41, rfl, hC41, D41, es41, clk41, vl41, sl41, s41, hD41, hm41, hO41, hT41, hI⟩ | ⟨e41, o41, hr41, rfl, D41, s41, hD41, hT41, hI⟩
   ·skip
    have heq9 := heq.trans (hst.trans (by rw [hr41]))
    obtain ⟨A41, cc41, rfl, _⟩ := hO41.slice
    refine za hE ?_; clear hE a; intro a hE
    refine wnt ?_
    refine wsr ?_
    refine zm hE ?_; clear hE a; intro a hE
    refine zs hE (p_ifaceNil Tryd.underlying25 rfl rfl rfl) ?_; clear hE a; intro a hE
    refine wnt ?_
    refine c_false hE rfl ?_
    refine wp_skip ?_
    refine blk_normal ?_
    refine then_normal ?_
    refine wp_region_list ?_
    refine zs hE (p_arith (z := ((i + 1 : Nat) : Int)) rfl rfl (add_z (by omega) (by omega) (by omega))) ?_; clear hE a; intro a hE
    refine zm hE ?_; clear hE a; intro a hE
    refine wnt ?_
    replace hI := hI.erase 4
    replace hI := hI.bring 4
    replace hI := hI.bring 4
    replace hI := hI.bring 4
    replace hI := hI.bring 4
    replace hI := hI.bring 4
    exact ⟨(D41, i + 1, c41, es41, clk41, _, sl41, s41), hE.pick [0, 2, 3, 5, 21, 22, 23], ⟨by show i + 1 ≤ _; omega, (hD1.trans hD41), heq9, hC41, hm41, hO41, hT41, hI⟩, by show x.ents.length - (i + 1) < x.ents.length - i; omega⟩
   refine za hE ?_; clear hE a; intro a hE
   refine wnt ?_
   refine wsr ?_
   refine zm hE ?_; clear hE a; intro a hE
   refine zs hE (p_ifaceNil Tryd.underlying25 rfl rfl rfl) ?_; clear hE a; intro a hE
   refine wnt ?_
   refine c_true hE rfl ?_
   refine wsr ?_
   refine zm hE ?_; clear hE a; intro a hE
   refine za hE ?_; clear hE a; intro a hE
   refine wnt ?_
   refine wp_ret ?_
   refine blk_ret ?_
   refine then_ret ?_
   refine then_ret ?_
   refine blk_ret ?_
   refine then_ret ?_
   refine ret1 rfl hE rfl ?_
   replace hI := hI.erase 2
   replace hI := hI.erase 1
   exact .inr ⟨e41, o41, (by rw [heq, hst, hr41]), rfl, D41, _, (hD1.trans hD41), hT41, hI⟩
  refine zm hE ?_; clear hE a; intro a hE
  refine zx hE ?_; clear hE a; intro a hE
  refine zx hE ?_; clear hE a; intro a hE
  refine za hE ?_; clear hE a; intro a hE
  refine za hE ?_; clear hE a; intro a hE
  refine wnt ?_
  refine wp_seq ?_
  refine wsr ?_
  refine zm hE ?_; clear hE a; intro a hE
  refine zs hE (p_ifaceNil Tryd.underlying25 rfl rfl rfl) ?_; clear hE a; intro a hE
  refine wnt ?_
  refine c_true hE rfl ?_
  refine wsr ?_
  refine zm hE ?_; clear hE a; intro a hE
  refine za hE ?_; clear hE a; intro a hE
  refine wnt ?_
  refine wp_ret ?_
  refine then_ret ?_
  refine blk_ret ?_
  refine then_ret ?_
  refine then_ret ?_
  refine blk_ret ?_
  refine then_ret ?_
  refine ret1 rfl hE rfl ?_
  replace hI := hI.erase 5
  replace hI := hI.erase 3
  replace hI := hI.erase 2
  replace hI := hI.erase 1
  replace hI := hI.erase 0
  exact .inr ⟨103, none, (by rw [heq, belowL_fail (show i < x.ents.length by omega) hx40]), rfl, D1, _, hD1, hT1, hI⟩
 intro hlt; replace hlt := lss_f hlt; clear hE a; intro a hE
 refine wnt ?_
 refine wp_seq ?_
 refine c_false hE rfl ?_
 refine wp_exit ?_
 refine then_exit ?_
 refine then_exit ?_
 refine blk_same ?_
 refine then_normal ?_
 refine wsr ?_
 refine za hE ?_; clear hE a; intro a hE
 refine wnt ?_
 refine wp_ret ?_
 refine ret1 rfl hE rfl ?_
 replace hI := hI.erase 4
 replace hI := hI.bring 3
 replace hI := hI.bring 3
 replace hI := hI.bring 3
 replace hI := hI.bring 3
 exact .inl ⟨c1, by rw [heq, show x.ents.length - i = 0 by omega]; rfl, rfl, hC1, _, _, _, _, _, _, hD1, hm1, hO1, hT1, hI⟩
end Go.Proofs.YtbogbnkckofpdaaDoor.B
