/- What functions of the program compute, each function once: steps over the model, and the plain law of it. -/
import Derived.Test.YtbogbnkckofpdaaDoorTBelow
namespace Go.Proofs.YtbogbnkckofpdaaDoor.B
open Go Go.Proofs
set_option linter.unusedVariables false
set_option linter.unusedSimpArgs false
set_option maxRecDepth 20000
set_option maxHeartbeats 8000000
namespace FTWalk
theorem agg_69 : aggSize Tryd.prog 69 = some 2 := by kernel_rfl
theorem agg_83 : aggSize Tryd.prog 83 = some 5 := by kernel_rfl
theorem ent_118 : enters Tryd.prog 118 = true := by kernel_rfl
theorem ent_84 : enters Tryd.prog 84 = true := by kernel_rfl
theorem ent_88 : enters Tryd.prog 88 = true := by kernel_rfl
theorem fo_141_0 : fieldOff Tryd.prog 141 0 = some 0 := by kernel_rfl
theorem fo_141_1 : fieldOff Tryd.prog 141 1 = some 1 := by kernel_rfl
theorem fo_141_2 : fieldOff Tryd.prog 141 2 = some 2 := by kernel_rfl
theorem fo_141_3 : fieldOff Tryd.prog 141 3 = some 3 := by kernel_rfl
theorem fo_69_0 : fieldOff Tryd.prog 69 0 = some 0 := by kernel_rfl
theorem fo_83_2 : fieldOff Tryd.prog 83 2 = some 2 := by kernel_rfl
theorem fo_83_4 : fieldOff Tryd.prog 83 4 = some 4 := by kernel_rfl
theorem ik_139 : intKeyed Tryd.prog 139 = some 4 := by kernel_rfl
theorem scal_121 : isScal Tryd.prog 121 = true := by kernel_rfl
theorem scal_139 : isScal Tryd.prog 139 = true := by kernel_rfl
theorem scal_22 : isScal Tryd.prog 22 = true := by kernel_rfl
theorem scal_25 : isScal Tryd.prog 25 = true := by kernel_rfl
theorem scal_3 : isScal Tryd.prog 3 = true := by kernel_rfl
theorem scal_55 : isScal Tryd.prog 55 = true := by kernel_rfl
theorem scal_65 : isScal Tryd.prog 65 = true := by kernel_rfl
theorem sz_121 : (Tryd.prog.info? 121).map (·.size) = some 1 := by kernel_rfl
theorem sz_3 : (Tryd.prog.info? 3).map (·.size) = some 1 := by kernel_rfl
theorem sz_69 : (Tryd.prog.info? 69).map (·.size) = some 2 := by kernel_rfl
theorem sz_83 : (Tryd.prog.info? 83).map (·.size) = some 5 := by kernel_rfl
theorem zer_4 : (Tryd.prog.info? 4).bind (·.zero) = some (.bool false) := by kernel_rfl
theorem zer_69 : (Tryd.prog.info? 69).bind (·.zero) = some (.agg #[.slice none 0 0, .slice none 0 0]) := by kernel_rfl
theorem zer_83 : (Tryd.prog.info? 83).bind (·.zero) = some (.agg #[.int .i64 0, .int .i64 0, .int .i64 0, .int .i64 0, .slice none 0 0]) := by kernel_rfl
theorem zs_83 : (Tryd.prog.info? 83).map (fun i => (i.zero, i.size)) = some (some (.agg #[.int .i64 0, .int .i64 0, .int .i64 0, .int .i64 0, .slice none 0 0]), 5) := by kernel_rfl
theorem zsb_83 : (Tryd.prog.info? 83).map (fun i => (i.zero, i.size, i.bytes)) = some (some (.agg #[.int .i64 0, .int .i64 0, .int .i64 0, .int .i64 0, .slice none 0 0]), 5, 56) := by kernel_rfl
end FTWalk
open FTWalk
theorem Walk_spec {w0 w : World} {D : Sto} {ss : List Seg} {s sl : Seg} {vb vp vl vlow vhigh : Value} {b : Bt} {f : Nat} {id level : Int} {P : Pl} {bc bs : Nat} {es : Array MapEntry} {clk : Nat} {c : Ck} {low : Bs} {high : Option Bs} (hI : Inv w0 D ([(bc, .cells #[vb, .map (some bs), vl, .int .i64 c.keys] 141 (0, 0))] :: [(bs, .map es clk)] :: sl :: s :: ss) w) {ad : Nat → Addr} (hS : TSents D ad) (hT : TreeS D vb vp b P s) (hm : IntMap es clk (seenM c.seen)) (hO : OR 5 PgR D 83 vl c.leaves sl) (hC : CkOk c) (hlow : RB D vlow low) (hhigh : HighV D vhigh high) (hW : 0 < level → WalkAt b f) (hrg : ∀ id x, b.page id = .ok x → 0 ≤ id ∧ id < 256) (hlf : level < (f + 1 : Nat)) :
    Calls Tryd.prog 89 #[.pointer (some ⟨bc, 0, none⟩), .int .i64 id, .int .i64 level, vlow, vhigh] w (Ret fun r w' => CkPost w0 D ss bc bs vb vp P b ad (b.walkF (f + 1) id level low high c) r w') := by
  obtain ⟨Av, cv, rfl, _⟩ := hO.slice
  obtain ⟨bb0, hvb⟩ := hT.ptr
  subst hvb
  obtain ⟨A1, c2, rfl, _⟩ := hlow.slice
  obtain ⟨Ah, nh, ch, rfl, hhb, hhn⟩ := hhigh
  refine enter (N := 147) Tryd.func89 rfl rfl rfl ?_
  intro a hE
  refine wsr ?_
  refine za hE ?_; clear hE a; intro a hE
  refine wnt ?_
  refine wp_seq ?_
  refine wp_seq ?_
  rcases Classical.em (id ∈ c.seen) with hsn | hsn
  · skip
    refine wp_region_list ?_
    refine zm hE ?_; clear hE a; intro a hE
    refine zs hE (p_nilCheck rfl) ?_; clear hE a; intro a hE
    refine zs hE (p_fieldAddr (m := 1) rfl fo_141_1 rfl) ?_; clear hE a; intro a hE
    refine zl hE (f_load rfl scal_139 (hI.seg 0 rfl) rfl) ?_; clear hE a; intro a hE
    refine zm hE ?_; clear hE a; intro a hE
    refine zl hE (r_lookup (v := .bool true) rfl rfl ik_139 zer_4 (hI.seg 1 rfl) hm (by rw [getM_seen, if_pos hsn]; rfl)) ?_; clear hE a; intro a hE
    refine zm hE ?_; clear hE a; intro a hE
    refine zk hE ?_; clear hE a; intro a hE
    refine zk hE ?_; clear hE a; intro a hE
    refine zs hE (p_pick (b := true) rfl rfl) ?_; clear hE a; intro a hE
    refine wnt ?_
    refine c_true hE rfl ?_
    refine wsr ?_
    obtain ⟨T_3, fr_3, hg_3⟩ := hS.g103
    refine zl hE (f_load rfl scal_25 (hI.data _ _ (hg_3)) rfl) ?_; clear hE a; intro a hE
    refine za hE ?_; clear hE a; intro a hE
    refine wnt ?_
    refine wp_ret ?_
    refine then_ret ?_
    refine ret1 rfl hE rfl ?_
    replace hI := hI.erase 2
    replace hI := hI.erase 1
    replace hI := hI.erase 0
    exact .inr ⟨103, none, (walk_seen (by first | exact .inl hsn | exact .inr (by omega))), rfl, D, _, (Le.refl _), hT, hI⟩
  refine wp_region_list ?_
  refine zm hE ?_; clear hE a; intro a hE
  refine zs hE (p_nilCheck rfl) ?_; clear hE a; intro a hE
  refine zs hE (p_fieldAddr (m := 1) rfl fo_141_1 rfl) ?_; clear hE a; intro a hE
  refine zl hE (f_load rfl scal_139 (hI.seg 0 rfl) rfl) ?_; clear hE a; intro a hE
  refine zm hE ?_; clear hE a; intro a hE
  refine zl hE (r_lookup (v := .bool false) rfl rfl ik_139 zer_4 (hI.seg 1 rfl) hm (by rw [getM_seen, if_neg hsn]; rfl)) ?_; clear hE a; intro a hE
  refine zm hE ?_; clear hE a; intro a hE
  refine gs hE (p_move rfl) ?_; clear hE a; intro a hE
  refine l_go hE rfl (o_cmp hE rfl rfl rfl rfl rfl rfl ?_ ?_)
  · intro hlv; replace hlv := lss_t hlv; clear hE a; intro a hE
    refine zs hE (p_pick (b := false) rfl rfl) ?_; clear hE a; intro a hE
    refine wnt ?_
    refine c_true hE rfl ?_
    refine wsr ?_
    obtain ⟨T_4, fr_4, hg_4⟩ := hS.g103
    refine zl hE (f_load rfl scal_25 (hI.data _ _ (hg_4)) rfl) ?_; clear hE a; intro a hE
    refine za hE ?_; clear hE a; intro a hE
    refine wnt ?_
    refine wp_ret ?_
    refine then_ret ?_
    refine ret1 rfl hE rfl ?_
    replace hI := hI.erase 2
    replace hI := hI.erase 1
    replace hI := hI.erase 0
    exact .inr ⟨103, none, (walk_seen (by first | exact .inl hsn | exact .inr (by omega))), rfl, D, _, (Le.refl _), hT, hI⟩
  intro hlv; replace hlv := lss_f hlv; clear hE a; intro a hE
  refine zs hE (p_pick (b := false) rfl rfl) ?_; clear hE a; intro a hE
  refine wnt ?_
  refine c_false hE rfl ?_
  refine wp_skip ?_
  refine then_normal ?_
  refine wp_seq ?_
  have hgo : ¬ (id ∈ c.seen ∨ level < 0) := by rintro (q | q); exact hsn q; omega
  refine wp_region_list ?_
  refine zm hE ?_; clear hE a; intro a hE
  refine zs hE (p_nilCheck rfl) ?_; clear hE a; intro a hE
  refine zs hE (p_fieldAddr (m := 1) rfl fo_141_1 rfl) ?_; clear hE a; intro a hE
  refine zl hE (f_load rfl scal_139 (hI.seg 0 rfl) rfl) ?_; clear hE a; intro a hE
  refine zm hE ?_; clear hE a; intro a hE
  refine l_step rfl (o_mapUpdate 1 hE hI rfl (.inl rfl) rfl rfl rfl ik_139 rfl hm ?_)
  clear hI w; intro es_5 clk_5 w hm_5 hI
  refine wnt ?_
  refine wsr ?_
  refine zm hE ?_; clear hE a; intro a hE
  refine zs hE (p_nilCheck rfl) ?_; clear hE a; intro a hE
  refine zs hE (p_fieldAddr (m := 0) rfl fo_141_0 rfl) ?_; clear hE a; intro a hE
  refine zl hE (f_load rfl scal_55 (hI.seg 0 rfl) rfl) ?_; clear hE a; intro a hE
  refine zm hE ?_; clear hE a; intro a hE
  have hm2 : IntMap es_5 clk_5 (seenM (id :: c.seen)) := putM_seen hsn ▸ hm_5
  refine l_step rfl (o_call hE rfl rfl rfl rfl ent_88 (page_spec (hI.bring 3) hS hT (id)) ?_)
  clear hI hE a
  rintro r w h a hE; rcases h with ⟨x6, hx7, D8, e9, hD10, rfl, he11, ho12, hT13, hI⟩ | ⟨c14, o15, hx7, rfl, s16, hT13, hI⟩
  · skip
    replace hI := hI.put_back 3
    try simp only [nrm, Value.cells] at hI
    have hlen_x6 := ho12.len
    obtain ⟨A17, c18, rfl, _⟩ := he11.slice
    refine zm hE ?_; clear hE a; intro a hE
    refine zx hE ?_; clear hE a; intro a hE
    refine zx hE ?_; clear hE a; intro a hE
    refine l_step rfl (f_alloc (cs := #[.int .i64 0, .int .i64 0, .int .i64 0, .int .i64 0, .slice none 0 0]) hE hI rfl rfl rfl zer_83 rfl ?_)
    clear hI hE a w; intro a b19 w hE hI
    refine l_step rfl (f_store (l := [_, _, _, _, _]) (ss' := _ :: _) 0 hE hI rfl rfl rfl rfl rfl sz_83 (by simp [Value.cells, Value.oneCell', pgCells, rcCells, zPg]) rfl rfl rfl ?_)
    clear hI w; intro w hI
    refine za hE ?_; clear hE a; intro a hE
    refine wnt ?_
    refine wp_seq ?_
    refine wsr ?_
    refine zm hE ?_; clear hE a; intro a hE
    refine zs hE (p_ifaceNil Tryd.underlying25 rfl rfl rfl) ?_; clear hE a; intro a hE
    refine wnt ?_
    refine c_false hE rfl ?_
    refine wp_skip ?_
    refine then_normal ?_
    refine wp_seq ?_
    have hlv0 := ho12.v0
    have hlv1 := ho12.v1
    refine c_cutb [0, 2, 3, 4, 10, 11, 24, 41] 56 (x6.level ≠ level ∨ (0 < level ∧ x6.ents = [])) hE ?_ ?_
    · skip
      refine wp_region_list ?_
      refine zs hE (p_fieldAddr (m := 2) rfl fo_83_2 rfl) ?_; clear hE a; intro a hE
      refine zl hE (f_load rfl scal_3 (hI.seg 0 rfl) rfl) ?_; clear hE a; intro a hE
      refine zm hE ?_; clear hE a; intro a hE
      refine l_step rfl (o_cmp hE rfl rfl rfl rfl rfl rfl ?_ ?_)
      · intro hxl; replace hxl := neq_t hxl; clear hE a; intro a hE
        refine zm hE ?_; clear hE a; intro a hE
        refine zk hE ?_; clear hE a; intro a hE
        refine zk hE ?_; clear hE a; intro a hE
        refine zk hE ?_; clear hE a; intro a hE
        refine zk hE ?_; clear hE a; intro a hE
        refine zk hE ?_; clear hE a; intro a hE
        refine zk hE ?_; clear hE a; intro a hE
        refine zk hE ?_; clear hE a; intro a hE
        refine zk hE ?_; clear hE a; intro a hE
        refine zs hE (p_pick (b := true) rfl rfl) ?_; clear hE a; intro a hE
        refine wnt ?_
        exact ⟨rfl, true, ⟨fun _ => (by first | exact .inl (by omega) | exact .inr ⟨by omega, List.length_eq_zero_iff.1 (by omega)⟩), fun _ => rfl⟩, hE.pick [56, 0, 2, 3, 4, 10, 11, 24, 41]⟩
      intro hxl; replace hxl := neq_f hxl; clear hE a; intro a hE
      refine zm hE ?_; clear hE a; intro a hE
      refine gs hE (p_move rfl) ?_; clear hE a; intro a hE
      refine l_go hE rfl (o_cmp hE rfl rfl rfl rfl rfl rfl ?_ ?_)
      · intro hl0; replace hl0 := gtr_t hl0; clear hE a; intro a hE
        refine gs hE (p_move rfl) ?_; clear hE a; intro a hE
        refine gs hE (p_fieldAddr (m := 4) rfl fo_83_4 rfl) ?_; clear hE a; intro a hE
        refine gl hE (f_load rfl scal_65 (hI.seg 0 rfl) rfl) ?_; clear hE a; intro a hE
        refine gs hE (p_len rfl rfl Tryd.underlying65) ?_; clear hE a; intro a hE
        refine l_go hE rfl (o_cmp hE rfl rfl rfl rfl rfl rfl ?_ ?_)
        · intro hz; replace hz := eql_t hz; clear hE a; intro a hE
          refine gs hE (p_pick (b := true) rfl rfl) ?_; clear hE a; intro a hE
          refine zs hE (p_pick (b := false) rfl rfl) ?_; clear hE a; intro a hE
          refine wnt ?_
          exact ⟨rfl, true, ⟨fun _ => (by first | exact .inl (by omega) | exact .inr ⟨by omega, List.length_eq_zero_iff.1 (by omega)⟩), fun _ => rfl⟩, hE.pick [56, 0, 2, 3, 4, 10, 11, 24, 41]⟩
        intro hz; replace hz := eql_f hz; clear hE a; intro a hE
        refine gs hE (p_pick (b := true) rfl rfl) ?_; clear hE a; intro a hE
        refine zs hE (p_pick (b := false) rfl rfl) ?_; clear hE a; intro a hE
        refine wnt ?_
        exact ⟨rfl, false, ⟨fun h => Bool.noConfusion h, fun h => absurd h (by rintro (q | ⟨q, h0⟩); omega; have h9 : x6.ents.length = 0 := (by rw [h0]; rfl); omega)⟩, hE.pick [56, 0, 2, 3, 4, 10, 11, 24, 41]⟩
      intro hl0; replace hl0 := gtr_f hl0; clear hE a; intro a hE
      refine gs hE (p_move rfl) ?_; clear hE a; intro a hE
      refine zk hE ?_; clear hE a; intro a hE
      refine zk hE ?_; clear hE a; intro a hE
      refine zk hE ?_; clear hE a; intro a hE
      refine zk hE ?_; clear hE a; intro a hE
      refine gs hE (p_pick (b := false) rfl rfl) ?_; clear hE a; intro a hE
      refine zs hE (p_pick (b := false) rfl rfl) ?_; clear hE a; intro a hE
      refine wnt ?_
      exact ⟨rfl, false, ⟨fun h => Bool.noConfusion h, fun h => absurd h (by rintro (q | ⟨q, h0⟩); omega; have h9 : x6.ents.length = 0 := (by rw [h0]; rfl); omega)⟩, hE.pick [56, 0, 2, 3, 4, 10, 11, 24, 41]⟩
    clear hE a; intro bb21 a hb20 hE
    replace hE : EnvOk 147 [(56, .bool bb21), (0, _), (2, _), (3, _), (4, _), (10, _), (11, _), (24, _), (41, _)] a := hE
    rcases Bool.eq_false_or_eq_true bb21 with rfl | rfl
    · replace hb20 := iff_t hb20
      refine c_true hE rfl ?_
      refine wsr ?_
      obtain ⟨T_22, fr_22, hg_22⟩ := hS.g103
      refine zl hE (f_load rfl scal_25 (hI.data _ _ (hD10 _ _ (hg_22))) rfl) ?_; clear hE a; intro a hE
      refine za hE ?_; clear hE a; intro a hE
      refine wnt ?_
      refine wp_ret ?_
      refine then_ret ?_
      refine ret1 rfl hE rfl ?_
      replace hI := hI.erase 3
      replace hI := hI.erase 2
      replace hI := hI.erase 1
      replace hI := hI.erase 0
      exact .inr ⟨103, none, (walk_shape hgo hx7 hb20), rfl, D8, _, hD10, hT13, hI⟩
    replace hb20 := iff_f hb20
    refine c_false hE rfl ?_
    refine wp_skip ?_
    refine then_normal ?_
    refine wp_seq ?_
    refine wp_seq ?_
    have hsh : ¬ (x6.level ≠ level ∨ (0 < level ∧ x6.ents = [])) := hb20
    refine wp_region_list ?_
    refine zs hE (p_fieldAddr (m := 4) rfl fo_83_4 rfl) ?_; clear hE a; intro a hE
    refine zl hE (f_load rfl scal_65 (hI.seg 0 rfl) rfl) ?_; clear hE a; intro a hE
    refine zs hE (p_len rfl rfl Tryd.underlying65) ?_; clear hE a; intro a hE
    refine zm hE ?_; clear hE a; intro a hE
    refine wnt ?_
    refine wp_block ?_
    replace hI := hI.bring 4
    replace hI := hI.bring 4
    replace hI := hI.bring 4
    replace hI := hI.bring 4
    refine c_loop (X := Nat) (fun y => [(0, _), (2, _), (3, _), (4, _), (11, _), (59, _), (60, _), (61, .int .i64 (y : Nat))]) (fun y w => y ≤ x6.ents.length ∧ (∀ j, j < y → entB level low high x6.ents j = true) ∧ Inv w0 D8 ([(bc, .cells #[.pointer (some ⟨bb0, 0, none⟩), .map (some bs), .slice Av c.leaves.length cv, .int .i64 c.keys] 141 (0, 0))] :: [(bs, .map es_5 clk_5)] :: sl :: s :: [(b19, .cells #[.int .i64 x6.id, .int .i64 x6.lsn, .int .i64 x6.level, .int .i64 x6.next, .slice A17 (x6.ents).length c18] 83 (0, 0))] :: ss) w) (fun y => x6.ents.length - y) 0 (hE.pick [0, 2, 3, 4, 11, 59, 60, 61]) ⟨Nat.zero_le _, fun j hj => absurd hj (Nat.not_lt_zero _), hI⟩ ?_
    clear hE hI a w
    rintro i a w hE ⟨hi, hall, hI⟩
    try dsimp only at hE
    try dsimp only at hi
    try dsimp only at hall
    try dsimp only at hI
    refine wsr ?_
    refine l_step rfl (o_cmp hE rfl rfl rfl rfl rfl rfl ?_ ?_)
    · intro hlt; replace hlt := lss_t hlt; clear hE a; intro a hE
      refine wnt ?_
      refine wp_seq ?_
      refine c_true hE rfl ?_
      refine wp_skip ?_
      refine then_normal ?_
      refine wp_seq ?_
      refine wp_block ?_
      refine wsr ?_
      refine zm hE ?_; clear hE a; intro a hE
      obtain ⟨x_23, hx_23⟩ : ∃ z9, (x6.ents)[i]? = some z9 := ⟨_, List.getElem?_eq_getElem (by omega)⟩
      obtain ⟨b_23, o_23, cs_23, T_23, fr_23, rfl, hb_23, hat_23⟩ := he11.at_ (by intro h0; rw [h0] at hx_23; simp at hx_23)
      obtain ⟨vs_23, hl_23, ⟨k_23, v_23, rfl, hk_23, hv_23, hok_23⟩, hex_23, hsz_23, hce_23⟩ := hat_23.extract hx_23 (by omega)
      obtain ⟨A24, c25, rfl, _⟩ := hk_23.slice
      obtain ⟨A26, c27, rfl, _⟩ := hv_23.slice
      refine zs hE (p_indexAddr (m := o_23 + i * 2) rfl rfl Tryd.underlying65 sz_69 (by omega) (by omega) (by simp)) ?_; clear hE a; intro a hE
      refine zl hE (r_loadA rfl agg_69 (hI.data _ _ (hb_23)) hsz_23 hex_23) ?_; clear hE a; intro a hE
      refine l_step rfl (f_alloc (cs := #[.slice none 0 0, .slice none 0 0]) hE hI rfl rfl rfl zer_69 rfl ?_)
      clear hI hE a w; intro a b28 w hE hI
      refine za hE ?_; clear hE a; intro a hE
      refine l_step rfl (f_store (l := [_, _]) (ss' := _ :: _) 0 hE hI rfl rfl rfl rfl rfl sz_69 (by simp [Value.cells, Value.oneCell', pgCells, rcCells, zPg]) rfl rfl rfl ?_)
      clear hI w; intro w hI
      refine wnt ?_
      refine wp_block ?_
      refine c_cutb [0, 2, 3, 4, 11, 13, 14, 59, 60, 61, 62] 66 (0 < level ∧ i = 0) hE ?_ ?_
      · skip
        refine wp_region_list ?_
        refine zm hE ?_; clear hE a; intro a hE
        refine l_step rfl (o_cmp hE rfl rfl rfl rfl rfl rfl ?_ ?_)
        · intro hl1; replace hl1 := gtr_t hl1; clear hE a; intro a hE
          refine zm hE ?_; clear hE a; intro a hE
          refine gs hE (p_move rfl) ?_; clear hE a; intro a hE
          refine l_go hE rfl (o_cmp hE rfl rfl rfl rfl rfl rfl ?_ ?_)
          · intro hi0; replace hi0 := eql_t hi0; clear hE a; intro a hE
            refine zs hE (p_pick (b := true) rfl rfl) ?_; clear hE a; intro a hE
            refine za hE ?_; clear hE a; intro a hE
            refine wnt ?_
            exact ⟨rfl, true, ⟨fun _ => ⟨by omega, by omega⟩, fun _ => rfl⟩, hE.pick [66, 0, 2, 3, 4, 11, 13, 14, 59, 60, 61, 62]⟩
          intro hi0; replace hi0 := eql_f hi0; clear hE a; intro a hE
          refine zs hE (p_pick (b := true) rfl rfl) ?_; clear hE a; intro a hE
          refine za hE ?_; clear hE a; intro a hE
          refine wnt ?_
          exact ⟨rfl, false, ⟨fun h => Bool.noConfusion h, fun h => absurd h (by omega)⟩, hE.pick [66, 0, 2, 3, 4, 11, 13, 14, 59, 60, 61, 62]⟩
        intro hl1; replace hl1 := gtr_f hl1; clear hE a; intro a hE
        refine zm hE ?_; clear hE a; intro a hE
        refine zk hE ?_; clear hE a; intro a hE
        refine zk hE ?_; clear hE a; intro a hE
        refine zs hE (p_pick (b := false) rfl rfl) ?_; clear hE a; intro a hE
        refine za hE ?_; clear hE a; intro a hE
        refine wnt ?_
        exact ⟨rfl, false, ⟨fun h => Bool.noConfusion h, fun h => absurd h (by omega)⟩, hE.pick [66, 0, 2, 3, 4, 11, 13, 14, 59, 60, 61, 62]⟩
      clear hE a; intro bb30 a hb29 hE
      replace hE : EnvOk 147 [(66, .bool bb30), (0, _), (2, _), (3, _), (4, _), (11, _), (13, _), (14, _), (59, _), (60, _), (61, _), (62, _)] a := hE
      rcases Bool.eq_false_or_eq_true bb30 with rfl | rfl
      · replace hb29 := iff_t hb29
        refine c_true hE rfl ?_
        refine wp_seq ?_
        refine wsr ?_
        refine zs hE (p_fieldAddr (m := 0) rfl fo_69_0 rfl) ?_; clear hE a; intro a hE
        refine zl hE (f_load rfl scal_22 (hI.seg 0 rfl) rfl) ?_; clear hE a; intro a hE
        refine zs hE (p_len rfl rfl Tryd.underlying22) ?_; clear hE a; intro a hE
        refine l_step rfl (o_cmp hE rfl rfl rfl rfl rfl rfl ?_ ?_)
        · intro hk0; replace hk0 := gtr_t hk0; clear hE a; intro a hE
          refine wnt ?_
          refine c_true hE rfl ?_
          refine wsr ?_
          obtain ⟨T_31, fr_31, hg_31⟩ := hS.g103
          refine zl hE (f_load rfl scal_25 (hI.data _ _ (hD10 _ _ (hg_31))) rfl) ?_; clear hE a; intro a hE
          refine za hE ?_; clear hE a; intro a hE
          refine wnt ?_
          refine wp_ret ?_
          refine then_ret ?_
          refine blk_ret ?_
          refine blk_ret ?_
          refine then_ret ?_
          refine then_ret ?_
          refine blk_ret ?_
          refine then_ret ?_
          refine ret1 rfl hE rfl ?_
          have hbad : ¬ entB level low high x6.ents i = true := by
              obtain ⟨hl1, hi0⟩ := hb29
              subst hi0
              intro h
              have h9 := (entB_first hl1 hx_23).1 h
              rw [h9] at hk0; simp at hk0
          replace hI := hI.erase 5
          replace hI := hI.erase 3
          replace hI := hI.erase 2
          replace hI := hI.erase 1
          replace hI := hI.erase 0
          exact .inr ⟨103, none, (walk_ents hgo hx7 hsh (entsOk_no (by omega) hbad)), rfl, D8, _, hD10, hT13, hI⟩
        intro hk0; replace hk0 := gtr_f hk0; clear hE a; intro a hE
        refine wnt ?_
        refine c_false hE rfl ?_
        refine wp_skip ?_
        refine then_normal ?_
        refine wp_exit ?_
        refine blk_other rfl ?_
        refine blk_same ?_
        refine then_normal ?_
        refine wp_region_list ?_
        refine zs hE (p_arith (z := ((i + 1 : Nat) : Int)) rfl rfl (add_z (by omega) (by omega) (by omega))) ?_; clear hE a; intro a hE
        refine zm hE ?_; clear hE a; intro a hE
        refine wnt ?_
        replace hI := hI.erase 0
        have hthis : entB level low high x6.ents i = true := by
            obtain ⟨hl1, hi0⟩ := hb29
            subst hi0
            exact (entB_first hl1 hx_23).2 (List.length_eq_zero_iff.1 (by omega))
        exact ⟨i + 1, hE.pick [0, 2, 3, 4, 11, 59, 60, 61], ⟨by show i + 1 ≤ _; omega, fun j hj => by
            rcases Nat.lt_or_eq_of_le (Nat.lt_succ_iff.1 hj) with h | h
            · exact hall j h
            exact h ▸ hthis, hI⟩, by show x6.ents.length - (i + 1) < x6.ents.length - i; omega⟩
      replace hb29 := iff_f hb29
      refine c_false hE rfl ?_
      refine c_cutB [0, 2, 3, 4, 11, 59, 60, 61, 13, 14] 78 (fun y w => (y = true ↔ (x_23.1 = [] ∨ ltB x_23.1 low = true ∨ ∃ h, high = some h ∧ ltB x_23.1 h = false)) ∧ Inv w0 D8 ([(b28, .cells #[.slice A24 (x_23.1).length c25, .slice A26 (x_23.2).length c27] 69 (0, 0))] :: [(bc, .cells #[.pointer (some ⟨bb0, 0, none⟩), .map (some bs), .slice Av c.leaves.length cv, .int .i64 c.keys] 141 (0, 0))] :: [(bs, .map es_5 clk_5)] :: sl :: s :: [(b19, .cells #[.int .i64 x6.id, .int .i64 x6.lsn, .int .i64 x6.level, .int .i64 x6.next, .slice (some ⟨b_23, o_23, none⟩) (x6.ents).length c18] 83 (0, 0))] :: ss) w) hE ?_ ?_
      · skip
        refine wp_region_list ?_
        refine zs hE (p_fieldAddr (m := 0) rfl fo_69_0 rfl) ?_; clear hE a; intro a hE
        refine zl hE (f_load rfl scal_22 (hI.seg 0 rfl) rfl) ?_; clear hE a; intro a hE
        refine zs hE (p_len rfl rfl Tryd.underlying22) ?_; clear hE a; intro a hE
        refine l_step rfl (o_cmp hE rfl rfl rfl rfl rfl rfl ?_ ?_)
        · intro hk1; replace hk1 := eql_t hk1; clear hE a; intro a hE
          refine zm hE ?_; clear hE a; intro a hE
          refine zk hE ?_; clear hE a; intro a hE
          refine zk hE ?_; clear hE a; intro a hE
          refine zk hE ?_; clear hE a; intro a hE
          refine zk hE ?_; clear hE a; intro a hE
          refine zk hE ?_; clear hE a; intro a hE
          refine zs hE (p_pick (b := true) rfl rfl) ?_; clear hE a; intro a hE
          refine zm hE ?_; clear hE a; intro a hE
          refine zk hE ?_; clear hE a; intro a hE
          refine zk hE ?_; clear hE a; intro a hE
          refine zk hE ?_; clear hE a; intro a hE
          refine zk hE ?_; clear hE a; intro a hE
          refine zk hE ?_; clear hE a; intro a hE
          refine zk hE ?_; clear hE a; intro a hE
          refine zk hE ?_; clear hE a; intro a hE
          refine zk hE ?_; clear hE a; intro a hE
          refine zk hE ?_; clear hE a; intro a hE
          refine zs hE (p_pick (b := true) rfl rfl) ?_; clear hE a; intro a hE
          refine za hE ?_; clear hE a; intro a hE
          refine wnt ?_
          exact ⟨true, hE.pick [78, 0, 2, 3, 4, 11, 59, 60, 61, 13, 14], ⟨fun _ => by
              first
              | exact .inl (List.length_eq_zero_iff.1 (by omega))
              | exact .inr (.inl ((cmpL_lt _ _).1 hlo))
              | (cases high with
                 | none => exact absurd (hhn.2 rfl) (by simp)
                 | some hg =>
                   refine .inr (.inr ⟨hg, rfl, ?_⟩)
                   cases hq : ltB x_23.1 hg with
                   | false => rfl
                   | true => have := (cmpL_lt _ _).2 hq; simp only [Option.getD_some] at hhi; omega), fun _ => rfl⟩, hI⟩
        intro hk1; replace hk1 := eql_f hk1; clear hE a; intro a hE
        refine zm hE ?_; clear hE a; intro a hE
        refine gs hE (p_fieldAddr (m := 0) rfl fo_69_0 rfl) ?_; clear hE a; intro a hE
        refine gl hE (f_load rfl scal_22 (hI.seg 0 rfl) rfl) ?_; clear hE a; intro a hE
        refine gs hE (p_move rfl) ?_; clear hE a; intro a hE
        refine l_go hE rfl (o_call hE rfl rfl rfl rfl ent_84 (Compare_spec hI hk_23 (hlow.mono hD10)) ?_)
        clear hI hE a
        rintro r w ⟨rfl, hI⟩ a hE
        refine l_go hE rfl (o_cmp hE rfl rfl rfl rfl rfl rfl ?_ ?_)
        · intro hlo; replace hlo := lss_t hlo; clear hE a; intro a hE
          refine zs hE (p_pick (b := false) rfl rfl) ?_; clear hE a; intro a hE
          refine zm hE ?_; clear hE a; intro a hE
          refine zk hE ?_; clear hE a; intro a hE
          refine zk hE ?_; clear hE a; intro a hE
          refine zk hE ?_; clear hE a; intro a hE
          refine zk hE ?_; clear hE a; intro a hE
          refine zk hE ?_; clear hE a; intro a hE
          refine zk hE ?_; clear hE a; intro a hE
          refine zk hE ?_; clear hE a; intro a hE
          refine zk hE ?_; clear hE a; intro a hE
          refine zk hE ?_; clear hE a; intro a hE
          refine zs hE (p_pick (b := true) rfl rfl) ?_; clear hE a; intro a hE
          refine za hE ?_; clear hE a; intro a hE
          refine wnt ?_
          exact ⟨true, hE.pick [78, 0, 2, 3, 4, 11, 59, 60, 61, 13, 14], ⟨fun _ => by
              first
              | exact .inl (List.length_eq_zero_iff.1 (by omega))
              | exact .inr (.inl ((cmpL_lt _ _).1 hlo))
              | (cases high with
                 | none => exact absurd (hhn.2 rfl) (by simp)
                 | some hg =>
                   refine .inr (.inr ⟨hg, rfl, ?_⟩)
                   cases hq : ltB x_23.1 hg with
                   | false => rfl
                   | true => have := (cmpL_lt _ _).2 hq; simp only [Option.getD_some] at hhi; omega), fun _ => rfl⟩, hI⟩
        intro hlo; replace hlo := lss_f hlo; clear hE a; intro a hE
        refine zs hE (p_pick (b := false) rfl rfl) ?_; clear hE a; intro a hE
        refine zm hE ?_; clear hE a; intro a hE
        refine gs hE (p_move rfl) ?_; clear hE a; intro a hE
        rcases Ah with _ | Ah
        · skip
          refine gs hE (p_eq rfl rfl (g_none rfl) (e_sliceNil Tryd.underlying22 (rfl)) rfl rfl) ?_; clear hE a; intro a hE
          refine gs hE (p_move rfl) ?_; clear hE a; intro a hE
          refine zk hE ?_; clear hE a; intro a hE
          refine zk hE ?_; clear hE a; intro a hE
          refine zk hE ?_; clear hE a; intro a hE
          refine zk hE ?_; clear hE a; intro a hE
          refine zk hE ?_; clear hE a; intro a hE
          refine gs hE (p_pick (b := false) rfl rfl) ?_; clear hE a; intro a hE
          refine zs hE (p_pick (b := false) rfl rfl) ?_; clear hE a; intro a hE
          refine za hE ?_; clear hE a; intro a hE
          refine wnt ?_
          exact ⟨false, hE.pick [78, 0, 2, 3, 4, 11, 59, 60, 61, 13, 14], ⟨fun h => Bool.noConfusion h, fun h => absurd h (by
              rintro (q | q | ⟨hg, qe, q⟩)
              · rw [q] at hk1; simp at hk1
              · have := (cmpL_lt _ _).2 q; omega
              rw [qe] at hhn; exact absurd (hhn.1 rfl) (by simp))⟩, hI⟩
        refine gs hE (p_eq rfl rfl (g_none rfl) (e_sliceNil Tryd.underlying22 (rfl)) rfl rfl) ?_; clear hE a; intro a hE
        refine gs hE (p_move rfl) ?_; clear hE a; intro a hE
        refine gs hE (p_fieldAddr (m := 0) rfl fo_69_0 rfl) ?_; clear hE a; intro a hE
        refine gl hE (f_load rfl scal_22 (hI.seg 0 rfl) rfl) ?_; clear hE a; intro a hE
        refine gs hE (p_move rfl) ?_; clear hE a; intro a hE
        refine l_go hE rfl (o_call hE rfl rfl rfl rfl ent_84 (Compare_spec hI hk_23 (hhb.mono hD10)) ?_)
        clear hI hE a
        rintro r w ⟨rfl, hI⟩ a hE
        refine l_go hE rfl (o_cmp hE rfl rfl rfl rfl rfl rfl ?_ ?_)
        · intro hhi; replace hhi := geq_t hhi; clear hE a; intro a hE
          refine gs hE (p_pick (b := true) rfl rfl) ?_; clear hE a; intro a hE
          refine zs hE (p_pick (b := false) rfl rfl) ?_; clear hE a; intro a hE
          refine za hE ?_; clear hE a; intro a hE
          refine wnt ?_
          exact ⟨true, hE.pick [78, 0, 2, 3, 4, 11, 59, 60, 61, 13, 14], ⟨fun _ => by
              first
              | exact .inl (List.length_eq_zero_iff.1 (by omega))
              | exact .inr (.inl ((cmpL_lt _ _).1 hlo))
              | (cases high with
                 | none => exact absurd (hhn.2 rfl) (by simp)
                 | some hg =>
                   refine .inr (.inr ⟨hg, rfl, ?_⟩)
                   cases hq : ltB x_23.1 hg with
                   | false => rfl
                   | true => have := (cmpL_lt _ _).2 hq; simp only [Option.getD_some] at hhi; omega), fun _ => rfl⟩, hI⟩
        intro hhi; replace hhi := geq_f hhi; clear hE a; intro a hE
        refine gs hE (p_pick (b := true) rfl rfl) ?_; clear hE a; intro a hE
        refine zs hE (p_pick (b := false) rfl rfl) ?_; clear hE a; intro a hE
        refine za hE ?_; clear hE a; intro a hE
        refine wnt ?_
        exact ⟨false, hE.pick [78, 0, 2, 3, 4, 11, 59, 60, 61, 13, 14], ⟨fun h => Bool.noConfusion h, fun h => absurd h (by
            rintro (q | q | ⟨hg, qe, q⟩)
            · rw [q] at hk1; simp at hk1
            · have := (cmpL_lt _ _).2 q; omega
            subst qe; have h8 := (cmpL_lt _ _).1 (show cmpL _ _ < 0 by have h9 := hhi; simp only [Option.getD_some] at h9; omega); rw [q] at h8; cases h8)⟩, hI⟩
      clear hE hI a w; rintro x15 a w hE ⟨hx15, hI⟩
      try dsimp only at hE
      try dsimp only at hx15
      try dsimp only at hI
      replace hE : EnvOk 147 [(78, .bool x15), (0, _), (2, _), (3, _), (4, _), (11, _), (59, _), (60, _), (61, _), (13, _), (14, _)] a := hE
      rcases Bool.eq_false_or_eq_true x15 with rfl | rfl
      · replace hx15 := iff_t hx15
        refine c_true hE rfl ?_
        refine wsr ?_
        obtain ⟨T_32, fr_32, hg_32⟩ := hS.g103
        refine zl hE (f_load rfl scal_25 (hI.data _ _ (hD10 _ _ (hg_32))) rfl) ?_; clear hE a; intro a hE
        refine za hE ?_; clear hE a; intro a hE
        refine wnt ?_
        refine wp_ret ?_
        refine blk_ret ?_
        refine blk_ret ?_
        refine then_ret ?_
        refine then_ret ?_
        refine blk_ret ?_
        refine then_ret ?_
        refine ret1 rfl hE rfl ?_
        have hbad : ¬ entB level low high x6.ents i = true := by
            intro h
            have h9 := (entB_rest hb29 hx_23).1 h
            rcases hx15 with q | q | ⟨hg, qe, q⟩
            · exact h9.1 q
            · rw [h9.2.1] at q; cases q
            rw [h9.2.2.1 hg qe] at q; cases q
        replace hI := hI.erase 5
        replace hI := hI.erase 3
        replace hI := hI.erase 2
        replace hI := hI.erase 1
        replace hI := hI.erase 0
        exact .inr ⟨103, none, (walk_ents hgo hx7 hsh (entsOk_no (by omega) hbad)), rfl, D8, _, hD10, hT13, hI⟩
      replace hx15 := iff_f hx15
      refine c_false hE rfl ?_
      refine c_cutB [0, 2, 3, 4, 11, 59, 60, 61, 13, 14] 102 (fun y w => (y = true ↔ (0 < i ∧ ∃ p, x6.ents[i - 1]? = some p ∧ ltB p.1 x_23.1 = false)) ∧ Inv w0 D8 ([(b28, .cells #[.slice A24 (x_23.1).length c25, .slice A26 (x_23.2).length c27] 69 (0, 0))] :: [(bc, .cells #[.pointer (some ⟨bb0, 0, none⟩), .map (some bs), .slice Av c.leaves.length cv, .int .i64 c.keys] 141 (0, 0))] :: [(bs, .map es_5 clk_5)] :: sl :: s :: [(b19, .cells #[.int .i64 x6.id, .int .i64 x6.lsn, .int .i64 x6.level, .int .i64 x6.next, .slice (some ⟨b_23, o_23, none⟩) (x6.ents).length c18] 83 (0, 0))] :: ss) w) hE ?_ ?_
      · skip
        refine d_start [] [] (by kernel_rfl) hI rfl rfl ?_
        clear hI w; intro w hI
        refine dp 0 hE rfl (p_move rfl) (fun _ => hI) (listed' := #[true, false, false, false, false, false, false, false, false, false, false, false, false, false, false, false]) ?_; clear hE a; intro a hE
        refine d_cmp 1 hE rfl (by kernel_rfl) (by kernel_rfl) (by kernel_rfl) rfl (fun _ _ _ _ h => h) rfl rfl rfl rfl rfl rfl rfl (fun _ => hI) (listed' := #[true, true, false, false, false, false, false, false, false, false, false, false, false, false, false, false]) rfl ?_ ?_
        · intro hip; replace hip := gtr_t hip; clear hE a; intro a hE
          refine dp 2 hE rfl (p_move rfl) (fun _ => hI) ?_; clear hE a; intro a hE
          refine dp 3 hE rfl (p_fieldAddr (m := 4) rfl fo_83_4 rfl) (fun _ => hI) ?_; clear hE a; intro a hE
          refine dl 4 hE rfl (fun w hS => f_load rfl scal_65 (Inv.seg 5 hS rfl) rfl) (hI) ?_; clear hE a; intro a hE
          refine dp 5 hE rfl (p_move rfl) (fun _ => hI) ?_; clear hE a; intro a hE
          refine dp 6 hE rfl (p_arith (z := ((i - 1 : Nat) : Int)) rfl rfl (sub_z (by omega) (by omega) (by omega))) (fun _ => hI) ?_; clear hE a; intro a hE
          obtain ⟨x_33, hx_33⟩ : ∃ z9, (x6.ents)[(i - 1)]? = some z9 := ⟨_, List.getElem?_eq_getElem (by omega)⟩
          obtain ⟨vs_33, hl_33, ⟨k_33, v_33, rfl, hk_33, hv_33, hok_33⟩, hex_33, hsz_33, hce_33⟩ := hat_23.extract hx_33 (by omega)
          obtain ⟨A34, c35, rfl, _⟩ := hk_33.slice
          obtain ⟨A36, c37, rfl, _⟩ := hv_33.slice
          refine dp 7 hE rfl (p_indexAddr (m := o_23 + (i - 1) * 2) rfl rfl Tryd.underlying65 sz_69 (by omega) (by omega) (by simp)) (fun _ => hI) ?_; clear hE a; intro a hE
          refine dp 8 hE rfl (p_fieldAddr rfl fo_69_0 rfl) (fun _ => hI) ?_; clear hE a; intro a hE
          refine dl 9 hE rfl (fun w hS => r_load rfl scal_22 (Inv.data hS _ _ (hb_23)) (hce_33 0 _ rfl)) (hI) ?_; clear hE a; intro a hE
          refine dp 10 hE rfl (p_fieldAddr (m := 0) rfl fo_69_0 rfl) (fun _ => hI) ?_; clear hE a; intro a hE
          refine dl 11 hE rfl (fun w hS => f_load rfl scal_22 (Inv.seg 0 hS rfl) rfl) (hI) ?_; clear hE a; intro a hE
          refine do1 12 hE rfl ?_
          refine o_call hE rfl rfl rfl rfl ent_84 (Compare_spec hI hk_33 hk_23) ?_
          clear hI hE a
          rintro r w ⟨rfl, hI⟩ a hE
          refine ⟨fun _ => hI, ?_⟩
          refine d_cmp 13 hE rfl (by kernel_rfl) (by kernel_rfl) (by kernel_rfl) rfl (fun _ _ _ _ h => h) rfl rfl rfl rfl rfl rfl rfl (fun _ => hI) (listed' := #[true, true, true, true, true, true, true, true, true, true, true, true, true, true, false, false]) rfl ?_ ?_
          · intro hpv; replace hpv := geq_t hpv; clear hE a; intro a hE
            refine dp 14 hE rfl (p_pick (b := true) rfl rfl) (fun _ => hI) ?_; clear hE a; intro a hE
            refine dp 15 hE rfl (p_assign rfl) (fun _ => hI) ?_; clear hE a; intro a hE
            refine d_done (by kernel_rfl) ?_
            refine then_normal ?_
            exact ⟨true, hE.pick [102, 0, 2, 3, 4, 11, 59, 60, 61, 13, 14], ⟨fun _ => ⟨by omega, x_33, hx_33, by
                cases hq : ltB x_33.1 x_23.1 with
                | false => rfl
                | true => have := (cmpL_lt _ _).2 hq; omega⟩, fun _ => rfl⟩, hI⟩
          intro hpv; replace hpv := geq_f hpv; clear hE a; intro a hE
          refine dp 14 hE rfl (p_pick (b := true) rfl rfl) (fun _ => hI) ?_; clear hE a; intro a hE
          refine dp 15 hE rfl (p_assign rfl) (fun _ => hI) ?_; clear hE a; intro a hE
          refine d_done (by kernel_rfl) ?_
          refine then_normal ?_
          exact ⟨false, hE.pick [102, 0, 2, 3, 4, 11, 59, 60, 61, 13, 14], ⟨fun h => Bool.noConfusion h, fun h => absurd h (by
              rintro ⟨_, p, hp, q⟩
              rw [hx_33] at hp; injection hp with hp; subst hp
              have := (cmpL_lt _ _).1 (show cmpL x_33.1 x_23.1 < 0 by omega); rw [q] at this; cases this)⟩, hI⟩
        intro hip; replace hip := gtr_f hip; clear hE a; intro a hE
        refine dp 2 hE rfl (p_move rfl) (fun _ => hI) ?_; clear hE a; intro a hE
        refine d_skip 3 hE rfl (by kernel_rfl) (by kernel_rfl) (by kernel_rfl) rfl (fun _ _ _ h => h) rfl rfl rfl (fun _ => hI) (listed' := #[true, true, true, true, false, false, false, false, false, false, false, false, false, false, false, false]) rfl ?_; clear hE a; intro a hE
        refine d_skip 4 hE rfl (by kernel_rfl) (by kernel_rfl) (by kernel_rfl) rfl (fun _ _ _ h => h) rfl rfl rfl (fun _ => hI) (listed' := #[true, true, true, true, true, false, false, false, false, false, false, false, false, false, false, false]) rfl ?_; clear hE a; intro a hE
        refine d_skip 5 hE rfl (by kernel_rfl) (by kernel_rfl) (by kernel_rfl) rfl (fun _ _ _ h => h) rfl rfl rfl (fun _ => hI) (listed' := #[true, true, true, true, true, true, false, false, false, false, false, false, false, false, false, false]) rfl ?_; clear hE a; intro a hE
        refine d_skip 6 hE rfl (by kernel_rfl) (by kernel_rfl) (by kernel_rfl) rfl (fun _ _ _ h => h) rfl rfl rfl (fun _ => hI) (listed' := #[true, true, true, true, true, true, true, false, false, false, false, false, false, false, false, false]) rfl ?_; clear hE a; intro a hE
        refine d_skip 7 hE rfl (by kernel_rfl) (by kernel_rfl) (by kernel_rfl) rfl (fun _ _ _ h => h) rfl rfl rfl (fun _ => hI) (listed' := #[true, true, true, true, true, true, true, true, false, false, false, false, false, false, false, false]) rfl ?_; clear hE a; intro a hE
        refine d_skip 8 hE rfl (by kernel_rfl) (by kernel_rfl) (by kernel_rfl) rfl (fun _ _ _ h => h) rfl rfl rfl (fun _ => hI) (listed' := #[true, true, true, true, true, true, true, true, true, false, false, false, false, false, false, false]) rfl ?_; clear hE a; intro a hE
        refine d_skip 9 hE rfl (by kernel_rfl) (by kernel_rfl) (by kernel_rfl) rfl (fun _ _ _ h => h) rfl rfl rfl (fun _ => hI) (listed' := #[true, true, true, true, true, true, true, true, true, true, false, false, false, false, false, false]) rfl ?_; clear hE a; intro a hE
        refine d_skip 10 hE rfl (by kernel_rfl) (by kernel_rfl) (by kernel_rfl) rfl (fun _ _ _ h => h) rfl rfl rfl (fun _ => hI) (listed' := #[true, true, true, true, true, true, true, true, true, true, true, false, false, false, false, false]) rfl ?_; clear hE a; intro a hE
        refine d_skip 11 hE rfl (by kernel_rfl) (by kernel_rfl) (by kernel_rfl) rfl (fun _ _ _ h => h) rfl rfl rfl (fun _ => hI) (listed' := #[true, true, true, true, true, true, true, true, true, true, true, true, false, false, false, false]) rfl ?_; clear hE a; intro a hE
        refine d_skip 12 hE rfl (by kernel_rfl) (by kernel_rfl) (by kernel_rfl) rfl (fun _ _ _ h => h) rfl rfl rfl (fun _ => hI) (listed' := #[true, true, true, true, true, true, true, true, true, true, true, true, true, false, false, false]) rfl ?_; clear hE a; intro a hE
        refine d_skip 13 hE rfl (by kernel_rfl) (by kernel_rfl) (by kernel_rfl) rfl (fun _ _ _ h => h) rfl rfl rfl (fun _ => hI) (listed' := #[true, true, true, true, true, true, true, true, true, true, true, true, true, true, false, false]) rfl ?_; clear hE a; intro a hE
        refine dp 14 hE rfl (p_pick (b := false) rfl rfl) (fun _ => hI) ?_; clear hE a; intro a hE
        refine dp 15 hE rfl (p_assign rfl) (fun _ => hI) ?_; clear hE a; intro a hE
        refine d_done (by kernel_rfl) ?_
        refine then_normal ?_
        exact ⟨false, hE.pick [102, 0, 2, 3, 4, 11, 59, 60, 61, 13, 14], ⟨fun h => Bool.noConfusion h, fun h => absurd h (by omega)⟩, hI⟩
      clear hE hI a w; rintro x17 a w hE ⟨hx17, hI⟩
      try dsimp only at hE
      try dsimp only at hx17
      try dsimp only at hI
      replace hE : EnvOk 147 [(102, .bool x17), (0, _), (2, _), (3, _), (4, _), (11, _), (59, _), (60, _), (61, _), (13, _), (14, _)] a := hE
      rcases Bool.eq_false_or_eq_true x17 with rfl | rfl
      · replace hx17 := iff_t hx17
        refine c_true hE rfl ?_
        refine wsr ?_
        obtain ⟨T_38, fr_38, hg_38⟩ := hS.g103
        refine zl hE (f_load rfl scal_25 (hI.data _ _ (hD10 _ _ (hg_38))) rfl) ?_; clear hE a; intro a hE
        refine za hE ?_; clear hE a; intro a hE
        refine wnt ?_
        refine wp_ret ?_
        refine blk_ret ?_
        refine blk_ret ?_
        refine then_ret ?_
        refine then_ret ?_
        refine blk_ret ?_
        refine then_ret ?_
        refine ret1 rfl hE rfl ?_
        have hbad : ¬ entB level low high x6.ents i = true := by
            intro h
            obtain ⟨q1, p, q2, q3⟩ := hx17
            have h9 := ((entB_rest hb29 hx_23).1 h).2.2.2 q1 p q2
            rw [q3] at h9; cases h9
        replace hI := hI.erase 5
        replace hI := hI.erase 3
        replace hI := hI.erase 2
        replace hI := hI.erase 1
        replace hI := hI.erase 0
        exact .inr ⟨103, none, (walk_ents hgo hx7 hsh (entsOk_no (by omega) hbad)), rfl, D8, _, hD10, hT13, hI⟩
      replace hx17 := iff_f hx17
      refine c_false hE rfl ?_
      refine wp_skip ?_
      refine blk_normal ?_
      refine blk_normal ?_
      refine then_normal ?_
      refine wp_region_list ?_
      refine zs hE (p_arith (z := ((i + 1 : Nat) : Int)) rfl rfl (add_z (by omega) (by omega) (by omega))) ?_; clear hE a; intro a hE
      refine zm hE ?_; clear hE a; intro a hE
      refine wnt ?_
      replace hI := hI.erase 0
      have hthis : entB level low high x6.ents i = true := by
          refine (entB_rest hb29 hx_23).2 ⟨fun q => hx15 (.inl q), ?_, ?_, ?_⟩
          · cases hq : ltB x_23.1 low with
            | false => rfl
            | true => exact absurd (.inr (.inl hq)) hx15
          · intro h hh; cases hq : ltB x_23.1 h with
            | true => rfl
            | false => exact absurd (.inr (.inr ⟨h, hh, hq⟩)) hx15
          intro h0 p hp; cases hq : ltB p.1 x_23.1 with
          | true => rfl
          | false => exact absurd ⟨h0, p, hp, hq⟩ hx17
      exact ⟨i + 1, hE.pick [0, 2, 3, 4, 11, 59, 60, 61], ⟨by show i + 1 ≤ _; omega, fun j hj => by
          rcases Nat.lt_or_eq_of_le (Nat.lt_succ_iff.1 hj) with h | h
          · exact hall j h
          exact h ▸ hthis, hI⟩, by show x6.ents.length - (i + 1) < x6.ents.length - i; omega⟩
    intro hlt; replace hlt := lss_f hlt; clear hE a; intro a hE
    refine wnt ?_
    refine wp_seq ?_
    refine c_false hE rfl ?_
    refine wp_exit ?_
    refine then_exit ?_
    refine then_exit ?_
    refine blk_same ?_
    refine then_normal ?_
    refine wp_seq ?_
    refine wsr ?_
    refine zm hE ?_; clear hE a; intro a hE
    refine l_step rfl (o_cmp hE rfl rfl rfl rfl rfl rfl ?_ ?_)
    · intro hlz; replace hlz := eql_t hlz; clear hE a; intro a hE
      refine wnt ?_
      refine c_true hE rfl ?_
      refine wp_seq ?_
      refine d_start [10] [2] (by kernel_rfl) hI rfl rfl ?_
      clear hI w; intro w hI
      refine dp 0 hE rfl (p_move rfl) (fun _ => (hI.dropS [2])) (listed' := #[true, false, false, false, false, false, false, false, false, false, false]) ?_; clear hE a; intro a hE
      refine dp 1 hE rfl (p_move rfl) (fun _ => (hI.dropS [2])) ?_; clear hE a; intro a hE
      refine dp 2 hE rfl (p_nilCheck rfl) (fun _ => (hI.dropS [2])) ?_; clear hE a; intro a hE
      refine dp 3 hE rfl (p_fieldAddr (m := 2) rfl fo_141_2 rfl) (fun _ => (hI.dropS [2])) ?_; clear hE a; intro a hE
      refine dl 4 hE rfl (fun w hS => f_load rfl scal_121 (Inv.seg 0 hS rfl) rfl) ((hI.dropS [2])) ?_; clear hE a; intro a hE
      refine dl 5 hE rfl (fun w hS => f_loadA (vs := [_, _, _, _, _]) rfl agg_83 (Inv.seg 3 hS rfl) rfl rfl) ((hI.dropS [2])) ?_; clear hE a; intro a hE
      refine do1 6 hE rfl ?_
      refine f_lit (vs := [(0, _)]) (l := [_, _, _, _, _]) hE hI rfl rfl rfl rfl Tryd.underlying121 zs_83 rfl rfl rfl ?_
      clear hI hE a w; intro a b39 w hE hI
      refine ⟨fun _ => (hI.dropS [3, 0]), ?_⟩
      refine do1 7 hE rfl ?_
      refine o_appendOR (R := PgR) (el := x6) 3 0 hE hI rfl rfl rfl rfl rfl Tryd.underlying121 zsb_83 rfl rfl rfl (OR.mono PgR.keeps hO hD10) rfl rfl (⟨_, rfl, he11, ho12⟩) (by simp [Value.oneCell']) (by have := ints_len hC.nodup hC.range; have := hC.leaves; omega) (by have := ints_len hC.nodup hC.range; have := hC.leaves; omega) ?_
      clear hI hE a w; intro v40 s41 w hO42 hI a hE
      obtain ⟨A43, c44, rfl, _⟩ := hO42.slice
      replace hI := hI.erase 0
      try simp only [nrm, Value.cells] at hI
      refine ⟨fun _ => (hI.dropS [2]), ?_⟩
      refine dp 8 hE rfl (p_nilCheck rfl) (fun _ => (hI.dropS [2])) ?_; clear hE a; intro a hE
      refine dp 9 hE rfl (p_fieldAddr (m := 2) rfl fo_141_2 rfl) (fun _ => (hI.dropS [2])) ?_; clear hE a; intro a hE
      refine do1 10 hE rfl ?_
      refine f_store (l := [_, _, _, _]) (ss' := _ :: _) 0 hE hI rfl rfl rfl rfl rfl sz_121 (by simp [Value.cells, Value.oneCell', pgCells, rcCells, zPg]) rfl rfl rfl ?_
      clear hI w; intro w hI
      refine ⟨nl, ?_⟩
      refine d_done (by kernel_rfl) ?_
      refine then_normal ?_
      refine wp_seq ?_
      refine d_start [10] [] (by kernel_rfl) hI rfl rfl ?_
      clear hI w; intro w hI
      refine dp 0 hE rfl (p_move rfl) (fun _ => hI) (listed' := #[true, false, false, false, false, false, false, false, false, false, false]) ?_; clear hE a; intro a hE
      refine dp 1 hE rfl (p_nilCheck rfl) (fun _ => hI) ?_; clear hE a; intro a hE
      refine dp 2 hE rfl (p_fieldAddr (m := 3) rfl fo_141_3 rfl) (fun _ => hI) ?_; clear hE a; intro a hE
      refine dl 3 hE rfl (fun w hS => f_load rfl scal_3 (Inv.seg 0 hS rfl) rfl) (hI) ?_; clear hE a; intro a hE
      refine dp 4 hE rfl (p_fieldAddr (m := 4) rfl fo_83_4 rfl) (fun _ => hI) ?_; clear hE a; intro a hE
      refine dl 5 hE rfl (fun w hS => f_load rfl scal_65 (Inv.seg 4 hS rfl) rfl) (hI) ?_; clear hE a; intro a hE
      refine dp 6 hE rfl (p_len rfl rfl Tryd.underlying65) (fun _ => hI) ?_; clear hE a; intro a hE
      refine dp 7 hE rfl (p_arith (z := c.keys + (x6.ents.length : Nat)) rfl rfl (add_z rfl (by have := hC.keys0; omega) (by have := ints_len hC.nodup hC.range; have := hC.leaves; have := hC.keys1; omega))) (fun _ => hI) ?_; clear hE a; intro a hE
      refine dp 8 hE rfl (p_nilCheck rfl) (fun _ => hI) ?_; clear hE a; intro a hE
      refine dp 9 hE rfl (p_fieldAddr (m := 3) rfl fo_141_3 rfl) (fun _ => hI) ?_; clear hE a; intro a hE
      refine do1 10 hE rfl ?_
      refine f_store (l := [_, _, _, _]) (ss' := _ :: _) 0 hE hI rfl rfl rfl rfl rfl sz_3 (by simp [Value.cells, Value.oneCell', pgCells, rcCells, zPg]) rfl rfl rfl ?_
      clear hI w; intro w hI
      refine ⟨nl, ?_⟩
      refine d_done (by kernel_rfl) ?_
      refine then_normal ?_
      refine wsr ?_
      refine za hE ?_; clear hE a; intro a hE
      refine wnt ?_
      refine wp_ret ?_
      refine then_ret ?_
      refine ret1 rfl hE rfl ?_
      replace hI := hI.erase 4
      have hall9 : entsOk level low high x6.ents = true := entsOk_iff.2 (fun j hj => hall j (by omega))
      exact .inl ⟨_, walk_leaf hgo hx7 hsh hall9 (by omega), rfl, hC.leaf hsn (hrg _ _ hx7) ho12.len, _, _, _, _, _, _, hD10, hm2, hO42, hT13, hI⟩
    intro hlz; replace hlz := eql_f hlz; clear hE a; intro a hE
    refine wnt ?_
    refine c_false hE rfl ?_
    refine wp_skip ?_
    refine then_normal ?_
    refine wsr ?_
    refine zm hE ?_; clear hE a; intro a hE
    refine zl hE (f_loadA (vs := [_, _, _, _, _]) rfl agg_83 (hI.seg 4 rfl) rfl rfl) ?_; clear hE a; intro a hE
    refine zm hE ?_; clear hE a; intro a hE
    refine zm hE ?_; clear hE a; intro a hE
    have hall9 : entsOk level low high x6.ents = true := entsOk_iff.2 (fun j hj => hall j (by omega))
    have hne9 : ∀ j, 0 < j → ∀ e, x6.ents[j]? = some e → e.1 ≠ [] := fun j hj e he => ((entB_rest (fun h => by omega) he).1 (entsOk_iff.1 hall9 j (List.getElem?_eq_some_iff.1 he).1)).1
    have hwb := walk_below (f := f) (low := low) (high := high) (c := c) hgo hx7 hsh hall9 (by omega)
    have hrg9 := hrg _ _ hx7
    refine l_step rfl (o_call hE rfl rfl rfl rfl ent_118 (Below_spec (c := ⟨id :: c.seen, c.leaves, c.keys⟩) (x := x6) hI (hS.mono hD10) hT13 hm2 (OR.mono PgR.keeps hO hD10) (hC.put hsn hrg9) (hlow.mono hD10) (⟨_, _, _, rfl, (hhb.mono hD10), hhn⟩ : HighV D8 _ high) (hW (by omega)) ⟨_, rfl, he11, ho12⟩ (by omega) hne9) ?_)
    clear hI hE a
    rintro r w h a hE; rcases h with ⟨c45, hr45, rfl, hC45, D45, es45, clk45, vl45, sl45, s45, hD45, hm45, hO45, hT45, hI⟩ | ⟨e45, o45, hr45, rfl, D45, s45, hD45, hT45, hI⟩
    · skip
      obtain ⟨A45, cc45, rfl, _⟩ := hO45.slice
      refine za hE ?_; clear hE a; intro a hE
      refine wnt ?_
      refine wp_ret ?_
      refine ret1 rfl hE rfl ?_
      replace hI := hI.erase 4
      exact .inl ⟨c45, by rw [hwb, hr45], rfl, hC45, _, _, _, _, _, _, (hD10.trans hD45), hm45, hO45, hT45, hI⟩
    refine za hE ?_; clear hE a; intro a hE
    refine wnt ?_
    refine wp_ret ?_
    refine ret1 rfl hE rfl ?_
    replace hI := hI.erase 1
    exact .inr ⟨e45, o45, (by rw [hwb, hr45]), rfl, D45, _, (hD10.trans hD45), hT45, hI⟩
  replace hI := hI.put_back 3
  try simp only [nrm, Value.cells] at hI
  refine zm hE ?_; clear hE a; intro a hE
  refine zx hE ?_; clear hE a; intro a hE
  refine zx hE ?_; clear hE a; intro a hE
  refine l_step rfl (f_alloc (cs := #[.int .i64 0, .int .i64 0, .int .i64 0, .int .i64 0, .slice none 0 0]) hE hI rfl rfl rfl zer_83 rfl ?_)
  clear hI hE a w; intro a b46 w hE hI
  refine l_step rfl (f_store (l := [_, _, _, _, _]) (ss' := _ :: _) 0 hE hI rfl rfl rfl rfl rfl sz_83 (by simp [Value.cells, Value.oneCell', pgCells, rcCells, zPg]) rfl rfl rfl ?_)
  clear hI w; intro w hI
  refine za hE ?_; clear hE a; intro a hE
  refine wnt ?_
  refine wp_seq ?_
  refine wsr ?_
  refine zm hE ?_; clear hE a; intro a hE
  refine zs hE (p_ifaceNil Tryd.underlying25 rfl rfl rfl) ?_; clear hE a; intro a hE
  refine wnt ?_
  refine c_true hE rfl ?_
  refine wsr ?_
  refine zm hE ?_; clear hE a; intro a hE
  refine za hE ?_; clear hE a; intro a hE
  refine wnt ?_
  refine wp_ret ?_
  refine then_ret ?_
  refine ret1 rfl hE rfl ?_
  replace hI := hI.erase 3
  replace hI := hI.erase 2
  replace hI := hI.erase 1
  replace hI := hI.erase 0
  exact .inr ⟨c14, o15, (walk_page hgo hx7), rfl, D, _, (Le.refl _), hT13, hI⟩
theorem walk_all {b : Bt} (hrg : ∀ id x, b.page id = .ok x → 0 ≤ id ∧ id < 256) : ∀ f, WalkAt b f
 | 0 => by
  intro hI hS hT hm hO hC hlow hhigh hlf
  rename_i w0 w D ss s sl vb vp vl vlow vhigh P bc bs es clk c ad id level low high
  have h := Walk_spec (f := 0) (level := level) (low := low) (high := high) (id := id) hI hS hT hm hO hC hlow hhigh (fun h0 => absurd h0 (by omega)) hrg (by omega)
  rw [walk_seen (f := 0) (.inr (by omega))] at h
  exact h
 | f + 1 => by
  have ih : WalkAt b f := walk_all hrg f
  intro hI hS hT hm hO hC hlow hhigh hlf
  exact Walk_spec hI hS hT hm hO hC hlow hhigh (fun _ => ih) hrg hlf
end Go.Proofs.YtbogbnkckofpdaaDoor.B
