/- What functions of the program compute, each function once: steps over the model, and the plain law of it. -/
import Derived.Test.YtbogbnkckofpdaaDoorTCheckG
namespace Go.Proofs.YtbogbnkckofpdaaDoor.B
open Go Go.Proofs
set_option linter.unusedVariables false
set_option linter.unusedSimpArgs false
set_option maxRecDepth 20000
set_option maxHeartbeats 8000000
namespace FTCheckA
theorem agg_83 : aggSize Tryd.prog 83 = some 5 := by kernel_rfl
theorem built_141 : ∀ vs, Tryd.prog.built 141 vs = Instr.fill (([(0, 1), (1, 1), (2, 1), (3, 1)] : List (Nat × Nat)).toArray[·]?) ([.pointer none, .map none, .slice none 0 0, .int .i64 0] : List Value).toArray vs := fun _ => by kernel_rfl
theorem ent_117 : enters Tryd.prog 117 = true := by kernel_rfl
theorem ent_119 : enters Tryd.prog 119 = true := by kernel_rfl
theorem ent_33 : enters Tryd.prog 33 = true := by kernel_rfl
theorem ent_88 : enters Tryd.prog 88 = true := by kernel_rfl
theorem ent_89 : enters Tryd.prog 89 = true := by kernel_rfl
theorem ent_90 : enters Tryd.prog 90 = true := by kernel_rfl
theorem ent_95 : enters Tryd.prog 95 = true := by kernel_rfl
theorem fo_141_0 : fieldOff Tryd.prog 141 0 = some 0 := by kernel_rfl
theorem fo_141_1 : fieldOff Tryd.prog 141 1 = some 1 := by kernel_rfl
theorem fo_141_2 : fieldOff Tryd.prog 141 2 = some 2 := by kernel_rfl
theorem fo_141_3 : fieldOff Tryd.prog 141 3 = some 3 := by kernel_rfl
theorem fo_69_0 : fieldOff Tryd.prog 69 0 = some 0 := by kernel_rfl
theorem fo_83_0 : fieldOff Tryd.prog 83 0 = some 0 := by kernel_rfl
theorem fo_83_2 : fieldOff Tryd.prog 83 2 = some 2 := by kernel_rfl
theorem fo_83_3 : fieldOff Tryd.prog 83 3 = some 3 := by kernel_rfl
theorem fo_83_4 : fieldOff Tryd.prog 83 4 = some 4 := by kernel_rfl
theorem ik_139 : intKeyed Tryd.prog 139 = some 4 := by kernel_rfl
theorem scal_121 : isScal Tryd.prog 121 = true := by kernel_rfl
theorem scal_139 : isScal Tryd.prog 139 = true := by kernel_rfl
theorem scal_22 : isScal Tryd.prog 22 = true := by kernel_rfl
theorem scal_25 : isScal Tryd.prog 25 = true := by kernel_rfl
theorem scal_3 : isScal Tryd.prog 3 = true := by kernel_rfl
theorem scal_55 : isScal Tryd.prog 55 = true := by kernel_rfl
theorem scal_65 : isScal Tryd.prog 65 = true := by kernel_rfl
theorem sz_69 : (Tryd.prog.info? 69).map (·.size) = some 2 := by kernel_rfl
theorem sz_83 : (Tryd.prog.info? 83).map (·.size) = some 5 := by kernel_rfl
theorem zer_4 : (Tryd.prog.info? 4).bind (·.zero) = some (.bool false) := by kernel_rfl
theorem zer_83 : (Tryd.prog.info? 83).bind (·.zero) = some (.agg #[.int .i64 0, .int .i64 0, .int .i64 0, .int .i64 0, .slice none 0 0]) := by kernel_rfl
end FTCheckA
open FTCheckA
/-! ### the pages that are free, one behind the other -/
def FreeW (b : Bt) : Int → List Int → Prop
 | f, [] => f = 0
 | f, j :: r => f = j ∧ 1 < j ∧ j < 256 ∧ ∃ y, b.page j = .ok y ∧ y.level = 0 ∧ y.ents = [] ∧ FreeW b (max y.next 0) r
theorem FreeW.cons {b : Bt} {f : Int} {l : List Int} (h : FreeW b f l) (hf : 0 < f) : ∃ r y, l = f :: r ∧ 1 < f ∧ f < 256 ∧ b.page f = .ok y ∧ y.level = 0 ∧ y.ents = [] ∧ FreeW b (max y.next 0) r := by
 cases l with
 | nil => have : f = 0 := h; omega
 | cons j r =>
  obtain ⟨rfl, h1, h2, y, h3, h4, h5, h6⟩ := h
  exact ⟨r, y, rfl, h1, h2, h3, h4, h5, h6⟩
theorem FreeW.end_ {b : Bt} {f : Int} {l : List Int} (h : FreeW b f l) (hf : f ≤ 0) : l = [] := by
 cases l with
 | nil => rfl
 | cons j r => obtain ⟨rfl, h1, _⟩ := h; omega
theorem RestA_spec {w0 w : World} {D : Sto} {ss : List Seg} {s : Seg} {vb vp vl : Value} {b : Bt} {P : Pl} {bc bs : Nat} {kk : Int} {es : Array MapEntry} {clk : Nat} {sn fr : List Int} {ff : Int} {y : Pg} {v : Bs} (hI : Inv w0 D ([(bc, .cells #[vb, .map (some bs), vl, .int .i64 kk] 141 (0, 0))] :: [(bs, .map es clk)] :: s :: ss) w) {ad : Nat → Addr} (hS : TSents D ad) (hT : TreeS D vb vp b P s) (hm : IntMap es clk (seenM sn)) {u : Int} (hu0 : 2 ≤ u) (hu1 : u ≤ 256) (hml0 : (sn.length : Int) + (fr.length : Nat) = u) (hsk0 : ∀ j ∈ sn, j < u) (hpg : b.page 1 = .ok y) (hye : y.ents = [([110], v)]) (hps : b.pages = .ok (u, ff)) (hfw0 : FreeW b ff fr) (hmn0 : ∀ j ∈ fr, j ∉ sn) (hfrn : fr.Nodup) (hfru : ∀ j ∈ fr, j < u) :
  Calls Tryd.prog 90 #[.pointer (some ⟨bc, 0, none⟩)] w (Ret fun r w' => r = .nilIface ∧ ∃ D' es' clk', Le D D' ∧ TreeS D' vb vp b P s ∧ Inv w0 D' ([(bc, .cells #[vb, .map (some bs), vl, .int .i64 kk] 141 (0, 0))] :: [(bs, .map es' clk')] :: s :: ss) w') := by
 obtain ⟨bb0, hvb⟩ := hT.ptr
 subst hvb
 refine enter (N := 115) Tryd.func90 rfl rfl rfl ?_
 intro a hE
 refine wsr ?_
 refine za hE ?_; clear hE a; intro a hE
 refine wnt ?_
 refine wsr ?_
 refine zm hE ?_; clear hE a; intro a hE
 refine zs hE (p_nilCheck rfl) ?_; clear hE a; intro a hE
 refine zs hE (p_fieldAddr (m := 0) rfl fo_141_0 rfl) ?_; clear hE a; intro a hE
 refine zl hE (f_load rfl scal_55 (hI.seg 0 rfl) rfl) ?_; clear hE a; intro a hE
 refine l_step rfl (o_call hE rfl rfl rfl rfl ent_88 (page_spec (hI.bring 2) hS hT 1) ?_)
 clear hI hE a
 rintro r w h a hE; rcases h with ⟨x11, hx1, D2, e3, hD4, rfl, he5, ho6, hT7, hI⟩ | ⟨c8, o9, hbad, rfl, s10, hT7, hI⟩
 ·skip
  replace hI := hI.put_back 2
  try simp only [nrm, Value.cells] at hI
  rw [hpg] at hx1
  injection hx1 with hx1
  subst hx1
  have hlen_y := ho6.len
  obtain ⟨A12, c13, rfl, _⟩ := he5.slice
  refine zm hE ?_; clear hE a; intro a hE
  refine zx hE ?_; clear hE a; intro a hE
  refine zx hE ?_; clear hE a; intro a hE
  refine l_step rfl (f_alloc (cs := #[.int .i64 0, .int .i64 0, .int .i64 0, .int .i64 0, .slice none 0 0]) hE hI rfl rfl rfl zer_83 rfl ?_)
  clear hI hE a w; intro a b14 w hE hI
  refine l_step rfl (f_store (l := [_, _, _, _, _]) (ss' := _ :: _) 0 hE hI rfl rfl rfl rfl rfl sz_83 (by simp [Value.cells, Value.oneCell', pgCells, rcCells, zPg]) rfl rfl rfl ?_)
  clear hI w; intro w hI
  refine za hE ?_; clear hE a; intro a hE
  refine wnt ?_
  refine wp_seq ?_
  refine wsr ?_
  refine zm hE ?_; clear hE a; intro a hE
  refine zs hE (p_ifaceNil Tryd.underlying25 rfl rfl rfl) ?_; clear hE a; intro a hE
  refine wnt ?_
  refine c_false hE rfl ?_
  refine wp_skip ?_
  refine then_normal ?_
  refine wsr ?_
  refine zm hE ?_; clear hE a; intro a hE
  refine zs hE (p_nilCheck rfl) ?_; clear hE a; intro a hE
  refine zs hE (p_fieldAddr (m := 0) rfl fo_141_0 rfl) ?_; clear hE a; intro a hE
  refine zl hE (f_load rfl scal_55 (hI.seg 1 rfl) rfl) ?_; clear hE a; intro a hE
  refine l_step rfl (o_call hE rfl rfl rfl rfl ent_119 (pages_spec (hI.bring 3) (hS.mono hD4) hT7) ?_)
  clear hI hE a
  rintro r w h a hE; rcases h with ⟨u15, f16, hx17, rfl, h27, h28, h29, h30, D18, hD19, hT20, hI⟩ | ⟨c21, o22, hbad, rfl, D23, s24, hD25, hT26, hI⟩
  ·skip
   replace hI := hI.put_back 3
   try simp only [nrm, Value.cells] at hI
   rw [hps] at hx17
   injection hx17 with hx17
   injection hx17 with hu8 hu9
   subst hu8
   subst hu9
   refine zm hE ?_; clear hE a; intro a hE
   refine zx hE ?_; clear hE a; intro a hE
   refine zx hE ?_; clear hE a; intro a hE
   refine zx hE ?_; clear hE a; intro a hE
   refine za hE ?_; clear hE a; intro a hE
   refine za hE ?_; clear hE a; intro a hE
   refine za hE ?_; clear hE a; intro a hE
   refine wnt ?_
   refine wp_seq ?_
   refine wsr ?_
   refine zm hE ?_; clear hE a; intro a hE
   refine zs hE (p_ifaceNil Tryd.underlying25 rfl rfl rfl) ?_; clear hE a; intro a hE
   refine wnt ?_
   refine c_false hE rfl ?_
   refine wp_skip ?_
   refine then_normal ?_
   refine wp_seq ?_
   refine wp_seq ?_
   have hye1 : y.ents.length = 1 := by rw [hye]; rfl
   refine d_start [] [] (by kernel_rfl) hI rfl rfl ?_
   clear hI w; intro w hI
   refine dp 0 hE rfl (p_fieldAddr (m := 4) rfl fo_83_4 rfl) (fun _ => hI) (listed' := #[true, false, false, false, false, false, false, false, false, false, false, false, false, false, false, false]) ?_; clear hE a; intro a hE
   refine dl 1 hE rfl (fun w hS => f_load rfl scal_65 (Inv.seg 0 hS rfl) rfl) (hI) ?_; clear hE a; intro a hE
   obtain ⟨x_31, hx_31⟩ : ∃ z9, (y.ents)[0]? = some z9 := ⟨_, List.getElem?_eq_getElem (by omega)⟩
   obtain ⟨b_31, o_31, cs_31, T_31, fr_31, rfl, hb_31, hat_31⟩ := he5.at_ (by intro h0; rw [h0] at hx_31; simp at hx_31)
   obtain ⟨vs_31, hl_31, ⟨k_31, v_31, rfl, hk_31, hv_31, hok_31⟩, hex_31, hsz_31, hce_31⟩ := hat_31.extract hx_31 (by omega)
   obtain ⟨A32, c33, rfl, _⟩ := hk_31.slice
   obtain ⟨A34, c35, rfl, _⟩ := hv_31.slice
   refine dp 2 hE rfl (p_indexAddr (m := o_31 + 0 * 2) rfl rfl Tryd.underlying65 sz_69 (by omega) (by omega) (by simp)) (fun _ => hI) ?_; clear hE a; intro a hE
   refine dp 3 hE rfl (p_fieldAddr rfl fo_69_0 rfl) (fun _ => hI) ?_; clear hE a; intro a hE
   refine dl 4 hE rfl (fun w hS => r_load rfl scal_22 (Inv.data hS _ _ (hD19 _ _ (hb_31))) (hce_31 0 _ rfl)) (hI) ?_; clear hE a; intro a hE
   refine do1 5 hE rfl ?_
   refine o_call hE rfl rfl rfl rfl ent_95 (name_spec hI) ?_
   clear hI hE a
   rintro r w ⟨D36, hD37, hI, hb38⟩ a hE
   obtain ⟨A39, c40, rfl, _⟩ := hb38.slice
   refine ⟨fun _ => (Inv.weaken hI hD37), ?_⟩
   refine do1 6 hE rfl ?_
   have he1 : x_31.1 = [110] := by rw [hye] at hx_31; simp at hx_31; rw [← hx_31]
   refine o_call hE rfl rfl rfl rfl ent_117 (Equal_same (ka := [110]) hI (he1 ▸ (hk_31.mono (hD19.trans hD37))) hb38) ?_
   clear hI hE a
   rintro r w ⟨rfl, hI⟩ a hE
   refine ⟨fun _ => (Inv.weaken hI hD37), ?_⟩
   refine dp 7 hE rfl (p_not rfl) (fun _ => (Inv.weaken hI hD37)) ?_; clear hE a; intro a hE
   refine dp 8 hE rfl (p_move rfl) (fun _ => (Inv.weaken hI hD37)) ?_; clear hE a; intro a hE
   refine dp 9 hE rfl (p_move rfl) (fun _ => (Inv.weaken hI hD37)) ?_; clear hE a; intro a hE
   refine dp 10 hE rfl (p_cmp rfl rfl (lss_n (by omega))) (fun _ => (Inv.weaken hI hD37)) ?_; clear hE a; intro a hE
   refine dp 11 hE rfl (p_pick (b := false) rfl rfl) (fun _ => (Inv.weaken hI hD37)) ?_; clear hE a; intro a hE
   refine dp 12 hE rfl (p_move rfl) (fun _ => (Inv.weaken hI hD37)) ?_; clear hE a; intro a hE
   refine dp 13 hE rfl (p_move rfl) (fun _ => (Inv.weaken hI hD37)) ?_; clear hE a; intro a hE
   refine dp 14 hE rfl (p_cmp rfl rfl (gtr_n (by omega))) (fun _ => (Inv.weaken hI hD37)) ?_; clear hE a; intro a hE
   refine dp 15 hE rfl (p_pick (b := false) rfl rfl) (fun _ => (Inv.weaken hI hD37)) ?_; clear hE a; intro a hE
   refine d_done (by kernel_rfl) ?_
   refine then_normal ?_
   refine c_false hE rfl ?_
   refine wp_skip ?_
   refine then_normal ?_
   refine wp_seq ?_
   refine wp_block ?_
   replace hI := hI.erase 0
   refine c_loop (X := Sto × List Int × Int × Array MapEntry × Nat × List Int) (fun y => [(0, _), (5, _), (6, .int .i64 y.2.2.1)]) (fun y w => Le D36 y.1 ∧ FreeW b y.2.2.1 y.2.1 ∧ IntMap y.2.2.2.1 y.2.2.2.2.1 (seenM y.2.2.2.2.2) ∧ (∀ j ∈ y.2.1, j ∉ y.2.2.2.2.2) ∧ y.2.1.Nodup ∧ (∀ j ∈ y.2.1, j < u) ∧ ((y.2.2.2.2.2.length : Nat) : Int) + (y.2.1.length : Nat) = u ∧ (∀ j ∈ y.2.2.2.2.2, j < u) ∧ TreeS y.1 (.pointer (some ⟨bb0, 0, none⟩)) vp b P s ∧ Inv w0 y.1 ([(bc, .cells #[.pointer (some ⟨bb0, 0, none⟩), .map (some bs), vl, .int .i64 kk] 141 (0, 0))] :: [(bs, .map y.2.2.2.1 y.2.2.2.2.1)] :: s :: ss) w) (fun y => y.2.1.length) (D36, fr, ff, es, clk, sn) (hE.pick [0, 5, 6]) ⟨Le.refl _, hfw0, hm, hmn0, hfrn, hfru, hml0, hsk0, (hT20.mono hD37), hI⟩ ?_
   clear hE hI a w
   rintro ⟨D1, rem, f1, es, clk, sn⟩ a w hE ⟨hD1, hfw, hm, hmn, hrn, hru, hlen1, hsk, hT1, hI⟩
   try dsimp only at hE
   try dsimp only at hD1
   try dsimp only at hfw
   try dsimp only at hm
   try dsimp only at hmn
   try dsimp only at hrn
   try dsimp only at hru
   try dsimp only at hlen1
   try dsimp only at hsk
   try dsimp only at hT1
   try dsimp only at hI
   refine wp_seq ?_
   refine wsr ?_
   refine zm hE ?_; clear hE a; intro a hE
   refine l_step rfl (o_cmp hE rfl rfl rfl rfl rfl rfl ?_ ?_)
   ·intro hf0; replace hf0 := gtr_t hf0; clear hE a; intro a hE
    refine wnt ?_
    refine c_true hE rfl ?_
    refine wp_skip ?_
    refine then_normal ?_
    refine wp_block ?_
    refine wp_seq ?_
    refine wp_seq ?_
    obtain ⟨r9, y9, rfl, hfj, hfj2, hy9, hyl9, hye9, hfw9⟩ := hfw.cons hf0
    have hyl0 : y9.ents.length = 0 := by rw [hye9]; rfl
    refine wp_region_list ?_
    refine zm hE ?_; clear hE a; intro a hE
    refine zs hE (p_nilCheck rfl) ?_; clear hE a; intro a hE
    refine zs hE (p_fieldAddr (m := 1) rfl fo_141_1 rfl) ?_; clear hE a; intro a hE
    refine zl hE (f_load rfl scal_139 (hI.seg 0 rfl) rfl) ?_; clear hE a; intro a hE
    refine zm hE ?_; clear hE a; intro a hE
    refine zl hE (r_lookup (v := .bool false) rfl rfl ik_139 zer_4 (hI.seg 1 rfl) hm (by rw [getM_seen, if_neg (hmn f1 (by simp))]; rfl)) ?_; clear hE a; intro a hE
    refine zm hE ?_; clear hE a; intro a hE
    refine gs hE (p_move rfl) ?_; clear hE a; intro a hE
    refine gs hE (p_move rfl) ?_; clear hE a; intro a hE
    refine gs hE (p_cmp rfl rfl (geq_n (by have := hru f1 (by simp); omega))) ?_; clear hE a; intro a hE
    refine zs hE (p_pick (b := false) rfl rfl) ?_; clear hE a; intro a hE
    refine wnt ?_
    refine c_false hE rfl ?_
    refine wp_skip ?_
    refine then_normal ?_
    refine wsr ?_
    refine zm hE ?_; clear hE a; intro a hE
    refine zs hE (p_nilCheck rfl) ?_; clear hE a; intro a hE
    refine zs hE (p_fieldAddr (m := 1) rfl fo_141_1 rfl) ?_; clear hE a; intro a hE
    refine zl hE (f_load rfl scal_139 (hI.seg 0 rfl) rfl) ?_; clear hE a; intro a hE
    refine zm hE ?_; clear hE a; intro a hE
    refine l_step rfl (o_mapUpdate 1 hE hI rfl (.inl rfl) rfl rfl rfl ik_139 rfl hm ?_)
    clear hI w; intro es_41 clk_41 w hm_41 hI
    refine wnt ?_
    refine wsr ?_
    refine zm hE ?_; clear hE a; intro a hE
    refine zs hE (p_nilCheck rfl) ?_; clear hE a; intro a hE
    refine zs hE (p_fieldAddr (m := 0) rfl fo_141_0 rfl) ?_; clear hE a; intro a hE
    refine zl hE (f_load rfl scal_55 (hI.seg 0 rfl) rfl) ?_; clear hE a; intro a hE
    refine zm hE ?_; clear hE a; intro a hE
    refine l_step rfl (o_call hE rfl rfl rfl rfl ent_88 (page_spec (hI.bring 2) (hS.mono (((hD4.trans hD19).trans hD37).trans hD1)) hT1 f1) ?_)
    clear hI hE a
    rintro r w h a hE; rcases h with ⟨x52, hx42, D43, e44, hD45, rfl, he46, ho47, hT48, hI⟩ | ⟨c49, o50, hbad, rfl, s51, hT48, hI⟩
    ·skip
     replace hI := hI.put_back 2
     try simp only [nrm, Value.cells] at hI
     rw [hy9] at hx42
     injection hx42 with hx42
     subst hx42
     have hlen_y9 := ho47.len
     obtain ⟨A53, c54, rfl, _⟩ := he46.slice
     refine zm hE ?_; clear hE a; intro a hE
     refine zx hE ?_; clear hE a; intro a hE
     refine zx hE ?_; clear hE a; intro a hE
     refine l_step rfl (f_alloc (cs := #[.int .i64 0, .int .i64 0, .int .i64 0, .int .i64 0, .slice none 0 0]) hE hI rfl rfl rfl zer_83 rfl ?_)
     clear hI hE a w; intro a b55 w hE hI
     refine l_step rfl (f_store (l := [_, _, _, _, _]) (ss' := _ :: _) 0 hE hI rfl rfl rfl rfl rfl sz_83 (by simp [Value.cells, Value.oneCell', pgCells, rcCells, zPg]) rfl rfl rfl ?_)
     clear hI w; intro w hI
     refine za hE ?_; clear hE a; intro a hE
     refine wnt ?_
     refine wp_seq ?_
     refine wsr ?_
     refine zm hE ?_; clear hE a; intro a hE
     refine zs hE (p_ifaceNil Tryd.underlying25 rfl rfl rfl) ?_; clear hE a; intro a hE
     refine wnt ?_
     refine c_false hE rfl ?_
     refine wp_skip ?_
     refine then_normal ?_
     refine wp_seq ?_
     refine wsr ?_
     refine zs hE (p_fieldAddr (m := 2) rfl fo_83_2 rfl) ?_; clear hE a; intro a hE
     refine zl hE (f_load rfl scal_3 (hI.seg 0 rfl) rfl) ?_; clear hE a; intro a hE
     refine zs hE (p_cmp rfl rfl (neq_n (by omega))) ?_; clear hE a; intro a hE
     refine zm hE ?_; clear hE a; intro a hE
     refine gs hE (p_fieldAddr (m := 4) rfl fo_83_4 rfl) ?_; clear hE a; intro a hE
     refine gl hE (f_load rfl scal_65 (hI.seg 0 rfl) rfl) ?_; clear hE a; intro a hE
     refine gs hE (p_len rfl rfl Tryd.underlying65) ?_; clear hE a; intro a hE
     refine gs hE (p_cmp rfl rfl (gtr_n (by omega))) ?_; clear hE a; intro a hE
     refine zs hE (p_pick (b := false) rfl rfl) ?_; clear hE a; intro a hE
     refine wnt ?_
     refine c_false hE rfl ?_
     refine wp_skip ?_
     refine then_normal ?_
     refine wp_region_list ?_
     refine zs hE (p_fieldAddr (m := 3) rfl fo_83_3 rfl) ?_; clear hE a; intro a hE
     refine zl hE (f_load rfl scal_3 (hI.seg 0 rfl) rfl) ?_; clear hE a; intro a hE
     refine zs hE (p_max rfl rfl rfl) ?_; clear hE a; intro a hE
     refine za hE ?_; clear hE a; intro a hE
     refine wpList_nil ?_
     refine blk_normal ?_
     refine then_normal ?_
     replace hI := hI.erase 0
     have hrn9 := List.nodup_cons.1 hrn
     exact ⟨(D43, r9, max y9.next 0, _, _, f1 :: sn), hE.pick [0, 5, 6], ⟨(hD1.trans hD45), hfw9, putM_seen (hmn f1 (by simp)) ▸ hm_41, fun j hj hm9 => by
       rcases List.mem_cons.1 hm9 with h9 | h9
       ·subst h9; exact hrn9.1 hj
       ·exact hmn j (by simp [hj]) h9, hrn9.2, fun j hj => hru j (by simp [hj]), by show (((f1 :: sn).length : Nat) : Int) + (r9.length : Nat) = u; simp only [List.length_cons] at hlen1 ⊢; omega, fun j hj => by
       rcases List.mem_cons.1 hj with h9 | h9
       ·subst h9; exact hru j (by simp)
       exact hsk j h9, hT48, hI⟩, by show r9.length < (f1 :: r9).length; simp⟩
    exfalso
    rw [hy9] at hbad; cases hbad
   intro hf0; replace hf0 := gtr_f hf0; clear hE a; intro a hE
   refine wnt ?_
   refine c_false hE rfl ?_
   refine wp_exit ?_
   refine then_exit ?_
   refine then_exit ?_
   refine blk_same ?_
   refine then_normal ?_
   refine wp_seq ?_
   refine wp_seq ?_
   obtain rfl := hfw.end_ hf0
   obtain ⟨m, hmm⟩ : ∃ m, m = seenM sn := ⟨_, rfl⟩
   rw [← hmm] at hm
   have hml : (m.length : Int) = u := by rw [hmm, seenM_len]; simpa using hlen1
   have hmk : ∀ p ∈ m, p.1 < u := fun p hp => hsk _ (seenM_mem (hmm ▸ hp))
   refine wp_region_list ?_
   refine zm hE ?_; clear hE a; intro a hE
   refine zs hE (p_nilCheck rfl) ?_; clear hE a; intro a hE
   refine zs hE (p_fieldAddr (m := 1) rfl fo_141_1 rfl) ?_; clear hE a; intro a hE
   refine zl hE (f_load rfl scal_139 (hI.seg 0 rfl) rfl) ?_; clear hE a; intro a hE
   refine zl hE (r_lenM rfl rfl Tryd.underlying139 (hI.seg 1 rfl) hm) ?_; clear hE a; intro a hE
   refine zm hE ?_; clear hE a; intro a hE
   refine zs hE (p_cmp rfl rfl (neq_n (by omega))) ?_; clear hE a; intro a hE
   refine wnt ?_
   refine c_false hE rfl ?_
   refine wp_skip ?_
   refine then_normal ?_
   refine wp_seq ?_
   refine wsr ?_
   refine zm hE ?_; clear hE a; intro a hE
   refine zs hE (p_nilCheck rfl) ?_; clear hE a; intro a hE
   refine zs hE (p_fieldAddr (m := 1) rfl fo_141_1 rfl) ?_; clear hE a; intro a hE
   refine zl hE (f_load rfl scal_139 (hI.seg 0 rfl) rfl) ?_; clear hE a; intro a hE
   refine l_step rfl (f_range 1 hE hI rfl rfl rfl rfl Tryd.underlying139 rfl ?_)
   clear hI hE a w; intro a r56 w hE hI
   refine wnt ?_
   refine wp_block ?_
   replace hI : Inv w0 D1 ([(r56, .mapIter (some bs) clk #[] clk)] :: [(bc, .cells #[.pointer (some ⟨bb0, 0, none⟩), .map (some bs), vl, .int .i64 kk] 141 (0, 0))] :: [(bs, .map es clk)] :: s :: ss) w := hI
   refine c_loop (X := Array Nat × List (Int × Value)) (fun x => [(5, _), (106, _)]) (fun x w => Vis es x.1 m x.2 ∧ Inv w0 D1 ([(r56, .mapIter (some bs) clk x.1 clk)] :: [(bc, .cells #[.pointer (some ⟨bb0, 0, none⟩), .map (some bs), vl, .int .i64 kk] 141 (0, 0))] :: [(bs, .map es clk)] :: s :: ss) w) (fun x => m.length - x.2.length) (#[], []) (hE.pick [5, 106]) ⟨Vis.start _ _, hI⟩ ?_
   clear hE hI a w
   rintro ⟨seen, vis⟩ a w hE ⟨hv, hI⟩
   try dsimp only at hE
   try dsimp only at hv
   try dsimp only at hI
   refine wsr ?_
   refine l_step rfl (o_next 2 0 hE hI rfl rfl rfl rfl rfl rfl hm hv ?_ ?_)
   ·clear hE a; intro hall a hE
    refine zx hE ?_; clear hE a; intro a hE
    refine wnt ?_
    refine wp_seq ?_
    refine c_false hE rfl ?_
    refine wp_exit ?_
    refine then_exit ?_
    refine then_exit ?_
    refine blk_same ?_
    refine then_normal ?_
    refine wsr ?_
    refine za hE ?_; clear hE a; intro a hE
    refine wnt ?_
    refine wp_ret ?_
    refine ret1 rfl hE rfl ?_
    replace hI := hI.erase 0
    exact ⟨rfl, _, es, clk, (((hD4.trans hD19).trans hD37).trans hD1), hT1, hI⟩
   clear hE hI a w; rintro ⟨pk, pv⟩ hpm hpn seen2 w hv2 hlast hI a hE
   refine zx hE ?_; clear hE a; intro a hE
   refine wnt ?_
   refine wp_seq ?_
   refine c_true hE rfl ?_
   refine wp_skip ?_
   refine then_normal ?_
   refine wp_block ?_
   refine wsr ?_
   refine zl hE (r_entry rfl (hI.seg 2 rfl) (hI.seg 0 rfl) hm hlast) ?_; clear hE a; intro a hE
   refine zx hE ?_; clear hE a; intro a hE
   refine za hE ?_; clear hE a; intro a hE
   refine wnt ?_
   refine wsr ?_
   refine zm hE ?_; clear hE a; intro a hE
   refine zm hE ?_; clear hE a; intro a hE
   refine zs hE (p_cmp rfl rfl (geq_n (by have h9 : pk < u := hmk _ hpm; omega))) ?_; clear hE a; intro a hE
   refine wnt ?_
   refine c_false hE rfl ?_
   refine wp_skip ?_
   refine blk_normal ?_
   refine then_normal ?_
   exact ⟨(seen2, (pk, pv) :: vis), hE.pick [5, 106], ⟨hv2, hI⟩, by have := hv2.len; simp only [List.length_cons] at this; show m.length - (vis.length + 1) < m.length - vis.length; omega⟩
  exfalso
  rw [hps] at hbad; cases hbad
 exfalso
 rw [hpg] at hbad; cases hbad
theorem CheckA_spec {w0 w : World} {D : Sto} {ss : List Seg} {s : Seg} {vp : Value} {P : Pl} {px : Pg} {f : Nat} (hI : Inv w0 D (s :: ss) w) (hP : PoolS D vp P s) {ad : Nat → Addr} (hS : TSents D ad) (hpx : (newBt P).page 0 = .ok px) (hlf : px.level < f) (hrest : ∀ c, (newBt P).walkF f 0 px.level [] none ⟨[1], [], 0⟩ = .ok c → chainOk c.leaves = true → ∃ y v u ff fr, (newBt P).page 1 = .ok y ∧ y.ents = [([110], v)] ∧ (newBt P).pages = .ok (u, ff) ∧ 2 ≤ u ∧ u ≤ 256 ∧ (c.seen.length : Int) + (fr.length : Nat) = u ∧ (∀ i ∈ c.seen, i < u) ∧ FreeW (newBt P) ff fr ∧ (∀ j ∈ fr, j ∉ c.seen) ∧ fr.Nodup ∧ ∀ j ∈ fr, j < u) :
  Calls Tryd.prog 45 #[vp] w (Ret fun r w' => (∃ c, (newBt P).walkF f 0 px.level [] none ⟨[1], [], 0⟩ = .ok c ∧ chainOk c.leaves = true ∧ r = .tuple #[.int .i64 c.keys, .nilIface] ∧ ∃ D' s', Le D D' ∧ PoolS D' vp P s' ∧ Inv w0 D' (s' :: ss) w') ∨ (∃ c, (newBt P).walkF f 0 px.level [] none ⟨[1], [], 0⟩ = .ok c ∧ chainOk c.leaves = false ∧ r = .tuple #[.int .i64 0, errV ad 103] ∧ ∃ D' s', Le D D' ∧ PoolS D' vp P s' ∧ Inv w0 D' (s' :: ss) w') ∨ (∃ e o, (newBt P).walkF f 0 px.level [] none ⟨[1], [], 0⟩ = .fail e o ∧ r = .tuple #[.int .i64 0, errV ad e] ∧ ∃ D' s', Le D D' ∧ PoolS D' vp (P.after o) s' ∧ Inv w0 D' (s' :: ss) w')) := by
 obtain ⟨q, hq⟩ := hP.ptr
 subst hq
 refine enter (N := 78) Tryd.func45 rfl rfl rfl ?_
 intro a hE
 refine wsr ?_
 refine za hE ?_; clear hE a; intro a hE
 refine za hE ?_; clear hE a; intro a hE
 refine wnt ?_
 refine wsr ?_
 refine zm hE ?_; clear hE a; intro a hE
 refine l_step rfl (o_call hE rfl rfl rfl rfl ent_33 (New_spec hI P (some ⟨q, 0, none⟩)) ?_)
 clear hI hE a
 rintro r w ⟨sb1, hB2, hI⟩ a hE
 obtain ⟨bb3, hvb⟩ := BatchS.ptr hB2
 subst hvb
 refine l_step rfl (f_makeMap hE hI rfl rfl rfl ?_)
 clear hI hE a w; intro a b4 w hE hI
 refine l_step rfl (o_mapUpdate 0 hE hI rfl (.inr rfl) rfl rfl rfl ik_139 rfl IntMap.empty ?_)
 clear hI w; intro es_5 clk_5 w hm_5 hI
 refine zm hE ?_; clear hE a; intro a hE
 refine zs hE (f_build (vs := [(0, _), (1, _)]) (l := [_, _, _, _]) rfl built_141 rfl) ?_; clear hE a; intro a hE
 refine l_step rfl (f_box (cs := #[_, _, _, _]) hE hI rfl rfl rfl rfl rfl ?_)
 clear hI hE a w; intro a b6 w hE hI
 refine za hE ?_; clear hE a; intro a hE
 refine wnt ?_
 refine wp_seq ?_
 replace hI := hI.bring 1
 replace hI := hI.bring 1
 replace hI := hI.bring 3
 replace hI := hI.bring 3
 replace hI := hI.merge
 have hT := TreeS.join hB2 hP rfl
 replace hI := hI.nilseg
 refine wp_region_list ?_
 refine zm hE ?_; clear hE a; intro a hE
 refine zs hE (p_nilCheck rfl) ?_; clear hE a; intro a hE
 refine zs hE (p_fieldAddr (m := 0) rfl fo_141_0 rfl) ?_; clear hE a; intro a hE
 refine zl hE (f_load rfl scal_55 (hI.seg 2 rfl) rfl) ?_; clear hE a; intro a hE
 refine l_step rfl (o_call hE rfl rfl rfl rfl ent_88 (page_spec (hI.bring 1) hS hT 0) ?_)
 clear hI hE a
 rintro r w h a hE; rcases h with ⟨x17, hx7, D8, e9, hD10, rfl, he11, ho12, hT13, hI⟩ | ⟨c14, o15, hbad, rfl, s16, hT13, hI⟩
 ·skip
  replace hI := hI.put_back 1
  try simp only [nrm, Value.cells] at hI
  rw [hpx] at hx7
  injection hx7 with hx7
  subst hx7
  have hlen_px := ho12.len
  obtain ⟨A18, c19, rfl, _⟩ := he11.slice
  refine zm hE ?_; clear hE a; intro a hE
  refine zx hE ?_; clear hE a; intro a hE
  refine zx hE ?_; clear hE a; intro a hE
  refine l_step rfl (f_alloc (cs := #[.int .i64 0, .int .i64 0, .int .i64 0, .int .i64 0, .slice none 0 0]) hE hI rfl rfl rfl zer_83 rfl ?_)
  clear hI hE a w; intro a b20 w hE hI
  refine l_step rfl (f_store (l := [_, _, _, _, _]) (ss' := _ :: _) 0 hE hI rfl rfl rfl rfl rfl sz_83 (by simp [Value.cells, Value.oneCell', pgCells, rcCells, zPg]) rfl rfl rfl ?_)
  clear hI w; intro w hI
  refine za hE ?_; clear hE a; intro a hE
  refine wnt ?_
  refine wp_seq ?_
  refine wsr ?_
  refine zm hE ?_; clear hE a; intro a hE
  refine zs hE (p_ifaceNil Tryd.underlying25 rfl rfl rfl) ?_; clear hE a; intro a hE
  refine wnt ?_
  refine c_false hE rfl ?_
  refine wp_skip ?_
  refine then_normal ?_
  refine wp_seq ?_
  refine wsr ?_
  refine zm hE ?_; clear hE a; intro a hE
  refine zs hE (p_fieldAddr (m := 2) rfl fo_83_2 rfl) ?_; clear hE a; intro a hE
  refine zl hE (f_load rfl scal_3 (hI.seg 0 rfl) rfl) ?_; clear hE a; intro a hE
  replace hI := hI.bring 2
  replace hI := hI.bring 2
  replace hI := hI.bring 4
  replace hI := hI.bring 4
  refine l_step rfl (o_call hE rfl rfl rfl rfl ent_89 (walk_all (newBt_range P) f (c := ⟨[1], [], 0⟩) (low := []) (high := none) hI (hS.mono hD10) hT13 hm_5 (OR.nil 5 PgR D8 83) CkOk.start (RB.nil _) (HighV.none _) hlf) ?_)
  clear hI hE a
  rintro r w h a hE; rcases h with ⟨c9, hr9, rfl, hC9, D9, es9, clk9, vl9, sl9, s9, hD9, hm9, hO9, hT9, hI⟩ | ⟨e9, o9, hr9, rfl, D9, s9, hD9, hT9, hI⟩
  ·skip
   obtain ⟨A9, cc9, rfl, _⟩ := hO9.slice
   refine za hE ?_; clear hE a; intro a hE
   refine wnt ?_
   refine wsr ?_
   refine zm hE ?_; clear hE a; intro a hE
   refine zs hE (p_ifaceNil Tryd.underlying25 rfl rfl rfl) ?_; clear hE a; intro a hE
   refine wnt ?_
   refine c_false hE rfl ?_
   refine wp_skip ?_
   refine then_normal ?_
   refine wp_seq ?_
   refine wp_seq ?_
   have hll9 := ints_len hC9.nodup hC9.range
   have hll8 := hC9.leaves
   refine wp_region_list ?_
   refine zm hE ?_; clear hE a; intro a hE
   refine zs hE (p_nilCheck rfl) ?_; clear hE a; intro a hE
   refine zs hE (p_fieldAddr (m := 2) rfl fo_141_2 rfl) ?_; clear hE a; intro a hE
   refine zl hE (f_load rfl scal_121 (hI.seg 0 rfl) rfl) ?_; clear hE a; intro a hE
   refine zs hE (p_len rfl rfl Tryd.underlying121) ?_; clear hE a; intro a hE
   refine zm hE ?_; clear hE a; intro a hE
   refine wnt ?_
   refine wp_block ?_
   replace hI := hI.erase 4
   refine c_loop (X := Nat) (fun y => [(4, _), (39, _), (40, _), (41, .int .i64 (y : Nat))]) (fun y w => y ≤ c9.leaves.length ∧ (∀ j z, j < y → c9.leaves[j]? = some z → z.next = (match c9.leaves[j + 1]? with | some y => y.id | none => -1)) ∧ Inv w0 D9 ([(b6, .cells #[.pointer (some ⟨bb3, 0, none⟩), .map (some b4), .slice A9 c9.leaves.length cc9, .int .i64 c9.keys] 141 (0, 0))] :: [(b4, .map es9 clk9)] :: sl9 :: s9 :: ss) w) (fun y => c9.leaves.length - y) 0 (hE.pick [4, 39, 40, 41]) ⟨Nat.zero_le _, fun j z hj => absurd hj (Nat.not_lt_zero _), hI⟩ ?_
   clear hE hI a w
   rintro i a w hE ⟨hi, hall, hI⟩
   try dsimp only at hE
   try dsimp only at hi
   try dsimp only at hall
   try dsimp only at hI
   refine wsr ?_
   refine l_step rfl (o_cmp hE rfl rfl rfl rfl rfl rfl ?_ ?_)
   ·intro hlt; replace hlt := lss_t hlt; clear hE a; intro a hE
    refine wnt ?_
    refine wp_seq ?_
    refine c_true hE rfl ?_
    refine wp_skip ?_
    refine then_normal ?_
    refine wp_seq ?_
    refine wp_block ?_
    refine wsr ?_
    refine zm hE ?_; clear hE a; intro a hE
    have hO21 := hO9
    rcases A9 with _ | A9
    ·exfalso; have h0 := (OR.none hO21).1; rw [h0] at hlt; exact absurd hlt (by simp)
    obtain ⟨g21, cur21, rfl, _, hs21, hcap21, hcm21, hsz21, hat21⟩ := OR.some hO21
    subst hs21
    obtain ⟨x_22, hx_22⟩ : ∃ z9, (c9.leaves)[i]? = some z9 := ⟨_, List.getElem?_eq_getElem (by omega)⟩
    obtain ⟨vs_22, hl_22, ⟨e_22, rfl, he_22, hok_22⟩, hex_22, hsz_22, hce_22⟩ := hat21.extract hx_22 (by omega)
    obtain ⟨A23, c24, rfl, _⟩ := he_22.slice
    refine zs hE (p_indexAddr (m := 0 + i * 5) rfl rfl Tryd.underlying121 sz_83 (by omega) (by omega) (by simp)) ?_; clear hE a; intro a hE
    refine zl hE (r_loadA rfl agg_83 (hI.seg 2 rfl) hsz_22 hex_22) ?_; clear hE a; intro a hE
    refine l_step rfl (f_alloc (cs := #[.int .i64 0, .int .i64 0, .int .i64 0, .int .i64 0, .slice none 0 0]) hE hI rfl rfl rfl zer_83 rfl ?_)
    clear hI hE a w; intro a b25 w hE hI
    refine za hE ?_; clear hE a; intro a hE
    refine l_step rfl (f_store (l := [_, _, _, _, _]) (ss' := _ :: _) 0 hE hI rfl rfl rfl rfl rfl sz_83 (by simp [Value.cells, Value.oneCell', pgCells, rcCells, zPg]) rfl rfl rfl ?_)
    clear hI w; intro w hI
    refine wnt ?_
    refine wsr ?_
    refine za hE ?_; clear hE a; intro a hE
    refine wnt ?_
    refine wp_seq ?_
    refine wsr ?_
    refine zm hE ?_; clear hE a; intro a hE
    refine zs hE (p_arith (z := ((i + 1 : Nat) : Int)) rfl rfl (add_z (by omega) (by omega) (by omega))) ?_; clear hE a; intro a hE
    refine zm hE ?_; clear hE a; intro a hE
    refine zs hE (p_nilCheck rfl) ?_; clear hE a; intro a hE
    refine zs hE (p_fieldAddr (m := 2) rfl fo_141_2 rfl) ?_; clear hE a; intro a hE
    refine zl hE (f_load rfl scal_121 (hI.seg 1 rfl) rfl) ?_; clear hE a; intro a hE
    refine zs hE (p_len rfl rfl Tryd.underlying121) ?_; clear hE a; intro a hE
    refine l_step rfl (o_cmp hE rfl rfl rfl rfl rfl rfl ?_ ?_)
    ·intro hi1; replace hi1 := lss_t hi1; clear hE a; intro a hE
     refine wnt ?_
     refine c_true hE rfl ?_
     refine wp_region_list ?_
     refine zm hE ?_; clear hE a; intro a hE
     refine zs hE (p_nilCheck rfl) ?_; clear hE a; intro a hE
     refine zs hE (p_fieldAddr (m := 2) rfl fo_141_2 rfl) ?_; clear hE a; intro a hE
     refine zl hE (f_load rfl scal_121 (hI.seg 1 rfl) rfl) ?_; clear hE a; intro a hE
     refine zm hE ?_; clear hE a; intro a hE
     refine zs hE (p_arith (z := ((i + 1 : Nat) : Int)) rfl rfl (add_z (by omega) (by omega) (by omega))) ?_; clear hE a; intro a hE
     obtain ⟨x_26, hx_26⟩ : ∃ z9, (c9.leaves)[(i + 1)]? = some z9 := ⟨_, List.getElem?_eq_getElem (by omega)⟩
     obtain ⟨vs_26, hl_26, ⟨e_26, rfl, he_26, hok_26⟩, hex_26, hsz_26, hce_26⟩ := hat21.extract hx_26 (by omega)
     obtain ⟨A27, c28, rfl, _⟩ := he_26.slice
     refine zs hE (p_indexAddr (m := 0 + (i + 1) * 5) rfl rfl Tryd.underlying121 sz_83 (by omega) (by omega) (by simp)) ?_; clear hE a; intro a hE
     refine zs hE (p_fieldAddr rfl fo_83_0 rfl) ?_; clear hE a; intro a hE
     refine zl hE (r_load rfl scal_3 (hI.seg 3 rfl) (hce_26 0 _ rfl)) ?_; clear hE a; intro a hE
     refine za hE ?_; clear hE a; intro a hE
     refine wnt ?_
     refine wsr ?_
     refine zs hE (p_fieldAddr (m := 3) rfl fo_83_3 rfl) ?_; clear hE a; intro a hE
     refine zl hE (f_load rfl scal_3 (hI.seg 0 rfl) rfl) ?_; clear hE a; intro a hE
     refine zm hE ?_; clear hE a; intro a hE
     refine l_step rfl (o_cmp hE rfl rfl rfl rfl rfl rfl ?_ ?_)
     ·intro hnx; replace hnx := neq_t hnx; clear hE a; intro a hE
      refine wnt ?_
      refine c_true hE rfl ?_
      refine wp_seq ?_
      refine d_start [] [] (by kernel_rfl) hI rfl rfl ?_
      clear hI w; intro w hI
      obtain ⟨T_29, fr_29, hg_29⟩ := hS.g103
      refine dl 0 hE rfl (fun w hS => f_load rfl scal_25 (Inv.data hS _ _ ((hD10.trans hD9) _ _ (hg_29))) rfl) (hI) (listed' := #[true, false, false]) ?_; clear hE a; intro a hE
      refine dp 1 hE rfl (p_assign rfl) (fun _ => hI) ?_; clear hE a; intro a hE
      refine dp 2 hE rfl (p_assign rfl) (fun _ => hI) ?_; clear hE a; intro a hE
      refine d_done (by kernel_rfl) ?_
      refine then_normal ?_
      refine wp_ret ?_
      refine blk_ret ?_
      refine then_ret ?_
      refine then_ret ?_
      refine blk_ret ?_
      refine then_ret ?_
      refine ret2 rfl hE rfl rfl ?_
      replace hI := hI.erase 3
      replace hI := hI.erase 2
      replace hI := hI.erase 1
      replace hI := hI.erase 0
      obtain ⟨sb8, sp8, hs8, hB8, hP8, _⟩ := hT9
      rw [hs8] at hI
      exact .inr (.inl ⟨c9, hr9, chain_no hx_22 (by rw [hx_26]; show x_22.next ≠ x_26.id; omega), rfl, D9, sp8, (hD10.trans hD9), hP8, hI.right⟩)
     intro hnx; replace hnx := neq_f hnx; clear hE a; intro a hE
     refine wnt ?_
     refine c_false hE rfl ?_
     refine wp_skip ?_
     refine blk_normal ?_
     refine then_normal ?_
     refine wp_region_list ?_
     refine zs hE (p_arith (z := ((i + 1 : Nat) : Int)) rfl rfl (add_z (by omega) (by omega) (by omega))) ?_; clear hE a; intro a hE
     refine zm hE ?_; clear hE a; intro a hE
     refine wnt ?_
     replace hI := hI.erase 0
     exact ⟨i + 1, hE.pick [4, 39, 40, 41], ⟨by show i + 1 ≤ _; omega, fun j y hj hy => by
       rcases Nat.lt_or_eq_of_le (Nat.lt_succ_iff.1 hj) with h | h
       ·exact hall j y h hy
       subst h
       have h9 : x_22 = y := by rw [hx_22] at hy; injection hy
       subst h9
       rw [hx_26]; show x_22.next = x_26.id; omega, hI⟩, by show c9.leaves.length - (i + 1) < c9.leaves.length - i; omega⟩
    intro hi1; replace hi1 := lss_f hi1; clear hE a; intro a hE
    refine wnt ?_
    refine c_false hE rfl ?_
    refine wp_skip ?_
    refine then_normal ?_
    refine wsr ?_
    refine zs hE (p_fieldAddr (m := 3) rfl fo_83_3 rfl) ?_; clear hE a; intro a hE
    refine zl hE (f_load rfl scal_3 (hI.seg 0 rfl) rfl) ?_; clear hE a; intro a hE
    refine zm hE ?_; clear hE a; intro a hE
    refine l_step rfl (o_cmp hE rfl rfl rfl rfl rfl rfl ?_ ?_)
    ·intro hnx; replace hnx := neq_t hnx; clear hE a; intro a hE
     refine wnt ?_
     refine c_true hE rfl ?_
     refine wp_seq ?_
     refine d_start [] [] (by kernel_rfl) hI rfl rfl ?_
     clear hI w; intro w hI
     obtain ⟨T_30, fr_30, hg_30⟩ := hS.g103
     refine dl 0 hE rfl (fun w hS => f_load rfl scal_25 (Inv.data hS _ _ ((hD10.trans hD9) _ _ (hg_30))) rfl) (hI) (listed' := #[true, false, false]) ?_; clear hE a; intro a hE
     refine dp 1 hE rfl (p_assign rfl) (fun _ => hI) ?_; clear hE a; intro a hE
     refine dp 2 hE rfl (p_assign rfl) (fun _ => hI) ?_; clear hE a; intro a hE
     refine d_done (by kernel_rfl) ?_
     refine then_normal ?_
     refine wp_ret ?_
     refine blk_ret ?_
     refine then_ret ?_
     refine then_ret ?_
     refine blk_ret ?_
     refine then_ret ?_
     refine ret2 rfl hE rfl rfl ?_
     replace hI := hI.erase 3
     replace hI := hI.erase 2
     replace hI := hI.erase 1
     replace hI := hI.erase 0
     obtain ⟨sb8, sp8, hs8, hB8, hP8, _⟩ := hT9
     rw [hs8] at hI
     exact .inr (.inl ⟨c9, hr9, chain_no hx_22 (by rw [List.getElem?_eq_none (by omega)]; show x_22.next ≠ -1; omega), rfl, D9, sp8, (hD10.trans hD9), hP8, hI.right⟩)
    intro hnx; replace hnx := neq_f hnx; clear hE a; intro a hE
    refine wnt ?_
    refine c_false hE rfl ?_
    refine wp_skip ?_
    refine blk_normal ?_
    refine then_normal ?_
    refine wp_region_list ?_
    refine zs hE (p_arith (z := ((i + 1 : Nat) : Int)) rfl rfl (add_z (by omega) (by omega) (by omega))) ?_; clear hE a; intro a hE
    refine zm hE ?_; clear hE a; intro a hE
    refine wnt ?_
    replace hI := hI.erase 0
    exact ⟨i + 1, hE.pick [4, 39, 40, 41], ⟨by show i + 1 ≤ _; omega, fun j y hj hy => by
      rcases Nat.lt_or_eq_of_le (Nat.lt_succ_iff.1 hj) with h | h
      ·exact hall j y h hy
      subst h
      have h9 : x_22 = y := by rw [hx_22] at hy; injection hy
      subst h9
      rw [List.getElem?_eq_none (by omega)]; show x_22.next = -1; omega, hI⟩, by show c9.leaves.length - (i + 1) < c9.leaves.length - i; omega⟩
   intro hlt; replace hlt := lss_f hlt; clear hE a; intro a hE
   refine wnt ?_
   refine wp_seq ?_
   refine c_false hE rfl ?_
   refine wp_exit ?_
   refine then_exit ?_
   refine then_exit ?_
   refine blk_same ?_
   refine then_normal ?_
   refine wp_seq ?_
   refine wsr ?_
   refine zm hE ?_; clear hE a; intro a hE
   replace hI := hI.bring 3
   replace hI := hI.bring 2
   replace hI := hI.bring 2
   have hch9 : chainOk c9.leaves = true := (chainOk_iff _).2 (fun j y hy => hall j y (by have := (List.getElem?_eq_some_iff.1 hy).1; omega) hy)
   obtain ⟨y9, v9, u9, ff9, fr9, hp19, hye9, hps9, hu0, hu1, hsl9, hsk9, hfw9, hmn9, hfrn9, hfru9⟩ := hrest c9 hr9 hch9
   refine l_step rfl (o_call hE rfl rfl rfl rfl ent_90 (RestA_spec hI (hS.mono (hD10.trans hD9)) hT9 hm9 hu0 hu1 hsl9 hsk9 hp19 hye9 hps9 hfw9 hmn9 hfrn9 hfru9) ?_)
   clear hI hE a
   rintro r w ⟨rfl, D31, es8, clk8, hD32, hT33, hI⟩ a hE
   refine za hE ?_; clear hE a; intro a hE
   refine wnt ?_
   refine wsr ?_
   refine zm hE ?_; clear hE a; intro a hE
   refine zs hE (p_ifaceNil Tryd.underlying25 rfl rfl rfl) ?_; clear hE a; intro a hE
   refine wnt ?_
   refine c_false hE rfl ?_
   refine wp_skip ?_
   refine then_normal ?_
   refine wsr ?_
   refine zm hE ?_; clear hE a; intro a hE
   refine zs hE (p_nilCheck rfl) ?_; clear hE a; intro a hE
   refine zs hE (p_fieldAddr (m := 3) rfl fo_141_3 rfl) ?_; clear hE a; intro a hE
   refine zl hE (f_load rfl scal_3 (hI.seg 0 rfl) rfl) ?_; clear hE a; intro a hE
   refine za hE ?_; clear hE a; intro a hE
   refine za hE ?_; clear hE a; intro a hE
   refine wnt ?_
   refine wp_ret ?_
   refine ret2 rfl hE rfl rfl ?_
   replace hI := hI.erase 3
   replace hI := hI.erase 1
   replace hI := hI.erase 0
   obtain ⟨sb8, sp8, hs8, hB8, hP8, _⟩ := hT33
   rw [hs8] at hI
   exact .inl ⟨c9, hr9, hch9, rfl, D31, sp8, ((hD10.trans hD9).trans hD32), hP8, hI.right⟩
  refine za hE ?_; clear hE a; intro a hE
  refine wnt ?_
  refine wsr ?_
  refine zm hE ?_; clear hE a; intro a hE
  refine zs hE (p_ifaceNil Tryd.underlying25 rfl rfl rfl) ?_; clear hE a; intro a hE
  refine wnt ?_
  refine c_true hE rfl ?_
  refine wsr ?_
  refine zm hE ?_; clear hE a; intro a hE
  refine za hE ?_; clear hE a; intro a hE
  refine za hE ?_; clear hE a; intro a hE
  refine wnt ?_
  refine wp_ret ?_
  refine then_ret ?_
  refine ret2 rfl hE rfl rfl ?_
  replace hI := hI.erase 1
  obtain ⟨sb8, sp8, hs8, hB8, hP8, _⟩ := hT9
  rw [hs8] at hI
  exact .inr (.inr ⟨e9, o9, hr9, rfl, D9, sp8, (hD10.trans hD9), hP8, hI.right⟩)
 exfalso
 rw [hpx] at hbad; cases hbad
end Go.Proofs.YtbogbnkckofpdaaDoor.B
