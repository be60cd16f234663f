/- What functions of the program compute, each function once: steps over the model, and the plain law of it. -/
import Derived.Test.YtbogbnkckofpdaaDoorTTree2
namespace Go.Proofs.YtbogbnkckofpdaaDoor.B
open Go Go.Proofs
set_option linter.unusedVariables false
set_option linter.unusedSimpArgs false
set_option maxRecDepth 20000
set_option maxHeartbeats 8000000
namespace FTTree3
theorem built_88 : ∀ vs, Tryd.prog.built 88 vs = Instr.fill (([(0, 1), (1, 1), (2, 1), (3, 1), (4, 1), (5, 1), (6, 1), (7, 1), (8, 1), (9, 1)] : List (Nat × Nat)).toArray[·]?) ([.int .i64 0, .int .i64 0, .int .i64 0, .int .i64 0, .int .i64 0, .int .i64 0, .int .i64 0, .slice none 0 0, .slice none 0 0, .bool false] : List Value).toArray vs := fun _ => by kernel_rfl
theorem ent_123 : enters Tryd.prog 123 = true := by kernel_rfl
theorem ent_124 : enters Tryd.prog 124 = true := by kernel_rfl
theorem ent_126 : enters Tryd.prog 126 = true := by kernel_rfl
theorem ent_131 : enters Tryd.prog 131 = true := by kernel_rfl
theorem ent_72 : enters Tryd.prog 72 = true := by kernel_rfl
theorem ent_73 : enters Tryd.prog 73 = true := by kernel_rfl
theorem fo_69_0 : fieldOff Tryd.prog 69 0 = some 0 := by kernel_rfl
theorem fo_83_0 : fieldOff Tryd.prog 83 0 = some 0 := by kernel_rfl
theorem fo_83_2 : fieldOff Tryd.prog 83 2 = some 2 := by kernel_rfl
theorem fo_83_3 : fieldOff Tryd.prog 83 3 = some 3 := by kernel_rfl
theorem fo_83_4 : fieldOff Tryd.prog 83 4 = some 4 := by kernel_rfl
theorem scal_22 : isScal Tryd.prog 22 = true := by kernel_rfl
theorem scal_3 : isScal Tryd.prog 3 = true := by kernel_rfl
theorem scal_65 : isScal Tryd.prog 65 = true := by kernel_rfl
theorem sz_69 : (Tryd.prog.info? 69).map (·.size) = some 2 := by kernel_rfl
theorem zs_88 : (Tryd.prog.info? 88).map (fun i => (i.zero, i.size)) = some (some (.agg #[.int .i64 0, .int .i64 0, .int .i64 0, .int .i64 0, .int .i64 0, .int .i64 0, .int .i64 0, .slice none 0 0, .slice none 0 0, .bool false]), 10) := by kernel_rfl
end FTTree3
open FTTree3
theorem splitRoot_ext {b b' : Bt} {x : Pg} (hx : x.ents.length ≤ 8) (h : b.splitRoot x = .ok b') : Ext b b' ∧ b'.recs.length ≤ b.recs.length + 17 := by
 rw [Bt.splitRoot] at h
 split at h
 ·cases h
 rename_i h1; have e1 := take_ext h1
 split at h
 ·cases h
 rename_i h2; have e2 := take_ext h2
 split at h
 ·cases h
 rename_i h3; have e3 := fill_ext h3
 split at h
 ·cases h
 rename_i h4; have e4 := fill_ext h4
 have e5 := all_ext _ h
 refine ⟨e1.1.trans (e2.1.trans (e3.1.trans (e4.1.trans e5.1))), ?_⟩
 have l1 := e1.2; have l2 := e2.2; have l3 := e3.2; have l4 := e4.2; have l5 := e5.2
 simp only [List.length_take, List.length_drop, List.length_cons, List.length_nil] at l3 l4 l5
 omega
theorem split_ext {b b' : Bt} {p x : Pg} {k : Int} (hx : x.ents.length ≤ 8) (h : b.split p k x = .ok b') : Ext b b' ∧ b'.recs.length ≤ b.recs.length + 14 := by
 rw [Bt.split] at h
 split at h
 ·cases h
 rename_i h1; have e1 := take_ext h1
 split at h
 ·cases h
 rename_i h2; have e2 := fill_ext h2
 split at h
 ·cases h
 rename_i h3; have e3 := doR_ext h3
 have l1 := e1.2; have l2 := e2.2; have l3 := e3.2
 simp only [List.length_drop] at l2
 split at h
 ·cases h
 rename_i h4
 have e5 := doR_ext h; have l5 := e5.2
 split at h4
 ·have e4 := doR_ext h4; have l4 := e4.2
  exact ⟨e1.1.trans (e2.1.trans (e3.1.trans (e4.1.trans e5.1))), by omega⟩
 injection h4 with h4; subst h4
 exact ⟨e1.1.trans (e2.1.trans (e3.1.trans e5.1)), by omega⟩
def NaR (D : Sto) (vs : List Value) (n : Nat) : Prop := vs = [.int .i64 (n : Nat)]
theorem NaR.keeps : Keeps NaR := fun _ _ _ _ _ h => h
theorem drop4 {x : Pg} {v : Value} {D : Sto} {n : Nat} (h : EnD D v ((x.ents.drop 4).take (n - 4))) (hn : n = x.ents.length) : EnD D v (x.ents.drop 4) := by
 subst hn; rwa [List.take_of_length_le (by simp)] at h
theorem splitRoot_spec {w0 w : World} {D : Sto} {ss : List Seg} {s : Seg} {vb vp : Value} {b : Bt} {P : Pl} (hI : Inv w0 D (s :: ss) w) {ad : Nat → Addr} (hS : TSents D ad) (hT : TreeS D vb vp b P s) {vx : Value} {x : Pg} (hx : PgV D vx x) (hf : 8 ≤ x.ents.length) (hlen : b.recs.length ≤ 1000000000 - 2000) :
  Calls Tryd.prog 109 #[vb, vx] w (Ret fun r w' => (∃ b', b.splitRoot x = .ok b' ∧ r = .nilIface ∧ ∃ D' s', Le D D' ∧ TreeS D' vb vp b' P s' ∧ Inv w0 D' (s' :: ss) w') ∨ (∃ c o, b.splitRoot x = .fail c o ∧ r = errV ad c ∧ ∃ b' D' s', Ext b b' ∧ Le D D' ∧ TreeS D' vb vp b' (P.after o) s' ∧ Inv w0 D' (s' :: ss) w')) := by
 obtain ⟨e1, rfl, he2, ho3⟩ := hx
 have hlen_x := ho3.len
 obtain ⟨A4, c5, rfl, _⟩ := he2.slice
 refine enter (N := 75) Tryd.func109 rfl rfl rfl ?_
 intro a hE
 refine wsr ?_
 refine l_step rfl (f_box (cs := #[_, _, _, _, _]) hE hI rfl rfl rfl rfl rfl ?_)
 clear hI hE a w; intro a b6 w hE hI
 refine za hE ?_; clear hE a; intro a hE
 refine wnt ?_
 refine wsr ?_
 refine zm hE ?_; clear hE a; intro a hE
 refine l_step rfl (o_call hE rfl rfl rfl rfl ent_131 (take_spec (hI.bring 1) hS hT (by omega)) ?_)
 clear hI hE a
 rintro r w h a hE; rcases h with ⟨t21, b8, hx7, rfl, hm23, hm24, D9, s14, hD10, hT11, hI⟩ | ⟨c12, o13, n22, hx7, rfl, D15, s18, hD16, hT17, hI⟩
 ·skip
  replace hI := hI.put_back 1
  try simp only [nrm, Value.cells] at hI
  have hext_hx7 := (take_ext hx7).1
  have hlen_hx7 := (take_ext hx7).2
  refine zm hE ?_; clear hE a; intro a hE
  refine zx hE ?_; clear hE a; intro a hE
  refine zx hE ?_; clear hE a; intro a hE
  refine za hE ?_; clear hE a; intro a hE
  refine za hE ?_; clear hE a; intro a hE
  refine wnt ?_
  refine wp_seq ?_
  refine wsr ?_
  refine zm hE ?_; clear hE a; intro a hE
  refine zs hE (p_ifaceNil Tryd.underlying25 rfl rfl rfl) ?_; clear hE a; intro a hE
  refine wnt ?_
  refine c_false hE rfl ?_
  refine wp_skip ?_
  refine then_normal ?_
  refine wsr ?_
  refine zm hE ?_; clear hE a; intro a hE
  refine l_step rfl (o_call hE rfl rfl rfl rfl ent_131 (take_spec (hI.bring 1) (hS.mono hD10) hT11 (by omega)) ?_)
  clear hI hE a
  rintro r w h a hE; rcases h with ⟨t39, b26, hx25, rfl, hm41, hm42, D27, s32, hD28, hT29, hI⟩ | ⟨c30, o31, n40, hx25, rfl, D33, s36, hD34, hT35, hI⟩
  ·skip
   replace hI := hI.put_back 1
   try simp only [nrm, Value.cells] at hI
   have hext_hx25 := (take_ext hx25).1
   have hlen_hx25 := (take_ext hx25).2
   refine zm hE ?_; clear hE a; intro a hE
   refine zx hE ?_; clear hE a; intro a hE
   refine zx hE ?_; clear hE a; intro a hE
   refine za hE ?_; clear hE a; intro a hE
   refine za hE ?_; clear hE a; intro a hE
   refine wnt ?_
   refine wp_seq ?_
   refine wsr ?_
   refine zm hE ?_; clear hE a; intro a hE
   refine zs hE (p_ifaceNil Tryd.underlying25 rfl rfl rfl) ?_; clear hE a; intro a hE
   refine wnt ?_
   refine c_false hE rfl ?_
   refine wp_skip ?_
   refine then_normal ?_
   refine wp_seq ?_
   have hv0 := ho3.v0
   have hv1 := ho3.v1
   refine wp_region_list ?_
   refine za hE ?_; clear hE a; intro a hE
   refine wnt ?_
   refine wp_seq ?_
   refine wsr ?_
   refine zs hE (p_fieldAddr (m := 2) rfl fo_83_2 rfl) ?_; clear hE a; intro a hE
   refine zl hE (f_load rfl scal_3 (hI.seg 0 rfl) rfl) ?_; clear hE a; intro a hE
   refine l_step rfl (o_cmp hE rfl rfl rfl rfl rfl rfl ?_ ?_)
   ·intro hlv; replace hlv := eql_t hlv; clear hE a; intro a hE
    refine wnt ?_
    refine c_true hE rfl ?_
    refine wp_region_list ?_
    refine zm hE ?_; clear hE a; intro a hE
    refine za hE ?_; clear hE a; intro a hE
    refine wnt ?_
    refine wsr ?_
    refine zs hE (p_fieldAddr (m := 4) rfl fo_83_4 rfl) ?_; clear hE a; intro a hE
    refine zl hE (f_load rfl scal_65 (hI.seg 0 rfl) rfl) ?_; clear hE a; intro a hE
    obtain ⟨x_43, hx_43⟩ : ∃ y, (x.ents)[4]? = some y := ⟨_, List.getElem?_eq_getElem (by omega)⟩
    obtain ⟨b_43, o_43, cs_43, T_43, fr_43, rfl, hb_43, hat_43⟩ := he2.at_ (by intro h0; rw [h0] at hx_43; simp at hx_43)
    obtain ⟨vs_43, hl_43, ⟨k_43, v_43, rfl, hk_43, hv_43, hok_43⟩, hex_43, hsz_43, hce_43⟩ := hat_43.extract hx_43 (by omega)
    obtain ⟨A44, c45, rfl, _⟩ := hk_43.slice
    obtain ⟨A46, c47, rfl, _⟩ := hv_43.slice
    refine zs hE (p_indexAddr (m := o_43 + 4 * 2) rfl rfl Tryd.underlying65 sz_69 (by omega) (by omega) (by simp)) ?_; clear hE a; intro a hE
    refine zs hE (p_fieldAddr rfl fo_69_0 rfl) ?_; clear hE a; intro a hE
    refine zl hE (r_load rfl scal_22 (hI.data _ _ ((hD10.trans hD28) _ _ (hb_43))) (hce_43 0 _ rfl)) ?_; clear hE a; intro a hE
    refine l_step rfl (o_call hE rfl rfl rfl rfl ent_73 (Clone_data (bs := x_43.1) hI (hk_43.mono (hD10.trans hD28)) (by have := hok_43.1; omega)) ?_)
    clear hI hE a
    rintro r w ⟨D48, hD49, hI, hb50⟩ a hE
    obtain ⟨A51, c52, rfl, _⟩ := hb50.slice
    refine za hE ?_; clear hE a; intro a hE
    refine wnt ?_
    refine wp_seq ?_
    refine wp_seq ?_
    refine d_start [8] [] (by kernel_rfl) hI rfl rfl ?_
    clear hI w; intro w hI
    refine dp 0 hE rfl (p_move rfl) (fun _ => hI) (listed' := #[true, false, false, false, false, false, false, false, false, false]) ?_; clear hE a; intro a hE
    refine dp 1 hE rfl (p_move rfl) (fun _ => hI) ?_; clear hE a; intro a hE
    refine dp 2 hE rfl (p_fieldAddr (m := 2) rfl fo_83_2 rfl) (fun _ => hI) ?_; clear hE a; intro a hE
    refine dl 3 hE rfl (fun w hS => f_load rfl scal_3 (Inv.seg 0 hS rfl) rfl) (hI) ?_; clear hE a; intro a hE
    refine dp 4 hE rfl (p_fieldAddr (m := 4) rfl fo_83_4 rfl) (fun _ => hI) ?_; clear hE a; intro a hE
    refine dl 5 hE rfl (fun w hS => f_load rfl scal_65 (Inv.seg 0 hS rfl) rfl) (hI) ?_; clear hE a; intro a hE
    have hc53 := DR.cut (l := 0) (h := 4) he2 (by omega) (by omega)
    refine dp 6 hE rfl (p_sliceL (l := 0) (h := 4) rfl Tryd.underlying65 sz_69 rfl (lo_at rfl (by omega) (by omega)) (by omega) (by omega)) (fun _ => hI) ?_; clear hE a; intro a hE
    refine dp 7 hE rfl (p_move rfl) (fun _ => hI) ?_; clear hE a; intro a hE
    refine do1 8 hE rfl ?_
    refine o_call hE rfl rfl rfl rfl ent_126 (fill_spec (hI.bring 1) (hS.mono ((hD10.trans hD28).trans hD49)) (hT29.mono hD49) (l := x.ents.take 4) (DR.mono EnR.keeps hc53 ((hD10.trans hD28).trans hD49)) t21 (level := x.level) (next := t39) (by simp only [List.length_take]; omega) (by omega) (by omega) (by omega) (by omega) (by omega)) ?_
    clear hI hE a
    rintro r w h a hE; rcases h with ⟨b57, hx56, rfl, D58, s63, hD59, hT60, hI⟩ | ⟨c61, o62, hx56, rfl, b68, D64, s67, hext69, hD65, hT66, hI⟩
    ·skip
     replace hI := hI.put_back 1
     try simp only [nrm, Value.cells] at hI
     have hext_hx56 := (fill_ext hx56).1
     have hlen_hx56 := (fill_ext hx56).2
     simp only [List.length_take, List.length_drop] at hlen_hx56
     refine ⟨nl, ?_⟩
     refine dp 9 hE rfl (p_assign rfl) nl ?_; clear hE a; intro a hE
     refine d_done (by kernel_rfl) ?_
     refine then_normal ?_
     refine wsr ?_
     refine zm hE ?_; clear hE a; intro a hE
     refine zs hE (p_ifaceNil Tryd.underlying25 rfl rfl rfl) ?_; clear hE a; intro a hE
     refine wnt ?_
     refine c_false hE rfl ?_
     refine wp_skip ?_
     refine then_normal ?_
     refine wp_seq ?_
     refine wp_seq ?_
     refine d_start [7] [] (by kernel_rfl) hI rfl rfl ?_
     clear hI w; intro w hI
     refine dp 0 hE rfl (p_move rfl) (fun _ => hI) (listed' := #[true, false, false, false, false, false, false, false, false]) ?_; clear hE a; intro a hE
     refine dp 1 hE rfl (p_move rfl) (fun _ => hI) ?_; clear hE a; intro a hE
     refine dp 2 hE rfl (p_fieldAddr (m := 2) rfl fo_83_2 rfl) (fun _ => hI) ?_; clear hE a; intro a hE
     refine dl 3 hE rfl (fun w hS => f_load rfl scal_3 (Inv.seg 0 hS rfl) rfl) (hI) ?_; clear hE a; intro a hE
     refine dp 4 hE rfl (p_fieldAddr (m := 4) rfl fo_83_4 rfl) (fun _ => hI) ?_; clear hE a; intro a hE
     refine dl 5 hE rfl (fun w hS => f_load rfl scal_65 (Inv.seg 0 hS rfl) rfl) (hI) ?_; clear hE a; intro a hE
     have hc70 := DR.cut (l := 4) (h := (x.ents).length) he2 (by omega) (by omega)
     refine dp 6 hE rfl (p_sliceL (l := 4) (h := (x.ents).length) rfl Tryd.underlying65 sz_69 (lo_at rfl (by omega) (by omega)) rfl (by omega) (by omega)) (fun _ => hI) ?_; clear hE a; intro a hE
     refine do1 7 hE rfl ?_
     refine o_call hE rfl rfl rfl rfl ent_126 (fill_spec (hI.bring 1) (hS.mono (((hD10.trans hD28).trans hD49).trans hD59)) hT60 (l := x.ents.drop 4) (drop4 (DR.mono EnR.keeps hc70 (((hD10.trans hD28).trans hD49).trans hD59)) rfl) t39 (level := x.level) (next := -1) (by simp only [List.length_drop]; omega) (by omega) (by omega) (by omega) (by omega) (by omega)) ?_
     clear hI hE a
     rintro r w h a hE; rcases h with ⟨b74, hx73, rfl, D75, s80, hD76, hT77, hI⟩ | ⟨c78, o79, hx73, rfl, b85, D81, s84, hext86, hD82, hT83, hI⟩
     ·skip
      replace hI := hI.put_back 1
      try simp only [nrm, Value.cells] at hI
      have hext_hx73 := (fill_ext hx73).1
      have hlen_hx73 := (fill_ext hx73).2
      simp only [List.length_take, List.length_drop] at hlen_hx73
      refine ⟨nl, ?_⟩
      refine dp 8 hE rfl (p_assign rfl) nl ?_; clear hE a; intro a hE
      refine d_done (by kernel_rfl) ?_
      refine then_normal ?_
      refine wsr ?_
      refine zm hE ?_; clear hE a; intro a hE
      refine zs hE (p_ifaceNil Tryd.underlying25 rfl rfl rfl) ?_; clear hE a; intro a hE
      refine wnt ?_
      refine c_false hE rfl ?_
      refine wp_skip ?_
      refine then_normal ?_
      refine wp_seq ?_
      refine d_start [13] [] (by kernel_rfl) hI rfl rfl ?_
      clear hI w; intro w hI
      refine dp 0 hE rfl (p_move rfl) (fun _ => hI) (listed' := #[true, false, false, false, false, false, false, false, false, false, false, false, false, false, false]) ?_; clear hE a; intro a hE
      refine dp 1 hE rfl (p_fieldAddr (m := 2) rfl fo_83_2 rfl) (fun _ => hI) ?_; clear hE a; intro a hE
      refine dl 2 hE rfl (fun w hS => f_load rfl scal_3 (Inv.seg 0 hS rfl) rfl) (hI) ?_; clear hE a; intro a hE
      refine dp 3 hE rfl (p_arith (z := x.level + 1) rfl rfl (add_z rfl (by omega) (by omega))) (fun _ => hI) ?_; clear hE a; intro a hE
      refine dp 4 hE rfl (f_build (vs := [(4, _), (5, _), (6, _)]) (l := [_, _, _, _, _, _, _, _, _, _]) rfl built_88 rfl) (fun _ => hI) ?_; clear hE a; intro a hE
      refine dp 5 hE rfl (p_move rfl) (fun _ => hI) ?_; clear hE a; intro a hE
      refine dp 8 hE rfl (p_move rfl) (fun _ => hI) ?_; clear hE a; intro a hE
      refine dp 9 hE rfl (p_move rfl) (fun _ => hI) ?_; clear hE a; intro a hE
      refine do1 6 hE rfl ?_
      refine o_call hE rfl rfl rfl rfl ent_123 (two_data hI t21) ?_
      clear hI hE a
      rintro r w ⟨D87, hD88, hI, hb89⟩ a hE
      obtain ⟨A90, c91, rfl, _⟩ := hb89.slice
      refine ⟨fun _ => (Inv.weaken hI hD88), ?_⟩
      refine dp 7 hE rfl (f_build (vs := [(4, _), (5, _), (8, _)]) (l := [_, _, _, _, _, _, _, _, _, _]) rfl built_88 rfl) (fun _ => (Inv.weaken hI hD88)) ?_; clear hE a; intro a hE
      refine do1 10 hE rfl ?_
      refine o_call hE rfl rfl rfl rfl ent_123 (two_data hI t39) ?_
      clear hI hE a
      rintro r w ⟨D92, hD93, hI, hb94⟩ a hE
      obtain ⟨A95, c96, rfl, _⟩ := hb94.slice
      refine ⟨fun _ => (Inv.weaken hI (hD88.trans hD93)), ?_⟩
      refine dp 11 hE rfl (f_build (vs := [(4, _), (5, _), (6, _), (7, _), (8, _)]) (l := [_, _, _, _, _, _, _, _, _, _]) rfl built_88 rfl) (fun _ => (Inv.weaken hI (hD88.trans hD93))) ?_; clear hE a; intro a hE
      refine do1 12 hE rfl ?_
      refine f_lit (vs := [(0, _), (1, _), (2, _)]) (l := [_, _, _, _, _, _, _, _, _, _, _, _, _, _, _, _, _, _, _, _, _, _, _, _, _, _, _, _, _, _]) hE hI rfl rfl rfl rfl Tryd.underlying62 zs_88 rfl rfl rfl ?_
      clear hI hE a w; intro a b97 w hE hI
      refine ⟨fun _ => (Inv.weaken (hI.dropS [0]) (hD88.trans hD93)), ?_⟩
      refine do1 13 hE rfl ?_
      have hr101 : RcR D92 _ ({ page := 0, kind := 1, slot := x.level + 1 } : Rc) := ⟨_, _, rfl, (RB.nil _), (RB.nil _), ROk.of0 rfl (by have := ho3.v0; show 0 ≤ x.level + 1; omega) (by show x.level + 1 ≤ _; omega) (by simp) (by simp)⟩
      have hr102 : RcR D92 _ ({ page := 0, kind := 2, val := twoB t21 } : Rc) := ⟨_, _, rfl, (RB.nil _), (hb89.mono hD93), ROk.of0 rfl (by simp) (by simp) (by simp) (by simp [twoB])⟩
      have hr103 : RcR D92 _ ({ page := 0, kind := 2, slot := 1, key := x_43.1, val := twoB t39 } : Rc) := ⟨_, _, rfl, (hb50.mono (((hD59.trans hD76).trans hD88).trans hD93)), hb94, ROk.of0 rfl (by simp) (by simp) hok_43.1 (by simp [twoB])⟩
      obtain ⟨D98, hD99, hIa, hL100⟩ := DR.lits (n := 3) (l := [({ page := 0, kind := 1, slot := x.level + 1 } : Rc), ({ page := 0, kind := 2, val := twoB t21 } : Rc), ({ page := 0, kind := 2, slot := 1, key := x_43.1, val := twoB t39 } : Rc)]) 0 hI rfl rfl rfl (by omega) (At.lit3 (size := 10) (by rfl) (by rfl) (by rfl)  hr101 hr102 hr103)
      replace hI := hIa
      clear hIa
      try simp only [nrm, Value.cells] at hI
      refine o_call hE rfl rfl rfl rfl ent_124 (all_spec (hI.bring 1) (hS.mono (((((((hD10.trans hD28).trans hD49).trans hD59).trans hD76).trans hD88).trans hD93).trans hD99)) (hT77.mono ((hD88.trans hD93).trans hD99)) (l := [({ page := 0, kind := 1, slot := x.level + 1 } : Rc), ({ page := 0, kind := 2, val := twoB t21 } : Rc), ({ page := 0, kind := 2, slot := 1, key := x_43.1, val := twoB t39 } : Rc)]) hL100 (by simp only [List.length_cons, List.length_nil]; omega)) ?_
      clear hI hE a
      rintro r w h a hE; rcases h with ⟨b105, hx104, rfl, D106, s111, hD107, hT108, hI⟩ | ⟨c109, o110, hx104, rfl, b116, D112, s115, hext117, hD113, hT114, hI⟩
      ·skip
       replace hI := hI.put_back 1
       try simp only [nrm, Value.cells] at hI
       have hext_hx104 := (all_ext _ hx104).1
       have hlen_hx104 := (all_ext _ hx104).2
       refine ⟨nl, ?_⟩
       refine dp 14 hE rfl (p_assign rfl) nl ?_; clear hE a; intro a hE
       refine d_done (by kernel_rfl) ?_
       refine then_normal ?_
       refine wp_ret ?_
       refine ret1 rfl hE rfl ?_
       replace hI := hI.erase 0
       have hgd : x.ents.getD 4 ([], []) = x_43 := by rw [List.getD_eq_getElem?_getD, hx_43]; rfl
       exact .inl ⟨_, by simp only [Bt.splitRoot, hx7, hx25, hx56, hx73, hx104, eq_true (show x.level = 0 by omega), hgd, ite_true, ite_false, if_true, if_false], rfl, _, _, ((((((((hD10.trans hD28).trans hD49).trans hD59).trans hD76).trans hD88).trans hD93).trans hD99).trans hD107), hT108, hI⟩
      replace hI := hI.put_back 1
      try simp only [nrm, Value.cells] at hI
      refine ⟨nl, ?_⟩
      refine dp 14 hE rfl (p_assign rfl) nl ?_; clear hE a; intro a hE
      refine d_done (by kernel_rfl) ?_
      refine then_normal ?_
      refine wp_ret ?_
      refine ret1 rfl hE rfl ?_
      replace hI := hI.erase 0
      have hgd : x.ents.getD 4 ([], []) = x_43 := by rw [List.getD_eq_getElem?_getD, hx_43]; rfl
      exact .inr ⟨_, _, by simp only [Bt.splitRoot, hx7, hx25, hx56, hx73, hx104, eq_true (show x.level = 0 by omega), hgd, ite_true, ite_false, if_true, if_false], rfl, _, _, _, (hext_hx7.trans (hext_hx25.trans (hext_hx56.trans (hext_hx73.trans hext117)))), ((((((((hD10.trans hD28).trans hD49).trans hD59).trans hD76).trans hD88).trans hD93).trans hD99).trans hD113), hT114, hI⟩
     replace hI := hI.put_back 1
     try simp only [nrm, Value.cells] at hI
     refine ⟨nl, ?_⟩
     refine dp 8 hE rfl (p_assign rfl) nl ?_; clear hE a; intro a hE
     refine d_done (by kernel_rfl) ?_
     refine then_normal ?_
     refine wsr ?_
     refine zm hE ?_; clear hE a; intro a hE
     refine zs hE (p_ifaceNil Tryd.underlying25 rfl rfl rfl) ?_; clear hE a; intro a hE
     refine wnt ?_
     refine c_true hE rfl ?_
     refine wsr ?_
     refine zm hE ?_; clear hE a; intro a hE
     refine za hE ?_; clear hE a; intro a hE
     refine wnt ?_
     refine wp_ret ?_
     refine then_ret ?_
     refine ret1 rfl hE rfl ?_
     replace hI := hI.erase 0
     have hgd : x.ents.getD 4 ([], []) = x_43 := by rw [List.getD_eq_getElem?_getD, hx_43]; rfl
     exact .inr ⟨_, _, by simp only [Bt.splitRoot, hx7, hx25, hx56, hx73, eq_true (show x.level = 0 by omega), hgd, ite_true, ite_false, if_true, if_false], rfl, _, _, _, (hext_hx7.trans (hext_hx25.trans (hext_hx56.trans hext86))), ((((hD10.trans hD28).trans hD49).trans hD59).trans hD82), hT83, hI⟩
    replace hI := hI.put_back 1
    try simp only [nrm, Value.cells] at hI
    refine ⟨nl, ?_⟩
    refine dp 9 hE rfl (p_assign rfl) nl ?_; clear hE a; intro a hE
    refine d_done (by kernel_rfl) ?_
    refine then_normal ?_
    refine wsr ?_
    refine zm hE ?_; clear hE a; intro a hE
    refine zs hE (p_ifaceNil Tryd.underlying25 rfl rfl rfl) ?_; clear hE a; intro a hE
    refine wnt ?_
    refine c_true hE rfl ?_
    refine wsr ?_
    refine zm hE ?_; clear hE a; intro a hE
    refine za hE ?_; clear hE a; intro a hE
    refine wnt ?_
    refine wp_ret ?_
    refine then_ret ?_
    refine ret1 rfl hE rfl ?_
    replace hI := hI.erase 0
    have hgd : x.ents.getD 4 ([], []) = x_43 := by rw [List.getD_eq_getElem?_getD, hx_43]; rfl
    exact .inr ⟨_, _, by simp only [Bt.splitRoot, hx7, hx25, hx56, eq_true (show x.level = 0 by omega), hgd, ite_true, ite_false, if_true, if_false], rfl, _, _, _, (hext_hx7.trans (hext_hx25.trans hext69)), (((hD10.trans hD28).trans hD49).trans hD65), hT66, hI⟩
   intro hlv; replace hlv := eql_f hlv; clear hE a; intro a hE
   refine wnt ?_
   refine c_false hE rfl ?_
   refine wp_skip ?_
   refine then_normal ?_
   refine wsr ?_
   refine zs hE (p_fieldAddr (m := 4) rfl fo_83_4 rfl) ?_; clear hE a; intro a hE
   refine zl hE (f_load rfl scal_65 (hI.seg 0 rfl) rfl) ?_; clear hE a; intro a hE
   obtain ⟨x_118, hx_118⟩ : ∃ y, (x.ents)[4]? = some y := ⟨_, List.getElem?_eq_getElem (by omega)⟩
   obtain ⟨b_118, o_118, cs_118, T_118, fr_118, rfl, hb_118, hat_118⟩ := he2.at_ (by intro h0; rw [h0] at hx_118; simp at hx_118)
   obtain ⟨vs_118, hl_118, ⟨k_118, v_118, rfl, hk_118, hv_118, hok_118⟩, hex_118, hsz_118, hce_118⟩ := hat_118.extract hx_118 (by omega)
   obtain ⟨A119, c120, rfl, _⟩ := hk_118.slice
   obtain ⟨A121, c122, rfl, _⟩ := hv_118.slice
   refine zs hE (p_indexAddr (m := o_118 + 4 * 2) rfl rfl Tryd.underlying65 sz_69 (by omega) (by omega) (by simp)) ?_; clear hE a; intro a hE
   refine zs hE (p_fieldAddr rfl fo_69_0 rfl) ?_; clear hE a; intro a hE
   refine zl hE (r_load rfl scal_22 (hI.data _ _ ((hD10.trans hD28) _ _ (hb_118))) (hce_118 0 _ rfl)) ?_; clear hE a; intro a hE
   refine l_step rfl (o_call hE rfl rfl rfl rfl ent_73 (Clone_data (bs := x_118.1) hI (hk_118.mono (hD10.trans hD28)) (by have := hok_118.1; omega)) ?_)
   clear hI hE a
   rintro r w ⟨D123, hD124, hI, hb125⟩ a hE
   obtain ⟨A126, c127, rfl, _⟩ := hb125.slice
   refine za hE ?_; clear hE a; intro a hE
   refine wnt ?_
   refine wp_seq ?_
   refine wp_seq ?_
   refine d_start [8] [] (by kernel_rfl) hI rfl rfl ?_
   clear hI w; intro w hI
   refine dp 0 hE rfl (p_move rfl) (fun _ => hI) (listed' := #[true, false, false, false, false, false, false, false, false, false]) ?_; clear hE a; intro a hE
   refine dp 1 hE rfl (p_move rfl) (fun _ => hI) ?_; clear hE a; intro a hE
   refine dp 2 hE rfl (p_fieldAddr (m := 2) rfl fo_83_2 rfl) (fun _ => hI) ?_; clear hE a; intro a hE
   refine dl 3 hE rfl (fun w hS => f_load rfl scal_3 (Inv.seg 0 hS rfl) rfl) (hI) ?_; clear hE a; intro a hE
   refine dp 4 hE rfl (p_fieldAddr (m := 4) rfl fo_83_4 rfl) (fun _ => hI) ?_; clear hE a; intro a hE
   refine dl 5 hE rfl (fun w hS => f_load rfl scal_65 (Inv.seg 0 hS rfl) rfl) (hI) ?_; clear hE a; intro a hE
   have hc128 := DR.cut (l := 0) (h := 4) he2 (by omega) (by omega)
   refine dp 6 hE rfl (p_sliceL (l := 0) (h := 4) rfl Tryd.underlying65 sz_69 rfl (lo_at rfl (by omega) (by omega)) (by omega) (by omega)) (fun _ => hI) ?_; clear hE a; intro a hE
   refine dp 7 hE rfl (p_move rfl) (fun _ => hI) ?_; clear hE a; intro a hE
   refine do1 8 hE rfl ?_
   refine o_call hE rfl rfl rfl rfl ent_126 (fill_spec (hI.bring 1) (hS.mono ((hD10.trans hD28).trans hD124)) (hT29.mono hD124) (l := x.ents.take 4) (DR.mono EnR.keeps hc128 ((hD10.trans hD28).trans hD124)) t21 (level := x.level) (next := (-1)) (by simp only [List.length_take]; omega) (by omega) (by omega) (by omega) (by omega) (by omega)) ?_
   clear hI hE a
   rintro r w h a hE; rcases h with ⟨b132, hx131, rfl, D133, s138, hD134, hT135, hI⟩ | ⟨c136, o137, hx131, rfl, b143, D139, s142, hext144, hD140, hT141, hI⟩
   ·skip
    replace hI := hI.put_back 1
    try simp only [nrm, Value.cells] at hI
    have hext_hx131 := (fill_ext hx131).1
    have hlen_hx131 := (fill_ext hx131).2
    simp only [List.length_take, List.length_drop] at hlen_hx131
    refine ⟨nl, ?_⟩
    refine dp 9 hE rfl (p_assign rfl) nl ?_; clear hE a; intro a hE
    refine d_done (by kernel_rfl) ?_
    refine then_normal ?_
    refine wsr ?_
    refine zm hE ?_; clear hE a; intro a hE
    refine zs hE (p_ifaceNil Tryd.underlying25 rfl rfl rfl) ?_; clear hE a; intro a hE
    refine wnt ?_
    refine c_false hE rfl ?_
    refine wp_skip ?_
    refine then_normal ?_
    refine wp_seq ?_
    refine wp_seq ?_
    refine d_start [7] [] (by kernel_rfl) hI rfl rfl ?_
    clear hI w; intro w hI
    refine dp 0 hE rfl (p_move rfl) (fun _ => hI) (listed' := #[true, false, false, false, false, false, false, false, false]) ?_; clear hE a; intro a hE
    refine dp 1 hE rfl (p_move rfl) (fun _ => hI) ?_; clear hE a; intro a hE
    refine dp 2 hE rfl (p_fieldAddr (m := 2) rfl fo_83_2 rfl) (fun _ => hI) ?_; clear hE a; intro a hE
    refine dl 3 hE rfl (fun w hS => f_load rfl scal_3 (Inv.seg 0 hS rfl) rfl) (hI) ?_; clear hE a; intro a hE
    refine dp 4 hE rfl (p_fieldAddr (m := 4) rfl fo_83_4 rfl) (fun _ => hI) ?_; clear hE a; intro a hE
    refine dl 5 hE rfl (fun w hS => f_load rfl scal_65 (Inv.seg 0 hS rfl) rfl) (hI) ?_; clear hE a; intro a hE
    have hc145 := DR.cut (l := 4) (h := (x.ents).length) he2 (by omega) (by omega)
    refine dp 6 hE rfl (p_sliceL (l := 4) (h := (x.ents).length) rfl Tryd.underlying65 sz_69 (lo_at rfl (by omega) (by omega)) rfl (by omega) (by omega)) (fun _ => hI) ?_; clear hE a; intro a hE
    refine do1 7 hE rfl ?_
    refine o_call hE rfl rfl rfl rfl ent_126 (fill_spec (hI.bring 1) (hS.mono (((hD10.trans hD28).trans hD124).trans hD134)) hT135 (l := x.ents.drop 4) (drop4 (DR.mono EnR.keeps hc145 (((hD10.trans hD28).trans hD124).trans hD134)) rfl) t39 (level := x.level) (next := -1) (by simp only [List.length_drop]; omega) (by omega) (by omega) (by omega) (by omega) (by omega)) ?_
    clear hI hE a
    rintro r w h a hE; rcases h with ⟨b149, hx148, rfl, D150, s155, hD151, hT152, hI⟩ | ⟨c153, o154, hx148, rfl, b160, D156, s159, hext161, hD157, hT158, hI⟩
    ·skip
     replace hI := hI.put_back 1
     try simp only [nrm, Value.cells] at hI
     have hext_hx148 := (fill_ext hx148).1
     have hlen_hx148 := (fill_ext hx148).2
     simp only [List.length_take, List.length_drop] at hlen_hx148
     refine ⟨nl, ?_⟩
     refine dp 8 hE rfl (p_assign rfl) nl ?_; clear hE a; intro a hE
     refine d_done (by kernel_rfl) ?_
     refine then_normal ?_
     refine wsr ?_
     refine zm hE ?_; clear hE a; intro a hE
     refine zs hE (p_ifaceNil Tryd.underlying25 rfl rfl rfl) ?_; clear hE a; intro a hE
     refine wnt ?_
     refine c_false hE rfl ?_
     refine wp_skip ?_
     refine then_normal ?_
     refine wp_seq ?_
     refine d_start [13] [] (by kernel_rfl) hI rfl rfl ?_
     clear hI w; intro w hI
     refine dp 0 hE rfl (p_move rfl) (fun _ => hI) (listed' := #[true, false, false, false, false, false, false, false, false, false, false, false, false, false, false]) ?_; clear hE a; intro a hE
     refine dp 1 hE rfl (p_fieldAddr (m := 2) rfl fo_83_2 rfl) (fun _ => hI) ?_; clear hE a; intro a hE
     refine dl 2 hE rfl (fun w hS => f_load rfl scal_3 (Inv.seg 0 hS rfl) rfl) (hI) ?_; clear hE a; intro a hE
     refine dp 3 hE rfl (p_arith (z := x.level + 1) rfl rfl (add_z rfl (by omega) (by omega))) (fun _ => hI) ?_; clear hE a; intro a hE
     refine dp 4 hE rfl (f_build (vs := [(4, _), (5, _), (6, _)]) (l := [_, _, _, _, _, _, _, _, _, _]) rfl built_88 rfl) (fun _ => hI) ?_; clear hE a; intro a hE
     refine dp 5 hE rfl (p_move rfl) (fun _ => hI) ?_; clear hE a; intro a hE
     refine dp 8 hE rfl (p_move rfl) (fun _ => hI) ?_; clear hE a; intro a hE
     refine dp 9 hE rfl (p_move rfl) (fun _ => hI) ?_; clear hE a; intro a hE
     refine do1 6 hE rfl ?_
     refine o_call hE rfl rfl rfl rfl ent_123 (two_data hI t21) ?_
     clear hI hE a
     rintro r w ⟨D162, hD163, hI, hb164⟩ a hE
     obtain ⟨A165, c166, rfl, _⟩ := hb164.slice
     refine ⟨fun _ => (Inv.weaken hI hD163), ?_⟩
     refine dp 7 hE rfl (f_build (vs := [(4, _), (5, _), (8, _)]) (l := [_, _, _, _, _, _, _, _, _, _]) rfl built_88 rfl) (fun _ => (Inv.weaken hI hD163)) ?_; clear hE a; intro a hE
     refine do1 10 hE rfl ?_
     refine o_call hE rfl rfl rfl rfl ent_123 (two_data hI t39) ?_
     clear hI hE a
     rintro r w ⟨D167, hD168, hI, hb169⟩ a hE
     obtain ⟨A170, c171, rfl, _⟩ := hb169.slice
     refine ⟨fun _ => (Inv.weaken hI (hD163.trans hD168)), ?_⟩
     refine dp 11 hE rfl (f_build (vs := [(4, _), (5, _), (6, _), (7, _), (8, _)]) (l := [_, _, _, _, _, _, _, _, _, _]) rfl built_88 rfl) (fun _ => (Inv.weaken hI (hD163.trans hD168))) ?_; clear hE a; intro a hE
     refine do1 12 hE rfl ?_
     refine f_lit (vs := [(0, _), (1, _), (2, _)]) (l := [_, _, _, _, _, _, _, _, _, _, _, _, _, _, _, _, _, _, _, _, _, _, _, _, _, _, _, _, _, _]) hE hI rfl rfl rfl rfl Tryd.underlying62 zs_88 rfl rfl rfl ?_
     clear hI hE a w; intro a b172 w hE hI
     refine ⟨fun _ => (Inv.weaken (hI.dropS [0]) (hD163.trans hD168)), ?_⟩
     refine do1 13 hE rfl ?_
     have hr176 : RcR D167 _ ({ page := 0, kind := 1, slot := x.level + 1 } : Rc) := ⟨_, _, rfl, (RB.nil _), (RB.nil _), ROk.of0 rfl (by have := ho3.v0; show 0 ≤ x.level + 1; omega) (by show x.level + 1 ≤ _; omega) (by simp) (by simp)⟩
     have hr177 : RcR D167 _ ({ page := 0, kind := 2, val := twoB t21 } : Rc) := ⟨_, _, rfl, (RB.nil _), (hb164.mono hD168), ROk.of0 rfl (by simp) (by simp) (by simp) (by simp [twoB])⟩
     have hr178 : RcR D167 _ ({ page := 0, kind := 2, slot := 1, key := x_118.1, val := twoB t39 } : Rc) := ⟨_, _, rfl, (hb125.mono (((hD134.trans hD151).trans hD163).trans hD168)), hb169, ROk.of0 rfl (by simp) (by simp) hok_118.1 (by simp [twoB])⟩
     obtain ⟨D173, hD174, hIa, hL175⟩ := DR.lits (n := 3) (l := [({ page := 0, kind := 1, slot := x.level + 1 } : Rc), ({ page := 0, kind := 2, val := twoB t21 } : Rc), ({ page := 0, kind := 2, slot := 1, key := x_118.1, val := twoB t39 } : Rc)]) 0 hI rfl rfl rfl (by omega) (At.lit3 (size := 10) (by rfl) (by rfl) (by rfl)  hr176 hr177 hr178)
     replace hI := hIa
     clear hIa
     try simp only [nrm, Value.cells] at hI
     refine o_call hE rfl rfl rfl rfl ent_124 (all_spec (hI.bring 1) (hS.mono (((((((hD10.trans hD28).trans hD124).trans hD134).trans hD151).trans hD163).trans hD168).trans hD174)) (hT152.mono ((hD163.trans hD168).trans hD174)) (l := [({ page := 0, kind := 1, slot := x.level + 1 } : Rc), ({ page := 0, kind := 2, val := twoB t21 } : Rc), ({ page := 0, kind := 2, slot := 1, key := x_118.1, val := twoB t39 } : Rc)]) hL175 (by simp only [List.length_cons, List.length_nil]; omega)) ?_
     clear hI hE a
     rintro r w h a hE; rcases h with ⟨b180, hx179, rfl, D181, s186, hD182, hT183, hI⟩ | ⟨c184, o185, hx179, rfl, b191, D187, s190, hext192, hD188, hT189, hI⟩
     ·skip
      replace hI := hI.put_back 1
      try simp only [nrm, Value.cells] at hI
      have hext_hx179 := (all_ext _ hx179).1
      have hlen_hx179 := (all_ext _ hx179).2
      refine ⟨nl, ?_⟩
      refine dp 14 hE rfl (p_assign rfl) nl ?_; clear hE a; intro a hE
      refine d_done (by kernel_rfl) ?_
      refine then_normal ?_
      refine wp_ret ?_
      refine ret1 rfl hE rfl ?_
      replace hI := hI.erase 0
      have hgd : x.ents.getD 4 ([], []) = x_118 := by rw [List.getD_eq_getElem?_getD, hx_118]; rfl
      exact .inl ⟨_, by simp only [Bt.splitRoot, hx7, hx25, hx131, hx148, hx179, eq_false (show ¬ (x.level = 0) by omega), hgd, ite_true, ite_false, if_true, if_false], rfl, _, _, ((((((((hD10.trans hD28).trans hD124).trans hD134).trans hD151).trans hD163).trans hD168).trans hD174).trans hD182), hT183, hI⟩
     replace hI := hI.put_back 1
     try simp only [nrm, Value.cells] at hI
     refine ⟨nl, ?_⟩
     refine dp 14 hE rfl (p_assign rfl) nl ?_; clear hE a; intro a hE
     refine d_done (by kernel_rfl) ?_
     refine then_normal ?_
     refine wp_ret ?_
     refine ret1 rfl hE rfl ?_
     replace hI := hI.erase 0
     have hgd : x.ents.getD 4 ([], []) = x_118 := by rw [List.getD_eq_getElem?_getD, hx_118]; rfl
     exact .inr ⟨_, _, by simp only [Bt.splitRoot, hx7, hx25, hx131, hx148, hx179, eq_false (show ¬ (x.level = 0) by omega), hgd, ite_true, ite_false, if_true, if_false], rfl, _, _, _, (hext_hx7.trans (hext_hx25.trans (hext_hx131.trans (hext_hx148.trans hext192)))), ((((((((hD10.trans hD28).trans hD124).trans hD134).trans hD151).trans hD163).trans hD168).trans hD174).trans hD188), hT189, hI⟩
    replace hI := hI.put_back 1
    try simp only [nrm, Value.cells] at hI
    refine ⟨nl, ?_⟩
    refine dp 8 hE rfl (p_assign rfl) nl ?_; clear hE a; intro a hE
    refine d_done (by kernel_rfl) ?_
    refine then_normal ?_
    refine wsr ?_
    refine zm hE ?_; clear hE a; intro a hE
    refine zs hE (p_ifaceNil Tryd.underlying25 rfl rfl rfl) ?_; clear hE a; intro a hE
    refine wnt ?_
    refine c_true hE rfl ?_
    refine wsr ?_
    refine zm hE ?_; clear hE a; intro a hE
    refine za hE ?_; clear hE a; intro a hE
    refine wnt ?_
    refine wp_ret ?_
    refine then_ret ?_
    refine ret1 rfl hE rfl ?_
    replace hI := hI.erase 0
    have hgd : x.ents.getD 4 ([], []) = x_118 := by rw [List.getD_eq_getElem?_getD, hx_118]; rfl
    exact .inr ⟨_, _, by simp only [Bt.splitRoot, hx7, hx25, hx131, hx148, eq_false (show ¬ (x.level = 0) by omega), hgd, ite_true, ite_false, if_true, if_false], rfl, _, _, _, (hext_hx7.trans (hext_hx25.trans (hext_hx131.trans hext161))), ((((hD10.trans hD28).trans hD124).trans hD134).trans hD157), hT158, hI⟩
   replace hI := hI.put_back 1
   try simp only [nrm, Value.cells] at hI
   refine ⟨nl, ?_⟩
   refine dp 9 hE rfl (p_assign rfl) nl ?_; clear hE a; intro a hE
   refine d_done (by kernel_rfl) ?_
   refine then_normal ?_
   refine wsr ?_
   refine zm hE ?_; clear hE a; intro a hE
   refine zs hE (p_ifaceNil Tryd.underlying25 rfl rfl rfl) ?_; clear hE a; intro a hE
   refine wnt ?_
   refine c_true hE rfl ?_
   refine wsr ?_
   refine zm hE ?_; clear hE a; intro a hE
   refine za hE ?_; clear hE a; intro a hE
   refine wnt ?_
   refine wp_ret ?_
   refine then_ret ?_
   refine ret1 rfl hE rfl ?_
   replace hI := hI.erase 0
   have hgd : x.ents.getD 4 ([], []) = x_118 := by rw [List.getD_eq_getElem?_getD, hx_118]; rfl
   exact .inr ⟨_, _, by simp only [Bt.splitRoot, hx7, hx25, hx131, eq_false (show ¬ (x.level = 0) by omega), hgd, ite_true, ite_false, if_true, if_false], rfl, _, _, _, (hext_hx7.trans (hext_hx25.trans hext144)), (((hD10.trans hD28).trans hD124).trans hD140), hT141, hI⟩
  replace hI := hI.put_back 1
  try simp only [nrm, Value.cells] at hI
  refine zm hE ?_; clear hE a; intro a hE
  refine zx hE ?_; clear hE a; intro a hE
  refine zx hE ?_; clear hE a; intro a hE
  refine za hE ?_; clear hE a; intro a hE
  refine za hE ?_; clear hE a; intro a hE
  refine wnt ?_
  refine wp_seq ?_
  refine wsr ?_
  refine zm hE ?_; clear hE a; intro a hE
  refine zs hE (p_ifaceNil Tryd.underlying25 rfl rfl rfl) ?_; clear hE a; intro a hE
  refine wnt ?_
  refine c_true hE rfl ?_
  refine wsr ?_
  refine zm hE ?_; clear hE a; intro a hE
  refine za hE ?_; clear hE a; intro a hE
  refine wnt ?_
  refine wp_ret ?_
  refine then_ret ?_
  refine ret1 rfl hE rfl ?_
  replace hI := hI.erase 0
  exact .inr ⟨_, _, by simp only [Bt.splitRoot, hx7, hx25, ite_true, ite_false, if_true, if_false], rfl, _, _, _, hext_hx7, (hD10.trans hD34), hT35, hI⟩
 replace hI := hI.put_back 1
 try simp only [nrm, Value.cells] at hI
 refine zm hE ?_; clear hE a; intro a hE
 refine zx hE ?_; clear hE a; intro a hE
 refine zx hE ?_; clear hE a; intro a hE
 refine za hE ?_; clear hE a; intro a hE
 refine za hE ?_; clear hE a; intro a hE
 refine wnt ?_
 refine wp_seq ?_
 refine wsr ?_
 refine zm hE ?_; clear hE a; intro a hE
 refine zs hE (p_ifaceNil Tryd.underlying25 rfl rfl rfl) ?_; clear hE a; intro a hE
 refine wnt ?_
 refine c_true hE rfl ?_
 refine wsr ?_
 refine zm hE ?_; clear hE a; intro a hE
 refine za hE ?_; clear hE a; intro a hE
 refine wnt ?_
 refine wp_ret ?_
 refine then_ret ?_
 refine ret1 rfl hE rfl ?_
 replace hI := hI.erase 0
 exact .inr ⟨_, _, by simp only [Bt.splitRoot, hx7, ite_true, ite_false, if_true, if_false], rfl, _, _, _, (Ext.refl _), hD16, hT17, hI⟩
theorem split_spec {w0 w : World} {D : Sto} {ss : List Seg} {s : Seg} {vb vp : Value} {b : Bt} {P : Pl} (hI : Inv w0 D (s :: ss) w) {ad : Nat → Addr} (hS : TSents D ad) (hT : TreeS D vb vp b P s) {vq vx : Value} {p x : Pg} (hp : PgV D vq p) {k : Int} (hk0 : 0 ≤ k) (hk1 : k ≤ 1000) (hx : PgV D vx x) (hf : 8 ≤ x.ents.length) (hlen : b.recs.length ≤ 1000000000 - 2000) :
  Calls Tryd.prog 110 #[vb, vq, .int .i64 k, vx] w (Ret fun r w' => (∃ b', b.split p k x = .ok b' ∧ r = .nilIface ∧ ∃ D' s', Le D D' ∧ TreeS D' vb vp b' P s' ∧ Inv w0 D' (s' :: ss) w') ∨ (∃ c o, b.split p k x = .fail c o ∧ r = errV ad c ∧ ∃ b' D' s', Ext b b' ∧ Le D D' ∧ TreeS D' vb vp b' (P.after o) s' ∧ Inv w0 D' (s' :: ss) w')) := by
 obtain ⟨e1, rfl, he2, ho3⟩ := hp
 have hlen_p := ho3.len
 obtain ⟨A4, c5, rfl, _⟩ := he2.slice
 obtain ⟨e6, rfl, he7, ho8⟩ := hx
 have hlen_x := ho8.len
 obtain ⟨A9, c10, rfl, _⟩ := he7.slice
 have hv0 := ho8.v0
 have hv1 := ho8.v1
 have hn0 := ho8.n0
 have hn1 := ho8.n1
 refine enter (N := 77) Tryd.func110 rfl rfl rfl ?_
 intro a hE
 refine wsr ?_
 refine l_step rfl (f_box (cs := #[_, _, _, _, _]) hE hI rfl rfl rfl rfl rfl ?_)
 clear hI hE a w; intro a b11 w hE hI
 refine l_step rfl (f_box (cs := #[_, _, _, _, _]) hE hI rfl rfl rfl rfl rfl ?_)
 clear hI hE a w; intro a b12 w hE hI
 refine za hE ?_; clear hE a; intro a hE
 refine wnt ?_
 refine wsr ?_
 refine zm hE ?_; clear hE a; intro a hE
 refine l_step rfl (o_call hE rfl rfl rfl rfl ent_131 (take_spec (hI.bring 2) hS hT (by omega)) ?_)
 clear hI hE a
 rintro r w h a hE; rcases h with ⟨t27, b14, hx13, rfl, hm29, hm30, D15, s20, hD16, hT17, hI⟩ | ⟨c18, o19, n28, hx13, rfl, D21, s24, hD22, hT23, hI⟩
 ·skip
  replace hI := hI.put_back 2
  try simp only [nrm, Value.cells] at hI
  have hext_hx13 := (take_ext hx13).1
  have hlen_hx13 := (take_ext hx13).2
  refine zm hE ?_; clear hE a; intro a hE
  refine zx hE ?_; clear hE a; intro a hE
  refine zx hE ?_; clear hE a; intro a hE
  refine za hE ?_; clear hE a; intro a hE
  refine za hE ?_; clear hE a; intro a hE
  refine wnt ?_
  refine wp_seq ?_
  refine wsr ?_
  refine zm hE ?_; clear hE a; intro a hE
  refine zs hE (p_ifaceNil Tryd.underlying25 rfl rfl rfl) ?_; clear hE a; intro a hE
  refine wnt ?_
  refine c_false hE rfl ?_
  refine wp_skip ?_
  refine then_normal ?_
  refine wsr ?_
  refine zs hE (p_fieldAddr (m := 4) rfl fo_83_4 rfl) ?_; clear hE a; intro a hE
  refine zl hE (f_load rfl scal_65 (hI.seg 0 rfl) rfl) ?_; clear hE a; intro a hE
  obtain ⟨x_31, hx_31⟩ : ∃ y, (x.ents)[4]? = some y := ⟨_, List.getElem?_eq_getElem (by omega)⟩
  obtain ⟨b_31, o_31, cs_31, T_31, fr_31, rfl, hb_31, hat_31⟩ := he7.at_ (by intro h0; rw [h0] at hx_31; simp at hx_31)
  obtain ⟨vs_31, hl_31, ⟨k_31, v_31, rfl, hk_31, hv_31, hok_31⟩, hex_31, hsz_31, hce_31⟩ := hat_31.extract hx_31 (by omega)
  obtain ⟨A32, c33, rfl, _⟩ := hk_31.slice
  obtain ⟨A34, c35, rfl, _⟩ := hv_31.slice
  refine zs hE (p_indexAddr (m := o_31 + 4 * 2) rfl rfl Tryd.underlying65 sz_69 (by omega) (by omega) (by simp)) ?_; clear hE a; intro a hE
  refine zs hE (p_fieldAddr rfl fo_69_0 rfl) ?_; clear hE a; intro a hE
  refine zl hE (r_load rfl scal_22 (hI.data _ _ (hD16 _ _ (hb_31))) (hce_31 0 _ rfl)) ?_; clear hE a; intro a hE
  refine l_step rfl (o_call hE rfl rfl rfl rfl ent_73 (Clone_data (bs := x_31.1) hI (hk_31.mono hD16) (by have := hok_31.1; omega)) ?_)
  clear hI hE a
  rintro r w ⟨D36, hD37, hI, hb38⟩ a hE
  obtain ⟨A39, c40, rfl, _⟩ := hb38.slice
  refine za hE ?_; clear hE a; intro a hE
  refine wnt ?_
  refine wsr ?_
  refine za hE ?_; clear hE a; intro a hE
  refine wnt ?_
  refine wp_seq ?_
  refine wsr ?_
  refine zs hE (p_fieldAddr (m := 2) rfl fo_83_2 rfl) ?_; clear hE a; intro a hE
  refine zl hE (f_load rfl scal_3 (hI.seg 0 rfl) rfl) ?_; clear hE a; intro a hE
  refine l_step rfl (o_cmp hE rfl rfl rfl rfl rfl rfl ?_ ?_)
  ·intro hlv; replace hlv := eql_t hlv; clear hE a; intro a hE
   refine wnt ?_
   refine c_true hE rfl ?_
   refine wp_region_list ?_
   refine zs hE (p_fieldAddr (m := 3) rfl fo_83_3 rfl) ?_; clear hE a; intro a hE
   refine zl hE (f_load rfl scal_3 (hI.seg 0 rfl) rfl) ?_; clear hE a; intro a hE
   refine za hE ?_; clear hE a; intro a hE
   refine wnt ?_
   refine wp_seq ?_
   refine wp_seq ?_
   refine d_start [8] [] (by kernel_rfl) hI rfl rfl ?_
   clear hI w; intro w hI
   refine dp 0 hE rfl (p_move rfl) (fun _ => hI) (listed' := #[true, false, false, false, false, false, false, false, false, false]) ?_; clear hE a; intro a hE
   refine dp 1 hE rfl (p_move rfl) (fun _ => hI) ?_; clear hE a; intro a hE
   refine dp 2 hE rfl (p_fieldAddr (m := 2) rfl fo_83_2 rfl) (fun _ => hI) ?_; clear hE a; intro a hE
   refine dl 3 hE rfl (fun w hS => f_load rfl scal_3 (Inv.seg 0 hS rfl) rfl) (hI) ?_; clear hE a; intro a hE
   refine dp 4 hE rfl (p_fieldAddr (m := 4) rfl fo_83_4 rfl) (fun _ => hI) ?_; clear hE a; intro a hE
   refine dl 5 hE rfl (fun w hS => f_load rfl scal_65 (Inv.seg 0 hS rfl) rfl) (hI) ?_; clear hE a; intro a hE
   have hc41 := DR.cut (l := 4) (h := (x.ents).length) he7 (by omega) (by omega)
   refine dp 6 hE rfl (p_sliceL (l := 4) (h := (x.ents).length) rfl Tryd.underlying65 sz_69 (lo_at rfl (by omega) (by omega)) rfl (by omega) (by omega)) (fun _ => hI) ?_; clear hE a; intro a hE
   refine dp 7 hE rfl (p_move rfl) (fun _ => hI) ?_; clear hE a; intro a hE
   refine do1 8 hE rfl ?_
   refine o_call hE rfl rfl rfl rfl ent_126 (fill_spec (hI.bring 2) (hS.mono (hD16.trans hD37)) (hT17.mono hD37) (l := x.ents.drop 4) (drop4 (DR.mono EnR.keeps hc41 (hD16.trans hD37)) rfl) t27 (level := x.level) (next := x.next) (by simp only [List.length_drop]; omega) (by omega) (by omega) (by omega) (by omega) (by omega)) ?_
   clear hI hE a
   rintro r w h a hE; rcases h with ⟨b45, hx44, rfl, D46, s51, hD47, hT48, hI⟩ | ⟨c49, o50, hx44, rfl, b56, D52, s55, hext57, hD53, hT54, hI⟩
   ·skip
    replace hI := hI.put_back 2
    try simp only [nrm, Value.cells] at hI
    have hext_hx44 := (fill_ext hx44).1
    have hlen_hx44 := (fill_ext hx44).2
    simp only [List.length_take, List.length_drop] at hlen_hx44
    refine ⟨nl, ?_⟩
    refine dp 9 hE rfl (p_assign rfl) nl ?_; clear hE a; intro a hE
    refine d_done (by kernel_rfl) ?_
    refine then_normal ?_
    refine wsr ?_
    refine zm hE ?_; clear hE a; intro a hE
    refine zs hE (p_ifaceNil Tryd.underlying25 rfl rfl rfl) ?_; clear hE a; intro a hE
    refine wnt ?_
    refine c_false hE rfl ?_
    refine wp_skip ?_
    refine then_normal ?_
    refine wp_seq ?_
    refine wsr ?_
    refine zm hE ?_; clear hE a; intro a hE
    refine zs hE (p_fieldAddr (m := 0) rfl fo_83_0 rfl) ?_; clear hE a; intro a hE
    refine zl hE (f_load rfl scal_3 (hI.seg 0 rfl) rfl) ?_; clear hE a; intro a hE
    refine zs hE (f_build (vs := [(4, _), (5, _), (6, _)]) (l := [_, _, _, _, _, _, _, _, _, _]) rfl built_88 rfl) ?_; clear hE a; intro a hE
    refine l_step rfl (o_call hE rfl rfl rfl rfl ent_72 (do_spec (hI.bring 2) (hS.mono ((hD16.trans hD37).trans hD47)) hT48 (rc := ({ page := x.id, kind := 6, slot := 4 } : Rc)) ⟨_, _, rfl, (RB.nil _), (RB.nil _), ROk.of0 rfl (by simp) (by simp) (by simp) (by simp)⟩ (by omega)) ?_)
    clear hI hE a
    rintro r w h a hE; rcases h with ⟨b59, hx58, rfl, D60, s65, hD61, hT62, hI⟩ | ⟨c63, o64, hx58, rfl, D66, s69, hD67, hT68, hI⟩
    ·skip
     replace hI := hI.put_back 2
     try simp only [nrm, Value.cells] at hI
     have hext_hx58 := (doR_ext hx58).1
     have hlen_hx58 := (doR_ext hx58).2
     refine za hE ?_; clear hE a; intro a hE
     refine wnt ?_
     refine wsr ?_
     refine zm hE ?_; clear hE a; intro a hE
     refine zs hE (p_ifaceNil Tryd.underlying25 rfl rfl rfl) ?_; clear hE a; intro a hE
     refine wnt ?_
     refine c_false hE rfl ?_
     refine wp_skip ?_
     refine then_normal ?_
     refine wp_seq ?_
     refine wsr ?_
     refine zs hE (p_fieldAddr (m := 2) rfl fo_83_2 rfl) ?_; clear hE a; intro a hE
     refine zl hE (f_load rfl scal_3 (hI.seg 0 rfl) rfl) ?_; clear hE a; intro a hE
     refine l_step rfl (o_cmp hE rfl rfl rfl rfl rfl rfl ?_ ?_)
     ·intro hlv2; replace hlv2 := eql_t hlv2; clear hE a; intro a hE
      refine wnt ?_
      refine c_true hE rfl ?_
      refine wsr ?_
      refine zm hE ?_; clear hE a; intro a hE
      refine zs hE (p_fieldAddr (m := 0) rfl fo_83_0 rfl) ?_; clear hE a; intro a hE
      refine zl hE (f_load rfl scal_3 (hI.seg 0 rfl) rfl) ?_; clear hE a; intro a hE
      refine zm hE ?_; clear hE a; intro a hE
      refine zs hE (f_build (vs := [(4, _), (5, _), (6, _)]) (l := [_, _, _, _, _, _, _, _, _, _]) rfl built_88 rfl) ?_; clear hE a; intro a hE
      refine l_step rfl (o_call hE rfl rfl rfl rfl ent_72 (do_spec (hI.bring 2) (hS.mono (((hD16.trans hD37).trans hD47).trans hD61)) hT62 (rc := ({ page := x.id, kind := 5, slot := t27 } : Rc)) ⟨_, _, rfl, (RB.nil _), (RB.nil _), ROk.of0 rfl (by show 0 ≤ t27; omega) (by show t27 ≤ _; omega) (by simp) (by simp)⟩ (by omega)) ?_)
      clear hI hE a
      rintro r w h a hE; rcases h with ⟨b73, hx72, rfl, D74, s79, hD75, hT76, hI⟩ | ⟨c77, o78, hx72, rfl, D80, s83, hD81, hT82, hI⟩
      ·skip
       replace hI := hI.put_back 2
       try simp only [nrm, Value.cells] at hI
       have hext_hx72 := (doR_ext hx72).1
       have hlen_hx72 := (doR_ext hx72).2
       refine za hE ?_; clear hE a; intro a hE
       refine wnt ?_
       refine wsr ?_
       refine zm hE ?_; clear hE a; intro a hE
       refine zs hE (p_ifaceNil Tryd.underlying25 rfl rfl rfl) ?_; clear hE a; intro a hE
       refine wnt ?_
       refine c_false hE rfl ?_
       refine wp_skip ?_
       refine then_normal ?_
       refine wp_seq ?_
       refine d_start [9] [] (by kernel_rfl) hI rfl rfl ?_
       clear hI w; intro w hI
       refine dp 0 hE rfl (p_move rfl) (fun _ => hI) (listed' := #[true, false, false, false, false, false, false, false, false, false, false]) ?_; clear hE a; intro a hE
       refine dp 1 hE rfl (p_fieldAddr (m := 0) rfl fo_83_0 rfl) (fun _ => hI) ?_; clear hE a; intro a hE
       refine dl 2 hE rfl (fun w hS => f_load rfl scal_3 (Inv.seg 1 hS rfl) rfl) (hI) ?_; clear hE a; intro a hE
       refine dp 3 hE rfl (p_move rfl) (fun _ => hI) ?_; clear hE a; intro a hE
       refine dp 4 hE rfl (p_arith (z := k + 1) rfl rfl (add_z rfl (by omega) (by omega))) (fun _ => hI) ?_; clear hE a; intro a hE
       refine dp 5 hE rfl (p_move rfl) (fun _ => hI) ?_; clear hE a; intro a hE
       refine dp 6 hE rfl (p_move rfl) (fun _ => hI) ?_; clear hE a; intro a hE
       refine do1 7 hE rfl ?_
       refine o_call hE rfl rfl rfl rfl ent_123 (two_data hI t27) ?_
       clear hI hE a
       rintro r w ⟨D86, hD87, hI, hb88⟩ a hE
       obtain ⟨A89, c90, rfl, _⟩ := hb88.slice
       refine ⟨fun _ => (Inv.weaken hI hD87), ?_⟩
       refine dp 8 hE rfl (f_build (vs := [(4, _), (5, _), (6, _), (7, _), (8, _)]) (l := [_, _, _, _, _, _, _, _, _, _]) rfl built_88 rfl) (fun _ => (Inv.weaken hI hD87)) ?_; clear hE a; intro a hE
       refine do1 9 hE rfl ?_
       refine o_call hE rfl rfl rfl rfl ent_72 (do_spec (hI.bring 2) (hS.mono (((((hD16.trans hD37).trans hD47).trans hD61).trans hD75).trans hD87)) (hT76.mono hD87) (rc := ({ page := p.id, kind := 2, slot := k + 1, key := x_31.1, val := twoB t27 } : Rc)) ⟨_, _, rfl, (hb38.mono (((hD47.trans hD61).trans hD75).trans hD87)), hb88, ROk.of0 rfl (by show 0 ≤ k + 1; omega) (by show k + 1 ≤ _; omega) hok_31.1 (by simp [twoB])⟩ (by omega)) ?_
       clear hI hE a
       rintro r w h a hE; rcases h with ⟨b92, hx91, rfl, D93, s98, hD94, hT95, hI⟩ | ⟨c96, o97, hx91, rfl, D99, s102, hD100, hT101, hI⟩
       ·skip
        replace hI := hI.put_back 2
        try simp only [nrm, Value.cells] at hI
        have hext_hx91 := (doR_ext hx91).1
        have hlen_hx91 := (doR_ext hx91).2
        refine ⟨nl, ?_⟩
        refine dp 10 hE rfl (p_assign rfl) nl ?_; clear hE a; intro a hE
        refine d_done (by kernel_rfl) ?_
        refine then_normal ?_
        refine wp_ret ?_
        refine ret1 rfl hE rfl ?_
        replace hI := hI.erase 1
        replace hI := hI.erase 0
        have hgd : x.ents.getD 4 ([], []) = x_31 := by rw [List.getD_eq_getElem?_getD, hx_31]; rfl
        exact .inl ⟨_, by simp only [Bt.split, hx13, hx44, hx58, hx72, hx91, eq_true (show x.level = 0 by omega), hgd, ite_true, ite_false, if_true, if_false], rfl, _, _, ((((((hD16.trans hD37).trans hD47).trans hD61).trans hD75).trans hD87).trans hD94), hT95, hI⟩
       replace hI := hI.put_back 2
       try simp only [nrm, Value.cells] at hI
       refine ⟨nl, ?_⟩
       refine dp 10 hE rfl (p_assign rfl) nl ?_; clear hE a; intro a hE
       refine d_done (by kernel_rfl) ?_
       refine then_normal ?_
       refine wp_ret ?_
       refine ret1 rfl hE rfl ?_
       replace hI := hI.erase 1
       replace hI := hI.erase 0
       have hgd : x.ents.getD 4 ([], []) = x_31 := by rw [List.getD_eq_getElem?_getD, hx_31]; rfl
       exact .inr ⟨_, _, by simp only [Bt.split, hx13, hx44, hx58, hx72, hx91, eq_true (show x.level = 0 by omega), hgd, ite_true, ite_false, if_true, if_false], rfl, _, _, _, (hext_hx13.trans (hext_hx44.trans (hext_hx58.trans hext_hx72))), ((((((hD16.trans hD37).trans hD47).trans hD61).trans hD75).trans hD87).trans hD100), hT101, hI⟩
      replace hI := hI.put_back 2
      try simp only [nrm, Value.cells] at hI
      refine za hE ?_; clear hE a; intro a hE
      refine wnt ?_
      refine wsr ?_
      refine zm hE ?_; clear hE a; intro a hE
      refine zs hE (p_ifaceNil Tryd.underlying25 rfl rfl rfl) ?_; clear hE a; intro a hE
      refine wnt ?_
      refine c_true hE rfl ?_
      refine wsr ?_
      refine zm hE ?_; clear hE a; intro a hE
      refine za hE ?_; clear hE a; intro a hE
      refine wnt ?_
      refine wp_ret ?_
      refine then_ret ?_
      refine ret1 rfl hE rfl ?_
      replace hI := hI.erase 1
      replace hI := hI.erase 0
      have hgd : x.ents.getD 4 ([], []) = x_31 := by rw [List.getD_eq_getElem?_getD, hx_31]; rfl
      exact .inr ⟨_, _, by simp only [Bt.split, hx13, hx44, hx58, hx72, eq_true (show x.level = 0 by omega), hgd, ite_true, ite_false, if_true, if_false], rfl, _, _, _, (hext_hx13.trans (hext_hx44.trans hext_hx58)), ((((hD16.trans hD37).trans hD47).trans hD61).trans hD81), hT82, hI⟩
     intro hlv2; replace hlv2 := eql_f hlv2; clear hE a; intro a hE
     exfalso; omega
    replace hI := hI.put_back 2
    try simp only [nrm, Value.cells] at hI
    refine za hE ?_; clear hE a; intro a hE
    refine wnt ?_
    refine wsr ?_
    refine zm hE ?_; clear hE a; intro a hE
    refine zs hE (p_ifaceNil Tryd.underlying25 rfl rfl rfl) ?_; clear hE a; intro a hE
    refine wnt ?_
    refine c_true hE rfl ?_
    refine wsr ?_
    refine zm hE ?_; clear hE a; intro a hE
    refine za hE ?_; clear hE a; intro a hE
    refine wnt ?_
    refine wp_ret ?_
    refine then_ret ?_
    refine ret1 rfl hE rfl ?_
    replace hI := hI.erase 1
    replace hI := hI.erase 0
    have hgd : x.ents.getD 4 ([], []) = x_31 := by rw [List.getD_eq_getElem?_getD, hx_31]; rfl
    exact .inr ⟨_, _, by simp only [Bt.split, hx13, hx44, hx58, eq_true (show x.level = 0 by omega), hgd, ite_true, ite_false, if_true, if_false], rfl, _, _, _, (hext_hx13.trans hext_hx44), (((hD16.trans hD37).trans hD47).trans hD67), hT68, hI⟩
   replace hI := hI.put_back 2
   try simp only [nrm, Value.cells] at hI
   refine ⟨nl, ?_⟩
   refine dp 9 hE rfl (p_assign rfl) nl ?_; clear hE a; intro a hE
   refine d_done (by kernel_rfl) ?_
   refine then_normal ?_
   refine wsr ?_
   refine zm hE ?_; clear hE a; intro a hE
   refine zs hE (p_ifaceNil Tryd.underlying25 rfl rfl rfl) ?_; clear hE a; intro a hE
   refine wnt ?_
   refine c_true hE rfl ?_
   refine wsr ?_
   refine zm hE ?_; clear hE a; intro a hE
   refine za hE ?_; clear hE a; intro a hE
   refine wnt ?_
   refine wp_ret ?_
   refine then_ret ?_
   refine ret1 rfl hE rfl ?_
   replace hI := hI.erase 1
   replace hI := hI.erase 0
   have hgd : x.ents.getD 4 ([], []) = x_31 := by rw [List.getD_eq_getElem?_getD, hx_31]; rfl
   exact .inr ⟨_, _, by simp only [Bt.split, hx13, hx44, eq_true (show x.level = 0 by omega), hgd, ite_true, ite_false, if_true, if_false], rfl, _, _, _, (hext_hx13.trans hext57), ((hD16.trans hD37).trans hD53), hT54, hI⟩
  intro hlv; replace hlv := eql_f hlv; clear hE a; intro a hE
  refine wnt ?_
  refine c_false hE rfl ?_
  refine wp_skip ?_
  refine then_normal ?_
  refine wp_seq ?_
  refine wp_seq ?_
  refine d_start [8] [] (by kernel_rfl) hI rfl rfl ?_
  clear hI w; intro w hI
  refine dp 0 hE rfl (p_move rfl) (fun _ => hI) (listed' := #[true, false, false, false, false, false, false, false, false, false]) ?_; clear hE a; intro a hE
  refine dp 1 hE rfl (p_move rfl) (fun _ => hI) ?_; clear hE a; intro a hE
  refine dp 2 hE rfl (p_fieldAddr (m := 2) rfl fo_83_2 rfl) (fun _ => hI) ?_; clear hE a; intro a hE
  refine dl 3 hE rfl (fun w hS => f_load rfl scal_3 (Inv.seg 0 hS rfl) rfl) (hI) ?_; clear hE a; intro a hE
  refine dp 4 hE rfl (p_fieldAddr (m := 4) rfl fo_83_4 rfl) (fun _ => hI) ?_; clear hE a; intro a hE
  refine dl 5 hE rfl (fun w hS => f_load rfl scal_65 (Inv.seg 0 hS rfl) rfl) (hI) ?_; clear hE a; intro a hE
  have hc105 := DR.cut (l := 4) (h := (x.ents).length) he7 (by omega) (by omega)
  refine dp 6 hE rfl (p_sliceL (l := 4) (h := (x.ents).length) rfl Tryd.underlying65 sz_69 (lo_at rfl (by omega) (by omega)) rfl (by omega) (by omega)) (fun _ => hI) ?_; clear hE a; intro a hE
  refine dp 7 hE rfl (p_move rfl) (fun _ => hI) ?_; clear hE a; intro a hE
  refine do1 8 hE rfl ?_
  refine o_call hE rfl rfl rfl rfl ent_126 (fill_spec (hI.bring 2) (hS.mono (hD16.trans hD37)) (hT17.mono hD37) (l := x.ents.drop 4) (drop4 (DR.mono EnR.keeps hc105 (hD16.trans hD37)) rfl) t27 (level := x.level) (next := -1) (by simp only [List.length_drop]; omega) (by omega) (by omega) (by omega) (by omega) (by omega)) ?_
  clear hI hE a
  rintro r w h a hE; rcases h with ⟨b109, hx108, rfl, D110, s115, hD111, hT112, hI⟩ | ⟨c113, o114, hx108, rfl, b120, D116, s119, hext121, hD117, hT118, hI⟩
  ·skip
   replace hI := hI.put_back 2
   try simp only [nrm, Value.cells] at hI
   have hext_hx108 := (fill_ext hx108).1
   have hlen_hx108 := (fill_ext hx108).2
   simp only [List.length_take, List.length_drop] at hlen_hx108
   refine ⟨nl, ?_⟩
   refine dp 9 hE rfl (p_assign rfl) nl ?_; clear hE a; intro a hE
   refine d_done (by kernel_rfl) ?_
   refine then_normal ?_
   refine wsr ?_
   refine zm hE ?_; clear hE a; intro a hE
   refine zs hE (p_ifaceNil Tryd.underlying25 rfl rfl rfl) ?_; clear hE a; intro a hE
   refine wnt ?_
   refine c_false hE rfl ?_
   refine wp_skip ?_
   refine then_normal ?_
   refine wp_seq ?_
   refine wsr ?_
   refine zm hE ?_; clear hE a; intro a hE
   refine zs hE (p_fieldAddr (m := 0) rfl fo_83_0 rfl) ?_; clear hE a; intro a hE
   refine zl hE (f_load rfl scal_3 (hI.seg 0 rfl) rfl) ?_; clear hE a; intro a hE
   refine zs hE (f_build (vs := [(4, _), (5, _), (6, _)]) (l := [_, _, _, _, _, _, _, _, _, _]) rfl built_88 rfl) ?_; clear hE a; intro a hE
   refine l_step rfl (o_call hE rfl rfl rfl rfl ent_72 (do_spec (hI.bring 2) (hS.mono ((hD16.trans hD37).trans hD111)) hT112 (rc := ({ page := x.id, kind := 6, slot := 4 } : Rc)) ⟨_, _, rfl, (RB.nil _), (RB.nil _), ROk.of0 rfl (by simp) (by simp) (by simp) (by simp)⟩ (by omega)) ?_)
   clear hI hE a
   rintro r w h a hE; rcases h with ⟨b123, hx122, rfl, D124, s129, hD125, hT126, hI⟩ | ⟨c127, o128, hx122, rfl, D130, s133, hD131, hT132, hI⟩
   ·skip
    replace hI := hI.put_back 2
    try simp only [nrm, Value.cells] at hI
    have hext_hx122 := (doR_ext hx122).1
    have hlen_hx122 := (doR_ext hx122).2
    refine za hE ?_; clear hE a; intro a hE
    refine wnt ?_
    refine wsr ?_
    refine zm hE ?_; clear hE a; intro a hE
    refine zs hE (p_ifaceNil Tryd.underlying25 rfl rfl rfl) ?_; clear hE a; intro a hE
    refine wnt ?_
    refine c_false hE rfl ?_
    refine wp_skip ?_
    refine then_normal ?_
    refine wp_seq ?_
    refine wsr ?_
    refine zs hE (p_fieldAddr (m := 2) rfl fo_83_2 rfl) ?_; clear hE a; intro a hE
    refine zl hE (f_load rfl scal_3 (hI.seg 0 rfl) rfl) ?_; clear hE a; intro a hE
    refine l_step rfl (o_cmp hE rfl rfl rfl rfl rfl rfl ?_ ?_)
    ·intro hlv2; replace hlv2 := eql_t hlv2; clear hE a; intro a hE
     exfalso; omega
    intro hlv2; replace hlv2 := eql_f hlv2; clear hE a; intro a hE
    refine wnt ?_
    refine c_false hE rfl ?_
    refine wp_skip ?_
    refine then_normal ?_
    refine wp_seq ?_
    refine d_start [9] [] (by kernel_rfl) hI rfl rfl ?_
    clear hI w; intro w hI
    refine dp 0 hE rfl (p_move rfl) (fun _ => hI) (listed' := #[true, false, false, false, false, false, false, false, false, false, false]) ?_; clear hE a; intro a hE
    refine dp 1 hE rfl (p_fieldAddr (m := 0) rfl fo_83_0 rfl) (fun _ => hI) ?_; clear hE a; intro a hE
    refine dl 2 hE rfl (fun w hS => f_load rfl scal_3 (Inv.seg 1 hS rfl) rfl) (hI) ?_; clear hE a; intro a hE
    refine dp 3 hE rfl (p_move rfl) (fun _ => hI) ?_; clear hE a; intro a hE
    refine dp 4 hE rfl (p_arith (z := k + 1) rfl rfl (add_z rfl (by omega) (by omega))) (fun _ => hI) ?_; clear hE a; intro a hE
    refine dp 5 hE rfl (p_move rfl) (fun _ => hI) ?_; clear hE a; intro a hE
    refine dp 6 hE rfl (p_move rfl) (fun _ => hI) ?_; clear hE a; intro a hE
    refine do1 7 hE rfl ?_
    refine o_call hE rfl rfl rfl rfl ent_123 (two_data hI t27) ?_
    clear hI hE a
    rintro r w ⟨D136, hD137, hI, hb138⟩ a hE
    obtain ⟨A139, c140, rfl, _⟩ := hb138.slice
    refine ⟨fun _ => (Inv.weaken hI hD137), ?_⟩
    refine dp 8 hE rfl (f_build (vs := [(4, _), (5, _), (6, _), (7, _), (8, _)]) (l := [_, _, _, _, _, _, _, _, _, _]) rfl built_88 rfl) (fun _ => (Inv.weaken hI hD137)) ?_; clear hE a; intro a hE
    refine do1 9 hE rfl ?_
    refine o_call hE rfl rfl rfl rfl ent_72 (do_spec (hI.bring 2) (hS.mono ((((hD16.trans hD37).trans hD111).trans hD125).trans hD137)) (hT126.mono hD137) (rc := ({ page := p.id, kind := 2, slot := k + 1, key := x_31.1, val := twoB t27 } : Rc)) ⟨_, _, rfl, (hb38.mono ((hD111.trans hD125).trans hD137)), hb138, ROk.of0 rfl (by show 0 ≤ k + 1; omega) (by show k + 1 ≤ _; omega) hok_31.1 (by simp [twoB])⟩ (by omega)) ?_
    clear hI hE a
    rintro r w h a hE; rcases h with ⟨b142, hx141, rfl, D143, s148, hD144, hT145, hI⟩ | ⟨c146, o147, hx141, rfl, D149, s152, hD150, hT151, hI⟩
    ·skip
     replace hI := hI.put_back 2
     try simp only [nrm, Value.cells] at hI
     have hext_hx141 := (doR_ext hx141).1
     have hlen_hx141 := (doR_ext hx141).2
     refine ⟨nl, ?_⟩
     refine dp 10 hE rfl (p_assign rfl) nl ?_; clear hE a; intro a hE
     refine d_done (by kernel_rfl) ?_
     refine then_normal ?_
     refine wp_ret ?_
     refine ret1 rfl hE rfl ?_
     replace hI := hI.erase 1
     replace hI := hI.erase 0
     have hgd : x.ents.getD 4 ([], []) = x_31 := by rw [List.getD_eq_getElem?_getD, hx_31]; rfl
     exact .inl ⟨_, by simp only [Bt.split, hx13, hx108, hx122, hx141, eq_false (show ¬ (x.level = 0) by omega), hgd, ite_true, ite_false, if_true, if_false], rfl, _, _, (((((hD16.trans hD37).trans hD111).trans hD125).trans hD137).trans hD144), hT145, hI⟩
    replace hI := hI.put_back 2
    try simp only [nrm, Value.cells] at hI
    refine ⟨nl, ?_⟩
    refine dp 10 hE rfl (p_assign rfl) nl ?_; clear hE a; intro a hE
    refine d_done (by kernel_rfl) ?_
    refine then_normal ?_
    refine wp_ret ?_
    refine ret1 rfl hE rfl ?_
    replace hI := hI.erase 1
    replace hI := hI.erase 0
    have hgd : x.ents.getD 4 ([], []) = x_31 := by rw [List.getD_eq_getElem?_getD, hx_31]; rfl
    exact .inr ⟨_, _, by simp only [Bt.split, hx13, hx108, hx122, hx141, eq_false (show ¬ (x.level = 0) by omega), hgd, ite_true, ite_false, if_true, if_false], rfl, _, _, _, (hext_hx13.trans (hext_hx108.trans hext_hx122)), (((((hD16.trans hD37).trans hD111).trans hD125).trans hD137).trans hD150), hT151, hI⟩
   replace hI := hI.put_back 2
   try simp only [nrm, Value.cells] at hI
   refine za hE ?_; clear hE a; intro a hE
   refine wnt ?_
   refine wsr ?_
   refine zm hE ?_; clear hE a; intro a hE
   refine zs hE (p_ifaceNil Tryd.underlying25 rfl rfl rfl) ?_; clear hE a; intro a hE
   refine wnt ?_
   refine c_true hE rfl ?_
   refine wsr ?_
   refine zm hE ?_; clear hE a; intro a hE
   refine za hE ?_; clear hE a; intro a hE
   refine wnt ?_
   refine wp_ret ?_
   refine then_ret ?_
   refine ret1 rfl hE rfl ?_
   replace hI := hI.erase 1
   replace hI := hI.erase 0
   have hgd : x.ents.getD 4 ([], []) = x_31 := by rw [List.getD_eq_getElem?_getD, hx_31]; rfl
   exact .inr ⟨_, _, by simp only [Bt.split, hx13, hx108, hx122, eq_false (show ¬ (x.level = 0) by omega), hgd, ite_true, ite_false, if_true, if_false], rfl, _, _, _, (hext_hx13.trans hext_hx108), (((hD16.trans hD37).trans hD111).trans hD131), hT132, hI⟩
  replace hI := hI.put_back 2
  try simp only [nrm, Value.cells] at hI
  refine ⟨nl, ?_⟩
  refine dp 9 hE rfl (p_assign rfl) nl ?_; clear hE a; intro a hE
  refine d_done (by kernel_rfl) ?_
  refine then_normal ?_
  refine wsr ?_
  refine zm hE ?_; clear hE a; intro a hE
  refine zs hE (p_ifaceNil Tryd.underlying25 rfl rfl rfl) ?_; clear hE a; intro a hE
  refine wnt ?_
  refine c_true hE rfl ?_
  refine wsr ?_
  refine zm hE ?_; clear hE a; intro a hE
  refine za hE ?_; clear hE a; intro a hE
  refine wnt ?_
  refine wp_ret ?_
  refine then_ret ?_
  refine ret1 rfl hE rfl ?_
  replace hI := hI.erase 1
  replace hI := hI.erase 0
  have hgd : x.ents.getD 4 ([], []) = x_31 := by rw [List.getD_eq_getElem?_getD, hx_31]; rfl
  exact .inr ⟨_, _, by simp only [Bt.split, hx13, hx108, eq_false (show ¬ (x.level = 0) by omega), hgd, ite_true, ite_false, if_true, if_false], rfl, _, _, _, (hext_hx13.trans hext121), ((hD16.trans hD37).trans hD117), hT118, hI⟩
 replace hI := hI.put_back 2
 try simp only [nrm, Value.cells] at hI
 refine zm hE ?_; clear hE a; intro a hE
 refine zx hE ?_; clear hE a; intro a hE
 refine zx hE ?_; clear hE a; intro a hE
 refine za hE ?_; clear hE a; intro a hE
 refine za hE ?_; clear hE a; intro a hE
 refine wnt ?_
 refine wp_seq ?_
 refine wsr ?_
 refine zm hE ?_; clear hE a; intro a hE
 refine zs hE (p_ifaceNil Tryd.underlying25 rfl rfl rfl) ?_; clear hE a; intro a hE
 refine wnt ?_
 refine c_true hE rfl ?_
 refine wsr ?_
 refine zm hE ?_; clear hE a; intro a hE
 refine za hE ?_; clear hE a; intro a hE
 refine wnt ?_
 refine wp_ret ?_
 refine then_ret ?_
 refine ret1 rfl hE rfl ?_
 replace hI := hI.erase 1
 replace hI := hI.erase 0
 exact .inr ⟨_, _, by simp only [Bt.split, hx13, ite_true, ite_false, if_true, if_false], rfl, _, _, _, (Ext.refl _), hD22, hT23, hI⟩
end Go.Proofs.YtbogbnkckofpdaaDoor.B
