/- What functions of the program compute, each function once: steps over the model, and the plain law of it. -/
import Derived.Test.YtbogbnkckofpdaaDoorTPage4
import Derived.Test.YtbogbnkckofpdaaDoorTPool
namespace Go.Proofs.YtbogbnkckofpdaaDoor.B
open Go Go.Proofs
set_option linter.unusedVariables false
set_option linter.unusedSimpArgs false
set_option maxRecDepth 20000
set_option maxHeartbeats 8000000
namespace FTPool2
theorem agg_83 : aggSize Tryd.prog 83 = some 5 := by kernel_rfl
theorem agg_88 : aggSize Tryd.prog 88 = some 10 := by kernel_rfl
theorem built_83 : ∀ vs, Tryd.prog.built 83 vs = Instr.fill (([(0, 1), (1, 1), (2, 1), (3, 1), (4, 1)] : List (Nat × Nat)).toArray[·]?) ([.int .i64 0, .int .i64 0, .int .i64 0, .int .i64 0, .slice none 0 0] : List Value).toArray vs := fun _ => by kernel_rfl
theorem ent_91 : enters Tryd.prog 91 = true := by kernel_rfl
theorem ent_92 : enters Tryd.prog 92 = true := by kernel_rfl
theorem ent_93 : enters Tryd.prog 93 = true := by kernel_rfl
theorem ent_94 : enters Tryd.prog 94 = true := by kernel_rfl
theorem fo_145_0 : fieldOff Tryd.prog 145 0 = some 0 := by kernel_rfl
theorem fo_145_1 : fieldOff Tryd.prog 145 1 = some 1 := by kernel_rfl
theorem fo_88_4 : fieldOff Tryd.prog 88 4 = some 4 := by kernel_rfl
theorem fo_88_5 : fieldOff Tryd.prog 88 5 = some 5 := by kernel_rfl
theorem ik_118 : intKeyed Tryd.prog 118 = some 83 := by kernel_rfl
theorem ik_139 : intKeyed Tryd.prog 139 = some 4 := by kernel_rfl
theorem scal_118 : isScal Tryd.prog 118 = true := by kernel_rfl
theorem scal_139 : isScal Tryd.prog 139 = true := by kernel_rfl
theorem scal_3 : isScal Tryd.prog 3 = true := by kernel_rfl
theorem sz_83 : (Tryd.prog.info? 83).map (·.size) = some 5 := by kernel_rfl
theorem zer_83 : (Tryd.prog.info? 83).bind (·.zero) = some (.agg #[.int .i64 0, .int .i64 0, .int .i64 0, .int .i64 0, .slice none 0 0]) := by kernel_rfl
end FTPool2
open FTPool2
theorem putM_hit {m : List (Int × Value)} {k : Int} {v u : Value} (h : getM m k = some u) : (putM m k v).length = m.length := by
 have h1 : k ∈ m.map (·.1) := List.mem_map_of_mem (getM_mem h)
 have := congrArg List.length (putM_keys m k v)
 rw [if_pos h1] at this; simpa using this
theorem putM_miss {m : List (Int × Value)} {k : Int} {v : Value} (h : getM m k = none) : (putM m k v).length = m.length + 1 := by
 have := congrArg List.length (putM_keys m k v)
 rw [if_neg (getM_none.1 h)] at this; simpa using this
theorem delM_keys (m : List (Int × Value)) (k : Int) : (delM m k).map (·.1) = (m.map (·.1)).filter fun j => decide (j ≠ k) := by
 rw [List.filter_map]; rfl
def zPg : Value := .agg #[.int .i64 0, .int .i64 0, .int .i64 0, .int .i64 0, .slice none 0 0]
theorem MapD.congr {D : Sto} {m : List (Int × Value)} {f g : Int → Option Pg} (h : MapD D m f) (e : f = g) : MapD D m g := e ▸ h
theorem Get_spec {w0 w : World} {D : Sto} {ss : List Seg} {s : Seg} {vp : Value} {P : Pl} (hI : Inv w0 D (s :: ss) w) (hP : PoolS D vp P s) (id : Int) (h0 : 0 ≤ id) (h1 : id < 256) :
  Calls Tryd.prog 46 #[vp, .int .i64 id] w (Ret fun r w' => (∃ p, ∃ hp9 : P.f id = some p, ∃ D' e, Le D D' ∧ r = .tuple #[.agg (pgCells p e).toArray, .bool true] ∧ EnD D' e p.ents ∧ POk p ∧ Inv w0 D' (s :: ss) w' ∧ PoolS D' vp P s) ∨ (P.f id = none ∧ ∃ s', r = .tuple #[zPg, .bool false] ∧ PoolS D vp (P.want id) s' ∧ Inv w0 D (s' :: ss) w')) := by
 obtain ⟨bp, bl, bw, esl, clkl, ml, esw, clkw, mw, rfl, rfl, hml, hMl, hnl, hmw, hww⟩ := hP
 replace hI : Inv w0 D ([(bp, .cells #[.map (some bl), .map (some bw)] 145 (0, 0))] :: [(bl, .map esl clkl)] :: [(bw, .map esw clkw)] :: ss) w := hI.perm (List.Perm.refl _)
 refine enter (N := 33) Tryd.func46 rfl rfl rfl ?_
 intro a hE
 refine wsr ?_
 refine l_step rfl (f_alloc (cs := #[.int .i64 0, .int .i64 0, .int .i64 0, .int .i64 0, .slice none 0 0]) hE hI rfl rfl rfl zer_83 rfl ?_)
 clear hI hE a w; intro a b1 w hE hI
 refine za hE ?_; clear hE a; intro a hE
 refine wnt ?_
 refine wp_seq ?_
 obtain ⟨o2, hf_2⟩ : ∃ o, P.f id = o := ⟨_, rfl⟩
 rcases o2 with _ | p_2
 ·skip
  refine wp_region_list ?_
  refine zm hE ?_; clear hE a; intro a hE
  refine zs hE (p_nilCheck rfl) ?_; clear hE a; intro a hE
  refine zs hE (p_fieldAddr (m := 0) rfl fo_145_0 rfl) ?_; clear hE a; intro a hE
  refine zl hE (f_load rfl scal_118 (hI.seg 1 rfl) rfl) ?_; clear hE a; intro a hE
  refine zm hE ?_; clear hE a; intro a hE
  refine zl hE (r_lookupN rfl rfl ik_118 zer_83 (hI.seg 2 rfl) hml (MapD.none hMl hf_2)) ?_; clear hE a; intro a hE
  refine zm hE ?_; clear hE a; intro a hE
  refine zx hE ?_; clear hE a; intro a hE
  refine zx hE ?_; clear hE a; intro a hE
  refine l_step rfl (f_alloc (cs := #[.int .i64 0, .int .i64 0, .int .i64 0, .int .i64 0, .slice none 0 0]) hE hI rfl rfl rfl zer_83 rfl ?_)
  clear hI hE a w; intro a b3 w hE hI
  refine l_step rfl (f_store (l := [_, _, _, _, _]) (ss' := _ :: _) 0 hE hI rfl rfl rfl rfl rfl sz_83 (by simp [Value.cells, Value.oneCell', pgCells, rcCells]) rfl rfl rfl ?_)
  clear hI w; intro w hI
  refine za hE ?_; clear hE a; intro a hE
  refine wnt ?_
  refine wp_seq ?_
  refine wsr ?_
  refine zm hE ?_; clear hE a; intro a hE
  refine zs hE (p_not rfl) ?_; clear hE a; intro a hE
  refine wnt ?_
  refine c_true hE rfl ?_
  refine wp_seq ?_
  refine wsr ?_
  refine zm hE ?_; clear hE a; intro a hE
  refine zs hE (p_cmp rfl rfl (geq_y (by omega))) ?_; clear hE a; intro a hE
  refine zm hE ?_; clear hE a; intro a hE
  refine gs hE (p_move rfl) ?_; clear hE a; intro a hE
  refine gs hE (p_cmp rfl rfl (lss_y (by omega))) ?_; clear hE a; intro a hE
  refine zs hE (p_pick (b := true) rfl rfl) ?_; clear hE a; intro a hE
  refine wnt ?_
  refine c_true hE rfl ?_
  refine wp_region_list ?_
  refine zm hE ?_; clear hE a; intro a hE
  refine zs hE (p_nilCheck rfl) ?_; clear hE a; intro a hE
  refine zs hE (p_fieldAddr (m := 1) rfl fo_145_1 rfl) ?_; clear hE a; intro a hE
  refine zl hE (f_load rfl scal_139 (hI.seg 2 rfl) rfl) ?_; clear hE a; intro a hE
  refine zm hE ?_; clear hE a; intro a hE
  refine l_step rfl (o_mapUpdate 4 hE hI rfl (.inl rfl) rfl rfl rfl ik_139 rfl hmw ?_)
  clear hI w; intro es_4 clk_4 w hm_4 hI
  refine wnt ?_
  refine wsr ?_
  refine zs hE (f_build (vs := []) (l := [_, _, _, _, _]) rfl built_83 rfl) ?_; clear hE a; intro a hE
  refine l_step rfl (f_store (l := [_, _, _, _, _]) (ss' := _ :: _ :: _) 1 hE hI rfl rfl rfl rfl rfl sz_83 (by simp [Value.cells, Value.oneCell', pgCells, rcCells]) rfl rfl rfl ?_)
  clear hI w; intro w hI
  refine za hE ?_; clear hE a; intro a hE
  refine wnt ?_
  refine wp_ret ?_
  refine then_ret ?_
  refine retc2 rfl hE rfl agg_83 (hI.seg 1 rfl) rfl rfl ?_
  replace hI := hI.erase 1
  replace hI := hI.erase 0
  replace hI := hI.bring 2
  replace hI := hI.bring 2
  replace hI := hI.bring 2
  exact .inr ⟨hf_2, _, rfl, ⟨bp, bl, bw, _, _, _, _, _, _, rfl, rfl, hml, hMl, hnl, hm_4, by rw [putM_keys, hww]; rfl⟩, hI.perm (List.Perm.refl _)⟩
 obtain ⟨e_2, hg_2, he_2, ho_2⟩ := MapD.some hMl hf_2
 have hlen_p_2 := ho_2.len
 obtain ⟨A5, c6, rfl, _⟩ := he_2.slice
 refine wp_region_list ?_
 refine zm hE ?_; clear hE a; intro a hE
 refine zs hE (p_nilCheck rfl) ?_; clear hE a; intro a hE
 refine zs hE (p_fieldAddr (m := 0) rfl fo_145_0 rfl) ?_; clear hE a; intro a hE
 refine zl hE (f_load rfl scal_118 (hI.seg 1 rfl) rfl) ?_; clear hE a; intro a hE
 refine zm hE ?_; clear hE a; intro a hE
 refine zl hE (r_lookupY rfl rfl ik_118 zer_83 (hI.seg 2 rfl) hml hg_2) ?_; clear hE a; intro a hE
 refine zm hE ?_; clear hE a; intro a hE
 refine zx hE ?_; clear hE a; intro a hE
 refine zx hE ?_; clear hE a; intro a hE
 refine l_step rfl (f_alloc (cs := #[.int .i64 0, .int .i64 0, .int .i64 0, .int .i64 0, .slice none 0 0]) hE hI rfl rfl rfl zer_83 rfl ?_)
 clear hI hE a w; intro a b7 w hE hI
 refine l_step rfl (f_store (l := [_, _, _, _, _]) (ss' := _ :: _) 0 hE hI rfl rfl rfl rfl rfl sz_83 (by simp [Value.cells, Value.oneCell', pgCells, rcCells]) rfl rfl rfl ?_)
 clear hI w; intro w hI
 refine za hE ?_; clear hE a; intro a hE
 refine wnt ?_
 refine wp_seq ?_
 refine wsr ?_
 refine zm hE ?_; clear hE a; intro a hE
 refine zs hE (p_not rfl) ?_; clear hE a; intro a hE
 refine wnt ?_
 refine c_false hE rfl ?_
 refine wp_skip ?_
 refine then_normal ?_
 refine wsr ?_
 refine zl hE (f_loadA (vs := [_, _, _, _, _]) rfl agg_83 (hI.seg 0 rfl) rfl rfl) ?_; clear hE a; intro a hE
 refine l_step rfl (o_call hE rfl rfl rfl rfl ent_91 (PClone_spec (p := p_2) hI ⟨_, rfl, he_2, ho_2⟩) ?_)
 clear hI hE a
 rintro r w ⟨D8, s10, ve11, hD9, rfl, hO12, hI⟩ a hE
 obtain ⟨A13, c14, rfl, _⟩ := hO12.slice
 refine l_step rfl (f_store (l := [_, _, _, _, _]) (ss' := _ :: _ :: _ :: _) 2 hE hI rfl rfl rfl rfl rfl sz_83 (by simp [Value.cells, Value.oneCell', pgCells, rcCells]) rfl rfl rfl ?_)
 clear hI w; intro w hI
 refine za hE ?_; clear hE a; intro a hE
 refine wnt ?_
 refine wp_ret ?_
 refine retc2 rfl hE rfl agg_83 (hI.seg 2 rfl) rfl rfl ?_
 replace hI := hI.erase 2
 replace hI := hI.erase 1
 replace hI := hI.bring 3
 replace hI := hI.bring 3
 replace hI := hI.bring 3
 replace hI := hI.bring 3
 obtain ⟨hIz, hDz⟩ := hI.shut_at 0 rfl
 have hlz := hD9.trans hDz
 exact .inl ⟨p_2, hf_2, _, _, hlz, rfl, hO12.shut EnR.keeps hDz, ho_2, hIz.perm (List.Perm.refl _), ⟨bp, bl, bw, _, _, _, _, _, _, rfl, rfl, hml, hMl.mono hlz, hnl, hmw, hww⟩⟩
theorem PApply_spec {w0 w : World} {D : Sto} {ss : List Seg} {s : Seg} {vp : Value} {P : Pl} (hI : Inv w0 D (s :: ss) w) (hP : PoolS D vp P s) {ad : Nat → Addr} (hS : TSents D ad) {vr : Value} {rc : Rc} (hr : RcV D vr rc) :
  Calls Tryd.prog 47 #[vp, vr] w (Ret fun r w' => (∃ P', P.apply rc = some P' ∧ r = .bool true ∧ ∃ D' s', Le D D' ∧ PoolS D' vp P' s' ∧ Inv w0 D' (s' :: ss) w') ∨ (P.apply rc = none ∧ r = .bool false ∧ Inv w0 D (s :: ss) w' ∧ PoolS D vp P s)) := by
 obtain ⟨bp, bl, bw, esl, clkl, ml, esw, clkw, mw, rfl, rfl, hml, hMl, hnl, hmw, hww⟩ := hP
 replace hI : Inv w0 D ([(bp, .cells #[.map (some bl), .map (some bw)] 145 (0, 0))] :: [(bl, .map esl clkl)] :: [(bw, .map esw clkw)] :: ss) w := hI.perm (List.Perm.refl _)
 obtain ⟨k1, v2, rfl, hk3, hv4, ho5⟩ := hr
 obtain ⟨A6, c7, rfl, _⟩ := hk3.slice
 obtain ⟨A8, c9, rfl, _⟩ := hv4.slice
 refine enter (N := 45) Tryd.func47 rfl rfl rfl ?_
 intro a hE
 refine wsr ?_
 refine l_step rfl (f_box (cs := #[_, _, _, _, _, _, _, _, _, _]) hE hI rfl rfl rfl rfl rfl ?_)
 clear hI hE a w; intro a b10 w hE hI
 refine za hE ?_; clear hE a; intro a hE
 refine wnt ?_
 refine wp_seq ?_
 obtain ⟨o11, hf_11⟩ : ∃ o, P.f rc.page = o := ⟨_, rfl⟩
 rcases o11 with _ | p_11
 ·skip
  refine d_start [] [] (by kernel_rfl) hI rfl rfl ?_
  clear hI w; intro w hI
  refine dp 0 hE rfl (p_move rfl) (fun _ => hI) (listed' := #[true, false, false, false, false, false, false, false, false, false, false, false, false]) ?_; clear hE a; intro a hE
  refine dp 1 hE rfl (p_nilCheck rfl) (fun _ => hI) ?_; clear hE a; intro a hE
  refine dp 2 hE rfl (p_fieldAddr (m := 0) rfl fo_145_0 rfl) (fun _ => hI) ?_; clear hE a; intro a hE
  refine dl 3 hE rfl (fun w hS => f_load rfl scal_118 (Inv.seg 1 hS rfl) rfl) (hI) ?_; clear hE a; intro a hE
  refine dp 4 hE rfl (p_fieldAddr (m := 4) rfl fo_88_4 rfl) (fun _ => hI) ?_; clear hE a; intro a hE
  refine dl 5 hE rfl (fun w hS => f_load rfl scal_3 (Inv.seg 0 hS rfl) rfl) (hI) ?_; clear hE a; intro a hE
  refine d_two 6 10 hE rfl rfl (by kernel_rfl) rfl rfl (listed' := #[true, true, true, true, true, true, true, false, false, false, false, false, false]) (listed'' := #[true, true, true, true, true, true, false, false, false, false, true, false, false]) rfl rfl ?_ ?_
  ·skip
   refine o_pure hE rfl rfl (r_lookupN rfl rfl ik_118 zer_83 (hI.seg 2 rfl) hml (MapD.none hMl hf_11)) ?_; clear hE a; intro a hE
   refine ⟨fun _ => hI, ?_⟩
   refine dp 7 hE rfl (p_move rfl) (fun _ => hI) ?_; clear hE a; intro a hE
   refine dp 8 hE rfl (f_extract rfl rfl) (fun _ => hI) ?_; clear hE a; intro a hE
   refine dp 9 hE rfl (f_extract rfl rfl) (fun _ => hI) ?_; clear hE a; intro a hE
   refine do1 10 hE rfl ?_
   refine f_alloc (cs := #[.int .i64 0, .int .i64 0, .int .i64 0, .int .i64 0, .slice none 0 0]) hE hI rfl rfl rfl zer_83 rfl ?_
   clear hI hE a w; intro a b12 w hE hI
   refine ⟨fun _ => (hI.dropS [0]), ?_⟩
   refine do1 11 hE rfl ?_
   refine f_store (l := [_, _, _, _, _]) (ss' := _ :: _) 0 hE hI rfl rfl rfl rfl rfl sz_83 (by simp [Value.cells, Value.oneCell', pgCells, rcCells]) rfl rfl rfl ?_
   clear hI w; intro w hI
   refine ⟨fun _ => (hI.dropS [0]), ?_⟩
   refine dp 12 hE rfl (p_assign rfl) (fun _ => (hI.dropS [0])) ?_; clear hE a; intro a hE
   refine d_done (by kernel_rfl) ?_
   refine then_normal ?_
   refine wp_seq ?_
   refine wsr ?_
   refine zm hE ?_; clear hE a; intro a hE
   refine zs hE (p_not rfl) ?_; clear hE a; intro a hE
   refine wnt ?_
   refine c_true hE rfl ?_
   refine wp_seq ?_
   refine wsr ?_
   refine zs hE (p_fieldAddr (m := 5) rfl fo_88_5 rfl) ?_; clear hE a; intro a hE
   refine zl hE (f_load rfl scal_3 (hI.seg 1 rfl) rfl) ?_; clear hE a; intro a hE
   refine l_step rfl (o_cmp hE rfl rfl rfl rfl rfl rfl ?_ ?_)
   ·intro hk1; replace hk1 := neq_t hk1; clear hE a; intro a hE
    refine zm hE ?_; clear hE a; intro a hE
    refine zk hE ?_; clear hE a; intro a hE
    refine zk hE ?_; clear hE a; intro a hE
    refine zk hE ?_; clear hE a; intro a hE
    refine zs hE (p_pick (b := true) rfl rfl) ?_; clear hE a; intro a hE
    refine wnt ?_
    refine c_true hE rfl ?_
    refine wsr ?_
    refine za hE ?_; clear hE a; intro a hE
    refine wnt ?_
    refine wp_ret ?_
    refine then_ret ?_
    refine then_ret ?_
    refine ret1 rfl hE rfl ?_
    replace hI := hI.erase 1
    replace hI := hI.erase 0
    replace hI := hI.bring 2
    replace hI := hI.bring 2
    replace hI := hI.bring 2
    exact .inr ⟨by rw [Pl.apply, hf_11]; simp only []; rw [if_neg (by rintro ⟨h1, h2⟩; first | exact hk1 h1 | (rw [hv] at h2; cases h2))], rfl, hI.perm (List.Perm.refl _), ⟨bp, bl, bw, _, _, _, _, _, _, rfl, rfl, hml, hMl, hnl, hmw, hww⟩⟩
   intro hk1; replace hk1 := neq_f hk1; clear hE a; intro a hE
   refine zm hE ?_; clear hE a; intro a hE
   refine gl hE (f_loadA (vs := [_, _, _, _, _, _, _, _, _, _]) rfl agg_88 (hI.seg 1 rfl) rfl rfl) ?_; clear hE a; intro a hE
   refine l_go hE rfl (o_call hE rfl rfl rfl rfl ent_92 (Valid_spec (rc := rc) hI hS ⟨_, _, rfl, hk3, hv4, ho5⟩) ?_)
   clear hI hE a
   rintro r w h a hE; rcases h with ⟨⟨hv, rfl⟩ | ⟨hv, c13, rfl⟩, hI⟩
   ·skip
    refine gs hE (p_ifaceNil Tryd.underlying25 rfl rfl rfl) ?_; clear hE a; intro a hE
    refine zs hE (p_pick (b := false) rfl rfl) ?_; clear hE a; intro a hE
    refine wnt ?_
    refine c_false hE rfl ?_
    refine wp_skip ?_
    refine then_normal ?_
    refine wsr ?_
    refine zs hE (p_fieldAddr (m := 4) rfl fo_88_4 rfl) ?_; clear hE a; intro a hE
    refine zl hE (f_load rfl scal_3 (hI.seg 1 rfl) rfl) ?_; clear hE a; intro a hE
    refine l_step rfl (o_call hE rfl rfl rfl rfl ent_93 (PNew_spec hI rc.page) ?_)
    clear hI hE a
    rintro r w ⟨⟨e14, rfl, he15, ho16⟩, hI⟩ a hE
    obtain ⟨A17, c18, rfl, _⟩ := he15.slice
    refine l_step rfl (f_store (l := [_, _, _, _, _]) (ss' := _ :: _) 0 hE hI rfl rfl rfl rfl rfl sz_83 (by simp [Value.cells, Value.oneCell', pgCells, rcCells]) rfl rfl rfl ?_)
    clear hI w; intro w hI
    refine wnt ?_
    refine d_start [6] [] (by kernel_rfl) hI rfl rfl ?_
    clear hI w; intro w hI
    refine dp 0 hE rfl (p_move rfl) (fun _ => hI) (listed' := #[true, false, false, false, false, false, false]) ?_; clear hE a; intro a hE
    refine dp 1 hE rfl (p_nilCheck rfl) (fun _ => hI) ?_; clear hE a; intro a hE
    refine dp 2 hE rfl (p_fieldAddr (m := 1) rfl fo_145_1 rfl) (fun _ => hI) ?_; clear hE a; intro a hE
    refine dl 3 hE rfl (fun w hS => f_load rfl scal_139 (Inv.seg 2 hS rfl) rfl) (hI) ?_; clear hE a; intro a hE
    refine dp 4 hE rfl (p_fieldAddr (m := 4) rfl fo_88_4 rfl) (fun _ => hI) ?_; clear hE a; intro a hE
    refine dl 5 hE rfl (fun w hS => f_load rfl scal_3 (Inv.seg 1 hS rfl) rfl) (hI) ?_; clear hE a; intro a hE
    refine do1 6 hE rfl ?_
    refine o_delete_ 4 hE hI rfl rfl rfl rfl rfl ik_139 rfl hmw ?_
    clear hI w; intro es_19 clk_19 w hm_19 hI
    refine ⟨nl, ?_⟩
    refine d_done (by kernel_rfl) ?_
    refine then_normal ?_
    refine wp_seq ?_
    refine d_start [9] [] (by kernel_rfl) hI rfl rfl ?_
    clear hI w; intro w hI
    refine dp 0 hE rfl (p_move rfl) (fun _ => hI) (listed' := #[true, false, false, false, false, false, false, false, false, false]) ?_; clear hE a; intro a hE
    refine dp 1 hE rfl (p_nilCheck rfl) (fun _ => hI) ?_; clear hE a; intro a hE
    refine dp 2 hE rfl (p_fieldAddr (m := 0) rfl fo_145_0 rfl) (fun _ => hI) ?_; clear hE a; intro a hE
    refine dl 3 hE rfl (fun w hS => f_load rfl scal_118 (Inv.seg 2 hS rfl) rfl) (hI) ?_; clear hE a; intro a hE
    refine dp 4 hE rfl (p_fieldAddr (m := 4) rfl fo_88_4 rfl) (fun _ => hI) ?_; clear hE a; intro a hE
    refine dl 5 hE rfl (fun w hS => f_load rfl scal_3 (Inv.seg 1 hS rfl) rfl) (hI) ?_; clear hE a; intro a hE
    refine dl 6 hE rfl (fun w hS => f_loadA (vs := [_, _, _, _, _]) rfl agg_83 (Inv.seg 0 hS rfl) rfl rfl) (hI) ?_; clear hE a; intro a hE
    refine dl 7 hE rfl (fun w hS => f_loadA (vs := [_, _, _, _, _, _, _, _, _, _]) rfl agg_88 (Inv.seg 1 hS rfl) rfl rfl) (hI) ?_; clear hE a; intro a hE
    refine do1 8 hE rfl ?_
    refine o_call hE rfl rfl rfl rfl ent_94 (Apply_spec (p := (newPg rc.page)) (rc := rc) hI ⟨_, rfl, he15, ho16⟩ ⟨_, _, rfl, hk3, hv4, ho5⟩) ?_
    clear hI hE a
    rintro r w ⟨D20, hD21, hI, ⟨e22, rfl, he23, ho24⟩⟩ a hE
    obtain ⟨A25, c26, rfl, _⟩ := he23.slice
    refine ⟨fun _ => (Inv.weaken hI hD21), ?_⟩
    refine do1 9 hE rfl ?_
    refine o_mapUpdate 3 hE hI rfl (.inl rfl) rfl rfl rfl ik_118 rfl hml ?_
    clear hI w; intro es_27 clk_27 w hm_27 hI
    refine ⟨nl, ?_⟩
    refine d_done (by kernel_rfl) ?_
    refine then_normal ?_
    refine wsr ?_
    refine za hE ?_; clear hE a; intro a hE
    refine wnt ?_
    refine wp_ret ?_
    refine ret1 rfl hE rfl ?_
    replace hI := hI.erase 1
    replace hI := hI.erase 0
    replace hI := hI.bring 2
    replace hI := hI.bring 2
    replace hI := hI.bring 2
    exact .inl ⟨(⟨fun k => if k = rc.page then some (applyP (newPg rc.page) rc) else P.f k, P.n + 1, P.wants.filter fun k => decide (k ≠ rc.page)⟩ : Pl), by rw [Pl.apply, hf_11]; simp only []; rw [if_pos ⟨hk1, hv⟩], rfl, _, _, hD21, ⟨bp, bl, bw, _, _, _, _, _, _, rfl, rfl, hm_27, (MapD.put (k := rc.page) (hMl.mono hD21) ⟨_, rfl, he23, ho24⟩), by rw [putM_miss (MapD.none hMl hf_11), hnl], hm_19, by rw [delM_keys, hww]⟩, hI.perm (List.Perm.refl _)⟩
   refine gs hE (p_ifaceNil Tryd.underlying25 rfl rfl rfl) ?_; clear hE a; intro a hE
   refine zs hE (p_pick (b := false) rfl rfl) ?_; clear hE a; intro a hE
   refine wnt ?_
   refine c_true hE rfl ?_
   refine wsr ?_
   refine za hE ?_; clear hE a; intro a hE
   refine wnt ?_
   refine wp_ret ?_
   refine then_ret ?_
   refine then_ret ?_
   refine ret1 rfl hE rfl ?_
   replace hI := hI.erase 1
   replace hI := hI.erase 0
   replace hI := hI.bring 2
   replace hI := hI.bring 2
   replace hI := hI.bring 2
   exact .inr ⟨by rw [Pl.apply, hf_11]; simp only []; rw [if_neg (by rintro ⟨h1, h2⟩; first | exact hk1 h1 | (rw [hv] at h2; cases h2))], rfl, hI.perm (List.Perm.refl _), ⟨bp, bl, bw, _, _, _, _, _, _, rfl, rfl, hml, hMl, hnl, hmw, hww⟩⟩
  refine f_alloc (cs := #[.int .i64 0, .int .i64 0, .int .i64 0, .int .i64 0, .slice none 0 0]) hE hI rfl rfl rfl zer_83 rfl ?_
  clear hI hE a w; intro a b28 w hE hI
  refine ⟨fun _ => (hI.dropS [0]), ?_⟩
  refine do1 6 hE rfl ?_
  refine o_pure hE rfl rfl (r_lookupN rfl rfl ik_118 zer_83 (hI.seg 3 rfl) hml (MapD.none hMl hf_11)) ?_; clear hE a; intro a hE
  refine ⟨fun _ => (hI.dropS [0]), ?_⟩
  refine dp 7 hE rfl (p_move rfl) (fun _ => (hI.dropS [0])) ?_; clear hE a; intro a hE
  refine dp 8 hE rfl (f_extract rfl rfl) (fun _ => (hI.dropS [0])) ?_; clear hE a; intro a hE
  refine dp 9 hE rfl (f_extract rfl rfl) (fun _ => (hI.dropS [0])) ?_; clear hE a; intro a hE
  refine do1 11 hE rfl ?_
  refine f_store (l := [_, _, _, _, _]) (ss' := _ :: _) 0 hE hI rfl rfl rfl rfl rfl sz_83 (by simp [Value.cells, Value.oneCell', pgCells, rcCells]) rfl rfl rfl ?_
  clear hI w; intro w hI
  refine ⟨fun _ => (hI.dropS [0]), ?_⟩
  refine dp 12 hE rfl (p_assign rfl) (fun _ => (hI.dropS [0])) ?_; clear hE a; intro a hE
  refine d_done (by kernel_rfl) ?_
  refine then_normal ?_
  refine wp_seq ?_
  refine wsr ?_
  refine zm hE ?_; clear hE a; intro a hE
  refine zs hE (p_not rfl) ?_; clear hE a; intro a hE
  refine wnt ?_
  refine c_true hE rfl ?_
  refine wp_seq ?_
  refine wsr ?_
  refine zs hE (p_fieldAddr (m := 5) rfl fo_88_5 rfl) ?_; clear hE a; intro a hE
  refine zl hE (f_load rfl scal_3 (hI.seg 1 rfl) rfl) ?_; clear hE a; intro a hE
  refine l_step rfl (o_cmp hE rfl rfl rfl rfl rfl rfl ?_ ?_)
  ·intro hk1; replace hk1 := neq_t hk1; clear hE a; intro a hE
   refine zm hE ?_; clear hE a; intro a hE
   refine zk hE ?_; clear hE a; intro a hE
   refine zk hE ?_; clear hE a; intro a hE
   refine zk hE ?_; clear hE a; intro a hE
   refine zs hE (p_pick (b := true) rfl rfl) ?_; clear hE a; intro a hE
   refine wnt ?_
   refine c_true hE rfl ?_
   refine wsr ?_
   refine za hE ?_; clear hE a; intro a hE
   refine wnt ?_
   refine wp_ret ?_
   refine then_ret ?_
   refine then_ret ?_
   refine ret1 rfl hE rfl ?_
   replace hI := hI.erase 1
   replace hI := hI.erase 0
   replace hI := hI.bring 2
   replace hI := hI.bring 2
   replace hI := hI.bring 2
   exact .inr ⟨by rw [Pl.apply, hf_11]; simp only []; rw [if_neg (by rintro ⟨h1, h2⟩; first | exact hk1 h1 | (rw [hv] at h2; cases h2))], rfl, hI.perm (List.Perm.refl _), ⟨bp, bl, bw, _, _, _, _, _, _, rfl, rfl, hml, hMl, hnl, hmw, hww⟩⟩
  intro hk1; replace hk1 := neq_f hk1; clear hE a; intro a hE
  refine zm hE ?_; clear hE a; intro a hE
  refine gl hE (f_loadA (vs := [_, _, _, _, _, _, _, _, _, _]) rfl agg_88 (hI.seg 1 rfl) rfl rfl) ?_; clear hE a; intro a hE
  refine l_go hE rfl (o_call hE rfl rfl rfl rfl ent_92 (Valid_spec (rc := rc) hI hS ⟨_, _, rfl, hk3, hv4, ho5⟩) ?_)
  clear hI hE a
  rintro r w h a hE; rcases h with ⟨⟨hv, rfl⟩ | ⟨hv, c29, rfl⟩, hI⟩
  ·skip
   refine gs hE (p_ifaceNil Tryd.underlying25 rfl rfl rfl) ?_; clear hE a; intro a hE
   refine zs hE (p_pick (b := false) rfl rfl) ?_; clear hE a; intro a hE
   refine wnt ?_
   refine c_false hE rfl ?_
   refine wp_skip ?_
   refine then_normal ?_
   refine wsr ?_
   refine zs hE (p_fieldAddr (m := 4) rfl fo_88_4 rfl) ?_; clear hE a; intro a hE
   refine zl hE (f_load rfl scal_3 (hI.seg 1 rfl) rfl) ?_; clear hE a; intro a hE
   refine l_step rfl (o_call hE rfl rfl rfl rfl ent_93 (PNew_spec hI rc.page) ?_)
   clear hI hE a
   rintro r w ⟨⟨e30, rfl, he31, ho32⟩, hI⟩ a hE
   obtain ⟨A33, c34, rfl, _⟩ := he31.slice
   refine l_step rfl (f_store (l := [_, _, _, _, _]) (ss' := _ :: _) 0 hE hI rfl rfl rfl rfl rfl sz_83 (by simp [Value.cells, Value.oneCell', pgCells, rcCells]) rfl rfl rfl ?_)
   clear hI w; intro w hI
   refine wnt ?_
   refine d_start [6] [] (by kernel_rfl) hI rfl rfl ?_
   clear hI w; intro w hI
   refine dp 0 hE rfl (p_move rfl) (fun _ => hI) (listed' := #[true, false, false, false, false, false, false]) ?_; clear hE a; intro a hE
   refine dp 1 hE rfl (p_nilCheck rfl) (fun _ => hI) ?_; clear hE a; intro a hE
   refine dp 2 hE rfl (p_fieldAddr (m := 1) rfl fo_145_1 rfl) (fun _ => hI) ?_; clear hE a; intro a hE
   refine dl 3 hE rfl (fun w hS => f_load rfl scal_139 (Inv.seg 2 hS rfl) rfl) (hI) ?_; clear hE a; intro a hE
   refine dp 4 hE rfl (p_fieldAddr (m := 4) rfl fo_88_4 rfl) (fun _ => hI) ?_; clear hE a; intro a hE
   refine dl 5 hE rfl (fun w hS => f_load rfl scal_3 (Inv.seg 1 hS rfl) rfl) (hI) ?_; clear hE a; intro a hE
   refine do1 6 hE rfl ?_
   refine o_delete_ 4 hE hI rfl rfl rfl rfl rfl ik_139 rfl hmw ?_
   clear hI w; intro es_35 clk_35 w hm_35 hI
   refine ⟨nl, ?_⟩
   refine d_done (by kernel_rfl) ?_
   refine then_normal ?_
   refine wp_seq ?_
   refine d_start [9] [] (by kernel_rfl) hI rfl rfl ?_
   clear hI w; intro w hI
   refine dp 0 hE rfl (p_move rfl) (fun _ => hI) (listed' := #[true, false, false, false, false, false, false, false, false, false]) ?_; clear hE a; intro a hE
   refine dp 1 hE rfl (p_nilCheck rfl) (fun _ => hI) ?_; clear hE a; intro a hE
   refine dp 2 hE rfl (p_fieldAddr (m := 0) rfl fo_145_0 rfl) (fun _ => hI) ?_; clear hE a; intro a hE
   refine dl 3 hE rfl (fun w hS => f_load rfl scal_118 (Inv.seg 2 hS rfl) rfl) (hI) ?_; clear hE a; intro a hE
   refine dp 4 hE rfl (p_fieldAddr (m := 4) rfl fo_88_4 rfl) (fun _ => hI) ?_; clear hE a; intro a hE
   refine dl 5 hE rfl (fun w hS => f_load rfl scal_3 (Inv.seg 1 hS rfl) rfl) (hI) ?_; clear hE a; intro a hE
   refine dl 6 hE rfl (fun w hS => f_loadA (vs := [_, _, _, _, _]) rfl agg_83 (Inv.seg 0 hS rfl) rfl rfl) (hI) ?_; clear hE a; intro a hE
   refine dl 7 hE rfl (fun w hS => f_loadA (vs := [_, _, _, _, _, _, _, _, _, _]) rfl agg_88 (Inv.seg 1 hS rfl) rfl rfl) (hI) ?_; clear hE a; intro a hE
   refine do1 8 hE rfl ?_
   refine o_call hE rfl rfl rfl rfl ent_94 (Apply_spec (p := (newPg rc.page)) (rc := rc) hI ⟨_, rfl, he31, ho32⟩ ⟨_, _, rfl, hk3, hv4, ho5⟩) ?_
   clear hI hE a
   rintro r w ⟨D36, hD37, hI, ⟨e38, rfl, he39, ho40⟩⟩ a hE
   obtain ⟨A41, c42, rfl, _⟩ := he39.slice
   refine ⟨fun _ => (Inv.weaken hI hD37), ?_⟩
   refine do1 9 hE rfl ?_
   refine o_mapUpdate 3 hE hI rfl (.inl rfl) rfl rfl rfl ik_118 rfl hml ?_
   clear hI w; intro es_43 clk_43 w hm_43 hI
   refine ⟨nl, ?_⟩
   refine d_done (by kernel_rfl) ?_
   refine then_normal ?_
   refine wsr ?_
   refine za hE ?_; clear hE a; intro a hE
   refine wnt ?_
   refine wp_ret ?_
   refine ret1 rfl hE rfl ?_
   replace hI := hI.erase 1
   replace hI := hI.erase 0
   replace hI := hI.bring 2
   replace hI := hI.bring 2
   replace hI := hI.bring 2
   exact .inl ⟨(⟨fun k => if k = rc.page then some (applyP (newPg rc.page) rc) else P.f k, P.n + 1, P.wants.filter fun k => decide (k ≠ rc.page)⟩ : Pl), by rw [Pl.apply, hf_11]; simp only []; rw [if_pos ⟨hk1, hv⟩], rfl, _, _, hD37, ⟨bp, bl, bw, _, _, _, _, _, _, rfl, rfl, hm_43, (MapD.put (k := rc.page) (hMl.mono hD37) ⟨_, rfl, he39, ho40⟩), by rw [putM_miss (MapD.none hMl hf_11), hnl], hm_35, by rw [delM_keys, hww]⟩, hI.perm (List.Perm.refl _)⟩
  refine gs hE (p_ifaceNil Tryd.underlying25 rfl rfl rfl) ?_; clear hE a; intro a hE
  refine zs hE (p_pick (b := false) rfl rfl) ?_; clear hE a; intro a hE
  refine wnt ?_
  refine c_true hE rfl ?_
  refine wsr ?_
  refine za hE ?_; clear hE a; intro a hE
  refine wnt ?_
  refine wp_ret ?_
  refine then_ret ?_
  refine then_ret ?_
  refine ret1 rfl hE rfl ?_
  replace hI := hI.erase 1
  replace hI := hI.erase 0
  replace hI := hI.bring 2
  replace hI := hI.bring 2
  replace hI := hI.bring 2
  exact .inr ⟨by rw [Pl.apply, hf_11]; simp only []; rw [if_neg (by rintro ⟨h1, h2⟩; first | exact hk1 h1 | (rw [hv] at h2; cases h2))], rfl, hI.perm (List.Perm.refl _), ⟨bp, bl, bw, _, _, _, _, _, _, rfl, rfl, hml, hMl, hnl, hmw, hww⟩⟩
 obtain ⟨e_11, hg_11, he_11, ho_11⟩ := MapD.some hMl hf_11
 have hlen_p_11 := ho_11.len
 obtain ⟨A44, c45, rfl, _⟩ := he_11.slice
 refine d_start [] [] (by kernel_rfl) hI rfl rfl ?_
 clear hI w; intro w hI
 refine dp 0 hE rfl (p_move rfl) (fun _ => hI) (listed' := #[true, false, false, false, false, false, false, false, false, false, false, false, false]) ?_; clear hE a; intro a hE
 refine dp 1 hE rfl (p_nilCheck rfl) (fun _ => hI) ?_; clear hE a; intro a hE
 refine dp 2 hE rfl (p_fieldAddr (m := 0) rfl fo_145_0 rfl) (fun _ => hI) ?_; clear hE a; intro a hE
 refine dl 3 hE rfl (fun w hS => f_load rfl scal_118 (Inv.seg 1 hS rfl) rfl) (hI) ?_; clear hE a; intro a hE
 refine dp 4 hE rfl (p_fieldAddr (m := 4) rfl fo_88_4 rfl) (fun _ => hI) ?_; clear hE a; intro a hE
 refine dl 5 hE rfl (fun w hS => f_load rfl scal_3 (Inv.seg 0 hS rfl) rfl) (hI) ?_; clear hE a; intro a hE
 refine d_two 6 10 hE rfl rfl (by kernel_rfl) rfl rfl (listed' := #[true, true, true, true, true, true, true, false, false, false, false, false, false]) (listed'' := #[true, true, true, true, true, true, false, false, false, false, true, false, false]) rfl rfl ?_ ?_
 ·skip
  refine o_pure hE rfl rfl (r_lookupY rfl rfl ik_118 zer_83 (hI.seg 2 rfl) hml hg_11) ?_; clear hE a; intro a hE
  refine ⟨fun _ => hI, ?_⟩
  refine dp 7 hE rfl (p_move rfl) (fun _ => hI) ?_; clear hE a; intro a hE
  refine dp 8 hE rfl (f_extract rfl rfl) (fun _ => hI) ?_; clear hE a; intro a hE
  refine dp 9 hE rfl (f_extract rfl rfl) (fun _ => hI) ?_; clear hE a; intro a hE
  refine do1 10 hE rfl ?_
  refine f_alloc (cs := #[.int .i64 0, .int .i64 0, .int .i64 0, .int .i64 0, .slice none 0 0]) hE hI rfl rfl rfl zer_83 rfl ?_
  clear hI hE a w; intro a b46 w hE hI
  refine ⟨fun _ => (hI.dropS [0]), ?_⟩
  refine do1 11 hE rfl ?_
  refine f_store (l := [_, _, _, _, _]) (ss' := _ :: _) 0 hE hI rfl rfl rfl rfl rfl sz_83 (by simp [Value.cells, Value.oneCell', pgCells, rcCells]) rfl rfl rfl ?_
  clear hI w; intro w hI
  refine ⟨fun _ => (hI.dropS [0]), ?_⟩
  refine dp 12 hE rfl (p_assign rfl) (fun _ => (hI.dropS [0])) ?_; clear hE a; intro a hE
  refine d_done (by kernel_rfl) ?_
  refine then_normal ?_
  refine wp_seq ?_
  refine wsr ?_
  refine zm hE ?_; clear hE a; intro a hE
  refine zs hE (p_not rfl) ?_; clear hE a; intro a hE
  refine wnt ?_
  refine c_false hE rfl ?_
  refine wp_skip ?_
  refine then_normal ?_
  refine wp_seq ?_
  refine d_start [9] [] (by kernel_rfl) hI rfl rfl ?_
  clear hI w; intro w hI
  refine dp 0 hE rfl (p_move rfl) (fun _ => hI) (listed' := #[true, false, false, false, false, false, false, false, false, false]) ?_; clear hE a; intro a hE
  refine dp 1 hE rfl (p_nilCheck rfl) (fun _ => hI) ?_; clear hE a; intro a hE
  refine dp 2 hE rfl (p_fieldAddr (m := 0) rfl fo_145_0 rfl) (fun _ => hI) ?_; clear hE a; intro a hE
  refine dl 3 hE rfl (fun w hS => f_load rfl scal_118 (Inv.seg 2 hS rfl) rfl) (hI) ?_; clear hE a; intro a hE
  refine dp 4 hE rfl (p_fieldAddr (m := 4) rfl fo_88_4 rfl) (fun _ => hI) ?_; clear hE a; intro a hE
  refine dl 5 hE rfl (fun w hS => f_load rfl scal_3 (Inv.seg 1 hS rfl) rfl) (hI) ?_; clear hE a; intro a hE
  refine dl 6 hE rfl (fun w hS => f_loadA (vs := [_, _, _, _, _]) rfl agg_83 (Inv.seg 0 hS rfl) rfl rfl) (hI) ?_; clear hE a; intro a hE
  refine dl 7 hE rfl (fun w hS => f_loadA (vs := [_, _, _, _, _, _, _, _, _, _]) rfl agg_88 (Inv.seg 1 hS rfl) rfl rfl) (hI) ?_; clear hE a; intro a hE
  refine do1 8 hE rfl ?_
  refine o_call hE rfl rfl rfl rfl ent_94 (Apply_spec (p := p_11) (rc := rc) hI ⟨_, rfl, he_11, ho_11⟩ ⟨_, _, rfl, hk3, hv4, ho5⟩) ?_
  clear hI hE a
  rintro r w ⟨D47, hD48, hI, ⟨e49, rfl, he50, ho51⟩⟩ a hE
  obtain ⟨A52, c53, rfl, _⟩ := he50.slice
  refine ⟨fun _ => (Inv.weaken hI hD48), ?_⟩
  refine do1 9 hE rfl ?_
  refine o_mapUpdate 3 hE hI rfl (.inl rfl) rfl rfl rfl ik_118 rfl hml ?_
  clear hI w; intro es_54 clk_54 w hm_54 hI
  refine ⟨nl, ?_⟩
  refine d_done (by kernel_rfl) ?_
  refine then_normal ?_
  refine wsr ?_
  refine za hE ?_; clear hE a; intro a hE
  refine wnt ?_
  refine wp_ret ?_
  refine ret1 rfl hE rfl ?_
  replace hI := hI.erase 1
  replace hI := hI.erase 0
  replace hI := hI.bring 2
  replace hI := hI.bring 2
  replace hI := hI.bring 2
  exact .inl ⟨({ P with f := fun k => if k = rc.page then some (applyP p_11 rc) else P.f k } : Pl), by rw [Pl.apply, hf_11], rfl, _, _, hD48, ⟨bp, bl, bw, _, _, _, _, _, _, rfl, rfl, hm_54, (MapD.put (k := rc.page) (hMl.mono hD48) ⟨_, rfl, he50, ho51⟩), by rw [putM_hit hg_11]; exact hnl, hmw, hww⟩, hI.perm (List.Perm.refl _)⟩
 refine f_alloc (cs := #[.int .i64 0, .int .i64 0, .int .i64 0, .int .i64 0, .slice none 0 0]) hE hI rfl rfl rfl zer_83 rfl ?_
 clear hI hE a w; intro a b55 w hE hI
 refine ⟨fun _ => (hI.dropS [0]), ?_⟩
 refine do1 6 hE rfl ?_
 refine o_pure hE rfl rfl (r_lookupY rfl rfl ik_118 zer_83 (hI.seg 3 rfl) hml hg_11) ?_; clear hE a; intro a hE
 refine ⟨fun _ => (hI.dropS [0]), ?_⟩
 refine dp 7 hE rfl (p_move rfl) (fun _ => (hI.dropS [0])) ?_; clear hE a; intro a hE
 refine dp 8 hE rfl (f_extract rfl rfl) (fun _ => (hI.dropS [0])) ?_; clear hE a; intro a hE
 refine dp 9 hE rfl (f_extract rfl rfl) (fun _ => (hI.dropS [0])) ?_; clear hE a; intro a hE
 refine do1 11 hE rfl ?_
 refine f_store (l := [_, _, _, _, _]) (ss' := _ :: _) 0 hE hI rfl rfl rfl rfl rfl sz_83 (by simp [Value.cells, Value.oneCell', pgCells, rcCells]) rfl rfl rfl ?_
 clear hI w; intro w hI
 refine ⟨fun _ => (hI.dropS [0]), ?_⟩
 refine dp 12 hE rfl (p_assign rfl) (fun _ => (hI.dropS [0])) ?_; clear hE a; intro a hE
 refine d_done (by kernel_rfl) ?_
 refine then_normal ?_
 refine wp_seq ?_
 refine wsr ?_
 refine zm hE ?_; clear hE a; intro a hE
 refine zs hE (p_not rfl) ?_; clear hE a; intro a hE
 refine wnt ?_
 refine c_false hE rfl ?_
 refine wp_skip ?_
 refine then_normal ?_
 refine wp_seq ?_
 refine d_start [9] [] (by kernel_rfl) hI rfl rfl ?_
 clear hI w; intro w hI
 refine dp 0 hE rfl (p_move rfl) (fun _ => hI) (listed' := #[true, false, false, false, false, false, false, false, false, false]) ?_; clear hE a; intro a hE
 refine dp 1 hE rfl (p_nilCheck rfl) (fun _ => hI) ?_; clear hE a; intro a hE
 refine dp 2 hE rfl (p_fieldAddr (m := 0) rfl fo_145_0 rfl) (fun _ => hI) ?_; clear hE a; intro a hE
 refine dl 3 hE rfl (fun w hS => f_load rfl scal_118 (Inv.seg 2 hS rfl) rfl) (hI) ?_; clear hE a; intro a hE
 refine dp 4 hE rfl (p_fieldAddr (m := 4) rfl fo_88_4 rfl) (fun _ => hI) ?_; clear hE a; intro a hE
 refine dl 5 hE rfl (fun w hS => f_load rfl scal_3 (Inv.seg 1 hS rfl) rfl) (hI) ?_; clear hE a; intro a hE
 refine dl 6 hE rfl (fun w hS => f_loadA (vs := [_, _, _, _, _]) rfl agg_83 (Inv.seg 0 hS rfl) rfl rfl) (hI) ?_; clear hE a; intro a hE
 refine dl 7 hE rfl (fun w hS => f_loadA (vs := [_, _, _, _, _, _, _, _, _, _]) rfl agg_88 (Inv.seg 1 hS rfl) rfl rfl) (hI) ?_; clear hE a; intro a hE
 refine do1 8 hE rfl ?_
 refine o_call hE rfl rfl rfl rfl ent_94 (Apply_spec (p := p_11) (rc := rc) hI ⟨_, rfl, he_11, ho_11⟩ ⟨_, _, rfl, hk3, hv4, ho5⟩) ?_
 clear hI hE a
 rintro r w ⟨D56, hD57, hI, ⟨e58, rfl, he59, ho60⟩⟩ a hE
 obtain ⟨A61, c62, rfl, _⟩ := he59.slice
 refine ⟨fun _ => (Inv.weaken hI hD57), ?_⟩
 refine do1 9 hE rfl ?_
 refine o_mapUpdate 3 hE hI rfl (.inl rfl) rfl rfl rfl ik_118 rfl hml ?_
 clear hI w; intro es_63 clk_63 w hm_63 hI
 refine ⟨nl, ?_⟩
 refine d_done (by kernel_rfl) ?_
 refine then_normal ?_
 refine wsr ?_
 refine za hE ?_; clear hE a; intro a hE
 refine wnt ?_
 refine wp_ret ?_
 refine ret1 rfl hE rfl ?_
 replace hI := hI.erase 1
 replace hI := hI.erase 0
 replace hI := hI.bring 2
 replace hI := hI.bring 2
 replace hI := hI.bring 2
 exact .inl ⟨({ P with f := fun k => if k = rc.page then some (applyP p_11 rc) else P.f k } : Pl), by rw [Pl.apply, hf_11], rfl, _, _, hD57, ⟨bp, bl, bw, _, _, _, _, _, _, rfl, rfl, hm_63, (MapD.put (k := rc.page) (hMl.mono hD57) ⟨_, rfl, he59, ho60⟩), by rw [putM_hit hg_11]; exact hnl, hmw, hww⟩, hI.perm (List.Perm.refl _)⟩
end Go.Proofs.YtbogbnkckofpdaaDoor.B
