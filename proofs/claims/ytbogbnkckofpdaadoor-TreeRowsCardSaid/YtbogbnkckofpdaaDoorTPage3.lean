/- What functions of the program compute, each function once: steps over the model, and the plain law of it. -/
import Derived.Test.YtbogbnkckofpdaaDoorTRow
namespace Go.Proofs.YtbogbnkckofpdaaDoor.B
open Go Go.Proofs
set_option linter.unusedVariables false
set_option linter.unusedSimpArgs false
set_option maxRecDepth 20000
set_option maxHeartbeats 8000000
namespace FTPage3
theorem agg_69 : aggSize Tryd.prog 69 = some 2 := by kernel_rfl
theorem agg_83 : aggSize Tryd.prog 83 = some 5 := by kernel_rfl
theorem built_69 : ∀ vs, Tryd.prog.built 69 vs = Instr.fill (([(0, 1), (1, 1)] : List (Nat × Nat)).toArray[·]?) ([.slice none 0 0, .slice none 0 0] : List Value).toArray vs := fun _ => by kernel_rfl
theorem ent_73 : enters Tryd.prog 73 = true := by kernel_rfl
theorem fo_69_0 : fieldOff Tryd.prog 69 0 = some 0 := by kernel_rfl
theorem fo_69_1 : fieldOff Tryd.prog 69 1 = some 1 := by kernel_rfl
theorem fo_83_4 : fieldOff Tryd.prog 83 4 = some 4 := by kernel_rfl
theorem scal_22 : isScal Tryd.prog 22 = true := by kernel_rfl
theorem scal_65 : isScal Tryd.prog 65 = true := by kernel_rfl
theorem sz_65 : (Tryd.prog.info? 65).map (·.size) = some 1 := by kernel_rfl
theorem sz_69 : (Tryd.prog.info? 69).map (·.size) = some 2 := by kernel_rfl
theorem sz_83 : (Tryd.prog.info? 83).map (·.size) = some 5 := by kernel_rfl
theorem zer_69 : (Tryd.prog.info? 69).bind (·.zero) = some (.agg #[.slice none 0 0, .slice none 0 0]) := by kernel_rfl
theorem zer_83 : (Tryd.prog.info? 83).bind (·.zero) = some (.agg #[.int .i64 0, .int .i64 0, .int .i64 0, .int .i64 0, .slice none 0 0]) := by kernel_rfl
theorem zs_69 : (Tryd.prog.info? 69).map (fun i => (i.zero, i.size)) = some (some (.agg #[.slice none 0 0, .slice none 0 0]), 2) := by kernel_rfl
theorem zsb_69 : (Tryd.prog.info? 69).map (fun i => (i.zero, i.size, i.bytes)) = some (some (.agg #[.slice none 0 0, .slice none 0 0]), 2, 48) := by kernel_rfl
end FTPage3
open FTPage3
theorem PClone_spec {w0 w : World} {D : Sto} {ss : List Seg} (hI : Inv w0 D ss w) {vp : Value} {p : Pg} (hp : PgV D vp p) :
  Calls Tryd.prog 91 #[vp] w (Ret fun r w' => ∃ D' s ve, Le D D' ∧ r = .agg (pgCells p ve).toArray ∧ OR 2 EnR D' 69 ve p.ents s ∧ Inv w0 D' (s :: ss) w') := by
 obtain ⟨e1, rfl, he2, ho3⟩ := hp
 have hlen_p := ho3.len
 obtain ⟨A4, c5, rfl, _⟩ := he2.slice
 refine enter (N := 27) Tryd.func91 rfl rfl rfl ?_
 intro a hE
 refine wsr ?_
 refine l_step rfl (f_box (cs := #[_, _, _, _, _]) hE hI rfl rfl rfl rfl rfl ?_)
 clear hI hE a w; intro a b6 w hE hI
 refine l_step rfl (f_alloc (cs := #[.int .i64 0, .int .i64 0, .int .i64 0, .int .i64 0, .slice none 0 0]) hE hI rfl rfl rfl zer_83 rfl ?_)
 clear hI hE a w; intro a b7 w hE hI
 refine wnt ?_
 refine wsr ?_
 refine za hE ?_; clear hE a; intro a hE
 refine wnt ?_
 refine wp_seq ?_
 refine wsr ?_
 refine zs hE (p_fieldAddr (m := 4) rfl fo_83_4 rfl) ?_; clear hE a; intro a hE
 refine zl hE (f_load rfl scal_65 (hI.seg 1 rfl) rfl) ?_; clear hE a; intro a hE
 refine zs hE (p_len rfl rfl Tryd.underlying65) ?_; clear hE a; intro a hE
 refine zm hE ?_; clear hE a; intro a hE
 refine wnt ?_
 refine wp_block ?_
 replace hI := hI.nilseg
 refine c_loop (X := Sto × Nat × Value × Seg) (fun x => [(1, _), (2, _), (7, _), (8, _), (3, x.2.2.1), (9, .int .i64 (x.2.1 : Nat))]) (fun x w => x.2.1 ≤ p.ents.length ∧ Le D x.1 ∧ OR 2 EnR x.1 69 x.2.2.1 (p.ents.take x.2.1) x.2.2.2 ∧ Inv w0 x.1 (x.2.2.2 :: [(b7, .cells #[.int .i64 0, .int .i64 0, .int .i64 0, .int .i64 0, .slice none 0 0] 83 (0, 0))] :: [(b6, .cells #[.int .i64 p.id, .int .i64 p.lsn, .int .i64 p.level, .int .i64 p.next, .slice A4 p.ents.length c5] 83 (0, 0))] :: ss) w) (fun x => p.ents.length - x.2.1) (D, 0, .slice none 0 0, []) (hE.pick [1, 2, 7, 8, 3, 9]) ⟨Nat.zero_le _, Le.refl _, OR.nil _ _ _ _, hI⟩ ?_
 clear hE hI a w
 rintro ⟨D1, i, v, s⟩ a w hE ⟨hi, hD1, hO, hI⟩
 try dsimp only at hE
 try dsimp only at hi
 try dsimp only at hD1
 try dsimp only at hO
 try dsimp only at hI
 obtain ⟨A8, c9, rfl, _⟩ := hO.slice
 refine wsr ?_
 refine l_step rfl (o_cmp hE rfl rfl rfl rfl rfl rfl ?_ ?_)
 ·intro hlt; replace hlt := lss_t hlt; clear hE a; intro a hE
  refine wnt ?_
  refine wp_seq ?_
  refine c_true hE rfl ?_
  refine wp_skip ?_
  refine then_normal ?_
  refine wp_seq ?_
  refine wp_block ?_
  refine wsr ?_
  obtain ⟨x_10, hx_10⟩ : ∃ y, (p.ents)[i]? = some y := ⟨_, List.getElem?_eq_getElem (by omega)⟩
  obtain ⟨b_10, o_10, cs_10, T_10, fr_10, rfl, hb_10, hat_10⟩ := he2.at_ (by intro h0; rw [h0] at hx_10; simp at hx_10)
  obtain ⟨vs_10, hl_10, ⟨k_10, v_10, rfl, hk_10, hv_10, hok_10⟩, hex_10, hsz_10, hce_10⟩ := hat_10.extract hx_10 (by omega)
  obtain ⟨A11, c12, rfl, _⟩ := hk_10.slice
  obtain ⟨A13, c14, rfl, _⟩ := hv_10.slice
  refine zs hE (p_indexAddr (m := o_10 + i * 2) rfl rfl Tryd.underlying65 sz_69 (by omega) (by omega) (by simp)) ?_; clear hE a; intro a hE
  refine zl hE (r_loadA rfl agg_69 (hI.data _ _ (hD1 _ _ (hb_10))) hsz_10 hex_10) ?_; clear hE a; intro a hE
  refine l_step rfl (f_alloc (cs := #[.slice none 0 0, .slice none 0 0]) hE hI rfl rfl rfl zer_69 rfl ?_)
  clear hI hE a w; intro a b15 w hE hI
  refine l_step rfl (f_store (l := [_, _]) (ss' := _ :: _) 0 hE hI rfl rfl rfl rfl rfl sz_69 (by simp [Value.cells, Value.oneCell', pgCells, rcCells]) rfl rfl rfl ?_)
  clear hI w; intro w hI
  refine wnt ?_
  refine d_start [3, 6, 8, 9] [1] (by kernel_rfl) hI rfl rfl ?_
  clear hI w; intro w hI
  refine dp 0 hE rfl (p_move rfl) (fun _ => (hI.dropS [1])) (listed' := #[true, false, false, false, false, false, false, false, false, false, false]) ?_; clear hE a; intro a hE
  refine dp 1 hE rfl (p_fieldAddr (m := 0) rfl fo_69_0 rfl) (fun _ => (hI.dropS [1])) ?_; clear hE a; intro a hE
  refine dl 2 hE rfl (fun w hS => f_load rfl scal_22 (Inv.seg 0 hS rfl) rfl) ((hI.dropS [1])) ?_; clear hE a; intro a hE
  refine dp 4 hE rfl (p_fieldAddr (m := 1) rfl fo_69_1 rfl) (fun _ => (hI.dropS [1])) ?_; clear hE a; intro a hE
  refine d_two 3 5 hE rfl rfl (by kernel_rfl) rfl rfl (listed' := #[true, true, true, true, true, false, false, false, false, false, false]) (listed'' := #[true, true, true, false, true, true, false, false, false, false, false]) rfl rfl ?_ ?_
  ·skip
   refine o_call hE rfl rfl rfl rfl ent_73 (Clone_data (bs := x_10.1) hI (hk_10.mono hD1) (by have := hok_10.1; have := hok_10.2; omega)) ?_
   clear hI hE a
   rintro r w ⟨D16, hD17, hI, hb18⟩ a hE
   obtain ⟨A19, c20, rfl, _⟩ := hb18.slice
   refine ⟨nl, ?_⟩
   refine do1 5 hE rfl ?_
   refine o_pure hE rfl rfl (f_load rfl scal_22 (hI.seg 0 rfl) rfl) ?_; clear hE a; intro a hE
   refine ⟨nl, ?_⟩
   refine do1 6 hE rfl ?_
   refine o_call hE rfl rfl rfl rfl ent_73 (Clone_data (bs := x_10.2) hI (hv_10.mono (hD1.trans hD17)) (by have := hok_10.1; have := hok_10.2; omega)) ?_
   clear hI hE a
   rintro r w ⟨D21, hD22, hI, hb23⟩ a hE
   obtain ⟨A24, c25, rfl, _⟩ := hb23.slice
   refine ⟨nl, ?_⟩
   refine dp 7 hE rfl (f_build (vs := [(0, _), (1, _)]) (l := [_, _]) rfl built_69 rfl) nl ?_; clear hE a; intro a hE
   refine do1 8 hE rfl ?_
   refine f_lit (vs := [(0, _)]) (l := [_, _]) hE hI rfl rfl rfl rfl Tryd.underlying65 zs_69 rfl rfl rfl ?_
   clear hI hE a w; intro a b26 w hE hI
   refine ⟨nl, ?_⟩
   refine do1 9 hE rfl ?_
   refine o_appendOR (R := EnR) (el := x_10) 2 0 hE hI rfl rfl rfl rfl rfl Tryd.underlying65 zsb_69 rfl rfl rfl (OR.mono EnR.keeps hO (hD17.trans hD22)) rfl rfl (⟨_, _, rfl, (hb18.mono hD22), hb23, hok_10⟩) (by simp [Value.oneCell']) (by rw [List.length_take]; omega) (by rw [List.length_take]; omega) ?_
   clear hI hE a w; intro v27 s28 w hO29 hI a hE
   obtain ⟨A30, c31, rfl, _⟩ := hO29.slice
   replace hI := hI.erase 0
   try simp only [nrm, Value.cells] at hI
   refine ⟨nl, ?_⟩
   refine dp 10 hE rfl (p_assign rfl) nl ?_; clear hE a; intro a hE
   refine d_done (by kernel_rfl) ?_
   refine blk_normal ?_
   refine then_normal ?_
   refine wp_region_list ?_
   refine zs hE (p_arith (z := ((i + 1 : Nat) : Int)) rfl rfl (add_z (by omega) (by omega) (by omega))) ?_; clear hE a; intro a hE
   refine zm hE ?_; clear hE a; intro a hE
   refine wnt ?_
   obtain ⟨hlt1, hge1⟩ := List.getElem?_eq_some_iff.1 hx_10
   replace hI := hI.drop
   exact ⟨(D21, i + 1, _, _), hE.pick [1, 2, 7, 8, 3, 9], ⟨by show i + 1 ≤ _; omega, ((hD1.trans hD17).trans hD22), by show OR 2 EnR D21 69 _ (p.ents.take (i + 1)) _; rw [List.take_succ_eq_append_getElem hlt1, hge1]; exact hO29, hI⟩, by show p.ents.length - (i + 1) < p.ents.length - i; omega⟩
  refine o_pure hE rfl rfl (f_load rfl scal_22 (hI.seg 0 rfl) rfl) ?_; clear hE a; intro a hE
  refine ⟨fun _ => (hI.dropS [1]), ?_⟩
  refine do1 3 hE rfl ?_
  refine o_call hE rfl rfl rfl rfl ent_73 (Clone_data (bs := x_10.1) hI (hk_10.mono hD1) (by have := hok_10.1; have := hok_10.2; omega)) ?_
  clear hI hE a
  rintro r w ⟨D32, hD33, hI, hb34⟩ a hE
  obtain ⟨A35, c36, rfl, _⟩ := hb34.slice
  refine ⟨nl, ?_⟩
  refine do1 6 hE rfl ?_
  refine o_call hE rfl rfl rfl rfl ent_73 (Clone_data (bs := x_10.2) hI (hv_10.mono (hD1.trans hD33)) (by have := hok_10.1; have := hok_10.2; omega)) ?_
  clear hI hE a
  rintro r w ⟨D37, hD38, hI, hb39⟩ a hE
  obtain ⟨A40, c41, rfl, _⟩ := hb39.slice
  refine ⟨nl, ?_⟩
  refine dp 7 hE rfl (f_build (vs := [(0, _), (1, _)]) (l := [_, _]) rfl built_69 rfl) nl ?_; clear hE a; intro a hE
  refine do1 8 hE rfl ?_
  refine f_lit (vs := [(0, _)]) (l := [_, _]) hE hI rfl rfl rfl rfl Tryd.underlying65 zs_69 rfl rfl rfl ?_
  clear hI hE a w; intro a b42 w hE hI
  refine ⟨nl, ?_⟩
  refine do1 9 hE rfl ?_
  refine o_appendOR (R := EnR) (el := x_10) 2 0 hE hI rfl rfl rfl rfl rfl Tryd.underlying65 zsb_69 rfl rfl rfl (OR.mono EnR.keeps hO (hD33.trans hD38)) rfl rfl (⟨_, _, rfl, (hb34.mono hD38), hb39, hok_10⟩) (by simp [Value.oneCell']) (by rw [List.length_take]; omega) (by rw [List.length_take]; omega) ?_
  clear hI hE a w; intro v43 s44 w hO45 hI a hE
  obtain ⟨A46, c47, rfl, _⟩ := hO45.slice
  replace hI := hI.erase 0
  try simp only [nrm, Value.cells] at hI
  refine ⟨nl, ?_⟩
  refine dp 10 hE rfl (p_assign rfl) nl ?_; clear hE a; intro a hE
  refine d_done (by kernel_rfl) ?_
  refine blk_normal ?_
  refine then_normal ?_
  refine wp_region_list ?_
  refine zs hE (p_arith (z := ((i + 1 : Nat) : Int)) rfl rfl (add_z (by omega) (by omega) (by omega))) ?_; clear hE a; intro a hE
  refine zm hE ?_; clear hE a; intro a hE
  refine wnt ?_
  obtain ⟨hlt1, hge1⟩ := List.getElem?_eq_some_iff.1 hx_10
  replace hI := hI.drop
  exact ⟨(D37, i + 1, _, _), hE.pick [1, 2, 7, 8, 3, 9], ⟨by show i + 1 ≤ _; omega, ((hD1.trans hD33).trans hD38), by show OR 2 EnR D37 69 _ (p.ents.take (i + 1)) _; rw [List.take_succ_eq_append_getElem hlt1, hge1]; exact hO45, hI⟩, by show p.ents.length - (i + 1) < p.ents.length - i; omega⟩
 intro hlt; replace hlt := lss_f hlt; clear hE a; intro a hE
 refine wnt ?_
 refine wp_seq ?_
 refine c_false hE rfl ?_
 refine wp_exit ?_
 refine then_exit ?_
 refine then_exit ?_
 refine blk_same ?_
 refine then_normal ?_
 refine wsr ?_
 refine zm hE ?_; clear hE a; intro a hE
 refine zs hE (p_fieldAddr (m := 4) rfl fo_83_4 rfl) ?_; clear hE a; intro a hE
 refine l_step rfl (f_store (l := [_, _, _, _, _]) (ss' := _ :: _ :: _ :: _) 2 hE hI rfl rfl rfl rfl rfl sz_65 (by simp [Value.cells, Value.oneCell', pgCells, rcCells]) rfl rfl rfl ?_)
 clear hI w; intro w hI
 refine wnt ?_
 refine wsr ?_
 refine zl hE (f_loadA (vs := [_, _, _, _, _]) rfl agg_83 (hI.seg 2 rfl) rfl rfl) ?_; clear hE a; intro a hE
 refine l_step rfl (f_store (l := [_, _, _, _, _]) (ss' := _ :: _ :: _) 1 hE hI rfl rfl rfl rfl rfl sz_83 (by simp [Value.cells, Value.oneCell', pgCells, rcCells]) rfl rfl rfl ?_)
 clear hI w; intro w hI
 refine wnt ?_
 refine wp_ret ?_
 refine retc1 rfl hE rfl agg_83 (hI.seg 1 rfl) rfl ?_
 replace hI := (hI.erase 2).erase 1
 have htk : p.ents.take i = p.ents := List.take_of_length_le (by omega)
 simp only [htk] at hO ⊢
 exact ⟨_, _, _, hD1, rfl, hO, hI⟩
theorem insertIdx_end {α : Type} : ∀ (xs : List α) (e : α), xs.insertIdx xs.length e = xs ++ [e]
 | [], e => rfl
 | x :: r, e => by simp [insertIdx_end r e]
theorem Insert_spec {w0 w : World} {D : Sto} {ss : List Seg} {s : Seg} {ve : Value} {xs : Ens} {e : Bs × Bs} {b T i : Nat} {lk lv : Value} (hI : Inv w0 D (s :: [(b, .cells #[lk, lv] T (0, 0))] :: ss) w) (hO : OR 2 EnR D 69 ve xs s) (hx : EnR D [lk, lv] e) (hi : i ≤ xs.length) (hlen : xs.length ≤ 8) :
  Calls Tryd.prog 121 #[ve, .int .i64 (i : Nat), .slice (some ⟨b, 0, none⟩) 1 1] w (Ret fun r w' => ∃ s', OR 2 EnR D 69 r (xs.insertIdx i e) s' ∧ Inv w0 D (s' :: ss) w') := by
 obtain ⟨A1, c2, rfl, hcap⟩ := hO.slice
 obtain ⟨kk, kv, hkk, hk, hv, hok⟩ := hx
 obtain ⟨rfl, rfl⟩ : lk = kk ∧ lv = kv := by simpa using hkk
 obtain ⟨Ak, ck, rfl, _⟩ := hk.slice
 obtain ⟨Av, cv, rfl, _⟩ := hv.slice
 refine enter (N := 95) Tryd.func121 rfl rfl rfl ?_
 intro a hE
 refine wsr ?_
 refine za hE ?_; clear hE a; intro a hE
 refine wnt ?_
 refine wsr ?_
 refine zm hE ?_; clear hE a; intro a hE
 refine zm hE ?_; clear hE a; intro a hE
 refine zs hE (p_sliceL (l := i) (h := xs.length) rfl Tryd.underlying65 sz_69 (lo_at rfl (by omega) (by omega)) rfl (by omega) (by omega)) ?_; clear hE a; intro a hE
 refine wnt ?_
 refine wsr ?_
 refine zm hE ?_; clear hE a; intro a hE
 refine zs hE (p_len rfl rfl Tryd.underlying65) ?_; clear hE a; intro a hE
 refine za hE ?_; clear hE a; intro a hE
 refine wnt ?_
 refine wp_seq ?_
 refine wsr ?_
 refine zm hE ?_; clear hE a; intro a hE
 refine zs hE (p_cmp rfl rfl (eql_n (by omega))) ?_; clear hE a; intro a hE
 refine wnt ?_
 refine c_false hE rfl ?_
 refine wp_skip ?_
 refine then_normal ?_
 refine wsr ?_
 refine zm hE ?_; clear hE a; intro a hE
 refine zs hE (p_len rfl rfl Tryd.underlying65) ?_; clear hE a; intro a hE
 refine za hE ?_; clear hE a; intro a hE
 refine wnt ?_
 refine wp_seq ?_
 refine wsr ?_
 refine zm hE ?_; clear hE a; intro a hE
 refine zm hE ?_; clear hE a; intro a hE
 refine l_step rfl (o_cmp hE rfl rfl rfl rfl rfl rfl ?_ ?_)
 ·intro hin; replace hin := eql_t hin; clear hE a; intro a hE
  refine wnt ?_
  refine c_true hE rfl ?_
  refine wsr ?_
  refine zm hE ?_; clear hE a; intro a hE
  refine zm hE ?_; clear hE a; intro a hE
  refine l_step rfl (o_appendOR (R := EnR) (el := e) 0 1 hE hI rfl rfl rfl rfl rfl Tryd.underlying65 zsb_69 rfl rfl rfl hO rfl rfl (⟨_, _, rfl, hk, hv, hok⟩) (by simp [Value.oneCell']) (by omega) (by omega) ?_)
  clear hI hE a w; intro v3 s4 w hO5 hI a hE
  obtain ⟨A6, c7, rfl, _⟩ := hO5.slice
  replace hI := hI.erase 1
  try simp only [nrm, Value.cells] at hI
  refine za hE ?_; clear hE a; intro a hE
  refine wnt ?_
  refine wp_ret ?_
  refine then_ret ?_
  refine ret1 rfl hE rfl ?_
  refine ⟨_, ?_, hI⟩
  rw [show xs.insertIdx i e = xs ++ [e] by rw [show i = xs.length by omega]; exact insertIdx_end xs e]
  exact hO5
 intro hin; replace hin := eql_f hin; clear hE a; intro a hE
 refine wnt ?_
 refine c_false hE rfl ?_
 refine wp_skip ?_
 refine then_normal ?_
 refine wp_seq ?_
 refine wp_seq ?_
 have hilt : i < xs.length := by omega
 rcases A1 with _ | A1
 ·exfalso; have := hO.none.1; rw [this] at hilt; simp at hilt
 obtain ⟨g0, cur, rfl, _, rfl, _, hcm, hsz, hat⟩ := hO.some
 obtain ⟨news, hnl, hnn, hn1⟩ := cellsOf hat (i * 2) ((xs.length - i) * 2) (by omega)
 refine wp_region_list ?_
 refine zm hE ?_; clear hE a; intro a hE
 refine zm hE ?_; clear hE a; intro a hE
 refine zs hE (p_arith (z := ((xs.length + 1 : Nat) : Int)) rfl rfl (add_z (by omega) (by omega) (by omega))) ?_; clear hE a; intro a hE
 refine zm hE ?_; clear hE a; intro a hE
 refine zs hE (p_cap rfl rfl Tryd.underlying65) ?_; clear hE a; intro a hE
 refine l_step rfl (o_cmp hE rfl rfl rfl rfl rfl rfl ?_ ?_)
 ·intro hgr; replace hgr := gtr_t hgr; clear hE a; intro a hE
  refine wnt ?_
  refine c_true hE rfl ?_
  refine wsr ?_
  refine zm hE ?_; clear hE a; intro a hE
  refine zm hE ?_; clear hE a; intro a hE
  refine zs hE (p_sliceAt (l := 0) (h := i) rfl Tryd.underlying65 sz_69 rfl (lo_at rfl (by omega) (by omega)) (by omega) (by omega) (by omega)) ?_; clear hE a; intro a hE
  refine zm hE ?_; clear hE a; intro a hE
  refine zm hE ?_; clear hE a; intro a hE
  refine zs hE (p_arith (z := ((xs.length + 1 : Nat) : Int)) rfl rfl (add_z (by omega) (by omega) (by omega))) ?_; clear hE a; intro a hE
  refine zm hE ?_; clear hE a; intro a hE
  refine zs hE (p_arith (z := ((xs.length + 1 - i : Nat) : Int)) rfl rfl (sub_z (by omega) (by omega) (by omega))) ?_; clear hE a; intro a hE
  refine l_step rfl (o_appendZ (m := xs.length + 1 - i) 0 hE hI rfl rfl rfl rfl rfl Tryd.underlying65 Tryd.underlying3 zsb_69 rfl (by omega) rfl (by omega) (by omega) (by omega) (by omega) (by omega) ?_)
  clear hI hE a w; intro g1 cap1 cur1 w hc1 hcm1 hs1 hB hI a hE
  rw [show i - 0 + (xs.length + 1 - i) = xs.length + 1 by omega] at hE hc1
  refine za hE ?_; clear hE a; intro a hE
  refine wnt ?_
  refine wsr ?_
  refine zm hE ?_; clear hE a; intro a hE
  refine zm hE ?_; clear hE a; intro a hE
  refine zs hE (p_sliceAt (l := i) (h := (xs.length + 1)) rfl Tryd.underlying65 sz_69 (lo_at rfl (by omega) (by omega)) rfl (by omega) (by omega) (by omega)) ?_; clear hE a; intro a hE
  refine zm hE ?_; clear hE a; intro a hE
  refine l_step rfl (o_copy (news := [.slice Ak e.1.length ck, .slice Av e.2.length cv]) 0 hE hI rfl rfl rfl rfl rfl Tryd.underlying65 sz_69 rfl (by show _ = min _ _ * 2; rw [Nat.min_def, if_pos (by omega)]; rfl) (fun j u hj => by have := lit_news (hI.seg 2 rfl) j u hj; exact this) (by simp [Value.oneCell']) (by simp only [List.length_cons, List.length_nil]; omega) ?_)
  clear hI hE a w; intro w hI a hE
  try simp only [insAt, List.set_cons_succ, List.set_cons_zero, List.eraseIdx_cons_succ, List.eraseIdx_cons_zero, List.eraseIdx_zero, List.tail_cons, Nat.zero_add, Nat.zero_mul] at hI
  refine wnt ?_
  refine wp_seq ?_
  refine d_start [8] [1, 0] (by kernel_rfl) hI rfl rfl ?_
  clear hI w; intro w hI
  refine dp 0 hE rfl (p_move rfl) (fun _ => (hI.dropS [1, 0])) (listed' := #[true, false, false, false, false, false, false, false, false]) ?_; clear hE a; intro a hE
  refine dp 1 hE rfl (p_move rfl) (fun _ => (hI.dropS [1, 0])) ?_; clear hE a; intro a hE
  refine dp 2 hE rfl (p_move rfl) (fun _ => (hI.dropS [1, 0])) ?_; clear hE a; intro a hE
  refine dp 3 hE rfl (p_arith (z := ((i + 1 : Nat) : Int)) rfl rfl (add_z (by omega) (by omega) (by omega))) (fun _ => (hI.dropS [1, 0])) ?_; clear hE a; intro a hE
  refine dp 4 hE rfl (p_sliceAt (l := (i + 1)) (h := (xs.length + 1)) rfl Tryd.underlying65 sz_69 (lo_at rfl (by omega) (by omega)) rfl (by omega) (by omega) (by omega)) (fun _ => (hI.dropS [1, 0])) ?_; clear hE a; intro a hE
  refine dp 5 hE rfl (p_move rfl) (fun _ => (hI.dropS [1, 0])) ?_; clear hE a; intro a hE
  refine dp 6 hE rfl (p_move rfl) (fun _ => (hI.dropS [1, 0])) ?_; clear hE a; intro a hE
  refine dp 7 hE rfl (p_sliceAt (l := i) (h := xs.length) rfl Tryd.underlying65 sz_69 (lo_at rfl (by omega) (by omega)) rfl (by omega) (by omega) (by omega)) (fun _ => (hI.dropS [1, 0])) ?_; clear hE a; intro a hE
  refine do1 8 hE rfl ?_
  refine o_copy (news := news) 0 hE hI rfl rfl rfl rfl rfl Tryd.underlying65 sz_69 rfl (by show _ = min _ _ * 2; rw [hnl, Nat.min_def]; split <;> omega) (fun j u hj => by rw [addr_add, cell_of (hI.seg 1 rfl)]; simp only [Nat.zero_add, Nat.zero_mul]; rw [← hnn j (by have := (List.getElem?_eq_some_iff.1 hj).1; omega)]; exact hj) (hn1) (by rw [size_splice]; omega) ?_
  clear hI hE a w; intro w hI a hE
  try simp only [insAt, List.set_cons_succ, List.set_cons_zero, List.eraseIdx_cons_succ, List.eraseIdx_cons_zero, List.eraseIdx_zero, List.tail_cons, Nat.zero_add, Nat.zero_mul] at hI
  refine ⟨nl, ?_⟩
  refine d_done (by kernel_rfl) ?_
  refine then_normal ?_
  refine wsr ?_
  refine zm hE ?_; clear hE a; intro a hE
  refine za hE ?_; clear hE a; intro a hE
  refine wnt ?_
  refine wp_ret ?_
  refine then_ret ?_
  refine ret1 rfl hE rfl ?_
  exact ⟨_, OR.ofAt (by rw [List.length_insertIdx, if_pos (by omega)]) (by rw [List.length_insertIdx, if_pos (by omega)]; omega) hcm1 (by rw [size_splice, size_splice]; exact hs1) (fin_grow hat (by omega) ⟨_, _, rfl, hk, hv, hok⟩ hnl hnn (by omega) hB), (hI.erase 1).erase 1⟩
 intro hgr; replace hgr := gtr_f hgr; clear hE a; intro a hE
 refine wnt ?_
 refine c_false hE rfl ?_
 refine wp_skip ?_
 refine then_normal ?_
 refine wsr ?_
 refine zm hE ?_; clear hE a; intro a hE
 refine zm hE ?_; clear hE a; intro a hE
 refine zm hE ?_; clear hE a; intro a hE
 refine zs hE (p_arith (z := ((xs.length + 1 : Nat) : Int)) rfl rfl (add_z (by omega) (by omega) (by omega))) ?_; clear hE a; intro a hE
 refine zs hE (p_sliceAt (l := 0) (h := (xs.length + 1)) rfl Tryd.underlying65 sz_69 rfl (lo_at rfl (by omega) (by omega)) (by omega) (by omega) (by omega)) ?_; clear hE a; intro a hE
 refine za hE ?_; clear hE a; intro a hE
 refine wnt ?_
 refine wp_seq ?_
 refine wsr ?_
 refine zm hE ?_; clear hE a; intro a hE
 refine zm hE ?_; clear hE a; intro a hE
 refine zm hE ?_; clear hE a; intro a hE
 refine zm hE ?_; clear hE a; intro a hE
 refine zs hE (p_arith (z := ((i + 1 : Nat) : Int)) rfl rfl (add_z (by omega) (by omega) (by omega))) ?_; clear hE a; intro a hE
 refine zs hE (p_sliceAt (l := (i + 1)) (h := (xs.length + 1)) rfl Tryd.underlying65 sz_69 (lo_at rfl (by omega) (by omega)) rfl (by omega) (by omega) (by omega)) ?_; clear hE a; intro a hE
 have hne : b ≠ g0 := by have := hI.nodup; simp at this; exact fun h => this.1.1 h.symm
 refine zl hE (r_overlaps (tr := 4) (fn := Tryd.f132) rfl Tryd.func132 rfl rfl (by kernel_rfl) (by kernel_rfl) Tryd.underlying65 sz_69 (hI.seg 1 rfl) (hI.seg 0 rfl) hne (by omega)) ?_; clear hE a; intro a hE
 refine zs hE (p_not rfl) ?_; clear hE a; intro a hE
 refine wnt ?_
 refine c_true hE rfl ?_
 refine wp_seq ?_
 refine d_start [8] [0] (by kernel_rfl) hI rfl rfl ?_
 clear hI w; intro w hI
 refine dp 0 hE rfl (p_move rfl) (fun _ => (hI.dropS [0])) (listed' := #[true, false, false, false, false, false, false, false, false]) ?_; clear hE a; intro a hE
 refine dp 1 hE rfl (p_move rfl) (fun _ => (hI.dropS [0])) ?_; clear hE a; intro a hE
 refine dp 2 hE rfl (p_move rfl) (fun _ => (hI.dropS [0])) ?_; clear hE a; intro a hE
 refine dp 3 hE rfl (p_arith (z := ((i + 1 : Nat) : Int)) rfl rfl (add_z (by omega) (by omega) (by omega))) (fun _ => (hI.dropS [0])) ?_; clear hE a; intro a hE
 refine dp 4 hE rfl (p_sliceAt (l := (i + 1)) (h := (xs.length + 1)) rfl Tryd.underlying65 sz_69 (lo_at rfl (by omega) (by omega)) rfl (by omega) (by omega) (by omega)) (fun _ => (hI.dropS [0])) ?_; clear hE a; intro a hE
 refine dp 5 hE rfl (p_move rfl) (fun _ => (hI.dropS [0])) ?_; clear hE a; intro a hE
 refine dp 6 hE rfl (p_move rfl) (fun _ => (hI.dropS [0])) ?_; clear hE a; intro a hE
 refine dp 7 hE rfl (p_sliceAt (l := i) (h := (xs.length + 1)) rfl Tryd.underlying65 sz_69 (lo_at rfl (by omega) (by omega)) rfl (by omega) (by omega) (by omega)) (fun _ => (hI.dropS [0])) ?_; clear hE a; intro a hE
 refine do1 8 hE rfl ?_
 refine o_copy (news := news) 0 hE hI rfl rfl rfl rfl rfl Tryd.underlying65 sz_69 rfl (by show _ = min _ _ * 2; rw [hnl, Nat.min_def]; split <;> omega) (fun j u hj => by rw [addr_add, cell_of (hI.seg 0 rfl)]; simp only [Nat.zero_add, Nat.zero_mul]; rw [← hnn j (by have := (List.getElem?_eq_some_iff.1 hj).1; omega)]; exact hj) (hn1) (by omega) ?_
 clear hI hE a w; intro w hI a hE
 try simp only [insAt, List.set_cons_succ, List.set_cons_zero, List.eraseIdx_cons_succ, List.eraseIdx_cons_zero, List.eraseIdx_zero, List.tail_cons, Nat.zero_add, Nat.zero_mul] at hI
 refine ⟨nl, ?_⟩
 refine d_done (by kernel_rfl) ?_
 refine then_normal ?_
 refine wsr ?_
 refine zm hE ?_; clear hE a; intro a hE
 refine zm hE ?_; clear hE a; intro a hE
 refine zs hE (p_sliceAt (l := i) (h := (xs.length + 1)) rfl Tryd.underlying65 sz_69 (lo_at rfl (by omega) (by omega)) rfl (by omega) (by omega) (by omega)) ?_; clear hE a; intro a hE
 refine zm hE ?_; clear hE a; intro a hE
 refine l_step rfl (o_copy (news := [.slice Ak e.1.length ck, .slice Av e.2.length cv]) 0 hE hI rfl rfl rfl rfl rfl Tryd.underlying65 sz_69 rfl (by show _ = min _ _ * 2; rw [Nat.min_def, if_pos (by omega)]; rfl) (fun j u hj => by have := lit_news (hI.seg 1 rfl) j u hj; exact this) (by simp [Value.oneCell']) (by rw [size_splice]; simp only [List.length_cons, List.length_nil]; omega) ?_)
 clear hI hE a w; intro w hI a hE
 try simp only [insAt, List.set_cons_succ, List.set_cons_zero, List.eraseIdx_cons_succ, List.eraseIdx_cons_zero, List.eraseIdx_zero, List.tail_cons, Nat.zero_add, Nat.zero_mul] at hI
 refine wnt ?_
 refine wsr ?_
 refine zm hE ?_; clear hE a; intro a hE
 refine za hE ?_; clear hE a; intro a hE
 refine wnt ?_
 refine wp_ret ?_
 refine then_ret ?_
 refine ret1 rfl hE rfl ?_
 exact ⟨_, OR.ofAt (by rw [List.length_insertIdx, if_pos (by omega)]; omega) (by rw [List.length_insertIdx, if_pos (by omega)]; omega) hcm (by rw [size_splice, size_splice]; exact hsz) (fin_shift hat (by omega) ⟨_, _, rfl, hk, hv, hok⟩ hnl hnn (by omega)), hI.erase 1⟩
theorem Delete_spec {w0 w : World} {D : Sto} {ss : List Seg} {s : Seg} {ve : Value} {xs : Ens} {i : Nat} (hI : Inv w0 D (s :: ss) w) (hO : OR 2 EnR D 69 ve xs s) (hi : i < xs.length) (hlen : xs.length ≤ 8) :
  Calls Tryd.prog 122 #[ve, .int .i64 (i : Nat), .int .i64 ((i + 1 : Nat) : Int)] w (Ret fun r w' => ∃ s', OR 2 EnR D 69 r (xs.eraseIdx i) s' ∧ Inv w0 D (s' :: ss) w') := by
 obtain ⟨A1, c1, rfl, hcap⟩ := hO.slice
 rcases A1 with _ | A1
 ·exfalso; have := hO.none.1; rw [this] at hi; simp at hi
 obtain ⟨g0, cur, rfl, _, rfl, _, hcm, hsz, hat⟩ := hO.some
 obtain ⟨news, hnl, hnn, hn1⟩ := cellsOf hat ((i + 1) * 2) ((xs.length - (i + 1)) * 2) (by omega)
 obtain ⟨B, hB, hBa⟩ : ∃ B : Addr, (if c1 = i + 1 then some (⟨g0, 0, none⟩ : Addr) else (some (⟨g0, 0, none⟩ : Addr)).map (·.add ((i + 1) * 2))) = some B ∧ (c1 ≠ i + 1 → B = ⟨g0, (i + 1) * 2, none⟩) := by
  by_cases h : c1 = i + 1
  ·exact ⟨_, by rw [if_pos h], fun h' => absurd h h'⟩
  exact ⟨_, by rw [if_neg h]; rfl, fun _ => by simp [addr_add]⟩
 refine enter (N := 33) Tryd.func122 rfl rfl rfl ?_
 intro a hE
 refine wsr ?_
 refine za hE ?_; clear hE a; intro a hE
 refine wnt ?_
 refine wsr ?_
 refine zm hE ?_; clear hE a; intro a hE
 refine zm hE ?_; clear hE a; intro a hE
 refine zm hE ?_; clear hE a; intro a hE
 refine zm hE ?_; clear hE a; intro a hE
 refine zs hE (p_len rfl rfl Tryd.underlying65) ?_; clear hE a; intro a hE
 refine zs hE (p_slice3 (l := i) (h := (i + 1)) (m := xs.length) rfl Tryd.underlying65 sz_69 rfl rfl rfl (by omega) (by omega) (by omega)) ?_; clear hE a; intro a hE
 refine wnt ?_
 refine wp_seq ?_
 refine wsr ?_
 refine zm hE ?_; clear hE a; intro a hE
 refine zm hE ?_; clear hE a; intro a hE
 refine zs hE (p_cmp rfl rfl (eql_n (by omega))) ?_; clear hE a; intro a hE
 refine wnt ?_
 refine c_false hE rfl ?_
 refine wp_skip ?_
 refine then_normal ?_
 refine wsr ?_
 refine zm hE ?_; clear hE a; intro a hE
 refine zs hE (p_len rfl rfl Tryd.underlying65) ?_; clear hE a; intro a hE
 refine za hE ?_; clear hE a; intro a hE
 refine wnt ?_
 refine wp_seq ?_
 refine d_start [6] [0] (by kernel_rfl) hI rfl rfl ?_
 clear hI w; intro w hI
 refine dp 0 hE rfl (p_move rfl) (fun _ => (hI.dropS [0])) (listed' := #[true, false, false, false, false, false, false, false]) ?_; clear hE a; intro a hE
 refine dp 1 hE rfl (p_move rfl) (fun _ => (hI.dropS [0])) ?_; clear hE a; intro a hE
 refine dp 2 hE rfl (p_sliceAt (l := 0) (h := i) rfl Tryd.underlying65 sz_69 rfl (lo_at rfl (by omega) (by omega)) (by omega) (by omega) (by omega)) (fun _ => (hI.dropS [0])) ?_; clear hE a; intro a hE
 refine dp 3 hE rfl (p_move rfl) (fun _ => (hI.dropS [0])) ?_; clear hE a; intro a hE
 refine dp 4 hE rfl (p_move rfl) (fun _ => (hI.dropS [0])) ?_; clear hE a; intro a hE
 refine dp 5 hE rfl (p_sliceB (l := (i + 1)) (h := xs.length) (B := some B) rfl Tryd.underlying65 sz_69 (lo_at rfl (by omega) (by omega)) rfl (by omega) (by omega) hB) (fun _ => (hI.dropS [0])) ?_; clear hE a; intro a hE
 refine do1 6 hE rfl ?_
 refine o_appendIn (news := news) 0 hE hI rfl rfl rfl rfl rfl Tryd.underlying65 (by rw [Tryd.underlying65]) sz_69 rfl (by rw [hnl]) (fun j u hj => by have hj2 := (List.getElem?_eq_some_iff.1 hj).1; rw [hBa (by omega), addr_add, cell_of (hI.seg 0 rfl), ← hnn j (by omega)]; exact hj) hn1 (by omega) (by omega) ?_
 clear hI hE a w; intro w hI a hE
 try simp only [insAt, List.set_cons_succ, List.set_cons_zero, List.eraseIdx_cons_succ, List.eraseIdx_cons_zero, List.eraseIdx_zero, List.tail_cons, Nat.zero_add, Nat.zero_mul] at hI
 refine ⟨nl, ?_⟩
 refine dp 7 hE rfl (p_assign rfl) nl ?_; clear hE a; intro a hE
 refine d_done (by kernel_rfl) ?_
 refine then_normal ?_
 refine wsr ?_
 refine zm hE ?_; clear hE a; intro a hE
 refine zm hE ?_; clear hE a; intro a hE
 refine zs hE (p_len rfl rfl Tryd.underlying65) ?_; clear hE a; intro a hE
 refine zm hE ?_; clear hE a; intro a hE
 refine zs hE (p_sliceAt (l := (xs.length - 1)) (h := xs.length) rfl Tryd.underlying65 sz_69 (lo_at rfl (by omega) (by omega)) (lo_at rfl (by omega) (by omega)) (by omega) (by omega) (by omega)) ?_; clear hE a; intro a hE
 refine l_step rfl (o_clear_ (size := 2) 0 hE hI rfl rfl rfl rfl Tryd.underlying65 zer_69 rfl (by simp [Value.cells, Value.oneCell']) rfl (by rw [size_splice]; omega) ?_)
 clear hI w; intro w zs hzs hI
 try simp only [insAt, List.set_cons_succ, List.set_cons_zero, List.eraseIdx_cons_succ, List.eraseIdx_cons_zero, List.eraseIdx_zero, List.tail_cons, Nat.zero_add, Nat.zero_mul] at hI
 refine wnt ?_
 refine wsr ?_
 refine zm hE ?_; clear hE a; intro a hE
 refine za hE ?_; clear hE a; intro a hE
 refine wnt ?_
 refine wp_ret ?_
 refine ret1 rfl hE rfl ?_
 have hzs2 : zs.length = 2 := by omega
 rw [show i - 0 + (xs.length - (i + 1)) = xs.length - 1 by omega]
 exact ⟨_, OR.ofAt (by rw [List.length_eraseIdx, if_pos hi]) (by rw [List.length_eraseIdx, if_pos hi]; omega) hcm (by rw [size_splice, size_splice]; exact hsz) (fin_erase hat hi hnl hnn hzs2 (by omega)), hI⟩
end Go.Proofs.YtbogbnkckofpdaaDoor.B
