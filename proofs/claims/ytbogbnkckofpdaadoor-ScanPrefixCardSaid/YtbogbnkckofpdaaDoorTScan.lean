/- What functions of the program compute, each function once: steps over the model, and the plain law of it. -/
import Derived.Test.YtbogbnkckofpdaaDoorTFirst
import Derived.Test.YtbogbnkckofpdaaDoorTScanRel
namespace Go.Proofs.YtbogbnkckofpdaaDoor.B
open Go Go.Proofs
set_option linter.unusedVariables false
set_option linter.unusedSimpArgs false
set_option maxRecDepth 20000
set_option maxHeartbeats 8000000
namespace FTScan
theorem agg_69 : aggSize Tryd.prog 69 = some 2 := by kernel_rfl
theorem ent_115 : enters Tryd.prog 115 = true := by kernel_rfl
theorem ent_33 : enters Tryd.prog 33 = true := by kernel_rfl
theorem ent_41 : enters Tryd.prog 41 = true := by kernel_rfl
theorem ent_49 : enters Tryd.prog 49 = true := by kernel_rfl
theorem ent_73 : enters Tryd.prog 73 = true := by kernel_rfl
theorem ent_81 : enters Tryd.prog 81 = true := by kernel_rfl
theorem ent_82 : enters Tryd.prog 82 = true := by kernel_rfl
theorem ent_83 : enters Tryd.prog 83 = true := by kernel_rfl
theorem ent_84 : enters Tryd.prog 84 = true := by kernel_rfl
theorem fo_69_0 : fieldOff Tryd.prog 69 0 = some 0 := by kernel_rfl
theorem scal_22 : isScal Tryd.prog 22 = true := by kernel_rfl
theorem scal_25 : isScal Tryd.prog 25 = true := by kernel_rfl
theorem scal_3 : isScal Tryd.prog 3 = true := by kernel_rfl
theorem scal_52 : isScal Tryd.prog 52 = true := by kernel_rfl
theorem sz_22 : (Tryd.prog.info? 22).map (·.size) = some 1 := by kernel_rfl
theorem sz_25 : (Tryd.prog.info? 25).map (·.size) = some 1 := by kernel_rfl
theorem sz_3 : (Tryd.prog.info? 3).map (·.size) = some 1 := by kernel_rfl
theorem sz_69 : (Tryd.prog.info? 69).map (·.size) = some 2 := by kernel_rfl
theorem zer_25 : (Tryd.prog.info? 25).bind (·.zero) = some (.nilIface) := by kernel_rfl
theorem zer_3 : (Tryd.prog.info? 3).bind (·.zero) = some (.int .i64 0) := by kernel_rfl
theorem zer_69 : (Tryd.prog.info? 69).bind (·.zero) = some (.agg #[.slice none 0 0, .slice none 0 0]) := by kernel_rfl
end FTScan
open FTScan
def toldTo (to key : Bs) : Bool := decide (to = []) || ltB key to
theorem Told_spec {w0 w : World} {D : Sto} {ss : List Seg} (hI : Inv w0 D ss w) {vk vt : Value} {key to : Bs} (hk : RB D vk key) (ht : RB D vt to) {bt T : Nat} {fr : Nat × Nat} (hb : D bt = some (.cells #[vt] T fr)) (hlk : key.length ≤ 100000) (hlt : to.length ≤ 100000) :
    Calls Tryd.prog 83 #[vk, .pointer (some ⟨bt, 0, none⟩)] w (Ret fun r w' => (r = .bool true ∧ toldTo to key = true ∧ Inv w0 D ss w') ∨ (r = .bool false ∧ ¬ toldTo to key = true ∧ Inv w0 D ss w')) := by
  obtain ⟨A1, c2, rfl, _⟩ := hk.slice
  obtain ⟨A9, c9, rfl, _⟩ := ht.slice
  refine enter (N := 13) Tryd.func83 rfl rfl rfl ?_
  intro a hE
  refine wsr ?_
  refine qa hE rfl rfl rfl rfl rfl ?_; clear hE a; intro a hE
  refine wnt ?_
  refine wsr ?_
  refine ql hE rfl rfl rfl (f_load rfl scal_22 (hI.data _ _ (hb)) rfl) ?_; clear hE a; intro a hE
  refine qs hE rfl rfl rfl (p_len rfl rfl Tryd.underlying22) ?_; clear hE a; intro a hE
  refine l_step rfl (o_cmp hE rfl rfl rfl rfl rfl rfl ?_ ?_)
  · intro h0; replace h0 := eql_t h0; clear hE a; intro a hE
    refine qm hE rfl rfl rfl rfl rfl ?_; clear hE a; intro a hE
    refine l_skip hE rfl rfl rfl ?_; clear hE a; intro a hE
    refine l_skip hE rfl rfl rfl ?_; clear hE a; intro a hE
    refine l_skip hE rfl rfl rfl ?_; clear hE a; intro a hE
    refine l_skip hE rfl rfl rfl ?_; clear hE a; intro a hE
    refine qs hE rfl rfl rfl (p_pick (b := true) rfl rfl) ?_; clear hE a; intro a hE
    refine qa hE rfl rfl rfl rfl rfl ?_; clear hE a; intro a hE
    refine wnt ?_
    refine wp_ret ?_
    refine ret1 rfl hE rfl ?_
    first | exact .inl ⟨rfl, by simp only [toldTo, Bool.or_eq_true, decide_eq_true_eq]; exact .inl (List.length_eq_zero_iff.1 (by omega)), hI⟩ | exact .inl ⟨rfl, by simp only [toldTo, Bool.or_eq_true, decide_eq_true_eq]; exact .inr ((cmpL_lt _ _).1 h1), hI⟩ | exact .inr ⟨rfl, by simp only [toldTo, Bool.or_eq_true, decide_eq_true_eq]; rintro (q | q); (exact h0 (by rw [q]; rfl)); (have := (cmpL_lt _ _).2 q; omega), hI⟩
  intro h0; replace h0 := eql_f h0; clear hE a; intro a hE
  refine qm hE rfl rfl rfl rfl rfl ?_; clear hE a; intro a hE
  refine l_go hE rfl (o_pure hE rfl rfl (p_move rfl).run ?_); clear hE a; intro a hE
  refine l_go hE rfl (o_pure hE rfl rfl (f_load rfl scal_22 (hI.data _ _ (hb)) rfl) ?_); clear hE a; intro a hE
  refine l_go hE rfl (o_call hE rfl rfl rfl rfl ent_84 (Compare_spec hI hk ht) ?_)
  clear hI hE a
  rintro r w ⟨rfl, hI⟩ a hE
  refine l_go hE rfl (o_cmp hE rfl rfl rfl rfl rfl rfl ?_ ?_)
  · intro h1; replace h1 := lss_t h1; clear hE a; intro a hE
    refine qs hE rfl rfl rfl (p_pick (b := false) rfl rfl) ?_; clear hE a; intro a hE
    refine qa hE rfl rfl rfl rfl rfl ?_; clear hE a; intro a hE
    refine wnt ?_
    refine wp_ret ?_
    refine ret1 rfl hE rfl ?_
    first | exact .inl ⟨rfl, by simp only [toldTo, Bool.or_eq_true, decide_eq_true_eq]; exact .inl (List.length_eq_zero_iff.1 (by omega)), hI⟩ | exact .inl ⟨rfl, by simp only [toldTo, Bool.or_eq_true, decide_eq_true_eq]; exact .inr ((cmpL_lt _ _).1 h1), hI⟩ | exact .inr ⟨rfl, by simp only [toldTo, Bool.or_eq_true, decide_eq_true_eq]; rintro (q | q); (exact h0 (by rw [q]; rfl)); (have := (cmpL_lt _ _).2 q; omega), hI⟩
  intro h1; replace h1 := lss_f h1; clear hE a; intro a hE
  refine qs hE rfl rfl rfl (p_pick (b := false) rfl rfl) ?_; clear hE a; intro a hE
  refine qa hE rfl rfl rfl rfl rfl ?_; clear hE a; intro a hE
  refine wnt ?_
  refine wp_ret ?_
  refine ret1 rfl hE rfl ?_
  first | exact .inl ⟨rfl, by simp only [toldTo, Bool.or_eq_true, decide_eq_true_eq]; exact .inl (List.length_eq_zero_iff.1 (by omega)), hI⟩ | exact .inl ⟨rfl, by simp only [toldTo, Bool.or_eq_true, decide_eq_true_eq]; exact .inr ((cmpL_lt _ _).1 h1), hI⟩ | exact .inr ⟨rfl, by simp only [toldTo, Bool.or_eq_true, decide_eq_true_eq]; rintro (q | q); (exact h0 (by rw [q]; rfl)); (have := (cmpL_lt _ _).2 q; omega), hI⟩
theorem RB.at {D : Sto} {v : Value} {bs bs' : List Nat} (h : RB D v bs) (e : bs = bs') : RB D v bs' := e ▸ h
theorem curE_len {kv : Ens} (h : ∀ e ∈ kv, e.1.length ≤ 32) (n : Nat) : (curE kv n).1.length ≤ 32 := by
  unfold curE
  cases hx : kv[n]? with
  | none => simp
  | some e => exact h e (List.mem_of_getElem? hx)
theorem each_spec {w0 w : World} {D : Sto} {ss ms : List Seg} {sp : Seg} {vp vk vt : Value} {P : Pl} {kv : Ens} {frm : Bs} {s l : Nat} {told : Bs → Bool} {J Jx : Nat → Sto → List Seg → Prop} (hI : Inv w0 D (sp :: (ms ++ ss)) w) {ad : Nat → Addr} (hS : TSents D ad) (hP : PoolS D vp P sp) (hO : PoolOk P kv) (hk : RB D vk frm) (hfl : frm.length ≤ 32) (hs : fromK frm false kv = s) (ht : ToldOk D vt told) (hR : Rounds w0 D vp P l kv s told J Jx) (hJ0 : J 0 D ms) :
    Calls Tryd.prog 82 #[vp, vk, vt, .func (.yield l) #[] #[]] w (Ret fun r w' => IterPost w0 D ss vp P kv s told J Jx w') := by
  have Hmono := hR.mono
  obtain ⟨q, hq⟩ := hP.ptr
  subst hq
  obtain ⟨ft, cap, rfl, hft, htold⟩ := ht
  have hso := hO.sorted
  have hlk := hO.len
  have hkeys := hO.keys
  obtain ⟨A1, c2, rfl, _⟩ := hk.slice
  have hok0 : (newBt P).from_ frm false = .ok (kv[s + 0]?) := by rw [hO.next hfl, hs]; rfl
  refine enter (N := 52) Tryd.func82 rfl rfl rfl ?_
  intro a hE
  refine c_scope ?_
  refine wsr ?_
  refine qm hE rfl rfl rfl rfl rfl ?_; clear hE a; intro a hE
  refine l_step rfl (o_call hE rfl rfl rfl rfl ent_33 (New_spec hI P (some ⟨q, 0, none⟩)) ?_)
  clear hI hE a
  rintro r w ⟨sb3, hB4, hI⟩ a hE
  obtain ⟨bb5, hvb⟩ := BatchS.ptr hB4
  subst hvb
  refine qm hE rfl rfl rfl rfl rfl ?_; clear hE a; intro a hE
  replace hI := hI.bring 1
  replace hI := hI.bring 1
  refine l_step rfl (o_call hE rfl rfl rfl rfl ent_49 (Next_ok (res := kv[s + 0]?) hI hS hB4 hP rfl hk hok0) ?_)
  clear hI hE a
  rintro r w ⟨D6, vk7, vv8, sb9, sp10, hD11, rfl, hk12, hv13, hP14, hI⟩ a hE
  replace hI := hI.drop
  obtain ⟨bi15, hbi16⟩ : ∃ b, (kv[s + 0]?).isSome = b := ⟨_, rfl⟩
  rw [hbi16] at hE
  replace hbi16 : bi15 = true ↔ (kv[s + 0]?).isSome = true := by rw [← hbi16]
  obtain ⟨A17, c18, rfl, _⟩ := hk12.slice
  obtain ⟨A19, c20, rfl, _⟩ := hv13.slice
  refine qm hE rfl rfl rfl rfl rfl ?_; clear hE a; intro a hE
  refine qs hE rfl rfl rfl (f_extract rfl rfl) ?_; clear hE a; intro a hE
  refine qs hE rfl rfl rfl (f_extract rfl rfl) ?_; clear hE a; intro a hE
  refine qs hE rfl rfl rfl (f_extract rfl rfl) ?_; clear hE a; intro a hE
  refine l_step rfl (f_alloc (cs := #[.slice none 0 0, .slice none 0 0]) hE hI rfl rfl rfl zer_69 rfl ?_)
  clear hI hE a w; intro a b21 w hE hI
  refine l_step rfl (f_store (l := [_, _]) (ss' := _ :: _) 0 hE hI rfl rfl rfl rfl rfl sz_69 (by simp [Value.cells, Value.oneCell', pgCells, rcCells, zPg]) rfl rfl rfl ?_)
  clear hI w; intro w hI
  refine qa hE rfl rfl rfl rfl rfl ?_; clear hE a; intro a hE
  refine qa hE rfl rfl rfl rfl rfl ?_; clear hE a; intro a hE
  refine wnt ?_
  refine wp_seq ?_
  refine wp_label ?_
  refine then_normal ?_
  refine wp_block ?_
  refine c_loop (X := Sto × Nat × List Seg × Seg × Value × Value × Bool) (fun x => [(0, _), (2, _), (3, _), (8, _), (9, .bool x.2.2.2.2.2.2), (10, .nilIface)]) (fun x w => s + x.2.1 ≤ kv.length + s ∧ Le D6 x.1 ∧ J x.2.1 x.1 x.2.2.1 ∧ (∀ j, j < x.2.1 → ∃ e, kv[s + j]? = some e ∧ told e.1 = true) ∧ (x.2.2.2.2.2.2 = true ↔ (kv[s + x.2.1]?).isSome = true) ∧ RB x.1 x.2.2.2.2.1 (curE kv (s + x.2.1)).1 ∧ RB x.1 x.2.2.2.2.2.1 (curE kv (s + x.2.1)).2 ∧ PoolS x.1 (.pointer (some ⟨q, 0, none⟩)) P x.2.2.2.1 ∧ Inv w0 x.1 ([(b21, .cells #[x.2.2.2.2.1, x.2.2.2.2.2.1] 69 (0, 0))] :: x.2.2.2.1 :: (x.2.2.1 ++ ss)) w) (fun x => kv.length - x.2.1) (D6, 0, ms, sp10, .slice A17 _ c18, .slice A19 _ c20, bi15) (hE.pick [0, 2, 3, 8, 9, 10]) ⟨by show s + 0 ≤ _; omega, Le.refl _, Hmono _ _ _ _ hD11 hJ0, fun j hj => absurd hj (Nat.not_lt_zero _), hbi16, hk12, hv13, hP14, hI⟩ ?_
  clear hE hI a w
  rintro ⟨D1, i, ms1, sp1, vk1, vv1, bi⟩ a w hE ⟨hi, hD1, hJ1, hT1, hbi, hK1, hV1, hP1, hI⟩
  try dsimp only at hE
  try dsimp only at hi
  try dsimp only at hD1
  try dsimp only at hJ1
  try dsimp only at hT1
  try dsimp only at hbi
  try dsimp only at hK1
  try dsimp only at hV1
  try dsimp only at hP1
  try dsimp only at hI
  obtain ⟨Ak, ck, rfl, _⟩ := hK1.slice
  obtain ⟨Av, cv, rfl, _⟩ := hV1.slice
  refine wp_block ?_
  refine wp_seq ?_
  refine wp_block ?_
  refine wsr ?_
  refine qm hE rfl rfl rfl rfl rfl ?_; clear hE a; intro a hE
  refine qs hE rfl rfl rfl (p_ifaceNil Tryd.underlying25 rfl rfl rfl) ?_; clear hE a; intro a hE
  refine qa hE rfl rfl rfl rfl rfl ?_; clear hE a; intro a hE
  refine wnt ?_
  refine c_false hE rfl ?_
  refine wsr ?_
  refine qm hE rfl rfl rfl rfl rfl ?_; clear hE a; intro a hE
  rcases Bool.eq_false_or_eq_true bi with rfl | rfl
  · replace hbi := iff_t hbi
    refine qs hE rfl rfl rfl (p_not rfl) ?_; clear hE a; intro a hE
    refine qm hE rfl rfl rfl rfl rfl ?_; clear hE a; intro a hE
    refine l_go hE rfl (o_pure hE rfl rfl (p_move rfl).run ?_); clear hE a; intro a hE
    refine l_go hE rfl (o_pure hE rfl rfl (p_fieldAddr (m := 0) rfl fo_69_0 rfl).run ?_); clear hE a; intro a hE
    refine l_go hE rfl (o_pure hE rfl rfl (f_load rfl scal_22 (hI.seg 0 rfl) rfl) ?_); clear hE a; intro a hE
    refine l_go hE rfl (o_callv hE rfl rfl rfl rfl rfl rfl hft (htold _ _ _ _ _ _ (hD11.trans hD1) hI hK1 (by have := curE_len hkeys (s + i); omega)) ?_)
    clear hI hE a
    rintro r w h a hE; rcases h with ⟨rfl, ht22, hI⟩ | ⟨rfl, ht22, hI⟩
    · skip
      refine l_go hE rfl (o_pure hE rfl rfl (p_not rfl).run ?_); clear hE a; intro a hE
      refine qs hE rfl rfl rfl (p_pick (b := false) rfl rfl) ?_; clear hE a; intro a hE
      refine qa hE rfl rfl rfl rfl rfl ?_; clear hE a; intro a hE
      refine wnt ?_
      refine c_false hE rfl ?_
      refine wp_skip ?_
      refine blk_normal ?_
      refine then_normal ?_
      refine wp_seq ?_
      obtain ⟨e9, he9⟩ := Option.isSome_iff_exists.1 hbi
      have hcur9 : curE kv (s + i) = e9 := by rw [curE, he9]; rfl
      have hE1 : (curE kv (s + i)).1 = e9.1 := by rw [hcur9]
      have hE2 : (curE kv (s + i)).2 = e9.2 := by rw [hcur9]
      have hkey9 := hE1
      have htl9 : told e9.1 = true := hE1 ▸ ht22
      have hlt9 := (List.getElem?_eq_some_iff.1 he9).1
      refine wp_region_list ?_
      refine qs hE rfl rfl rfl (p_fieldAddr (m := 0) rfl fo_69_0 rfl) ?_; clear hE a; intro a hE
      refine ql hE rfl rfl rfl (f_load rfl scal_22 (hI.seg 0 rfl) rfl) ?_; clear hE a; intro a hE
      refine l_step rfl (o_call hE rfl rfl rfl rfl ent_73 (Clone_data (bs := (curE kv (s + i)).1) hI hK1 (by have := curE_len hkeys (s + i); omega)) ?_)
      clear hI hE a
      rintro r w ⟨D23, hD24, hI, hb25⟩ a hE
      obtain ⟨A26, c27, rfl, _⟩ := hb25.slice
      refine qa hE rfl rfl rfl rfl rfl ?_; clear hE a; intro a hE
      refine wnt ?_
      refine wp_seq ?_
      refine wp_seq ?_
      refine y_region ?_
      refine y_step rfl (fun _ h => by cases h) (o_pure hE rfl rfl (p_move rfl).run ?_); clear hE a; intro a hE
      refine y_step rfl (fun _ h => by cases h) (o_pure hE rfl rfl (f_loadA (vs := [_, _]) rfl agg_69 (hI.seg 0 rfl) rfl rfl) ?_); clear hE a; intro a hE
      obtain ⟨rr, hl0, hz0, hround⟩ := hR.round i e9 _ ms1 sp1 _ w _ _ he9 htl9 ((hD11.trans hD1).trans hD24) (Hmono _ _ _ _ hD24 hJ1) (hP1.mono hD24) (RB.at (hK1.mono hD24) hE1) (RB.at (hV1.mono hD24) hE2) hI.give
      refine y_yield hE rfl rfl rfl rfl rfl rfl hl0 hz0 (hround.mono ?_)
      clear hl0 hz0 hround rr hI hE a w
      rintro en w ⟨b9, D9, ms9, sp9, rfl, hD9, hJ9, hX9, hP9, hI⟩
      refine ⟨_, rfl, ?_⟩; intro a hE
      replace hI := hI.fetch
      cases b9
      · skip
        refine y_step rfl (fun _ h => by cases h) (o_pure hE rfl rfl (p_not rfl).run ?_); clear hE a; intro a hE
        refine y_nil ?_
        refine then_normal ?_
        refine c_true hE rfl ?_
        refine wp_exit ?_
        refine then_exit ?_
        refine blk_other rfl ?_
        refine then_exit ?_
        refine blk_same ?_
        refine sc_normal ?_
        refine ret0 rfl hE ?_
        exact ⟨i + 1, D9, ms9, sp9, (((hD11.trans hD1).trans hD24).trans hD9), .inr (hX9 rfl), hP9, hI.drop⟩
      refine y_step rfl (fun _ h => by cases h) (o_pure hE rfl rfl (p_not rfl).run ?_); clear hE a; intro a hE
      refine y_nil ?_
      refine then_normal ?_
      refine c_false hE rfl ?_
      refine wp_skip ?_
      refine then_normal ?_
      refine wp_region_list ?_
      refine qm hE rfl rfl rfl rfl rfl ?_; clear hE a; intro a hE
      refine l_step rfl (o_call hE rfl rfl rfl rfl ent_33 (New_spec hI P (some ⟨q, 0, none⟩)) ?_)
      clear hI hE a
      rintro r w ⟨sb28, hB29, hI⟩ a hE
      obtain ⟨bb30, hvb⟩ := BatchS.ptr hB29
      subst hvb
      refine qm hE rfl rfl rfl rfl rfl ?_; clear hE a; intro a hE
      replace hI := hI.bring 2
      replace hI := hI.bring 1
      refine l_step rfl (o_call hE rfl rfl rfl rfl ent_115 (Above_ok (res := kv[s + (i + 1)]?) hI (hS.mono (((hD11.trans hD1).trans hD24).trans hD9)) hB29 hP9 rfl (hb25.mono hD9) ((congrArg (fun z => (newBt P).from_ z true) hkey9).trans (hO.above he9))) ?_)
      clear hI hE a
      rintro r w ⟨D31, vk32, vv33, sb34, sp35, hD36, rfl, hk37, hv38, hP39, hI⟩ a hE
      replace hI := hI.drop
      obtain ⟨bi40, hbi41⟩ : ∃ b, (kv[s + (i + 1)]?).isSome = b := ⟨_, rfl⟩
      rw [hbi41] at hE
      replace hbi41 : bi40 = true ↔ (kv[s + (i + 1)]?).isSome = true := by rw [← hbi41]
      obtain ⟨A42, c43, rfl, _⟩ := hk37.slice
      obtain ⟨A44, c45, rfl, _⟩ := hv38.slice
      refine qm hE rfl rfl rfl rfl rfl ?_; clear hE a; intro a hE
      refine qs hE rfl rfl rfl (f_extract rfl rfl) ?_; clear hE a; intro a hE
      refine qs hE rfl rfl rfl (f_extract rfl rfl) ?_; clear hE a; intro a hE
      refine qs hE rfl rfl rfl (f_extract rfl rfl) ?_; clear hE a; intro a hE
      refine l_step rfl (f_store (l := [_, _]) (ss' := _ :: _ :: _) 1 hE hI rfl rfl rfl rfl rfl sz_69 (by simp [Value.cells, Value.oneCell', pgCells, rcCells, zPg]) rfl rfl rfl ?_)
      clear hI w; intro w hI
      refine qa hE rfl rfl rfl rfl rfl ?_; clear hE a; intro a hE
      refine qa hE rfl rfl rfl rfl rfl ?_; clear hE a; intro a hE
      refine wpList_nil ?_
      refine blk_normal ?_
      refine then_normal ?_
      replace hI := hI.bring 1
      exact ⟨(D31, i + 1, ms9, sp35, .slice A42 _ c43, .slice A44 _ c45, bi40), hE.pick [0, 2, 3, 8, 9, 10], ⟨by show s + (i + 1) ≤ _; omega, (((hD1.trans hD24).trans hD9).trans hD36), Hmono _ _ _ _ hD36 (hJ9 rfl), by intro j hj; rcases Nat.lt_or_eq_of_le (Nat.lt_succ_iff.1 hj) with hj | rfl; exact hT1 j hj; exact ⟨_, he9, htl9⟩, hbi41, hk37, hv38, hP39, hI⟩, by show kv.length - (i + 1) < kv.length - i; omega⟩
    refine l_go hE rfl (o_pure hE rfl rfl (p_not rfl).run ?_); clear hE a; intro a hE
    refine qs hE rfl rfl rfl (p_pick (b := false) rfl rfl) ?_; clear hE a; intro a hE
    refine qa hE rfl rfl rfl rfl rfl ?_; clear hE a; intro a hE
    refine wnt ?_
    refine c_true hE rfl ?_
    refine wp_exit ?_
    refine blk_other rfl ?_
    refine then_exit ?_
    refine blk_other rfl ?_
    refine then_exit ?_
    refine blk_same ?_
    refine sc_normal ?_
    refine ret0 rfl hE ?_
    exact ⟨i, D1, ms1, sp1, (hD11.trans hD1), .inl ⟨Hmono _ _ _ _ (Le.refl _) hJ1, hT1, by intro x hx; have : curE kv (s + i) = x := (by rw [curE, hx]; rfl); rw [← this]; exact ht22⟩, hP1, hI.drop⟩
  replace hbi := iff_f hbi
  refine qs hE rfl rfl rfl (p_not rfl) ?_; clear hE a; intro a hE
  refine qm hE rfl rfl rfl rfl rfl ?_; clear hE a; intro a hE
  refine l_skip hE rfl rfl rfl ?_; clear hE a; intro a hE
  refine l_skip hE rfl rfl rfl ?_; clear hE a; intro a hE
  refine l_skip hE rfl rfl rfl ?_; clear hE a; intro a hE
  refine l_skip hE rfl rfl rfl ?_; clear hE a; intro a hE
  refine l_skip hE rfl rfl rfl ?_; clear hE a; intro a hE
  refine qs hE rfl rfl rfl (p_pick (b := true) rfl rfl) ?_; clear hE a; intro a hE
  refine qa hE rfl rfl rfl rfl rfl ?_; clear hE a; intro a hE
  refine wnt ?_
  refine c_true hE rfl ?_
  refine wp_exit ?_
  refine blk_other rfl ?_
  refine then_exit ?_
  refine blk_other rfl ?_
  refine then_exit ?_
  refine blk_same ?_
  refine sc_normal ?_
  refine ret0 rfl hE ?_
  exact ⟨i, D1, ms1, sp1, (hD11.trans hD1), .inl ⟨Hmono _ _ _ _ (Le.refl _) hJ1, hT1, by intro x hx; rw [hx] at hbi; exact (hbi rfl).elim⟩, hP1, hI.drop⟩
theorem Range1_spec {w0 w : World} {D : Sto} {ss ms : List Seg} {sp : Seg} {vp vf vt : Value} {P : Pl} {kv : Ens} {frm to : Bs} {s l : Nat} {J Jx : Nat → Sto → List Seg → Prop} (hI : Inv w0 D (sp :: (ms ++ ss)) w) {ad : Nat → Addr} (hS : TSents D ad) (hP : PoolS D vp P sp) (hO : PoolOk P kv) (hf : RB D vf frm) (ht : RB D vt to) (hfl : frm.length ≤ 32) (htl : to.length ≤ 32) (hs : fromK frm false kv = s) {b1 b2 b3 T1 T2 T3 : Nat} {fr1 fr2 fr3 : Nat × Nat} (hb1 : D b1 = some (.cells #[vf] T1 fr1)) (hb2 : D b2 = some (.cells #[vt] T2 fr2)) (hb3 : D b3 = some (.cells #[vp] T3 fr3)) (hR : Rounds w0 D vp P l kv s (toldTo to) J Jx) (hJ0 : J 0 D ms) :
    Calls Tryd.prog 81 #[.func (.yield l) #[] #[], .pointer (some ⟨b1, 0, none⟩), .pointer (some ⟨b2, 0, none⟩), .pointer (some ⟨b3, 0, none⟩)] w (Ret fun r w' => IterPost w0 D ss vp P kv s (toldTo to) J Jx w') := by
  obtain ⟨q, hq⟩ := hP.ptr
  subst hq
  obtain ⟨A1, c1, rfl, _⟩ := hf.slice
  obtain ⟨A2, c2, rfl, _⟩ := ht.slice
  refine enter (N := 22) Tryd.func81 rfl rfl rfl ?_
  intro a hE
  refine wp_seq ?_
  refine wsr ?_
  refine ql hE rfl rfl rfl (f_load rfl scal_22 (hI.data _ _ (hb1)) rfl) ?_; clear hE a; intro a hE
  refine qs hE rfl rfl rfl (p_len rfl rfl Tryd.underlying22) ?_; clear hE a; intro a hE
  refine qs hE rfl rfl rfl (p_cmp rfl rfl (gtr_n (by omega))) ?_; clear hE a; intro a hE
  refine qm hE rfl rfl rfl rfl rfl ?_; clear hE a; intro a hE
  refine l_go hE rfl (o_pure hE rfl rfl (f_load rfl scal_22 (hI.data _ _ (hb2)) rfl) ?_); clear hE a; intro a hE
  refine l_go hE rfl (o_pure hE rfl rfl (p_len rfl rfl Tryd.underlying22).run ?_); clear hE a; intro a hE
  refine l_go hE rfl (o_pure hE rfl rfl (p_cmp rfl rfl (gtr_n (by omega))).run ?_); clear hE a; intro a hE
  refine qs hE rfl rfl rfl (p_pick (b := false) rfl rfl) ?_; clear hE a; intro a hE
  refine wnt ?_
  refine c_false hE rfl ?_
  refine wp_skip ?_
  refine then_normal ?_
  refine wp_region_list ?_
  refine ql hE rfl rfl rfl (f_load rfl scal_52 (hI.data _ _ (hb3)) rfl) ?_; clear hE a; intro a hE
  refine ql hE rfl rfl rfl (f_load rfl scal_22 (hI.data _ _ (hb1)) rfl) ?_; clear hE a; intro a hE
  refine qs hE rfl rfl rfl (p_func (vs := #[]) (us := #[.pointer (some ⟨b2, 0, none⟩)]) rfl rfl) ?_; clear hE a; intro a hE
  refine qm hE rfl rfl rfl rfl rfl ?_; clear hE a; intro a hE
  refine l_step rfl (o_call hE rfl rfl rfl rfl ent_82 (each_spec (told := toldTo to) hI hS hP hO hf (by omega) hs ⟨83, #[.pointer (some ⟨b2, 0, none⟩)], rfl, ent_83, fun w0 w D1 ss vk key hD hI hk hl => Told_spec hI hk (ht.mono hD) (hD _ _ hb2) hl (by omega)⟩ hR hJ0) ?_)
  clear hI hE a
  rintro r w hpost a hE
  refine wpList_nil ?_
  refine ret0 rfl hE ?_
  exact hpost
theorem Inv.shut_one {w0 w : World} {D : Sto} {ss : List Seg} {b : Nat} {o : Obj} (h : Inv w0 D ([(b, o)] :: ss) w) : ∃ D', Le D D' ∧ Inv w0 D' ss w ∧ D' b = some o :=
  ⟨_, h.le_shut, h.shut, Sto.put_one D b o⟩
theorem Range_spec {w0 w : World} {D : Sto} {ss : List Seg} (hI : Inv w0 D ss w) {ad : Nat → Addr} (hS : TSents D ad) {P : Pl} {kv : Ens} (hO : PoolOk P kv) {q : Nat} {vf vt : Value} {frm to : Bs} {s : Nat} (hf : RB D vf frm) (ht : RB D vt to) (hfl : frm.length ≤ 32) (htl : to.length ≤ 32) (hs : fromK frm false kv = s) :
    Calls Tryd.prog 41 #[.pointer (some ⟨q, 0, none⟩), vf, vt] w (Ret fun r w' => ∃ D', Le D D' ∧ SeqOk D' r (.pointer (some ⟨q, 0, none⟩)) P kv s (toldTo to) ∧ Inv w0 D' ss w') := by
  obtain ⟨A1, c2, rfl, _⟩ := hf.slice
  obtain ⟨A3, c4, rfl, _⟩ := ht.slice
  refine enter (N := 12) Tryd.func41 rfl rfl rfl ?_
  intro a hE
  refine wsr ?_
  refine l_step rfl (f_box (cs := #[_]) hE hI rfl rfl rfl rfl rfl ?_)
  clear hI hE a w; intro a b5 w hE hI
  refine l_step rfl (f_box (cs := #[_]) hE hI rfl rfl rfl rfl rfl ?_)
  clear hI hE a w; intro a b6 w hE hI
  refine l_step rfl (f_box (cs := #[_]) hE hI rfl rfl rfl rfl rfl ?_)
  clear hI hE a w; intro a b7 w hE hI
  refine qa hE rfl rfl rfl rfl rfl ?_; clear hE a; intro a hE
  refine wnt ?_
  refine wp_seq ?_
  refine d_start [4, 5] [] (by kernel_rfl) hI rfl rfl ?_
  clear hI w; intro w hI
  refine d_load 0 hE rfl (by kernel_rfl) (by kernel_rfl) (by kernel_rfl) (by kernel_rfl) (by kernel_rfl) rfl rfl (fun _ _ _ h => h) rfl rfl rfl (fun w hS => f_load rfl scal_22 (Inv.seg 1 hS rfl) rfl) (hI) (listed' := #[true, false, false, false, false, false]) rfl ?_; clear hE a; intro a hE
  refine d_load 2 hE rfl (by kernel_rfl) (by kernel_rfl) (by kernel_rfl) (by kernel_rfl) (by kernel_rfl) rfl rfl (fun _ _ _ h => h) rfl rfl rfl (fun w hS => f_load rfl scal_22 (Inv.seg 0 hS rfl) rfl) (hI) (listed' := #[true, false, true, false, false, false]) rfl ?_; clear hE a; intro a hE
  refine d_one 1 hE rfl (by kernel_rfl) rfl (listed' := #[true, true, true, false, false, false]) rfl ?_
  refine o_call hE rfl rfl rfl rfl ent_73 (Clone_data (bs := frm) hI hf (by omega)) ?_
  clear hI hE a
  rintro r w ⟨D8, hD9, hI, hb10⟩ a hE
  obtain ⟨A11, c12, rfl, _⟩ := hb10.slice
  refine ⟨fun _ => (Inv.weaken hI hD9), ?_⟩
  refine d_one 3 hE rfl (by kernel_rfl) rfl (listed' := #[true, true, true, true, false, false]) rfl ?_
  refine o_call hE rfl rfl rfl rfl ent_73 (Clone_data (bs := to) hI (ht.mono hD9) (by omega)) ?_
  clear hI hE a
  rintro r w ⟨D13, hD14, hI, hb15⟩ a hE
  obtain ⟨A16, c17, rfl, _⟩ := hb15.slice
  refine ⟨fun _ => (Inv.weaken hI (hD9.trans hD14)), ?_⟩
  refine d_one 4 hE rfl (by kernel_rfl) rfl (listed' := #[true, true, true, true, true, false]) rfl ?_
  refine f_store (l := [_]) (ss' := _ :: _ :: _) 1 hE hI rfl rfl rfl rfl rfl sz_22 (by simp [Value.cells, Value.oneCell', pgCells, rcCells, zPg]) rfl rfl rfl ?_
  clear hI w; intro w hI
  refine ⟨(fun h => Bool.noConfusion (show false = true from h)), ?_⟩
  refine d_one 5 hE rfl (by kernel_rfl) rfl (listed' := #[true, true, true, true, true, true]) rfl ?_
  refine f_store (l := [_]) (ss' := _ :: _) 0 hE hI rfl rfl rfl rfl rfl sz_22 (by simp [Value.cells, Value.oneCell', pgCells, rcCells, zPg]) rfl rfl rfl ?_
  clear hI w; intro w hI
  refine ⟨(fun h => Bool.noConfusion (show false = true from h)), ?_⟩
  refine d_done (by kernel_rfl) ?_
  refine then_normal ?_
  refine wsr ?_
  refine qs hE rfl rfl rfl (p_func (vs := #[]) (us := #[.pointer (some ⟨b6, 0, none⟩), .pointer (some ⟨b7, 0, none⟩), .pointer (some ⟨b5, 0, none⟩)]) rfl rfl) ?_; clear hE a; intro a hE
  refine qa hE rfl rfl rfl rfl rfl ?_; clear hE a; intro a hE
  refine wnt ?_
  refine wp_ret ?_
  refine ret1 rfl hE rfl ?_
  have hle0 := (hD9.trans hD14)
  obtain ⟨Da, hDa, hIa, hda⟩ := Inv.shut_one hI
  obtain ⟨Db, hDb, hIb, hdb⟩ := Inv.shut_one hIa
  obtain ⟨Dc, hDc, hIc, hdc⟩ := Inv.shut_one hIb
  have hl2 : Le D13 Dc := (hDa.trans hDb).trans hDc
  refine ⟨Dc, hle0.trans hl2, ⟨81, _, rfl, ent_81, fun w0 w D9 ms ss sp l J Jx hD9 hI hP hR hJ => Range1_spec hI ((hS.mono (hle0.trans hl2)).mono hD9) hP hO ((hb10.mono hD14).mono (hl2.trans hD9)) (hb15.mono (hl2.trans hD9)) hfl htl hs (hD9 _ _ (hDc _ _ hdb)) (hD9 _ _ (hDc _ _ (hDb _ _ hda))) (hD9 _ _ hdc) hR hJ⟩, hIc⟩
theorem Count_spec {w0 w : World} {D : Sto} {ss : List Seg} {sp : Seg} {vp vf vt : Value} {P : Pl} {kv : Ens} {frm to : Bs} {s : Nat} (hI : Inv w0 D (sp :: ss) w) {ad : Nat → Addr} (hS : TSents D ad) (hP : PoolS D vp P sp) (hO : PoolOk P kv) (hf : RB D vf frm) (ht : RB D vt to) (hfl : frm.length ≤ 32) (htl : to.length ≤ 32) (hs : fromK frm false kv = s) :
    Calls Tryd.prog 40 #[vp, vf, vt] w (Ret fun r w' => ∃ n D' sp', r = .tuple #[.int .i64 (n : Nat), .nilIface] ∧ Done kv s (toldTo to) n ∧ Le D D' ∧ PoolS D' vp P sp' ∧ Inv w0 D' (sp' :: ss) w') := by
  obtain ⟨q, hq⟩ := hP.ptr
  subst hq
  have hlk := hO.len
  obtain ⟨A1, c2, rfl, _⟩ := hf.slice
  obtain ⟨A3, c4, rfl, _⟩ := ht.slice
  refine enterX (N := 23) Tryd.func40 rfl rfl rfl ?_
  intro a hE
  refine x_seq ?_
  refine x_region_list (by kernel_rfl) (fun _ _ h => h) ?_
  refine l_step rfl (f_alloc (cs := #[.int .i64 0]) hE hI rfl rfl rfl zer_3 rfl ?_)
  clear hI hE a w; intro a b5 w hE hI
  refine l_step rfl (f_alloc (cs := #[.nilIface]) hE hI rfl rfl rfl zer_25 rfl ?_)
  clear hI hE a w; intro a b6 w hE hI
  refine wpList_nil ?_
  refine x_then_normal ?_
  refine x_seq ?_
  refine x_region_list (by kernel_rfl) (fun _ _ h => h) ?_
  refine l_step rfl (f_alloc (cs := #[.int .i64 0]) hE hI rfl rfl rfl zer_3 rfl ?_)
  clear hI hE a w; intro a b7 w hE hI
  refine l_step rfl (f_store (l := [_]) (ss' := _ :: _) 0 hE hI rfl rfl rfl rfl rfl sz_3 (by simp [Value.cells, Value.oneCell', pgCells, rcCells, zPg]) rfl rfl rfl ?_)
  clear hI w; intro w hI
  refine wpList_nil ?_
  refine x_then_normal ?_
  refine x_seq ?_
  refine x_seq ?_
  refine x_region_list (by kernel_rfl) (fun _ _ h => h) ?_
  refine qm hE rfl rfl rfl rfl rfl ?_; clear hE a; intro a hE
  refine qm hE rfl rfl rfl rfl rfl ?_; clear hE a; intro a hE
  refine qm hE rfl rfl rfl rfl rfl ?_; clear hE a; intro a hE
  refine l_step rfl (o_call hE rfl rfl rfl rfl ent_41 (Range_spec (frm := frm) (to := to) hI hS hO hf ht hfl htl hs) ?_)
  clear hI hE a
  rintro r w ⟨D8, hD10, hq11, hI⟩ a hE
  obtain ⟨fq12, capq13, rfl, hfq14, hcall15⟩ := hq11
  refine wpList_nil ?_
  refine x_then_normal ?_
  refine x_block ?_
  refine x_range hE hI rfl hfq14 ?_
  clear hI w; intro fn16 lp16 kd16 tm16 rr16 w hT16 hR16 hI
  replace hI := hI.bring 5
  refine (hcall15 _ _ _ [_, _, _, _, _] _ sp lp16 (fun i16 D16 ms16 => ms16 = [[(lp16, .loop rr16)], [(kd16, .deferred (some []))], [(b7, .cells #[.int .i64 (i16 : Nat)] 3 (0, 0))], [(b6, .cells #[_] 25 (0, 0))], [(b5, .cells #[_] 3 (0, 0))]]) (fun _ _ _ => False) (Le.refl _) hI (hP.mono hD10) ⟨fun _ _ _ _ _ h => h, ?_⟩ rfl).mono ?_
  · clear hI hE a w
    intro i16 e16 D16 ms16 sp16 rest16 w vk16 vv16 he16 htl16 hD16 hJ16 hP16 hk16 hv16 hI
    have hJ8 : ms16 = _ := hJ16
    subst hJ8
    simp only [List.cons_append, List.nil_append] at hI
    subst hR16
    obtain ⟨Ak16, ck16, rfl, _⟩ := hk16.slice
    obtain ⟨Av16, cv16, rfl, _⟩ := hv16.slice
    have hlt16 := (List.getElem?_eq_some_iff.1 he16).1
    refine ⟨_, hI.seg 1 rfl, rfl, x_round2 hT16 rfl rfl rfl rfl ?_⟩
    intro a hE
    clear hT16
    refine x_region_list (by kernel_rfl) (fun _ _ h => h) ?_
    refine qa hE rfl rfl rfl rfl rfl ?_; clear hE a; intro a hE
    refine wpList_nil ?_
    refine x_begin 1 hI rfl rfl ?_
    clear hI w; intro w hI
    try simp only [splice, insAt, List.set_cons_succ, List.set_cons_zero, List.setIfInBounds_toArray, Value.cells, List.eraseIdx_cons_succ, List.eraseIdx_cons_zero, List.eraseIdx_zero, List.tail_cons] at hI
    refine x_block ?_
    refine x_seq ?_
    refine x_seq ?_
    refine x_region_list (by kernel_rfl) (fun _ _ h => h) ?_
    refine qm hE rfl rfl rfl rfl rfl ?_; clear hE a; intro a hE
    refine qs hE rfl rfl rfl (p_ifaceNil Tryd.underlying25 rfl rfl rfl) ?_; clear hE a; intro a hE
    refine wpList_nil ?_
    refine x_then_normal ?_
    refine x_false hE rfl ?_
    refine x_skip ?_
    refine x_then_normal ?_
    refine x_region_list (by kernel_rfl) (fun _ _ h => h) ?_
    refine ql hE rfl rfl rfl (f_load rfl scal_3 (hI.seg 3 rfl) rfl) ?_; clear hE a; intro a hE
    refine qs hE rfl rfl rfl (p_arith (z := ((i16 + 1 : Nat) : Int)) rfl rfl (add_z (by omega) (by omega) (by omega))) ?_; clear hE a; intro a hE
    refine l_step rfl (f_store (l := [_]) (ss' := _ :: _ :: _ :: _ :: _) 3 hE hI rfl rfl rfl rfl rfl sz_3 (by simp [Value.cells, Value.oneCell', pgCells, rcCells, zPg]) rfl rfl rfl ?_)
    clear hI w; intro w hI
    refine wpList_nil ?_
    refine x_blk_normal ?_
    refine x_endN 1 hI rfl ?_
    clear hI w; intro w hI
    try simp only [splice, insAt, List.set_cons_succ, List.set_cons_zero, List.setIfInBounds_toArray, Value.cells, List.eraseIdx_cons_succ, List.eraseIdx_cons_zero, List.eraseIdx_zero, List.tail_cons] at hI
    replace hI := hI.bring 5
    replace hI := hI.bring 5
    replace hI := hI.bring 5
    replace hI := hI.bring 5
    replace hI := hI.bring 5
    replace hI := hI.bring 5
    exact ⟨true, D16, _, sp16, rfl, (Le.refl _), (fun _ => rfl), (fun h => by cases h), hP16, hI⟩
  rintro _ w ⟨_, rfl, i16, D16, ms16, sp16, hD16, hor16, hP16, hI⟩
  rcases hor16 with ⟨hJ16, hdone16⟩ | hX16
  · skip
    have hJ8 : ms16 = _ := hJ16
    subst hJ8
    simp only [List.cons_append, List.nil_append] at hI
    subst hR16
    refine x_done (s := .ready) 1 hI rfl (fun h => by cases h) ?_
    clear hI w; intro w hI
    try simp only [splice, insAt, List.set_cons_succ, List.set_cons_zero, List.setIfInBounds_toArray, Value.cells, List.eraseIdx_cons_succ, List.eraseIdx_cons_zero, List.eraseIdx_zero, List.tail_cons] at hI
    refine x_blk_normal ?_
    refine x_then_normal ?_
    refine x_seq ?_
    refine x_region_list (by kernel_rfl) (fun _ _ h => h) ?_
    refine ql hE rfl rfl rfl (f_load rfl scal_3 (hI.seg 2 rfl) rfl) ?_; clear hE a; intro a hE
    refine l_step rfl (f_store (l := [_]) (ss' := _ :: _ :: _ :: _ :: _ :: _) 4 hE hI rfl rfl rfl rfl rfl sz_3 (by simp [Value.cells, Value.oneCell', pgCells, rcCells, zPg]) rfl rfl rfl ?_)
    clear hI w; intro w hI
    refine l_step rfl (f_store (l := [_]) (ss' := _ :: _ :: _ :: _ :: _) 3 hE hI rfl rfl rfl rfl rfl sz_25 (by simp [Value.cells, Value.oneCell', pgCells, rcCells, zPg]) rfl rfl rfl ?_)
    clear hI w; intro w hI
    refine wpList_nil ?_
    refine x_then_normal ?_
    refine x_ret ?_
    refine x_mark 1 hI rfl ?_
    clear hI w; intro w hI
    replace hI := hI.erase 1
    try simp only [splice, insAt, List.set_cons_succ, List.set_cons_zero, List.setIfInBounds_toArray, Value.cells, List.eraseIdx_cons_succ, List.eraseIdx_cons_zero, List.eraseIdx_zero, List.tail_cons] at hI
    refine x_fin ?_
    refine retcc rfl hE rfl rfl scal_3 scal_25 (hI.seg 3 rfl) (hI.seg 2 rfl) ?_
    replace hI := hI.erase 3
    replace hI := hI.erase 2
    replace hI := hI.erase 1
    exact ⟨i16, D16, sp16, rfl, hdone16, (hD10.trans hD16), hP16, hI⟩
  exact hX16.elim
end Go.Proofs.YtbogbnkckofpdaaDoor.B
