/- What functions of the program compute, each function once: steps over the model, and the plain law of it. -/
import Derived.Test.YtbogbnkckofpdaaDoorTTree4
namespace Go.Proofs.YtbogbnkckofpdaaDoor.B
open Go Go.Proofs
set_option linter.unusedVariables false
set_option linter.unusedSimpArgs false
set_option maxRecDepth 20000
set_option maxHeartbeats 8000000
namespace FTTree5
theorem agg_83 : aggSize Tryd.prog 83 = some 5 := by kernel_rfl
theorem built_88 : ∀ vs, Tryd.prog.built 88 vs = Instr.fill (([(0, 1), (1, 1), (2, 1), (3, 1), (4, 1), (5, 1), (6, 1), (7, 1), (8, 1), (9, 1)] : List (Nat × Nat)).toArray[·]?) ([.int .i64 0, .int .i64 0, .int .i64 0, .int .i64 0, .int .i64 0, .int .i64 0, .int .i64 0, .slice none 0 0, .slice none 0 0, .bool false] : List Value).toArray vs := fun _ => by kernel_rfl
theorem ent_107 : enters Tryd.prog 107 = true := by kernel_rfl
theorem ent_69 : enters Tryd.prog 69 = true := by kernel_rfl
theorem ent_70 : enters Tryd.prog 70 = true := by kernel_rfl
theorem ent_71 : enters Tryd.prog 71 = true := by kernel_rfl
theorem ent_72 : enters Tryd.prog 72 = true := by kernel_rfl
theorem ent_73 : enters Tryd.prog 73 = true := by kernel_rfl
theorem ent_74 : enters Tryd.prog 74 = true := by kernel_rfl
theorem ent_75 : enters Tryd.prog 75 = true := by kernel_rfl
theorem fo_69_1 : fieldOff Tryd.prog 69 1 = some 1 := by kernel_rfl
theorem fo_83_0 : fieldOff Tryd.prog 83 0 = some 0 := by kernel_rfl
theorem fo_83_4 : fieldOff Tryd.prog 83 4 = some 4 := by kernel_rfl
theorem scal_22 : isScal Tryd.prog 22 = true := by kernel_rfl
theorem scal_25 : isScal Tryd.prog 25 = true := by kernel_rfl
theorem scal_3 : isScal Tryd.prog 3 = true := by kernel_rfl
theorem scal_65 : isScal Tryd.prog 65 = true := by kernel_rfl
theorem sz_69 : (Tryd.prog.info? 69).map (·.size) = some 2 := by kernel_rfl
theorem sz_83 : (Tryd.prog.info? 83).map (·.size) = some 5 := by kernel_rfl
theorem zer_83 : (Tryd.prog.info? 83).bind (·.zero) = some (.agg #[.int .i64 0, .int .i64 0, .int .i64 0, .int .i64 0, .slice none 0 0]) := by kernel_rfl
end FTTree5
open FTTree5
section
variable {P : Program} {a : Act} {w : World} {b : Frame} {k : List Item} {cs : List Frame} {Q : Exit → Act → World → Prop}
end
theorem lastPg_eq {l : List Pg} {x : Pg} (h : l[l.length - 1]? = some x) : lastPg l = x := by
 rw [lastPg, List.getLastD_eq_getLast?, List.getLast?_eq_getElem?, h]; rfl
theorem findP_lt {es : Ens} {key : Bs} : (findP es key).2 = true → (findP es key).1 < es.length := by
 induction es with
 | nil => intro h; simp [findP] at h
 | cons e r ih =>
  simp only [findP]
  split
  ·intro h; have := ih h; simp only [List.length_cons]; omega
  intro h; simp
theorem downF_len {b : Bt} {key : Bs} : ∀ (n : Nat) (id : Int) (l : List Pg) (ks : List Nat) {l' : List Pg} {ks' : List Nat}, b.downF key n id l ks = .ok (l', ks') → l'.length ≤ l.length + n
 | 0, id, l, ks, l', ks', h => by simp [Bt.downF] at h
 | n + 1, id, l, ks, l', ks', h => by
  rw [Bt.downF] at h
  split at h
  ·cases h
  split at h
  ·injection h with h; injection h with h1 h2; subst h1; simp
  split at h
  ·cases h
  have := downF_len n _ _ _ h
  simp at this; omega
theorem down_len {b : Bt} {key : Bs} {l : List Pg} {ks : List Nat} (h : b.down key = .ok (l, ks)) : l.length ≤ 17 := by
 have := downF_len _ _ _ _ h; simpa using this
theorem rightK_len {key : Bs} (h : rightK key = true) : 1 ≤ key.length ∧ key.length ≤ 32 := by simpa [rightK] using h
theorem BGet_spec {w0 w : World} {D : Sto} {ss : List Seg} {s : Seg} {vb vp : Value} {b : Bt} {P : Pl} (hI : Inv w0 D (s :: ss) w) {ad : Nat → Addr} (hS : TSents D ad) (hT : TreeS D vb vp b P s) {vk : Value} {key : Bs} (hk : RB D vk key) :
  Calls Tryd.prog 35 #[vb, vk] w (Ret fun r w' => (∃ res, b.get key = .ok res ∧ ∃ D' vr, Le D D' ∧ r = .tuple #[vr, .bool res.isSome, .nilIface] ∧ RB D' vr (res.getD []) ∧ TreeS D' vb vp b P s ∧ Inv w0 D' (s :: ss) w') ∨ (∃ c o, b.get key = .fail c o ∧ r = .tuple #[.slice none 0 0, .bool false, errV ad c] ∧ ∃ D' s', Le D D' ∧ TreeS D' vb vp b (P.after o) s' ∧ Inv w0 D' (s' :: ss) w')) := by
 obtain ⟨A1, c2, rfl, _⟩ := hk.slice
 refine enter (N := 48) Tryd.func35 rfl rfl rfl ?_
 intro a hE
 refine wsr ?_
 refine za hE ?_; clear hE a; intro a hE
 refine za hE ?_; clear hE a; intro a hE
 refine za hE ?_; clear hE a; intro a hE
 refine wnt ?_
 refine wp_seq ?_
 refine wsr ?_
 refine zm hE ?_; clear hE a; intro a hE
 refine l_step rfl (o_call hE rfl rfl rfl rfl ent_69 (right_spec hI hk) ?_)
 clear hI hE a
 rintro r w ⟨rfl, hI⟩ a hE
 obtain ⟨bf3, hbf4⟩ : ∃ b, rightK key = b := ⟨_, rfl⟩
 rw [hbf4] at hE
 replace hbf4 : bf3 = true ↔ rightK key = true := by rw [← hbf4]
 rcases Bool.eq_false_or_eq_true bf3 with rfl | rfl
 ·replace hbf4 := iff_t hbf4
  have hrk : rightK key = true := hbf4
  have hrk2 := rightK_len hrk
  refine zs hE (p_not rfl) ?_; clear hE a; intro a hE
  refine wnt ?_
  refine c_false hE rfl ?_
  refine wp_skip ?_
  refine then_normal ?_
  refine wsr ?_
  refine zm hE ?_; clear hE a; intro a hE
  refine zm hE ?_; clear hE a; intro a hE
  refine l_step rfl (o_call hE rfl rfl rfl rfl ent_70 (down_spec hI hS hT hk) ?_)
  clear hI hE a
  rintro r w h a hE; rcases h with ⟨l5, ks6, hx7, hne8, hll9, D10, vl11, vk12, hD13, rfl, hdl14, hdk15, hT16, hI⟩ | ⟨c17, o18, hx7, rfl, D19, s20, hD21, hT22, hI⟩
  ·skip
   have hl1 : 1 ≤ l5.length := List.length_pos_iff.2 hne8
   have hl17 := down_len hx7
   obtain ⟨A23, c24, rfl, _⟩ := hdl14.slice
   obtain ⟨A25, c26, rfl, _⟩ := hdk15.slice
   refine zm hE ?_; clear hE a; intro a hE
   refine zx hE ?_; clear hE a; intro a hE
   refine zx hE ?_; clear hE a; intro a hE
   refine zx hE ?_; clear hE a; intro a hE
   refine za hE ?_; clear hE a; intro a hE
   refine za hE ?_; clear hE a; intro a hE
   refine za hE ?_; clear hE a; intro a hE
   refine wnt ?_
   refine wp_seq ?_
   refine wsr ?_
   refine zm hE ?_; clear hE a; intro a hE
   refine zs hE (p_ifaceNil Tryd.underlying25 rfl rfl rfl) ?_; clear hE a; intro a hE
   refine wnt ?_
   refine c_false hE rfl ?_
   refine wp_skip ?_
   refine then_normal ?_
   refine wsr ?_
   refine zm hE ?_; clear hE a; intro a hE
   refine zm hE ?_; clear hE a; intro a hE
   refine zs hE (p_len rfl rfl Tryd.underlying121) ?_; clear hE a; intro a hE
   refine zs hE (p_arith (z := ((l5.length - 1 : Nat) : Int)) rfl rfl (sub_z (by omega) (by omega) (by omega))) ?_; clear hE a; intro a hE
   obtain ⟨x_27, hx_27⟩ : ∃ y, (l5)[(l5.length - 1)]? = some y := ⟨_, List.getElem?_eq_getElem (by omega)⟩
   obtain ⟨b_27, o_27, cs_27, T_27, fr_27, rfl, hb_27, hat_27⟩ := hdl14.at_ (by intro h0; rw [h0] at hx_27; simp at hx_27)
   obtain ⟨vs_27, hl_27, ⟨e_27, rfl, he_27, hok_27⟩, hex_27, hsz_27, hce_27⟩ := hat_27.extract hx_27 (by omega)
   obtain ⟨A28, c29, rfl, _⟩ := he_27.slice
   refine zs hE (p_indexAddr (m := o_27 + (l5.length - 1) * 5) rfl rfl Tryd.underlying121 sz_83 (by omega) (by omega) (by simp)) ?_; clear hE a; intro a hE
   refine zl hE (r_loadA rfl agg_83 (hI.data _ _ (hb_27)) hsz_27 hex_27) ?_; clear hE a; intro a hE
   refine l_step rfl (f_alloc (cs := #[.int .i64 0, .int .i64 0, .int .i64 0, .int .i64 0, .slice none 0 0]) hE hI rfl rfl rfl zer_83 rfl ?_)
   clear hI hE a w; intro a b30 w hE hI
   refine l_step rfl (f_store (l := [_, _, _, _, _]) (ss' := _ :: _) 0 hE hI rfl rfl rfl rfl rfl sz_83 (by simp [Value.cells, Value.oneCell', pgCells, rcCells, zPg]) rfl rfl rfl ?_)
   clear hI w; intro w hI
   refine wnt ?_
   refine wsr ?_
   refine zl hE (f_loadA (vs := [_, _, _, _, _]) rfl agg_83 (hI.seg 0 rfl) rfl rfl) ?_; clear hE a; intro a hE
   refine zm hE ?_; clear hE a; intro a hE
   refine l_step rfl (o_call hE rfl rfl rfl rfl ent_71 (Find_spec (p := x_27) hI ⟨_, rfl, he_27, hok_27⟩ (hk.mono hD13)) ?_)
   clear hI hE a
   rintro r w ⟨rfl, hI⟩ a hE
   have hfl33 := findP_le x_27.ents key
   obtain ⟨bf31, hbf32⟩ : ∃ b, (findP x_27.ents key).2 = b := ⟨_, rfl⟩
   rw [hbf32] at hE
   replace hbf32 : bf31 = true ↔ (findP x_27.ents key).2 = true := by rw [← hbf32]
   refine zm hE ?_; clear hE a; intro a hE
   refine zx hE ?_; clear hE a; intro a hE
   refine zx hE ?_; clear hE a; intro a hE
   refine za hE ?_; clear hE a; intro a hE
   refine za hE ?_; clear hE a; intro a hE
   refine wnt ?_
   refine wp_seq ?_
   refine wsr ?_
   refine zm hE ?_; clear hE a; intro a hE
   rcases Bool.eq_false_or_eq_true bf31 with rfl | rfl
   ·replace hbf32 := iff_t hbf32
    have hfd_hfl33 : (findP x_27.ents key).2 = true := hbf32
    have hlt_hfl33 := findP_lt hfd_hfl33
    refine zs hE (p_not rfl) ?_; clear hE a; intro a hE
    refine wnt ?_
    refine c_false hE rfl ?_
    refine wp_skip ?_
    refine then_normal ?_
    refine wsr ?_
    refine zs hE (p_fieldAddr (m := 4) rfl fo_83_4 rfl) ?_; clear hE a; intro a hE
    refine zl hE (f_load rfl scal_65 (hI.seg 0 rfl) rfl) ?_; clear hE a; intro a hE
    refine zm hE ?_; clear hE a; intro a hE
    obtain ⟨x_34, hx_34⟩ : ∃ y, (x_27.ents)[(findP x_27.ents key).1]? = some y := ⟨_, List.getElem?_eq_getElem (by omega)⟩
    obtain ⟨b_34, o_34, cs_34, T_34, fr_34, rfl, hb_34, hat_34⟩ := he_27.at_ (by intro h0; rw [h0] at hx_34; simp at hx_34)
    obtain ⟨vs_34, hl_34, ⟨k_34, v_34, rfl, hk_34, hv_34, hok_34⟩, hex_34, hsz_34, hce_34⟩ := hat_34.extract hx_34 (by omega)
    obtain ⟨A35, c36, rfl, _⟩ := hk_34.slice
    obtain ⟨A37, c38, rfl, _⟩ := hv_34.slice
    refine zs hE (p_indexAddr (m := o_34 + (findP x_27.ents key).1 * 2) rfl rfl Tryd.underlying65 sz_69 (by omega) (by omega) (by simp)) ?_; clear hE a; intro a hE
    refine zs hE (p_fieldAddr rfl fo_69_1 rfl) ?_; clear hE a; intro a hE
    refine zl hE (r_load rfl scal_22 (hI.data _ _ (hb_34)) (hce_34 1 _ rfl)) ?_; clear hE a; intro a hE
    refine l_step rfl (o_call hE rfl rfl rfl rfl ent_73 (Clone_data (bs := x_34.2) hI hv_34 (by have := hok_34.2; omega)) ?_)
    clear hI hE a
    rintro r w ⟨D39, hD40, hI, hb41⟩ a hE
    obtain ⟨A42, c43, rfl, _⟩ := hb41.slice
    refine za hE ?_; clear hE a; intro a hE
    refine za hE ?_; clear hE a; intro a hE
    refine za hE ?_; clear hE a; intro a hE
    refine wnt ?_
    refine wp_ret ?_
    refine ret3 rfl hE rfl rfl rfl ?_
    replace hI := hI.erase 0
    have hlast : lastPg l5 = x_27 := lastPg_eq hx_27
    have hgd : x_27.ents.getD (findP x_27.ents key).1 ([], []) = x_34 := by rw [List.getD_eq_getElem?_getD, hx_34]; rfl
    exact .inl ⟨some x_34.2, by simp only [Bt.get, hrk, hx7, hlast, hfd_hfl33, hgd, reduceCtorEq, if_true, ite_true, if_false, ite_false], _, _, (hD13.trans hD40), rfl, hb41, (hT16.mono hD40), hI⟩
   replace hbf32 := iff_f hbf32
   have hfd_hfl33 : (findP x_27.ents key).2 = false := by simpa using hbf32
   refine zs hE (p_not rfl) ?_; clear hE a; intro a hE
   refine wnt ?_
   refine c_true hE rfl ?_
   refine wsr ?_
   refine za hE ?_; clear hE a; intro a hE
   refine za hE ?_; clear hE a; intro a hE
   refine za hE ?_; clear hE a; intro a hE
   refine wnt ?_
   refine wp_ret ?_
   refine then_ret ?_
   refine ret3 rfl hE rfl rfl rfl ?_
   replace hI := hI.erase 0
   have hlast : lastPg l5 = x_27 := lastPg_eq hx_27
   exact .inl ⟨none, by simp only [Bt.get, hrk, hx7, hlast, hfd_hfl33, reduceCtorEq, Bool.false_eq_true, if_false, ite_false], _, _, hD13, rfl, RB.nil _, hT16, hI⟩
  refine zm hE ?_; clear hE a; intro a hE
  refine zx hE ?_; clear hE a; intro a hE
  refine zx hE ?_; clear hE a; intro a hE
  refine zx hE ?_; clear hE a; intro a hE
  refine za hE ?_; clear hE a; intro a hE
  refine za hE ?_; clear hE a; intro a hE
  refine za hE ?_; clear hE a; intro a hE
  refine wnt ?_
  refine wp_seq ?_
  refine wsr ?_
  refine zm hE ?_; clear hE a; intro a hE
  refine zs hE (p_ifaceNil Tryd.underlying25 rfl rfl rfl) ?_; clear hE a; intro a hE
  refine wnt ?_
  refine c_true hE rfl ?_
  refine wsr ?_
  refine zm hE ?_; clear hE a; intro a hE
  refine za hE ?_; clear hE a; intro a hE
  refine za hE ?_; clear hE a; intro a hE
  refine za hE ?_; clear hE a; intro a hE
  refine wnt ?_
  refine wp_ret ?_
  refine then_ret ?_
  refine ret3 rfl hE rfl rfl rfl ?_
  exact .inr ⟨_, o18, by simp only [Bt.get, hrk, hx7, reduceCtorEq, if_false, ite_false], rfl, _, _, hD21, hT22, hI⟩
 replace hbf4 := iff_f hbf4
 have hrk : rightK key = false := by simpa using hbf4
 refine zs hE (p_not rfl) ?_; clear hE a; intro a hE
 refine wnt ?_
 refine c_true hE rfl ?_
 refine wp_seq ?_
 refine d_start [] [] (by kernel_rfl) hI rfl rfl ?_
 clear hI w; intro w hI
 obtain ⟨T_44, fr_44, hg_44⟩ := hS.g105
 refine dl 0 hE rfl (fun w hS => f_load rfl scal_25 (Inv.data hS _ _ (hg_44)) rfl) (hI) (listed' := #[true, false, false, false]) ?_; clear hE a; intro a hE
 refine dp 1 hE rfl (p_assign rfl) (fun _ => hI) ?_; clear hE a; intro a hE
 refine dp 2 hE rfl (p_assign rfl) (fun _ => hI) ?_; clear hE a; intro a hE
 refine dp 3 hE rfl (p_assign rfl) (fun _ => hI) ?_; clear hE a; intro a hE
 refine d_done (by kernel_rfl) ?_
 refine then_normal ?_
 refine wp_ret ?_
 refine then_ret ?_
 refine ret3 rfl hE rfl rfl rfl ?_
 exact .inr ⟨105, none, by simp only [Bt.get, hrk, if_true, ite_true], rfl, _, _, (Le.refl _), hT, hI⟩
theorem SaveS.func {D : Sto} {vf vb : Value} {b : Bt} {s : Seg} (h : SaveS D vf vb b s) : ∃ us, vf = .func (.func 107) #[] us := by
 obtain ⟨b3, b1, b6, bo, es, clk, m, h1, _⟩ := h; exact ⟨_, h1⟩
theorem Inv.put_two {w0 w : World} {D : Sto} {ss : List Seg} {s s2 : Seg} (i : Nat) (h : Inv w0 D (s2 :: s :: ss) w) : Inv w0 D (insAt i s2 (insAt i s ss)) w := by
 refine h.perm ?_
 have h1 := (insAt_perm s2 i (insAt i s ss)).flatten
 have h2 := ((insAt_perm s i ss).cons s2).flatten
 exact h1.trans h2
theorem BPut_spec {w0 w : World} {D : Sto} {ss : List Seg} {s : Seg} {vb vp : Value} {b : Bt} {P : Pl} (hI : Inv w0 D (s :: ss) w) {ad : Nat → Addr} (hS : TSents D ad) (hT : TreeS D vb vp b P s) {vk vv : Value} {key val : Bs} (hk : RB D vk key) (hv : RB D vv val) (hlen : b.recs.length ≤ 1000000000 - 8000) :
  Calls Tryd.prog 34 #[vb, vk, vv] w (Ret fun r w' => (∃ b', b.put key val = .ok b' ∧ r = .nilIface ∧ ∃ D' s', Le D D' ∧ TreeS D' vb vp b' P s' ∧ Inv w0 D' (s' :: ss) w') ∨ (∃ c o, b.put key val = .fail c o ∧ r = errV ad c ∧ ∃ D' s', Le D D' ∧ TreeS D' vb vp b (P.after o) s' ∧ Inv w0 D' (s' :: ss) w')) := by
 obtain ⟨A1, c2, rfl, _⟩ := hk.slice
 obtain ⟨A3, c4, rfl, _⟩ := hv.slice
 refine enter (N := 87) Tryd.func34 rfl rfl rfl ?_
 intro a hE
 refine wsr ?_
 refine za hE ?_; clear hE a; intro a hE
 refine wnt ?_
 refine wp_seq ?_
 refine wsr ?_
 refine zm hE ?_; clear hE a; intro a hE
 refine l_step rfl (o_call hE rfl rfl rfl rfl ent_69 (right_spec hI hk) ?_)
 clear hI hE a
 rintro r w ⟨rfl, hI⟩ a hE
 obtain ⟨bf5, hbf6⟩ : ∃ b, rightK key = b := ⟨_, rfl⟩
 rw [hbf6] at hE
 replace hbf6 : bf5 = true ↔ rightK key = true := by rw [← hbf6]
 rcases Bool.eq_false_or_eq_true bf5 with rfl | rfl
 ·replace hbf6 := iff_t hbf6
  have hrk : rightK key = true := hbf6
  have hrk2 := rightK_len hrk
  refine zs hE (p_not rfl) ?_; clear hE a; intro a hE
  refine zm hE ?_; clear hE a; intro a hE
  refine gs hE (p_move rfl) ?_; clear hE a; intro a hE
  refine gs hE (p_len rfl rfl Tryd.underlying22) ?_; clear hE a; intro a hE
  refine l_go hE rfl (o_cmp hE rfl rfl rfl rfl rfl rfl ?_ ?_)
  ·intro hvl; replace hvl := gtr_t hvl; clear hE a; intro a hE
   refine zs hE (p_pick (b := false) rfl rfl) ?_; clear hE a; intro a hE
   refine wnt ?_
   refine c_true hE rfl ?_
   refine wsr ?_
   obtain ⟨T_7, fr_7, hg_7⟩ := hS.g105
   refine zl hE (f_load rfl scal_25 (hI.data _ _ (hg_7)) rfl) ?_; clear hE a; intro a hE
   refine za hE ?_; clear hE a; intro a hE
   refine wnt ?_
   refine wp_ret ?_
   refine then_ret ?_
   refine ret1 rfl hE rfl ?_
   exact .inr ⟨105, none, by simp only [Bt.put, eq_true (show rightK key = false ∨ 64 < val.length from Or.inr (by omega)), if_true, if_false, ite_true, ite_false], rfl, _, _, (Le.refl _), hT, hI⟩
  intro hvl; replace hvl := gtr_f hvl; clear hE a; intro a hE
  refine zs hE (p_pick (b := false) rfl rfl) ?_; clear hE a; intro a hE
  refine wnt ?_
  refine c_false hE rfl ?_
  refine wp_skip ?_
  refine then_normal ?_
  refine wsr ?_
  refine zm hE ?_; clear hE a; intro a hE
  refine zm hE ?_; clear hE a; intro a hE
  refine l_step rfl (o_call hE rfl rfl rfl rfl ent_70 (down_spec hI hS hT hk) ?_)
  clear hI hE a
  rintro r w h a hE; rcases h with ⟨l8, ks9, hx10, hne11, hll12, D13, vl14, vk15, hD16, rfl, hdl17, hdk18, hT19, hI⟩ | ⟨c20, o21, hx10, rfl, D22, s23, hD24, hT25, hI⟩
  ·skip
   have hl1 : 1 ≤ l8.length := List.length_pos_iff.2 hne11
   have hl17 := down_len hx10
   obtain ⟨A26, c27, rfl, _⟩ := hdl17.slice
   obtain ⟨A28, c29, rfl, _⟩ := hdk18.slice
   refine zm hE ?_; clear hE a; intro a hE
   refine zx hE ?_; clear hE a; intro a hE
   refine zx hE ?_; clear hE a; intro a hE
   refine zx hE ?_; clear hE a; intro a hE
   refine za hE ?_; clear hE a; intro a hE
   refine za hE ?_; clear hE a; intro a hE
   refine za hE ?_; clear hE a; intro a hE
   refine wnt ?_
   refine wp_seq ?_
   refine wsr ?_
   refine zm hE ?_; clear hE a; intro a hE
   refine zs hE (p_ifaceNil Tryd.underlying25 rfl rfl rfl) ?_; clear hE a; intro a hE
   refine wnt ?_
   refine c_false hE rfl ?_
   refine wp_skip ?_
   refine then_normal ?_
   refine wsr ?_
   refine zm hE ?_; clear hE a; intro a hE
   refine zm hE ?_; clear hE a; intro a hE
   refine zs hE (p_len rfl rfl Tryd.underlying121) ?_; clear hE a; intro a hE
   refine zs hE (p_arith (z := ((l8.length - 1 : Nat) : Int)) rfl rfl (sub_z (by omega) (by omega) (by omega))) ?_; clear hE a; intro a hE
   obtain ⟨x_30, hx_30⟩ : ∃ y, (l8)[(l8.length - 1)]? = some y := ⟨_, List.getElem?_eq_getElem (by omega)⟩
   obtain ⟨b_30, o_30, cs_30, T_30, fr_30, rfl, hb_30, hat_30⟩ := hdl17.at_ (by intro h0; rw [h0] at hx_30; simp at hx_30)
   obtain ⟨vs_30, hl_30, ⟨e_30, rfl, he_30, hok_30⟩, hex_30, hsz_30, hce_30⟩ := hat_30.extract hx_30 (by omega)
   obtain ⟨A31, c32, rfl, _⟩ := he_30.slice
   refine zs hE (p_indexAddr (m := o_30 + (l8.length - 1) * 5) rfl rfl Tryd.underlying121 sz_83 (by omega) (by omega) (by simp)) ?_; clear hE a; intro a hE
   refine zl hE (r_loadA rfl agg_83 (hI.data _ _ (hb_30)) hsz_30 hex_30) ?_; clear hE a; intro a hE
   refine l_step rfl (f_alloc (cs := #[.int .i64 0, .int .i64 0, .int .i64 0, .int .i64 0, .slice none 0 0]) hE hI rfl rfl rfl zer_83 rfl ?_)
   clear hI hE a w; intro a b33 w hE hI
   refine l_step rfl (f_store (l := [_, _, _, _, _]) (ss' := _ :: _) 0 hE hI rfl rfl rfl rfl rfl sz_83 (by simp [Value.cells, Value.oneCell', pgCells, rcCells, zPg]) rfl rfl rfl ?_)
   clear hI w; intro w hI
   refine wnt ?_
   refine wp_seq ?_
   refine wsr ?_
   refine zl hE (f_loadA (vs := [_, _, _, _, _]) rfl agg_83 (hI.seg 0 rfl) rfl rfl) ?_; clear hE a; intro a hE
   refine zm hE ?_; clear hE a; intro a hE
   refine l_step rfl (o_call hE rfl rfl rfl rfl ent_71 (Find_spec (p := x_30) hI ⟨_, rfl, he_30, hok_30⟩ (hk.mono hD16)) ?_)
   clear hI hE a
   rintro r w ⟨rfl, hI⟩ a hE
   have hfl36 := findP_le x_30.ents key
   obtain ⟨bf34, hbf35⟩ : ∃ b, (findP x_30.ents key).2 = b := ⟨_, rfl⟩
   rw [hbf35] at hE
   replace hbf35 : bf34 = true ↔ (findP x_30.ents key).2 = true := by rw [← hbf35]
   refine zm hE ?_; clear hE a; intro a hE
   refine zx hE ?_; clear hE a; intro a hE
   refine zx hE ?_; clear hE a; intro a hE
   refine za hE ?_; clear hE a; intro a hE
   refine za hE ?_; clear hE a; intro a hE
   refine wnt ?_
   refine wsr ?_
   refine zm hE ?_; clear hE a; intro a hE
   refine wnt ?_
   rcases Bool.eq_false_or_eq_true bf34 with rfl | rfl
   ·replace hbf35 := iff_t hbf35
    have hfd_hfl36 : (findP x_30.ents key).2 = true := hbf35
    have hlt_hfl36 := findP_lt hfd_hfl36
    refine c_true hE rfl ?_
    refine wp_seq ?_
    refine d_start [7] [] (by kernel_rfl) hI rfl rfl ?_
    clear hI w; intro w hI
    refine dp 0 hE rfl (p_move rfl) (fun _ => hI) (listed' := #[true, false, false, false, false, false, false, false, false]) ?_; clear hE a; intro a hE
    refine dp 1 hE rfl (p_fieldAddr (m := 0) rfl fo_83_0 rfl) (fun _ => hI) ?_; clear hE a; intro a hE
    refine dl 2 hE rfl (fun w hS => f_load rfl scal_3 (Inv.seg 0 hS rfl) rfl) (hI) ?_; clear hE a; intro a hE
    refine dp 3 hE rfl (p_move rfl) (fun _ => hI) ?_; clear hE a; intro a hE
    refine dp 4 hE rfl (p_move rfl) (fun _ => hI) ?_; clear hE a; intro a hE
    refine do1 5 hE rfl ?_
    refine o_call hE rfl rfl rfl rfl ent_73 (Clone_data (bs := val) hI (hv.mono hD16) (by omega)) ?_
    clear hI hE a
    rintro r w ⟨D37, hD38, hI, hb39⟩ a hE
    obtain ⟨A40, c41, rfl, _⟩ := hb39.slice
    refine ⟨fun _ => (Inv.weaken hI hD38), ?_⟩
    refine dp 6 hE rfl (f_build (vs := [(4, _), (5, _), (6, _), (8, _)]) (l := [_, _, _, _, _, _, _, _, _, _]) rfl built_88 rfl) (fun _ => (Inv.weaken hI hD38)) ?_; clear hE a; intro a hE
    refine do1 7 hE rfl ?_
    refine o_call hE rfl rfl rfl rfl ent_72 (do_spec (hI.bring 1) (hS.mono (hD16.trans hD38)) (hT19.mono hD38) (rc := ({ page := x_30.id, kind := 4, slot := ((findP x_30.ents key).1 : Nat), val := val } : Rc)) ⟨_, _, rfl, (RB.nil _), hb39, ROk.of0 rfl (by show (0 : Int) ≤ ((findP x_30.ents key).1 : Nat); omega) (by have := hok_30.len; show (((findP x_30.ents key).1 : Nat) : Int) ≤ _; omega) (by simp) (by show val.length ≤ _; omega)⟩ (by omega)) ?_
    clear hI hE a
    rintro r w h a hE; rcases h with ⟨b43, hx42, rfl, D44, s49, hD45, hT46, hI⟩ | ⟨c47, o48, hx42, rfl, D50, s53, hD51, hT52, hI⟩
    ·skip
     replace hI := hI.put_back 1
     try simp only [nrm, Value.cells] at hI
     have hext_hx42 := (doR_ext hx42).1
     have hlen_hx42 := (doR_ext hx42).2
     refine ⟨nl, ?_⟩
     refine dp 8 hE rfl (p_assign rfl) nl ?_; clear hE a; intro a hE
     refine d_done (by kernel_rfl) ?_
     refine then_normal ?_
     refine wp_ret ?_
     refine then_ret ?_
     refine ret1 rfl hE rfl ?_
     have hlast : lastPg l8 = x_30 := lastPg_eq hx_30
     replace hI := hI.erase 0
     exact .inl ⟨_, by simp only [Bt.put, eq_false (show ¬ (rightK key = false ∨ 64 < val.length) from by rintro (h1 | h2); (rw [hrk] at h1; cases h1); omega), hx10, hx42, hlast, hfd_hfl36, Bool.false_eq_true, if_true, if_false, ite_true, ite_false], rfl, _, _, ((hD16.trans hD38).trans hD45), hT46, hI⟩
    replace hI := hI.put_back 1
    try simp only [nrm, Value.cells] at hI
    refine ⟨nl, ?_⟩
    refine dp 8 hE rfl (p_assign rfl) nl ?_; clear hE a; intro a hE
    refine d_done (by kernel_rfl) ?_
    refine then_normal ?_
    refine wp_ret ?_
    refine then_ret ?_
    refine ret1 rfl hE rfl ?_
    have hlast : lastPg l8 = x_30 := lastPg_eq hx_30
    replace hI := hI.erase 0
    exact .inr ⟨_, o48, by simp only [Bt.put, eq_false (show ¬ (rightK key = false ∨ 64 < val.length) from by rintro (h1 | h2); (rw [hrk] at h1; cases h1); omega), hx10, hx42, hlast, hfd_hfl36, Bool.false_eq_true, if_true, if_false, ite_true, ite_false], rfl, _, _, ((hD16.trans hD38).trans hD51), hT52, hI⟩
   replace hbf35 := iff_f hbf35
   have hfd_hfl36 : (findP x_30.ents key).2 = false := by simpa using hbf35
   refine c_false hE rfl ?_
   refine wp_skip ?_
   refine then_normal ?_
   refine wsr ?_
   refine zm hE ?_; clear hE a; intro a hE
   refine l_step rfl (o_call hE rfl rfl rfl rfl ent_74 (save_spec (hI.bring 1) (hS.mono hD16) hT19) ?_)
   clear hI hE a
   rintro r w ⟨s56, hV57, hI, hT58⟩ a hE
   replace hI := hI.put_two 1
   try simp only [nrm, Value.cells] at hI
   obtain ⟨us, hvf⟩ := hV57.func
   subst hvf
   refine za hE ?_; clear hE a; intro a hE
   refine wnt ?_
   refine wsr ?_
   refine zm hE ?_; clear hE a; intro a hE
   refine zm hE ?_; clear hE a; intro a hE
   refine l_step rfl (o_call hE rfl rfl rfl rfl ent_75 (room_spec (hI.bring 2) (hS.mono hD16) hT58 (hk.mono hD16) (by omega)) ?_)
   clear hI hE a
   rintro r w h a hE; rcases h with ⟨x59, b60, hx61, hext77, hlen78, D62, s63, e64, hD65, rfl, he66, ho67, hT68, hI⟩ | ⟨c69, o70, hx61, rfl, b71, D72, s73, hext74, hD75, hT76, hI⟩
   ·skip
    replace hI := hI.put_back 2
    try simp only [nrm, Value.cells] at hI
    have hlen_x59 := ho67.len
    obtain ⟨A79, c80, rfl, _⟩ := he66.slice
    refine zm hE ?_; clear hE a; intro a hE
    refine zx hE ?_; clear hE a; intro a hE
    refine zx hE ?_; clear hE a; intro a hE
    refine l_step rfl (f_store (l := [_, _, _, _, _]) (ss' := _ :: _) 0 hE hI rfl rfl rfl rfl rfl sz_83 (by simp [Value.cells, Value.oneCell', pgCells, rcCells, zPg]) rfl rfl rfl ?_)
    clear hI w; intro w hI
    refine za hE ?_; clear hE a; intro a hE
    refine wnt ?_
    refine wp_seq ?_
    refine wsr ?_
    refine zm hE ?_; clear hE a; intro a hE
    refine zs hE (p_ifaceNil Tryd.underlying25 rfl rfl rfl) ?_; clear hE a; intro a hE
    refine wnt ?_
    refine c_true hE rfl ?_
    refine wsr ?_
    refine zl hE (f_loadA (vs := [_, _, _, _, _]) rfl agg_83 (hI.seg 0 rfl) rfl rfl) ?_; clear hE a; intro a hE
    refine zm hE ?_; clear hE a; intro a hE
    refine l_step rfl (o_call hE rfl rfl rfl rfl ent_71 (Find_spec (p := x59) hI ⟨_, rfl, he66, ho67⟩ (hk.mono (hD16.trans hD65))) ?_)
    clear hI hE a
    rintro r w ⟨rfl, hI⟩ a hE
    have hfl83 := findP_le x59.ents key
    obtain ⟨bf81, hbf82⟩ : ∃ b, (findP x59.ents key).2 = b := ⟨_, rfl⟩
    rw [hbf82] at hE
    replace hbf82 : bf81 = true ↔ (findP x59.ents key).2 = true := by rw [← hbf82]
    refine zm hE ?_; clear hE a; intro a hE
    refine zx hE ?_; clear hE a; intro a hE
    refine zx hE ?_; clear hE a; intro a hE
    refine za hE ?_; clear hE a; intro a hE
    refine za hE ?_; clear hE a; intro a hE
    refine wnt ?_
    refine d_start [9] [] (by kernel_rfl) hI rfl rfl ?_
    clear hI w; intro w hI
    refine dp 0 hE rfl (p_move rfl) (fun _ => hI) (listed' := #[true, false, false, false, false, false, false, false, false, false, false]) ?_; clear hE a; intro a hE
    refine dp 1 hE rfl (p_fieldAddr (m := 0) rfl fo_83_0 rfl) (fun _ => hI) ?_; clear hE a; intro a hE
    refine dl 2 hE rfl (fun w hS => f_load rfl scal_3 (Inv.seg 0 hS rfl) rfl) (hI) ?_; clear hE a; intro a hE
    refine dp 3 hE rfl (p_move rfl) (fun _ => hI) ?_; clear hE a; intro a hE
    refine dp 4 hE rfl (p_move rfl) (fun _ => hI) ?_; clear hE a; intro a hE
    refine dp 6 hE rfl (p_move rfl) (fun _ => hI) ?_; clear hE a; intro a hE
    refine do1 5 hE rfl ?_
    refine o_call hE rfl rfl rfl rfl ent_73 (Clone_data (bs := key) hI (hk.mono (hD16.trans hD65)) (by omega)) ?_
    clear hI hE a
    rintro r w ⟨D84, hD85, hI, hb86⟩ a hE
    obtain ⟨A87, c88, rfl, _⟩ := hb86.slice
    refine ⟨fun _ => (Inv.weaken hI hD85), ?_⟩
    refine do1 7 hE rfl ?_
    refine o_call hE rfl rfl rfl rfl ent_73 (Clone_data (bs := val) hI (hv.mono ((hD16.trans hD65).trans hD85)) (by omega)) ?_
    clear hI hE a
    rintro r w ⟨D89, hD90, hI, hb91⟩ a hE
    obtain ⟨A92, c93, rfl, _⟩ := hb91.slice
    refine ⟨fun _ => (Inv.weaken hI (hD85.trans hD90)), ?_⟩
    refine dp 8 hE rfl (f_build (vs := [(4, _), (5, _), (6, _), (7, _), (8, _)]) (l := [_, _, _, _, _, _, _, _, _, _]) rfl built_88 rfl) (fun _ => (Inv.weaken hI (hD85.trans hD90))) ?_; clear hE a; intro a hE
    refine do1 9 hE rfl ?_
    refine o_call hE rfl rfl rfl rfl ent_72 (do_spec (hI.bring 2) (hS.mono (((hD16.trans hD65).trans hD85).trans hD90)) (hT68.mono (hD85.trans hD90)) (rc := ({ page := x59.id, kind := 2, slot := ((findP x59.ents key).1 : Nat), key := key, val := val } : Rc)) ⟨_, _, rfl, (hb86.mono hD90), hb91, ROk.of0 rfl (by show (0 : Int) ≤ ((findP x59.ents key).1 : Nat); omega) (by show (((findP x59.ents key).1 : Nat) : Int) ≤ _; omega) (by show key.length ≤ _; omega) (by show val.length ≤ _; omega)⟩ (by omega)) ?_
    clear hI hE a
    rintro r w h a hE; rcases h with ⟨b95, hx94, rfl, D96, s101, hD97, hT98, hI⟩ | ⟨c99, o100, hx94, rfl, D102, s105, hD103, hT104, hI⟩
    ·skip
     replace hI := hI.put_back 2
     try simp only [nrm, Value.cells] at hI
     have hext_hx94 := (doR_ext hx94).1
     have hlen_hx94 := (doR_ext hx94).2
     refine ⟨nl, ?_⟩
     refine dp 10 hE rfl (p_assign rfl) nl ?_; clear hE a; intro a hE
     refine d_done (by kernel_rfl) ?_
     refine then_normal ?_
     refine wp_seq ?_
     refine wsr ?_
     refine zm hE ?_; clear hE a; intro a hE
     refine zs hE (p_ifaceNil Tryd.underlying25 rfl rfl rfl) ?_; clear hE a; intro a hE
     refine wnt ?_
     refine c_false hE rfl ?_
     refine wp_skip ?_
     refine then_normal ?_
     refine wsr ?_
     refine zm hE ?_; clear hE a; intro a hE
     refine za hE ?_; clear hE a; intro a hE
     refine wnt ?_
     refine wp_ret ?_
     refine ret1 rfl hE rfl ?_
     have hlast : lastPg l8 = x_30 := lastPg_eq hx_30
     replace hI := hI.erase 1
     replace hI := hI.erase 0
     exact .inl ⟨_, by simp only [Bt.put, eq_false (show ¬ (rightK key = false ∨ 64 < val.length) from by rintro (h1 | h2); (rw [hrk] at h1; cases h1); omega), hx10, hx61, hx94, hlast, hfd_hfl36, Bool.false_eq_true, if_true, if_false, ite_true, ite_false], rfl, _, _, ((((hD16.trans hD65).trans hD85).trans hD90).trans hD97), hT98, hI⟩
    replace hI := hI.put_back 2
    try simp only [nrm, Value.cells] at hI
    refine ⟨nl, ?_⟩
    refine dp 10 hE rfl (p_assign rfl) nl ?_; clear hE a; intro a hE
    refine d_done (by kernel_rfl) ?_
    refine then_normal ?_
    refine wp_seq ?_
    refine wsr ?_
    refine zm hE ?_; clear hE a; intro a hE
    refine zs hE (p_ifaceNil Tryd.underlying25 rfl rfl rfl) ?_; clear hE a; intro a hE
    refine wnt ?_
    refine c_true hE rfl ?_
    refine wp_region_list ?_
    refine zm hE ?_; clear hE a; intro a hE
    replace hI := hI.bring 2
    replace hI := hI.bring 2
    refine l_step rfl (o_callv (vs := #[]) hE rfl rfl rfl rfl rfl (by simp) ent_107 (back_spec hI rfl (hV57.mono (((hD65.trans hD85).trans hD90).trans hD103)) hT104 hext77) ?_)
    clear hI hE a
    rintro r w ⟨s108, hT109, hI, rfl⟩ a hE
    refine wnt ?_
    refine wsr ?_
    refine zm hE ?_; clear hE a; intro a hE
    refine za hE ?_; clear hE a; intro a hE
    refine wnt ?_
    refine wp_ret ?_
    refine ret1 rfl hE rfl ?_
    have hlast : lastPg l8 = x_30 := lastPg_eq hx_30
    replace hI := hI.erase 1
    exact .inr ⟨_, o100, by simp only [Bt.put, eq_false (show ¬ (rightK key = false ∨ 64 < val.length) from by rintro (h1 | h2); (rw [hrk] at h1; cases h1); omega), hx10, hx61, hx94, hlast, hfd_hfl36, Bool.false_eq_true, if_true, if_false, ite_true, ite_false], rfl, _, _, ((((hD16.trans hD65).trans hD85).trans hD90).trans hD103), hT109, hI⟩
   replace hI := hI.put_back 2
   try simp only [nrm, Value.cells] at hI
   refine zm hE ?_; clear hE a; intro a hE
   refine zx hE ?_; clear hE a; intro a hE
   refine zx hE ?_; clear hE a; intro a hE
   refine l_step rfl (f_store (l := [_, _, _, _, _]) (ss' := _ :: _) 0 hE hI rfl rfl rfl rfl rfl sz_83 (by simp [Value.cells, Value.oneCell', pgCells, rcCells, zPg]) rfl rfl rfl ?_)
   clear hI w; intro w hI
   refine za hE ?_; clear hE a; intro a hE
   refine wnt ?_
   refine wp_seq ?_
   refine wsr ?_
   refine zm hE ?_; clear hE a; intro a hE
   refine zs hE (p_ifaceNil Tryd.underlying25 rfl rfl rfl) ?_; clear hE a; intro a hE
   refine wnt ?_
   refine c_false hE rfl ?_
   refine wp_skip ?_
   refine then_normal ?_
   refine wp_seq ?_
   refine wsr ?_
   refine zm hE ?_; clear hE a; intro a hE
   refine zs hE (p_ifaceNil Tryd.underlying25 rfl rfl rfl) ?_; clear hE a; intro a hE
   refine wnt ?_
   refine c_true hE rfl ?_
   refine wp_region_list ?_
   refine zm hE ?_; clear hE a; intro a hE
   replace hI := hI.bring 2
   replace hI := hI.bring 2
   refine l_step rfl (o_callv (vs := #[]) hE rfl rfl rfl rfl rfl (by simp) ent_107 (back_spec hI rfl (hV57.mono hD75) hT76 hext74) ?_)
   clear hI hE a
   rintro r w ⟨s110, hT111, hI, rfl⟩ a hE
   refine wnt ?_
   refine wsr ?_
   refine zm hE ?_; clear hE a; intro a hE
   refine za hE ?_; clear hE a; intro a hE
   refine wnt ?_
   refine wp_ret ?_
   refine ret1 rfl hE rfl ?_
   have hlast : lastPg l8 = x_30 := lastPg_eq hx_30
   replace hI := hI.erase 1
   exact .inr ⟨_, o70, by simp only [Bt.put, eq_false (show ¬ (rightK key = false ∨ 64 < val.length) from by rintro (h1 | h2); (rw [hrk] at h1; cases h1); omega), hx10, hx61, hlast, hfd_hfl36, Bool.false_eq_true, if_true, if_false, ite_true, ite_false], rfl, _, _, (hD16.trans hD75), hT111, hI⟩
  refine zm hE ?_; clear hE a; intro a hE
  refine zx hE ?_; clear hE a; intro a hE
  refine zx hE ?_; clear hE a; intro a hE
  refine zx hE ?_; clear hE a; intro a hE
  refine za hE ?_; clear hE a; intro a hE
  refine za hE ?_; clear hE a; intro a hE
  refine za hE ?_; clear hE a; intro a hE
  refine wnt ?_
  refine wp_seq ?_
  refine wsr ?_
  refine zm hE ?_; clear hE a; intro a hE
  refine zs hE (p_ifaceNil Tryd.underlying25 rfl rfl rfl) ?_; clear hE a; intro a hE
  refine wnt ?_
  refine c_true hE rfl ?_
  refine wsr ?_
  refine zm hE ?_; clear hE a; intro a hE
  refine za hE ?_; clear hE a; intro a hE
  refine wnt ?_
  refine wp_ret ?_
  refine then_ret ?_
  refine ret1 rfl hE rfl ?_
  exact .inr ⟨_, o21, by simp only [Bt.put, eq_false (show ¬ (rightK key = false ∨ 64 < val.length) from by rintro (h1 | h2); (rw [hrk] at h1; cases h1); omega), hx10, if_true, if_false, ite_true, ite_false], rfl, _, _, hD24, hT25, hI⟩
 replace hbf6 := iff_f hbf6
 have hrk : rightK key = false := by simpa using hbf6
 refine zs hE (p_not rfl) ?_; clear hE a; intro a hE
 refine zm hE ?_; clear hE a; intro a hE
 refine zk hE ?_; clear hE a; intro a hE
 refine zk hE ?_; clear hE a; intro a hE
 refine zk hE ?_; clear hE a; intro a hE
 refine zs hE (p_pick (b := true) rfl rfl) ?_; clear hE a; intro a hE
 refine wnt ?_
 refine c_true hE rfl ?_
 refine wsr ?_
 obtain ⟨T_112, fr_112, hg_112⟩ := hS.g105
 refine zl hE (f_load rfl scal_25 (hI.data _ _ (hg_112)) rfl) ?_; clear hE a; intro a hE
 refine za hE ?_; clear hE a; intro a hE
 refine wnt ?_
 refine wp_ret ?_
 refine then_ret ?_
 refine ret1 rfl hE rfl ?_
 exact .inr ⟨105, none, by simp only [Bt.put, eq_true (show rightK key = false ∨ 64 < val.length from Or.inl hrk), if_true, if_false, ite_true, ite_false], rfl, _, _, (Le.refl _), hT, hI⟩
end Go.Proofs.YtbogbnkckofpdaaDoor.B
