/- What functions of the program compute, each function once: steps over the model, and the plain law of it. -/
import Derived.Test.YtbogbnkckofpdaaDoorTTree
namespace Go.Proofs.YtbogbnkckofpdaaDoor.B
open Go Go.Proofs
set_option linter.unusedVariables false
set_option linter.unusedSimpArgs false
set_option maxRecDepth 20000
set_option maxHeartbeats 8000000
namespace FTTree2
theorem agg_69 : aggSize Tryd.prog 69 = some 2 := by kernel_rfl
theorem built_88 : ∀ vs, Tryd.prog.built 88 vs = Instr.fill (([(0, 1), (1, 1), (2, 1), (3, 1), (4, 1), (5, 1), (6, 1), (7, 1), (8, 1), (9, 1)] : List (Nat × Nat)).toArray[·]?) ([.int .i64 0, .int .i64 0, .int .i64 0, .int .i64 0, .int .i64 0, .int .i64 0, .int .i64 0, .slice none 0 0, .slice none 0 0, .bool false] : List Value).toArray vs := fun _ => by kernel_rfl
theorem ent_119 : enters Tryd.prog 119 = true := by kernel_rfl
theorem ent_124 : enters Tryd.prog 124 = true := by kernel_rfl
theorem ent_134 : enters Tryd.prog 134 = true := by kernel_rfl
theorem ent_72 : enters Tryd.prog 72 = true := by kernel_rfl
theorem ent_73 : enters Tryd.prog 73 = true := by kernel_rfl
theorem ent_88 : enters Tryd.prog 88 = true := by kernel_rfl
theorem ent_96 : enters Tryd.prog 96 = true := by kernel_rfl
theorem fo_69_0 : fieldOff Tryd.prog 69 0 = some 0 := by kernel_rfl
theorem fo_69_1 : fieldOff Tryd.prog 69 1 = some 1 := by kernel_rfl
theorem fo_83_3 : fieldOff Tryd.prog 83 3 = some 3 := by kernel_rfl
theorem scal_22 : isScal Tryd.prog 22 = true := by kernel_rfl
theorem scal_25 : isScal Tryd.prog 25 = true := by kernel_rfl
theorem scal_3 : isScal Tryd.prog 3 = true := by kernel_rfl
theorem sz_69 : (Tryd.prog.info? 69).map (·.size) = some 2 := by kernel_rfl
theorem sz_83 : (Tryd.prog.info? 83).map (·.size) = some 5 := by kernel_rfl
theorem zer_69 : (Tryd.prog.info? 69).bind (·.zero) = some (.agg #[.slice none 0 0, .slice none 0 0]) := by kernel_rfl
theorem zer_83 : (Tryd.prog.info? 83).bind (·.zero) = some (.agg #[.int .i64 0, .int .i64 0, .int .i64 0, .int .i64 0, .slice none 0 0]) := by kernel_rfl
theorem zs_88 : (Tryd.prog.info? 88).map (fun i => (i.zero, i.size)) = some (some (.agg #[.int .i64 0, .int .i64 0, .int .i64 0, .int .i64 0, .int .i64 0, .int .i64 0, .int .i64 0, .slice none 0 0, .slice none 0 0, .bool false]), 10) := by kernel_rfl
end FTTree2
open FTTree2
theorem take_ext {b b' : Bt} {i : Int} (h : b.take = .ok (i, b')) : Ext b b' ∧ b'.recs.length = b.recs.length + 1 := by
 rw [Bt.take] at h
 split at h
 ·cases h
 split at h
 ·split at h
  ·cases h
  split at h
  ·cases h
  rename_i hd; injection h with h; injection h with h1 h2; subst h2; exact doR_ext hd
 split at h
 ·cases h
 split at h
 ·cases h
 rename_i hd; injection h with h; injection h with h1 h2; subst h2; exact doR_ext hd
theorem fillR_len (id level : Int) : ∀ (l : Ens) (i : Nat), (fillR id level i l).length = l.length
 | [], _ => rfl
 | e :: r, i => by simp [fillR, fillR_len id level r (i + 1)]
theorem fill_ext {b b' : Bt} {id level next : Int} {l : Ens} (h : b.fill id level l next = .ok b') : Ext b b' ∧ b'.recs.length ≤ b.recs.length + 2 + l.length := by
 have := all_ext _ h
 refine ⟨this.1, ?_⟩
 rw [this.2]
 simp only [List.length_append, List.length_cons, fillR_len]
 split <;> simp <;> omega
def linkR (id next : Int) : List Rc := if next = -1 then [] else [{ page := id, kind := 5, slot := next }]
theorem fill_at {b : Bt} {id level : Int} {l : Ens} {i : Nat} {e : Bs × Bs} {rest : List Rc} (hx : l[i]? = some e) : b.all (fillR id level i (l.drop i) ++ rest) =
  match b.doR { page := id, kind := 2, slot := i, key := if 0 < level ∧ i = 0 then [] else e.1, val := e.2 } with
  | .fail c o => .fail c o
  | .ok b => b.all (fillR id level (i + 1) (l.drop (i + 1)) ++ rest) := by
 obtain ⟨h1, h2⟩ := List.getElem?_eq_some_iff.1 hx
 rw [List.drop_eq_getElem_cons h1, h2, fillR, List.cons_append, Bt.all]
 cases b.doR _ <;> rfl
theorem fill_start {b b1 : Bt} {id level next : Int} {l : Ens} (h : b.doR { page := id, kind := 1, slot := level } = .ok b1) : b.fill id level l next = b1.all (fillR id level 0 (l.drop 0) ++ linkR id next) := by
 show b.all ({ page := id, kind := 1, slot := level } :: (fillR id level 0 l ++ linkR id next)) = _
 rw [Bt.all, h]; rfl
theorem fill_fail {b : Bt} {id level next : Int} {l : Ens} {c : Nat} {o : Option Int} (h : b.doR { page := id, kind := 1, slot := level } = .fail c o) : b.fill id level l next = .fail c o := by
 show b.all ({ page := id, kind := 1, slot := level } :: (fillR id level 0 l ++ linkR id next)) = _
 rw [Bt.all, h]
theorem take_spec {w0 w : World} {D : Sto} {ss : List Seg} {s : Seg} {vb vp : Value} {b : Bt} {P : Pl} (hI : Inv w0 D (s :: ss) w) {ad : Nat → Addr} (hS : TSents D ad) (hT : TreeS D vb vp b P s) (hlen : b.recs.length ≤ 1000000000) :
  Calls Tryd.prog 131 #[vb] w (Ret fun r w' => (∃ i b', b.take = .ok (i, b') ∧ r = .tuple #[.int .i64 i, .nilIface] ∧ 0 ≤ i ∧ i < 65536 ∧ ∃ D' s', Le D D' ∧ TreeS D' vb vp b' P s' ∧ Inv w0 D' (s' :: ss) w') ∨ (∃ c o n, b.take = .fail c o ∧ r = .tuple #[.int .i64 n, errV ad c] ∧ ∃ D' s', Le D D' ∧ TreeS D' vb vp b (P.after o) s' ∧ Inv w0 D' (s' :: ss) w')) := by
 refine enter (N := 43) Tryd.func131 rfl rfl rfl ?_
 intro a hE
 refine wsr ?_
 refine za hE ?_; clear hE a; intro a hE
 refine za hE ?_; clear hE a; intro a hE
 refine wnt ?_
 refine wsr ?_
 refine zm hE ?_; clear hE a; intro a hE
 refine l_step rfl (o_call hE rfl rfl rfl rfl ent_119 (pages_spec hI hS hT ) ?_)
 clear hI hE a
 rintro r w h a hE; rcases h with ⟨u15, f16, hx1, rfl, hm17, hm18, hm19, hm20, D3, hD4, hT5, hI⟩ | ⟨c6, o7, hx1, rfl, D9, s12, hD10, hT11, hI⟩
 ·skip
  refine zm hE ?_; clear hE a; intro a hE
  refine zx hE ?_; clear hE a; intro a hE
  refine zx hE ?_; clear hE a; intro a hE
  refine zx hE ?_; clear hE a; intro a hE
  refine za hE ?_; clear hE a; intro a hE
  refine za hE ?_; clear hE a; intro a hE
  refine za hE ?_; clear hE a; intro a hE
  refine wnt ?_
  refine wp_seq ?_
  refine wsr ?_
  refine zm hE ?_; clear hE a; intro a hE
  refine zs hE (p_ifaceNil Tryd.underlying25 rfl rfl rfl) ?_; clear hE a; intro a hE
  refine wnt ?_
  refine c_false hE rfl ?_
  refine wp_skip ?_
  refine then_normal ?_
  refine wp_seq ?_
  refine wsr ?_
  refine zm hE ?_; clear hE a; intro a hE
  refine l_step rfl (o_cmp hE rfl rfl rfl rfl rfl rfl ?_ ?_)
  ·intro hz; replace hz := eql_t hz; clear hE a; intro a hE
   refine wnt ?_
   refine c_true hE rfl ?_
   refine wp_seq ?_
   refine wsr ?_
   refine zm hE ?_; clear hE a; intro a hE
   refine l_step rfl (o_cmp hE rfl rfl rfl rfl rfl rfl ?_ ?_)
   ·intro hu; replace hu := geq_t hu; clear hE a; intro a hE
    refine wnt ?_
    refine c_true hE rfl ?_
    refine wp_seq ?_
    refine d_start [] [] (by kernel_rfl) hI rfl rfl ?_
    clear hI w; intro w hI
    obtain ⟨T_21, fr_21, hg_21⟩ := hS.g109
    refine dl 0 hE rfl (fun w hS => f_load rfl scal_25 (Inv.data hS _ _ (hD4 _ _ (hg_21))) rfl) (hI) (listed' := #[true, false, false]) ?_; clear hE a; intro a hE
    refine dp 1 hE rfl (p_assign rfl) (fun _ => hI) ?_; clear hE a; intro a hE
    refine dp 2 hE rfl (p_assign rfl) (fun _ => hI) ?_; clear hE a; intro a hE
    refine d_done (by kernel_rfl) ?_
    refine then_normal ?_
    refine wp_ret ?_
    refine then_ret ?_
    refine then_ret ?_
    refine ret2 rfl hE rfl rfl ?_
    exact .inr ⟨_, none, _, by simp only [Bt.take, hx1, eq_true (show f16 = 0 by omega), eq_true (show 256 ≤ u15 by omega), ite_true, ite_false, if_true, if_false], rfl, _, _, hD4, hT5, hI⟩
   intro hu; replace hu := geq_f hu; clear hE a; intro a hE
   refine wnt ?_
   refine c_false hE rfl ?_
   refine wp_skip ?_
   refine then_normal ?_
   refine wsr ?_
   refine zm hE ?_; clear hE a; intro a hE
   refine zm hE ?_; clear hE a; intro a hE
   refine zm hE ?_; clear hE a; intro a hE
   refine zs hE (p_arith rfl rfl (add_z rfl (by omega) (by omega))) ?_; clear hE a; intro a hE
   refine l_step rfl (o_call hE rfl rfl rfl rfl ent_134 (count_spec hI (hS.mono hD4) hT5 (u15 + 1) 0 (by omega)) ?_)
   clear hI hE a
   rintro r w h a hE; rcases h with ⟨b23, hx22, rfl, D24, s29, hD25, hT26, hI⟩ | ⟨c27, o28, hx22, rfl, D30, s33, hD31, hT32, hI⟩
   ·skip
    have hext_hx22 := (doR_ext hx22).1
    have hlen_hx22 := (doR_ext hx22).2
    refine za hE ?_; clear hE a; intro a hE
    refine za hE ?_; clear hE a; intro a hE
    refine wnt ?_
    refine wp_ret ?_
    refine then_ret ?_
    refine ret2 rfl hE rfl rfl ?_
    exact .inl ⟨_, _, by simp only [Bt.take, hx1, hx22, eq_true (show f16 = 0 by omega), eq_false (show ¬ (256 ≤ u15) by omega), ite_true, ite_false, if_true, if_false], rfl, (by omega), (by omega), _, _, (hD4.trans hD25), hT26, hI⟩
   refine za hE ?_; clear hE a; intro a hE
   refine za hE ?_; clear hE a; intro a hE
   refine wnt ?_
   refine wp_ret ?_
   refine then_ret ?_
   refine ret2 rfl hE rfl rfl ?_
   exact .inr ⟨_, _, _, by simp only [Bt.take, hx1, hx22, eq_true (show f16 = 0 by omega), eq_false (show ¬ (256 ≤ u15) by omega), ite_true, ite_false, if_true, if_false], rfl, _, _, (hD4.trans hD31), hT32, hI⟩
  intro hz; replace hz := eql_f hz; clear hE a; intro a hE
  refine wnt ?_
  refine c_false hE rfl ?_
  refine wp_skip ?_
  refine then_normal ?_
  refine wsr ?_
  refine zm hE ?_; clear hE a; intro a hE
  refine zm hE ?_; clear hE a; intro a hE
  refine l_step rfl (o_call hE rfl rfl rfl rfl ent_88 (page_spec hI (hS.mono hD4) hT5 (f16)) ?_)
  clear hI hE a
  rintro r w h a hE; rcases h with ⟨x36, hx37, D38, e39, hD40, rfl, he41, ho42, hT43, hI⟩ | ⟨c44, o45, hx37, rfl, s46, hT43, hI⟩
  ·skip
   have hlen_x36 := ho42.len
   obtain ⟨A47, c48, rfl, _⟩ := he41.slice
   refine zm hE ?_; clear hE a; intro a hE
   refine zx hE ?_; clear hE a; intro a hE
   refine zx hE ?_; clear hE a; intro a hE
   refine l_step rfl (f_alloc (cs := #[.int .i64 0, .int .i64 0, .int .i64 0, .int .i64 0, .slice none 0 0]) hE hI rfl rfl rfl zer_83 rfl ?_)
   clear hI hE a w; intro a b49 w hE hI
   refine l_step rfl (f_store (l := [_, _, _, _, _]) (ss' := _ :: _) 0 hE hI rfl rfl rfl rfl rfl sz_83 (by simp [Value.cells, Value.oneCell', pgCells, rcCells, zPg]) rfl rfl rfl ?_)
   clear hI w; intro w hI
   refine za hE ?_; clear hE a; intro a hE
   refine wnt ?_
   refine wp_seq ?_
   refine wsr ?_
   refine zm hE ?_; clear hE a; intro a hE
   refine zs hE (p_ifaceNil Tryd.underlying25 rfl rfl rfl) ?_; clear hE a; intro a hE
   refine wnt ?_
   refine c_false hE rfl ?_
   refine wp_skip ?_
   refine then_normal ?_
   refine wsr ?_
   refine zm hE ?_; clear hE a; intro a hE
   refine zm hE ?_; clear hE a; intro a hE
   refine zm hE ?_; clear hE a; intro a hE
   refine zs hE (p_fieldAddr (m := 3) rfl fo_83_3 rfl) ?_; clear hE a; intro a hE
   refine zl hE (f_load rfl scal_3 (hI.seg 0 rfl) rfl) ?_; clear hE a; intro a hE
   refine zs hE (p_max rfl rfl rfl) ?_; clear hE a; intro a hE
   refine l_step rfl (o_call hE rfl rfl rfl rfl ent_134 (count_spec (hI.bring 1) (hS.mono (hD4.trans hD40)) hT43 u15 (max x36.next 0) (by omega)) ?_)
   clear hI hE a
   rintro r w h a hE; rcases h with ⟨b51, hx50, rfl, D52, s57, hD53, hT54, hI⟩ | ⟨c55, o56, hx50, rfl, D58, s61, hD59, hT60, hI⟩
   ·skip
    replace hI := hI.put_back 1
    try simp only [nrm, Value.cells] at hI
    have hext_hx50 := (doR_ext hx50).1
    have hlen_hx50 := (doR_ext hx50).2
    refine za hE ?_; clear hE a; intro a hE
    refine za hE ?_; clear hE a; intro a hE
    refine wnt ?_
    refine wp_ret ?_
    refine ret2 rfl hE rfl rfl ?_
    replace hI := hI.erase 0
    exact .inl ⟨_, _, by simp only [Bt.take, hx1, hx37, hx50, eq_false (show ¬ (f16 = 0) by omega), ite_true, ite_false, if_true, if_false], rfl, (by omega), (by omega), _, _, ((hD4.trans hD40).trans hD53), hT54, hI⟩
   replace hI := hI.put_back 1
   try simp only [nrm, Value.cells] at hI
   refine za hE ?_; clear hE a; intro a hE
   refine za hE ?_; clear hE a; intro a hE
   refine wnt ?_
   refine wp_ret ?_
   refine ret2 rfl hE rfl rfl ?_
   replace hI := hI.erase 0
   exact .inr ⟨_, _, _, by simp only [Bt.take, hx1, hx37, hx50, eq_false (show ¬ (f16 = 0) by omega), ite_true, ite_false, if_true, if_false], rfl, _, _, ((hD4.trans hD40).trans hD59), hT60, hI⟩
  refine zm hE ?_; clear hE a; intro a hE
  refine zx hE ?_; clear hE a; intro a hE
  refine zx hE ?_; clear hE a; intro a hE
  refine l_step rfl (f_alloc (cs := #[.int .i64 0, .int .i64 0, .int .i64 0, .int .i64 0, .slice none 0 0]) hE hI rfl rfl rfl zer_83 rfl ?_)
  clear hI hE a w; intro a b64 w hE hI
  refine l_step rfl (f_store (l := [_, _, _, _, _]) (ss' := _ :: _) 0 hE hI rfl rfl rfl rfl rfl sz_83 (by simp [Value.cells, Value.oneCell', pgCells, rcCells, zPg]) rfl rfl rfl ?_)
  clear hI w; intro w hI
  refine za hE ?_; clear hE a; intro a hE
  refine wnt ?_
  refine wp_seq ?_
  refine wsr ?_
  refine zm hE ?_; clear hE a; intro a hE
  refine zs hE (p_ifaceNil Tryd.underlying25 rfl rfl rfl) ?_; clear hE a; intro a hE
  refine wnt ?_
  refine c_true hE rfl ?_
  refine wsr ?_
  refine zm hE ?_; clear hE a; intro a hE
  refine za hE ?_; clear hE a; intro a hE
  refine za hE ?_; clear hE a; intro a hE
  refine wnt ?_
  refine wp_ret ?_
  refine then_ret ?_
  refine ret2 rfl hE rfl rfl ?_
  replace hI := hI.erase 0
  exact .inr ⟨_, _, _, by simp only [Bt.take, hx1, hx37, eq_false (show ¬ (f16 = 0) by omega), ite_true, ite_false, if_true, if_false], rfl, _, _, hD4, hT43, hI⟩
 refine zm hE ?_; clear hE a; intro a hE
 refine zx hE ?_; clear hE a; intro a hE
 refine zx hE ?_; clear hE a; intro a hE
 refine zx hE ?_; clear hE a; intro a hE
 refine za hE ?_; clear hE a; intro a hE
 refine za hE ?_; clear hE a; intro a hE
 refine za hE ?_; clear hE a; intro a hE
 refine wnt ?_
 refine wp_seq ?_
 refine wsr ?_
 refine zm hE ?_; clear hE a; intro a hE
 refine zs hE (p_ifaceNil Tryd.underlying25 rfl rfl rfl) ?_; clear hE a; intro a hE
 refine wnt ?_
 refine c_true hE rfl ?_
 refine wsr ?_
 refine zm hE ?_; clear hE a; intro a hE
 refine za hE ?_; clear hE a; intro a hE
 refine za hE ?_; clear hE a; intro a hE
 refine wnt ?_
 refine wp_ret ?_
 refine then_ret ?_
 refine ret2 rfl hE rfl rfl ?_
 exact .inr ⟨_, _, _, by simp only [Bt.take, hx1, ite_true, ite_false, if_true, if_false], rfl, _, _, hD10, hT11, hI⟩
theorem free_spec {w0 w : World} {D : Sto} {ss : List Seg} {s : Seg} {vb vp : Value} {b : Bt} {P : Pl} (hI : Inv w0 D (s :: ss) w) {ad : Nat → Addr} (hS : TSents D ad) (hT : TreeS D vb vp b P s) (id : Int) (hlen : b.recs.length ≤ 1000000000 - 3) :
  Calls Tryd.prog 125 #[vb, .int .i64 id] w (Ret fun r w' => (∃ b', b.free id = .ok b' ∧ r = .nilIface ∧ ∃ D' s', Le D D' ∧ TreeS D' vb vp b' P s' ∧ Inv w0 D' (s' :: ss) w') ∨ (∃ c o, b.free id = .fail c o ∧ r = errV ad c ∧ ∃ b' D' s', Ext b b' ∧ Le D D' ∧ TreeS D' vb vp b' (P.after o) s' ∧ Inv w0 D' (s' :: ss) w')) := by
 refine enter (N := 33) Tryd.func125 rfl rfl rfl ?_
 intro a hE
 refine wsr ?_
 refine za hE ?_; clear hE a; intro a hE
 refine wnt ?_
 refine wsr ?_
 refine zm hE ?_; clear hE a; intro a hE
 refine l_step rfl (o_call hE rfl rfl rfl rfl ent_119 (pages_spec hI hS hT ) ?_)
 clear hI hE a
 rintro r w h a hE; rcases h with ⟨u15, f16, hx1, rfl, hm17, hm18, hm19, hm20, D3, hD4, hT5, hI⟩ | ⟨c6, o7, hx1, rfl, D9, s12, hD10, hT11, hI⟩
 ·skip
  refine zm hE ?_; clear hE a; intro a hE
  refine zx hE ?_; clear hE a; intro a hE
  refine zx hE ?_; clear hE a; intro a hE
  refine zx hE ?_; clear hE a; intro a hE
  refine za hE ?_; clear hE a; intro a hE
  refine za hE ?_; clear hE a; intro a hE
  refine za hE ?_; clear hE a; intro a hE
  refine wnt ?_
  refine wp_seq ?_
  refine wsr ?_
  refine zm hE ?_; clear hE a; intro a hE
  refine zs hE (p_ifaceNil Tryd.underlying25 rfl rfl rfl) ?_; clear hE a; intro a hE
  refine wnt ?_
  refine c_false hE rfl ?_
  refine wp_skip ?_
  refine then_normal ?_
  refine wsr ?_
  refine zm hE ?_; clear hE a; intro a hE
  refine za hE ?_; clear hE a; intro a hE
  refine wnt ?_
  refine wp_seq ?_
  refine wsr ?_
  refine zm hE ?_; clear hE a; intro a hE
  refine l_step rfl (o_cmp hE rfl rfl rfl rfl rfl rfl ?_ ?_)
  ·intro hz; replace hz := eql_t hz; clear hE a; intro a hE
   refine wnt ?_
   refine c_true hE rfl ?_
   refine wp_region_list ?_
   refine za hE ?_; clear hE a; intro a hE
   refine wnt ?_
   refine wsr ?_
   refine zm hE ?_; clear hE a; intro a hE
   refine zm hE ?_; clear hE a; intro a hE
   refine zs hE (f_build (vs := [(4, _), (5, _)]) (l := [_, _, _, _, _, _, _, _, _, _]) rfl built_88 rfl) ?_; clear hE a; intro a hE
   refine zm hE ?_; clear hE a; intro a hE
   refine zm hE ?_; clear hE a; intro a hE
   refine zs hE (f_build (vs := [(4, _), (5, _), (6, _)]) (l := [_, _, _, _, _, _, _, _, _, _]) rfl built_88 rfl) ?_; clear hE a; intro a hE
   refine zm hE ?_; clear hE a; intro a hE
   refine zm hE ?_; clear hE a; intro a hE
   refine l_step rfl (o_call hE rfl rfl rfl rfl ent_96 (counts_spec hI u15 id) ?_)
   clear hI hE a
   rintro r w ⟨D21, hD22, hI, hb23⟩ a hE
   obtain ⟨A24, c25, rfl, _⟩ := hb23.slice
   refine zs hE (f_build (vs := [(4, _), (5, _), (8, _)]) (l := [_, _, _, _, _, _, _, _, _, _]) rfl built_88 rfl) ?_; clear hE a; intro a hE
   refine l_step rfl (f_lit (vs := [(0, _), (1, _), (2, _)]) (l := [_, _, _, _, _, _, _, _, _, _, _, _, _, _, _, _, _, _, _, _, _, _, _, _, _, _, _, _, _, _]) hE hI rfl rfl rfl rfl Tryd.underlying62 zs_88 rfl rfl rfl ?_)
   clear hI hE a w; intro a b26 w hE hI
   have hr30 : RcR D21 _ ({ page := id, kind := 1 } : Rc) := ⟨_, _, rfl, (RB.nil _), (RB.nil _), ROk.of0 rfl (by simp) (by simp) (by simp) (by simp)⟩
   have hr31 : RcR D21 _ ({ page := id, kind := 5, slot := 256 } : Rc) := ⟨_, _, rfl, (RB.nil _), (RB.nil _), ROk.of0 rfl (by simp) (by simp) (by simp) (by simp)⟩
   have hr32 : RcR D21 _ ({ page := 1, kind := 4, val := twoB u15 ++ twoB id } : Rc) := ⟨_, _, rfl, (RB.nil _), hb23, ROk.of0 rfl (by simp) (by simp) (by simp) (by simp [twoB])⟩
   obtain ⟨D27, hD28, hIa, hL29⟩ := DR.lits (n := 3) (l := [({ page := id, kind := 1 } : Rc), ({ page := id, kind := 5, slot := 256 } : Rc), ({ page := 1, kind := 4, val := twoB u15 ++ twoB id } : Rc)]) 0 hI rfl rfl rfl (by omega) (At.lit3 (size := 10) (by rfl) (by rfl) (by rfl)  hr30 hr31 hr32)
   replace hI := hIa
   clear hIa
   try simp only [nrm, Value.cells] at hI
   refine l_step rfl (o_call hE rfl rfl rfl rfl ent_124 (all_spec hI (hS.mono ((hD4.trans hD22).trans hD28)) (hT5.mono (hD22.trans hD28)) (l := [({ page := id, kind := 1 } : Rc), ({ page := id, kind := 5, slot := 256 } : Rc), ({ page := 1, kind := 4, val := twoB u15 ++ twoB id } : Rc)]) hL29 (by simp only [List.length_cons, List.length_nil]; omega)) ?_)
   clear hI hE a
   rintro r w h a hE; rcases h with ⟨b34, hx33, rfl, D35, s40, hD36, hT37, hI⟩ | ⟨c38, o39, hx33, rfl, b45, D41, s44, hext46, hD42, hT43, hI⟩
   ·skip
    have hext_hx33 := (all_ext _ hx33).1
    have hlen_hx33 := (all_ext _ hx33).2
    refine za hE ?_; clear hE a; intro a hE
    refine wnt ?_
    refine wp_ret ?_
    refine ret1 rfl hE rfl ?_
    exact .inl ⟨_, by simp only [Bt.free, hx1, hx33, eq_true (show f16 = 0 by omega), ite_true, ite_false, if_true, if_false], rfl, _, _, (((hD4.trans hD22).trans hD28).trans hD36), hT37, hI⟩
   refine za hE ?_; clear hE a; intro a hE
   refine wnt ?_
   refine wp_ret ?_
   refine ret1 rfl hE rfl ?_
   exact .inr ⟨_, _, by simp only [Bt.free, hx1, hx33, eq_true (show f16 = 0 by omega), ite_true, ite_false, if_true, if_false], rfl, _, _, _, hext46, (((hD4.trans hD22).trans hD28).trans hD42), hT43, hI⟩
  intro hz; replace hz := eql_f hz; clear hE a; intro a hE
  refine wnt ?_
  refine c_false hE rfl ?_
  refine wp_skip ?_
  refine then_normal ?_
  refine wsr ?_
  refine zm hE ?_; clear hE a; intro a hE
  refine zm hE ?_; clear hE a; intro a hE
  refine zs hE (f_build (vs := [(4, _), (5, _)]) (l := [_, _, _, _, _, _, _, _, _, _]) rfl built_88 rfl) ?_; clear hE a; intro a hE
  refine zm hE ?_; clear hE a; intro a hE
  refine zm hE ?_; clear hE a; intro a hE
  refine zs hE (f_build (vs := [(4, _), (5, _), (6, _)]) (l := [_, _, _, _, _, _, _, _, _, _]) rfl built_88 rfl) ?_; clear hE a; intro a hE
  refine zm hE ?_; clear hE a; intro a hE
  refine zm hE ?_; clear hE a; intro a hE
  refine l_step rfl (o_call hE rfl rfl rfl rfl ent_96 (counts_spec hI u15 id) ?_)
  clear hI hE a
  rintro r w ⟨D47, hD48, hI, hb49⟩ a hE
  obtain ⟨A50, c51, rfl, _⟩ := hb49.slice
  refine zs hE (f_build (vs := [(4, _), (5, _), (8, _)]) (l := [_, _, _, _, _, _, _, _, _, _]) rfl built_88 rfl) ?_; clear hE a; intro a hE
  refine l_step rfl (f_lit (vs := [(0, _), (1, _), (2, _)]) (l := [_, _, _, _, _, _, _, _, _, _, _, _, _, _, _, _, _, _, _, _, _, _, _, _, _, _, _, _, _, _]) hE hI rfl rfl rfl rfl Tryd.underlying62 zs_88 rfl rfl rfl ?_)
  clear hI hE a w; intro a b52 w hE hI
  have hr56 : RcR D47 _ ({ page := id, kind := 1 } : Rc) := ⟨_, _, rfl, (RB.nil _), (RB.nil _), ROk.of0 rfl (by simp) (by simp) (by simp) (by simp)⟩
  have hr57 : RcR D47 _ ({ page := id, kind := 5, slot := f16 } : Rc) := ⟨_, _, rfl, (RB.nil _), (RB.nil _), ROk.of0 rfl (by simp; omega) (by simp; omega) (by simp) (by simp)⟩
  have hr58 : RcR D47 _ ({ page := 1, kind := 4, val := twoB u15 ++ twoB id } : Rc) := ⟨_, _, rfl, (RB.nil _), hb49, ROk.of0 rfl (by simp) (by simp) (by simp) (by simp [twoB])⟩
  obtain ⟨D53, hD54, hIa, hL55⟩ := DR.lits (n := 3) (l := [({ page := id, kind := 1 } : Rc), ({ page := id, kind := 5, slot := f16 } : Rc), ({ page := 1, kind := 4, val := twoB u15 ++ twoB id } : Rc)]) 0 hI rfl rfl rfl (by omega) (At.lit3 (size := 10) (by rfl) (by rfl) (by rfl)  hr56 hr57 hr58)
  replace hI := hIa
  clear hIa
  try simp only [nrm, Value.cells] at hI
  refine l_step rfl (o_call hE rfl rfl rfl rfl ent_124 (all_spec hI (hS.mono ((hD4.trans hD48).trans hD54)) (hT5.mono (hD48.trans hD54)) (l := [({ page := id, kind := 1 } : Rc), ({ page := id, kind := 5, slot := f16 } : Rc), ({ page := 1, kind := 4, val := twoB u15 ++ twoB id } : Rc)]) hL55 (by simp only [List.length_cons, List.length_nil]; omega)) ?_)
  clear hI hE a
  rintro r w h a hE; rcases h with ⟨b60, hx59, rfl, D61, s66, hD62, hT63, hI⟩ | ⟨c64, o65, hx59, rfl, b71, D67, s70, hext72, hD68, hT69, hI⟩
  ·skip
   have hext_hx59 := (all_ext _ hx59).1
   have hlen_hx59 := (all_ext _ hx59).2
   refine za hE ?_; clear hE a; intro a hE
   refine wnt ?_
   refine wp_ret ?_
   refine ret1 rfl hE rfl ?_
   exact .inl ⟨_, by simp only [Bt.free, hx1, hx59, eq_false (show ¬ (f16 = 0) by omega), ite_true, ite_false, if_true, if_false], rfl, _, _, (((hD4.trans hD48).trans hD54).trans hD62), hT63, hI⟩
  refine za hE ?_; clear hE a; intro a hE
  refine wnt ?_
  refine wp_ret ?_
  refine ret1 rfl hE rfl ?_
  exact .inr ⟨_, _, by simp only [Bt.free, hx1, hx59, eq_false (show ¬ (f16 = 0) by omega), ite_true, ite_false, if_true, if_false], rfl, _, _, _, hext72, (((hD4.trans hD48).trans hD54).trans hD68), hT69, hI⟩
 refine zm hE ?_; clear hE a; intro a hE
 refine zx hE ?_; clear hE a; intro a hE
 refine zx hE ?_; clear hE a; intro a hE
 refine zx hE ?_; clear hE a; intro a hE
 refine za hE ?_; clear hE a; intro a hE
 refine za hE ?_; clear hE a; intro a hE
 refine za hE ?_; clear hE a; intro a hE
 refine wnt ?_
 refine wp_seq ?_
 refine wsr ?_
 refine zm hE ?_; clear hE a; intro a hE
 refine zs hE (p_ifaceNil Tryd.underlying25 rfl rfl rfl) ?_; clear hE a; intro a hE
 refine wnt ?_
 refine c_true hE rfl ?_
 refine wsr ?_
 refine zm hE ?_; clear hE a; intro a hE
 refine za hE ?_; clear hE a; intro a hE
 refine wnt ?_
 refine wp_ret ?_
 refine then_ret ?_
 refine ret1 rfl hE rfl ?_
 exact .inr ⟨_, _, by simp only [Bt.free, hx1, ite_true, ite_false, if_true, if_false], rfl, _, _, _, Ext.refl _, hD10, hT11, hI⟩
theorem fill_spec {w0 w : World} {D : Sto} {ss : List Seg} {s : Seg} {vb vp : Value} {b : Bt} {P : Pl} (hI : Inv w0 D (s :: ss) w) {ad : Nat → Addr} (hS : TSents D ad) (hT : TreeS D vb vp b P s) {vl : Value} {l : Ens} (hl : EnD D vl l) (id : Int) {level next : Int} (hle : l.length ≤ 1000) (hlv0 : 0 ≤ level) (hlv1 : level ≤ 4611686018427387904) (hnx0 : -1 ≤ next) (hnx1 : next ≤ 4611686018427387904) (hlen : b.recs.length ≤ 1000000000 - 1010) :
  Calls Tryd.prog 126 #[vb, .int .i64 id, .int .i64 level, vl, .int .i64 next] w (Ret fun r w' => (∃ b', b.fill id level l next = .ok b' ∧ r = .nilIface ∧ ∃ D' s', Le D D' ∧ TreeS D' vb vp b' P s' ∧ Inv w0 D' (s' :: ss) w') ∨ (∃ c o, b.fill id level l next = .fail c o ∧ r = errV ad c ∧ ∃ b' D' s', Ext b b' ∧ Le D D' ∧ TreeS D' vb vp b' (P.after o) s' ∧ Inv w0 D' (s' :: ss) w')) := by
 obtain ⟨A1, c2, rfl, _⟩ := hl.slice
 refine enter (N := 60) Tryd.func126 rfl rfl rfl ?_
 intro a hE
 refine wsr ?_
 refine za hE ?_; clear hE a; intro a hE
 refine wnt ?_
 refine wp_seq ?_
 refine wsr ?_
 refine zm hE ?_; clear hE a; intro a hE
 refine zm hE ?_; clear hE a; intro a hE
 refine zm hE ?_; clear hE a; intro a hE
 refine zs hE (f_build (vs := [(4, _), (5, _), (6, _)]) (l := [_, _, _, _, _, _, _, _, _, _]) rfl built_88 rfl) ?_; clear hE a; intro a hE
 refine l_step rfl (o_call hE rfl rfl rfl rfl ent_72 (do_spec hI hS hT (rc := ({ page := id, kind := 1, slot := level } : Rc)) ⟨_, _, rfl, (RB.nil _), (RB.nil _), ROk.of0 rfl hlv0 hlv1 (by simp) (by simp)⟩ (by omega)) ?_)
 clear hI hE a
 rintro r w h a hE; rcases h with ⟨b4, hx3, rfl, D5, s10, hD6, hT7, hI⟩ | ⟨c8, o9, hx3, rfl, D11, s14, hD12, hT13, hI⟩
 ·skip
  have hext_hx3 := (doR_ext hx3).1
  have hlen_hx3 := (doR_ext hx3).2
  refine za hE ?_; clear hE a; intro a hE
  refine wnt ?_
  refine wsr ?_
  refine zm hE ?_; clear hE a; intro a hE
  refine zs hE (p_ifaceNil Tryd.underlying25 rfl rfl rfl) ?_; clear hE a; intro a hE
  refine wnt ?_
  refine c_false hE rfl ?_
  refine wp_skip ?_
  refine then_normal ?_
  refine wp_seq ?_
  refine wsr ?_
  refine zm hE ?_; clear hE a; intro a hE
  refine zs hE (p_len rfl rfl Tryd.underlying65) ?_; clear hE a; intro a hE
  refine zm hE ?_; clear hE a; intro a hE
  refine wnt ?_
  refine wp_block ?_
  refine c_loop (X := Sto × Nat × Bt × Seg) (fun x => [(0, _), (1, _), (2, _), (4, _), (24, _), (25, _), (26, .int .i64 (x.2.1 : Nat))]) (fun x w => x.2.1 ≤ l.length ∧ Le D x.1 ∧ Ext b x.2.2.1 ∧ b.fill id level l next = x.2.2.1.all (fillR id level x.2.1 (l.drop x.2.1) ++ linkR id next) ∧ x.2.2.1.recs.length ≤ b.recs.length + 1 + x.2.1 ∧ TreeS x.1 vb vp x.2.2.1 P x.2.2.2 ∧ Inv w0 x.1 (x.2.2.2 :: ss) w) (fun x => l.length - x.2.1) (D5, 0, b4, _) (hE.pick [0, 1, 2, 4, 24, 25, 26]) ⟨Nat.zero_le _, hD6, (doR_ext hx3).1, fill_start hx3, by have := (doR_ext hx3).2; show (b4).recs.length ≤ b.recs.length + 1 + 0; omega, hT7, hI⟩ ?_
  clear hE hI a w
  rintro ⟨D1, i, b1, s1⟩ a w hE ⟨hi, hD1, hx1, heq, hlen1, hT1, hI⟩
  try dsimp only at hE
  try dsimp only at hi
  try dsimp only at hD1
  try dsimp only at hx1
  try dsimp only at heq
  try dsimp only at hlen1
  try dsimp only at hT1
  try dsimp only at hI
  refine wsr ?_
  refine l_step rfl (o_cmp hE rfl rfl rfl rfl rfl rfl ?_ ?_)
  ·intro hlt; replace hlt := lss_t hlt; clear hE a; intro a hE
   refine wnt ?_
   refine wp_seq ?_
   refine c_true hE rfl ?_
   refine wp_skip ?_
   refine then_normal ?_
   refine wp_seq ?_
   refine wp_block ?_
   refine wsr ?_
   refine zm hE ?_; clear hE a; intro a hE
   obtain ⟨x_17, hx_17⟩ : ∃ y, (l)[i]? = some y := ⟨_, List.getElem?_eq_getElem (by omega)⟩
   obtain ⟨b_17, o_17, cs_17, T_17, fr_17, rfl, hb_17, hat_17⟩ := hl.at_ (by intro h0; rw [h0] at hx_17; simp at hx_17)
   obtain ⟨vs_17, hl_17, ⟨k_17, v_17, rfl, hk_17, hv_17, hok_17⟩, hex_17, hsz_17, hce_17⟩ := hat_17.extract hx_17 (by omega)
   obtain ⟨A18, c19, rfl, _⟩ := hk_17.slice
   obtain ⟨A20, c21, rfl, _⟩ := hv_17.slice
   refine zs hE (p_indexAddr (m := o_17 + i * 2) rfl rfl Tryd.underlying65 sz_69 (by omega) (by omega) (by simp)) ?_; clear hE a; intro a hE
   refine zl hE (r_loadA rfl agg_69 (hI.data _ _ (hD1 _ _ (hb_17))) hsz_17 hex_17) ?_; clear hE a; intro a hE
   refine l_step rfl (f_alloc (cs := #[.slice none 0 0, .slice none 0 0]) hE hI rfl rfl rfl zer_69 rfl ?_)
   clear hI hE a w; intro a b22 w hE hI
   refine za hE ?_; clear hE a; intro a hE
   refine l_step rfl (f_store (l := [_, _]) (ss' := _ :: _) 0 hE hI rfl rfl rfl rfl rfl sz_69 (by simp [Value.cells, Value.oneCell', pgCells, rcCells, zPg]) rfl rfl rfl ?_)
   clear hI w; intro w hI
   refine wnt ?_
   refine wsr ?_
   refine zs hE (p_fieldAddr (m := 0) rfl fo_69_0 rfl) ?_; clear hE a; intro a hE
   refine zl hE (f_load rfl scal_22 (hI.seg 0 rfl) rfl) ?_; clear hE a; intro a hE
   refine za hE ?_; clear hE a; intro a hE
   refine wnt ?_
   refine wp_seq ?_
   refine wsr ?_
   refine zm hE ?_; clear hE a; intro a hE
   refine l_step rfl (o_cmp hE rfl rfl rfl rfl rfl rfl ?_ ?_)
   ·intro hlv; replace hlv := gtr_t hlv; clear hE a; intro a hE
    refine zm hE ?_; clear hE a; intro a hE
    refine gs hE (p_move rfl) ?_; clear hE a; intro a hE
    refine l_go hE rfl (o_cmp hE rfl rfl rfl rfl rfl rfl ?_ ?_)
    ·intro hi0; replace hi0 := eql_t hi0; clear hE a; intro a hE
     refine zs hE (p_pick (b := true) rfl rfl) ?_; clear hE a; intro a hE
     refine wnt ?_
     refine c_true hE rfl ?_
     refine wp_region_list ?_
     refine za hE ?_; clear hE a; intro a hE
     refine wnt ?_
     refine wp_seq ?_
     refine d_start [9] [] (by kernel_rfl) hI rfl rfl ?_
     clear hI w; intro w hI
     refine dp 0 hE rfl (p_move rfl) (fun _ => hI) (listed' := #[true, false, false, false, false, false, false, false, false, false, false]) ?_; clear hE a; intro a hE
     refine dp 1 hE rfl (p_move rfl) (fun _ => hI) ?_; clear hE a; intro a hE
     refine dp 2 hE rfl (p_move rfl) (fun _ => hI) ?_; clear hE a; intro a hE
     refine dp 3 hE rfl (p_move rfl) (fun _ => hI) ?_; clear hE a; intro a hE
     refine dp 5 hE rfl (p_fieldAddr (m := 1) rfl fo_69_1 rfl) (fun _ => hI) ?_; clear hE a; intro a hE
     refine dl 6 hE rfl (fun w hS => f_load rfl scal_22 (Inv.seg 0 hS rfl) rfl) (hI) ?_; clear hE a; intro a hE
     refine do1 4 hE rfl ?_
     refine o_call hE rfl rfl rfl rfl ent_73 (Clone_data (bs := []) hI (RB.nil _) (by have := hok_17.1; have := hok_17.2; first | omega | (simp only [List.length_nil]; omega))) ?_
     clear hI hE a
     rintro r w ⟨D23, hD24, hI, hb25⟩ a hE
     obtain ⟨A26, c27, rfl, _⟩ := hb25.slice
     refine ⟨fun _ => (Inv.weaken hI hD24), ?_⟩
     refine do1 7 hE rfl ?_
     refine o_call hE rfl rfl rfl rfl ent_73 (Clone_data (bs := x_17.2) hI (hv_17.mono (hD1.trans hD24)) (by have := hok_17.1; have := hok_17.2; first | omega | (simp only [List.length_nil]; omega))) ?_
     clear hI hE a
     rintro r w ⟨D28, hD29, hI, hb30⟩ a hE
     obtain ⟨A31, c32, rfl, _⟩ := hb30.slice
     refine ⟨fun _ => (Inv.weaken hI (hD24.trans hD29)), ?_⟩
     refine dp 8 hE rfl (f_build (vs := [(4, _), (5, _), (6, _), (7, _), (8, _)]) (l := [_, _, _, _, _, _, _, _, _, _]) rfl built_88 rfl) (fun _ => (Inv.weaken hI (hD24.trans hD29))) ?_; clear hE a; intro a hE
     refine do1 9 hE rfl ?_
     refine o_call hE rfl rfl rfl rfl ent_72 (do_spec (hI.bring 1) (hS.mono ((hD1.trans hD24).trans hD29)) (hT1.mono (hD24.trans hD29)) (rc := ({ page := id, kind := 2, slot := (i : Nat), key := [], val := x_17.2 } : Rc)) ⟨_, _, rfl, (hb25.mono hD29), hb30, ROk.of0 rfl (by simp) (by show (i : Int) ≤ _; omega) (by simp) (hok_17.2)⟩ (by omega)) ?_
     clear hI hE a
     rintro r w h a hE; rcases h with ⟨b34, hx33, rfl, D35, s40, hD36, hT37, hI⟩ | ⟨c38, o39, hx33, rfl, D41, s44, hD42, hT43, hI⟩
     ·skip
      replace hI := hI.put_back 1
      try simp only [nrm, Value.cells] at hI
      have hext_hx33 := (doR_ext hx33).1
      have hlen_hx33 := (doR_ext hx33).2
      refine ⟨nl, ?_⟩
      refine dp 10 hE rfl (p_assign rfl) nl ?_; clear hE a; intro a hE
      refine d_done (by kernel_rfl) ?_
      refine then_normal ?_
      refine wsr ?_
      refine zm hE ?_; clear hE a; intro a hE
      refine zs hE (p_ifaceNil Tryd.underlying25 rfl rfl rfl) ?_; clear hE a; intro a hE
      refine wnt ?_
      refine c_false hE rfl ?_
      refine wp_skip ?_
      refine blk_normal ?_
      refine then_normal ?_
      refine wp_region_list ?_
      refine zs hE (p_arith (z := ((i + 1 : Nat) : Int)) rfl rfl (add_z (by omega) (by omega) (by omega))) ?_; clear hE a; intro a hE
      refine zm hE ?_; clear hE a; intro a hE
      refine wnt ?_
      replace hI := hI.erase 0
      exact ⟨(D35, i + 1, b34, _), hE.pick [0, 1, 2, 4, 24, 25, 26], ⟨by show i + 1 ≤ _; omega, (((hD1.trans hD24).trans hD29).trans hD36), hx1.trans (doR_ext hx33).1, by rw [heq, fill_at hx_17, if_pos (by omega), hx33], by have := (doR_ext hx33).2; show (Bt.recs b34).length ≤ _ + 1 + (i + 1); omega, hT37, hI⟩, by show l.length - (i + 1) < l.length - i; omega⟩
     replace hI := hI.put_back 1
     try simp only [nrm, Value.cells] at hI
     refine ⟨nl, ?_⟩
     refine dp 10 hE rfl (p_assign rfl) nl ?_; clear hE a; intro a hE
     refine d_done (by kernel_rfl) ?_
     refine then_normal ?_
     refine wsr ?_
     refine zm hE ?_; clear hE a; intro a hE
     refine zs hE (p_ifaceNil Tryd.underlying25 rfl rfl rfl) ?_; clear hE a; intro a hE
     refine wnt ?_
     refine c_true hE rfl ?_
     refine wsr ?_
     refine zm hE ?_; clear hE a; intro a hE
     refine za hE ?_; clear hE a; intro a hE
     refine wnt ?_
     refine wp_ret ?_
     refine blk_ret ?_
     refine then_ret ?_
     refine then_ret ?_
     refine blk_ret ?_
     refine then_ret ?_
     refine ret1 rfl hE rfl ?_
     replace hI := hI.erase 0
     exact .inr ⟨_, _, by rw [heq, fill_at hx_17, if_pos (by omega), hx33], rfl, _, _, _, hx1, (((hD1.trans hD24).trans hD29).trans hD42), hT43, hI⟩
    intro hi0; replace hi0 := eql_f hi0; clear hE a; intro a hE
    refine zs hE (p_pick (b := true) rfl rfl) ?_; clear hE a; intro a hE
    refine wnt ?_
    refine c_false hE rfl ?_
    refine wp_skip ?_
    refine then_normal ?_
    refine wp_seq ?_
    refine d_start [9] [] (by kernel_rfl) hI rfl rfl ?_
    clear hI w; intro w hI
    refine dp 0 hE rfl (p_move rfl) (fun _ => hI) (listed' := #[true, false, false, false, false, false, false, false, false, false, false]) ?_; clear hE a; intro a hE
    refine dp 1 hE rfl (p_move rfl) (fun _ => hI) ?_; clear hE a; intro a hE
    refine dp 2 hE rfl (p_move rfl) (fun _ => hI) ?_; clear hE a; intro a hE
    refine dp 3 hE rfl (p_move rfl) (fun _ => hI) ?_; clear hE a; intro a hE
    refine dp 5 hE rfl (p_fieldAddr (m := 1) rfl fo_69_1 rfl) (fun _ => hI) ?_; clear hE a; intro a hE
    refine dl 6 hE rfl (fun w hS => f_load rfl scal_22 (Inv.seg 0 hS rfl) rfl) (hI) ?_; clear hE a; intro a hE
    refine do1 4 hE rfl ?_
    refine o_call hE rfl rfl rfl rfl ent_73 (Clone_data (bs := x_17.1) hI (hk_17.mono hD1) (by have := hok_17.1; have := hok_17.2; first | omega | (simp only [List.length_nil]; omega))) ?_
    clear hI hE a
    rintro r w ⟨D47, hD48, hI, hb49⟩ a hE
    obtain ⟨A50, c51, rfl, _⟩ := hb49.slice
    refine ⟨fun _ => (Inv.weaken hI hD48), ?_⟩
    refine do1 7 hE rfl ?_
    refine o_call hE rfl rfl rfl rfl ent_73 (Clone_data (bs := x_17.2) hI (hv_17.mono (hD1.trans hD48)) (by have := hok_17.1; have := hok_17.2; first | omega | (simp only [List.length_nil]; omega))) ?_
    clear hI hE a
    rintro r w ⟨D52, hD53, hI, hb54⟩ a hE
    obtain ⟨A55, c56, rfl, _⟩ := hb54.slice
    refine ⟨fun _ => (Inv.weaken hI (hD48.trans hD53)), ?_⟩
    refine dp 8 hE rfl (f_build (vs := [(4, _), (5, _), (6, _), (7, _), (8, _)]) (l := [_, _, _, _, _, _, _, _, _, _]) rfl built_88 rfl) (fun _ => (Inv.weaken hI (hD48.trans hD53))) ?_; clear hE a; intro a hE
    refine do1 9 hE rfl ?_
    refine o_call hE rfl rfl rfl rfl ent_72 (do_spec (hI.bring 1) (hS.mono ((hD1.trans hD48).trans hD53)) (hT1.mono (hD48.trans hD53)) (rc := ({ page := id, kind := 2, slot := (i : Nat), key := x_17.1, val := x_17.2 } : Rc)) ⟨_, _, rfl, (hb49.mono hD53), hb54, ROk.of0 rfl (by simp) (by show (i : Int) ≤ _; omega) (by exact hok_17.1) (hok_17.2)⟩ (by omega)) ?_
    clear hI hE a
    rintro r w h a hE; rcases h with ⟨b58, hx57, rfl, D59, s64, hD60, hT61, hI⟩ | ⟨c62, o63, hx57, rfl, D65, s68, hD66, hT67, hI⟩
    ·skip
     replace hI := hI.put_back 1
     try simp only [nrm, Value.cells] at hI
     have hext_hx57 := (doR_ext hx57).1
     have hlen_hx57 := (doR_ext hx57).2
     refine ⟨nl, ?_⟩
     refine dp 10 hE rfl (p_assign rfl) nl ?_; clear hE a; intro a hE
     refine d_done (by kernel_rfl) ?_
     refine then_normal ?_
     refine wsr ?_
     refine zm hE ?_; clear hE a; intro a hE
     refine zs hE (p_ifaceNil Tryd.underlying25 rfl rfl rfl) ?_; clear hE a; intro a hE
     refine wnt ?_
     refine c_false hE rfl ?_
     refine wp_skip ?_
     refine blk_normal ?_
     refine then_normal ?_
     refine wp_region_list ?_
     refine zs hE (p_arith (z := ((i + 1 : Nat) : Int)) rfl rfl (add_z (by omega) (by omega) (by omega))) ?_; clear hE a; intro a hE
     refine zm hE ?_; clear hE a; intro a hE
     refine wnt ?_
     replace hI := hI.erase 0
     exact ⟨(D59, i + 1, b58, _), hE.pick [0, 1, 2, 4, 24, 25, 26], ⟨by show i + 1 ≤ _; omega, (((hD1.trans hD48).trans hD53).trans hD60), hx1.trans (doR_ext hx57).1, by rw [heq, fill_at hx_17, if_neg (by omega), hx57], by have := (doR_ext hx57).2; show (Bt.recs b58).length ≤ _ + 1 + (i + 1); omega, hT61, hI⟩, by show l.length - (i + 1) < l.length - i; omega⟩
    replace hI := hI.put_back 1
    try simp only [nrm, Value.cells] at hI
    refine ⟨nl, ?_⟩
    refine dp 10 hE rfl (p_assign rfl) nl ?_; clear hE a; intro a hE
    refine d_done (by kernel_rfl) ?_
    refine then_normal ?_
    refine wsr ?_
    refine zm hE ?_; clear hE a; intro a hE
    refine zs hE (p_ifaceNil Tryd.underlying25 rfl rfl rfl) ?_; clear hE a; intro a hE
    refine wnt ?_
    refine c_true hE rfl ?_
    refine wsr ?_
    refine zm hE ?_; clear hE a; intro a hE
    refine za hE ?_; clear hE a; intro a hE
    refine wnt ?_
    refine wp_ret ?_
    refine blk_ret ?_
    refine then_ret ?_
    refine then_ret ?_
    refine blk_ret ?_
    refine then_ret ?_
    refine ret1 rfl hE rfl ?_
    replace hI := hI.erase 0
    exact .inr ⟨_, _, by rw [heq, fill_at hx_17, if_neg (by omega), hx57], rfl, _, _, _, hx1, (((hD1.trans hD48).trans hD53).trans hD66), hT67, hI⟩
   intro hlv; replace hlv := gtr_f hlv; clear hE a; intro a hE
   refine zm hE ?_; clear hE a; intro a hE
   refine zk hE ?_; clear hE a; intro a hE
   refine zk hE ?_; clear hE a; intro a hE
   refine zs hE (p_pick (b := false) rfl rfl) ?_; clear hE a; intro a hE
   refine wnt ?_
   refine c_false hE rfl ?_
   refine wp_skip ?_
   refine then_normal ?_
   refine wp_seq ?_
   refine d_start [9] [] (by kernel_rfl) hI rfl rfl ?_
   clear hI w; intro w hI
   refine dp 0 hE rfl (p_move rfl) (fun _ => hI) (listed' := #[true, false, false, false, false, false, false, false, false, false, false]) ?_; clear hE a; intro a hE
   refine dp 1 hE rfl (p_move rfl) (fun _ => hI) ?_; clear hE a; intro a hE
   refine dp 2 hE rfl (p_move rfl) (fun _ => hI) ?_; clear hE a; intro a hE
   refine dp 3 hE rfl (p_move rfl) (fun _ => hI) ?_; clear hE a; intro a hE
   refine dp 5 hE rfl (p_fieldAddr (m := 1) rfl fo_69_1 rfl) (fun _ => hI) ?_; clear hE a; intro a hE
   refine dl 6 hE rfl (fun w hS => f_load rfl scal_22 (Inv.seg 0 hS rfl) rfl) (hI) ?_; clear hE a; intro a hE
   refine do1 4 hE rfl ?_
   refine o_call hE rfl rfl rfl rfl ent_73 (Clone_data (bs := x_17.1) hI (hk_17.mono hD1) (by have := hok_17.1; have := hok_17.2; first | omega | (simp only [List.length_nil]; omega))) ?_
   clear hI hE a
   rintro r w ⟨D71, hD72, hI, hb73⟩ a hE
   obtain ⟨A74, c75, rfl, _⟩ := hb73.slice
   refine ⟨fun _ => (Inv.weaken hI hD72), ?_⟩
   refine do1 7 hE rfl ?_
   refine o_call hE rfl rfl rfl rfl ent_73 (Clone_data (bs := x_17.2) hI (hv_17.mono (hD1.trans hD72)) (by have := hok_17.1; have := hok_17.2; first | omega | (simp only [List.length_nil]; omega))) ?_
   clear hI hE a
   rintro r w ⟨D76, hD77, hI, hb78⟩ a hE
   obtain ⟨A79, c80, rfl, _⟩ := hb78.slice
   refine ⟨fun _ => (Inv.weaken hI (hD72.trans hD77)), ?_⟩
   refine dp 8 hE rfl (f_build (vs := [(4, _), (5, _), (6, _), (7, _), (8, _)]) (l := [_, _, _, _, _, _, _, _, _, _]) rfl built_88 rfl) (fun _ => (Inv.weaken hI (hD72.trans hD77))) ?_; clear hE a; intro a hE
   refine do1 9 hE rfl ?_
   refine o_call hE rfl rfl rfl rfl ent_72 (do_spec (hI.bring 1) (hS.mono ((hD1.trans hD72).trans hD77)) (hT1.mono (hD72.trans hD77)) (rc := ({ page := id, kind := 2, slot := (i : Nat), key := x_17.1, val := x_17.2 } : Rc)) ⟨_, _, rfl, (hb73.mono hD77), hb78, ROk.of0 rfl (by simp) (by show (i : Int) ≤ _; omega) (by exact hok_17.1) (hok_17.2)⟩ (by omega)) ?_
   clear hI hE a
   rintro r w h a hE; rcases h with ⟨b82, hx81, rfl, D83, s88, hD84, hT85, hI⟩ | ⟨c86, o87, hx81, rfl, D89, s92, hD90, hT91, hI⟩
   ·skip
    replace hI := hI.put_back 1
    try simp only [nrm, Value.cells] at hI
    have hext_hx81 := (doR_ext hx81).1
    have hlen_hx81 := (doR_ext hx81).2
    refine ⟨nl, ?_⟩
    refine dp 10 hE rfl (p_assign rfl) nl ?_; clear hE a; intro a hE
    refine d_done (by kernel_rfl) ?_
    refine then_normal ?_
    refine wsr ?_
    refine zm hE ?_; clear hE a; intro a hE
    refine zs hE (p_ifaceNil Tryd.underlying25 rfl rfl rfl) ?_; clear hE a; intro a hE
    refine wnt ?_
    refine c_false hE rfl ?_
    refine wp_skip ?_
    refine blk_normal ?_
    refine then_normal ?_
    refine wp_region_list ?_
    refine zs hE (p_arith (z := ((i + 1 : Nat) : Int)) rfl rfl (add_z (by omega) (by omega) (by omega))) ?_; clear hE a; intro a hE
    refine zm hE ?_; clear hE a; intro a hE
    refine wnt ?_
    replace hI := hI.erase 0
    exact ⟨(D83, i + 1, b82, _), hE.pick [0, 1, 2, 4, 24, 25, 26], ⟨by show i + 1 ≤ _; omega, (((hD1.trans hD72).trans hD77).trans hD84), hx1.trans (doR_ext hx81).1, by rw [heq, fill_at hx_17, if_neg (by omega), hx81], by have := (doR_ext hx81).2; show (Bt.recs b82).length ≤ _ + 1 + (i + 1); omega, hT85, hI⟩, by show l.length - (i + 1) < l.length - i; omega⟩
   replace hI := hI.put_back 1
   try simp only [nrm, Value.cells] at hI
   refine ⟨nl, ?_⟩
   refine dp 10 hE rfl (p_assign rfl) nl ?_; clear hE a; intro a hE
   refine d_done (by kernel_rfl) ?_
   refine then_normal ?_
   refine wsr ?_
   refine zm hE ?_; clear hE a; intro a hE
   refine zs hE (p_ifaceNil Tryd.underlying25 rfl rfl rfl) ?_; clear hE a; intro a hE
   refine wnt ?_
   refine c_true hE rfl ?_
   refine wsr ?_
   refine zm hE ?_; clear hE a; intro a hE
   refine za hE ?_; clear hE a; intro a hE
   refine wnt ?_
   refine wp_ret ?_
   refine blk_ret ?_
   refine then_ret ?_
   refine then_ret ?_
   refine blk_ret ?_
   refine then_ret ?_
   refine ret1 rfl hE rfl ?_
   replace hI := hI.erase 0
   exact .inr ⟨_, _, by rw [heq, fill_at hx_17, if_neg (by omega), hx81], rfl, _, _, _, hx1, (((hD1.trans hD72).trans hD77).trans hD90), hT91, hI⟩
  intro hlt; replace hlt := lss_f hlt; clear hE a; intro a hE
  refine wnt ?_
  refine wp_seq ?_
  refine c_false hE rfl ?_
  refine wp_exit ?_
  refine then_exit ?_
  refine then_exit ?_
  refine blk_same ?_
  refine then_normal ?_
  refine wp_seq ?_
  refine wsr ?_
  refine zm hE ?_; clear hE a; intro a hE
  refine l_step rfl (o_cmp hE rfl rfl rfl rfl rfl rfl ?_ ?_)
  ·intro hnx; replace hnx := eql_t hnx; clear hE a; intro a hE
   refine wnt ?_
   refine c_true hE rfl ?_
   refine wsr ?_
   refine za hE ?_; clear hE a; intro a hE
   refine wnt ?_
   refine wp_ret ?_
   refine then_ret ?_
   refine ret1 rfl hE rfl ?_
   have hdr : l.drop i = [] := List.drop_of_length_le (by omega)
   exact .inl ⟨b1, by rw [heq, hdr, fillR, List.nil_append, linkR, if_pos (by omega)]; rfl, rfl, _, _, hD1, hT1, hI⟩
  intro hnx; replace hnx := eql_f hnx; clear hE a; intro a hE
  refine wnt ?_
  refine c_false hE rfl ?_
  refine wp_skip ?_
  refine then_normal ?_
  refine wsr ?_
  refine zm hE ?_; clear hE a; intro a hE
  refine zm hE ?_; clear hE a; intro a hE
  refine zm hE ?_; clear hE a; intro a hE
  refine zs hE (f_build (vs := [(4, _), (5, _), (6, _)]) (l := [_, _, _, _, _, _, _, _, _, _]) rfl built_88 rfl) ?_; clear hE a; intro a hE
  refine l_step rfl (o_call hE rfl rfl rfl rfl ent_72 (do_spec hI (hS.mono hD1) hT1 (rc := ({ page := id, kind := 5, slot := next } : Rc)) ⟨_, _, rfl, (RB.nil _), (RB.nil _), ROk.of0 rfl (by show 0 ≤ next; omega) (by show next ≤ _; omega) (by simp) (by simp)⟩ (by omega)) ?_)
  clear hI hE a
  rintro r w h a hE; rcases h with ⟨b96, hx95, rfl, D97, s102, hD98, hT99, hI⟩ | ⟨c100, o101, hx95, rfl, D103, s106, hD104, hT105, hI⟩
  ·skip
   have hext_hx95 := (doR_ext hx95).1
   have hlen_hx95 := (doR_ext hx95).2
   refine za hE ?_; clear hE a; intro a hE
   refine wnt ?_
   refine wp_ret ?_
   refine ret1 rfl hE rfl ?_
   have hdr : l.drop i = [] := List.drop_of_length_le (by omega)
   exact .inl ⟨_, by rw [heq, hdr, fillR, List.nil_append, linkR, if_neg (by omega), Bt.all, hx95]; rfl, rfl, _, _, (hD1.trans hD98), hT99, hI⟩
  refine za hE ?_; clear hE a; intro a hE
  refine wnt ?_
  refine wp_ret ?_
  refine ret1 rfl hE rfl ?_
  have hdr : l.drop i = [] := List.drop_of_length_le (by omega)
  exact .inr ⟨_, _, by rw [heq, hdr, fillR, List.nil_append, linkR, if_neg (by omega), Bt.all, hx95], rfl, _, _, _, hx1, (hD1.trans hD104), hT105, hI⟩
 refine za hE ?_; clear hE a; intro a hE
 refine wnt ?_
 refine wsr ?_
 refine zm hE ?_; clear hE a; intro a hE
 refine zs hE (p_ifaceNil Tryd.underlying25 rfl rfl rfl) ?_; clear hE a; intro a hE
 refine wnt ?_
 refine c_true hE rfl ?_
 refine wsr ?_
 refine zm hE ?_; clear hE a; intro a hE
 refine za hE ?_; clear hE a; intro a hE
 refine wnt ?_
 refine wp_ret ?_
 refine then_ret ?_
 refine ret1 rfl hE rfl ?_
 exact .inr ⟨_, _, fill_fail hx3, rfl, _, _, _, Ext.refl _, hD12, hT13, hI⟩
end Go.Proofs.YtbogbnkckofpdaaDoor.B
