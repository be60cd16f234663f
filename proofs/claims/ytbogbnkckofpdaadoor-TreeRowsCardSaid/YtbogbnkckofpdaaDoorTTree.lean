/- What functions of the program compute, each function once: steps over the model, and the plain law of it. -/
import Derived.Test.YtbogbnkckofpdaaDoorTBatch
namespace Go.Proofs.YtbogbnkckofpdaaDoor.B
open Go Go.Proofs
set_option linter.unusedVariables false
set_option linter.unusedSimpArgs false
set_option maxRecDepth 20000
set_option maxHeartbeats 8000000
namespace FTTree
theorem agg_88 : aggSize Tryd.prog 88 = some 10 := by kernel_rfl
theorem built_88 : ∀ vs, Tryd.prog.built 88 vs = Instr.fill (([(0, 1), (1, 1), (2, 1), (3, 1), (4, 1), (5, 1), (6, 1), (7, 1), (8, 1), (9, 1)] : List (Nat × Nat)).toArray[·]?) ([.int .i64 0, .int .i64 0, .int .i64 0, .int .i64 0, .int .i64 0, .int .i64 0, .int .i64 0, .slice none 0 0, .slice none 0 0, .bool false] : List Value).toArray vs := fun _ => by kernel_rfl
theorem ent_130 : enters Tryd.prog 130 = true := by kernel_rfl
theorem ent_72 : enters Tryd.prog 72 = true := by kernel_rfl
theorem ent_88 : enters Tryd.prog 88 = true := by kernel_rfl
theorem ent_96 : enters Tryd.prog 96 = true := by kernel_rfl
theorem fo_69_1 : fieldOff Tryd.prog 69 1 = some 1 := by kernel_rfl
theorem fo_83_4 : fieldOff Tryd.prog 83 4 = some 4 := by kernel_rfl
theorem scal_22 : isScal Tryd.prog 22 = true := by kernel_rfl
theorem scal_25 : isScal Tryd.prog 25 = true := by kernel_rfl
theorem scal_65 : isScal Tryd.prog 65 = true := by kernel_rfl
theorem sz_5 : (Tryd.prog.info? 5).map (·.size) = some 1 := by kernel_rfl
theorem sz_69 : (Tryd.prog.info? 69).map (·.size) = some 2 := by kernel_rfl
theorem sz_83 : (Tryd.prog.info? 83).map (·.size) = some 5 := by kernel_rfl
theorem sz_88 : (Tryd.prog.info? 88).map (·.size) = some 10 := by kernel_rfl
theorem zer_83 : (Tryd.prog.info? 83).bind (·.zero) = some (.agg #[.int .i64 0, .int .i64 0, .int .i64 0, .int .i64 0, .slice none 0 0]) := by kernel_rfl
theorem zer_88 : (Tryd.prog.info? 88).bind (·.zero) = some (.agg #[.int .i64 0, .int .i64 0, .int .i64 0, .int .i64 0, .int .i64 0, .int .i64 0, .int .i64 0, .slice none 0 0, .slice none 0 0, .bool false]) := by kernel_rfl
end FTTree
open FTTree
section
variable {α : Type} {size : Nat} {R : Sto → List Value → α → Prop} {D : Sto}
theorem At.nil (cs : List Value) : At size R D (([] : List Value) ++ cs).toArray 0 [] := fun i x hx => by simp at hx
theorem At.lit2 {v1 v2 : List Value} {x1 x2 : α} (l1 : v1.length = size) (l2 : v2.length = size) (h1 : R D v1 x1) (h2 : R D v2 x2) : At size R D (v1 ++ v2).toArray 0 [x1, x2] := by
 have a1 := At.snoc (At.nil (R := R) (D := D) (size := size)) (by simp) l1 h1
 have a2 := At.snoc a1 (by simp [l1]) l2 h2
 have := a2 []
 simpa using this
theorem At.lit3 {v1 v2 v3 : List Value} {x1 x2 x3 : α} (l1 : v1.length = size) (l2 : v2.length = size) (l3 : v3.length = size) (h1 : R D v1 x1) (h2 : R D v2 x2) (h3 : R D v3 x3) : At size R D (v1 ++ v2 ++ v3).toArray 0 [x1, x2, x3] := by
 have a1 := At.snoc (At.nil (R := R) (D := D) (size := size)) (by simp) l1 h1
 have a2 := At.snoc a1 (by simp [l1]) l2 h2
 have a3 := At.snoc a2 (by simp [l1, l2]; omega) l3 h3
 have := a3 []
 simpa using this
end
/-- A literal of records, as data. -/
theorem DR.lits {D : Sto} {b n : Nat} {cs : Array Value} {l : List Rc} {w0 w : World} {ss : List Seg} (i : Nat) (hI : Inv w0 D ss w) (hi : ss[i]? = some [(b, .cells cs 88 (0, 0))]) (hn : n = l.length) (hs : cs.size = n * 10) (hm : n ≤ 1000) (h : At 10 RcR D cs 0 l) :
  ∃ D', Le D D' ∧ Inv w0 D' (ss.eraseIdx i) w ∧ DR 10 RcR D' (.slice (some ⟨b, 0, none⟩) n n) l := by
 subst hn
 obtain ⟨h1, h2⟩ := hI.shut_at i hi
 exact ⟨_, h2, h1, OR.shut RcR.keeps (OR.ofAt (T := 88) rfl (Nat.le_refl _) (by simp only [maxLen]; omega) hs h) h2⟩
theorem ROk.of0 {r : Rc} (h : r.lsn = 0) (s0 : 0 ≤ r.slot) (s1 : r.slot ≤ 4611686018427387904) (k : r.key.length ≤ 100000) (v : r.val.length ≤ 100000) : ROk r := ⟨by omega, by omega, s0, s1, k, v⟩
theorem doR_ext {b b' : Bt} {r : Rc} (h : b.doR r = .ok b') : Ext b b' ∧ b'.recs.length = b.recs.length + 1 := by
 rw [Bt.doR] at h
 split at h
 ·cases h
 injection h with h; subst h
 exact ⟨⟨rfl, [_], rfl⟩, by simp⟩
theorem all_ext : ∀ (l : List Rc) {b b' : Bt}, b.all l = .ok b' → Ext b b' ∧ b'.recs.length = b.recs.length + l.length
 | [], b, b', h => by rw [Bt.all] at h; injection h with h; subst h; exact ⟨Ext.refl _, rfl⟩
 | r :: l, b, b', h => by
  rw [Bt.all] at h
  cases hd : b.doR r with
  | fail c o => rw [hd] at h; cases h
  | ok b1 =>
   rw [hd] at h
   have h1 := doR_ext hd
   have h2 := all_ext l h
   exact ⟨h1.1.trans h2.1, by rw [h2.2, h1.2]; simp; omega⟩
theorem all_at {b b1 : Bt} {l : List Rc} {i : Nat} {r : Rc} (hx : l[i]? = some r) : b.all (l.drop i) = match b.doR r with
  | .fail c o => .fail c o
  | .ok b => b.all (l.drop (i + 1)) := by
 obtain ⟨h1, h2⟩ := List.getElem?_eq_some_iff.1 hx
 rw [List.drop_eq_getElem_cons h1, h2, Bt.all]
 cases b.doR r <;> rfl
theorem numberP_lt {D : Sto} {v : Value} {bs : List Nat} (h : RB D v bs) : 0 ≤ numberP bs ∧ numberP bs < 65536 := by
 have hg : ∀ i, bs.getD i 0 < 256 := fun i => by
  rw [List.getD_eq_getElem?_getD]
  cases hx : bs[i]? with
  | none => simp
  | some x => exact h.lt x (List.mem_of_getElem? hx)
 have h0 := hg 0; have h1 := hg 1
 simp only [numberP]; omega
theorem all_spec {w0 w : World} {D : Sto} {ss : List Seg} {s : Seg} {vb vp : Value} {b : Bt} {P : Pl} (hI : Inv w0 D (s :: ss) w) {ad : Nat → Addr} (hS : TSents D ad) (hT : TreeS D vb vp b P s) {vl : Value} {l : List Rc} (hl : DR 10 RcR D vl l) (hlen : b.recs.length + l.length ≤ 1000000000) :
  Calls Tryd.prog 124 #[vb, vl] w (Ret fun r w' => (∃ b', b.all l = .ok b' ∧ r = .nilIface ∧ ∃ D' s', Le D D' ∧ TreeS D' vb vp b' P s' ∧ Inv w0 D' (s' :: ss) w') ∨ (∃ c o, b.all l = .fail c o ∧ r = errV ad c ∧ ∃ b' D' s', Ext b b' ∧ Le D D' ∧ TreeS D' vb vp b' (P.after o) s' ∧ Inv w0 D' (s' :: ss) w')) := by
 obtain ⟨A1, c2, rfl, _⟩ := hl.slice
 refine enter (N := 21) Tryd.func124 rfl rfl rfl ?_
 intro a hE
 refine wsr ?_
 refine za hE ?_; clear hE a; intro a hE
 refine wnt ?_
 refine wp_seq ?_
 refine wsr ?_
 refine zm hE ?_; clear hE a; intro a hE
 refine zs hE (p_len rfl rfl Tryd.underlying62) ?_; clear hE a; intro a hE
 refine zm hE ?_; clear hE a; intro a hE
 refine wnt ?_
 refine wp_block ?_
 refine c_loop (X := Sto × Nat × Bt × Seg) (fun x => [(0, _), (8, _), (9, _), (10, .int .i64 (x.2.1 : Nat))]) (fun x w => x.2.1 ≤ l.length ∧ Le D x.1 ∧ Ext b x.2.2.1 ∧ b.all l = x.2.2.1.all (l.drop x.2.1) ∧ x.2.2.1.recs.length + (l.drop x.2.1).length ≤ 1000000000 ∧ TreeS x.1 vb vp x.2.2.1 P x.2.2.2 ∧ Inv w0 x.1 (x.2.2.2 :: ss) w) (fun x => l.length - x.2.1) (D, 0, b, s) (hE.pick [0, 8, 9, 10]) ⟨Nat.zero_le _, Le.refl _, Ext.refl _, rfl, by simpa using hlen, hT, hI⟩ ?_
 clear hE hI a w
 rintro ⟨D1, i, b1, s1⟩ a w hE ⟨hi, hD1, hx1, heq, hlen1, hT1, hI⟩
 try dsimp only at hE
 try dsimp only at hi
 try dsimp only at hD1
 try dsimp only at hx1
 try dsimp only at heq
 try dsimp only at hlen1
 try dsimp only at hT1
 try dsimp only at hI
 refine wsr ?_
 refine l_step rfl (o_cmp hE rfl rfl rfl rfl rfl rfl ?_ ?_)
 ·intro hlt; replace hlt := lss_t hlt; clear hE a; intro a hE
  refine wnt ?_
  refine wp_seq ?_
  refine c_true hE rfl ?_
  refine wp_skip ?_
  refine then_normal ?_
  refine wp_seq ?_
  refine wp_block ?_
  refine wsr ?_
  obtain ⟨x_3, hx_3⟩ : ∃ y, (l)[i]? = some y := ⟨_, List.getElem?_eq_getElem (by omega)⟩
  obtain ⟨b_3, o_3, cs_3, T_3, fr_3, rfl, hb_3, hat_3⟩ := hl.at_ (by intro h0; rw [h0] at hx_3; simp at hx_3)
  obtain ⟨vs_3, hl_3, ⟨k_3, v_3, rfl, hk_3, hv_3, hok_3⟩, hex_3, hsz_3, hce_3⟩ := hat_3.extract hx_3 (by omega)
  obtain ⟨A4, c5, rfl, _⟩ := hk_3.slice
  obtain ⟨A6, c7, rfl, _⟩ := hv_3.slice
  refine zs hE (p_indexAddr (m := o_3 + i * 10) rfl rfl Tryd.underlying62 sz_88 (by omega) (by omega) (by simp)) ?_; clear hE a; intro a hE
  refine zl hE (r_loadA rfl agg_88 (hI.data _ _ (hD1 _ _ (hb_3))) hsz_3 hex_3) ?_; clear hE a; intro a hE
  refine l_step rfl (f_alloc (cs := #[.int .i64 0, .int .i64 0, .int .i64 0, .int .i64 0, .int .i64 0, .int .i64 0, .int .i64 0, .slice none 0 0, .slice none 0 0, .bool false]) hE hI rfl rfl rfl zer_88 rfl ?_)
  clear hI hE a w; intro a b8 w hE hI
  refine l_step rfl (f_store (l := [_, _, _, _, _, _, _, _, _, _]) (ss' := _ :: _) 0 hE hI rfl rfl rfl rfl rfl sz_88 (by simp [Value.cells, Value.oneCell', pgCells, rcCells, zPg]) rfl rfl rfl ?_)
  clear hI w; intro w hI
  refine wnt ?_
  refine wsr ?_
  refine zm hE ?_; clear hE a; intro a hE
  refine zl hE (f_loadA (vs := [_, _, _, _, _, _, _, _, _, _]) rfl agg_88 (hI.seg 0 rfl) rfl rfl) ?_; clear hE a; intro a hE
  refine l_step rfl (o_call hE rfl rfl rfl rfl ent_72 (do_spec (hI.bring 1) (hS.mono hD1) hT1 (rc := x_3) ⟨_, _, rfl, (hk_3.mono hD1), (hv_3.mono hD1), hok_3⟩ (by simp only [List.length_drop] at hlen1; omega)) ?_)
  clear hI hE a
  rintro r w h a hE; rcases h with ⟨b10, hx9, rfl, D11, s16, hD12, hT13, hI⟩ | ⟨c14, o15, hx9, rfl, D17, s20, hD18, hT19, hI⟩
  ·skip
   replace hI := hI.put_back 1
   try simp only [nrm, Value.cells] at hI
   have hext_hx9 := (doR_ext hx9).1
   have hlen_hx9 := (doR_ext hx9).2
   refine za hE ?_; clear hE a; intro a hE
   refine wnt ?_
   refine wsr ?_
   refine zm hE ?_; clear hE a; intro a hE
   refine zs hE (p_ifaceNil Tryd.underlying25 rfl rfl rfl) ?_; clear hE a; intro a hE
   refine wnt ?_
   refine c_false hE rfl ?_
   refine wp_skip ?_
   refine blk_normal ?_
   refine then_normal ?_
   refine wp_region_list ?_
   refine zs hE (p_arith (z := ((i + 1 : Nat) : Int)) rfl rfl (add_z (by omega) (by omega) (by omega))) ?_; clear hE a; intro a hE
   refine zm hE ?_; clear hE a; intro a hE
   refine wnt ?_
   replace hI := hI.erase 0
   exact ⟨(D11, i + 1, b10, _), hE.pick [0, 8, 9, 10], ⟨by show i + 1 ≤ _; omega, (hD1.trans hD12), hx1.trans (doR_ext hx9).1, by rw [heq, all_at (b1 := b1) hx_3, hx9], by have := (doR_ext hx9).2; show (Bt.recs b10).length + (l.drop (i + 1)).length ≤ _; simp only [List.length_drop] at hlen1 ⊢; omega, hT13, hI⟩, by show l.length - (i + 1) < l.length - i; omega⟩
  replace hI := hI.put_back 1
  try simp only [nrm, Value.cells] at hI
  refine za hE ?_; clear hE a; intro a hE
  refine wnt ?_
  refine wsr ?_
  refine zm hE ?_; clear hE a; intro a hE
  refine zs hE (p_ifaceNil Tryd.underlying25 rfl rfl rfl) ?_; clear hE a; intro a hE
  refine wnt ?_
  refine c_true hE rfl ?_
  refine wsr ?_
  refine zm hE ?_; clear hE a; intro a hE
  refine za hE ?_; clear hE a; intro a hE
  refine wnt ?_
  refine wp_ret ?_
  refine blk_ret ?_
  refine then_ret ?_
  refine then_ret ?_
  refine blk_ret ?_
  refine then_ret ?_
  refine ret1 rfl hE rfl ?_
  replace hI := hI.erase 0
  exact .inr ⟨_, _, by rw [heq, all_at (b1 := b1) hx_3, hx9], rfl, _, _, _, hx1, (hD1.trans hD18), hT19, hI⟩
 intro hlt; replace hlt := lss_f hlt; clear hE a; intro a hE
 refine wnt ?_
 refine wp_seq ?_
 refine c_false hE rfl ?_
 refine wp_exit ?_
 refine then_exit ?_
 refine then_exit ?_
 refine blk_same ?_
 refine then_normal ?_
 refine wsr ?_
 refine za hE ?_; clear hE a; intro a hE
 refine wnt ?_
 refine wp_ret ?_
 refine ret1 rfl hE rfl ?_
 exact .inl ⟨b1, by rw [heq, List.drop_of_length_le (by omega)]; rfl, rfl, _, _, hD1, hT1, hI⟩
theorem pages_spec {w0 w : World} {D : Sto} {ss : List Seg} {s : Seg} {vb vp : Value} {b : Bt} {P : Pl} (hI : Inv w0 D (s :: ss) w) {ad : Nat → Addr} (hS : TSents D ad) (hT : TreeS D vb vp b P s) :
  Calls Tryd.prog 119 #[vb] w (Ret fun r w' => (∃ u f, b.pages = .ok (u, f) ∧ r = .tuple #[.int .i64 u, .int .i64 f, .nilIface] ∧ 0 ≤ u ∧ u < 65536 ∧ 0 ≤ f ∧ f < 65536 ∧ ∃ D', Le D D' ∧ TreeS D' vb vp b P s ∧ Inv w0 D' (s :: ss) w') ∨ (∃ c o, b.pages = .fail c o ∧ r = .tuple #[.int .i64 0, .int .i64 0, errV ad c] ∧ ∃ D' s', Le D D' ∧ TreeS D' vb vp b (P.after o) s' ∧ Inv w0 D' (s' :: ss) w')) := by
 refine enter (N := 40) Tryd.func119 rfl rfl rfl ?_
 intro a hE
 refine wsr ?_
 refine za hE ?_; clear hE a; intro a hE
 refine za hE ?_; clear hE a; intro a hE
 refine za hE ?_; clear hE a; intro a hE
 refine wnt ?_
 refine wsr ?_
 refine zm hE ?_; clear hE a; intro a hE
 refine l_step rfl (o_call hE rfl rfl rfl rfl ent_88 (page_spec hI hS hT (1)) ?_)
 clear hI hE a
 rintro r w h a hE; rcases h with ⟨x1, hx2, D3, e4, hD5, rfl, he6, ho7, hT8, hI⟩ | ⟨c9, o10, hx2, rfl, s11, hT8, hI⟩
 ·skip
  have hlen_x1 := ho7.len
  obtain ⟨A12, c13, rfl, _⟩ := he6.slice
  refine zm hE ?_; clear hE a; intro a hE
  refine zx hE ?_; clear hE a; intro a hE
  refine zx hE ?_; clear hE a; intro a hE
  refine l_step rfl (f_alloc (cs := #[.int .i64 0, .int .i64 0, .int .i64 0, .int .i64 0, .slice none 0 0]) hE hI rfl rfl rfl zer_83 rfl ?_)
  clear hI hE a w; intro a b14 w hE hI
  refine l_step rfl (f_store (l := [_, _, _, _, _]) (ss' := _ :: _) 0 hE hI rfl rfl rfl rfl rfl sz_83 (by simp [Value.cells, Value.oneCell', pgCells, rcCells, zPg]) rfl rfl rfl ?_)
  clear hI w; intro w hI
  refine za hE ?_; clear hE a; intro a hE
  refine wnt ?_
  refine wp_seq ?_
  refine wsr ?_
  refine zm hE ?_; clear hE a; intro a hE
  refine zs hE (p_ifaceNil Tryd.underlying25 rfl rfl rfl) ?_; clear hE a; intro a hE
  refine wnt ?_
  refine c_false hE rfl ?_
  refine wp_skip ?_
  refine then_normal ?_
  refine wp_seq ?_
  refine wsr ?_
  refine zs hE (p_fieldAddr (m := 4) rfl fo_83_4 rfl) ?_; clear hE a; intro a hE
  refine zl hE (f_load rfl scal_65 (hI.seg 0 rfl) rfl) ?_; clear hE a; intro a hE
  refine zs hE (p_len rfl rfl Tryd.underlying65) ?_; clear hE a; intro a hE
  refine l_step rfl (o_cmp hE rfl rfl rfl rfl rfl rfl ?_ ?_)
  ·intro hn1; replace hn1 := neq_t hn1; clear hE a; intro a hE
   refine zm hE ?_; clear hE a; intro a hE
   refine zk hE ?_; clear hE a; intro a hE
   refine zk hE ?_; clear hE a; intro a hE
   refine zk hE ?_; clear hE a; intro a hE
   refine zk hE ?_; clear hE a; intro a hE
   refine zk hE ?_; clear hE a; intro a hE
   refine zk hE ?_; clear hE a; intro a hE
   refine zk hE ?_; clear hE a; intro a hE
   refine zs hE (p_pick (b := true) rfl rfl) ?_; clear hE a; intro a hE
   refine wnt ?_
   refine c_true hE rfl ?_
   refine wp_seq ?_
   refine d_start [] [] (by kernel_rfl) hI rfl rfl ?_
   clear hI w; intro w hI
   obtain ⟨T_15, fr_15, hg_15⟩ := hS.g103
   refine dl 0 hE rfl (fun w hS => f_load rfl scal_25 (Inv.data hS _ _ (hD5 _ _ (hg_15))) rfl) (hI) (listed' := #[true, false, false, false]) ?_; clear hE a; intro a hE
   refine dp 1 hE rfl (p_assign rfl) (fun _ => hI) ?_; clear hE a; intro a hE
   refine dp 2 hE rfl (p_assign rfl) (fun _ => hI) ?_; clear hE a; intro a hE
   refine dp 3 hE rfl (p_assign rfl) (fun _ => hI) ?_; clear hE a; intro a hE
   refine d_done (by kernel_rfl) ?_
   refine then_normal ?_
   refine wp_ret ?_
   refine then_ret ?_
   refine ret3 rfl hE rfl rfl rfl ?_
   replace hI := hI.erase 0
   exact .inr ⟨103, none, by rw [Bt.pages, hx2]; simp only []; rw [if_pos (by omega)], rfl, _, _, hD5, hT8, hI⟩
  intro hn1; replace hn1 := neq_f hn1; clear hE a; intro a hE
  refine zm hE ?_; clear hE a; intro a hE
  refine gs hE (p_fieldAddr (m := 4) rfl fo_83_4 rfl) ?_; clear hE a; intro a hE
  refine gl hE (f_load rfl scal_65 (hI.seg 0 rfl) rfl) ?_; clear hE a; intro a hE
  obtain ⟨x_16, hx_16⟩ : ∃ y, (x1.ents)[0]? = some y := ⟨_, List.getElem?_eq_getElem (by omega)⟩
  obtain ⟨b_16, o_16, cs_16, T_16, fr_16, rfl, hb_16, hat_16⟩ := he6.at_ (by intro h0; rw [h0] at hx_16; simp at hx_16)
  obtain ⟨vs_16, hl_16, ⟨k_16, v_16, rfl, hk_16, hv_16, hok_16⟩, hex_16, hsz_16, hce_16⟩ := hat_16.extract hx_16 (by omega)
  obtain ⟨A17, c18, rfl, _⟩ := hk_16.slice
  obtain ⟨A19, c20, rfl, _⟩ := hv_16.slice
  refine gs hE (p_indexAddr (m := o_16 + 0 * 2) rfl rfl Tryd.underlying65 sz_69 (by omega) (by omega) (by simp)) ?_; clear hE a; intro a hE
  refine gs hE (p_fieldAddr rfl fo_69_1 rfl) ?_; clear hE a; intro a hE
  refine gl hE (r_load rfl scal_22 (hI.data _ _ (hb_16)) (hce_16 1 _ rfl)) ?_; clear hE a; intro a hE
  refine gs hE (p_len rfl rfl Tryd.underlying22) ?_; clear hE a; intro a hE
  refine l_go hE rfl (o_cmp hE rfl rfl rfl rfl rfl rfl ?_ ?_)
  ·intro hv4; replace hv4 := neq_t hv4; clear hE a; intro a hE
   refine zs hE (p_pick (b := false) rfl rfl) ?_; clear hE a; intro a hE
   refine wnt ?_
   refine c_true hE rfl ?_
   refine wp_seq ?_
   refine d_start [] [] (by kernel_rfl) hI rfl rfl ?_
   clear hI w; intro w hI
   obtain ⟨T_21, fr_21, hg_21⟩ := hS.g103
   refine dl 0 hE rfl (fun w hS => f_load rfl scal_25 (Inv.data hS _ _ (hD5 _ _ (hg_21))) rfl) (hI) (listed' := #[true, false, false, false]) ?_; clear hE a; intro a hE
   refine dp 1 hE rfl (p_assign rfl) (fun _ => hI) ?_; clear hE a; intro a hE
   refine dp 2 hE rfl (p_assign rfl) (fun _ => hI) ?_; clear hE a; intro a hE
   refine dp 3 hE rfl (p_assign rfl) (fun _ => hI) ?_; clear hE a; intro a hE
   refine d_done (by kernel_rfl) ?_
   refine then_normal ?_
   refine wp_ret ?_
   refine then_ret ?_
   refine ret3 rfl hE rfl rfl rfl ?_
   replace hI := hI.erase 0
   have hgd : x1.ents.getD 0 ([], []) = x_16 := by rw [List.getD_eq_getElem?_getD, hx_16]; rfl
   exact .inr ⟨103, none, by rw [Bt.pages, hx2]; simp only []; rw [hgd, if_pos (by omega)], rfl, _, _, hD5, hT8, hI⟩
  intro hv4; replace hv4 := neq_f hv4; clear hE a; intro a hE
  refine zs hE (p_pick (b := false) rfl rfl) ?_; clear hE a; intro a hE
  refine wnt ?_
  refine c_false hE rfl ?_
  refine wp_skip ?_
  refine then_normal ?_
  refine wsr ?_
  refine zs hE (p_fieldAddr (m := 4) rfl fo_83_4 rfl) ?_; clear hE a; intro a hE
  refine zl hE (f_load rfl scal_65 (hI.seg 0 rfl) rfl) ?_; clear hE a; intro a hE
  refine zs hE (p_indexAddr (m := o_16 + 0 * 2) rfl rfl Tryd.underlying65 sz_69 (by omega) (by omega) (by simp)) ?_; clear hE a; intro a hE
  refine zs hE (p_fieldAddr rfl fo_69_1 rfl) ?_; clear hE a; intro a hE
  refine zl hE (r_load rfl scal_22 (hI.data _ _ (hb_16)) (hce_16 1 _ rfl)) ?_; clear hE a; intro a hE
  refine za hE ?_; clear hE a; intro a hE
  refine wnt ?_
  refine wp_seq ?_
  refine d_start [] [] (by kernel_rfl) hI rfl rfl ?_
  clear hI w; intro w hI
  refine dp 0 hE rfl (p_move rfl) (fun _ => hI) (listed' := #[true, false, false, false, false, false, false, false]) ?_; clear hE a; intro a hE
  refine dp 2 hE rfl (p_move rfl) (fun _ => hI) ?_; clear hE a; intro a hE
  have hc22 := (RB.cut (l := 2) (h := (x_16.2).length) hv_16 (by omega) (by omega)).2
  rw [List.take_of_length_le (by simp)] at hc22
  refine dp 3 hE rfl (p_sliceL (l := 2) (h := (x_16.2).length) rfl Tryd.underlying22 sz_5 (lo_at rfl (by omega) (by omega)) (rfl) (by omega) (by omega)) (fun _ => hI) ?_; clear hE a; intro a hE
  refine do1 1 hE rfl ?_
  refine o_call hE rfl rfl rfl rfl ent_130 (number21_spec (bs := x_16.2) hI hv_16 (by first | omega | (simp only [List.length_take, List.length_drop]; omega))) ?_
  clear hI hE a
  rintro r w ⟨rfl, hI⟩ a hE
  refine ⟨fun _ => hI, ?_⟩
  refine do1 4 hE rfl ?_
  refine o_call hE rfl rfl rfl rfl ent_130 (number21_spec (bs := ((x_16.2).drop 2)) hI hc22 (by first | omega | (simp only [List.length_take, List.length_drop]; omega))) ?_
  clear hI hE a
  rintro r w ⟨rfl, hI⟩ a hE
  refine ⟨fun _ => hI, ?_⟩
  refine dp 5 hE rfl (p_assign rfl) (fun _ => hI) ?_; clear hE a; intro a hE
  refine dp 6 hE rfl (p_assign rfl) (fun _ => hI) ?_; clear hE a; intro a hE
  refine dp 7 hE rfl (p_assign rfl) (fun _ => hI) ?_; clear hE a; intro a hE
  refine d_done (by kernel_rfl) ?_
  refine then_normal ?_
  refine wp_ret ?_
  refine ret3 rfl hE rfl rfl rfl ?_
  replace hI := hI.erase 0
  obtain ⟨hq0, hq1⟩ := numberP_lt hv_16
  obtain ⟨hq2, hq3⟩ := numberP_lt hc22
  have hgd : x1.ents.getD 0 ([], []) = x_16 := by rw [List.getD_eq_getElem?_getD, hx_16]; rfl
  exact .inl ⟨_, _, by rw [Bt.pages, hx2]; simp only []; rw [hgd, if_neg (by omega)], rfl, hq0, hq1, hq2, hq3, _, hD5, hT8, hI⟩
 refine zm hE ?_; clear hE a; intro a hE
 refine zx hE ?_; clear hE a; intro a hE
 refine zx hE ?_; clear hE a; intro a hE
 refine l_step rfl (f_alloc (cs := #[.int .i64 0, .int .i64 0, .int .i64 0, .int .i64 0, .slice none 0 0]) hE hI rfl rfl rfl zer_83 rfl ?_)
 clear hI hE a w; intro a b23 w hE hI
 refine l_step rfl (f_store (l := [_, _, _, _, _]) (ss' := _ :: _) 0 hE hI rfl rfl rfl rfl rfl sz_83 (by simp [Value.cells, Value.oneCell', pgCells, rcCells, zPg]) rfl rfl rfl ?_)
 clear hI w; intro w hI
 refine za hE ?_; clear hE a; intro a hE
 refine wnt ?_
 refine wp_seq ?_
 refine wsr ?_
 refine zm hE ?_; clear hE a; intro a hE
 refine zs hE (p_ifaceNil Tryd.underlying25 rfl rfl rfl) ?_; clear hE a; intro a hE
 refine wnt ?_
 refine c_true hE rfl ?_
 refine wsr ?_
 refine zm hE ?_; clear hE a; intro a hE
 refine za hE ?_; clear hE a; intro a hE
 refine za hE ?_; clear hE a; intro a hE
 refine za hE ?_; clear hE a; intro a hE
 refine wnt ?_
 refine wp_ret ?_
 refine then_ret ?_
 refine ret3 rfl hE rfl rfl rfl ?_
 replace hI := hI.erase 0
 exact .inr ⟨_, _, by rw [Bt.pages, hx2], rfl, _, _, (Le.refl _), hT8, hI⟩
theorem count_spec {w0 w : World} {D : Sto} {ss : List Seg} {s : Seg} {vb vp : Value} {b : Bt} {P : Pl} (hI : Inv w0 D (s :: ss) w) {ad : Nat → Addr} (hS : TSents D ad) (hT : TreeS D vb vp b P s) (used free : Int) (hlen : b.recs.length ≤ 1000000000) :
  Calls Tryd.prog 134 #[vb, .int .i64 used, .int .i64 free] w (Ret fun r w' => (∃ b', b.count used free = .ok b' ∧ r = .nilIface ∧ ∃ D' s', Le D D' ∧ TreeS D' vb vp b' P s' ∧ Inv w0 D' (s' :: ss) w') ∨ (∃ c o, b.count used free = .fail c o ∧ r = errV ad c ∧ ∃ D' s', Le D D' ∧ TreeS D' vb vp b (P.after o) s' ∧ Inv w0 D' (s' :: ss) w')) := by
 refine enter (N := 13) Tryd.func134 rfl rfl rfl ?_
 intro a hE
 refine wsr ?_
 refine za hE ?_; clear hE a; intro a hE
 refine wnt ?_
 refine wsr ?_
 refine zm hE ?_; clear hE a; intro a hE
 refine zm hE ?_; clear hE a; intro a hE
 refine zm hE ?_; clear hE a; intro a hE
 refine l_step rfl (o_call hE rfl rfl rfl rfl ent_96 (counts_spec hI used free) ?_)
 clear hI hE a
 rintro r w ⟨D1, hD2, hI, hb3⟩ a hE
 obtain ⟨A4, c5, rfl, _⟩ := hb3.slice
 refine zs hE (f_build (vs := [(4, _), (5, _), (8, _)]) (l := [_, _, _, _, _, _, _, _, _, _]) rfl built_88 rfl) ?_; clear hE a; intro a hE
 refine l_step rfl (o_call hE rfl rfl rfl rfl ent_72 (do_spec hI (hS.mono hD2) (hT.mono hD2) (rc := ({ page := 1, kind := 4, val := twoB used ++ twoB free } : Rc)) ⟨_, _, rfl, (RB.nil _), hb3, ROk.of0 rfl (by simp) (by simp) (by simp) (by simp [twoB])⟩ (by omega)) ?_)
 clear hI hE a
 rintro r w h a hE; rcases h with ⟨b7, hx6, rfl, D8, s13, hD9, hT10, hI⟩ | ⟨c11, o12, hx6, rfl, D14, s17, hD15, hT16, hI⟩
 ·skip
  have hext_hx6 := (doR_ext hx6).1
  have hlen_hx6 := (doR_ext hx6).2
  refine za hE ?_; clear hE a; intro a hE
  refine wnt ?_
  refine wp_ret ?_
  refine ret1 rfl hE rfl ?_
  exact .inl ⟨_, hx6, rfl, _, _, (hD2.trans hD9), hT10, hI⟩
 refine za hE ?_; clear hE a; intro a hE
 refine wnt ?_
 refine wp_ret ?_
 refine ret1 rfl hE rfl ?_
 exact .inr ⟨_, _, hx6, rfl, _, _, (hD2.trans hD15), hT16, hI⟩
end Go.Proofs.YtbogbnkckofpdaaDoor.B
