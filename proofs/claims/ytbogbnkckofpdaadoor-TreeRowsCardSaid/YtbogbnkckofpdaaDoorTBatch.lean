/- What functions of the program compute, each function once: steps over the model, and the plain law of it. -/
import Derived.Test.YtbogbnkckofpdaaDoorTPool2
namespace Go.Proofs.YtbogbnkckofpdaaDoor.B
open Go Go.Proofs
set_option linter.unusedVariables false
set_option linter.unusedSimpArgs false
set_option maxRecDepth 20000
set_option maxHeartbeats 8000000
namespace FTBatch
theorem agg_83 : aggSize Tryd.prog 83 = some 5 := by kernel_rfl
theorem agg_88 : aggSize Tryd.prog 88 = some 10 := by kernel_rfl
theorem built_120 : ∀ vs, Tryd.prog.built 120 vs = Instr.fill (([(0, 1), (1, 1), (2, 1)] : List (Nat × Nat)).toArray[·]?) ([.pointer none, .map none, .slice none 0 0] : List Value).toArray vs := fun _ => by kernel_rfl
theorem built_83 : ∀ vs, Tryd.prog.built 83 vs = Instr.fill (([(0, 1), (1, 1), (2, 1), (3, 1), (4, 1)] : List (Nat × Nat)).toArray[·]?) ([.int .i64 0, .int .i64 0, .int .i64 0, .int .i64 0, .slice none 0 0] : List Value).toArray vs := fun _ => by kernel_rfl
theorem ent_114 : enters Tryd.prog 114 = true := by kernel_rfl
theorem ent_46 : enters Tryd.prog 46 = true := by kernel_rfl
theorem ent_78 : enters Tryd.prog 78 = true := by kernel_rfl
theorem ent_88 : enters Tryd.prog 88 = true := by kernel_rfl
theorem ent_93 : enters Tryd.prog 93 = true := by kernel_rfl
theorem ent_94 : enters Tryd.prog 94 = true := by kernel_rfl
theorem fo_120_0 : fieldOff Tryd.prog 120 0 = some 0 := by kernel_rfl
theorem fo_120_1 : fieldOff Tryd.prog 120 1 = some 1 := by kernel_rfl
theorem fo_120_2 : fieldOff Tryd.prog 120 2 = some 2 := by kernel_rfl
theorem fo_83_1 : fieldOff Tryd.prog 83 1 = some 1 := by kernel_rfl
theorem fo_88_0 : fieldOff Tryd.prog 88 0 = some 0 := by kernel_rfl
theorem fo_88_4 : fieldOff Tryd.prog 88 4 = some 4 := by kernel_rfl
theorem fo_88_5 : fieldOff Tryd.prog 88 5 = some 5 := by kernel_rfl
theorem ik_118 : intKeyed Tryd.prog 118 = some 83 := by kernel_rfl
theorem scal_118 : isScal Tryd.prog 118 = true := by kernel_rfl
theorem scal_2 : isScal Tryd.prog 2 = true := by kernel_rfl
theorem scal_25 : isScal Tryd.prog 25 = true := by kernel_rfl
theorem scal_3 : isScal Tryd.prog 3 = true := by kernel_rfl
theorem scal_52 : isScal Tryd.prog 52 = true := by kernel_rfl
theorem scal_55 : isScal Tryd.prog 55 = true := by kernel_rfl
theorem scal_62 : isScal Tryd.prog 62 = true := by kernel_rfl
theorem sz_118 : (Tryd.prog.info? 118).map (·.size) = some 1 := by kernel_rfl
theorem sz_2 : (Tryd.prog.info? 2).map (·.size) = some 1 := by kernel_rfl
theorem sz_3 : (Tryd.prog.info? 3).map (·.size) = some 1 := by kernel_rfl
theorem sz_62 : (Tryd.prog.info? 62).map (·.size) = some 1 := by kernel_rfl
theorem sz_83 : (Tryd.prog.info? 83).map (·.size) = some 5 := by kernel_rfl
theorem sz_88 : (Tryd.prog.info? 88).map (·.size) = some 10 := by kernel_rfl
theorem zer_118 : (Tryd.prog.info? 118).bind (·.zero) = some (.map none) := by kernel_rfl
theorem zer_3 : (Tryd.prog.info? 3).bind (·.zero) = some (.int .i64 0) := by kernel_rfl
theorem zer_83 : (Tryd.prog.info? 83).bind (·.zero) = some (.agg #[.int .i64 0, .int .i64 0, .int .i64 0, .int .i64 0, .slice none 0 0]) := by kernel_rfl
theorem zer_88 : (Tryd.prog.info? 88).bind (·.zero) = some (.agg #[.int .i64 0, .int .i64 0, .int .i64 0, .int .i64 0, .int .i64 0, .int .i64 0, .int .i64 0, .slice none 0 0, .slice none 0 0, .bool false]) := by kernel_rfl
theorem zs_88 : (Tryd.prog.info? 88).map (fun i => (i.zero, i.size)) = some (some (.agg #[.int .i64 0, .int .i64 0, .int .i64 0, .int .i64 0, .int .i64 0, .int .i64 0, .int .i64 0, .slice none 0 0, .slice none 0 0, .bool false]), 10) := by kernel_rfl
theorem zsb_88 : (Tryd.prog.info? 88).map (fun i => (i.zero, i.size, i.bytes)) = some (some (.agg #[.int .i64 0, .int .i64 0, .int .i64 0, .int .i64 0, .int .i64 0, .int .i64 0, .int .i64 0, .slice none 0 0, .slice none 0 0, .bool false]), 10, 112) := by kernel_rfl
end FTBatch
open FTBatch
theorem PoolS.ptr {D : Sto} {vp : Value} {P : Pl} {s : Seg} (h : PoolS D vp P s) : ∃ b, vp = .pointer (some ⟨b, 0, none⟩) := by
 obtain ⟨bp, bl, bw, es, clk, m, es', clk', mw, h1, _⟩ := h; exact ⟨bp, h1⟩
theorem POk.lsn {p : Pg} (h : POk p) {n : Int} (h0 : -4611686018427387904 ≤ n) (h1 : n ≤ 4611686018427387904) : POk { p with lsn := n } := ⟨h0, h1, h.v0, h.v1, h.n0, h.n1, h.len, h.ents⟩
theorem ROk.lsn {r : Rc} (h : ROk r) {n : Int} (h0 : -4611686018427387904 ≤ n) (h1 : n ≤ 4611686018427387904) : ROk { r with lsn := n } := ⟨h0, h1, h.s0, h.s1, h.k, h.v⟩
/-- What save keeps. -/
def SaveS (D : Sto) (vf vb : Value) (b : Bt) (s : Seg) : Prop := ∃ b3 b1 b6 bo es clk m, vf = .func (.func 107) #[] #[.pointer (some ⟨b3, 0, none⟩), .pointer (some ⟨b1, 0, none⟩), .pointer (some ⟨b6, 0, none⟩)] ∧
 s = [(b3, .cells #[.map (some bo)] 118 (0, 0)), (b1, .cells #[vb] 55 (0, 0)), (b6, .cells #[.int .i64 (b.recs.length : Nat)] 3 (0, 0)), (bo, .map es clk)] ∧ IntMap es clk m ∧ MapD D m b.own
theorem SaveS.mono {D D' : Sto} {vf vb : Value} {b : Bt} {s : Seg} (h : SaveS D vf vb b s) (hD : Le D D') : SaveS D' vf vb b s := by
 obtain ⟨b3, b1, b6, bo, es, clk, m, h1, h2, h3, h4⟩ := h; exact ⟨b3, b1, b6, bo, es, clk, m, h1, h2, h3, h4.mono hD⟩
theorem nodup_len : ∀ (a b : List Int), a.Nodup → (∀ x ∈ a, x ∈ b) → a.length ≤ b.length
 | [], b, _, _ => Nat.zero_le _
 | x :: r, b, hn, hs => by
  have hx : x ∈ b := hs x (by simp)
  have h1 := List.nodup_cons.1 hn
  have ih := nodup_len r (b.erase x) h1.2 (fun y hy => (List.mem_erase_of_ne (fun e => by subst e; exact h1.1 hy)).2 (hs y (by simp [hy])))
  rw [List.length_erase_of_mem hx] at ih
  have := List.length_pos_of_mem hx
  simp only [List.length_cons]; omega
theorem Vis.len {es : Array MapEntry} {seen : Array Nat} {m vis : List (Int × Value)} (h : Vis es seen m vis) : vis.length ≤ m.length := by
 have := nodup_len (vis.map (·.1)) (m.map (·.1)) h.nd (fun x hx => by
  obtain ⟨p, hp, rfl⟩ := List.mem_map.1 hx
  exact List.mem_map_of_mem (h.sub p hp))
 simpa using this
/-- Of the map's entries those that were seen. -/
def Copied (m vis m' : List (Int × Value)) : Prop := ∀ k v, getM m' k = some v ↔ (k, v) ∈ vis
theorem Copied.start (m : List (Int × Value)) : Copied m [] [] := fun k v => by simp [getM]
theorem Copied.step {m vis m' : List (Int × Value)} (h : Copied m vis m') (hn : (m.map (·.1)).Nodup) (hs : ∀ p ∈ vis, p ∈ m) {p : Int × Value} (hp : p ∈ m) : Copied m (p :: vis) (putM m' p.1 p.2) := fun k v => by
 rw [getM_put]
 by_cases hk : p.1 = k
 ·subst hk
  rw [if_pos rfl]
  constructor
  ·intro e; injection e with e; subst e; simp
  intro hm
  rcases List.mem_cons.1 hm with e | hm
  ·rw [← e]
  have h1 := getM_of_mem hn hp
  have h2 := getM_of_mem hn (hs _ hm)
  rw [← h1, ← h2]
 rw [if_neg hk, h k v]
 constructor
 ·intro hm; simp [hm]
 intro hm
 rcases List.mem_cons.1 hm with e | hm
 ·exact absurd (by rw [← e]) hk
 exact hm
theorem Copied.done {D : Sto} {m vis m' : List (Int × Value)} {f : Int → Option Pg} (h : Copied m vis m') (hn : (m.map (·.1)).Nodup) (hs : ∀ p ∈ vis, p ∈ m) (ha : ∀ p ∈ m, p ∈ vis) (hM : MapD D m f) : MapD D m' f := fun k => by
 have h1 : getM m' k = getM m k := by
  cases hg : getM m k with
  | some v => exact (h k v).2 (ha _ (getM_mem hg))
  | none =>
   cases hg' : getM m' k with
   | none => rfl
   | some v =>
    have := getM_of_mem hn (hs _ ((h k v).1 hg'))
    rw [hg] at this; cases this
 have := hM k
 cases hf : f k with
 | none => rw [hf] at this; show getM m' k = none; rw [h1]; exact this
 | some p => rw [hf] at this; show ∃ v, getM m' k = some v ∧ PgV D v p; rw [h1]; exact this
theorem New_spec {w0 w : World} {D : Sto} {ss : List Seg} (hI : Inv w0 D ss w) (P : Pl) (q : Option Addr) :
  Calls Tryd.prog 33 #[.pointer q] w (Ret fun r w' => ∃ s, BatchS D r (.pointer q) (newBt P) s ∧ Inv w0 D (s :: ss) w') := by
 refine enter (N := 7) Tryd.func33 rfl rfl rfl ?_
 intro a hE
 refine wsr ?_
 refine za hE ?_; clear hE a; intro a hE
 refine wnt ?_
 refine wsr ?_
 refine zm hE ?_; clear hE a; intro a hE
 refine l_step rfl (f_makeMap hE hI rfl rfl rfl ?_)
 clear hI hE a w; intro a b1 w hE hI
 refine zs hE (f_build (vs := [(0, _), (1, _)]) (l := [_, _, _]) rfl built_120 rfl) ?_; clear hE a; intro a hE
 refine l_step rfl (f_box (cs := #[_, _, _]) hE hI rfl rfl rfl rfl rfl ?_)
 clear hI hE a w; intro a b2 w hE hI
 refine za hE ?_; clear hE a; intro a hE
 refine wnt ?_
 refine wp_ret ?_
 refine ret1 rfl hE rfl ?_
 exact ⟨[(b2, .cells #[.pointer q, .map (some b1), .slice none 0 0] 120 (0, 0)), (b1, .map #[] 0)], ⟨_, _, _, _, [], _, [], rfl, rfl, IntMap.empty, MapD.empty _, OR.nil _ _ _ _⟩, hI.perm (List.Perm.refl _)⟩
theorem page_spec {w0 w : World} {D : Sto} {ss : List Seg} {s : Seg} {vb vp : Value} {b : Bt} {P : Pl} (hI : Inv w0 D (s :: ss) w) {ad : Nat → Addr} (hS : TSents D ad) (hT : TreeS D vb vp b P s) (id : Int) :
  Calls Tryd.prog 88 #[vb, .int .i64 id] w (Ret fun r w' => (∃ x, b.page id = .ok x ∧ ∃ D' e, Le D D' ∧ r = .tuple #[.agg (pgCells x e).toArray, .nilIface] ∧ EnD D' e x.ents ∧ POk x ∧ TreeS D' vb vp b P s ∧ Inv w0 D' (s :: ss) w') ∨ (∃ c o, b.page id = .fail c o ∧ r = .tuple #[zPg, errV ad c] ∧ ∃ s', TreeS D vb vp b (P.after o) s' ∧ Inv w0 D (s' :: ss) w')) := by
 obtain ⟨sb, sp, rfl, ⟨bb, bo, eso, clko, mo, vr, sr, rfl, rfl, hmo, hMo, hOr⟩, hP, hpool⟩ := hT
 obtain ⟨Ar, cr, rfl, hcr⟩ := hOr.slice
 obtain ⟨bp, hbp⟩ := hP.ptr
 subst hbp
 replace hI : Inv w0 D ([(bb, .cells #[.pointer (some ⟨bp, 0, none⟩), .map (some bo), .slice Ar b.recs.length cr] 120 (0, 0))] :: [(bo, .map eso clko)] :: sr :: sp :: ss) w := hI.perm (List.Perm.of_eq (by simp))
 refine enter (N := 43) Tryd.func88 rfl rfl rfl ?_
 intro a hE
 refine wsr ?_
 refine l_step rfl (f_alloc (cs := #[.int .i64 0, .int .i64 0, .int .i64 0, .int .i64 0, .slice none 0 0]) hE hI rfl rfl rfl zer_83 rfl ?_)
 clear hI hE a w; intro a b1 w hE hI
 refine za hE ?_; clear hE a; intro a hE
 refine wnt ?_
 refine wp_seq ?_
 refine wp_seq ?_
 obtain ⟨o2, hf_2⟩ : ∃ o, b.own id = o := ⟨_, rfl⟩
 rcases o2 with _ | p_2
 ·skip
  refine wp_region_list ?_
  refine zm hE ?_; clear hE a; intro a hE
  refine zs hE (p_nilCheck rfl) ?_; clear hE a; intro a hE
  refine zs hE (p_fieldAddr (m := 1) rfl fo_120_1 rfl) ?_; clear hE a; intro a hE
  refine zl hE (f_load rfl scal_118 (hI.seg 1 rfl) rfl) ?_; clear hE a; intro a hE
  refine zm hE ?_; clear hE a; intro a hE
  refine zl hE (r_lookupN rfl rfl ik_118 zer_83 (hI.seg 2 rfl) hmo (MapD.none hMo hf_2)) ?_; clear hE a; intro a hE
  refine zm hE ?_; clear hE a; intro a hE
  refine zx hE ?_; clear hE a; intro a hE
  refine zx hE ?_; clear hE a; intro a hE
  refine l_step rfl (f_alloc (cs := #[.int .i64 0, .int .i64 0, .int .i64 0, .int .i64 0, .slice none 0 0]) hE hI rfl rfl rfl zer_83 rfl ?_)
  clear hI hE a w; intro a b3 w hE hI
  refine l_step rfl (f_store (l := [_, _, _, _, _]) (ss' := _ :: _) 0 hE hI rfl rfl rfl rfl rfl sz_83 (by simp [Value.cells, Value.oneCell', pgCells, rcCells, zPg]) rfl rfl rfl ?_)
  clear hI w; intro w hI
  refine za hE ?_; clear hE a; intro a hE
  refine wnt ?_
  refine wsr ?_
  refine zm hE ?_; clear hE a; intro a hE
  refine wnt ?_
  refine c_false hE rfl ?_
  refine wp_skip ?_
  refine then_normal ?_
  refine wp_seq ?_
  refine wsr ?_
  refine zm hE ?_; clear hE a; intro a hE
  refine l_step rfl (o_cmp hE rfl rfl rfl rfl rfl rfl ?_ ?_)
  ·intro h1; replace h1 := lss_t h1; clear hE a; intro a hE
   refine zm hE ?_; clear hE a; intro a hE
   refine zk hE ?_; clear hE a; intro a hE
   refine zk hE ?_; clear hE a; intro a hE
   refine zs hE (p_pick (b := true) rfl rfl) ?_; clear hE a; intro a hE
   refine wnt ?_
   refine c_true hE rfl ?_
   refine wp_seq ?_
   refine d_start [] [] (by kernel_rfl) hI rfl rfl ?_
   clear hI w; intro w hI
   refine dp 0 hE rfl (f_build (vs := []) (l := [_, _, _, _, _]) rfl built_83 rfl) (fun _ => hI) (listed' := #[true, false, false, false]) ?_; clear hE a; intro a hE
   obtain ⟨T_4, fr_4, hg_4⟩ := hS.g103
   refine dl 1 hE rfl (fun w hS => f_load rfl scal_25 (Inv.data hS _ _ (hg_4)) rfl) (hI) ?_; clear hE a; intro a hE
   refine do1 2 hE rfl ?_
   refine f_store (l := [_, _, _, _, _]) (ss' := _ :: _ :: _) 1 hE hI rfl rfl rfl rfl rfl sz_83 (by simp [Value.cells, Value.oneCell', pgCells, rcCells, zPg]) rfl rfl rfl ?_
   clear hI w; intro w hI
   refine ⟨fun _ => hI, ?_⟩
   refine dp 3 hE rfl (p_assign rfl) (fun _ => hI) ?_; clear hE a; intro a hE
   refine d_done (by kernel_rfl) ?_
   refine then_normal ?_
   refine wp_ret ?_
   refine then_ret ?_
   refine retc2 rfl hE rfl agg_83 (hI.seg 1 rfl) rfl rfl ?_
   replace hI := hI.erase 1
   replace hI := hI.erase 0
   replace hI := hI.bring 3
   replace hI := hI.bring 3
   replace hI := hI.bring 3
   replace hI := hI.bring 3
   exact .inr ⟨103, none, by rw [Bt.page, hf_2]; simp only []; rw [if_pos (by omega)], rfl, _, ⟨_, _, rfl, ⟨bb, bo, eso, clko, _, _, sr, rfl, rfl, hmo, hMo, hOr⟩, hP, hpool⟩, hI.perm (List.Perm.of_eq (by simp [bring]))⟩
  intro h1; replace h1 := lss_f h1; clear hE a; intro a hE
  refine zm hE ?_; clear hE a; intro a hE
  refine gs hE (p_move rfl) ?_; clear hE a; intro a hE
  refine l_go hE rfl (o_cmp hE rfl rfl rfl rfl rfl rfl ?_ ?_)
  ·intro h2; replace h2 := geq_t h2; clear hE a; intro a hE
   refine zs hE (p_pick (b := false) rfl rfl) ?_; clear hE a; intro a hE
   refine wnt ?_
   refine c_true hE rfl ?_
   refine wp_seq ?_
   refine d_start [] [] (by kernel_rfl) hI rfl rfl ?_
   clear hI w; intro w hI
   refine dp 0 hE rfl (f_build (vs := []) (l := [_, _, _, _, _]) rfl built_83 rfl) (fun _ => hI) (listed' := #[true, false, false, false]) ?_; clear hE a; intro a hE
   obtain ⟨T_5, fr_5, hg_5⟩ := hS.g103
   refine dl 1 hE rfl (fun w hS => f_load rfl scal_25 (Inv.data hS _ _ (hg_5)) rfl) (hI) ?_; clear hE a; intro a hE
   refine do1 2 hE rfl ?_
   refine f_store (l := [_, _, _, _, _]) (ss' := _ :: _ :: _) 1 hE hI rfl rfl rfl rfl rfl sz_83 (by simp [Value.cells, Value.oneCell', pgCells, rcCells, zPg]) rfl rfl rfl ?_
   clear hI w; intro w hI
   refine ⟨fun _ => hI, ?_⟩
   refine dp 3 hE rfl (p_assign rfl) (fun _ => hI) ?_; clear hE a; intro a hE
   refine d_done (by kernel_rfl) ?_
   refine then_normal ?_
   refine wp_ret ?_
   refine then_ret ?_
   refine retc2 rfl hE rfl agg_83 (hI.seg 1 rfl) rfl rfl ?_
   replace hI := hI.erase 1
   replace hI := hI.erase 0
   replace hI := hI.bring 3
   replace hI := hI.bring 3
   replace hI := hI.bring 3
   replace hI := hI.bring 3
   exact .inr ⟨103, none, by rw [Bt.page, hf_2]; simp only []; rw [if_pos (by omega)], rfl, _, ⟨_, _, rfl, ⟨bb, bo, eso, clko, _, _, sr, rfl, rfl, hmo, hMo, hOr⟩, hP, hpool⟩, hI.perm (List.Perm.of_eq (by simp [bring]))⟩
  intro h2; replace h2 := geq_f h2; clear hE a; intro a hE
  refine zs hE (p_pick (b := false) rfl rfl) ?_; clear hE a; intro a hE
  refine wnt ?_
  refine c_false hE rfl ?_
  refine wp_skip ?_
  refine then_normal ?_
  refine wsr ?_
  refine zm hE ?_; clear hE a; intro a hE
  refine zs hE (p_nilCheck rfl) ?_; clear hE a; intro a hE
  refine zs hE (p_fieldAddr (m := 0) rfl fo_120_0 rfl) ?_; clear hE a; intro a hE
  refine zl hE (f_load rfl scal_52 (hI.seg 2 rfl) rfl) ?_; clear hE a; intro a hE
  refine zm hE ?_; clear hE a; intro a hE
  refine l_step rfl (o_call hE rfl rfl rfl rfl ent_46 (Get_spec (hI.bring 5) hP id (by omega) (by omega)) ?_)
  clear hI hE a
  rintro r w h a hE; rcases h with ⟨p6, hf7, D8, e9, hD10, rfl, he11, ho12, hI, hP13⟩ | ⟨hf7, s14, rfl, hP13, hI⟩
  ·skip
   replace hI := hI.put_back 5
   try simp only [nrm, Value.cells] at hI
   obtain ⟨A15, c16, rfl, _⟩ := he11.slice
   refine zm hE ?_; clear hE a; intro a hE
   refine zx hE ?_; clear hE a; intro a hE
   refine zx hE ?_; clear hE a; intro a hE
   refine l_step rfl (f_alloc (cs := #[.int .i64 0, .int .i64 0, .int .i64 0, .int .i64 0, .slice none 0 0]) hE hI rfl rfl rfl zer_83 rfl ?_)
   clear hI hE a w; intro a b17 w hE hI
   refine l_step rfl (f_store (l := [_, _, _, _, _]) (ss' := _ :: _) 0 hE hI rfl rfl rfl rfl rfl sz_83 (by simp [Value.cells, Value.oneCell', pgCells, rcCells, zPg]) rfl rfl rfl ?_)
   clear hI w; intro w hI
   refine za hE ?_; clear hE a; intro a hE
   refine wnt ?_
   refine wp_seq ?_
   refine wsr ?_
   refine zm hE ?_; clear hE a; intro a hE
   refine zs hE (p_not rfl) ?_; clear hE a; intro a hE
   refine wnt ?_
   refine c_false hE rfl ?_
   refine wp_skip ?_
   refine then_normal ?_
   refine wsr ?_
   refine zl hE (f_loadA (vs := [_, _, _, _, _]) rfl agg_83 (hI.seg 0 rfl) rfl rfl) ?_; clear hE a; intro a hE
   refine l_step rfl (f_store (l := [_, _, _, _, _]) (ss' := _ :: _ :: _ :: _) 2 hE hI rfl rfl rfl rfl rfl sz_83 (by simp [Value.cells, Value.oneCell', pgCells, rcCells, zPg]) rfl rfl rfl ?_)
   clear hI w; intro w hI
   refine za hE ?_; clear hE a; intro a hE
   refine wnt ?_
   refine wp_ret ?_
   refine retc2 rfl hE rfl agg_83 (hI.seg 2 rfl) rfl rfl ?_
   replace hI := hI.erase 2
   replace hI := hI.erase 1
   replace hI := hI.erase 0
   replace hI := hI.bring 3
   replace hI := hI.bring 3
   replace hI := hI.bring 3
   replace hI := hI.bring 3
   exact .inl ⟨_, by rw [Bt.page, hf_2]; simp only []; rw [if_neg (by omega), hpool, hf7], _, _, hD10, rfl, he11, ho12, ⟨_, _, rfl, ⟨bb, bo, eso, clko, _, _, sr, rfl, rfl, hmo, (hMo.mono hD10), (hOr.mono RcR.keeps hD10)⟩, hP13, hpool⟩, hI.perm (List.Perm.of_eq (by simp [bring]))⟩
  replace hI := hI.put_back 5
  try simp only [nrm, Value.cells] at hI
  refine zm hE ?_; clear hE a; intro a hE
  refine zx hE ?_; clear hE a; intro a hE
  refine zx hE ?_; clear hE a; intro a hE
  refine l_step rfl (f_alloc (cs := #[.int .i64 0, .int .i64 0, .int .i64 0, .int .i64 0, .slice none 0 0]) hE hI rfl rfl rfl zer_83 rfl ?_)
  clear hI hE a w; intro a b18 w hE hI
  refine l_step rfl (f_store (l := [_, _, _, _, _]) (ss' := _ :: _) 0 hE hI rfl rfl rfl rfl rfl sz_83 (by simp [Value.cells, Value.oneCell', pgCells, rcCells, zPg]) rfl rfl rfl ?_)
  clear hI w; intro w hI
  refine za hE ?_; clear hE a; intro a hE
  refine wnt ?_
  refine wp_seq ?_
  refine wsr ?_
  refine zm hE ?_; clear hE a; intro a hE
  refine zs hE (p_not rfl) ?_; clear hE a; intro a hE
  refine wnt ?_
  refine c_true hE rfl ?_
  refine wp_seq ?_
  refine d_start [] [] (by kernel_rfl) hI rfl rfl ?_
  clear hI w; intro w hI
  refine dp 0 hE rfl (f_build (vs := []) (l := [_, _, _, _, _]) rfl built_83 rfl) (fun _ => hI) (listed' := #[true, false, false, false]) ?_; clear hE a; intro a hE
  obtain ⟨T_19, fr_19, hg_19⟩ := hS.g113
  refine dl 1 hE rfl (fun w hS => f_load rfl scal_25 (Inv.data hS _ _ (hg_19)) rfl) (hI) ?_; clear hE a; intro a hE
  refine do1 2 hE rfl ?_
  refine f_store (l := [_, _, _, _, _]) (ss' := _ :: _ :: _ :: _) 2 hE hI rfl rfl rfl rfl rfl sz_83 (by simp [Value.cells, Value.oneCell', pgCells, rcCells, zPg]) rfl rfl rfl ?_
  clear hI w; intro w hI
  refine ⟨fun _ => hI, ?_⟩
  refine dp 3 hE rfl (p_assign rfl) (fun _ => hI) ?_; clear hE a; intro a hE
  refine d_done (by kernel_rfl) ?_
  refine then_normal ?_
  refine wp_ret ?_
  refine then_ret ?_
  refine retc2 rfl hE rfl agg_83 (hI.seg 2 rfl) rfl rfl ?_
  replace hI := hI.erase 2
  replace hI := hI.erase 1
  replace hI := hI.erase 0
  replace hI := hI.bring 3
  replace hI := hI.bring 3
  replace hI := hI.bring 3
  replace hI := hI.bring 3
  exact .inr ⟨113, some id, by rw [Bt.page, hf_2]; simp only []; rw [if_neg (by omega), hpool, hf7], rfl, _, ⟨_, _, rfl, ⟨bb, bo, eso, clko, _, _, sr, rfl, rfl, hmo, hMo, hOr⟩, hP13, hpool⟩, hI.perm (List.Perm.of_eq (by simp [bring]))⟩
 obtain ⟨e_2, hg_2, he_2, ho_2⟩ := MapD.some hMo hf_2
 have hlen_p_2 := ho_2.len
 obtain ⟨A20, c21, rfl, _⟩ := he_2.slice
 refine wp_region_list ?_
 refine zm hE ?_; clear hE a; intro a hE
 refine zs hE (p_nilCheck rfl) ?_; clear hE a; intro a hE
 refine zs hE (p_fieldAddr (m := 1) rfl fo_120_1 rfl) ?_; clear hE a; intro a hE
 refine zl hE (f_load rfl scal_118 (hI.seg 1 rfl) rfl) ?_; clear hE a; intro a hE
 refine zm hE ?_; clear hE a; intro a hE
 refine zl hE (r_lookupY rfl rfl ik_118 zer_83 (hI.seg 2 rfl) hmo hg_2) ?_; clear hE a; intro a hE
 refine zm hE ?_; clear hE a; intro a hE
 refine zx hE ?_; clear hE a; intro a hE
 refine zx hE ?_; clear hE a; intro a hE
 refine l_step rfl (f_alloc (cs := #[.int .i64 0, .int .i64 0, .int .i64 0, .int .i64 0, .slice none 0 0]) hE hI rfl rfl rfl zer_83 rfl ?_)
 clear hI hE a w; intro a b22 w hE hI
 refine l_step rfl (f_store (l := [_, _, _, _, _]) (ss' := _ :: _) 0 hE hI rfl rfl rfl rfl rfl sz_83 (by simp [Value.cells, Value.oneCell', pgCells, rcCells, zPg]) rfl rfl rfl ?_)
 clear hI w; intro w hI
 refine za hE ?_; clear hE a; intro a hE
 refine wnt ?_
 refine wsr ?_
 refine zm hE ?_; clear hE a; intro a hE
 refine wnt ?_
 refine c_true hE rfl ?_
 refine wsr ?_
 refine zl hE (f_loadA (vs := [_, _, _, _, _]) rfl agg_83 (hI.seg 0 rfl) rfl rfl) ?_; clear hE a; intro a hE
 refine l_step rfl (f_store (l := [_, _, _, _, _]) (ss' := _ :: _ :: _) 1 hE hI rfl rfl rfl rfl rfl sz_83 (by simp [Value.cells, Value.oneCell', pgCells, rcCells, zPg]) rfl rfl rfl ?_)
 clear hI w; intro w hI
 refine za hE ?_; clear hE a; intro a hE
 refine wnt ?_
 refine wp_ret ?_
 refine then_ret ?_
 refine retc2 rfl hE rfl agg_83 (hI.seg 1 rfl) rfl rfl ?_
 replace hI := hI.erase 1
 replace hI := hI.erase 0
 replace hI := hI.bring 3
 replace hI := hI.bring 3
 replace hI := hI.bring 3
 replace hI := hI.bring 3
 exact .inl ⟨_, by rw [Bt.page, hf_2], _, _, (Le.refl _), rfl, he_2, ho_2, ⟨_, _, rfl, ⟨bb, bo, eso, clko, _, _, sr, rfl, rfl, hmo, hMo, hOr⟩, hP, hpool⟩, hI.perm (List.Perm.of_eq (by simp [bring]))⟩
theorem Inv.split4 {w0 w : World} {D : Sto} {ss : List Seg} {x y : Nat × Obj} {sr sp : Seg} (h : Inv w0 D ((x :: y :: sr ++ sp) :: ss) w) : Inv w0 D ([x] :: [y] :: sr :: sp :: ss) w := h.perm (List.Perm.of_eq (by simp))
theorem do_spec {w0 w : World} {D : Sto} {ss : List Seg} {s : Seg} {vb vp : Value} {b : Bt} {P : Pl} (hI : Inv w0 D (s :: ss) w) {ad : Nat → Addr} (hS : TSents D ad) (hT : TreeS D vb vp b P s) {vr : Value} {rc : Rc} (hr : RcV D vr rc) (hlen : b.recs.length ≤ 1000000000) :
  Calls Tryd.prog 72 #[vb, vr] w (Ret fun r w' => (∃ b', b.doR rc = .ok b' ∧ r = .nilIface ∧ ∃ D' s', Le D D' ∧ TreeS D' vb vp b' P s' ∧ Inv w0 D' (s' :: ss) w') ∨ (∃ c o, b.doR rc = .fail c o ∧ r = errV ad c ∧ ∃ D' s', Le D D' ∧ TreeS D' vb vp b (P.after o) s' ∧ Inv w0 D' (s' :: ss) w')) := by
 obtain ⟨k1, v2, rfl, hk3, hv4, ho5⟩ := hr
 obtain ⟨A6, c7, rfl, _⟩ := hk3.slice
 obtain ⟨A8, c9, rfl, _⟩ := hv4.slice
 have hs0 := ho5.s0
 have hs1 := ho5.s1
 have hkl := ho5.k
 have hvl := ho5.v
 refine enter (N := 59) Tryd.func72 rfl rfl rfl ?_
 intro a hE
 refine wsr ?_
 refine l_step rfl (f_box (cs := #[_, _, _, _, _, _, _, _, _, _]) hE hI rfl rfl rfl rfl rfl ?_)
 clear hI hE a w; intro a b10 w hE hI
 refine za hE ?_; clear hE a; intro a hE
 refine wnt ?_
 refine wsr ?_
 refine zs hE (p_fieldAddr (m := 4) rfl fo_88_4 rfl) ?_; clear hE a; intro a hE
 refine zl hE (f_load rfl scal_3 (hI.seg 0 rfl) rfl) ?_; clear hE a; intro a hE
 refine l_step rfl (o_call hE rfl rfl rfl rfl ent_93 (PNew_spec hI rc.page) ?_)
 clear hI hE a
 rintro r w ⟨⟨e11, rfl, he12, ho13⟩, hI⟩ a hE
 obtain ⟨A14, c15, rfl, _⟩ := he12.slice
 refine l_step rfl (f_alloc (cs := #[.int .i64 0, .int .i64 0, .int .i64 0, .int .i64 0, .slice none 0 0]) hE hI rfl rfl rfl zer_83 rfl ?_)
 clear hI hE a w; intro a b16 w hE hI
 refine l_step rfl (f_store (l := [_, _, _, _, _]) (ss' := _ :: _) 0 hE hI rfl rfl rfl rfl rfl sz_83 (by simp [Value.cells, Value.oneCell', pgCells, rcCells, zPg]) rfl rfl rfl ?_)
 clear hI w; intro w hI
 refine wnt ?_
 refine wp_seq ?_
 refine wsr ?_
 refine zs hE (p_fieldAddr (m := 5) rfl fo_88_5 rfl) ?_; clear hE a; intro a hE
 refine zl hE (f_load rfl scal_3 (hI.seg 1 rfl) rfl) ?_; clear hE a; intro a hE
 refine l_step rfl (o_cmp hE rfl rfl rfl rfl rfl rfl ?_ ?_)
 ·intro hk1; replace hk1 := neq_t hk1; clear hE a; intro a hE
  refine wnt ?_
  refine c_true hE rfl ?_
  refine wsr ?_
  refine zm hE ?_; clear hE a; intro a hE
  refine zs hE (p_fieldAddr (m := 4) rfl fo_88_4 rfl) ?_; clear hE a; intro a hE
  refine zl hE (f_load rfl scal_3 (hI.seg 1 rfl) rfl) ?_; clear hE a; intro a hE
  refine l_step rfl (o_call hE rfl rfl rfl rfl ent_88 (page_spec (hI.bring 2) hS hT (rc.page)) ?_)
  clear hI hE a
  rintro r w h a hE; rcases h with ⟨x17, hx18, D19, e20, hD21, rfl, he22, ho23, hT24, hI⟩ | ⟨c25, o26, hx18, rfl, s27, hT24, hI⟩
  ·skip
   replace hI := hI.put_back 2
   try simp only [nrm, Value.cells] at hI
   obtain ⟨A28, c29, rfl, _⟩ := he22.slice
   refine zm hE ?_; clear hE a; intro a hE
   refine zx hE ?_; clear hE a; intro a hE
   refine zx hE ?_; clear hE a; intro a hE
   refine l_step rfl (f_alloc (cs := #[.int .i64 0, .int .i64 0, .int .i64 0, .int .i64 0, .slice none 0 0]) hE hI rfl rfl rfl zer_83 rfl ?_)
   clear hI hE a w; intro a b30 w hE hI
   refine l_step rfl (f_store (l := [_, _, _, _, _]) (ss' := _ :: _) 0 hE hI rfl rfl rfl rfl rfl sz_83 (by simp [Value.cells, Value.oneCell', pgCells, rcCells, zPg]) rfl rfl rfl ?_)
   clear hI w; intro w hI
   refine za hE ?_; clear hE a; intro a hE
   refine wnt ?_
   refine wp_seq ?_
   refine wsr ?_
   refine zm hE ?_; clear hE a; intro a hE
   refine zs hE (p_ifaceNil Tryd.underlying25 rfl rfl rfl) ?_; clear hE a; intro a hE
   refine wnt ?_
   refine c_false hE rfl ?_
   refine wp_skip ?_
   refine then_normal ?_
   refine wp_region_list ?_
   refine zl hE (f_loadA (vs := [_, _, _, _, _]) rfl agg_83 (hI.seg 0 rfl) rfl rfl) ?_; clear hE a; intro a hE
   refine l_step rfl (f_store (l := [_, _, _, _, _]) (ss' := _ :: _ :: _) 1 hE hI rfl rfl rfl rfl rfl sz_83 (by simp [Value.cells, Value.oneCell', pgCells, rcCells, zPg]) rfl rfl rfl ?_)
   clear hI w; intro w hI
   refine wnt ?_
   refine wp_seq ?_
   have hpl0 := ho23.l0
   have hpl1 := ho23.l1
   refine wp_region_list ?_
   refine zs hE (p_fieldAddr (m := 1) rfl fo_83_1 rfl) ?_; clear hE a; intro a hE
   refine zl hE (f_load rfl scal_2 (hI.seg 1 rfl) rfl) ?_; clear hE a; intro a hE
   refine za hE ?_; clear hE a; intro a hE
   refine wnt ?_
   refine wsr ?_
   refine zm hE ?_; clear hE a; intro a hE
   refine zs hE (p_arith (z := x17.lsn + 1) rfl rfl (add_z rfl (by omega) (by omega))) ?_; clear hE a; intro a hE
   refine zs hE (p_fieldAddr (m := 0) rfl fo_88_0 rfl) ?_; clear hE a; intro a hE
   refine l_step rfl (f_store (l := [_, _, _, _, _, _, _, _, _, _]) (ss' := _ :: _ :: _ :: _) 2 hE hI rfl rfl rfl rfl rfl sz_2 (by simp [Value.cells, Value.oneCell', pgCells, rcCells, zPg]) rfl rfl rfl ?_)
   clear hI w; intro w hI
   refine wnt ?_
   refine wp_seq ?_
   refine wsr ?_
   refine zs hE (p_fieldAddr (m := 0) rfl fo_88_0 rfl) ?_; clear hE a; intro a hE
   refine zl hE (f_load rfl scal_2 (hI.seg 2 rfl) rfl) ?_; clear hE a; intro a hE
   refine l_step rfl (o_cmp hE rfl rfl rfl rfl rfl rfl ?_ ?_)
   ·intro hbig; replace hbig := gtr_t hbig; clear hE a; intro a hE
    refine wnt ?_
    refine c_true hE rfl ?_
    refine wp_region_list ?_
    refine zs hE (p_fieldAddr (m := 1) rfl fo_83_1 rfl) ?_; clear hE a; intro a hE
    refine l_step rfl (f_store (l := [_, _, _, _, _]) (ss' := _ :: _ :: _) 1 hE hI rfl rfl rfl rfl rfl sz_2 (by simp [Value.cells, Value.oneCell', pgCells, rcCells, zPg]) rfl rfl rfl ?_)
    clear hI w; intro w hI
    refine zs hE (p_fieldAddr (m := 0) rfl fo_88_0 rfl) ?_; clear hE a; intro a hE
    refine l_step rfl (f_store (l := [_, _, _, _, _, _, _, _, _, _]) (ss' := _ :: _ :: _ :: _) 2 hE hI rfl rfl rfl rfl rfl sz_2 (by simp [Value.cells, Value.oneCell', pgCells, rcCells, zPg]) rfl rfl rfl ?_)
    clear hI w; intro w hI
    refine wnt ?_
    refine wsr ?_
    refine zl hE (f_loadA (vs := [_, _, _, _, _]) rfl agg_83 (hI.seg 1 rfl) rfl rfl) ?_; clear hE a; intro a hE
    refine zl hE (f_loadA (vs := [_, _, _, _, _, _, _, _, _, _]) rfl agg_88 (hI.seg 2 rfl) rfl rfl) ?_; clear hE a; intro a hE
    refine l_step rfl (o_call hE rfl rfl rfl rfl ent_94 (Apply_spec (p := ({ x17 with lsn := 0 } : Pg)) (rc := ({ rc with lsn := 1 } : Rc)) hI ⟨_, rfl, he22, (ho23.lsn (n := 0) (by omega) (by omega))⟩ ⟨_, _, rfl, (hk3.mono hD21), (hv4.mono hD21), (ho5.lsn (n := 1) (by omega) (by omega))⟩) ?_)
    clear hI hE a
    rintro r w ⟨D31, hD32, hI, ⟨e33, rfl, he34, ho35⟩⟩ a hE
    obtain ⟨A36, c37, rfl, _⟩ := he34.slice
    refine l_step rfl (f_store (l := [_, _, _, _, _]) (ss' := _ :: _ :: _) 1 hE hI rfl rfl rfl rfl rfl sz_83 (by simp [Value.cells, Value.oneCell', pgCells, rcCells, zPg]) rfl rfl rfl ?_)
    clear hI w; intro w hI
    refine wnt ?_
    refine wsr ?_
    refine zm hE ?_; clear hE a; intro a hE
    refine zs hE (p_fieldAddr (m := 1) rfl fo_83_1 rfl) ?_; clear hE a; intro a hE
    refine l_step rfl (f_store (l := [_, _, _, _, _]) (ss' := _ :: _ :: _) 1 hE hI rfl rfl rfl rfl rfl sz_2 (by simp [Value.cells, Value.oneCell', pgCells, rcCells, zPg]) rfl rfl rfl ?_)
    clear hI w; intro w hI
    refine wnt ?_
    refine wp_seq ?_
    replace hI := hI.bring 3
    obtain ⟨sbz, spz, rfl, ⟨bbz, boz, esoz, clkoz, moz, vrz, srz, rfl, rfl, hmoz, hMoz, hOrz⟩, hPz, hpoolz⟩ := (hT24.mono hD32)
    obtain ⟨Arz, crz, rfl, hcrz⟩ := hOrz.slice
    obtain ⟨bp, hbp⟩ := hPz.ptr
    subst hbp
    replace hI := hI.split4
    simp only [bring, List.eraseIdx_cons_succ, List.eraseIdx_cons_zero, List.eraseIdx_zero, List.getElem?_cons_succ, List.getElem?_cons_zero, List.tail_cons, insAt] at hI
    have hdo : ({ (applyP ({ x17 with lsn := 0 } : Pg) ({ rc with lsn := 1 } : Rc)) with lsn := x17.lsn } : Pg) = doPg x17 rc := by rw [doPg, if_pos (by omega)]
    refine d_start [7] [] (by kernel_rfl) hI rfl rfl ?_
    clear hI w; intro w hI
    refine dp 0 hE rfl (p_move rfl) (fun _ => hI) (listed' := #[true, false, false, false, false, false, false, false]) ?_; clear hE a; intro a hE
    refine dp 1 hE rfl (p_nilCheck rfl) (fun _ => hI) ?_; clear hE a; intro a hE
    refine dp 2 hE rfl (p_fieldAddr (m := 1) rfl fo_120_1 rfl) (fun _ => hI) ?_; clear hE a; intro a hE
    refine dl 3 hE rfl (fun w hS => f_load rfl scal_118 (Inv.seg 0 hS rfl) rfl) (hI) ?_; clear hE a; intro a hE
    refine dp 4 hE rfl (p_fieldAddr (m := 4) rfl fo_88_4 rfl) (fun _ => hI) ?_; clear hE a; intro a hE
    refine dl 5 hE rfl (fun w hS => f_load rfl scal_3 (Inv.seg 6 hS rfl) rfl) (hI) ?_; clear hE a; intro a hE
    refine dl 6 hE rfl (fun w hS => f_loadA (vs := [_, _, _, _, _]) rfl agg_83 (Inv.seg 5 hS rfl) rfl rfl) (hI) ?_; clear hE a; intro a hE
    refine do1 7 hE rfl ?_
    refine o_mapUpdate 1 hE hI rfl (.inl rfl) rfl rfl rfl ik_118 rfl hmoz ?_
    clear hI w; intro es_38 clk_38 w hm_38 hI
    refine ⟨nl, ?_⟩
    refine d_done (by kernel_rfl) ?_
    refine then_normal ?_
    refine wsr ?_
    refine zs hE (p_fieldAddr (m := 0) rfl fo_88_0 rfl) ?_; clear hE a; intro a hE
    refine l_step rfl (f_store (l := [_, _, _, _, _, _, _, _, _, _]) (ss' := _ :: _ :: _ :: _ :: _ :: _ :: _ :: _) 6 hE hI rfl rfl rfl rfl rfl sz_2 (by simp [Value.cells, Value.oneCell', pgCells, rcCells, zPg]) rfl rfl rfl ?_)
    clear hI w; intro w hI
    refine wnt ?_
    refine wp_seq ?_
    refine d_start [10] [2] (by kernel_rfl) hI rfl rfl ?_
    clear hI w; intro w hI
    refine dp 0 hE rfl (p_move rfl) (fun _ => (hI.dropS [2])) (listed' := #[true, false, false, false, false, false, false, false, false, false, false]) ?_; clear hE a; intro a hE
    refine dp 1 hE rfl (p_move rfl) (fun _ => (hI.dropS [2])) ?_; clear hE a; intro a hE
    refine dp 2 hE rfl (p_nilCheck rfl) (fun _ => (hI.dropS [2])) ?_; clear hE a; intro a hE
    refine dp 3 hE rfl (p_fieldAddr (m := 2) rfl fo_120_2 rfl) (fun _ => (hI.dropS [2])) ?_; clear hE a; intro a hE
    refine dl 4 hE rfl (fun w hS => f_load rfl scal_62 (Inv.seg 0 hS rfl) rfl) ((hI.dropS [2])) ?_; clear hE a; intro a hE
    refine dl 5 hE rfl (fun w hS => f_loadA (vs := [_, _, _, _, _, _, _, _, _, _]) rfl agg_88 (Inv.seg 5 hS rfl) rfl rfl) ((hI.dropS [2])) ?_; clear hE a; intro a hE
    refine do1 6 hE rfl ?_
    refine f_lit (vs := [(0, _)]) (l := [_, _, _, _, _, _, _, _, _, _]) hE hI rfl rfl rfl rfl Tryd.underlying62 zs_88 rfl rfl rfl ?_
    clear hI hE a w; intro a b39 w hE hI
    refine ⟨fun _ => (hI.dropS [3, 0]), ?_⟩
    refine do1 7 hE rfl ?_
    refine o_appendOR (R := RcR) (el := ({ rc with lsn := 0 } : Rc)) 3 0 hE hI rfl rfl rfl rfl rfl Tryd.underlying62 zsb_88 rfl rfl rfl hOrz rfl rfl (⟨_, _, rfl, (hk3.mono (hD21.trans hD32)), (hv4.mono (hD21.trans hD32)), ho5.lsn (n := 0) (by omega) (by omega)⟩) (by simp [Value.oneCell']) (by omega) (by omega) ?_
    clear hI hE a w; intro v40 s41 w hO42 hI a hE
    obtain ⟨A43, c44, rfl, _⟩ := hO42.slice
    replace hI := hI.erase 0
    try simp only [nrm, Value.cells] at hI
    refine ⟨fun _ => (hI.dropS [2]), ?_⟩
    refine dp 8 hE rfl (p_nilCheck rfl) (fun _ => (hI.dropS [2])) ?_; clear hE a; intro a hE
    refine dp 9 hE rfl (p_fieldAddr (m := 2) rfl fo_120_2 rfl) (fun _ => (hI.dropS [2])) ?_; clear hE a; intro a hE
    refine do1 10 hE rfl ?_
    refine f_store (l := [_, _, _]) (ss' := _ :: _) 0 hE hI rfl rfl rfl rfl rfl sz_62 (by simp [Value.cells, Value.oneCell', pgCells, rcCells, zPg]) rfl rfl rfl ?_
    clear hI w; intro w hI
    refine ⟨nl, ?_⟩
    refine d_done (by kernel_rfl) ?_
    refine then_normal ?_
    refine wsr ?_
    refine za hE ?_; clear hE a; intro a hE
    refine wnt ?_
    refine wp_ret ?_
    refine ret1 rfl hE rfl ?_
    replace hI := hI.erase 6
    replace hI := hI.erase 5
    replace hI := hI.erase 4
    replace hI := hI.bring 3
    replace hI := hI.bring 3
    replace hI := hI.bring 3
    replace hI := hI.bring 3
    exact .inl ⟨({ b with own := fun k => if k = rc.page then some (doPg x17 rc) else b.own k, recs := b.recs ++ [{ rc with lsn := 0 }] } : Bt), by rw [Bt.doR, if_neg hk1, hx18], rfl, _, _, (hD21.trans hD32), ⟨_, _, rfl, ⟨bbz, boz, es_38, clk_38, _, _, s41, rfl, rfl, hm_38, (MapD.put (k := rc.page) hMoz (PgV.cast (q := ({ (applyP ({ x17 with lsn := 0 } : Pg) ({ rc with lsn := 1 } : Rc)) with lsn := x17.lsn } : Pg)) ⟨_, rfl, he34, ho35.lsn hpl0 hpl1⟩ hdo)), hO42⟩, (hPz.mono (Le.refl _)), hpoolz⟩, hI.perm (List.Perm.of_eq (by simp [bring]))⟩
   intro hbig; replace hbig := gtr_f hbig; clear hE a; intro a hE
   refine wnt ?_
   refine c_false hE rfl ?_
   refine wp_skip ?_
   refine then_normal ?_
   refine wsr ?_
   refine zl hE (f_loadA (vs := [_, _, _, _, _]) rfl agg_83 (hI.seg 1 rfl) rfl rfl) ?_; clear hE a; intro a hE
   refine zl hE (f_loadA (vs := [_, _, _, _, _, _, _, _, _, _]) rfl agg_88 (hI.seg 2 rfl) rfl rfl) ?_; clear hE a; intro a hE
   refine l_step rfl (o_call hE rfl rfl rfl rfl ent_94 (Apply_spec (p := x17) (rc := ({ rc with lsn := x17.lsn + 1 } : Rc)) hI ⟨_, rfl, he22, ho23⟩ ⟨_, _, rfl, (hk3.mono hD21), (hv4.mono hD21), (ho5.lsn (n := x17.lsn + 1) (by omega) (by omega))⟩) ?_)
   clear hI hE a
   rintro r w ⟨D45, hD46, hI, ⟨e47, rfl, he48, ho49⟩⟩ a hE
   obtain ⟨A50, c51, rfl, _⟩ := he48.slice
   refine l_step rfl (f_store (l := [_, _, _, _, _]) (ss' := _ :: _ :: _) 1 hE hI rfl rfl rfl rfl rfl sz_83 (by simp [Value.cells, Value.oneCell', pgCells, rcCells, zPg]) rfl rfl rfl ?_)
   clear hI w; intro w hI
   refine wnt ?_
   refine wsr ?_
   refine zm hE ?_; clear hE a; intro a hE
   refine zs hE (p_fieldAddr (m := 1) rfl fo_83_1 rfl) ?_; clear hE a; intro a hE
   refine l_step rfl (f_store (l := [_, _, _, _, _]) (ss' := _ :: _ :: _) 1 hE hI rfl rfl rfl rfl rfl sz_2 (by simp [Value.cells, Value.oneCell', pgCells, rcCells, zPg]) rfl rfl rfl ?_)
   clear hI w; intro w hI
   refine wnt ?_
   refine wp_seq ?_
   replace hI := hI.bring 3
   obtain ⟨sbz, spz, rfl, ⟨bbz, boz, esoz, clkoz, moz, vrz, srz, rfl, rfl, hmoz, hMoz, hOrz⟩, hPz, hpoolz⟩ := (hT24.mono hD46)
   obtain ⟨Arz, crz, rfl, hcrz⟩ := hOrz.slice
   obtain ⟨bp, hbp⟩ := hPz.ptr
   subst hbp
   replace hI := hI.split4
   simp only [bring, List.eraseIdx_cons_succ, List.eraseIdx_cons_zero, List.eraseIdx_zero, List.getElem?_cons_succ, List.getElem?_cons_zero, List.tail_cons, insAt] at hI
   have hdo : ({ (applyP x17 ({ rc with lsn := x17.lsn + 1 } : Rc)) with lsn := x17.lsn } : Pg) = doPg x17 rc := by rw [doPg, if_neg (by omega)]
   refine d_start [7] [] (by kernel_rfl) hI rfl rfl ?_
   clear hI w; intro w hI
   refine dp 0 hE rfl (p_move rfl) (fun _ => hI) (listed' := #[true, false, false, false, false, false, false, false]) ?_; clear hE a; intro a hE
   refine dp 1 hE rfl (p_nilCheck rfl) (fun _ => hI) ?_; clear hE a; intro a hE
   refine dp 2 hE rfl (p_fieldAddr (m := 1) rfl fo_120_1 rfl) (fun _ => hI) ?_; clear hE a; intro a hE
   refine dl 3 hE rfl (fun w hS => f_load rfl scal_118 (Inv.seg 0 hS rfl) rfl) (hI) ?_; clear hE a; intro a hE
   refine dp 4 hE rfl (p_fieldAddr (m := 4) rfl fo_88_4 rfl) (fun _ => hI) ?_; clear hE a; intro a hE
   refine dl 5 hE rfl (fun w hS => f_load rfl scal_3 (Inv.seg 6 hS rfl) rfl) (hI) ?_; clear hE a; intro a hE
   refine dl 6 hE rfl (fun w hS => f_loadA (vs := [_, _, _, _, _]) rfl agg_83 (Inv.seg 5 hS rfl) rfl rfl) (hI) ?_; clear hE a; intro a hE
   refine do1 7 hE rfl ?_
   refine o_mapUpdate 1 hE hI rfl (.inl rfl) rfl rfl rfl ik_118 rfl hmoz ?_
   clear hI w; intro es_52 clk_52 w hm_52 hI
   refine ⟨nl, ?_⟩
   refine d_done (by kernel_rfl) ?_
   refine then_normal ?_
   refine wsr ?_
   refine zs hE (p_fieldAddr (m := 0) rfl fo_88_0 rfl) ?_; clear hE a; intro a hE
   refine l_step rfl (f_store (l := [_, _, _, _, _, _, _, _, _, _]) (ss' := _ :: _ :: _ :: _ :: _ :: _ :: _ :: _) 6 hE hI rfl rfl rfl rfl rfl sz_2 (by simp [Value.cells, Value.oneCell', pgCells, rcCells, zPg]) rfl rfl rfl ?_)
   clear hI w; intro w hI
   refine wnt ?_
   refine wp_seq ?_
   refine d_start [10] [2] (by kernel_rfl) hI rfl rfl ?_
   clear hI w; intro w hI
   refine dp 0 hE rfl (p_move rfl) (fun _ => (hI.dropS [2])) (listed' := #[true, false, false, false, false, false, false, false, false, false, false]) ?_; clear hE a; intro a hE
   refine dp 1 hE rfl (p_move rfl) (fun _ => (hI.dropS [2])) ?_; clear hE a; intro a hE
   refine dp 2 hE rfl (p_nilCheck rfl) (fun _ => (hI.dropS [2])) ?_; clear hE a; intro a hE
   refine dp 3 hE rfl (p_fieldAddr (m := 2) rfl fo_120_2 rfl) (fun _ => (hI.dropS [2])) ?_; clear hE a; intro a hE
   refine dl 4 hE rfl (fun w hS => f_load rfl scal_62 (Inv.seg 0 hS rfl) rfl) ((hI.dropS [2])) ?_; clear hE a; intro a hE
   refine dl 5 hE rfl (fun w hS => f_loadA (vs := [_, _, _, _, _, _, _, _, _, _]) rfl agg_88 (Inv.seg 5 hS rfl) rfl rfl) ((hI.dropS [2])) ?_; clear hE a; intro a hE
   refine do1 6 hE rfl ?_
   refine f_lit (vs := [(0, _)]) (l := [_, _, _, _, _, _, _, _, _, _]) hE hI rfl rfl rfl rfl Tryd.underlying62 zs_88 rfl rfl rfl ?_
   clear hI hE a w; intro a b53 w hE hI
   refine ⟨fun _ => (hI.dropS [3, 0]), ?_⟩
   refine do1 7 hE rfl ?_
   refine o_appendOR (R := RcR) (el := ({ rc with lsn := 0 } : Rc)) 3 0 hE hI rfl rfl rfl rfl rfl Tryd.underlying62 zsb_88 rfl rfl rfl hOrz rfl rfl (⟨_, _, rfl, (hk3.mono (hD21.trans hD46)), (hv4.mono (hD21.trans hD46)), ho5.lsn (n := 0) (by omega) (by omega)⟩) (by simp [Value.oneCell']) (by omega) (by omega) ?_
   clear hI hE a w; intro v54 s55 w hO56 hI a hE
   obtain ⟨A57, c58, rfl, _⟩ := hO56.slice
   replace hI := hI.erase 0
   try simp only [nrm, Value.cells] at hI
   refine ⟨fun _ => (hI.dropS [2]), ?_⟩
   refine dp 8 hE rfl (p_nilCheck rfl) (fun _ => (hI.dropS [2])) ?_; clear hE a; intro a hE
   refine dp 9 hE rfl (p_fieldAddr (m := 2) rfl fo_120_2 rfl) (fun _ => (hI.dropS [2])) ?_; clear hE a; intro a hE
   refine do1 10 hE rfl ?_
   refine f_store (l := [_, _, _]) (ss' := _ :: _) 0 hE hI rfl rfl rfl rfl rfl sz_62 (by simp [Value.cells, Value.oneCell', pgCells, rcCells, zPg]) rfl rfl rfl ?_
   clear hI w; intro w hI
   refine ⟨nl, ?_⟩
   refine d_done (by kernel_rfl) ?_
   refine then_normal ?_
   refine wsr ?_
   refine za hE ?_; clear hE a; intro a hE
   refine wnt ?_
   refine wp_ret ?_
   refine ret1 rfl hE rfl ?_
   replace hI := hI.erase 6
   replace hI := hI.erase 5
   replace hI := hI.erase 4
   replace hI := hI.bring 3
   replace hI := hI.bring 3
   replace hI := hI.bring 3
   replace hI := hI.bring 3
   exact .inl ⟨({ b with own := fun k => if k = rc.page then some (doPg x17 rc) else b.own k, recs := b.recs ++ [{ rc with lsn := 0 }] } : Bt), by rw [Bt.doR, if_neg hk1, hx18], rfl, _, _, (hD21.trans hD46), ⟨_, _, rfl, ⟨bbz, boz, es_52, clk_52, _, _, s55, rfl, rfl, hm_52, (MapD.put (k := rc.page) hMoz (PgV.cast (q := ({ (applyP x17 ({ rc with lsn := x17.lsn + 1 } : Rc)) with lsn := x17.lsn } : Pg)) ⟨_, rfl, he48, ho49.lsn hpl0 hpl1⟩ hdo)), hO56⟩, (hPz.mono (Le.refl _)), hpoolz⟩, hI.perm (List.Perm.of_eq (by simp [bring]))⟩
  replace hI := hI.put_back 2
  try simp only [nrm, Value.cells] at hI
  refine zm hE ?_; clear hE a; intro a hE
  refine zx hE ?_; clear hE a; intro a hE
  refine zx hE ?_; clear hE a; intro a hE
  refine l_step rfl (f_alloc (cs := #[.int .i64 0, .int .i64 0, .int .i64 0, .int .i64 0, .slice none 0 0]) hE hI rfl rfl rfl zer_83 rfl ?_)
  clear hI hE a w; intro a b59 w hE hI
  refine l_step rfl (f_store (l := [_, _, _, _, _]) (ss' := _ :: _) 0 hE hI rfl rfl rfl rfl rfl sz_83 (by simp [Value.cells, Value.oneCell', pgCells, rcCells, zPg]) rfl rfl rfl ?_)
  clear hI w; intro w hI
  refine za hE ?_; clear hE a; intro a hE
  refine wnt ?_
  refine wp_seq ?_
  refine wsr ?_
  refine zm hE ?_; clear hE a; intro a hE
  refine zs hE (p_ifaceNil Tryd.underlying25 rfl rfl rfl) ?_; clear hE a; intro a hE
  refine wnt ?_
  refine c_true hE rfl ?_
  refine wsr ?_
  refine zm hE ?_; clear hE a; intro a hE
  refine za hE ?_; clear hE a; intro a hE
  refine wnt ?_
  refine wp_ret ?_
  refine then_ret ?_
  refine then_ret ?_
  refine ret1 rfl hE rfl ?_
  replace hI := hI.erase 2
  replace hI := hI.erase 1
  replace hI := hI.erase 0
  exact .inr ⟨_, _, by rw [Bt.doR, if_neg hk1, hx18], rfl, _, _, (Le.refl _), hT24, hI⟩
 intro hk1; replace hk1 := neq_f hk1; clear hE a; intro a hE
 refine wnt ?_
 refine c_false hE rfl ?_
 refine wp_skip ?_
 refine then_normal ?_
 refine wp_seq ?_
 have hpl0 := ho13.l0
 have hpl1 := ho13.l1
 refine wp_region_list ?_
 refine zs hE (p_fieldAddr (m := 1) rfl fo_83_1 rfl) ?_; clear hE a; intro a hE
 refine zl hE (f_load rfl scal_2 (hI.seg 0 rfl) rfl) ?_; clear hE a; intro a hE
 refine za hE ?_; clear hE a; intro a hE
 refine wnt ?_
 refine wsr ?_
 refine zm hE ?_; clear hE a; intro a hE
 refine zs hE (p_arith (z := (newPg rc.page).lsn + 1) rfl rfl (add_z rfl (by omega) (by omega))) ?_; clear hE a; intro a hE
 refine zs hE (p_fieldAddr (m := 0) rfl fo_88_0 rfl) ?_; clear hE a; intro a hE
 refine l_step rfl (f_store (l := [_, _, _, _, _, _, _, _, _, _]) (ss' := _ :: _ :: _) 1 hE hI rfl rfl rfl rfl rfl sz_2 (by simp [Value.cells, Value.oneCell', pgCells, rcCells, zPg]) rfl rfl rfl ?_)
 clear hI w; intro w hI
 refine wnt ?_
 refine wp_seq ?_
 refine wsr ?_
 refine zs hE (p_fieldAddr (m := 0) rfl fo_88_0 rfl) ?_; clear hE a; intro a hE
 refine zl hE (f_load rfl scal_2 (hI.seg 1 rfl) rfl) ?_; clear hE a; intro a hE
 refine l_step rfl (o_cmp hE rfl rfl rfl rfl rfl rfl ?_ ?_)
 ·intro hbig; replace hbig := gtr_t hbig; clear hE a; intro a hE
  refine wnt ?_
  refine c_true hE rfl ?_
  refine wp_region_list ?_
  refine zs hE (p_fieldAddr (m := 1) rfl fo_83_1 rfl) ?_; clear hE a; intro a hE
  refine l_step rfl (f_store (l := [_, _, _, _, _]) (ss' := _ :: _) 0 hE hI rfl rfl rfl rfl rfl sz_2 (by simp [Value.cells, Value.oneCell', pgCells, rcCells, zPg]) rfl rfl rfl ?_)
  clear hI w; intro w hI
  refine zs hE (p_fieldAddr (m := 0) rfl fo_88_0 rfl) ?_; clear hE a; intro a hE
  refine l_step rfl (f_store (l := [_, _, _, _, _, _, _, _, _, _]) (ss' := _ :: _ :: _) 1 hE hI rfl rfl rfl rfl rfl sz_2 (by simp [Value.cells, Value.oneCell', pgCells, rcCells, zPg]) rfl rfl rfl ?_)
  clear hI w; intro w hI
  refine wnt ?_
  refine wsr ?_
  refine zl hE (f_loadA (vs := [_, _, _, _, _]) rfl agg_83 (hI.seg 0 rfl) rfl rfl) ?_; clear hE a; intro a hE
  refine zl hE (f_loadA (vs := [_, _, _, _, _, _, _, _, _, _]) rfl agg_88 (hI.seg 1 rfl) rfl rfl) ?_; clear hE a; intro a hE
  refine l_step rfl (o_call hE rfl rfl rfl rfl ent_94 (Apply_spec (p := ({ (newPg rc.page) with lsn := 0 } : Pg)) (rc := ({ rc with lsn := 1 } : Rc)) hI ⟨_, rfl, he12, (ho13.lsn (n := 0) (by omega) (by omega))⟩ ⟨_, _, rfl, hk3, hv4, (ho5.lsn (n := 1) (by omega) (by omega))⟩) ?_)
  clear hI hE a
  rintro r w ⟨D60, hD61, hI, ⟨e62, rfl, he63, ho64⟩⟩ a hE
  obtain ⟨A65, c66, rfl, _⟩ := he63.slice
  refine l_step rfl (f_store (l := [_, _, _, _, _]) (ss' := _ :: _) 0 hE hI rfl rfl rfl rfl rfl sz_83 (by simp [Value.cells, Value.oneCell', pgCells, rcCells, zPg]) rfl rfl rfl ?_)
  clear hI w; intro w hI
  refine wnt ?_
  refine wsr ?_
  refine zm hE ?_; clear hE a; intro a hE
  refine zs hE (p_fieldAddr (m := 1) rfl fo_83_1 rfl) ?_; clear hE a; intro a hE
  refine l_step rfl (f_store (l := [_, _, _, _, _]) (ss' := _ :: _) 0 hE hI rfl rfl rfl rfl rfl sz_2 (by simp [Value.cells, Value.oneCell', pgCells, rcCells, zPg]) rfl rfl rfl ?_)
  clear hI w; intro w hI
  refine wnt ?_
  refine wp_seq ?_
  replace hI := hI.bring 2
  obtain ⟨sbz, spz, rfl, ⟨bbz, boz, esoz, clkoz, moz, vrz, srz, rfl, rfl, hmoz, hMoz, hOrz⟩, hPz, hpoolz⟩ := (hT.mono hD61)
  obtain ⟨Arz, crz, rfl, hcrz⟩ := hOrz.slice
  obtain ⟨bp, hbp⟩ := hPz.ptr
  subst hbp
  replace hI := hI.split4
  simp only [bring, List.eraseIdx_cons_succ, List.eraseIdx_cons_zero, List.eraseIdx_zero, List.getElem?_cons_succ, List.getElem?_cons_zero, List.tail_cons, insAt] at hI
  have hdo : ({ (applyP ({ (newPg rc.page) with lsn := 0 } : Pg) ({ rc with lsn := 1 } : Rc)) with lsn := (newPg rc.page).lsn } : Pg) = doPg (newPg rc.page) rc := by rw [doPg, if_pos (by omega)]
  refine d_start [7] [] (by kernel_rfl) hI rfl rfl ?_
  clear hI w; intro w hI
  refine dp 0 hE rfl (p_move rfl) (fun _ => hI) (listed' := #[true, false, false, false, false, false, false, false]) ?_; clear hE a; intro a hE
  refine dp 1 hE rfl (p_nilCheck rfl) (fun _ => hI) ?_; clear hE a; intro a hE
  refine dp 2 hE rfl (p_fieldAddr (m := 1) rfl fo_120_1 rfl) (fun _ => hI) ?_; clear hE a; intro a hE
  refine dl 3 hE rfl (fun w hS => f_load rfl scal_118 (Inv.seg 0 hS rfl) rfl) (hI) ?_; clear hE a; intro a hE
  refine dp 4 hE rfl (p_fieldAddr (m := 4) rfl fo_88_4 rfl) (fun _ => hI) ?_; clear hE a; intro a hE
  refine dl 5 hE rfl (fun w hS => f_load rfl scal_3 (Inv.seg 5 hS rfl) rfl) (hI) ?_; clear hE a; intro a hE
  refine dl 6 hE rfl (fun w hS => f_loadA (vs := [_, _, _, _, _]) rfl agg_83 (Inv.seg 4 hS rfl) rfl rfl) (hI) ?_; clear hE a; intro a hE
  refine do1 7 hE rfl ?_
  refine o_mapUpdate 1 hE hI rfl (.inl rfl) rfl rfl rfl ik_118 rfl hmoz ?_
  clear hI w; intro es_67 clk_67 w hm_67 hI
  refine ⟨nl, ?_⟩
  refine d_done (by kernel_rfl) ?_
  refine then_normal ?_
  refine wsr ?_
  refine zs hE (p_fieldAddr (m := 0) rfl fo_88_0 rfl) ?_; clear hE a; intro a hE
  refine l_step rfl (f_store (l := [_, _, _, _, _, _, _, _, _, _]) (ss' := _ :: _ :: _ :: _ :: _ :: _ :: _) 5 hE hI rfl rfl rfl rfl rfl sz_2 (by simp [Value.cells, Value.oneCell', pgCells, rcCells, zPg]) rfl rfl rfl ?_)
  clear hI w; intro w hI
  refine wnt ?_
  refine wp_seq ?_
  refine d_start [10] [2] (by kernel_rfl) hI rfl rfl ?_
  clear hI w; intro w hI
  refine dp 0 hE rfl (p_move rfl) (fun _ => (hI.dropS [2])) (listed' := #[true, false, false, false, false, false, false, false, false, false, false]) ?_; clear hE a; intro a hE
  refine dp 1 hE rfl (p_move rfl) (fun _ => (hI.dropS [2])) ?_; clear hE a; intro a hE
  refine dp 2 hE rfl (p_nilCheck rfl) (fun _ => (hI.dropS [2])) ?_; clear hE a; intro a hE
  refine dp 3 hE rfl (p_fieldAddr (m := 2) rfl fo_120_2 rfl) (fun _ => (hI.dropS [2])) ?_; clear hE a; intro a hE
  refine dl 4 hE rfl (fun w hS => f_load rfl scal_62 (Inv.seg 0 hS rfl) rfl) ((hI.dropS [2])) ?_; clear hE a; intro a hE
  refine dl 5 hE rfl (fun w hS => f_loadA (vs := [_, _, _, _, _, _, _, _, _, _]) rfl agg_88 (Inv.seg 4 hS rfl) rfl rfl) ((hI.dropS [2])) ?_; clear hE a; intro a hE
  refine do1 6 hE rfl ?_
  refine f_lit (vs := [(0, _)]) (l := [_, _, _, _, _, _, _, _, _, _]) hE hI rfl rfl rfl rfl Tryd.underlying62 zs_88 rfl rfl rfl ?_
  clear hI hE a w; intro a b68 w hE hI
  refine ⟨fun _ => (hI.dropS [3, 0]), ?_⟩
  refine do1 7 hE rfl ?_
  refine o_appendOR (R := RcR) (el := ({ rc with lsn := 0 } : Rc)) 3 0 hE hI rfl rfl rfl rfl rfl Tryd.underlying62 zsb_88 rfl rfl rfl hOrz rfl rfl (⟨_, _, rfl, (hk3.mono hD61), (hv4.mono hD61), ho5.lsn (n := 0) (by omega) (by omega)⟩) (by simp [Value.oneCell']) (by omega) (by omega) ?_
  clear hI hE a w; intro v69 s70 w hO71 hI a hE
  obtain ⟨A72, c73, rfl, _⟩ := hO71.slice
  replace hI := hI.erase 0
  try simp only [nrm, Value.cells] at hI
  refine ⟨fun _ => (hI.dropS [2]), ?_⟩
  refine dp 8 hE rfl (p_nilCheck rfl) (fun _ => (hI.dropS [2])) ?_; clear hE a; intro a hE
  refine dp 9 hE rfl (p_fieldAddr (m := 2) rfl fo_120_2 rfl) (fun _ => (hI.dropS [2])) ?_; clear hE a; intro a hE
  refine do1 10 hE rfl ?_
  refine f_store (l := [_, _, _]) (ss' := _ :: _) 0 hE hI rfl rfl rfl rfl rfl sz_62 (by simp [Value.cells, Value.oneCell', pgCells, rcCells, zPg]) rfl rfl rfl ?_
  clear hI w; intro w hI
  refine ⟨nl, ?_⟩
  refine d_done (by kernel_rfl) ?_
  refine then_normal ?_
  refine wsr ?_
  refine za hE ?_; clear hE a; intro a hE
  refine wnt ?_
  refine wp_ret ?_
  refine ret1 rfl hE rfl ?_
  replace hI := hI.erase 5
  replace hI := hI.erase 4
  replace hI := hI.bring 3
  replace hI := hI.bring 3
  replace hI := hI.bring 3
  replace hI := hI.bring 3
  exact .inl ⟨({ b with own := fun k => if k = rc.page then some (doPg (newPg rc.page) rc) else b.own k, recs := b.recs ++ [{ rc with lsn := 0 }] } : Bt), by rw [Bt.doR, if_pos hk1], rfl, _, _, hD61, ⟨_, _, rfl, ⟨bbz, boz, es_67, clk_67, _, _, s70, rfl, rfl, hm_67, (MapD.put (k := rc.page) hMoz (PgV.cast (q := ({ (applyP ({ (newPg rc.page) with lsn := 0 } : Pg) ({ rc with lsn := 1 } : Rc)) with lsn := (newPg rc.page).lsn } : Pg)) ⟨_, rfl, he63, ho64.lsn hpl0 hpl1⟩ hdo)), hO71⟩, (hPz.mono (Le.refl _)), hpoolz⟩, hI.perm (List.Perm.of_eq (by simp [bring]))⟩
 intro hbig; replace hbig := gtr_f hbig; clear hE a; intro a hE
 refine wnt ?_
 refine c_false hE rfl ?_
 refine wp_skip ?_
 refine then_normal ?_
 refine wsr ?_
 refine zl hE (f_loadA (vs := [_, _, _, _, _]) rfl agg_83 (hI.seg 0 rfl) rfl rfl) ?_; clear hE a; intro a hE
 refine zl hE (f_loadA (vs := [_, _, _, _, _, _, _, _, _, _]) rfl agg_88 (hI.seg 1 rfl) rfl rfl) ?_; clear hE a; intro a hE
 refine l_step rfl (o_call hE rfl rfl rfl rfl ent_94 (Apply_spec (p := (newPg rc.page)) (rc := ({ rc with lsn := (newPg rc.page).lsn + 1 } : Rc)) hI ⟨_, rfl, he12, ho13⟩ ⟨_, _, rfl, hk3, hv4, (ho5.lsn (n := (newPg rc.page).lsn + 1) (by omega) (by omega))⟩) ?_)
 clear hI hE a
 rintro r w ⟨D74, hD75, hI, ⟨e76, rfl, he77, ho78⟩⟩ a hE
 obtain ⟨A79, c80, rfl, _⟩ := he77.slice
 refine l_step rfl (f_store (l := [_, _, _, _, _]) (ss' := _ :: _) 0 hE hI rfl rfl rfl rfl rfl sz_83 (by simp [Value.cells, Value.oneCell', pgCells, rcCells, zPg]) rfl rfl rfl ?_)
 clear hI w; intro w hI
 refine wnt ?_
 refine wsr ?_
 refine zm hE ?_; clear hE a; intro a hE
 refine zs hE (p_fieldAddr (m := 1) rfl fo_83_1 rfl) ?_; clear hE a; intro a hE
 refine l_step rfl (f_store (l := [_, _, _, _, _]) (ss' := _ :: _) 0 hE hI rfl rfl rfl rfl rfl sz_2 (by simp [Value.cells, Value.oneCell', pgCells, rcCells, zPg]) rfl rfl rfl ?_)
 clear hI w; intro w hI
 refine wnt ?_
 refine wp_seq ?_
 replace hI := hI.bring 2
 obtain ⟨sbz, spz, rfl, ⟨bbz, boz, esoz, clkoz, moz, vrz, srz, rfl, rfl, hmoz, hMoz, hOrz⟩, hPz, hpoolz⟩ := (hT.mono hD75)
 obtain ⟨Arz, crz, rfl, hcrz⟩ := hOrz.slice
 obtain ⟨bp, hbp⟩ := hPz.ptr
 subst hbp
 replace hI := hI.split4
 simp only [bring, List.eraseIdx_cons_succ, List.eraseIdx_cons_zero, List.eraseIdx_zero, List.getElem?_cons_succ, List.getElem?_cons_zero, List.tail_cons, insAt] at hI
 have hdo : ({ (applyP (newPg rc.page) ({ rc with lsn := (newPg rc.page).lsn + 1 } : Rc)) with lsn := (newPg rc.page).lsn } : Pg) = doPg (newPg rc.page) rc := by rw [doPg, if_neg (by omega)]
 refine d_start [7] [] (by kernel_rfl) hI rfl rfl ?_
 clear hI w; intro w hI
 refine dp 0 hE rfl (p_move rfl) (fun _ => hI) (listed' := #[true, false, false, false, false, false, false, false]) ?_; clear hE a; intro a hE
 refine dp 1 hE rfl (p_nilCheck rfl) (fun _ => hI) ?_; clear hE a; intro a hE
 refine dp 2 hE rfl (p_fieldAddr (m := 1) rfl fo_120_1 rfl) (fun _ => hI) ?_; clear hE a; intro a hE
 refine dl 3 hE rfl (fun w hS => f_load rfl scal_118 (Inv.seg 0 hS rfl) rfl) (hI) ?_; clear hE a; intro a hE
 refine dp 4 hE rfl (p_fieldAddr (m := 4) rfl fo_88_4 rfl) (fun _ => hI) ?_; clear hE a; intro a hE
 refine dl 5 hE rfl (fun w hS => f_load rfl scal_3 (Inv.seg 5 hS rfl) rfl) (hI) ?_; clear hE a; intro a hE
 refine dl 6 hE rfl (fun w hS => f_loadA (vs := [_, _, _, _, _]) rfl agg_83 (Inv.seg 4 hS rfl) rfl rfl) (hI) ?_; clear hE a; intro a hE
 refine do1 7 hE rfl ?_
 refine o_mapUpdate 1 hE hI rfl (.inl rfl) rfl rfl rfl ik_118 rfl hmoz ?_
 clear hI w; intro es_81 clk_81 w hm_81 hI
 refine ⟨nl, ?_⟩
 refine d_done (by kernel_rfl) ?_
 refine then_normal ?_
 refine wsr ?_
 refine zs hE (p_fieldAddr (m := 0) rfl fo_88_0 rfl) ?_; clear hE a; intro a hE
 refine l_step rfl (f_store (l := [_, _, _, _, _, _, _, _, _, _]) (ss' := _ :: _ :: _ :: _ :: _ :: _ :: _) 5 hE hI rfl rfl rfl rfl rfl sz_2 (by simp [Value.cells, Value.oneCell', pgCells, rcCells, zPg]) rfl rfl rfl ?_)
 clear hI w; intro w hI
 refine wnt ?_
 refine wp_seq ?_
 refine d_start [10] [2] (by kernel_rfl) hI rfl rfl ?_
 clear hI w; intro w hI
 refine dp 0 hE rfl (p_move rfl) (fun _ => (hI.dropS [2])) (listed' := #[true, false, false, false, false, false, false, false, false, false, false]) ?_; clear hE a; intro a hE
 refine dp 1 hE rfl (p_move rfl) (fun _ => (hI.dropS [2])) ?_; clear hE a; intro a hE
 refine dp 2 hE rfl (p_nilCheck rfl) (fun _ => (hI.dropS [2])) ?_; clear hE a; intro a hE
 refine dp 3 hE rfl (p_fieldAddr (m := 2) rfl fo_120_2 rfl) (fun _ => (hI.dropS [2])) ?_; clear hE a; intro a hE
 refine dl 4 hE rfl (fun w hS => f_load rfl scal_62 (Inv.seg 0 hS rfl) rfl) ((hI.dropS [2])) ?_; clear hE a; intro a hE
 refine dl 5 hE rfl (fun w hS => f_loadA (vs := [_, _, _, _, _, _, _, _, _, _]) rfl agg_88 (Inv.seg 4 hS rfl) rfl rfl) ((hI.dropS [2])) ?_; clear hE a; intro a hE
 refine do1 6 hE rfl ?_
 refine f_lit (vs := [(0, _)]) (l := [_, _, _, _, _, _, _, _, _, _]) hE hI rfl rfl rfl rfl Tryd.underlying62 zs_88 rfl rfl rfl ?_
 clear hI hE a w; intro a b82 w hE hI
 refine ⟨fun _ => (hI.dropS [3, 0]), ?_⟩
 refine do1 7 hE rfl ?_
 refine o_appendOR (R := RcR) (el := ({ rc with lsn := 0 } : Rc)) 3 0 hE hI rfl rfl rfl rfl rfl Tryd.underlying62 zsb_88 rfl rfl rfl hOrz rfl rfl (⟨_, _, rfl, (hk3.mono hD75), (hv4.mono hD75), ho5.lsn (n := 0) (by omega) (by omega)⟩) (by simp [Value.oneCell']) (by omega) (by omega) ?_
 clear hI hE a w; intro v83 s84 w hO85 hI a hE
 obtain ⟨A86, c87, rfl, _⟩ := hO85.slice
 replace hI := hI.erase 0
 try simp only [nrm, Value.cells] at hI
 refine ⟨fun _ => (hI.dropS [2]), ?_⟩
 refine dp 8 hE rfl (p_nilCheck rfl) (fun _ => (hI.dropS [2])) ?_; clear hE a; intro a hE
 refine dp 9 hE rfl (p_fieldAddr (m := 2) rfl fo_120_2 rfl) (fun _ => (hI.dropS [2])) ?_; clear hE a; intro a hE
 refine do1 10 hE rfl ?_
 refine f_store (l := [_, _, _]) (ss' := _ :: _) 0 hE hI rfl rfl rfl rfl rfl sz_62 (by simp [Value.cells, Value.oneCell', pgCells, rcCells, zPg]) rfl rfl rfl ?_
 clear hI w; intro w hI
 refine ⟨nl, ?_⟩
 refine d_done (by kernel_rfl) ?_
 refine then_normal ?_
 refine wsr ?_
 refine za hE ?_; clear hE a; intro a hE
 refine wnt ?_
 refine wp_ret ?_
 refine ret1 rfl hE rfl ?_
 replace hI := hI.erase 5
 replace hI := hI.erase 4
 replace hI := hI.bring 3
 replace hI := hI.bring 3
 replace hI := hI.bring 3
 replace hI := hI.bring 3
 exact .inl ⟨({ b with own := fun k => if k = rc.page then some (doPg (newPg rc.page) rc) else b.own k, recs := b.recs ++ [{ rc with lsn := 0 }] } : Bt), by rw [Bt.doR, if_pos hk1], rfl, _, _, hD75, ⟨_, _, rfl, ⟨bbz, boz, es_81, clk_81, _, _, s84, rfl, rfl, hm_81, (MapD.put (k := rc.page) hMoz (PgV.cast (q := ({ (applyP (newPg rc.page) ({ rc with lsn := (newPg rc.page).lsn + 1 } : Rc)) with lsn := (newPg rc.page).lsn } : Pg)) ⟨_, rfl, he77, ho78.lsn hpl0 hpl1⟩ hdo)), hO85⟩, (hPz.mono (Le.refl _)), hpoolz⟩, hI.perm (List.Perm.of_eq (by simp [bring]))⟩
theorem RClones_own {w0 w : World} {D : Sto} {ss : List Seg} {s : Seg} (hI : Inv w0 D (s :: ss) w) {vl : Value} {l : List Rc} (hO0 : OR 10 RcR D 88 vl l s) (hlen : l.length ≤ 1000000000) :
  Calls Tryd.prog 78 #[vl] w (Ret fun r w' => ∃ D', Le D D' ∧ Inv w0 D' (s :: ss) w' ∧ DR 10 RcR D' r l) := by
 obtain ⟨A0, c0, rfl, hc0⟩ := hO0.slice
 refine enter (N := 19) Tryd.func78 rfl rfl rfl ?_
 intro a hE
 refine wsr ?_
 refine za hE ?_; clear hE a; intro a hE
 refine wnt ?_
 refine wsr ?_
 refine za hE ?_; clear hE a; intro a hE
 refine wnt ?_
 refine wp_seq ?_
 refine wsr ?_
 refine zm hE ?_; clear hE a; intro a hE
 refine zs hE (p_len rfl rfl Tryd.underlying62) ?_; clear hE a; intro a hE
 refine zm hE ?_; clear hE a; intro a hE
 refine wnt ?_
 refine wp_block ?_
 replace hI := hI.nilseg
 refine c_loop (X := Sto × Nat × Value × Seg) (fun x => [(6, _), (7, _), (3, x.2.2.1), (8, .int .i64 (x.2.1 : Nat))]) (fun x w => x.2.1 ≤ l.length ∧ Le D x.1 ∧ OR 10 RcR x.1 88 x.2.2.1 (l.take x.2.1) x.2.2.2 ∧ Inv w0 x.1 (x.2.2.2 :: s :: ss) w) (fun x => l.length - x.2.1) (D, 0, .slice none 0 0, []) (hE.pick [6, 7, 3, 8]) ⟨Nat.zero_le _, Le.refl _, OR.nil _ _ _ _, hI⟩ ?_
 clear hE hI a w
 rintro ⟨D1, i, v, s1⟩ a w hE ⟨hi, hD1, hO, hI⟩
 try dsimp only at hE
 try dsimp only at hi
 try dsimp only at hD1
 try dsimp only at hO
 try dsimp only at hI
 obtain ⟨A1, c2, rfl, _⟩ := hO.slice
 refine wsr ?_
 refine l_step rfl (o_cmp hE rfl rfl rfl rfl rfl rfl ?_ ?_)
 ·intro hlt; replace hlt := lss_t hlt; clear hE a; intro a hE
  refine wnt ?_
  refine wp_seq ?_
  refine c_true hE rfl ?_
  refine wp_skip ?_
  refine then_normal ?_
  refine wp_seq ?_
  refine wp_block ?_
  refine wp_seq ?_
  have hne0 : i < l.length := by omega
  rcases A0 with _ | A0
  ·exfalso; have := hO0.none.1; rw [this] at hne0; simp at hne0
  obtain ⟨g0, cur0, rfl, _, rfl, _, _, _, hat0⟩ := hO0.some
  refine wp_region_list ?_
  obtain ⟨x_3, hx_3⟩ : ∃ y, (l)[i]? = some y := ⟨_, List.getElem?_eq_getElem (by omega)⟩
  obtain ⟨vs_3, hl_3, ⟨k_3, v_3, rfl, hk_3, hv_3, hok_3⟩, hex_3, hsz_3, hce_3⟩ := hat0.extract hx_3 (by omega)
  obtain ⟨A4, c5, rfl, _⟩ := hk_3.slice
  obtain ⟨A6, c7, rfl, _⟩ := hv_3.slice
  refine zs hE (p_indexAddr (m := 0 + i * 10) rfl rfl Tryd.underlying62 sz_88 (by omega) (by omega) (by simp)) ?_; clear hE a; intro a hE
  refine zl hE (r_loadA rfl agg_88 (hI.seg 1 rfl) hsz_3 hex_3) ?_; clear hE a; intro a hE
  refine l_step rfl (f_alloc (cs := #[.int .i64 0, .int .i64 0, .int .i64 0, .int .i64 0, .int .i64 0, .int .i64 0, .int .i64 0, .slice none 0 0, .slice none 0 0, .bool false]) hE hI rfl rfl rfl zer_88 rfl ?_)
  clear hI hE a w; intro a b8 w hE hI
  refine l_step rfl (f_store (l := [_, _, _, _, _, _, _, _, _, _]) (ss' := _ :: _) 0 hE hI rfl rfl rfl rfl rfl sz_88 (by simp [Value.cells, Value.oneCell', pgCells, rcCells, zPg]) rfl rfl rfl ?_)
  clear hI w; intro w hI
  refine wnt ?_
  refine wp_region_list ?_
  refine zm hE ?_; clear hE a; intro a hE
  refine zl hE (f_loadA (vs := [_, _, _, _, _, _, _, _, _, _]) rfl agg_88 (hI.seg 0 rfl) rfl rfl) ?_; clear hE a; intro a hE
  refine l_step rfl (o_call hE rfl rfl rfl rfl ent_114 (RClone_spec (rc := x_3) hI ⟨_, _, rfl, (hk_3.mono hD1), (hv_3.mono hD1), hok_3⟩) ?_)
  clear hI hE a
  rintro r w ⟨D9, hD10, hI, ⟨k11, v12, rfl, hk13, hv14, ho15⟩⟩ a hE
  obtain ⟨A16, c17, rfl, _⟩ := hk13.slice
  obtain ⟨A18, c19, rfl, _⟩ := hv14.slice
  refine l_step rfl (f_lit (vs := [(0, _)]) (l := [_, _, _, _, _, _, _, _, _, _]) hE hI rfl rfl rfl rfl Tryd.underlying62 zs_88 rfl rfl rfl ?_)
  clear hI hE a w; intro a b20 w hE hI
  refine l_step rfl (o_appendOR (R := RcR) (el := x_3) 2 0 hE hI rfl rfl rfl rfl rfl Tryd.underlying62 zsb_88 rfl rfl rfl (OR.mono RcR.keeps hO hD10) rfl rfl (⟨_, _, rfl, hk13, hv14, by assumption⟩) (by simp [Value.oneCell']) (by rw [List.length_take]; omega) (by rw [List.length_take]; omega) ?_)
  clear hI hE a w; intro v21 s22 w hO23 hI a hE
  obtain ⟨A24, c25, rfl, _⟩ := hO23.slice
  replace hI := hI.erase 0
  try simp only [nrm, Value.cells] at hI
  refine za hE ?_; clear hE a; intro a hE
  refine wpList_nil ?_
  refine blk_normal ?_
  refine then_normal ?_
  refine wp_region_list ?_
  refine zs hE (p_arith (z := ((i + 1 : Nat) : Int)) rfl rfl (add_z (by omega) (by omega) (by omega))) ?_; clear hE a; intro a hE
  refine zm hE ?_; clear hE a; intro a hE
  refine wnt ?_
  replace hI := hI.erase 0
  replace hI := hI.bring 1
  replace hI := hI.bring 1
  obtain ⟨hlt1, hge1⟩ := List.getElem?_eq_some_iff.1 hx_3
  exact ⟨(D9, i + 1, _, _), hE.pick [6, 7, 3, 8], ⟨by show i + 1 ≤ _; omega, (hD1.trans hD10), by show OR 10 RcR D9 88 _ (l.take (i + 1)) _; rw [List.take_succ_eq_append_getElem hlt1, hge1]; exact hO23, hI⟩, by show l.length - (i + 1) < l.length - i; omega⟩
 intro hlt; replace hlt := lss_f hlt; clear hE a; intro a hE
 refine wnt ?_
 refine wp_seq ?_
 refine c_false hE rfl ?_
 refine wp_exit ?_
 refine then_exit ?_
 refine then_exit ?_
 refine blk_same ?_
 refine then_normal ?_
 refine wsr ?_
 refine zm hE ?_; clear hE a; intro a hE
 refine za hE ?_; clear hE a; intro a hE
 refine wnt ?_
 refine wp_ret ?_
 refine ret1 rfl hE rfl ?_
 replace hI := hI.bring 1
 replace hI := hI.bring 1
 have htk : l.take i = l := List.take_of_length_le (by omega)
 simp only [htk] at hO ⊢
 obtain ⟨hIz, hDz⟩ := hI.shut_at 0 rfl
 exact ⟨_, hD1.trans hDz, hIz, hO.shut RcR.keeps hDz⟩
theorem Redo_spec {w0 w : World} {D : Sto} {ss : List Seg} {s : Seg} {vb vp : Value} {b : Bt} {P : Pl} (hI : Inv w0 D (s :: ss) w) {ad : Nat → Addr} (hS : TSents D ad) (hT : TreeS D vb vp b P s) (hlen : b.recs.length ≤ 1000000000) :
  Calls Tryd.prog 37 #[vb] w (Ret fun r w' => ∃ D', Le D D' ∧ Inv w0 D' (s :: ss) w' ∧ DR 10 RcR D' r b.recs ∧ TreeS D' vb vp b P s) := by
 obtain ⟨sb, sp, rfl, ⟨bb, bo, eso, clko, mo, vr, sr, rfl, rfl, hmo, hMo, hOr⟩, hP, hpool⟩ := hT
 obtain ⟨Ar, cr, rfl, hcr⟩ := hOr.slice
 obtain ⟨bp, hbp⟩ := hP.ptr
 subst hbp
 replace hI : Inv w0 D ([(bb, .cells #[.pointer (some ⟨bp, 0, none⟩), .map (some bo), .slice Ar b.recs.length cr] 120 (0, 0))] :: [(bo, .map eso clko)] :: sr :: sp :: ss) w := hI.perm (List.Perm.of_eq (by simp))
 refine enter (N := 8) Tryd.func37 rfl rfl rfl ?_
 intro a hE
 refine wsr ?_
 refine za hE ?_; clear hE a; intro a hE
 refine wnt ?_
 refine wsr ?_
 refine zm hE ?_; clear hE a; intro a hE
 refine zs hE (p_nilCheck rfl) ?_; clear hE a; intro a hE
 refine zs hE (p_fieldAddr (m := 2) rfl fo_120_2 rfl) ?_; clear hE a; intro a hE
 refine zl hE (f_load rfl scal_62 (hI.seg 0 rfl) rfl) ?_; clear hE a; intro a hE
 refine l_step rfl (o_call hE rfl rfl rfl rfl ent_78 (RClones_own (hI.bring 2) hOr hlen) ?_)
 clear hI hE a
 rintro r w ⟨D1, hD2, hI, hL3⟩ a hE
 replace hI := hI.put_back 2
 try simp only [nrm, Value.cells] at hI
 refine za hE ?_; clear hE a; intro a hE
 refine wnt ?_
 refine wp_ret ?_
 refine ret1 rfl hE rfl ?_
 replace hI := hI.bring 3
 replace hI := hI.bring 3
 replace hI := hI.bring 3
 replace hI := hI.bring 3
 exact ⟨_, hD2, hI.perm (List.Perm.of_eq (by simp [bring])), hL3, ⟨_, _, rfl, ⟨bb, bo, eso, clko, _, _, sr, rfl, rfl, hmo, (hMo.mono hD2), (hOr.mono RcR.keeps hD2)⟩, (hP.mono hD2), hpool⟩⟩
theorem MapD.val {D : Sto} {m : List (Int × Value)} {f : Int → Option Pg} (h : MapD D m f) {k : Int} {v : Value} (hg : getM m k = Option.some v) : ∃ p e, v = .agg (pgCells p e).toArray ∧ EnD D e p.ents ∧ POk p := by
 cases hf : f k with
 | none => have := h.none hf; rw [hg] at this; cases this
 | some p =>
  obtain ⟨e, h1, h2, h3⟩ := h.some hf
  rw [hg] at h1; injection h1 with h1
  exact ⟨p, e, h1, h2, h3⟩
theorem OR.cutn {α : Type} {size : Nat} {R : Sto → List Value → α → Prop} {A : Option Addr} {n c T : Nat} {D : Sto} {xs : List α} {s : Seg} (h : OR size R D T (.slice A n c) xs s) : (if c = 0 then A else A.map (·.add (0 * size))) = A := by
 split
 ·rfl
 rcases h with ⟨h1, h2, h3⟩ | ⟨g, cap, cur, h1, h2, h3, h4, h5, h6⟩
 ·injection h1 with h1 _ _; subst h1; rfl
 injection h1 with h1 _ _; subst h1; simp [addr_add]
theorem save_spec {w0 w : World} {D : Sto} {ss : List Seg} {s : Seg} {vb vp : Value} {b : Bt} {P : Pl} (hI : Inv w0 D (s :: ss) w) {ad : Nat → Addr} (hS : TSents D ad) (hT : TreeS D vb vp b P s) :
  Calls Tryd.prog 74 #[vb] w (Ret fun r w' => ∃ s2, SaveS D r vb b s2 ∧ Inv w0 D (s2 :: s :: ss) w' ∧ TreeS D vb vp b P s) := by
 obtain ⟨sb, sp, rfl, ⟨bb, bo, eso, clko, mo, vr, sr, rfl, rfl, hmo, hMo, hOr⟩, hP, hpool⟩ := hT
 obtain ⟨Ar, cr, rfl, hcr⟩ := hOr.slice
 obtain ⟨bp, hbp⟩ := hP.ptr
 subst hbp
 replace hI : Inv w0 D ([(bb, .cells #[.pointer (some ⟨bp, 0, none⟩), .map (some bo), .slice Ar b.recs.length cr] 120 (0, 0))] :: [(bo, .map eso clko)] :: sr :: sp :: ss) w := hI.perm (List.Perm.of_eq (by simp))
 refine enter (N := 27) Tryd.func74 rfl rfl rfl ?_
 intro a hE
 refine wsr ?_
 refine l_step rfl (f_box (cs := #[_]) hE hI rfl rfl rfl rfl rfl ?_)
 clear hI hE a w; intro a b1 w hE hI
 refine za hE ?_; clear hE a; intro a hE
 refine wnt ?_
 refine wsr ?_
 refine l_step rfl (f_makeMap hE hI rfl rfl rfl ?_)
 clear hI hE a w; intro a b2 w hE hI
 refine l_step rfl (f_alloc (cs := #[.map none]) hE hI rfl rfl rfl zer_118 rfl ?_)
 clear hI hE a w; intro a b3 w hE hI
 refine l_step rfl (f_store (l := [_]) (ss' := _ :: _) 0 hE hI rfl rfl rfl rfl rfl sz_118 (by simp [Value.cells, Value.oneCell', pgCells, rcCells, zPg]) rfl rfl rfl ?_)
 clear hI w; intro w hI
 refine wnt ?_
 refine wp_seq ?_
 refine wsr ?_
 refine zl hE (f_load rfl scal_55 (hI.seg 2 rfl) rfl) ?_; clear hE a; intro a hE
 refine zs hE (p_nilCheck rfl) ?_; clear hE a; intro a hE
 refine zs hE (p_fieldAddr (m := 1) rfl fo_120_1 rfl) ?_; clear hE a; intro a hE
 refine zl hE (f_load rfl scal_118 (hI.seg 3 rfl) rfl) ?_; clear hE a; intro a hE
 refine l_step rfl (f_range 4 hE hI rfl rfl rfl rfl Tryd.underlying118 rfl ?_)
 clear hI hE a w; intro a r4 w hE hI
 refine wnt ?_
 refine wp_block ?_
 refine c_loop (X := Array MapEntry × Nat × List (Int × Value) × Array Nat × List (Int × Value)) (fun x => [(1, _), (3, _), (12, _)]) (fun x w => IntMap x.1 x.2.1 x.2.2.1 ∧ Vis eso x.2.2.2.1 mo x.2.2.2.2 ∧ Copied mo x.2.2.2.2 x.2.2.1 ∧ Inv w0 D ([(r4, .mapIter (some bo) clko x.2.2.2.1 clko)] :: [(b3, .cells #[.map (some b2)] 118 (0, 0))] :: [(b2, .map x.1 x.2.1)] :: [(b1, .cells #[.pointer (some ⟨bb, 0, none⟩)] 55 (0, 0))] :: [(bb, .cells #[.pointer (some ⟨bp, 0, none⟩), .map (some bo), .slice Ar b.recs.length cr] 120 (0, 0))] :: [(bo, .map eso clko)] :: sr :: sp :: ss) w) (fun x => mo.length - x.2.2.2.2.length) (#[], 0, [], #[], []) (hE.pick [1, 3, 12]) ⟨IntMap.empty, Vis.start _ _, Copied.start _, hI⟩ ?_
 clear hE hI a w
 rintro ⟨esn, clkn, mn, seen, vis⟩ a w hE ⟨hmn, hv, hcp, hI⟩
 try dsimp only at hE
 try dsimp only at hmn
 try dsimp only at hv
 try dsimp only at hcp
 try dsimp only at hI
 refine wsr ?_
 refine l_step rfl (o_next 5 0 hE hI rfl rfl rfl rfl rfl rfl hmo hv ?_ ?_)
 ·clear hE a; intro hall a hE
  refine zx hE ?_; clear hE a; intro a hE
  refine wnt ?_
  refine wp_seq ?_
  refine c_false hE rfl ?_
  refine wp_exit ?_
  refine then_exit ?_
  refine then_exit ?_
  refine blk_same ?_
  refine then_normal ?_
  refine wsr ?_
  refine zl hE (f_load rfl scal_55 (hI.seg 3 rfl) rfl) ?_; clear hE a; intro a hE
  refine zs hE (p_nilCheck rfl) ?_; clear hE a; intro a hE
  refine zs hE (p_fieldAddr (m := 2) rfl fo_120_2 rfl) ?_; clear hE a; intro a hE
  refine zl hE (f_load rfl scal_62 (hI.seg 4 rfl) rfl) ?_; clear hE a; intro a hE
  refine zs hE (p_len rfl rfl Tryd.underlying62) ?_; clear hE a; intro a hE
  refine l_step rfl (f_alloc (cs := #[.int .i64 0]) hE hI rfl rfl rfl zer_3 rfl ?_)
  clear hI hE a w; intro a b5 w hE hI
  refine l_step rfl (f_store (l := [_]) (ss' := _ :: _) 0 hE hI rfl rfl rfl rfl rfl sz_3 (by simp [Value.cells, Value.oneCell', pgCells, rcCells, zPg]) rfl rfl rfl ?_)
  clear hI w; intro w hI
  refine wnt ?_
  refine wsr ?_
  refine zs hE (p_func (vs := #[]) (us := #[.pointer (some ⟨b3, 0, none⟩), .pointer (some ⟨b1, 0, none⟩), .pointer (some ⟨b5, 0, none⟩)]) rfl rfl) ?_; clear hE a; intro a hE
  refine za hE ?_; clear hE a; intro a hE
  refine wnt ?_
  refine wp_ret ?_
  refine ret1 rfl hE rfl ?_
  replace hI := hI.erase 1
  replace hI := hI.bring 7
  replace hI := hI.bring 7
  replace hI := hI.bring 7
  replace hI := hI.bring 7
  replace hI := hI.bring 6
  replace hI := hI.bring 5
  replace hI := hI.bring 7
  replace hI := hI.bring 7
  exact ⟨[(b3, .cells #[.map (some b2)] 118 (0, 0)), (b1, .cells #[.pointer (some ⟨bb, 0, none⟩)] 55 (0, 0)), (b5, .cells #[.int .i64 (b.recs.length : Nat)] 3 (0, 0)), (b2, .map esn clkn)], ⟨_, _, _, _, _, _, _, rfl, rfl, hmn, hcp.done hmo.nd hv.sub hall hMo⟩, hI.perm (List.Perm.of_eq (by simp [bring])), ⟨_, _, rfl, ⟨bb, bo, eso, clko, _, _, sr, rfl, rfl, hmo, hMo, hOr⟩, hP, hpool⟩⟩
 clear hE hI a w; rintro ⟨pk, pv⟩ hpm hpn seen2 w hv2 hlast hI a hE
 obtain ⟨pg, pe, rfl, hpe, hpo⟩ := hMo.val (getM_of_mem hmo.nd hpm)
 refine zx hE ?_; clear hE a; intro a hE
 refine wnt ?_
 refine wp_seq ?_
 refine c_true hE rfl ?_
 refine wp_skip ?_
 refine then_normal ?_
 refine wp_block ?_
 refine wsr ?_
 obtain ⟨A6, c7, rfl, _⟩ := hpe.slice
 refine zl hE (r_entry rfl (hI.seg 5 rfl) (hI.seg 0 rfl) hmo hlast) ?_; clear hE a; intro a hE
 refine zx hE ?_; clear hE a; intro a hE
 refine zx hE ?_; clear hE a; intro a hE
 refine l_step rfl (f_alloc (cs := #[.int .i64 0, .int .i64 0, .int .i64 0, .int .i64 0, .slice none 0 0]) hE hI rfl rfl rfl zer_83 rfl ?_)
 clear hI hE a w; intro a b8 w hE hI
 refine za hE ?_; clear hE a; intro a hE
 refine l_step rfl (f_store (l := [_, _, _, _, _]) (ss' := _ :: _) 0 hE hI rfl rfl rfl rfl rfl sz_83 (by simp [Value.cells, Value.oneCell', pgCells, rcCells, zPg]) rfl rfl rfl ?_)
 clear hI w; intro w hI
 refine wnt ?_
 refine wp_region_list ?_
 refine zl hE (f_load rfl scal_118 (hI.seg 2 rfl) rfl) ?_; clear hE a; intro a hE
 refine zm hE ?_; clear hE a; intro a hE
 refine zl hE (f_loadA (vs := [_, _, _, _, _]) rfl agg_83 (hI.seg 0 rfl) rfl rfl) ?_; clear hE a; intro a hE
 refine l_step rfl (o_mapUpdate 3 hE hI rfl (.inl rfl) rfl rfl rfl ik_118 rfl hmn ?_)
 clear hI w; intro es_9 clk_9 w hm_9 hI
 refine wpList_nil ?_
 refine blk_normal ?_
 refine then_normal ?_
 replace hI := hI.erase 0
 exact ⟨(es_9, clk_9, _, seen2, (pk, _) :: vis), hE.pick [1, 3, 12], ⟨hm_9, hv2, hcp.step hmo.nd hv.sub hpm, hI⟩, by have := hv2.len; simp only [List.length_cons] at this; show mo.length - (vis.length + 1) < mo.length - vis.length; omega⟩
theorem back_spec {w0 w : World} {D : Sto} {ss : List Seg} {s s2 : Seg} {vf vb vp : Value} {us : Array Value} {b b1_ : Bt} {P : Pl} (hI : Inv w0 D (s2 :: s :: ss) w) (hvf : vf = .func (.func 107) #[] us) (hV : SaveS D vf vb b s2) (hT : TreeS D vb vp b1_ P s) (hx : Ext b b1_) :
  Calls Tryd.prog 107 us w (Ret fun r w' => ∃ s', TreeS D vb vp b P s' ∧ Inv w0 D (s' :: ss) w' ∧ r = .tuple #[]) := by
 obtain ⟨b3, b1, b6, bn, esn, clkn, mn, hvf2, rfl, hmn, hMn⟩ := hV
 rw [hvf] at hvf2
 injection hvf2 with _ _ hus
 subst hus
 replace hI : Inv w0 D ([(b3, .cells #[.map (some bn)] 118 (0, 0))] :: [(b1, .cells #[vb] 55 (0, 0))] :: [(b6, .cells #[.int .i64 (b.recs.length : Nat)] 3 (0, 0))] :: [(bn, .map esn clkn)] :: s :: ss) w := hI.perm (List.Perm.refl _)
 obtain ⟨sb, sp, rfl, ⟨bb, bo, eso, clko, mo, vr, sr, rfl, rfl, hmo, hMo, hOr⟩, hP, hpool⟩ := hT
 obtain ⟨Ar, cr, rfl, hcr⟩ := hOr.slice
 obtain ⟨bp, hbp⟩ := hP.ptr
 subst hbp
 obtain ⟨hxp, lx, hxl⟩ := hx
 have hln : b.recs.length ≤ b1_.recs.length := by rw [hxl]; simp
 have hxr : b1_.recs.take b.recs.length = b.recs := by rw [hxl]; simp
 replace hI : Inv w0 D ([(b3, .cells #[.map (some bn)] 118 (0, 0))] :: [(b1, .cells #[.pointer (some ⟨bb, 0, none⟩)] 55 (0, 0))] :: [(b6, .cells #[.int .i64 (b.recs.length : Nat)] 3 (0, 0))] :: [(bn, .map esn clkn)] :: [(bb, .cells #[.pointer (some ⟨bp, 0, none⟩), .map (some bo), .slice Ar b1_.recs.length cr] 120 (0, 0))] :: [(bo, .map eso clko)] :: sr :: sp :: ss) w := hI.perm (List.Perm.of_eq (by simp))
 refine enter (N := 16) Tryd.func107 rfl rfl rfl ?_
 intro a hE
 refine d_start [] [4] (by kernel_rfl) hI rfl rfl ?_
 clear hI w; intro w hI
 refine dl 0 hE rfl (fun w hS => f_load rfl scal_55 (Inv.seg 1 hS rfl) rfl) ((hI.dropS [4])) (listed' := #[true, false, false, false, false, false, false, false, false, false, false, false, false, false, false]) ?_; clear hE a; intro a hE
 refine dl 1 hE rfl (fun w hS => f_load rfl scal_55 (Inv.seg 1 hS rfl) rfl) ((hI.dropS [4])) ?_; clear hE a; intro a hE
 refine dl 2 hE rfl (fun w hS => f_load rfl scal_118 (Inv.seg 0 hS rfl) rfl) ((hI.dropS [4])) ?_; clear hE a; intro a hE
 refine dl 3 hE rfl (fun w hS => f_load rfl scal_55 (Inv.seg 1 hS rfl) rfl) ((hI.dropS [4])) ?_; clear hE a; intro a hE
 refine dp 4 hE rfl (p_nilCheck rfl) (fun _ => (hI.dropS [4])) ?_; clear hE a; intro a hE
 refine dp 5 hE rfl (p_fieldAddr (m := 2) rfl fo_120_2 rfl) (fun _ => (hI.dropS [4])) ?_; clear hE a; intro a hE
 refine dl 7 hE rfl (fun w hS => f_load rfl scal_3 (Inv.seg 2 hS rfl) rfl) ((hI.dropS [4])) ?_; clear hE a; intro a hE
 refine do1 6 hE rfl ?_
 refine o_pure hE rfl rfl (f_load rfl scal_62 (hI.seg 4 rfl) rfl) ?_; clear hE a; intro a hE
 refine ⟨fun _ => (hI.dropS [4]), ?_⟩
 refine dp 8 hE rfl (p_sliceB (l := 0) (h := b.recs.length) (B := Ar) rfl Tryd.underlying62 sz_88 rfl (lo_at rfl (by omega) (by omega)) (by omega) (by omega) hOr.cutn) (fun _ => (hI.dropS [4])) ?_; clear hE a; intro a hE
 refine dp 9 hE rfl (p_nilCheck rfl) (fun _ => (hI.dropS [4])) ?_; clear hE a; intro a hE
 refine dp 10 hE rfl (p_fieldAddr (m := 1) rfl fo_120_1 rfl) (fun _ => (hI.dropS [4])) ?_; clear hE a; intro a hE
 refine do1 11 hE rfl ?_
 refine f_store (l := [_, _, _]) (ss' := _ :: _ :: _ :: _ :: _ :: _) 4 hE hI rfl rfl rfl rfl rfl sz_118 (by simp [Value.cells, Value.oneCell', pgCells, rcCells, zPg]) rfl rfl rfl ?_
 clear hI w; intro w hI
 refine ⟨fun _ => (hI.dropS [4]), ?_⟩
 refine dp 12 hE rfl (p_nilCheck rfl) (fun _ => (hI.dropS [4])) ?_; clear hE a; intro a hE
 refine dp 13 hE rfl (p_fieldAddr (m := 2) rfl fo_120_2 rfl) (fun _ => (hI.dropS [4])) ?_; clear hE a; intro a hE
 refine do1 14 hE rfl ?_
 refine f_store (l := [_, _, _]) (ss' := _ :: _ :: _ :: _ :: _ :: _) 4 hE hI rfl rfl rfl rfl rfl sz_62 (by simp [Value.cells, Value.oneCell', pgCells, rcCells, zPg]) rfl rfl rfl ?_
 clear hI w; intro w hI
 refine ⟨fun _ => (hI.dropS [4]), ?_⟩
 refine d_done (by kernel_rfl) ?_
 refine ret0 rfl hE ?_
 replace hI := hI.erase 5
 replace hI := hI.erase 2
 replace hI := hI.erase 1
 replace hI := hI.erase 0
 replace hI := hI.bring 3
 replace hI := hI.bring 3
 replace hI := hI.bring 2
 replace hI := hI.bring 3
 exact ⟨_, ⟨_, _, rfl, ⟨bb, bn, esn, clkn, mn, _, sr, rfl, rfl, hmn, hMn, hxr ▸ hOr.take (m := b.recs.length) rfl hln⟩, hP, by rw [← hxp]; exact hpool⟩, hI.perm (List.Perm.of_eq (by simp [bring])), rfl⟩
end Go.Proofs.YtbogbnkckofpdaaDoor.B
