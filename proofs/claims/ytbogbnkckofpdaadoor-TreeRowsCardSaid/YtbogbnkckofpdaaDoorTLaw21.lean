/- What functions of the program compute, each function once: steps over the model, and the plain law of it. -/
import Derived.Test.YtbogbnkckofpdaaDoorTTree6
namespace Go.Proofs.YtbogbnkckofpdaaDoor.B
open Go Go.Proofs
set_option linter.unusedVariables false
set_option linter.unusedSimpArgs false
set_option maxRecDepth 20000
set_option maxHeartbeats 8000000
namespace FTLaw21
theorem agg_88 : aggSize Tryd.prog 88 = some 10 := by kernel_rfl
theorem built_88 : ∀ vs, Tryd.prog.built 88 vs = Instr.fill (([(0, 1), (1, 1), (2, 1), (3, 1), (4, 1), (5, 1), (6, 1), (7, 1), (8, 1), (9, 1)] : List (Nat × Nat)).toArray[·]?) ([.int .i64 0, .int .i64 0, .int .i64 0, .int .i64 0, .int .i64 0, .int .i64 0, .int .i64 0, .slice none 0 0, .slice none 0 0, .bool false] : List Value).toArray vs := fun _ => by kernel_rfl
theorem ent_111 : enters Tryd.prog 111 = true := by kernel_rfl
theorem ent_112 : enters Tryd.prog 112 = true := by kernel_rfl
theorem ent_113 : enters Tryd.prog 113 = true := by kernel_rfl
theorem ent_19 : enters Tryd.prog 19 = true := by kernel_rfl
theorem ent_27 : enters Tryd.prog 27 = true := by kernel_rfl
theorem ent_47 : enters Tryd.prog 47 = true := by kernel_rfl
theorem ent_54 : enters Tryd.prog 54 = true := by kernel_rfl
theorem ent_76 : enters Tryd.prog 76 = true := by kernel_rfl
theorem ent_77 : enters Tryd.prog 77 = true := by kernel_rfl
theorem ent_95 : enters Tryd.prog 95 = true := by kernel_rfl
theorem ent_96 : enters Tryd.prog 96 = true := by kernel_rfl
theorem fo_88_0 : fieldOff Tryd.prog 88 0 = some 0 := by kernel_rfl
theorem fo_88_1 : fieldOff Tryd.prog 88 1 = some 1 := by kernel_rfl
theorem fo_88_2 : fieldOff Tryd.prog 88 2 = some 2 := by kernel_rfl
theorem fo_88_3 : fieldOff Tryd.prog 88 3 = some 3 := by kernel_rfl
theorem fo_88_4 : fieldOff Tryd.prog 88 4 = some 4 := by kernel_rfl
theorem fo_88_5 : fieldOff Tryd.prog 88 5 = some 5 := by kernel_rfl
theorem fo_88_6 : fieldOff Tryd.prog 88 6 = some 6 := by kernel_rfl
theorem fo_88_7 : fieldOff Tryd.prog 88 7 = some 7 := by kernel_rfl
theorem fo_88_8 : fieldOff Tryd.prog 88 8 = some 8 := by kernel_rfl
theorem fo_88_9 : fieldOff Tryd.prog 88 9 = some 9 := by kernel_rfl
theorem scal_2 : isScal Tryd.prog 2 = true := by kernel_rfl
theorem scal_22 : isScal Tryd.prog 22 = true := by kernel_rfl
theorem scal_3 : isScal Tryd.prog 3 = true := by kernel_rfl
theorem scal_4 : isScal Tryd.prog 4 = true := by kernel_rfl
theorem sz_2 : (Tryd.prog.info? 2).map (·.size) = some 1 := by kernel_rfl
theorem sz_88 : (Tryd.prog.info? 88).map (·.size) = some 10 := by kernel_rfl
theorem zer_88 : (Tryd.prog.info? 88).bind (·.zero) = some (.agg #[.int .i64 0, .int .i64 0, .int .i64 0, .int .i64 0, .int .i64 0, .int .i64 0, .int .i64 0, .slice none 0 0, .slice none 0 0, .bool false]) := by kernel_rfl
theorem zs_88 : (Tryd.prog.info? 88).map (fun i => (i.zero, i.size)) = some (some (.agg #[.int .i64 0, .int .i64 0, .int .i64 0, .int .i64 0, .int .i64 0, .int .i64 0, .int .i64 0, .slice none 0 0, .slice none 0 0, .bool false]), 10) := by kernel_rfl
end FTLaw21
open FTLaw21
theorem refBytes_data {w0 w : World} {D : Sto} {ss : List Seg} (hI : Inv w0 D ss w) {vb : Value} {bs : List Nat} (hb : RB D vb bs) (hm : bs.length ≤ 140737488355000) :
  Calls Tryd.prog 27 #[vb] w (Ret fun r w' => ∃ D', Le D D' ∧ Inv w0 D' ss w' ∧ RB D' r bs) :=
 (refBytes_spec hI hb hm).mono fun _ _ h => h.imp fun _ _ h => OB.data h hb.lt
/-- What the document's own test says of a record. -/
theorem laidP_at {P : Pl} {l : List Rc} {i : Nat} {m : Int} {x : Rc} (hx : l[i]? = some x) : laidP P (l.drop i) m = if validR { x with lsn := m } = false then none else match P.apply { x with lsn := m } with
  | none => none
  | some P => laidP P (l.drop (i + 1)) (m + 1) := by
 obtain ⟨h1, h2⟩ := List.getElem?_eq_some_iff.1 hx
 rw [List.drop_eq_getElem_cons h1, h2, laidP]
 split
 ·rfl
 cases P.apply { x with lsn := m } <;> rfl
def E0 : Pl := ((laidP Pl.empty makeR 1).getD (Pl.empty, 0)).1
theorem E0_laid : laidP Pl.empty makeR 1 = some (E0, 4) := by
 have h : (laidP Pl.empty makeR 1).map (·.2) = some 4 := by decide +kernel
 obtain ⟨⟨P, n⟩, h1, h2⟩ := Option.map_eq_some_iff.1 h
 have h3 : n = 4 := h2
 subst h3
 rw [E0, h1]; rfl
def firstB : Bool := match (newBt E0).put [1] [2] with
 | .fail _ _ => false
 | .ok b => match b.get [1] with
  | .ok (some v) => v == [2]
  | _ => false
theorem firstB_true : firstB = true := by decide +kernel
theorem first_put : ∃ b, (newBt E0).put [1] [2] = .ok b ∧ b.get [1] = .ok (some [2]) := by
 have h := firstB_true
 rw [firstB] at h
 split at h
 ·cases h
 rename_i b hb
 refine ⟨b, hb, ?_⟩
 split at h
 ·rename_i v hv
  have : v = [2] := by simpa using h
  rw [hv, this]
 cases h
theorem refRedo_spec {w0 w : World} {D : Sto} {ss : List Seg} (hI : Inv w0 D ss w) {vr : Value} {rc : Rc} (hr : RcV D vr rc) :
  Calls Tryd.prog 76 #[vr] w (Ret fun r w' => ∃ D', Le D D' ∧ Inv w0 D' ss w' ∧ RcV D' r rc) := by
 obtain ⟨k1, v2, rfl, hk3, hv4, ho5⟩ := hr
 obtain ⟨A6, c7, rfl, _⟩ := hk3.slice
 obtain ⟨A8, c9, rfl, _⟩ := hv4.slice
 refine enter (N := 26) Tryd.func76 rfl rfl rfl ?_
 intro a hE
 refine wsr ?_
 refine l_step rfl (f_box (cs := #[_, _, _, _, _, _, _, _, _, _]) hE hI rfl rfl rfl rfl rfl ?_)
 clear hI hE a w; intro a b10 w hE hI
 refine l_step rfl (f_alloc (cs := #[.int .i64 0, .int .i64 0, .int .i64 0, .int .i64 0, .int .i64 0, .int .i64 0, .int .i64 0, .slice none 0 0, .slice none 0 0, .bool false]) hE hI rfl rfl rfl zer_88 rfl ?_)
 clear hI hE a w; intro a b11 w hE hI
 refine wnt ?_
 refine wp_seq ?_
 refine d_start [23] [] (by kernel_rfl) hI rfl rfl ?_
 clear hI w; intro w hI
 refine dp 0 hE rfl (p_fieldAddr (m := 0) rfl fo_88_0 rfl) (fun _ => hI) (listed' := #[true, false, false, false, false, false, false, false, false, false, false, false, false, false, false, false, false, false, false, false, false, false, false, false]) ?_; clear hE a; intro a hE
 refine dl 1 hE rfl (fun w hS => f_load rfl scal_2 (Inv.seg 1 hS rfl) rfl) (hI) ?_; clear hE a; intro a hE
 refine dp 2 hE rfl (p_fieldAddr (m := 1) rfl fo_88_1 rfl) (fun _ => hI) ?_; clear hE a; intro a hE
 refine dl 3 hE rfl (fun w hS => f_load rfl scal_2 (Inv.seg 1 hS rfl) rfl) (hI) ?_; clear hE a; intro a hE
 refine dp 4 hE rfl (p_fieldAddr (m := 2) rfl fo_88_2 rfl) (fun _ => hI) ?_; clear hE a; intro a hE
 refine dl 5 hE rfl (fun w hS => f_load rfl scal_3 (Inv.seg 1 hS rfl) rfl) (hI) ?_; clear hE a; intro a hE
 refine dp 6 hE rfl (p_fieldAddr (m := 3) rfl fo_88_3 rfl) (fun _ => hI) ?_; clear hE a; intro a hE
 refine dl 7 hE rfl (fun w hS => f_load rfl scal_3 (Inv.seg 1 hS rfl) rfl) (hI) ?_; clear hE a; intro a hE
 refine dp 8 hE rfl (p_fieldAddr (m := 4) rfl fo_88_4 rfl) (fun _ => hI) ?_; clear hE a; intro a hE
 refine dl 9 hE rfl (fun w hS => f_load rfl scal_3 (Inv.seg 1 hS rfl) rfl) (hI) ?_; clear hE a; intro a hE
 refine dp 10 hE rfl (p_fieldAddr (m := 5) rfl fo_88_5 rfl) (fun _ => hI) ?_; clear hE a; intro a hE
 refine dl 11 hE rfl (fun w hS => f_load rfl scal_3 (Inv.seg 1 hS rfl) rfl) (hI) ?_; clear hE a; intro a hE
 refine dp 12 hE rfl (p_fieldAddr (m := 6) rfl fo_88_6 rfl) (fun _ => hI) ?_; clear hE a; intro a hE
 refine dl 13 hE rfl (fun w hS => f_load rfl scal_3 (Inv.seg 1 hS rfl) rfl) (hI) ?_; clear hE a; intro a hE
 refine dp 14 hE rfl (p_fieldAddr (m := 7) rfl fo_88_7 rfl) (fun _ => hI) ?_; clear hE a; intro a hE
 refine dl 15 hE rfl (fun w hS => f_load rfl scal_22 (Inv.seg 1 hS rfl) rfl) (hI) ?_; clear hE a; intro a hE
 refine dp 17 hE rfl (p_fieldAddr (m := 8) rfl fo_88_8 rfl) (fun _ => hI) ?_; clear hE a; intro a hE
 refine dl 18 hE rfl (fun w hS => f_load rfl scal_22 (Inv.seg 1 hS rfl) rfl) (hI) ?_; clear hE a; intro a hE
 refine dp 20 hE rfl (p_fieldAddr (m := 9) rfl fo_88_9 rfl) (fun _ => hI) ?_; clear hE a; intro a hE
 refine dl 21 hE rfl (fun w hS => f_load rfl scal_4 (Inv.seg 1 hS rfl) rfl) (hI) ?_; clear hE a; intro a hE
 refine do1 16 hE rfl ?_
 refine o_call hE rfl rfl rfl rfl ent_27 (refBytes_data (bs := rc.key) hI hk3 (by have := ho5.k; have := ho5.v; omega)) ?_
 clear hI hE a
 rintro r w ⟨D12, hD13, hI, hb14⟩ a hE
 obtain ⟨A15, c16, rfl, _⟩ := hb14.slice
 refine ⟨fun _ => (Inv.weaken hI hD13), ?_⟩
 refine do1 19 hE rfl ?_
 refine o_call hE rfl rfl rfl rfl ent_27 (refBytes_data (bs := rc.val) hI (hv4.mono hD13) (by have := ho5.k; have := ho5.v; omega)) ?_
 clear hI hE a
 rintro r w ⟨D17, hD18, hI, hb19⟩ a hE
 obtain ⟨A20, c21, rfl, _⟩ := hb19.slice
 refine ⟨fun _ => (Inv.weaken hI (hD13.trans hD18)), ?_⟩
 refine dp 22 hE rfl (f_build (vs := [(0, _), (1, _), (2, _), (3, _), (4, _), (5, _), (6, _), (7, _), (8, _), (9, _)]) (l := [_, _, _, _, _, _, _, _, _, _]) rfl built_88 rfl) (fun _ => (Inv.weaken hI (hD13.trans hD18))) ?_; clear hE a; intro a hE
 refine do1 23 hE rfl ?_
 refine f_store (l := [_, _, _, _, _, _, _, _, _, _]) (ss' := _ :: _) 0 hE hI rfl rfl rfl rfl rfl sz_88 (by simp [Value.cells, Value.oneCell', pgCells, rcCells, zPg]) rfl rfl rfl ?_
 clear hI w; intro w hI
 refine ⟨nl, ?_⟩
 refine d_done (by kernel_rfl) ?_
 refine then_normal ?_
 refine wp_ret ?_
 refine retc1 rfl hE rfl agg_88 (hI.seg 0 rfl) rfl ?_
 exact ⟨_, (hD13.trans hD18), hI.drop.drop, ⟨_, _, rfl, (hb14.mono hD18), hb19, ho5⟩⟩
theorem LSN_spec {w0 w : World} {D : Sto} {ss : List Seg} (hI : Inv w0 D ss w) (n : Int) :
  Calls Tryd.prog 111 #[.int .i64 n] w (Ret fun r w' => r = .bool (decide (1 ≤ n ∧ n ≤ 1099511627776)) ∧ Inv w0 D ss w') := by
 refine enter (N := 9) Tryd.func111 rfl rfl rfl ?_
 intro a hE
 refine wsr ?_
 refine za hE ?_; clear hE a; intro a hE
 refine wnt ?_
 refine wsr ?_
 refine zm hE ?_; clear hE a; intro a hE
 refine l_step rfl (o_cmp hE rfl rfl rfl rfl rfl rfl ?_ ?_)
 ·intro hc_1_1; replace hc_1_1 := geq_t hc_1_1; clear hE a; intro a hE
  refine zm hE ?_; clear hE a; intro a hE
  refine gs hE (p_move rfl) ?_; clear hE a; intro a hE
  refine l_go hE rfl (o_cmp hE rfl rfl rfl rfl rfl rfl ?_ ?_)
  ·intro hc_1_4; replace hc_1_4 := leq_t hc_1_4; clear hE a; intro a hE
   refine zs hE (p_pick (b := true) rfl rfl) ?_; clear hE a; intro a hE
   refine za hE ?_; clear hE a; intro a hE
   refine wnt ?_
   refine wp_ret ?_
   refine ret1 rfl hE rfl ?_
   exact ⟨by congr 1; simp; omega, hI⟩
  intro hc_1_4; replace hc_1_4 := leq_f hc_1_4; clear hE a; intro a hE
  refine zs hE (p_pick (b := true) rfl rfl) ?_; clear hE a; intro a hE
  refine za hE ?_; clear hE a; intro a hE
  refine wnt ?_
  refine wp_ret ?_
  refine ret1 rfl hE rfl ?_
  exact ⟨by congr 1; simp; omega, hI⟩
 intro hc_1_1; replace hc_1_1 := geq_f hc_1_1; clear hE a; intro a hE
 refine zm hE ?_; clear hE a; intro a hE
 refine zk hE ?_; clear hE a; intro a hE
 refine zk hE ?_; clear hE a; intro a hE
 refine zs hE (p_pick (b := false) rfl rfl) ?_; clear hE a; intro a hE
 refine za hE ?_; clear hE a; intro a hE
 refine wnt ?_
 refine wp_ret ?_
 refine ret1 rfl hE rfl ?_
 exact ⟨by congr 1; simp; omega, hI⟩
theorem Epoch_spec {w0 w : World} {D : Sto} {ss : List Seg} (hI : Inv w0 D ss w) (n : Int) :
  Calls Tryd.prog 112 #[.int .i64 n] w (Ret fun r w' => r = .bool (decide (0 ≤ n ∧ n ≤ 1073741824)) ∧ Inv w0 D ss w') := by
 refine enter (N := 9) Tryd.func112 rfl rfl rfl ?_
 intro a hE
 refine wsr ?_
 refine za hE ?_; clear hE a; intro a hE
 refine wnt ?_
 refine wsr ?_
 refine zm hE ?_; clear hE a; intro a hE
 refine l_step rfl (o_cmp hE rfl rfl rfl rfl rfl rfl ?_ ?_)
 ·intro hc_1_1; replace hc_1_1 := geq_t hc_1_1; clear hE a; intro a hE
  refine zm hE ?_; clear hE a; intro a hE
  refine gs hE (p_move rfl) ?_; clear hE a; intro a hE
  refine l_go hE rfl (o_cmp hE rfl rfl rfl rfl rfl rfl ?_ ?_)
  ·intro hc_1_4; replace hc_1_4 := leq_t hc_1_4; clear hE a; intro a hE
   refine zs hE (p_pick (b := true) rfl rfl) ?_; clear hE a; intro a hE
   refine za hE ?_; clear hE a; intro a hE
   refine wnt ?_
   refine wp_ret ?_
   refine ret1 rfl hE rfl ?_
   exact ⟨by congr 1; simp; omega, hI⟩
  intro hc_1_4; replace hc_1_4 := leq_f hc_1_4; clear hE a; intro a hE
  refine zs hE (p_pick (b := true) rfl rfl) ?_; clear hE a; intro a hE
  refine za hE ?_; clear hE a; intro a hE
  refine wnt ?_
  refine wp_ret ?_
  refine ret1 rfl hE rfl ?_
  exact ⟨by congr 1; simp; omega, hI⟩
 intro hc_1_1; replace hc_1_1 := geq_f hc_1_1; clear hE a; intro a hE
 refine zm hE ?_; clear hE a; intro a hE
 refine zk hE ?_; clear hE a; intro a hE
 refine zk hE ?_; clear hE a; intro a hE
 refine zs hE (p_pick (b := false) rfl rfl) ?_; clear hE a; intro a hE
 refine za hE ?_; clear hE a; intro a hE
 refine wnt ?_
 refine wp_ret ?_
 refine ret1 rfl hE rfl ?_
 exact ⟨by congr 1; simp; omega, hI⟩
theorem Group_spec {w0 w : World} {D : Sto} {ss : List Seg} (hI : Inv w0 D ss w) (n : Int) :
  Calls Tryd.prog 113 #[.int .i64 n] w (Ret fun r w' => r = .bool (decide (0 ≤ n ∧ n < 4)) ∧ Inv w0 D ss w') := by
 refine enter (N := 5) Tryd.func113 rfl rfl rfl ?_
 intro a hE
 refine wsr ?_
 refine za hE ?_; clear hE a; intro a hE
 refine wnt ?_
 refine wsr ?_
 refine zm hE ?_; clear hE a; intro a hE
 refine l_step rfl (o_call hE rfl rfl rfl rfl ent_54 (in_spec hI n 4) ?_)
 clear hI hE a
 rintro r w h a hE; rcases h with ⟨rfl, hx, hI⟩ | ⟨rfl, hx, hI⟩
 ·skip
  refine za hE ?_; clear hE a; intro a hE
  refine wnt ?_
  refine wp_ret ?_
  refine ret1 rfl hE rfl ?_
  exact ⟨by congr 1; simp; omega, hI⟩
 refine za hE ?_; clear hE a; intro a hE
 refine wnt ?_
 refine wp_ret ?_
 refine ret1 rfl hE rfl ?_
 exact ⟨by congr 1; simp; omega, hI⟩
theorem refValid_spec {w0 w : World} {D : Sto} {ss : List Seg} (hI : Inv w0 D ss w) {vr : Value} {rc : Rc} (hr : RcV D vr rc) :
  Calls Tryd.prog 77 #[vr] w (Ret fun r w' => ∃ c : Int, r = .int .i64 c ∧ (c = 0 ↔ validR rc = true) ∧ Inv w0 D ss w') := by
 obtain ⟨k1, v2, rfl, hk3, hv4, ho5⟩ := hr
 obtain ⟨A6, c7, rfl, _⟩ := hk3.slice
 obtain ⟨A8, c9, rfl, _⟩ := hv4.slice
 refine enter (N := 68) Tryd.func77 rfl rfl rfl ?_
 intro a hE
 refine wsr ?_
 refine l_step rfl (f_box (cs := #[_, _, _, _, _, _, _, _, _, _]) hE hI rfl rfl rfl rfl rfl ?_)
 clear hI hE a w; intro a b10 w hE hI
 refine za hE ?_; clear hE a; intro a hE
 refine wnt ?_
 refine wp_seq ?_
 refine wp_block ?_
 refine wsr ?_
 refine zs hE (p_fieldAddr (m := 0) rfl fo_88_0 rfl) ?_; clear hE a; intro a hE
 refine zl hE (f_load rfl scal_2 (hI.seg 0 rfl) rfl) ?_; clear hE a; intro a hE
 refine l_step rfl (o_call hE rfl rfl rfl rfl ent_111 (LSN_spec hI rc.lsn) ?_)
 clear hI hE a
 rintro r w ⟨rfl, hI⟩ a hE
 obtain ⟨bf11, hbf12⟩ : ∃ b, decide (1 ≤ rc.lsn ∧ rc.lsn ≤ 1099511627776) = b := ⟨_, rfl⟩
 rw [hbf12] at hE
 replace hbf12 : bf11 = true ↔ (1 ≤ rc.lsn ∧ rc.lsn ≤ 1099511627776) := by rw [← hbf12]; exact decide_eq_true_iff
 rcases Bool.eq_false_or_eq_true bf11 with rfl | rfl
 ·replace hbf12 := iff_t hbf12
  refine zs hE (p_not rfl) ?_; clear hE a; intro a hE
  refine zm hE ?_; clear hE a; intro a hE
  refine gs hE (p_fieldAddr (m := 2) rfl fo_88_2 rfl) ?_; clear hE a; intro a hE
  refine gl hE (f_load rfl scal_3 (hI.seg 0 rfl) rfl) ?_; clear hE a; intro a hE
  refine l_go hE rfl (o_call hE rfl rfl rfl rfl ent_112 (Epoch_spec hI rc.epoch) ?_)
  clear hI hE a
  rintro r w ⟨rfl, hI⟩ a hE
  obtain ⟨bf13, hbf14⟩ : ∃ b, decide (0 ≤ rc.epoch ∧ rc.epoch ≤ 1073741824) = b := ⟨_, rfl⟩
  rw [hbf14] at hE
  replace hbf14 : bf13 = true ↔ (0 ≤ rc.epoch ∧ rc.epoch ≤ 1073741824) := by rw [← hbf14]; exact decide_eq_true_iff
  rcases Bool.eq_false_or_eq_true bf13 with rfl | rfl
  ·replace hbf14 := iff_t hbf14
   refine gs hE (p_not rfl) ?_; clear hE a; intro a hE
   refine zs hE (p_pick (b := false) rfl rfl) ?_; clear hE a; intro a hE
   refine zm hE ?_; clear hE a; intro a hE
   refine gs hE (p_fieldAddr (m := 3) rfl fo_88_3 rfl) ?_; clear hE a; intro a hE
   refine gl hE (f_load rfl scal_3 (hI.seg 0 rfl) rfl) ?_; clear hE a; intro a hE
   refine l_go hE rfl (o_call hE rfl rfl rfl rfl ent_113 (Group_spec hI rc.group) ?_)
   clear hI hE a
   rintro r w ⟨rfl, hI⟩ a hE
   obtain ⟨bf15, hbf16⟩ : ∃ b, decide (0 ≤ rc.group ∧ rc.group < 4) = b := ⟨_, rfl⟩
   rw [hbf16] at hE
   replace hbf16 : bf15 = true ↔ (0 ≤ rc.group ∧ rc.group < 4) := by rw [← hbf16]; exact decide_eq_true_iff
   rcases Bool.eq_false_or_eq_true bf15 with rfl | rfl
   ·replace hbf16 := iff_t hbf16
    refine gs hE (p_not rfl) ?_; clear hE a; intro a hE
    refine zs hE (p_pick (b := false) rfl rfl) ?_; clear hE a; intro a hE
    refine zm hE ?_; clear hE a; intro a hE
    refine gs hE (p_fieldAddr (m := 4) rfl fo_88_4 rfl) ?_; clear hE a; intro a hE
    refine gl hE (f_load rfl scal_3 (hI.seg 0 rfl) rfl) ?_; clear hE a; intro a hE
    refine l_go hE rfl (o_call hE rfl rfl rfl rfl ent_19 (Page_spec hI rc.page) ?_)
    clear hI hE a
    rintro r w h a hE; rcases h with ⟨rfl, hx, hI⟩ | ⟨rfl, hx, hI⟩
    ·skip
     refine gs hE (p_not rfl) ?_; clear hE a; intro a hE
     refine zs hE (p_pick (b := false) rfl rfl) ?_; clear hE a; intro a hE
     refine zm hE ?_; clear hE a; intro a hE
     refine gs hE (p_fieldAddr (m := 1) rfl fo_88_1 rfl) ?_; clear hE a; intro a hE
     refine gl hE (f_load rfl scal_2 (hI.seg 0 rfl) rfl) ?_; clear hE a; intro a hE
     refine l_go hE rfl (o_cmp hE rfl rfl rfl rfl rfl rfl ?_ ?_)
     ·intro hc_1_25; replace hc_1_25 := lss_t hc_1_25; clear hE a; intro a hE
      refine zs hE (p_pick (b := false) rfl rfl) ?_; clear hE a; intro a hE
      refine zm hE ?_; clear hE a; intro a hE
      refine zk hE ?_; clear hE a; intro a hE
      refine zk hE ?_; clear hE a; intro a hE
      refine zk hE ?_; clear hE a; intro a hE
      refine zk hE ?_; clear hE a; intro a hE
      refine zk hE ?_; clear hE a; intro a hE
      refine zs hE (p_pick (b := true) rfl rfl) ?_; clear hE a; intro a hE
      refine zm hE ?_; clear hE a; intro a hE
      refine zk hE ?_; clear hE a; intro a hE
      refine zk hE ?_; clear hE a; intro a hE
      refine zk hE ?_; clear hE a; intro a hE
      refine zs hE (p_pick (b := true) rfl rfl) ?_; clear hE a; intro a hE
      refine zm hE ?_; clear hE a; intro a hE
      refine zk hE ?_; clear hE a; intro a hE
      refine zk hE ?_; clear hE a; intro a hE
      refine zk hE ?_; clear hE a; intro a hE
      refine zs hE (p_pick (b := true) rfl rfl) ?_; clear hE a; intro a hE
      refine za hE ?_; clear hE a; intro a hE
      refine wnt ?_
      refine c_true hE rfl ?_
      refine wsr ?_
      refine za hE ?_; clear hE a; intro a hE
      refine wnt ?_
      refine wp_ret ?_
      refine blk_ret ?_
      refine then_ret ?_
      refine ret1 rfl hE rfl ?_
      exact ⟨_, rfl, ⟨fun h => absurd h (by omega), fun h => by exfalso; simp only [validR, decide_eq_true_eq] at h; omega⟩, hI.drop⟩
     intro hc_1_25; replace hc_1_25 := lss_f hc_1_25; clear hE a; intro a hE
     refine zs hE (p_pick (b := false) rfl rfl) ?_; clear hE a; intro a hE
     refine zm hE ?_; clear hE a; intro a hE
     refine gs hE (p_fieldAddr (m := 1) rfl fo_88_1 rfl) ?_; clear hE a; intro a hE
     refine gl hE (f_load rfl scal_2 (hI.seg 0 rfl) rfl) ?_; clear hE a; intro a hE
     refine gs hE (p_fieldAddr (m := 0) rfl fo_88_0 rfl) ?_; clear hE a; intro a hE
     refine gl hE (f_load rfl scal_2 (hI.seg 0 rfl) rfl) ?_; clear hE a; intro a hE
     refine l_go hE rfl (o_cmp hE rfl rfl rfl rfl rfl rfl ?_ ?_)
     ·intro hc_1_32; replace hc_1_32 := geq_t hc_1_32; clear hE a; intro a hE
      refine zs hE (p_pick (b := false) rfl rfl) ?_; clear hE a; intro a hE
      refine zm hE ?_; clear hE a; intro a hE
      refine zk hE ?_; clear hE a; intro a hE
      refine zk hE ?_; clear hE a; intro a hE
      refine zk hE ?_; clear hE a; intro a hE
      refine zs hE (p_pick (b := true) rfl rfl) ?_; clear hE a; intro a hE
      refine zm hE ?_; clear hE a; intro a hE
      refine zk hE ?_; clear hE a; intro a hE
      refine zk hE ?_; clear hE a; intro a hE
      refine zk hE ?_; clear hE a; intro a hE
      refine zs hE (p_pick (b := true) rfl rfl) ?_; clear hE a; intro a hE
      refine za hE ?_; clear hE a; intro a hE
      refine wnt ?_
      refine c_true hE rfl ?_
      refine wsr ?_
      refine za hE ?_; clear hE a; intro a hE
      refine wnt ?_
      refine wp_ret ?_
      refine blk_ret ?_
      refine then_ret ?_
      refine ret1 rfl hE rfl ?_
      exact ⟨_, rfl, ⟨fun h => absurd h (by omega), fun h => by exfalso; simp only [validR, decide_eq_true_eq] at h; omega⟩, hI.drop⟩
     intro hc_1_32; replace hc_1_32 := geq_f hc_1_32; clear hE a; intro a hE
     refine zs hE (p_pick (b := false) rfl rfl) ?_; clear hE a; intro a hE
     refine zm hE ?_; clear hE a; intro a hE
     refine gs hE (p_fieldAddr (m := 6) rfl fo_88_6 rfl) ?_; clear hE a; intro a hE
     refine gl hE (f_load rfl scal_3 (hI.seg 0 rfl) rfl) ?_; clear hE a; intro a hE
     refine l_go hE rfl (o_cmp hE rfl rfl rfl rfl rfl rfl ?_ ?_)
     ·intro hc_1_37; replace hc_1_37 := lss_t hc_1_37; clear hE a; intro a hE
      refine zs hE (p_pick (b := false) rfl rfl) ?_; clear hE a; intro a hE
      refine zm hE ?_; clear hE a; intro a hE
      refine zk hE ?_; clear hE a; intro a hE
      refine zk hE ?_; clear hE a; intro a hE
      refine zk hE ?_; clear hE a; intro a hE
      refine zs hE (p_pick (b := true) rfl rfl) ?_; clear hE a; intro a hE
      refine za hE ?_; clear hE a; intro a hE
      refine wnt ?_
      refine c_true hE rfl ?_
      refine wsr ?_
      refine za hE ?_; clear hE a; intro a hE
      refine wnt ?_
      refine wp_ret ?_
      refine blk_ret ?_
      refine then_ret ?_
      refine ret1 rfl hE rfl ?_
      exact ⟨_, rfl, ⟨fun h => absurd h (by omega), fun h => by exfalso; simp only [validR, decide_eq_true_eq] at h; omega⟩, hI.drop⟩
     intro hc_1_37; replace hc_1_37 := lss_f hc_1_37; clear hE a; intro a hE
     refine zs hE (p_pick (b := false) rfl rfl) ?_; clear hE a; intro a hE
     refine zm hE ?_; clear hE a; intro a hE
     refine gs hE (p_fieldAddr (m := 6) rfl fo_88_6 rfl) ?_; clear hE a; intro a hE
     refine gl hE (f_load rfl scal_3 (hI.seg 0 rfl) rfl) ?_; clear hE a; intro a hE
     refine l_go hE rfl (o_cmp hE rfl rfl rfl rfl rfl rfl ?_ ?_)
     ·intro hc_1_42; replace hc_1_42 := gtr_t hc_1_42; clear hE a; intro a hE
      refine zs hE (p_pick (b := false) rfl rfl) ?_; clear hE a; intro a hE
      refine za hE ?_; clear hE a; intro a hE
      refine wnt ?_
      refine c_true hE rfl ?_
      refine wsr ?_
      refine za hE ?_; clear hE a; intro a hE
      refine wnt ?_
      refine wp_ret ?_
      refine blk_ret ?_
      refine then_ret ?_
      refine ret1 rfl hE rfl ?_
      exact ⟨_, rfl, ⟨fun h => absurd h (by omega), fun h => by exfalso; simp only [validR, decide_eq_true_eq] at h; omega⟩, hI.drop⟩
     intro hc_1_42; replace hc_1_42 := gtr_f hc_1_42; clear hE a; intro a hE
     refine zs hE (p_pick (b := false) rfl rfl) ?_; clear hE a; intro a hE
     refine za hE ?_; clear hE a; intro a hE
     refine wnt ?_
     refine c_false hE rfl ?_
     refine wsr ?_
     refine zs hE (p_fieldAddr (m := 5) rfl fo_88_5 rfl) ?_; clear hE a; intro a hE
     refine zl hE (f_load rfl scal_3 (hI.seg 0 rfl) rfl) ?_; clear hE a; intro a hE
     refine l_step rfl (o_cmp hE rfl rfl rfl rfl rfl rfl ?_ ?_)
     ·intro hc_3_2; replace hc_3_2 := lss_t hc_3_2; clear hE a; intro a hE
      refine zm hE ?_; clear hE a; intro a hE
      refine zk hE ?_; clear hE a; intro a hE
      refine zk hE ?_; clear hE a; intro a hE
      refine zk hE ?_; clear hE a; intro a hE
      refine zs hE (p_pick (b := true) rfl rfl) ?_; clear hE a; intro a hE
      refine za hE ?_; clear hE a; intro a hE
      refine wnt ?_
      refine c_true hE rfl ?_
      refine wsr ?_
      refine za hE ?_; clear hE a; intro a hE
      refine wnt ?_
      refine wp_ret ?_
      refine blk_ret ?_
      refine then_ret ?_
      refine ret1 rfl hE rfl ?_
      exact ⟨_, rfl, ⟨fun h => absurd h (by omega), fun h => by exfalso; simp only [validR, decide_eq_true_eq] at h; omega⟩, hI.drop⟩
     intro hc_3_2; replace hc_3_2 := lss_f hc_3_2; clear hE a; intro a hE
     refine zm hE ?_; clear hE a; intro a hE
     refine gs hE (p_fieldAddr (m := 5) rfl fo_88_5 rfl) ?_; clear hE a; intro a hE
     refine gl hE (f_load rfl scal_3 (hI.seg 0 rfl) rfl) ?_; clear hE a; intro a hE
     refine l_go hE rfl (o_cmp hE rfl rfl rfl rfl rfl rfl ?_ ?_)
     ·intro hc_3_6; replace hc_3_6 := gtr_t hc_3_6; clear hE a; intro a hE
      refine zs hE (p_pick (b := false) rfl rfl) ?_; clear hE a; intro a hE
      refine za hE ?_; clear hE a; intro a hE
      refine wnt ?_
      refine c_true hE rfl ?_
      refine wsr ?_
      refine za hE ?_; clear hE a; intro a hE
      refine wnt ?_
      refine wp_ret ?_
      refine blk_ret ?_
      refine then_ret ?_
      refine ret1 rfl hE rfl ?_
      exact ⟨_, rfl, ⟨fun h => absurd h (by omega), fun h => by exfalso; simp only [validR, decide_eq_true_eq] at h; omega⟩, hI.drop⟩
     intro hc_3_6; replace hc_3_6 := gtr_f hc_3_6; clear hE a; intro a hE
     refine zs hE (p_pick (b := false) rfl rfl) ?_; clear hE a; intro a hE
     refine za hE ?_; clear hE a; intro a hE
     refine wnt ?_
     refine c_false hE rfl ?_
     refine wsr ?_
     refine zs hE (p_fieldAddr (m := 7) rfl fo_88_7 rfl) ?_; clear hE a; intro a hE
     refine zl hE (f_load rfl scal_22 (hI.seg 0 rfl) rfl) ?_; clear hE a; intro a hE
     refine zs hE (p_len rfl rfl Tryd.underlying22) ?_; clear hE a; intro a hE
     refine l_step rfl (o_cmp hE rfl rfl rfl rfl rfl rfl ?_ ?_)
     ·intro hc_5_3; replace hc_5_3 := gtr_t hc_5_3; clear hE a; intro a hE
      refine zm hE ?_; clear hE a; intro a hE
      refine zk hE ?_; clear hE a; intro a hE
      refine zk hE ?_; clear hE a; intro a hE
      refine zk hE ?_; clear hE a; intro a hE
      refine zk hE ?_; clear hE a; intro a hE
      refine zs hE (p_pick (b := true) rfl rfl) ?_; clear hE a; intro a hE
      refine za hE ?_; clear hE a; intro a hE
      refine wnt ?_
      refine c_true hE rfl ?_
      refine wsr ?_
      refine za hE ?_; clear hE a; intro a hE
      refine wnt ?_
      refine wp_ret ?_
      refine blk_ret ?_
      refine then_ret ?_
      refine ret1 rfl hE rfl ?_
      exact ⟨_, rfl, ⟨fun h => absurd h (by omega), fun h => by exfalso; simp only [validR, decide_eq_true_eq] at h; omega⟩, hI.drop⟩
     intro hc_5_3; replace hc_5_3 := gtr_f hc_5_3; clear hE a; intro a hE
     refine zm hE ?_; clear hE a; intro a hE
     refine gs hE (p_fieldAddr (m := 8) rfl fo_88_8 rfl) ?_; clear hE a; intro a hE
     refine gl hE (f_load rfl scal_22 (hI.seg 0 rfl) rfl) ?_; clear hE a; intro a hE
     refine gs hE (p_len rfl rfl Tryd.underlying22) ?_; clear hE a; intro a hE
     refine l_go hE rfl (o_cmp hE rfl rfl rfl rfl rfl rfl ?_ ?_)
     ·intro hc_5_8; replace hc_5_8 := gtr_t hc_5_8; clear hE a; intro a hE
      refine zs hE (p_pick (b := false) rfl rfl) ?_; clear hE a; intro a hE
      refine za hE ?_; clear hE a; intro a hE
      refine wnt ?_
      refine c_true hE rfl ?_
      refine wsr ?_
      refine za hE ?_; clear hE a; intro a hE
      refine wnt ?_
      refine wp_ret ?_
      refine blk_ret ?_
      refine then_ret ?_
      refine ret1 rfl hE rfl ?_
      exact ⟨_, rfl, ⟨fun h => absurd h (by omega), fun h => by exfalso; simp only [validR, decide_eq_true_eq] at h; omega⟩, hI.drop⟩
     intro hc_5_8; replace hc_5_8 := gtr_f hc_5_8; clear hE a; intro a hE
     refine zs hE (p_pick (b := false) rfl rfl) ?_; clear hE a; intro a hE
     refine za hE ?_; clear hE a; intro a hE
     refine wnt ?_
     refine c_false hE rfl ?_
     refine wp_skip ?_
     refine blk_normal ?_
     refine then_normal ?_
     refine wsr ?_
     refine za hE ?_; clear hE a; intro a hE
     refine wnt ?_
     refine wp_ret ?_
     refine ret1 rfl hE rfl ?_
     exact ⟨_, rfl, ⟨fun _ => by simp only [validR, decide_eq_true_eq]; omega, fun _ => rfl⟩, hI.drop⟩
    refine gs hE (p_not rfl) ?_; clear hE a; intro a hE
    refine zs hE (p_pick (b := false) rfl rfl) ?_; clear hE a; intro a hE
    refine zm hE ?_; clear hE a; intro a hE
    refine zk hE ?_; clear hE a; intro a hE
    refine zk hE ?_; clear hE a; intro a hE
    refine zk hE ?_; clear hE a; intro a hE
    refine zs hE (p_pick (b := true) rfl rfl) ?_; clear hE a; intro a hE
    refine zm hE ?_; clear hE a; intro a hE
    refine zk hE ?_; clear hE a; intro a hE
    refine zk hE ?_; clear hE a; intro a hE
    refine zk hE ?_; clear hE a; intro a hE
    refine zk hE ?_; clear hE a; intro a hE
    refine zk hE ?_; clear hE a; intro a hE
    refine zs hE (p_pick (b := true) rfl rfl) ?_; clear hE a; intro a hE
    refine zm hE ?_; clear hE a; intro a hE
    refine zk hE ?_; clear hE a; intro a hE
    refine zk hE ?_; clear hE a; intro a hE
    refine zk hE ?_; clear hE a; intro a hE
    refine zs hE (p_pick (b := true) rfl rfl) ?_; clear hE a; intro a hE
    refine zm hE ?_; clear hE a; intro a hE
    refine zk hE ?_; clear hE a; intro a hE
    refine zk hE ?_; clear hE a; intro a hE
    refine zk hE ?_; clear hE a; intro a hE
    refine zs hE (p_pick (b := true) rfl rfl) ?_; clear hE a; intro a hE
    refine za hE ?_; clear hE a; intro a hE
    refine wnt ?_
    refine c_true hE rfl ?_
    refine wsr ?_
    refine za hE ?_; clear hE a; intro a hE
    refine wnt ?_
    refine wp_ret ?_
    refine blk_ret ?_
    refine then_ret ?_
    refine ret1 rfl hE rfl ?_
    exact ⟨_, rfl, ⟨fun h => absurd h (by omega), fun h => by exfalso; simp only [validR, decide_eq_true_eq] at h; omega⟩, hI.drop⟩
   replace hbf16 := iff_f hbf16
   refine gs hE (p_not rfl) ?_; clear hE a; intro a hE
   refine zs hE (p_pick (b := false) rfl rfl) ?_; clear hE a; intro a hE
   refine zm hE ?_; clear hE a; intro a hE
   refine zk hE ?_; clear hE a; intro a hE
   refine zk hE ?_; clear hE a; intro a hE
   refine zk hE ?_; clear hE a; intro a hE
   refine zk hE ?_; clear hE a; intro a hE
   refine zs hE (p_pick (b := true) rfl rfl) ?_; clear hE a; intro a hE
   refine zm hE ?_; clear hE a; intro a hE
   refine zk hE ?_; clear hE a; intro a hE
   refine zk hE ?_; clear hE a; intro a hE
   refine zk hE ?_; clear hE a; intro a hE
   refine zs hE (p_pick (b := true) rfl rfl) ?_; clear hE a; intro a hE
   refine zm hE ?_; clear hE a; intro a hE
   refine zk hE ?_; clear hE a; intro a hE
   refine zk hE ?_; clear hE a; intro a hE
   refine zk hE ?_; clear hE a; intro a hE
   refine zk hE ?_; clear hE a; intro a hE
   refine zk hE ?_; clear hE a; intro a hE
   refine zs hE (p_pick (b := true) rfl rfl) ?_; clear hE a; intro a hE
   refine zm hE ?_; clear hE a; intro a hE
   refine zk hE ?_; clear hE a; intro a hE
   refine zk hE ?_; clear hE a; intro a hE
   refine zk hE ?_; clear hE a; intro a hE
   refine zs hE (p_pick (b := true) rfl rfl) ?_; clear hE a; intro a hE
   refine zm hE ?_; clear hE a; intro a hE
   refine zk hE ?_; clear hE a; intro a hE
   refine zk hE ?_; clear hE a; intro a hE
   refine zk hE ?_; clear hE a; intro a hE
   refine zs hE (p_pick (b := true) rfl rfl) ?_; clear hE a; intro a hE
   refine za hE ?_; clear hE a; intro a hE
   refine wnt ?_
   refine c_true hE rfl ?_
   refine wsr ?_
   refine za hE ?_; clear hE a; intro a hE
   refine wnt ?_
   refine wp_ret ?_
   refine blk_ret ?_
   refine then_ret ?_
   refine ret1 rfl hE rfl ?_
   exact ⟨_, rfl, ⟨fun h => absurd h (by omega), fun h => by exfalso; simp only [validR, decide_eq_true_eq] at h; omega⟩, hI.drop⟩
  replace hbf14 := iff_f hbf14
  refine gs hE (p_not rfl) ?_; clear hE a; intro a hE
  refine zs hE (p_pick (b := false) rfl rfl) ?_; clear hE a; intro a hE
  refine zm hE ?_; clear hE a; intro a hE
  refine zk hE ?_; clear hE a; intro a hE
  refine zk hE ?_; clear hE a; intro a hE
  refine zk hE ?_; clear hE a; intro a hE
  refine zk hE ?_; clear hE a; intro a hE
  refine zs hE (p_pick (b := true) rfl rfl) ?_; clear hE a; intro a hE
  refine zm hE ?_; clear hE a; intro a hE
  refine zk hE ?_; clear hE a; intro a hE
  refine zk hE ?_; clear hE a; intro a hE
  refine zk hE ?_; clear hE a; intro a hE
  refine zk hE ?_; clear hE a; intro a hE
  refine zs hE (p_pick (b := true) rfl rfl) ?_; clear hE a; intro a hE
  refine zm hE ?_; clear hE a; intro a hE
  refine zk hE ?_; clear hE a; intro a hE
  refine zk hE ?_; clear hE a; intro a hE
  refine zk hE ?_; clear hE a; intro a hE
  refine zs hE (p_pick (b := true) rfl rfl) ?_; clear hE a; intro a hE
  refine zm hE ?_; clear hE a; intro a hE
  refine zk hE ?_; clear hE a; intro a hE
  refine zk hE ?_; clear hE a; intro a hE
  refine zk hE ?_; clear hE a; intro a hE
  refine zk hE ?_; clear hE a; intro a hE
  refine zk hE ?_; clear hE a; intro a hE
  refine zs hE (p_pick (b := true) rfl rfl) ?_; clear hE a; intro a hE
  refine zm hE ?_; clear hE a; intro a hE
  refine zk hE ?_; clear hE a; intro a hE
  refine zk hE ?_; clear hE a; intro a hE
  refine zk hE ?_; clear hE a; intro a hE
  refine zs hE (p_pick (b := true) rfl rfl) ?_; clear hE a; intro a hE
  refine zm hE ?_; clear hE a; intro a hE
  refine zk hE ?_; clear hE a; intro a hE
  refine zk hE ?_; clear hE a; intro a hE
  refine zk hE ?_; clear hE a; intro a hE
  refine zs hE (p_pick (b := true) rfl rfl) ?_; clear hE a; intro a hE
  refine za hE ?_; clear hE a; intro a hE
  refine wnt ?_
  refine c_true hE rfl ?_
  refine wsr ?_
  refine za hE ?_; clear hE a; intro a hE
  refine wnt ?_
  refine wp_ret ?_
  refine blk_ret ?_
  refine then_ret ?_
  refine ret1 rfl hE rfl ?_
  exact ⟨_, rfl, ⟨fun h => absurd h (by omega), fun h => by exfalso; simp only [validR, decide_eq_true_eq] at h; omega⟩, hI.drop⟩
 replace hbf12 := iff_f hbf12
 refine zs hE (p_not rfl) ?_; clear hE a; intro a hE
 refine zm hE ?_; clear hE a; intro a hE
 refine zk hE ?_; clear hE a; intro a hE
 refine zk hE ?_; clear hE a; intro a hE
 refine zk hE ?_; clear hE a; intro a hE
 refine zk hE ?_; clear hE a; intro a hE
 refine zs hE (p_pick (b := true) rfl rfl) ?_; clear hE a; intro a hE
 refine zm hE ?_; clear hE a; intro a hE
 refine zk hE ?_; clear hE a; intro a hE
 refine zk hE ?_; clear hE a; intro a hE
 refine zk hE ?_; clear hE a; intro a hE
 refine zk hE ?_; clear hE a; intro a hE
 refine zs hE (p_pick (b := true) rfl rfl) ?_; clear hE a; intro a hE
 refine zm hE ?_; clear hE a; intro a hE
 refine zk hE ?_; clear hE a; intro a hE
 refine zk hE ?_; clear hE a; intro a hE
 refine zk hE ?_; clear hE a; intro a hE
 refine zk hE ?_; clear hE a; intro a hE
 refine zs hE (p_pick (b := true) rfl rfl) ?_; clear hE a; intro a hE
 refine zm hE ?_; clear hE a; intro a hE
 refine zk hE ?_; clear hE a; intro a hE
 refine zk hE ?_; clear hE a; intro a hE
 refine zk hE ?_; clear hE a; intro a hE
 refine zs hE (p_pick (b := true) rfl rfl) ?_; clear hE a; intro a hE
 refine zm hE ?_; clear hE a; intro a hE
 refine zk hE ?_; clear hE a; intro a hE
 refine zk hE ?_; clear hE a; intro a hE
 refine zk hE ?_; clear hE a; intro a hE
 refine zk hE ?_; clear hE a; intro a hE
 refine zk hE ?_; clear hE a; intro a hE
 refine zs hE (p_pick (b := true) rfl rfl) ?_; clear hE a; intro a hE
 refine zm hE ?_; clear hE a; intro a hE
 refine zk hE ?_; clear hE a; intro a hE
 refine zk hE ?_; clear hE a; intro a hE
 refine zk hE ?_; clear hE a; intro a hE
 refine zs hE (p_pick (b := true) rfl rfl) ?_; clear hE a; intro a hE
 refine zm hE ?_; clear hE a; intro a hE
 refine zk hE ?_; clear hE a; intro a hE
 refine zk hE ?_; clear hE a; intro a hE
 refine zk hE ?_; clear hE a; intro a hE
 refine zs hE (p_pick (b := true) rfl rfl) ?_; clear hE a; intro a hE
 refine za hE ?_; clear hE a; intro a hE
 refine wnt ?_
 refine c_true hE rfl ?_
 refine wsr ?_
 refine za hE ?_; clear hE a; intro a hE
 refine wnt ?_
 refine wp_ret ?_
 refine blk_ret ?_
 refine then_ret ?_
 refine ret1 rfl hE rfl ?_
 exact ⟨_, rfl, ⟨fun h => absurd h (by omega), fun h => by exfalso; simp only [validR, decide_eq_true_eq] at h; omega⟩, hI.drop⟩
theorem laid_spec {w0 w : World} {D : Sto} {ss : List Seg} {s : Seg} {vp : Value} {P : Pl} (hI : Inv w0 D (s :: ss) w) (hP : PoolS D vp P s) {ad : Nat → Addr} (hS : TSents D ad) {vl : Value} {l : List Rc} (hl : DR 10 RcR D vl l) {n : Int} (hn0 : 0 ≤ n) (hn1 : n ≤ 1099511627777) (hlen : l.length ≤ 1000000000) :
  Calls Tryd.prog 36 #[vp, vl, .int .i64 n] w (Ret fun r w' => ∃ D' s' P', Le D D' ∧ PoolS D' vp P' s' ∧ Inv w0 D' (s' :: ss) w' ∧ ((∃ m, laidP P l n = some (P', m) ∧ r = .tuple #[.int .i64 m, .bool true]) ∨ (laidP P l n = none ∧ ∃ m, r = .tuple #[.int .i64 m, .bool false]))) := by
 obtain ⟨A1, c2, rfl, _⟩ := hl.slice
 refine enter (N := 36) Tryd.func36 rfl rfl rfl ?_
 intro a hE
 refine wsr ?_
 refine za hE ?_; clear hE a; intro a hE
 refine za hE ?_; clear hE a; intro a hE
 refine wnt ?_
 refine wp_seq ?_
 refine wsr ?_
 refine za hE ?_; clear hE a; intro a hE
 refine wnt ?_
 refine wp_block ?_
 refine c_loop (X := Sto × Nat × Pl × Int × Seg) (fun x => [(0, _), (1, _), (2, .int .i64 x.2.2.2.1), (8, .int .i64 (x.2.1 : Nat))]) (fun x w => x.2.1 ≤ l.length ∧ Le D x.1 ∧ laidP P l n = laidP x.2.2.1 (l.drop x.2.1) x.2.2.2.1 ∧ x.2.2.2.1 = n + (x.2.1 : Nat) ∧ PoolS x.1 vp x.2.2.1 x.2.2.2.2 ∧ Inv w0 x.1 (x.2.2.2.2 :: ss) w) (fun x => l.length - x.2.1) (D, 0, P, n, s) (hE.pick [0, 1, 2, 8]) ⟨Nat.zero_le _, Le.refl _, rfl, by simp, hP, hI⟩ ?_
 clear hE hI a w
 rintro ⟨D1, i, P1, m, s1⟩ a w hE ⟨hi, hD1, heq, hm, hP1, hI⟩
 try dsimp only at hE
 try dsimp only at hi
 try dsimp only at hD1
 try dsimp only at heq
 try dsimp only at hm
 try dsimp only at hP1
 try dsimp only at hI
 refine wp_seq ?_
 refine wsr ?_
 refine zm hE ?_; clear hE a; intro a hE
 refine zm hE ?_; clear hE a; intro a hE
 refine zs hE (p_len rfl rfl Tryd.underlying62) ?_; clear hE a; intro a hE
 refine l_step rfl (o_cmp hE rfl rfl rfl rfl rfl rfl ?_ ?_)
 ·intro hlt; replace hlt := lss_t hlt; clear hE a; intro a hE
  refine wnt ?_
  refine c_true hE rfl ?_
  refine wp_skip ?_
  refine then_normal ?_
  refine wp_seq ?_
  refine wp_block ?_
  refine wsr ?_
  refine zm hE ?_; clear hE a; intro a hE
  refine zm hE ?_; clear hE a; intro a hE
  obtain ⟨x_3, hx_3⟩ : ∃ y, (l)[i]? = some y := ⟨_, List.getElem?_eq_getElem (by omega)⟩
  obtain ⟨b_3, o_3, cs_3, T_3, fr_3, rfl, hb_3, hat_3⟩ := hl.at_ (by intro h0; rw [h0] at hx_3; simp at hx_3)
  obtain ⟨vs_3, hl_3, ⟨k_3, v_3, rfl, hk_3, hv_3, hok_3⟩, hex_3, hsz_3, hce_3⟩ := hat_3.extract hx_3 (by omega)
  obtain ⟨A4, c5, rfl, _⟩ := hk_3.slice
  obtain ⟨A6, c7, rfl, _⟩ := hv_3.slice
  refine zs hE (p_indexAddr (m := o_3 + i * 10) rfl rfl Tryd.underlying62 sz_88 (by omega) (by omega) (by simp)) ?_; clear hE a; intro a hE
  refine zl hE (r_loadA rfl agg_88 (hI.data _ _ (hD1 _ _ (hb_3))) hsz_3 hex_3) ?_; clear hE a; intro a hE
  refine l_step rfl (o_call hE rfl rfl rfl rfl ent_76 (refRedo_spec (rc := x_3) hI ⟨_, _, rfl, (hk_3.mono hD1), (hv_3.mono hD1), hok_3⟩) ?_)
  clear hI hE a
  rintro r w ⟨D8, hD9, hI, ⟨k10, v11, rfl, hk12, hv13, ho14⟩⟩ a hE
  obtain ⟨A15, c16, rfl, _⟩ := hk12.slice
  obtain ⟨A17, c18, rfl, _⟩ := hv13.slice
  refine l_step rfl (f_alloc (cs := #[.int .i64 0, .int .i64 0, .int .i64 0, .int .i64 0, .int .i64 0, .int .i64 0, .int .i64 0, .slice none 0 0, .slice none 0 0, .bool false]) hE hI rfl rfl rfl zer_88 rfl ?_)
  clear hI hE a w; intro a b19 w hE hI
  refine l_step rfl (f_store (l := [_, _, _, _, _, _, _, _, _, _]) (ss' := _ :: _) 0 hE hI rfl rfl rfl rfl rfl sz_88 (by simp [Value.cells, Value.oneCell', pgCells, rcCells, zPg]) rfl rfl rfl ?_)
  clear hI w; intro w hI
  refine wnt ?_
  refine wsr ?_
  refine zm hE ?_; clear hE a; intro a hE
  refine zs hE (p_fieldAddr (m := 0) rfl fo_88_0 rfl) ?_; clear hE a; intro a hE
  refine l_step rfl (f_store (l := [_, _, _, _, _, _, _, _, _, _]) (ss' := _ :: _) 0 hE hI rfl rfl rfl rfl rfl sz_2 (by simp [Value.cells, Value.oneCell', pgCells, rcCells, zPg]) rfl rfl rfl ?_)
  clear hI w; intro w hI
  refine wnt ?_
  refine wp_seq ?_
  refine wsr ?_
  refine zl hE (f_loadA (vs := [_, _, _, _, _, _, _, _, _, _]) rfl agg_88 (hI.seg 0 rfl) rfl rfl) ?_; clear hE a; intro a hE
  refine l_step rfl (o_call hE rfl rfl rfl rfl ent_77 (refValid_spec (rc := ({ x_3 with lsn := m } : Rc)) hI ⟨_, _, rfl, hk12, hv13, ho14.lsn (n := m) (by omega) (by omega)⟩) ?_)
  clear hI hE a
  rintro r w ⟨cv, rfl, hcv, hI⟩ a hE
  refine l_step rfl (o_cmp hE rfl rfl rfl rfl rfl rfl ?_ ?_)
  ·intro hc0; replace hc0 := neq_t hc0; clear hE a; intro a hE
   refine zm hE ?_; clear hE a; intro a hE
   refine zk hE ?_; clear hE a; intro a hE
   refine zk hE ?_; clear hE a; intro a hE
   refine zk hE ?_; clear hE a; intro a hE
   refine zk hE ?_; clear hE a; intro a hE
   refine zs hE (p_pick (b := true) rfl rfl) ?_; clear hE a; intro a hE
   refine wnt ?_
   refine c_true hE rfl ?_
   refine wsr ?_
   refine zm hE ?_; clear hE a; intro a hE
   refine za hE ?_; clear hE a; intro a hE
   refine za hE ?_; clear hE a; intro a hE
   refine wnt ?_
   refine wp_ret ?_
   refine then_ret ?_
   refine blk_ret ?_
   refine then_ret ?_
   refine then_ret ?_
   refine blk_ret ?_
   refine then_ret ?_
   refine ret2 rfl hE rfl rfl ?_
   replace hI := hI.erase 0
   exact ⟨_, _, _, (hD1.trans hD9), (hP1.mono hD9), hI, .inr ⟨by rw [heq, laidP_at hx_3, if_pos (by cases hq : validR ({ x_3 with lsn := m } : Rc) with | false => rfl | true => exact absurd (hcv.2 hq) (by omega))], m, rfl⟩⟩
  intro hc0; replace hc0 := neq_f hc0; clear hE a; intro a hE
  refine zm hE ?_; clear hE a; intro a hE
  refine gs hE (p_move rfl) ?_; clear hE a; intro a hE
  refine gl hE (f_loadA (vs := [_, _, _, _, _, _, _, _, _, _]) rfl agg_88 (hI.seg 0 rfl) rfl rfl) ?_; clear hE a; intro a hE
  have hval : validR ({ x_3 with lsn := m } : Rc) = true := hcv.1 (by omega)
  refine l_go hE rfl (o_call hE rfl rfl rfl rfl ent_47 (PApply_spec (rc := ({ x_3 with lsn := m } : Rc)) (hI.bring 1) (hP1.mono hD9) (hS.mono (hD1.trans hD9)) ⟨_, _, rfl, hk12, hv13, ho14.lsn (n := m) (by omega) (by omega)⟩) ?_)
  clear hI hE a
  rintro r w h a hE; rcases h with ⟨P20, hap21, rfl, D22, s23, hD24, hP25, hI⟩ | ⟨hap21, rfl, hI, hP25⟩
  ·skip
   replace hI := hI.put_back 1
   try simp only [nrm, Value.cells] at hI
   refine gs hE (p_not rfl) ?_; clear hE a; intro a hE
   refine zs hE (p_pick (b := false) rfl rfl) ?_; clear hE a; intro a hE
   refine wnt ?_
   refine c_false hE rfl ?_
   refine wp_skip ?_
   refine then_normal ?_
   refine wp_region_list ?_
   refine zm hE ?_; clear hE a; intro a hE
   refine zs hE (p_arith (z := m + 1) rfl rfl (add_z rfl (by omega) (by omega))) ?_; clear hE a; intro a hE
   refine za hE ?_; clear hE a; intro a hE
   refine wpList_nil ?_
   refine blk_normal ?_
   refine then_normal ?_
   refine wp_region_list ?_
   refine zm hE ?_; clear hE a; intro a hE
   refine zs hE (p_arith (z := ((i + 1 : Nat) : Int)) rfl rfl (add_z (by omega) (by omega) (by omega))) ?_; clear hE a; intro a hE
   refine za hE ?_; clear hE a; intro a hE
   refine wnt ?_
   replace hI := hI.erase 0
   exact ⟨(D22, i + 1, P20, m + 1, _), hE.pick [0, 1, 2, 8], ⟨by show i + 1 ≤ _; omega, ((hD1.trans hD9).trans hD24), heq.trans (by rw [laidP_at hx_3, if_neg (by rw [hval]; exact Bool.noConfusion), hap21]), by show m + 1 = n + ((i + 1 : Nat) : Int); omega, hP25, hI⟩, by show l.length - (i + 1) < l.length - i; omega⟩
  replace hI := hI.put_back 1
  try simp only [nrm, Value.cells] at hI
  refine gs hE (p_not rfl) ?_; clear hE a; intro a hE
  refine zs hE (p_pick (b := false) rfl rfl) ?_; clear hE a; intro a hE
  refine wnt ?_
  refine c_true hE rfl ?_
  refine wsr ?_
  refine zm hE ?_; clear hE a; intro a hE
  refine za hE ?_; clear hE a; intro a hE
  refine za hE ?_; clear hE a; intro a hE
  refine wnt ?_
  refine wp_ret ?_
  refine then_ret ?_
  refine blk_ret ?_
  refine then_ret ?_
  refine then_ret ?_
  refine blk_ret ?_
  refine then_ret ?_
  refine ret2 rfl hE rfl rfl ?_
  replace hI := hI.erase 0
  exact ⟨_, _, _, (hD1.trans hD9), hP25, hI, .inr ⟨by rw [heq, laidP_at hx_3, if_neg (by rw [hval]; exact Bool.noConfusion), hap21], m, rfl⟩⟩
 intro hlt; replace hlt := lss_f hlt; clear hE a; intro a hE
 refine wnt ?_
 refine c_false hE rfl ?_
 refine wp_exit ?_
 refine then_exit ?_
 refine then_exit ?_
 refine blk_same ?_
 refine then_normal ?_
 refine wsr ?_
 refine zm hE ?_; clear hE a; intro a hE
 refine za hE ?_; clear hE a; intro a hE
 refine za hE ?_; clear hE a; intro a hE
 refine wnt ?_
 refine wp_ret ?_
 refine ret2 rfl hE rfl rfl ?_
 exact ⟨_, _, _, hD1, hP1, hI, .inl ⟨m, by rw [heq, List.drop_of_length_le (by omega)]; rfl, rfl⟩⟩
theorem Make_spec {w0 w : World} {D : Sto} {ss : List Seg} (hI : Inv w0 D ss w) :
  Calls Tryd.prog 48 #[] w (Ret fun r w' => ∃ D', Le D D' ∧ Inv w0 D' ss w' ∧ DR 10 RcR D' r makeR) := by
 refine enter (N := 7) Tryd.func48 rfl rfl rfl ?_
 intro a hE
 refine wsr ?_
 refine za hE ?_; clear hE a; intro a hE
 refine wnt ?_
 refine wsr ?_
 refine zs hE (f_build (vs := [(4, _), (5, _)]) (l := [_, _, _, _, _, _, _, _, _, _]) rfl built_88 rfl) ?_; clear hE a; intro a hE
 refine zs hE (f_build (vs := [(4, _), (5, _)]) (l := [_, _, _, _, _, _, _, _, _, _]) rfl built_88 rfl) ?_; clear hE a; intro a hE
 refine l_step rfl (o_call hE rfl rfl rfl rfl ent_95 (name_spec hI) ?_)
 clear hI hE a
 rintro r w ⟨D1, hD2, hI, hb3⟩ a hE
 obtain ⟨A4, c5, rfl, _⟩ := hb3.slice
 refine l_step rfl (o_call hE rfl rfl rfl rfl ent_96 (counts_spec hI 2 0) ?_)
 clear hI hE a
 rintro r w ⟨D6, hD7, hI, hb8⟩ a hE
 obtain ⟨A9, c10, rfl, _⟩ := hb8.slice
 refine zs hE (f_build (vs := [(4, _), (5, _), (7, _), (8, _)]) (l := [_, _, _, _, _, _, _, _, _, _]) rfl built_88 rfl) ?_; clear hE a; intro a hE
 refine l_step rfl (f_lit (vs := [(0, _), (1, _), (2, _)]) (l := [_, _, _, _, _, _, _, _, _, _, _, _, _, _, _, _, _, _, _, _, _, _, _, _, _, _, _, _, _, _]) hE hI rfl rfl rfl rfl Tryd.underlying62 zs_88 rfl rfl rfl ?_)
 clear hI hE a w; intro a b11 w hE hI
 refine za hE ?_; clear hE a; intro a hE
 refine wnt ?_
 refine wp_ret ?_
 refine ret1 rfl hE rfl ?_
 have hr1 : RcR D6 _ ({ page := 0, kind := 1 } : Rc) := ⟨_, _, rfl, RB.nil _, RB.nil _, ROk.of0 rfl (by simp) (by simp) (by simp) (by simp)⟩
 have hr2 : RcR D6 _ ({ page := 1, kind := 1 } : Rc) := ⟨_, _, rfl, RB.nil _, RB.nil _, ROk.of0 rfl (by simp) (by simp) (by simp) (by simp)⟩
 have hr3 : RcR D6 _ ({ page := 1, kind := 2, key := [110], val := twoB 2 ++ twoB 0 } : Rc) := ⟨_, _, rfl, (hb3.mono hD7), hb8, ROk.of0 rfl (by simp) (by simp) (by simp) (by simp [twoB])⟩
 obtain ⟨D9, hDz, hIa, hL⟩ := DR.lits (n := 3) (l := [{ page := 0, kind := 1 }, { page := 1, kind := 1 }, { page := 1, kind := 2, key := [110], val := twoB 2 ++ twoB 0 }]) 0 hI rfl rfl rfl (by omega) (At.lit3 (size := 10) (by rfl) (by rfl) (by rfl) hr1 hr2 hr3)
 exact ⟨D9, (hD2.trans hD7).trans hDz, hIa, hL⟩
end Go.Proofs.YtbogbnkckofpdaaDoor.B
