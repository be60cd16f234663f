/- What functions of the program compute, each function once: steps over the model, and the plain law of it. -/
import Derived.Test.YtbogbnkckofpdaaDoorTTree6
namespace Go.Proofs.YtbogbnkckofpdaaDoor.B
open Go Go.Proofs
set_option linter.unusedVariables false
set_option linter.unusedSimpArgs false
set_option maxRecDepth 20000
set_option maxHeartbeats 8000000
namespace FTLaw21
theorem agg_88 : aggSize Tryd.prog 88 = some 10 := by kernel_rfl
theorem built_88 : ∀ vs, Tryd.prog.built 88 vs = Instr.fill (([(0, 1), (1, 1), (2, 1), (3, 1), (4, 1), (5, 1), (6, 1), (7, 1), (8, 1), (9, 1)] : List (Nat × Nat)).toArray[·]?) ([.int .i64 0, .int .i64 0, .int .i64 0, .int .i64 0, .int .i64 0, .int .i64 0, .int .i64 0, .slice none 0 0, .slice none 0 0, .bool false] : List Value).toArray vs := fun _ => by kernel_rfl
theorem ent_27 : enters Tryd.prog 27 = true := by kernel_rfl
theorem ent_47 : enters Tryd.prog 47 = true := by kernel_rfl
theorem ent_76 : enters Tryd.prog 76 = true := by kernel_rfl
theorem ent_95 : enters Tryd.prog 95 = true := by kernel_rfl
theorem ent_96 : enters Tryd.prog 96 = true := by kernel_rfl
theorem fo_88_0 : fieldOff Tryd.prog 88 0 = some 0 := by kernel_rfl
theorem fo_88_1 : fieldOff Tryd.prog 88 1 = some 1 := by kernel_rfl
theorem fo_88_2 : fieldOff Tryd.prog 88 2 = some 2 := by kernel_rfl
theorem fo_88_3 : fieldOff Tryd.prog 88 3 = some 3 := by kernel_rfl
theorem fo_88_4 : fieldOff Tryd.prog 88 4 = some 4 := by kernel_rfl
theorem fo_88_5 : fieldOff Tryd.prog 88 5 = some 5 := by kernel_rfl
theorem fo_88_6 : fieldOff Tryd.prog 88 6 = some 6 := by kernel_rfl
theorem fo_88_7 : fieldOff Tryd.prog 88 7 = some 7 := by kernel_rfl
theorem fo_88_8 : fieldOff Tryd.prog 88 8 = some 8 := by kernel_rfl
theorem fo_88_9 : fieldOff Tryd.prog 88 9 = some 9 := by kernel_rfl
theorem scal_2 : isScal Tryd.prog 2 = true := by kernel_rfl
theorem scal_22 : isScal Tryd.prog 22 = true := by kernel_rfl
theorem scal_3 : isScal Tryd.prog 3 = true := by kernel_rfl
theorem scal_4 : isScal Tryd.prog 4 = true := by kernel_rfl
theorem sz_2 : (Tryd.prog.info? 2).map (·.size) = some 1 := by kernel_rfl
theorem sz_88 : (Tryd.prog.info? 88).map (·.size) = some 10 := by kernel_rfl
theorem zer_88 : (Tryd.prog.info? 88).bind (·.zero) = some (.agg #[.int .i64 0, .int .i64 0, .int .i64 0, .int .i64 0, .int .i64 0, .int .i64 0, .int .i64 0, .slice none 0 0, .slice none 0 0, .bool false]) := by kernel_rfl
theorem zs_88 : (Tryd.prog.info? 88).map (fun i => (i.zero, i.size)) = some (some (.agg #[.int .i64 0, .int .i64 0, .int .i64 0, .int .i64 0, .int .i64 0, .int .i64 0, .int .i64 0, .slice none 0 0, .slice none 0 0, .bool false]), 10) := by kernel_rfl
end FTLaw21
open FTLaw21
theorem refBytes_data {w0 w : World} {D : Sto} {ss : List Seg} (hI : Inv w0 D ss w) {vb : Value} {bs : List Nat} (hb : RB D vb bs) (hm : bs.length ≤ 140737488355000) :
    Calls Tryd.prog 27 #[vb] w (Ret fun r w' => ∃ D', Le D D' ∧ Inv w0 D' ss w' ∧ RB D' r bs) :=
  (refBytes_spec hI hb hm).mono fun _ _ h => h.imp fun _ _ h => OB.data h hb.lt
/-- What the document's own test says of a record. -/
theorem laidP_at {P : Pl} {l : List Rc} {i : Nat} {m : Int} {x : Rc} (hx : l[i]? = some x) : laidP P (l.drop i) m = if validR { x with lsn := m } = false then none else match P.apply { x with lsn := m } with
    | none => none
    | some P => laidP P (l.drop (i + 1)) (m + 1) := by
  obtain ⟨h1, h2⟩ := List.getElem?_eq_some_iff.1 hx
  rw [List.drop_eq_getElem_cons h1, h2, laidP]
  split
  · rfl
  cases P.apply { x with lsn := m } <;> rfl
def E0 : Pl := ((laidP Pl.empty makeR 1).getD (Pl.empty, 0)).1
theorem E0_laid : laidP Pl.empty makeR 1 = some (E0, 4) := by
  have h : (laidP Pl.empty makeR 1).map (·.2) = some 4 := by decide +kernel
  obtain ⟨⟨P, n⟩, h1, h2⟩ := Option.map_eq_some_iff.1 h
  have h3 : n = 4 := h2
  subst h3
  rw [E0, h1]; rfl
theorem refRedo_spec {w0 w : World} {D : Sto} {ss : List Seg} (hI : Inv w0 D ss w) {vr : Value} {rc : Rc} (hr : RcV D vr rc) :
    Calls Tryd.prog 76 #[vr] w (Ret fun r w' => ∃ D', Le D D' ∧ Inv w0 D' ss w' ∧ RcV D' r rc) := by
  obtain ⟨k1, v2, rfl, hk3, hv4, ho5⟩ := hr
  obtain ⟨A6, c7, rfl, _⟩ := hk3.slice
  obtain ⟨A8, c9, rfl, _⟩ := hv4.slice
  refine enter (N := 26) Tryd.func76 rfl rfl rfl ?_
  intro a hE
  refine wsr ?_
  refine l_step rfl (f_box (cs := #[_, _, _, _, _, _, _, _, _, _]) hE hI rfl rfl rfl rfl rfl ?_)
  clear hI hE a w; intro a b10 w hE hI
  refine l_step rfl (f_alloc (cs := #[.int .i64 0, .int .i64 0, .int .i64 0, .int .i64 0, .int .i64 0, .int .i64 0, .int .i64 0, .slice none 0 0, .slice none 0 0, .bool false]) hE hI rfl rfl rfl zer_88 rfl ?_)
  clear hI hE a w; intro a b11 w hE hI
  refine wnt ?_
  refine wp_seq ?_
  refine d_start [23] [] (by kernel_rfl) hI rfl rfl ?_
  clear hI w; intro w hI
  refine d_pure 0 hE rfl (by kernel_rfl) (by kernel_rfl) (by kernel_rfl) rfl (fun _ _ _ h => h) rfl rfl rfl (p_fieldAddr (m := 0) rfl fo_88_0 rfl) (fun _ => hI) (listed' := #[true, false, false, false, false, false, false, false, false, false, false, false, false, false, false, false, false, false, false, false, false, false, false, false]) rfl ?_; clear hE a; intro a hE
  refine d_load 1 hE rfl (by kernel_rfl) (by kernel_rfl) (by kernel_rfl) (by kernel_rfl) (by kernel_rfl) rfl rfl (fun _ _ _ h => h) rfl rfl rfl (fun w hS => f_load rfl scal_2 (Inv.seg 1 hS rfl) rfl) (hI) (listed' := #[true, true, false, false, false, false, false, false, false, false, false, false, false, false, false, false, false, false, false, false, false, false, false, false]) rfl ?_; clear hE a; intro a hE
  refine d_pure 2 hE rfl (by kernel_rfl) (by kernel_rfl) (by kernel_rfl) rfl (fun _ _ _ h => h) rfl rfl rfl (p_fieldAddr (m := 1) rfl fo_88_1 rfl) (fun _ => hI) (listed' := #[true, true, true, false, false, false, false, false, false, false, false, false, false, false, false, false, false, false, false, false, false, false, false, false]) rfl ?_; clear hE a; intro a hE
  refine d_load 3 hE rfl (by kernel_rfl) (by kernel_rfl) (by kernel_rfl) (by kernel_rfl) (by kernel_rfl) rfl rfl (fun _ _ _ h => h) rfl rfl rfl (fun w hS => f_load rfl scal_2 (Inv.seg 1 hS rfl) rfl) (hI) (listed' := #[true, true, true, true, false, false, false, false, false, false, false, false, false, false, false, false, false, false, false, false, false, false, false, false]) rfl ?_; clear hE a; intro a hE
  refine d_pure 4 hE rfl (by kernel_rfl) (by kernel_rfl) (by kernel_rfl) rfl (fun _ _ _ h => h) rfl rfl rfl (p_fieldAddr (m := 2) rfl fo_88_2 rfl) (fun _ => hI) (listed' := #[true, true, true, true, true, false, false, false, false, false, false, false, false, false, false, false, false, false, false, false, false, false, false, false]) rfl ?_; clear hE a; intro a hE
  refine d_load 5 hE rfl (by kernel_rfl) (by kernel_rfl) (by kernel_rfl) (by kernel_rfl) (by kernel_rfl) rfl rfl (fun _ _ _ h => h) rfl rfl rfl (fun w hS => f_load rfl scal_3 (Inv.seg 1 hS rfl) rfl) (hI) (listed' := #[true, true, true, true, true, true, false, false, false, false, false, false, false, false, false, false, false, false, false, false, false, false, false, false]) rfl ?_; clear hE a; intro a hE
  refine d_pure 6 hE rfl (by kernel_rfl) (by kernel_rfl) (by kernel_rfl) rfl (fun _ _ _ h => h) rfl rfl rfl (p_fieldAddr (m := 3) rfl fo_88_3 rfl) (fun _ => hI) (listed' := #[true, true, true, true, true, true, true, false, false, false, false, false, false, false, false, false, false, false, false, false, false, false, false, false]) rfl ?_; clear hE a; intro a hE
  refine d_load 7 hE rfl (by kernel_rfl) (by kernel_rfl) (by kernel_rfl) (by kernel_rfl) (by kernel_rfl) rfl rfl (fun _ _ _ h => h) rfl rfl rfl (fun w hS => f_load rfl scal_3 (Inv.seg 1 hS rfl) rfl) (hI) (listed' := #[true, true, true, true, true, true, true, true, false, false, false, false, false, false, false, false, false, false, false, false, false, false, false, false]) rfl ?_; clear hE a; intro a hE
  refine d_pure 8 hE rfl (by kernel_rfl) (by kernel_rfl) (by kernel_rfl) rfl (fun _ _ _ h => h) rfl rfl rfl (p_fieldAddr (m := 4) rfl fo_88_4 rfl) (fun _ => hI) (listed' := #[true, true, true, true, true, true, true, true, true, false, false, false, false, false, false, false, false, false, false, false, false, false, false, false]) rfl ?_; clear hE a; intro a hE
  refine d_load 9 hE rfl (by kernel_rfl) (by kernel_rfl) (by kernel_rfl) (by kernel_rfl) (by kernel_rfl) rfl rfl (fun _ _ _ h => h) rfl rfl rfl (fun w hS => f_load rfl scal_3 (Inv.seg 1 hS rfl) rfl) (hI) (listed' := #[true, true, true, true, true, true, true, true, true, true, false, false, false, false, false, false, false, false, false, false, false, false, false, false]) rfl ?_; clear hE a; intro a hE
  refine d_pure 10 hE rfl (by kernel_rfl) (by kernel_rfl) (by kernel_rfl) rfl (fun _ _ _ h => h) rfl rfl rfl (p_fieldAddr (m := 5) rfl fo_88_5 rfl) (fun _ => hI) (listed' := #[true, true, true, true, true, true, true, true, true, true, true, false, false, false, false, false, false, false, false, false, false, false, false, false]) rfl ?_; clear hE a; intro a hE
  refine d_load 11 hE rfl (by kernel_rfl) (by kernel_rfl) (by kernel_rfl) (by kernel_rfl) (by kernel_rfl) rfl rfl (fun _ _ _ h => h) rfl rfl rfl (fun w hS => f_load rfl scal_3 (Inv.seg 1 hS rfl) rfl) (hI) (listed' := #[true, true, true, true, true, true, true, true, true, true, true, true, false, false, false, false, false, false, false, false, false, false, false, false]) rfl ?_; clear hE a; intro a hE
  refine d_pure 12 hE rfl (by kernel_rfl) (by kernel_rfl) (by kernel_rfl) rfl (fun _ _ _ h => h) rfl rfl rfl (p_fieldAddr (m := 6) rfl fo_88_6 rfl) (fun _ => hI) (listed' := #[true, true, true, true, true, true, true, true, true, true, true, true, true, false, false, false, false, false, false, false, false, false, false, false]) rfl ?_; clear hE a; intro a hE
  refine d_load 13 hE rfl (by kernel_rfl) (by kernel_rfl) (by kernel_rfl) (by kernel_rfl) (by kernel_rfl) rfl rfl (fun _ _ _ h => h) rfl rfl rfl (fun w hS => f_load rfl scal_3 (Inv.seg 1 hS rfl) rfl) (hI) (listed' := #[true, true, true, true, true, true, true, true, true, true, true, true, true, true, false, false, false, false, false, false, false, false, false, false]) rfl ?_; clear hE a; intro a hE
  refine d_pure 14 hE rfl (by kernel_rfl) (by kernel_rfl) (by kernel_rfl) rfl (fun _ _ _ h => h) rfl rfl rfl (p_fieldAddr (m := 7) rfl fo_88_7 rfl) (fun _ => hI) (listed' := #[true, true, true, true, true, true, true, true, true, true, true, true, true, true, true, false, false, false, false, false, false, false, false, false]) rfl ?_; clear hE a; intro a hE
  refine d_load 15 hE rfl (by kernel_rfl) (by kernel_rfl) (by kernel_rfl) (by kernel_rfl) (by kernel_rfl) rfl rfl (fun _ _ _ h => h) rfl rfl rfl (fun w hS => f_load rfl scal_22 (Inv.seg 1 hS rfl) rfl) (hI) (listed' := #[true, true, true, true, true, true, true, true, true, true, true, true, true, true, true, true, false, false, false, false, false, false, false, false]) rfl ?_; clear hE a; intro a hE
  refine d_pure 17 hE rfl (by kernel_rfl) (by kernel_rfl) (by kernel_rfl) rfl (fun _ _ _ h => h) rfl rfl rfl (p_fieldAddr (m := 8) rfl fo_88_8 rfl) (fun _ => hI) (listed' := #[true, true, true, true, true, true, true, true, true, true, true, true, true, true, true, true, false, true, false, false, false, false, false, false]) rfl ?_; clear hE a; intro a hE
  refine d_load 18 hE rfl (by kernel_rfl) (by kernel_rfl) (by kernel_rfl) (by kernel_rfl) (by kernel_rfl) rfl rfl (fun _ _ _ h => h) rfl rfl rfl (fun w hS => f_load rfl scal_22 (Inv.seg 1 hS rfl) rfl) (hI) (listed' := #[true, true, true, true, true, true, true, true, true, true, true, true, true, true, true, true, false, true, true, false, false, false, false, false]) rfl ?_; clear hE a; intro a hE
  refine d_pure 20 hE rfl (by kernel_rfl) (by kernel_rfl) (by kernel_rfl) rfl (fun _ _ _ h => h) rfl rfl rfl (p_fieldAddr (m := 9) rfl fo_88_9 rfl) (fun _ => hI) (listed' := #[true, true, true, true, true, true, true, true, true, true, true, true, true, true, true, true, false, true, true, false, true, false, false, false]) rfl ?_; clear hE a; intro a hE
  refine d_load 21 hE rfl (by kernel_rfl) (by kernel_rfl) (by kernel_rfl) (by kernel_rfl) (by kernel_rfl) rfl rfl (fun _ _ _ h => h) rfl rfl rfl (fun w hS => f_load rfl scal_4 (Inv.seg 1 hS rfl) rfl) (hI) (listed' := #[true, true, true, true, true, true, true, true, true, true, true, true, true, true, true, true, false, true, true, false, true, true, false, false]) rfl ?_; clear hE a; intro a hE
  refine d_one 16 hE rfl (by kernel_rfl) rfl (listed' := #[true, true, true, true, true, true, true, true, true, true, true, true, true, true, true, true, true, true, true, false, true, true, false, false]) rfl ?_
  refine o_call hE rfl rfl rfl rfl ent_27 (refBytes_data (bs := rc.key) hI hk3 (by have := ho5.k; have := ho5.v; omega)) ?_
  clear hI hE a
  rintro r w ⟨D12, hD13, hI, hb14⟩ a hE
  obtain ⟨A15, c16, rfl, _⟩ := hb14.slice
  refine ⟨fun _ => (Inv.weaken hI hD13), ?_⟩
  refine d_one 19 hE rfl (by kernel_rfl) rfl (listed' := #[true, true, true, true, true, true, true, true, true, true, true, true, true, true, true, true, true, true, true, true, true, true, false, false]) rfl ?_
  refine o_call hE rfl rfl rfl rfl ent_27 (refBytes_data (bs := rc.val) hI (hv4.mono hD13) (by have := ho5.k; have := ho5.v; omega)) ?_
  clear hI hE a
  rintro r w ⟨D17, hD18, hI, hb19⟩ a hE
  obtain ⟨A20, c21, rfl, _⟩ := hb19.slice
  refine ⟨fun _ => (Inv.weaken hI (hD13.trans hD18)), ?_⟩
  refine d_pure 22 hE rfl (by kernel_rfl) (by kernel_rfl) (by kernel_rfl) rfl (fun _ _ _ h => h) rfl rfl rfl (f_build (vs := [(0, _), (1, _), (2, _), (3, _), (4, _), (5, _), (6, _), (7, _), (8, _), (9, _)]) (l := [_, _, _, _, _, _, _, _, _, _]) rfl built_88 rfl) (fun _ => (Inv.weaken hI (hD13.trans hD18))) (listed' := #[true, true, true, true, true, true, true, true, true, true, true, true, true, true, true, true, true, true, true, true, true, true, true, false]) rfl ?_; clear hE a; intro a hE
  refine d_one 23 hE rfl (by kernel_rfl) rfl (listed' := #[true, true, true, true, true, true, true, true, true, true, true, true, true, true, true, true, true, true, true, true, true, true, true, true]) rfl ?_
  refine f_store (l := [_, _, _, _, _, _, _, _, _, _]) (ss' := _ :: _) 0 hE hI rfl rfl rfl rfl rfl sz_88 (by simp [Value.cells, Value.oneCell', pgCells, rcCells, zPg]) rfl rfl rfl ?_
  clear hI w; intro w hI
  refine ⟨(fun h => Bool.noConfusion (show false = true from h)), ?_⟩
  refine d_done (by kernel_rfl) ?_
  refine then_normal ?_
  refine wp_ret ?_
  refine retc1 rfl hE rfl agg_88 (hI.seg 0 rfl) rfl ?_
  exact ⟨_, (hD13.trans hD18), hI.drop.drop, ⟨_, _, rfl, (hb14.mono hD18), hb19, ho5⟩⟩
theorem Make_spec {w0 w : World} {D : Sto} {ss : List Seg} (hI : Inv w0 D ss w) :
    Calls Tryd.prog 48 #[] w (Ret fun r w' => ∃ D', Le D D' ∧ Inv w0 D' ss w' ∧ DR 10 RcR D' r makeR) := by
  refine enter (N := 7) Tryd.func48 rfl rfl rfl ?_
  intro a hE
  refine wsr ?_
  refine qa hE rfl rfl rfl rfl rfl ?_; clear hE a; intro a hE
  refine wnt ?_
  refine wsr ?_
  refine qs hE rfl rfl rfl (f_build (vs := [(4, _), (5, _)]) (l := [_, _, _, _, _, _, _, _, _, _]) rfl built_88 rfl) ?_; clear hE a; intro a hE
  refine qs hE rfl rfl rfl (f_build (vs := [(4, _), (5, _)]) (l := [_, _, _, _, _, _, _, _, _, _]) rfl built_88 rfl) ?_; clear hE a; intro a hE
  refine l_step rfl (o_call hE rfl rfl rfl rfl ent_95 (name_spec hI) ?_)
  clear hI hE a
  rintro r w ⟨D1, hD2, hI, hb3⟩ a hE
  obtain ⟨A4, c5, rfl, _⟩ := hb3.slice
  refine l_step rfl (o_call hE rfl rfl rfl rfl ent_96 (counts_spec hI 2 0) ?_)
  clear hI hE a
  rintro r w ⟨D6, hD7, hI, hb8⟩ a hE
  obtain ⟨A9, c10, rfl, _⟩ := hb8.slice
  refine qs hE rfl rfl rfl (f_build (vs := [(4, _), (5, _), (7, _), (8, _)]) (l := [_, _, _, _, _, _, _, _, _, _]) rfl built_88 rfl) ?_; clear hE a; intro a hE
  refine l_step rfl (f_lit (vs := [(0, _), (1, _), (2, _)]) (l := [_, _, _, _, _, _, _, _, _, _, _, _, _, _, _, _, _, _, _, _, _, _, _, _, _, _, _, _, _, _]) hE hI rfl rfl rfl rfl Tryd.underlying62 zs_88 rfl rfl rfl ?_)
  clear hI hE a w; intro a b11 w hE hI
  refine qa hE rfl rfl rfl rfl rfl ?_; clear hE a; intro a hE
  refine wnt ?_
  refine wp_ret ?_
  refine ret1 rfl hE rfl ?_
  have hr1 : RcR D6 _ ({ page := 0, kind := 1 } : Rc) := ⟨_, _, rfl, RB.nil _, RB.nil _, ROk.of0 rfl (by simp) (by simp) (by simp) (by simp)⟩
  have hr2 : RcR D6 _ ({ page := 1, kind := 1 } : Rc) := ⟨_, _, rfl, RB.nil _, RB.nil _, ROk.of0 rfl (by simp) (by simp) (by simp) (by simp)⟩
  have hr3 : RcR D6 _ ({ page := 1, kind := 2, key := [110], val := twoB 2 ++ twoB 0 } : Rc) := ⟨_, _, rfl, (hb3.mono hD7), hb8, ROk.of0 rfl (by simp) (by simp) (by simp) (by simp [twoB])⟩
  obtain ⟨D9, hDz, hIa, hL⟩ := DR.lits (n := 3) (l := [{ page := 0, kind := 1 }, { page := 1, kind := 1 }, { page := 1, kind := 2, key := [110], val := twoB 2 ++ twoB 0 }]) 0 hI rfl rfl rfl (by omega) (At.lit3 (size := 10) (by rfl) (by rfl) (by rfl) hr1 hr2 hr3)
  exact ⟨D9, (hD2.trans hD7).trans hDz, hIa, hL⟩
end Go.Proofs.YtbogbnkckofpdaaDoor.B
