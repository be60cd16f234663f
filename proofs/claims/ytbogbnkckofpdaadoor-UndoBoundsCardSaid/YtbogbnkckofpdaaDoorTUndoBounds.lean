/- What functions of the program compute, each function once: steps over the model, and the plain law of it. -/
import Derived.Test.YtbogbnkckofpdaaDoorTUndoRead3
namespace Go.Proofs.YtbogbnkckofpdaaDoor.B
open Go Go.Proofs
set_option linter.unusedVariables false
set_option linter.unusedSimpArgs false
set_option maxRecDepth 20000
set_option maxHeartbeats 8000000
namespace FTUndoBounds
theorem agg_34 : aggSize Tryd.prog 34 = some 5 := by kernel_rfl
theorem built_34 : ∀ vs, Tryd.prog.built 34 vs = Instr.fill (([(0, 1), (1, 1), (2, 1), (3, 1), (4, 1)] : List (Nat × Nat)).toArray[·]?) ([.int .i64 0, .int .i64 0, .slice none 0 0, .bool false, .slice none 0 0] : List Value).toArray vs := fun _ => by kernel_rfl
theorem ent_14 : enters Tryd.prog 14 = true := by kernel_rfl
theorem ent_15 : enters Tryd.prog 15 = true := by kernel_rfl
theorem ent_16 : enters Tryd.prog 16 = true := by kernel_rfl
theorem ent_20 : enters Tryd.prog 20 = true := by kernel_rfl
theorem ent_21 : enters Tryd.prog 21 = true := by kernel_rfl
theorem ent_22 : enters Tryd.prog 22 = true := by kernel_rfl
theorem ent_23 : enters Tryd.prog 23 = true := by kernel_rfl
theorem ent_24 : enters Tryd.prog 24 = true := by kernel_rfl
theorem ent_25 : enters Tryd.prog 25 = true := by kernel_rfl
theorem fo_34_2 : fieldOff Tryd.prog 34 2 = some 2 := by kernel_rfl
theorem scal_22 : isScal Tryd.prog 22 = true := by kernel_rfl
theorem sz_34 : (Tryd.prog.info? 34).map (·.size) = some 5 := by kernel_rfl
theorem zer_34 : (Tryd.prog.info? 34).bind (·.zero) = some (.agg #[.int .i64 0, .int .i64 0, .slice none 0 0, .bool false, .slice none 0 0]) := by kernel_rfl
theorem zsb_5 : (Tryd.prog.info? 5).map (fun i => (i.zero, i.size, i.bytes)) = some (some (.int .u8 0), 1, 1) := by kernel_rfl
end FTUndoBounds
open FTUndoBounds
theorem made_zero {b n T : Nat} {D : Sto} (hn : n ≤ 1000) : RB (Sto.put D [(b, .cells (madeCells (Value.cells (.int .u8 0)) (n * 1)) T (0, 0))]) (.slice (some ⟨b, 0, none⟩) n n) (List.replicate n 0) := by
  have h := Row.made (T := T) (b := b) (l := n) (c := n) (z := .int .u8 0) rfl (Nat.le_refl _) (by omega)
  have h2 := Row.made (T := 5) (b := b) (l := n) (c := n) (z := .int .u8 0) rfl (Nat.le_refl _) (by omega)
  refine ⟨some ⟨b, 0, none⟩, n, by simp, by simp, ?_, by simp, fun _ => ⟨b, 0, _, T, (0, 0), rfl, Sto.put_one _ _ _, ?_⟩⟩
  · intro x hx
    rw [List.mem_replicate] at hx
    omega
  · intro i x hi
    rw [List.getElem?_replicate] at hi
    split at hi
    · rename_i hin
      injection hi with hi
      subst hi
      have := madeCells_one (.int .u8 0) rfl (n * 1)
      have h3 : (madeCells (Value.cells (.int .u8 0)) (n * 1)).toList[i]? = some (.int .u8 0) := by
        rw [this, List.getElem?_replicate, if_pos (by omega)]
      simpa using h3
    · cases hi
theorem UndoBounds_spec {w0 w : World} {D : Sto} {ss : List Seg} (hI : Inv w0 D ss w) {ad : Nat → Addr} (hS : Sents D ad) (a0 a1 n tx : Int) (had : Bool) :
    Calls Tryd.prog 4 #[.int .i64 a0, .int .i64 a1, .int .i64 n, .int .i64 tx, .bool had] w (Ret fun r w' => r = .bool true ∧ ∃ D', Le D D' ∧ Inv w0 D' ss w') := by
  have hhad : had = true ↔ had = true := Iff.rfl
  have g101 := hS.g101
  have g103 := hS.g103
  have g105 := hS.g105
  refine enter (N := 137) Tryd.func4 rfl rfl rfl ?_
  intro a hE
  refine wp_seq ?_
  refine wp_region_list ?_   -- region 0
  refine l_step rfl (o_pure hE rfl rfl (p_assign rfl).run ?_); clear hE a; intro a hE
  refine wpList_nil ?_
  refine then_normal ?_
  refine wp_seq ?_
  refine wp_region_list ?_   -- region 1
  refine l_step rfl (o_call hE rfl rfl rfl rfl ent_14 (first23_spec hI g105) ?_)
  clear hI hE a
  rintro r w ⟨rfl, D1, hD2, hI⟩ a hE
  refine l_step rfl (o_pure hE rfl rfl (p_assign rfl).run ?_); clear hE a; intro a hE
  refine wpList_nil ?_
  refine then_normal ?_
  refine wp_seq ?_
  refine wp_seq ?_
  refine wp_region_list ?_   -- region 2
  refine l_step rfl (o_pure hE rfl rfl (p_move rfl).run ?_); clear hE a; intro a hE
  refine l_step rfl (o_pure hE rfl rfl (p_not rfl).run ?_); clear hE a; intro a hE
  refine wpList_nil ?_
  refine then_normal ?_
  refine c_false hE rfl ?_
  refine wp_skip ?_
  refine then_normal ?_
  refine wp_seq ?_
  refine wp_region_list ?_   -- region 4
  refine l_step rfl (o_pure hE rfl rfl (p_move rfl).run ?_); clear hE a; intro a hE
  refine l_step rfl (o_call hE rfl rfl rfl rfl ent_20 (Number_spec hI a0 (m := 40) (by omega) (by omega)) ?_)
  clear hI hE a
  rintro r w ⟨⟨z1, rfl, hz10, hz11⟩, hI⟩ a hE
  obtain ⟨z1, rfl⟩ : ∃ q : Nat, z1 = q := ⟨z1.toNat, by omega⟩
  refine l_step rfl (o_pure hE rfl rfl (p_assign rfl).run ?_); clear hE a; intro a hE
  refine wpList_nil ?_
  refine then_normal ?_
  refine wp_seq ?_
  refine wp_region_list ?_   -- region 5
  refine l_step rfl (o_pure hE rfl rfl (p_move rfl).run ?_); clear hE a; intro a hE
  refine l_step rfl (o_call hE rfl rfl rfl rfl ent_20 (Number_spec hI a1 (m := 50) (by omega) (by omega)) ?_)
  clear hI hE a
  rintro r w ⟨⟨z2, rfl, hz20, hz21⟩, hI⟩ a hE
  obtain ⟨z2, rfl⟩ : ∃ q : Nat, z2 = q := ⟨z2.toNat, by omega⟩
  refine l_step rfl (o_pure hE rfl rfl (p_assign rfl).run ?_); clear hE a; intro a hE
  refine wpList_nil ?_
  refine then_normal ?_
  refine c_cut (N := 137) (X := Nat × Sto × Value × Value) (fun x => [(0, .int .i64 (z1 : Nat)), (1, .int .i64 (z2 : Nat)), (2, .int .i64 n), (3, .int .i64 tx), (4, .bool had), (11, .bool true), (12, .pointer (some ⟨x.1, 0, none⟩))]) (fun x w => Le D1 x.2.1 ∧ Inv w0 x.2.1 ([(x.1, .cells #[.int .i64 tx, .int .i64 n, x.2.2.1, .bool had, x.2.2.2] 34 (0, 0))] :: ss) w ∧ RB x.2.1 x.2.2.1 (List.replicate z1 0) ∧ RB x.2.1 x.2.2.2 (List.replicate z2 0)) ?_ ?_
  · skip
    refine d_start [] [] (by kernel_rfl) hI rfl rfl ?_   -- region 6 draws its order
    clear hI w; intro w hI
    refine d_pure 0 hE rfl (by kernel_rfl) (by kernel_rfl) (by kernel_rfl) rfl (fun _ _ _ h => h) rfl rfl rfl (p_move rfl) (fun _ => hI) (listed' := #[true, false, false, false, false, false, false, false, false, false]) rfl ?_; clear hE a; intro a hE
    refine d_pure 1 hE rfl (by kernel_rfl) (by kernel_rfl) (by kernel_rfl) rfl (fun _ _ _ h => h) rfl rfl rfl (p_move rfl) (fun _ => hI) (listed' := #[true, true, false, false, false, false, false, false, false, false]) rfl ?_; clear hE a; intro a hE
    refine d_pure 2 hE rfl (by kernel_rfl) (by kernel_rfl) (by kernel_rfl) rfl (fun _ _ _ h => h) rfl rfl rfl (p_move rfl) (fun _ => hI) (listed' := #[true, true, true, false, false, false, false, false, false, false]) rfl ?_; clear hE a; intro a hE
    refine d_pure 4 hE rfl (by kernel_rfl) (by kernel_rfl) (by kernel_rfl) rfl (fun _ _ _ h => h) rfl rfl rfl (p_move rfl) (fun _ => hI) (listed' := #[true, true, true, false, true, false, false, false, false, false]) rfl ?_; clear hE a; intro a hE
    refine d_pure 5 hE rfl (by kernel_rfl) (by kernel_rfl) (by kernel_rfl) rfl (fun _ _ _ h => h) rfl rfl rfl (p_move rfl) (fun _ => hI) (listed' := #[true, true, true, false, true, true, false, false, false, false]) rfl ?_; clear hE a; intro a hE
    refine d_each (r := 3) (rs := [6, 8]) (by kernel_rfl) ⟨?_, ?_, ?_, trivial⟩
    · refine d_goes hE rfl rfl (listed' := #[true, true, true, true, true, true, false, false, false, false]) rfl ?_
      refine f_make hE hI rfl rfl rfl rfl rfl Tryd.underlying22 zsb_5 (by omega) (by omega) (by omega) (by omega) ?_
      clear hI hE a w; intro a b3 w hE hI
      refine ⟨fun _ => (hI.dropS [0]), ?_⟩
      refine d_two 6 8 hE rfl rfl (by kernel_rfl) rfl rfl (listed' := #[true, true, true, true, true, true, true, false, false, false]) (listed'' := #[true, true, true, true, true, true, false, false, true, false]) rfl rfl ?_ ?_
      · skip
        refine f_make hE hI rfl rfl rfl rfl rfl Tryd.underlying22 zsb_5 (by omega) (by omega) (by omega) (by omega) ?_
        clear hI hE a w; intro a b4 w hE hI
        refine ⟨fun _ => (hI.dropS [1, 0]), ?_⟩
        refine d_pure 7 hE rfl (by kernel_rfl) (by kernel_rfl) (by kernel_rfl) rfl (fun _ _ _ h => h) rfl rfl rfl (f_build (vs := [(0, _), (1, _), (2, _), (3, _), (4, _)]) (l := [_, _, _, _, _]) rfl built_34 rfl) (fun _ => (hI.dropS [1, 0])) (listed' := #[true, true, true, true, true, true, true, true, false, false]) rfl ?_; clear hE a; intro a hE
        refine d_one 8 hE rfl (by kernel_rfl) rfl (listed' := #[true, true, true, true, true, true, true, true, true, false]) rfl ?_
        refine f_alloc (cs := #[.int .i64 0, .int .i64 0, .slice none 0 0, .bool false, .slice none 0 0]) hE hI rfl rfl rfl zer_34 rfl ?_
        clear hI hE a w; intro a b5 w hE hI
        refine ⟨fun _ => (hI.dropS [2, 1, 0]), ?_⟩
        refine d_one 9 hE rfl (by kernel_rfl) rfl (listed' := #[true, true, true, true, true, true, true, true, true, true]) rfl ?_
        refine f_store (l := [_, _, _, _, _]) (ss' := _ :: _) 0 hE hI rfl rfl rfl rfl rfl sz_34 (by simp [Value.cells, Value.oneCell']) rfl rfl rfl ?_
        clear hI w; intro w hI
        refine ⟨fun _ => (hI.dropS [2, 1, 0]), ?_⟩
        refine d_done (by kernel_rfl) ?_
        refine then_normal ?_
        obtain ⟨hI, hl1⟩ := hI.shut_at 2 rfl
        try simp only [splice, insAt, List.set_cons_succ, List.set_cons_zero, List.setIfInBounds_toArray, Value.cells, List.eraseIdx_cons_succ, List.eraseIdx_cons_zero, List.eraseIdx_zero, List.tail_cons] at hI
        obtain ⟨hI, hl2⟩ := hI.shut_at 1 rfl
        try simp only [splice, insAt, List.set_cons_succ, List.set_cons_zero, List.setIfInBounds_toArray, Value.cells, List.eraseIdx_cons_succ, List.eraseIdx_cons_zero, List.eraseIdx_zero, List.tail_cons] at hI
        exact ⟨(_, _, _, _), hE.pick [0, 1, 2, 3, 4, 11, 12], ⟨hl1.trans hl2, hI, (made_zero (by omega)).mono hl2, made_zero (by omega)⟩⟩
      · skip
        refine f_alloc (cs := #[.int .i64 0, .int .i64 0, .slice none 0 0, .bool false, .slice none 0 0]) hE hI rfl rfl rfl zer_34 rfl ?_
        clear hI hE a w; intro a b6 w hE hI
        refine ⟨fun _ => (hI.dropS [1, 0]), ?_⟩
        refine d_one 6 hE rfl (by kernel_rfl) rfl (listed' := #[true, true, true, true, true, true, true, false, true, false]) rfl ?_
        refine f_make hE hI rfl rfl rfl rfl rfl Tryd.underlying22 zsb_5 (by omega) (by omega) (by omega) (by omega) ?_
        clear hI hE a w; intro a b7 w hE hI
        refine ⟨fun _ => (hI.dropS [2, 1, 0]), ?_⟩
        refine d_pure 7 hE rfl (by kernel_rfl) (by kernel_rfl) (by kernel_rfl) rfl (fun _ _ _ h => h) rfl rfl rfl (f_build (vs := [(0, _), (1, _), (2, _), (3, _), (4, _)]) (l := [_, _, _, _, _]) rfl built_34 rfl) (fun _ => (hI.dropS [2, 1, 0])) (listed' := #[true, true, true, true, true, true, true, true, true, false]) rfl ?_; clear hE a; intro a hE
        refine d_one 9 hE rfl (by kernel_rfl) rfl (listed' := #[true, true, true, true, true, true, true, true, true, true]) rfl ?_
        refine f_store (l := [_, _, _, _, _]) (ss' := _ :: _ :: _) 1 hE hI rfl rfl rfl rfl rfl sz_34 (by simp [Value.cells, Value.oneCell']) rfl rfl rfl ?_
        clear hI w; intro w hI
        refine ⟨fun _ => (hI.dropS [2, 1, 0]), ?_⟩
        refine d_done (by kernel_rfl) ?_
        refine then_normal ?_
        obtain ⟨hI, hl1⟩ := hI.shut_at 2 rfl
        try simp only [splice, insAt, List.set_cons_succ, List.set_cons_zero, List.setIfInBounds_toArray, Value.cells, List.eraseIdx_cons_succ, List.eraseIdx_cons_zero, List.eraseIdx_zero, List.tail_cons] at hI
        obtain ⟨hI, hl2⟩ := hI.shut_at 0 rfl
        try simp only [splice, insAt, List.set_cons_succ, List.set_cons_zero, List.setIfInBounds_toArray, Value.cells, List.eraseIdx_cons_succ, List.eraseIdx_cons_zero, List.eraseIdx_zero, List.tail_cons] at hI
        exact ⟨(_, _, _, _), hE.pick [0, 1, 2, 3, 4, 11, 12], ⟨hl1.trans hl2, hI, (made_zero (by omega)).mono hl2, made_zero (by omega)⟩⟩
    · refine d_goes hE rfl rfl (listed' := #[true, true, true, false, true, true, true, false, false, false]) rfl ?_
      refine f_make hE hI rfl rfl rfl rfl rfl Tryd.underlying22 zsb_5 (by omega) (by omega) (by omega) (by omega) ?_
      clear hI hE a w; intro a b8 w hE hI
      refine ⟨fun _ => (hI.dropS [0]), ?_⟩
      refine d_two 3 8 hE rfl rfl (by kernel_rfl) rfl rfl (listed' := #[true, true, true, true, true, true, true, false, false, false]) (listed'' := #[true, true, true, false, true, true, true, false, true, false]) rfl rfl ?_ ?_
      · skip
        refine f_make hE hI rfl rfl rfl rfl rfl Tryd.underlying22 zsb_5 (by omega) (by omega) (by omega) (by omega) ?_
        clear hI hE a w; intro a b9 w hE hI
        refine ⟨fun _ => (hI.dropS [1, 0]), ?_⟩
        refine d_pure 7 hE rfl (by kernel_rfl) (by kernel_rfl) (by kernel_rfl) rfl (fun _ _ _ h => h) rfl rfl rfl (f_build (vs := [(0, _), (1, _), (2, _), (3, _), (4, _)]) (l := [_, _, _, _, _]) rfl built_34 rfl) (fun _ => (hI.dropS [1, 0])) (listed' := #[true, true, true, true, true, true, true, true, false, false]) rfl ?_; clear hE a; intro a hE
        refine d_one 8 hE rfl (by kernel_rfl) rfl (listed' := #[true, true, true, true, true, true, true, true, true, false]) rfl ?_
        refine f_alloc (cs := #[.int .i64 0, .int .i64 0, .slice none 0 0, .bool false, .slice none 0 0]) hE hI rfl rfl rfl zer_34 rfl ?_
        clear hI hE a w; intro a b10 w hE hI
        refine ⟨fun _ => (hI.dropS [2, 1, 0]), ?_⟩
        refine d_one 9 hE rfl (by kernel_rfl) rfl (listed' := #[true, true, true, true, true, true, true, true, true, true]) rfl ?_
        refine f_store (l := [_, _, _, _, _]) (ss' := _ :: _) 0 hE hI rfl rfl rfl rfl rfl sz_34 (by simp [Value.cells, Value.oneCell']) rfl rfl rfl ?_
        clear hI w; intro w hI
        refine ⟨fun _ => (hI.dropS [2, 1, 0]), ?_⟩
        refine d_done (by kernel_rfl) ?_
        refine then_normal ?_
        obtain ⟨hI, hl1⟩ := hI.shut_at 1 rfl
        try simp only [splice, insAt, List.set_cons_succ, List.set_cons_zero, List.setIfInBounds_toArray, Value.cells, List.eraseIdx_cons_succ, List.eraseIdx_cons_zero, List.eraseIdx_zero, List.tail_cons] at hI
        obtain ⟨hI, hl2⟩ := hI.shut_at 1 rfl
        try simp only [splice, insAt, List.set_cons_succ, List.set_cons_zero, List.setIfInBounds_toArray, Value.cells, List.eraseIdx_cons_succ, List.eraseIdx_cons_zero, List.eraseIdx_zero, List.tail_cons] at hI
        exact ⟨(_, _, _, _), hE.pick [0, 1, 2, 3, 4, 11, 12], ⟨hl1.trans hl2, hI, (made_zero (by omega)).mono hl2, made_zero (by omega)⟩⟩
      · skip
        refine f_alloc (cs := #[.int .i64 0, .int .i64 0, .slice none 0 0, .bool false, .slice none 0 0]) hE hI rfl rfl rfl zer_34 rfl ?_
        clear hI hE a w; intro a b11 w hE hI
        refine ⟨fun _ => (hI.dropS [1, 0]), ?_⟩
        refine d_one 3 hE rfl (by kernel_rfl) rfl (listed' := #[true, true, true, true, true, true, true, false, true, false]) rfl ?_
        refine f_make hE hI rfl rfl rfl rfl rfl Tryd.underlying22 zsb_5 (by omega) (by omega) (by omega) (by omega) ?_
        clear hI hE a w; intro a b12 w hE hI
        refine ⟨fun _ => (hI.dropS [2, 1, 0]), ?_⟩
        refine d_pure 7 hE rfl (by kernel_rfl) (by kernel_rfl) (by kernel_rfl) rfl (fun _ _ _ h => h) rfl rfl rfl (f_build (vs := [(0, _), (1, _), (2, _), (3, _), (4, _)]) (l := [_, _, _, _, _]) rfl built_34 rfl) (fun _ => (hI.dropS [2, 1, 0])) (listed' := #[true, true, true, true, true, true, true, true, true, false]) rfl ?_; clear hE a; intro a hE
        refine d_one 9 hE rfl (by kernel_rfl) rfl (listed' := #[true, true, true, true, true, true, true, true, true, true]) rfl ?_
        refine f_store (l := [_, _, _, _, _]) (ss' := _ :: _ :: _) 1 hE hI rfl rfl rfl rfl rfl sz_34 (by simp [Value.cells, Value.oneCell']) rfl rfl rfl ?_
        clear hI w; intro w hI
        refine ⟨fun _ => (hI.dropS [2, 1, 0]), ?_⟩
        refine d_done (by kernel_rfl) ?_
        refine then_normal ?_
        obtain ⟨hI, hl1⟩ := hI.shut_at 0 rfl
        try simp only [splice, insAt, List.set_cons_succ, List.set_cons_zero, List.setIfInBounds_toArray, Value.cells, List.eraseIdx_cons_succ, List.eraseIdx_cons_zero, List.eraseIdx_zero, List.tail_cons] at hI
        obtain ⟨hI, hl2⟩ := hI.shut_at 1 rfl
        try simp only [splice, insAt, List.set_cons_succ, List.set_cons_zero, List.setIfInBounds_toArray, Value.cells, List.eraseIdx_cons_succ, List.eraseIdx_cons_zero, List.eraseIdx_zero, List.tail_cons] at hI
        exact ⟨(_, _, _, _), hE.pick [0, 1, 2, 3, 4, 11, 12], ⟨hl1.trans hl2, hI, (made_zero (by omega)).mono hl2, made_zero (by omega)⟩⟩
    · refine d_goes hE rfl rfl (listed' := #[true, true, true, false, true, true, false, false, true, false]) rfl ?_
      refine f_alloc (cs := #[.int .i64 0, .int .i64 0, .slice none 0 0, .bool false, .slice none 0 0]) hE hI rfl rfl rfl zer_34 rfl ?_
      clear hI hE a w; intro a b13 w hE hI
      refine ⟨fun _ => (hI.dropS [0]), ?_⟩
      refine d_two 3 6 hE rfl rfl (by kernel_rfl) rfl rfl (listed' := #[true, true, true, true, true, true, false, false, true, false]) (listed'' := #[true, true, true, false, true, true, true, false, true, false]) rfl rfl ?_ ?_
      · skip
        refine f_make hE hI rfl rfl rfl rfl rfl Tryd.underlying22 zsb_5 (by omega) (by omega) (by omega) (by omega) ?_
        clear hI hE a w; intro a b14 w hE hI
        refine ⟨fun _ => (hI.dropS [1, 0]), ?_⟩
        refine d_one 6 hE rfl (by kernel_rfl) rfl (listed' := #[true, true, true, true, true, true, true, false, true, false]) rfl ?_
        refine f_make hE hI rfl rfl rfl rfl rfl Tryd.underlying22 zsb_5 (by omega) (by omega) (by omega) (by omega) ?_
        clear hI hE a w; intro a b15 w hE hI
        refine ⟨fun _ => (hI.dropS [2, 1, 0]), ?_⟩
        refine d_pure 7 hE rfl (by kernel_rfl) (by kernel_rfl) (by kernel_rfl) rfl (fun _ _ _ h => h) rfl rfl rfl (f_build (vs := [(0, _), (1, _), (2, _), (3, _), (4, _)]) (l := [_, _, _, _, _]) rfl built_34 rfl) (fun _ => (hI.dropS [2, 1, 0])) (listed' := #[true, true, true, true, true, true, true, true, true, false]) rfl ?_; clear hE a; intro a hE
        refine d_one 9 hE rfl (by kernel_rfl) rfl (listed' := #[true, true, true, true, true, true, true, true, true, true]) rfl ?_
        refine f_store (l := [_, _, _, _, _]) (ss' := _ :: _ :: _ :: _) 2 hE hI rfl rfl rfl rfl rfl sz_34 (by simp [Value.cells, Value.oneCell']) rfl rfl rfl ?_
        clear hI w; intro w hI
        refine ⟨fun _ => (hI.dropS [2, 1, 0]), ?_⟩
        refine d_done (by kernel_rfl) ?_
        refine then_normal ?_
        obtain ⟨hI, hl1⟩ := hI.shut_at 1 rfl
        try simp only [splice, insAt, List.set_cons_succ, List.set_cons_zero, List.setIfInBounds_toArray, Value.cells, List.eraseIdx_cons_succ, List.eraseIdx_cons_zero, List.eraseIdx_zero, List.tail_cons] at hI
        obtain ⟨hI, hl2⟩ := hI.shut_at 0 rfl
        try simp only [splice, insAt, List.set_cons_succ, List.set_cons_zero, List.setIfInBounds_toArray, Value.cells, List.eraseIdx_cons_succ, List.eraseIdx_cons_zero, List.eraseIdx_zero, List.tail_cons] at hI
        exact ⟨(_, _, _, _), hE.pick [0, 1, 2, 3, 4, 11, 12], ⟨hl1.trans hl2, hI, (made_zero (by omega)).mono hl2, made_zero (by omega)⟩⟩
      · skip
        refine f_make hE hI rfl rfl rfl rfl rfl Tryd.underlying22 zsb_5 (by omega) (by omega) (by omega) (by omega) ?_
        clear hI hE a w; intro a b16 w hE hI
        refine ⟨fun _ => (hI.dropS [1, 0]), ?_⟩
        refine d_one 3 hE rfl (by kernel_rfl) rfl (listed' := #[true, true, true, true, true, true, true, false, true, false]) rfl ?_
        refine f_make hE hI rfl rfl rfl rfl rfl Tryd.underlying22 zsb_5 (by omega) (by omega) (by omega) (by omega) ?_
        clear hI hE a w; intro a b17 w hE hI
        refine ⟨fun _ => (hI.dropS [2, 1, 0]), ?_⟩
        refine d_pure 7 hE rfl (by kernel_rfl) (by kernel_rfl) (by kernel_rfl) rfl (fun _ _ _ h => h) rfl rfl rfl (f_build (vs := [(0, _), (1, _), (2, _), (3, _), (4, _)]) (l := [_, _, _, _, _]) rfl built_34 rfl) (fun _ => (hI.dropS [2, 1, 0])) (listed' := #[true, true, true, true, true, true, true, true, true, false]) rfl ?_; clear hE a; intro a hE
        refine d_one 9 hE rfl (by kernel_rfl) rfl (listed' := #[true, true, true, true, true, true, true, true, true, true]) rfl ?_
        refine f_store (l := [_, _, _, _, _]) (ss' := _ :: _ :: _ :: _) 2 hE hI rfl rfl rfl rfl rfl sz_34 (by simp [Value.cells, Value.oneCell']) rfl rfl rfl ?_
        clear hI w; intro w hI
        refine ⟨fun _ => (hI.dropS [2, 1, 0]), ?_⟩
        refine d_done (by kernel_rfl) ?_
        refine then_normal ?_
        obtain ⟨hI, hl1⟩ := hI.shut_at 0 rfl
        try simp only [splice, insAt, List.set_cons_succ, List.set_cons_zero, List.setIfInBounds_toArray, Value.cells, List.eraseIdx_cons_succ, List.eraseIdx_cons_zero, List.eraseIdx_zero, List.tail_cons] at hI
        obtain ⟨hI, hl2⟩ := hI.shut_at 0 rfl
        try simp only [splice, insAt, List.set_cons_succ, List.set_cons_zero, List.setIfInBounds_toArray, Value.cells, List.eraseIdx_cons_succ, List.eraseIdx_cons_zero, List.eraseIdx_zero, List.tail_cons] at hI
        exact ⟨(_, _, _, _), hE.pick [0, 1, 2, 3, 4, 11, 12], ⟨hl1.trans hl2, hI, (made_zero (by omega)).mono hl2, made_zero (by omega)⟩⟩
  · clear hE hI a w; rintro ⟨b, D9, vk, vv⟩ a w hE ⟨hD9, hI, hk, hv⟩
    try dsimp only at hE
    try dsimp only at hD9
    try dsimp only at hI
    try dsimp only at hk
    try dsimp only at hv
    obtain ⟨Ak, ck, rfl, _⟩ := hk.slice
    obtain ⟨Av, cv, rfl, _⟩ := hv.slice
    have hlk : (List.replicate z1 0).length = z1 := List.length_replicate
    have hlv : (List.replicate z2 0).length = z2 := List.length_replicate
    refine wp_seq ?_
    refine wp_region_list ?_   -- region 7
    refine l_step rfl (o_pure hE rfl rfl (p_move rfl).run ?_); clear hE a; intro a hE
    refine l_step rfl (o_pure hE rfl rfl (p_move rfl).run ?_); clear hE a; intro a hE
    refine l_step rfl (o_call hE rfl rfl rfl rfl ent_15 (Key_spec hI (g105.mono (hD2.trans hD9)) tx n) ?_)
    clear hI hE a
    rintro r w h a hE; rcases h with ⟨v20, D18, hnum, rfl, hD19, hI, hv21⟩ | ⟨hnum, rfl, hI⟩
    · skip
      obtain ⟨A22, c23, rfl, _⟩ := hv21.slice
      refine l_step rfl (o_pure hE rfl rfl (p_move rfl).run ?_); clear hE a; intro a hE
      refine l_step rfl (o_pure hE rfl rfl (f_extract rfl rfl).run ?_); clear hE a; intro a hE
      refine l_step rfl (o_pure hE rfl rfl (f_extract rfl rfl).run ?_); clear hE a; intro a hE
      refine l_step rfl (o_pure hE rfl rfl (p_assign rfl).run ?_); clear hE a; intro a hE
      refine l_step rfl (o_pure hE rfl rfl (p_assign rfl).run ?_); clear hE a; intro a hE
      refine wpList_nil ?_
      refine then_normal ?_
      refine wp_seq ?_
      refine wp_region_list ?_   -- region 8
      refine l_step rfl (o_pure hE rfl rfl (p_fieldAddr (m := 2) rfl fo_34_2 rfl).run ?_); clear hE a; intro a hE
      refine l_step rfl (o_pure hE rfl rfl (f_load rfl scal_22 (hI.seg 0 rfl) rfl) ?_); clear hE a; intro a hE
      refine l_step rfl (o_call hE rfl rfl rfl rfl ent_16 (UserKey_spec hI (g105.mono ((hD2.trans hD9).trans hD19)) (hk.mono hD19)) ?_)
      clear hI hE a
      rintro r w h a hE; rcases h with ⟨v26, D24, huser, huser2, rfl, hD25, hI, hv27⟩ | ⟨huser, rfl, hI⟩
      · skip
        obtain ⟨A28, c29, rfl, _⟩ := hv27.slice
        refine l_step rfl (o_pure hE rfl rfl (p_move rfl).run ?_); clear hE a; intro a hE
        refine l_step rfl (o_pure hE rfl rfl (f_extract rfl rfl).run ?_); clear hE a; intro a hE
        refine l_step rfl (o_pure hE rfl rfl (f_extract rfl rfl).run ?_); clear hE a; intro a hE
        refine l_step rfl (o_pure hE rfl rfl (p_assign rfl).run ?_); clear hE a; intro a hE
        refine l_step rfl (o_pure hE rfl rfl (p_assign rfl).run ?_); clear hE a; intro a hE
        refine wpList_nil ?_
        refine then_normal ?_
        refine wp_seq ?_
        refine wp_region_list ?_   -- region 9
        refine l_step rfl (o_pure hE rfl rfl (f_loadA (vs := [_, _, _, _, _]) rfl agg_34 (hI.seg 0 rfl) rfl rfl) ?_); clear hE a; intro a hE
        refine l_step rfl (o_call hE rfl rfl rfl rfl ent_21 (UBytes_spec hI (g105.mono (((hD2.trans hD9).trans hD19).trans hD25)) tx n had (hk.mono (hD19.trans hD25)) (hv.mono (hD19.trans hD25)) (by omega)) ?_)
        clear hI hE a
        rintro r w ⟨D30, hD31, h⟩ a hE
        rcases h with ⟨v34, s32, hO, rfl, hI, hR33⟩ | ⟨hO, rfl, hI⟩
        · skip
          obtain ⟨D38, hl37, hI, hR33⟩ := OB.data ⟨_, hR33, hI⟩ (enc_lt hk.lt hv.lt)
          obtain ⟨A35, c36, rfl, _⟩ := hR33.slice
          have hlen := enc_len hO
          refine l_step rfl (o_pure hE rfl rfl (p_move rfl).run ?_); clear hE a; intro a hE
          refine l_step rfl (o_pure hE rfl rfl (f_extract rfl rfl).run ?_); clear hE a; intro a hE
          refine l_step rfl (o_pure hE rfl rfl (f_extract rfl rfl).run ?_); clear hE a; intro a hE
          refine l_step rfl (o_pure hE rfl rfl (p_assign rfl).run ?_); clear hE a; intro a hE
          refine l_step rfl (o_pure hE rfl rfl (p_assign rfl).run ?_); clear hE a; intro a hE
          refine wpList_nil ?_
          refine then_normal ?_
          refine c_cutb [0, 1, 4, 11, 12, 13, 14, 16, 17, 18] 19 (1 ≤ tx ∧ tx ≤ 2251799813685248 ∧ 0 ≤ n ∧ n < 12) hE ?_ ?_
          · skip
            refine wp_region_list ?_   -- region 10
            refine l_step rfl (o_pure hE rfl rfl (p_move rfl).run ?_); clear hE a; intro a hE
            refine l_step rfl (o_cmp hE rfl rfl rfl rfl rfl rfl ?_ ?_)
            · intro q1; replace q1 := geq_t q1; clear hE a; intro a hE
              refine l_step rfl (o_pure hE rfl rfl (p_move rfl).run ?_); clear hE a; intro a hE
              refine l_go hE rfl (o_pure hE rfl rfl (p_move rfl).run ?_); clear hE a; intro a hE
              refine l_go hE rfl (o_cmp hE rfl rfl rfl rfl rfl rfl ?_ ?_)
              · intro q2; replace q2 := leq_t q2; clear hE a; intro a hE
                refine l_step rfl (o_pure hE rfl rfl (p_pick (b := true) rfl rfl).run ?_); clear hE a; intro a hE
                refine l_step rfl (o_pure hE rfl rfl (p_move rfl).run ?_); clear hE a; intro a hE
                refine l_go hE rfl (o_pure hE rfl rfl (p_move rfl).run ?_); clear hE a; intro a hE
                refine l_go hE rfl (o_cmp hE rfl rfl rfl rfl rfl rfl ?_ ?_)
                · intro q3; replace q3 := geq_t q3; clear hE a; intro a hE
                  refine l_step rfl (o_pure hE rfl rfl (p_pick (b := true) rfl rfl).run ?_); clear hE a; intro a hE
                  refine l_step rfl (o_pure hE rfl rfl (p_move rfl).run ?_); clear hE a; intro a hE
                  refine l_go hE rfl (o_pure hE rfl rfl (p_move rfl).run ?_); clear hE a; intro a hE
                  refine l_go hE rfl (o_cmp hE rfl rfl rfl rfl rfl rfl ?_ ?_)
                  · intro q4; replace q4 := lss_t q4; clear hE a; intro a hE
                    refine l_step rfl (o_pure hE rfl rfl (p_pick (b := true) rfl rfl).run ?_); clear hE a; intro a hE
                    refine l_step rfl (o_pure hE rfl rfl (p_assign rfl).run ?_); clear hE a; intro a hE
                    refine wpList_nil ?_
                    refine then_normal ?_
                    exact ⟨rfl, true, ⟨fun _ => by omega, fun _ => rfl⟩, hE.pick [19, 0, 1, 4, 11, 12, 13, 14, 16, 17, 18]⟩
                  · intro q4; replace q4 := lss_f q4; clear hE a; intro a hE
                    refine l_step rfl (o_pure hE rfl rfl (p_pick (b := true) rfl rfl).run ?_); clear hE a; intro a hE
                    refine l_step rfl (o_pure hE rfl rfl (p_assign rfl).run ?_); clear hE a; intro a hE
                    refine wpList_nil ?_
                    refine then_normal ?_
                    exact ⟨rfl, false, ⟨fun h => Bool.noConfusion h, fun h => absurd h (by omega)⟩, hE.pick [19, 0, 1, 4, 11, 12, 13, 14, 16, 17, 18]⟩
                · intro q3; replace q3 := geq_f q3; clear hE a; intro a hE
                  refine l_step rfl (o_pure hE rfl rfl (p_pick (b := true) rfl rfl).run ?_); clear hE a; intro a hE
                  refine l_step rfl (o_pure hE rfl rfl (p_move rfl).run ?_); clear hE a; intro a hE
                  refine l_skip hE rfl rfl rfl ?_; clear hE a; intro a hE
                  refine l_skip hE rfl rfl rfl ?_; clear hE a; intro a hE
                  refine l_step rfl (o_pure hE rfl rfl (p_pick (b := false) rfl rfl).run ?_); clear hE a; intro a hE
                  refine l_step rfl (o_pure hE rfl rfl (p_assign rfl).run ?_); clear hE a; intro a hE
                  refine wpList_nil ?_
                  refine then_normal ?_
                  exact ⟨rfl, false, ⟨fun h => Bool.noConfusion h, fun h => absurd h (by omega)⟩, hE.pick [19, 0, 1, 4, 11, 12, 13, 14, 16, 17, 18]⟩
              · intro q2; replace q2 := leq_f q2; clear hE a; intro a hE
                refine l_step rfl (o_pure hE rfl rfl (p_pick (b := true) rfl rfl).run ?_); clear hE a; intro a hE
                refine l_step rfl (o_pure hE rfl rfl (p_move rfl).run ?_); clear hE a; intro a hE
                refine l_skip hE rfl rfl rfl ?_; clear hE a; intro a hE
                refine l_skip hE rfl rfl rfl ?_; clear hE a; intro a hE
                refine l_step rfl (o_pure hE rfl rfl (p_pick (b := false) rfl rfl).run ?_); clear hE a; intro a hE
                refine l_step rfl (o_pure hE rfl rfl (p_move rfl).run ?_); clear hE a; intro a hE
                refine l_skip hE rfl rfl rfl ?_; clear hE a; intro a hE
                refine l_skip hE rfl rfl rfl ?_; clear hE a; intro a hE
                refine l_step rfl (o_pure hE rfl rfl (p_pick (b := false) rfl rfl).run ?_); clear hE a; intro a hE
                refine l_step rfl (o_pure hE rfl rfl (p_assign rfl).run ?_); clear hE a; intro a hE
                refine wpList_nil ?_
                refine then_normal ?_
                exact ⟨rfl, false, ⟨fun h => Bool.noConfusion h, fun h => absurd h (by omega)⟩, hE.pick [19, 0, 1, 4, 11, 12, 13, 14, 16, 17, 18]⟩
            · intro q1; replace q1 := geq_f q1; clear hE a; intro a hE
              refine l_step rfl (o_pure hE rfl rfl (p_move rfl).run ?_); clear hE a; intro a hE
              refine l_skip hE rfl rfl rfl ?_; clear hE a; intro a hE
              refine l_skip hE rfl rfl rfl ?_; clear hE a; intro a hE
              refine l_step rfl (o_pure hE rfl rfl (p_pick (b := false) rfl rfl).run ?_); clear hE a; intro a hE
              refine l_step rfl (o_pure hE rfl rfl (p_move rfl).run ?_); clear hE a; intro a hE
              refine l_skip hE rfl rfl rfl ?_; clear hE a; intro a hE
              refine l_skip hE rfl rfl rfl ?_; clear hE a; intro a hE
              refine l_step rfl (o_pure hE rfl rfl (p_pick (b := false) rfl rfl).run ?_); clear hE a; intro a hE
              refine l_step rfl (o_pure hE rfl rfl (p_move rfl).run ?_); clear hE a; intro a hE
              refine l_skip hE rfl rfl rfl ?_; clear hE a; intro a hE
              refine l_skip hE rfl rfl rfl ?_; clear hE a; intro a hE
              refine l_step rfl (o_pure hE rfl rfl (p_pick (b := false) rfl rfl).run ?_); clear hE a; intro a hE
              refine l_step rfl (o_pure hE rfl rfl (p_assign rfl).run ?_); clear hE a; intro a hE
              refine wpList_nil ?_
              refine then_normal ?_
              exact ⟨rfl, false, ⟨fun h => Bool.noConfusion h, fun h => absurd h (by omega)⟩, hE.pick [19, 0, 1, 4, 11, 12, 13, 14, 16, 17, 18]⟩
          · clear hE a; intro bb40 a hb39 hE
            replace hE : EnvOk 137 [(19, .bool bb40), (0, _), (1, _), (4, _), (11, _), (12, _), (13, _), (14, _), (16, _), (17, _), (18, _)] a := hE
            refine c_cutb [1, 4, 11, 12, 13, 14, 16, 17, 18, 19] 20 (1 ≤ z1 ∧ z1 ≤ 20) hE ?_ ?_
            · skip
              refine wp_region_list ?_   -- region 11
              refine l_step rfl (o_pure hE rfl rfl (p_move rfl).run ?_); clear hE a; intro a hE
              refine l_step rfl (o_cmp hE rfl rfl rfl rfl rfl rfl ?_ ?_)
              · intro q1; replace q1 := geq_t q1; clear hE a; intro a hE
                refine l_step rfl (o_pure hE rfl rfl (p_move rfl).run ?_); clear hE a; intro a hE
                refine l_go hE rfl (o_pure hE rfl rfl (p_move rfl).run ?_); clear hE a; intro a hE
                refine l_go hE rfl (o_cmp hE rfl rfl rfl rfl rfl rfl ?_ ?_)
                · intro q2; replace q2 := leq_t q2; clear hE a; intro a hE
                  refine l_step rfl (o_pure hE rfl rfl (p_pick (b := true) rfl rfl).run ?_); clear hE a; intro a hE
                  refine l_step rfl (o_pure hE rfl rfl (p_assign rfl).run ?_); clear hE a; intro a hE
                  refine wpList_nil ?_
                  refine then_normal ?_
                  exact ⟨rfl, true, ⟨fun _ => by omega, fun _ => rfl⟩, hE.pick [20, 1, 4, 11, 12, 13, 14, 16, 17, 18, 19]⟩
                · intro q2; replace q2 := leq_f q2; clear hE a; intro a hE
                  refine l_step rfl (o_pure hE rfl rfl (p_pick (b := true) rfl rfl).run ?_); clear hE a; intro a hE
                  refine l_step rfl (o_pure hE rfl rfl (p_assign rfl).run ?_); clear hE a; intro a hE
                  refine wpList_nil ?_
                  refine then_normal ?_
                  exact ⟨rfl, false, ⟨fun h => Bool.noConfusion h, fun h => absurd h (by omega)⟩, hE.pick [20, 1, 4, 11, 12, 13, 14, 16, 17, 18, 19]⟩
              · intro q1; replace q1 := geq_f q1; clear hE a; intro a hE
                refine l_step rfl (o_pure hE rfl rfl (p_move rfl).run ?_); clear hE a; intro a hE
                refine l_skip hE rfl rfl rfl ?_; clear hE a; intro a hE
                refine l_skip hE rfl rfl rfl ?_; clear hE a; intro a hE
                refine l_step rfl (o_pure hE rfl rfl (p_pick (b := false) rfl rfl).run ?_); clear hE a; intro a hE
                refine l_step rfl (o_pure hE rfl rfl (p_assign rfl).run ?_); clear hE a; intro a hE
                refine wpList_nil ?_
                refine then_normal ?_
                exact ⟨rfl, false, ⟨fun h => Bool.noConfusion h, fun h => absurd h (by omega)⟩, hE.pick [20, 1, 4, 11, 12, 13, 14, 16, 17, 18, 19]⟩
            · clear hE a; intro bb42 a hb41 hE
              replace hE : EnvOk 137 [(20, .bool bb42), (1, _), (4, _), (11, _), (12, _), (13, _), (14, _), (16, _), (17, _), (18, _), (19, _)] a := hE
              refine c_cutb [11, 12, 13, 14, 16, 17, 18, 19, 20] 21 (z2 ≤ 24 ∧ (had = true ∨ z2 = 0)) hE ?_ ?_
              · skip
                refine wp_region_list ?_   -- region 12
                refine l_step rfl (o_pure hE rfl rfl (p_move rfl).run ?_); clear hE a; intro a hE
                refine l_step rfl (o_cmp hE rfl rfl rfl rfl rfl rfl ?_ ?_)
                · intro q1; replace q1 := leq_t q1; clear hE a; intro a hE
                  refine l_step rfl (o_pure hE rfl rfl (p_move rfl).run ?_); clear hE a; intro a hE
                  refine l_go hE rfl (o_pure hE rfl rfl (p_move rfl).run ?_); clear hE a; intro a hE
                  refine l_go hE rfl (o_pure hE rfl rfl (p_move rfl).run ?_); clear hE a; intro a hE
                  rcases Bool.eq_false_or_eq_true had with rfl | rfl
                  · replace hhad := iff_t hhad
                    refine l_skip hE rfl rfl rfl ?_; clear hE a; intro a hE
                    refine l_skip hE rfl rfl rfl ?_; clear hE a; intro a hE
                    refine l_go hE rfl (o_pure hE rfl rfl (p_pick (b := true) rfl rfl).run ?_); clear hE a; intro a hE
                    refine l_step rfl (o_pure hE rfl rfl (p_pick (b := true) rfl rfl).run ?_); clear hE a; intro a hE
                    refine l_step rfl (o_pure hE rfl rfl (p_assign rfl).run ?_); clear hE a; intro a hE
                    refine wpList_nil ?_
                    refine then_normal ?_
                    exact ⟨rfl, true, ⟨fun _ => ⟨by omega, by first | exact .inl rfl | exact .inr (by omega)⟩, fun _ => rfl⟩, hE.pick [21, 11, 12, 13, 14, 16, 17, 18, 19, 20]⟩
                  · replace hhad := iff_f hhad
                    refine l_go hE rfl (o_pure hE rfl rfl (p_move rfl).run ?_); clear hE a; intro a hE
                    refine l_go hE rfl (o_cmp hE rfl rfl rfl rfl rfl rfl ?_ ?_)
                    · intro q2; replace q2 := eql_t q2; clear hE a; intro a hE
                      refine l_go hE rfl (o_pure hE rfl rfl (p_pick (b := false) rfl rfl).run ?_); clear hE a; intro a hE
                      refine l_step rfl (o_pure hE rfl rfl (p_pick (b := true) rfl rfl).run ?_); clear hE a; intro a hE
                      refine l_step rfl (o_pure hE rfl rfl (p_assign rfl).run ?_); clear hE a; intro a hE
                      refine wpList_nil ?_
                      refine then_normal ?_
                      exact ⟨rfl, true, ⟨fun _ => ⟨by omega, by first | exact .inl rfl | exact .inr (by omega)⟩, fun _ => rfl⟩, hE.pick [21, 11, 12, 13, 14, 16, 17, 18, 19, 20]⟩
                    · intro q2; replace q2 := eql_f q2; clear hE a; intro a hE
                      refine l_go hE rfl (o_pure hE rfl rfl (p_pick (b := false) rfl rfl).run ?_); clear hE a; intro a hE
                      refine l_step rfl (o_pure hE rfl rfl (p_pick (b := true) rfl rfl).run ?_); clear hE a; intro a hE
                      refine l_step rfl (o_pure hE rfl rfl (p_assign rfl).run ?_); clear hE a; intro a hE
                      refine wpList_nil ?_
                      refine then_normal ?_
                      exact ⟨rfl, false, ⟨fun h => Bool.noConfusion h, fun h => absurd h (by rintro ⟨q1, q2 | q2⟩ <;> first | omega | cases q2)⟩, hE.pick [21, 11, 12, 13, 14, 16, 17, 18, 19, 20]⟩
                · intro q1; replace q1 := leq_f q1; clear hE a; intro a hE
                  refine l_step rfl (o_pure hE rfl rfl (p_move rfl).run ?_); clear hE a; intro a hE
                  refine l_skip hE rfl rfl rfl ?_; clear hE a; intro a hE
                  refine l_skip hE rfl rfl rfl ?_; clear hE a; intro a hE
                  refine l_skip hE rfl rfl rfl ?_; clear hE a; intro a hE
                  refine l_skip hE rfl rfl rfl ?_; clear hE a; intro a hE
                  refine l_skip hE rfl rfl rfl ?_; clear hE a; intro a hE
                  refine l_step rfl (o_pure hE rfl rfl (p_pick (b := false) rfl rfl).run ?_); clear hE a; intro a hE
                  refine l_step rfl (o_pure hE rfl rfl (p_assign rfl).run ?_); clear hE a; intro a hE
                  refine wpList_nil ?_
                  refine then_normal ?_
                  exact ⟨rfl, false, ⟨fun h => Bool.noConfusion h, fun h => absurd h (by rintro ⟨q1, q2 | q2⟩ <;> first | omega | cases q2)⟩, hE.pick [21, 11, 12, 13, 14, 16, 17, 18, 19, 20]⟩
              · clear hE a; intro bb44 a hb43 hE
                replace hE : EnvOk 137 [(21, .bool bb44), (11, _), (12, _), (13, _), (14, _), (16, _), (17, _), (18, _), (19, _), (20, _)] a := hE
                refine wp_seq ?_
                refine wp_seq ?_
                refine wp_region_list ?_   -- region 13
                refine l_step rfl (o_pure hE rfl rfl (p_move rfl).run ?_); clear hE a; intro a hE
                refine l_step rfl (o_pure hE rfl rfl (p_ifaceNil Tryd.underlying25 rfl rfl rfl).run ?_); clear hE a; intro a hE
                refine l_step rfl (o_pure hE rfl rfl (p_move rfl).run ?_); clear hE a; intro a hE
                rcases Bool.eq_false_or_eq_true bb40 with rfl | rfl
                · replace hb39 := iff_t hb39
                  refine l_step rfl (o_pure hE rfl rfl (p_boolEq Tryd.underlying4 rfl rfl rfl).run ?_); clear hE a; intro a hE
                  refine l_step rfl (o_pure hE rfl rfl (p_move rfl).run ?_); clear hE a; intro a hE
                  refine l_go hE rfl (o_pure hE rfl rfl (p_move rfl).run ?_); clear hE a; intro a hE
                  refine l_go hE rfl (o_pure hE rfl rfl (p_ifaceNil Tryd.underlying25 rfl rfl rfl).run ?_); clear hE a; intro a hE
                  refine l_go hE rfl (o_pure hE rfl rfl (p_move rfl).run ?_); clear hE a; intro a hE
                  rcases Bool.eq_false_or_eq_true bb42 with rfl | rfl
                  · replace hb41 := iff_t hb41
                    refine l_go hE rfl (o_pure hE rfl rfl (p_boolEq Tryd.underlying4 rfl rfl rfl).run ?_); clear hE a; intro a hE
                    refine l_step rfl (o_pure hE rfl rfl (p_pick (b := false) rfl rfl).run ?_); clear hE a; intro a hE
                    refine l_step rfl (o_pure hE rfl rfl (p_move rfl).run ?_); clear hE a; intro a hE
                    refine l_go hE rfl (o_pure hE rfl rfl (p_move rfl).run ?_); clear hE a; intro a hE
                    refine l_go hE rfl (o_pure hE rfl rfl (p_ifaceNil Tryd.underlying25 rfl rfl rfl).run ?_); clear hE a; intro a hE
                    refine l_go hE rfl (o_pure hE rfl rfl (p_move rfl).run ?_); clear hE a; intro a hE
                    refine l_go hE rfl (o_pure hE rfl rfl (p_move rfl).run ?_); clear hE a; intro a hE
                    refine l_go hE rfl (o_pure hE rfl rfl (p_move rfl).run ?_); clear hE a; intro a hE
                    refine l_go hE rfl (o_pure hE rfl rfl (p_pick (b := true) rfl rfl).run ?_); clear hE a; intro a hE
                    refine l_go hE rfl (o_pure hE rfl rfl (p_move rfl).run ?_); clear hE a; intro a hE
                    refine l_go hE rfl (o_pure hE rfl rfl (p_move rfl).run ?_); clear hE a; intro a hE
                    refine l_go hE rfl (o_pure hE rfl rfl (p_pick (b := true) rfl rfl).run ?_); clear hE a; intro a hE
                    rcases Bool.eq_false_or_eq_true bb44 with rfl | rfl
                    · replace hb43 := iff_t hb43
                      refine l_go hE rfl (o_pure hE rfl rfl (p_boolEq Tryd.underlying4 rfl rfl rfl).run ?_); clear hE a; intro a hE
                      refine l_step rfl (o_pure hE rfl rfl (p_pick (b := false) rfl rfl).run ?_); clear hE a; intro a hE
                      refine l_step rfl (o_pure hE rfl rfl (p_move rfl).run ?_); clear hE a; intro a hE
                      refine l_go hE rfl (o_pure hE rfl rfl (p_move rfl).run ?_); clear hE a; intro a hE
                      refine l_go hE rfl (o_pure hE rfl rfl (p_ifaceNil Tryd.underlying25 rfl rfl rfl).run ?_); clear hE a; intro a hE
                      refine l_go hE rfl (o_pure hE rfl rfl (p_move rfl).run ?_); clear hE a; intro a hE
                      refine l_skip hE rfl rfl rfl ?_; clear hE a; intro a hE
                      refine l_skip hE rfl rfl rfl ?_; clear hE a; intro a hE
                      refine l_skip hE rfl rfl rfl ?_; clear hE a; intro a hE
                      refine l_go hE rfl (o_pure hE rfl rfl (p_pick (b := false) rfl rfl).run ?_); clear hE a; intro a hE
                      refine l_step rfl (o_pure hE rfl rfl (p_pick (b := false) rfl rfl).run ?_); clear hE a; intro a hE
                      refine wpList_nil ?_
                      refine then_normal ?_
                      refine c_false hE rfl ?_
                      refine wp_skip ?_
                      refine then_normal ?_
                      refine wp_seq ?_
                      refine wp_seq ?_
                      refine wp_region_list ?_   -- region 15
                      refine l_step rfl (o_pure hE rfl rfl (p_move rfl).run ?_); clear hE a; intro a hE
                      refine l_step rfl (o_pure hE rfl rfl (p_ifaceNil Tryd.underlying25 rfl rfl rfl).run ?_); clear hE a; intro a hE
                      refine wpList_nil ?_
                      refine then_normal ?_
                      refine c_false hE rfl ?_
                      refine wp_skip ?_
                      refine then_normal ?_
                      refine wp_seq ?_
                      refine wp_region_list ?_   -- region 17
                      refine l_step rfl (o_pure hE rfl rfl (p_move rfl).run ?_); clear hE a; intro a hE
                      refine l_step rfl (o_pure hE rfl rfl (p_move rfl).run ?_); clear hE a; intro a hE
                      refine l_step rfl (o_call hE rfl rfl rfl rfl ent_23 (Read_spec hI (g101.mono (((((hD2.trans hD9).trans hD19).trans hD25).trans hD31).trans hl37)) (g103.mono (((((hD2.trans hD9).trans hD19).trans hD25).trans hD31).trans hl37)) (g105.mono (((((hD2.trans hD9).trans hD19).trans hD25).trans hD31).trans hl37)) (hv21.mono ((hD25.trans hD31).trans hl37)) hR33 (by omega)) ?_)
                      clear hI hE a
                      rintro r w ⟨D45, r1, ve, hD46, hI, rfl, hread⟩ a hE
                      have he := read_enc hO []
                      rw [List.append_nil, List.length_nil, if_neg (by omega)] at he
                      rw [he] at hread
                      obtain ⟨rfl, vk2, vv2, rfl, hk2, hv2⟩ := hread
                      obtain ⟨A47, c48, rfl, _⟩ := hk2.slice
                      obtain ⟨B49, e50, rfl, _⟩ := hv2.slice
                      refine l_step rfl (o_pure hE rfl rfl (p_move rfl).run ?_); clear hE a; intro a hE
                      refine l_step rfl (o_pure hE rfl rfl (f_extract rfl rfl).run ?_); clear hE a; intro a hE
                      refine l_step rfl (o_pure hE rfl rfl (f_extract rfl rfl).run ?_); clear hE a; intro a hE
                      refine l_step rfl (f_alloc (cs := #[.int .i64 0, .int .i64 0, .slice none 0 0, .bool false, .slice none 0 0]) hE hI rfl rfl rfl zer_34 rfl ?_)
                      clear hI hE a w; intro a b51 w hE hI
                      refine l_step rfl (f_store (l := [_, _, _, _, _]) (ss' := _ :: _) 0 hE hI rfl rfl rfl rfl rfl sz_34 (by simp [Value.cells, Value.oneCell']) rfl rfl rfl ?_)
                      clear hI w; intro w hI
                      refine l_step rfl (o_pure hE rfl rfl (p_assign rfl).run ?_); clear hE a; intro a hE
                      refine wpList_nil ?_
                      refine then_normal ?_
                      refine wp_seq ?_
                      refine d_start [] [] (by kernel_rfl) hI rfl rfl ?_   -- region 18 draws its order
                      clear hI w; intro w hI
                      refine d_pure 0 hE rfl (by kernel_rfl) (by kernel_rfl) (by kernel_rfl) rfl (fun _ _ _ h => h) rfl rfl rfl (p_move rfl) (fun _ => hI) (listed' := #[true, false, false, false, false, false, false, false, false, false, false, false, false]) rfl ?_; clear hE a; intro a hE
                      refine d_pure 1 hE rfl (by kernel_rfl) (by kernel_rfl) (by kernel_rfl) rfl (fun _ _ _ h => h) rfl rfl rfl (p_move rfl) (fun _ => hI) (listed' := #[true, true, false, false, false, false, false, false, false, false, false, false, false]) rfl ?_; clear hE a; intro a hE
                      refine d_pure 2 hE rfl (by kernel_rfl) (by kernel_rfl) (by kernel_rfl) rfl (fun _ _ _ h => h) rfl rfl rfl (p_move rfl) (fun _ => hI) (listed' := #[true, true, true, false, false, false, false, false, false, false, false, false, false]) rfl ?_; clear hE a; intro a hE
                      refine d_pure 3 hE rfl (by kernel_rfl) (by kernel_rfl) (by kernel_rfl) rfl (fun _ _ _ h => h) rfl rfl rfl (p_ifaceNil Tryd.underlying25 rfl rfl rfl) (fun _ => hI) (listed' := #[true, true, true, true, false, false, false, false, false, false, false, false, false]) rfl ?_; clear hE a; intro a hE
                      refine d_pure 4 hE rfl (by kernel_rfl) (by kernel_rfl) (by kernel_rfl) rfl (fun _ _ _ h => h) rfl rfl rfl (p_pick (b := true) rfl rfl) (fun _ => hI) (listed' := #[true, true, true, true, true, false, false, false, false, false, false, false, false]) rfl ?_; clear hE a; intro a hE
                      refine d_pure 5 hE rfl (by kernel_rfl) (by kernel_rfl) (by kernel_rfl) rfl (fun _ _ _ h => h) rfl rfl rfl (p_move rfl) (fun _ => hI) (listed' := #[true, true, true, true, true, true, false, false, false, false, false, false, false]) rfl ?_; clear hE a; intro a hE
                      refine d_load 6 hE rfl (by kernel_rfl) (by kernel_rfl) (by kernel_rfl) (by kernel_rfl) (by kernel_rfl) rfl rfl (fun _ _ _ h => h) rfl rfl rfl (fun w hS => f_loadA (vs := [_, _, _, _, _]) rfl agg_34 (Inv.seg 0 hS rfl) rfl rfl) (hI) (listed' := #[true, true, true, true, true, true, true, false, false, false, false, false, false]) rfl ?_; clear hE a; intro a hE
                      refine d_load 8 hE rfl (by kernel_rfl) (by kernel_rfl) (by kernel_rfl) (by kernel_rfl) (by kernel_rfl) rfl rfl (fun _ _ _ h => h) rfl rfl rfl (fun w hS => f_loadA (vs := [_, _, _, _, _]) rfl agg_34 (Inv.seg 1 hS rfl) rfl rfl) (hI) (listed' := #[true, true, true, true, true, true, true, false, true, false, false, false, false]) rfl ?_; clear hE a; intro a hE
                      refine d_one 7 hE rfl (by kernel_rfl) rfl (listed' := #[true, true, true, true, true, true, true, true, true, false, false, false, false]) rfl ?_
                      refine o_call hE rfl rfl rfl rfl ent_25 (plain_spec hI tx n had hk2 hv2) ?_
                      clear hI hE a
                      rintro r w ⟨rfl, hI⟩ a hE
                      refine ⟨fun _ => hI, ?_⟩
                      refine d_one 9 hE rfl (by kernel_rfl) rfl (listed' := #[true, true, true, true, true, true, true, true, true, true, false, false, false]) rfl ?_
                      refine o_call hE rfl rfl rfl rfl ent_25 (plain_spec hI tx n had (hk.mono ((((hD19.trans hD25).trans hD31).trans hl37).trans hD46)) (hv.mono ((((hD19.trans hD25).trans hD31).trans hl37).trans hD46))) ?_
                      clear hI hE a
                      rintro r w ⟨rfl, hI⟩ a hE
                      refine ⟨fun _ => hI, ?_⟩
                      refine d_one 10 hE rfl (by kernel_rfl) rfl (listed' := #[true, true, true, true, true, true, true, true, true, true, true, false, false]) rfl ?_
                      refine o_call hE rfl rfl rfl rfl ent_24 (Same20_spec hI tx n had hk2 hv2 tx n had (hk.mono ((((hD19.trans hD25).trans hD31).trans hl37).trans hD46)) (hv.mono ((((hD19.trans hD25).trans hD31).trans hl37).trans hD46)) (by dsimp only; omega) (by dsimp only; omega)) ?_
                      clear hI hE a
                      rintro r w ⟨rfl, hI⟩ a hE
                      simp only [and_self, decide_true] at hE
                      refine ⟨fun _ => hI, ?_⟩
                      refine d_pure 11 hE rfl (by kernel_rfl) (by kernel_rfl) (by kernel_rfl) rfl (fun _ _ _ h => h) rfl rfl rfl (p_pick (b := true) rfl rfl) (fun _ => hI) (listed' := #[true, true, true, true, true, true, true, true, true, true, true, true, false]) rfl ?_; clear hE a; intro a hE
                      refine d_pure 12 hE rfl (by kernel_rfl) (by kernel_rfl) (by kernel_rfl) rfl (fun _ _ _ h => h) rfl rfl rfl (p_assign rfl) (fun _ => hI) (listed' := #[true, true, true, true, true, true, true, true, true, true, true, true, true]) rfl ?_; clear hE a; intro a hE
                      refine d_done (by kernel_rfl) ?_
                      refine then_normal ?_
                      refine wp_ret ?_
                      refine ret1 rfl hE rfl ?_
                      exact ⟨rfl, _, ((((((hD2.trans hD9).trans hD19).trans hD25).trans hD31).trans hl37).trans hD46), hI.drop.drop⟩
                    · replace hb43 := iff_f hb43
                      refine l_go hE rfl (o_pure hE rfl rfl (p_boolEq Tryd.underlying4 rfl rfl rfl).run ?_); clear hE a; intro a hE
                      refine l_step rfl (o_pure hE rfl rfl (p_pick (b := false) rfl rfl).run ?_); clear hE a; intro a hE
                      refine l_step rfl (o_pure hE rfl rfl (p_move rfl).run ?_); clear hE a; intro a hE
                      refine l_skip hE rfl rfl rfl ?_; clear hE a; intro a hE
                      refine l_skip hE rfl rfl rfl ?_; clear hE a; intro a hE
                      refine l_skip hE rfl rfl rfl ?_; clear hE a; intro a hE
                      refine l_skip hE rfl rfl rfl ?_; clear hE a; intro a hE
                      refine l_skip hE rfl rfl rfl ?_; clear hE a; intro a hE
                      refine l_skip hE rfl rfl rfl ?_; clear hE a; intro a hE
                      refine l_skip hE rfl rfl rfl ?_; clear hE a; intro a hE
                      refine l_step rfl (o_pure hE rfl rfl (p_pick (b := true) rfl rfl).run ?_); clear hE a; intro a hE
                      refine wpList_nil ?_
                      refine then_normal ?_
                      refine c_true hE rfl ?_
                      refine wp_seq ?_
                      refine wp_region_list ?_   -- region 14
                      refine l_step rfl (o_pure hE rfl rfl (p_assign rfl).run ?_); clear hE a; intro a hE
                      refine wpList_nil ?_
                      refine then_normal ?_
                      refine wp_ret ?_
                      refine then_ret ?_
                      refine ret1 rfl hE rfl ?_
                      exfalso
                      first
                        | exact hO2 ⟨by omega, by omega, ‹z2 ≤ 24 ∧ (had = true ∨ z2 = 0)›⟩
                        | exact absurd (show z2 ≤ 24 ∧ (had = true ∨ z2 = 0) by have q := hO.2.2; dsimp only at q; rw [hlv] at q; exact q) ‹¬ (z2 ≤ 24 ∧ (had = true ∨ z2 = 0))›
                        | omega
                  · replace hb41 := iff_f hb41
                    refine l_go hE rfl (o_pure hE rfl rfl (p_boolEq Tryd.underlying4 rfl rfl rfl).run ?_); clear hE a; intro a hE
                    refine l_step rfl (o_pure hE rfl rfl (p_pick (b := false) rfl rfl).run ?_); clear hE a; intro a hE
                    refine l_step rfl (o_pure hE rfl rfl (p_move rfl).run ?_); clear hE a; intro a hE
                    refine l_skip hE rfl rfl rfl ?_; clear hE a; intro a hE
                    refine l_skip hE rfl rfl rfl ?_; clear hE a; intro a hE
                    refine l_skip hE rfl rfl rfl ?_; clear hE a; intro a hE
                    refine l_skip hE rfl rfl rfl ?_; clear hE a; intro a hE
                    refine l_skip hE rfl rfl rfl ?_; clear hE a; intro a hE
                    refine l_skip hE rfl rfl rfl ?_; clear hE a; intro a hE
                    refine l_skip hE rfl rfl rfl ?_; clear hE a; intro a hE
                    refine l_skip hE rfl rfl rfl ?_; clear hE a; intro a hE
                    refine l_skip hE rfl rfl rfl ?_; clear hE a; intro a hE
                    refine l_skip hE rfl rfl rfl ?_; clear hE a; intro a hE
                    refine l_step rfl (o_pure hE rfl rfl (p_pick (b := true) rfl rfl).run ?_); clear hE a; intro a hE
                    refine l_step rfl (o_pure hE rfl rfl (p_move rfl).run ?_); clear hE a; intro a hE
                    refine l_skip hE rfl rfl rfl ?_; clear hE a; intro a hE
                    refine l_skip hE rfl rfl rfl ?_; clear hE a; intro a hE
                    refine l_skip hE rfl rfl rfl ?_; clear hE a; intro a hE
                    refine l_skip hE rfl rfl rfl ?_; clear hE a; intro a hE
                    refine l_skip hE rfl rfl rfl ?_; clear hE a; intro a hE
                    refine l_skip hE rfl rfl rfl ?_; clear hE a; intro a hE
                    refine l_skip hE rfl rfl rfl ?_; clear hE a; intro a hE
                    refine l_step rfl (o_pure hE rfl rfl (p_pick (b := true) rfl rfl).run ?_); clear hE a; intro a hE
                    refine wpList_nil ?_
                    refine then_normal ?_
                    refine c_true hE rfl ?_
                    refine wp_seq ?_
                    refine wp_region_list ?_   -- region 14
                    refine l_step rfl (o_pure hE rfl rfl (p_assign rfl).run ?_); clear hE a; intro a hE
                    refine wpList_nil ?_
                    refine then_normal ?_
                    refine wp_ret ?_
                    refine then_ret ?_
                    refine ret1 rfl hE rfl ?_
                    exfalso
                    first
                      | exact hO2 ⟨by omega, by omega, ‹z2 ≤ 24 ∧ (had = true ∨ z2 = 0)›⟩
                      | exact absurd (show z2 ≤ 24 ∧ (had = true ∨ z2 = 0) by have q := hO.2.2; dsimp only at q; rw [hlv] at q; exact q) ‹¬ (z2 ≤ 24 ∧ (had = true ∨ z2 = 0))›
                      | omega
                · replace hb39 := iff_f hb39
                  refine l_step rfl (o_pure hE rfl rfl (p_boolEq Tryd.underlying4 rfl rfl rfl).run ?_); clear hE a; intro a hE
                  refine l_step rfl (o_pure hE rfl rfl (p_move rfl).run ?_); clear hE a; intro a hE
                  refine l_skip hE rfl rfl rfl ?_; clear hE a; intro a hE
                  refine l_skip hE rfl rfl rfl ?_; clear hE a; intro a hE
                  refine l_skip hE rfl rfl rfl ?_; clear hE a; intro a hE
                  refine l_skip hE rfl rfl rfl ?_; clear hE a; intro a hE
                  refine l_step rfl (o_pure hE rfl rfl (p_pick (b := true) rfl rfl).run ?_); clear hE a; intro a hE
                  refine l_step rfl (o_pure hE rfl rfl (p_move rfl).run ?_); clear hE a; intro a hE
                  refine l_skip hE rfl rfl rfl ?_; clear hE a; intro a hE
                  refine l_skip hE rfl rfl rfl ?_; clear hE a; intro a hE
                  refine l_skip hE rfl rfl rfl ?_; clear hE a; intro a hE
                  refine l_skip hE rfl rfl rfl ?_; clear hE a; intro a hE
                  refine l_skip hE rfl rfl rfl ?_; clear hE a; intro a hE
                  refine l_skip hE rfl rfl rfl ?_; clear hE a; intro a hE
                  refine l_skip hE rfl rfl rfl ?_; clear hE a; intro a hE
                  refine l_skip hE rfl rfl rfl ?_; clear hE a; intro a hE
                  refine l_skip hE rfl rfl rfl ?_; clear hE a; intro a hE
                  refine l_skip hE rfl rfl rfl ?_; clear hE a; intro a hE
                  refine l_step rfl (o_pure hE rfl rfl (p_pick (b := true) rfl rfl).run ?_); clear hE a; intro a hE
                  refine l_step rfl (o_pure hE rfl rfl (p_move rfl).run ?_); clear hE a; intro a hE
                  refine l_skip hE rfl rfl rfl ?_; clear hE a; intro a hE
                  refine l_skip hE rfl rfl rfl ?_; clear hE a; intro a hE
                  refine l_skip hE rfl rfl rfl ?_; clear hE a; intro a hE
                  refine l_skip hE rfl rfl rfl ?_; clear hE a; intro a hE
                  refine l_skip hE rfl rfl rfl ?_; clear hE a; intro a hE
                  refine l_skip hE rfl rfl rfl ?_; clear hE a; intro a hE
                  refine l_skip hE rfl rfl rfl ?_; clear hE a; intro a hE
                  refine l_step rfl (o_pure hE rfl rfl (p_pick (b := true) rfl rfl).run ?_); clear hE a; intro a hE
                  refine wpList_nil ?_
                  refine then_normal ?_
                  refine c_true hE rfl ?_
                  refine wp_seq ?_
                  refine wp_region_list ?_   -- region 14
                  refine l_step rfl (o_pure hE rfl rfl (p_assign rfl).run ?_); clear hE a; intro a hE
                  refine wpList_nil ?_
                  refine then_normal ?_
                  refine wp_ret ?_
                  refine then_ret ?_
                  refine ret1 rfl hE rfl ?_
                  exfalso
                  first
                    | exact hO2 ⟨by omega, by omega, ‹z2 ≤ 24 ∧ (had = true ∨ z2 = 0)›⟩
                    | exact absurd (show z2 ≤ 24 ∧ (had = true ∨ z2 = 0) by have q := hO.2.2; dsimp only at q; rw [hlv] at q; exact q) ‹¬ (z2 ≤ 24 ∧ (had = true ∨ z2 = 0))›
                    | omega
        · skip
          have hO2 : ¬ ((1 ≤ tx ∧ tx ≤ 2251799813685248 ∧ 0 ≤ n ∧ n < 12) ∧ (1 ≤ z1 ∧ z1 ≤ 20) ∧ z2 ≤ 24 ∧ (had = true ∨ z2 = 0)) := fun q => hO ⟨q.1, by dsimp only; omega, by dsimp only; omega, by dsimp only; rw [hlv]; exact q.2.2.2⟩
          refine l_step rfl (o_pure hE rfl rfl (p_move rfl).run ?_); clear hE a; intro a hE
          refine l_step rfl (o_pure hE rfl rfl (f_extract rfl rfl).run ?_); clear hE a; intro a hE
          refine l_step rfl (o_pure hE rfl rfl (f_extract rfl rfl).run ?_); clear hE a; intro a hE
          refine l_step rfl (o_pure hE rfl rfl (p_assign rfl).run ?_); clear hE a; intro a hE
          refine l_step rfl (o_pure hE rfl rfl (p_assign rfl).run ?_); clear hE a; intro a hE
          refine wpList_nil ?_
          refine then_normal ?_
          refine c_cutb [0, 1, 4, 11, 12, 13, 14, 16, 17, 18] 19 (1 ≤ tx ∧ tx ≤ 2251799813685248 ∧ 0 ≤ n ∧ n < 12) hE ?_ ?_
          · skip
            refine wp_region_list ?_   -- region 10
            refine l_step rfl (o_pure hE rfl rfl (p_move rfl).run ?_); clear hE a; intro a hE
            refine l_step rfl (o_cmp hE rfl rfl rfl rfl rfl rfl ?_ ?_)
            · intro q1; replace q1 := geq_t q1; clear hE a; intro a hE
              refine l_step rfl (o_pure hE rfl rfl (p_move rfl).run ?_); clear hE a; intro a hE
              refine l_go hE rfl (o_pure hE rfl rfl (p_move rfl).run ?_); clear hE a; intro a hE
              refine l_go hE rfl (o_cmp hE rfl rfl rfl rfl rfl rfl ?_ ?_)
              · intro q2; replace q2 := leq_t q2; clear hE a; intro a hE
                refine l_step rfl (o_pure hE rfl rfl (p_pick (b := true) rfl rfl).run ?_); clear hE a; intro a hE
                refine l_step rfl (o_pure hE rfl rfl (p_move rfl).run ?_); clear hE a; intro a hE
                refine l_go hE rfl (o_pure hE rfl rfl (p_move rfl).run ?_); clear hE a; intro a hE
                refine l_go hE rfl (o_cmp hE rfl rfl rfl rfl rfl rfl ?_ ?_)
                · intro q3; replace q3 := geq_t q3; clear hE a; intro a hE
                  refine l_step rfl (o_pure hE rfl rfl (p_pick (b := true) rfl rfl).run ?_); clear hE a; intro a hE
                  refine l_step rfl (o_pure hE rfl rfl (p_move rfl).run ?_); clear hE a; intro a hE
                  refine l_go hE rfl (o_pure hE rfl rfl (p_move rfl).run ?_); clear hE a; intro a hE
                  refine l_go hE rfl (o_cmp hE rfl rfl rfl rfl rfl rfl ?_ ?_)
                  · intro q4; replace q4 := lss_t q4; clear hE a; intro a hE
                    refine l_step rfl (o_pure hE rfl rfl (p_pick (b := true) rfl rfl).run ?_); clear hE a; intro a hE
                    refine l_step rfl (o_pure hE rfl rfl (p_assign rfl).run ?_); clear hE a; intro a hE
                    refine wpList_nil ?_
                    refine then_normal ?_
                    exact ⟨rfl, true, ⟨fun _ => by omega, fun _ => rfl⟩, hE.pick [19, 0, 1, 4, 11, 12, 13, 14, 16, 17, 18]⟩
                  · intro q4; replace q4 := lss_f q4; clear hE a; intro a hE
                    refine l_step rfl (o_pure hE rfl rfl (p_pick (b := true) rfl rfl).run ?_); clear hE a; intro a hE
                    refine l_step rfl (o_pure hE rfl rfl (p_assign rfl).run ?_); clear hE a; intro a hE
                    refine wpList_nil ?_
                    refine then_normal ?_
                    exact ⟨rfl, false, ⟨fun h => Bool.noConfusion h, fun h => absurd h (by omega)⟩, hE.pick [19, 0, 1, 4, 11, 12, 13, 14, 16, 17, 18]⟩
                · intro q3; replace q3 := geq_f q3; clear hE a; intro a hE
                  refine l_step rfl (o_pure hE rfl rfl (p_pick (b := true) rfl rfl).run ?_); clear hE a; intro a hE
                  refine l_step rfl (o_pure hE rfl rfl (p_move rfl).run ?_); clear hE a; intro a hE
                  refine l_skip hE rfl rfl rfl ?_; clear hE a; intro a hE
                  refine l_skip hE rfl rfl rfl ?_; clear hE a; intro a hE
                  refine l_step rfl (o_pure hE rfl rfl (p_pick (b := false) rfl rfl).run ?_); clear hE a; intro a hE
                  refine l_step rfl (o_pure hE rfl rfl (p_assign rfl).run ?_); clear hE a; intro a hE
                  refine wpList_nil ?_
                  refine then_normal ?_
                  exact ⟨rfl, false, ⟨fun h => Bool.noConfusion h, fun h => absurd h (by omega)⟩, hE.pick [19, 0, 1, 4, 11, 12, 13, 14, 16, 17, 18]⟩
              · intro q2; replace q2 := leq_f q2; clear hE a; intro a hE
                refine l_step rfl (o_pure hE rfl rfl (p_pick (b := true) rfl rfl).run ?_); clear hE a; intro a hE
                refine l_step rfl (o_pure hE rfl rfl (p_move rfl).run ?_); clear hE a; intro a hE
                refine l_skip hE rfl rfl rfl ?_; clear hE a; intro a hE
                refine l_skip hE rfl rfl rfl ?_; clear hE a; intro a hE
                refine l_step rfl (o_pure hE rfl rfl (p_pick (b := false) rfl rfl).run ?_); clear hE a; intro a hE
                refine l_step rfl (o_pure hE rfl rfl (p_move rfl).run ?_); clear hE a; intro a hE
                refine l_skip hE rfl rfl rfl ?_; clear hE a; intro a hE
                refine l_skip hE rfl rfl rfl ?_; clear hE a; intro a hE
                refine l_step rfl (o_pure hE rfl rfl (p_pick (b := false) rfl rfl).run ?_); clear hE a; intro a hE
                refine l_step rfl (o_pure hE rfl rfl (p_assign rfl).run ?_); clear hE a; intro a hE
                refine wpList_nil ?_
                refine then_normal ?_
                exact ⟨rfl, false, ⟨fun h => Bool.noConfusion h, fun h => absurd h (by omega)⟩, hE.pick [19, 0, 1, 4, 11, 12, 13, 14, 16, 17, 18]⟩
            · intro q1; replace q1 := geq_f q1; clear hE a; intro a hE
              refine l_step rfl (o_pure hE rfl rfl (p_move rfl).run ?_); clear hE a; intro a hE
              refine l_skip hE rfl rfl rfl ?_; clear hE a; intro a hE
              refine l_skip hE rfl rfl rfl ?_; clear hE a; intro a hE
              refine l_step rfl (o_pure hE rfl rfl (p_pick (b := false) rfl rfl).run ?_); clear hE a; intro a hE
              refine l_step rfl (o_pure hE rfl rfl (p_move rfl).run ?_); clear hE a; intro a hE
              refine l_skip hE rfl rfl rfl ?_; clear hE a; intro a hE
              refine l_skip hE rfl rfl rfl ?_; clear hE a; intro a hE
              refine l_step rfl (o_pure hE rfl rfl (p_pick (b := false) rfl rfl).run ?_); clear hE a; intro a hE
              refine l_step rfl (o_pure hE rfl rfl (p_move rfl).run ?_); clear hE a; intro a hE
              refine l_skip hE rfl rfl rfl ?_; clear hE a; intro a hE
              refine l_skip hE rfl rfl rfl ?_; clear hE a; intro a hE
              refine l_step rfl (o_pure hE rfl rfl (p_pick (b := false) rfl rfl).run ?_); clear hE a; intro a hE
              refine l_step rfl (o_pure hE rfl rfl (p_assign rfl).run ?_); clear hE a; intro a hE
              refine wpList_nil ?_
              refine then_normal ?_
              exact ⟨rfl, false, ⟨fun h => Bool.noConfusion h, fun h => absurd h (by omega)⟩, hE.pick [19, 0, 1, 4, 11, 12, 13, 14, 16, 17, 18]⟩
          · clear hE a; intro bb53 a hb52 hE
            replace hE : EnvOk 137 [(19, .bool bb53), (0, _), (1, _), (4, _), (11, _), (12, _), (13, _), (14, _), (16, _), (17, _), (18, _)] a := hE
            refine c_cutb [1, 4, 11, 12, 13, 14, 16, 17, 18, 19] 20 (1 ≤ z1 ∧ z1 ≤ 20) hE ?_ ?_
            · skip
              refine wp_region_list ?_   -- region 11
              refine l_step rfl (o_pure hE rfl rfl (p_move rfl).run ?_); clear hE a; intro a hE
              refine l_step rfl (o_cmp hE rfl rfl rfl rfl rfl rfl ?_ ?_)
              · intro q1; replace q1 := geq_t q1; clear hE a; intro a hE
                refine l_step rfl (o_pure hE rfl rfl (p_move rfl).run ?_); clear hE a; intro a hE
                refine l_go hE rfl (o_pure hE rfl rfl (p_move rfl).run ?_); clear hE a; intro a hE
                refine l_go hE rfl (o_cmp hE rfl rfl rfl rfl rfl rfl ?_ ?_)
                · intro q2; replace q2 := leq_t q2; clear hE a; intro a hE
                  refine l_step rfl (o_pure hE rfl rfl (p_pick (b := true) rfl rfl).run ?_); clear hE a; intro a hE
                  refine l_step rfl (o_pure hE rfl rfl (p_assign rfl).run ?_); clear hE a; intro a hE
                  refine wpList_nil ?_
                  refine then_normal ?_
                  exact ⟨rfl, true, ⟨fun _ => by omega, fun _ => rfl⟩, hE.pick [20, 1, 4, 11, 12, 13, 14, 16, 17, 18, 19]⟩
                · intro q2; replace q2 := leq_f q2; clear hE a; intro a hE
                  refine l_step rfl (o_pure hE rfl rfl (p_pick (b := true) rfl rfl).run ?_); clear hE a; intro a hE
                  refine l_step rfl (o_pure hE rfl rfl (p_assign rfl).run ?_); clear hE a; intro a hE
                  refine wpList_nil ?_
                  refine then_normal ?_
                  exact ⟨rfl, false, ⟨fun h => Bool.noConfusion h, fun h => absurd h (by omega)⟩, hE.pick [20, 1, 4, 11, 12, 13, 14, 16, 17, 18, 19]⟩
              · intro q1; replace q1 := geq_f q1; clear hE a; intro a hE
                refine l_step rfl (o_pure hE rfl rfl (p_move rfl).run ?_); clear hE a; intro a hE
                refine l_skip hE rfl rfl rfl ?_; clear hE a; intro a hE
                refine l_skip hE rfl rfl rfl ?_; clear hE a; intro a hE
                refine l_step rfl (o_pure hE rfl rfl (p_pick (b := false) rfl rfl).run ?_); clear hE a; intro a hE
                refine l_step rfl (o_pure hE rfl rfl (p_assign rfl).run ?_); clear hE a; intro a hE
                refine wpList_nil ?_
                refine then_normal ?_
                exact ⟨rfl, false, ⟨fun h => Bool.noConfusion h, fun h => absurd h (by omega)⟩, hE.pick [20, 1, 4, 11, 12, 13, 14, 16, 17, 18, 19]⟩
            · clear hE a; intro bb55 a hb54 hE
              replace hE : EnvOk 137 [(20, .bool bb55), (1, _), (4, _), (11, _), (12, _), (13, _), (14, _), (16, _), (17, _), (18, _), (19, _)] a := hE
              refine c_cutb [11, 12, 13, 14, 16, 17, 18, 19, 20] 21 (z2 ≤ 24 ∧ (had = true ∨ z2 = 0)) hE ?_ ?_
              · skip
                refine wp_region_list ?_   -- region 12
                refine l_step rfl (o_pure hE rfl rfl (p_move rfl).run ?_); clear hE a; intro a hE
                refine l_step rfl (o_cmp hE rfl rfl rfl rfl rfl rfl ?_ ?_)
                · intro q1; replace q1 := leq_t q1; clear hE a; intro a hE
                  refine l_step rfl (o_pure hE rfl rfl (p_move rfl).run ?_); clear hE a; intro a hE
                  refine l_go hE rfl (o_pure hE rfl rfl (p_move rfl).run ?_); clear hE a; intro a hE
                  refine l_go hE rfl (o_pure hE rfl rfl (p_move rfl).run ?_); clear hE a; intro a hE
                  rcases Bool.eq_false_or_eq_true had with rfl | rfl
                  · replace hhad := iff_t hhad
                    refine l_skip hE rfl rfl rfl ?_; clear hE a; intro a hE
                    refine l_skip hE rfl rfl rfl ?_; clear hE a; intro a hE
                    refine l_go hE rfl (o_pure hE rfl rfl (p_pick (b := true) rfl rfl).run ?_); clear hE a; intro a hE
                    refine l_step rfl (o_pure hE rfl rfl (p_pick (b := true) rfl rfl).run ?_); clear hE a; intro a hE
                    refine l_step rfl (o_pure hE rfl rfl (p_assign rfl).run ?_); clear hE a; intro a hE
                    refine wpList_nil ?_
                    refine then_normal ?_
                    exact ⟨rfl, true, ⟨fun _ => ⟨by omega, by first | exact .inl rfl | exact .inr (by omega)⟩, fun _ => rfl⟩, hE.pick [21, 11, 12, 13, 14, 16, 17, 18, 19, 20]⟩
                  · replace hhad := iff_f hhad
                    refine l_go hE rfl (o_pure hE rfl rfl (p_move rfl).run ?_); clear hE a; intro a hE
                    refine l_go hE rfl (o_cmp hE rfl rfl rfl rfl rfl rfl ?_ ?_)
                    · intro q2; replace q2 := eql_t q2; clear hE a; intro a hE
                      refine l_go hE rfl (o_pure hE rfl rfl (p_pick (b := false) rfl rfl).run ?_); clear hE a; intro a hE
                      refine l_step rfl (o_pure hE rfl rfl (p_pick (b := true) rfl rfl).run ?_); clear hE a; intro a hE
                      refine l_step rfl (o_pure hE rfl rfl (p_assign rfl).run ?_); clear hE a; intro a hE
                      refine wpList_nil ?_
                      refine then_normal ?_
                      exact ⟨rfl, true, ⟨fun _ => ⟨by omega, by first | exact .inl rfl | exact .inr (by omega)⟩, fun _ => rfl⟩, hE.pick [21, 11, 12, 13, 14, 16, 17, 18, 19, 20]⟩
                    · intro q2; replace q2 := eql_f q2; clear hE a; intro a hE
                      refine l_go hE rfl (o_pure hE rfl rfl (p_pick (b := false) rfl rfl).run ?_); clear hE a; intro a hE
                      refine l_step rfl (o_pure hE rfl rfl (p_pick (b := true) rfl rfl).run ?_); clear hE a; intro a hE
                      refine l_step rfl (o_pure hE rfl rfl (p_assign rfl).run ?_); clear hE a; intro a hE
                      refine wpList_nil ?_
                      refine then_normal ?_
                      exact ⟨rfl, false, ⟨fun h => Bool.noConfusion h, fun h => absurd h (by rintro ⟨q1, q2 | q2⟩ <;> first | omega | cases q2)⟩, hE.pick [21, 11, 12, 13, 14, 16, 17, 18, 19, 20]⟩
                · intro q1; replace q1 := leq_f q1; clear hE a; intro a hE
                  refine l_step rfl (o_pure hE rfl rfl (p_move rfl).run ?_); clear hE a; intro a hE
                  refine l_skip hE rfl rfl rfl ?_; clear hE a; intro a hE
                  refine l_skip hE rfl rfl rfl ?_; clear hE a; intro a hE
                  refine l_skip hE rfl rfl rfl ?_; clear hE a; intro a hE
                  refine l_skip hE rfl rfl rfl ?_; clear hE a; intro a hE
                  refine l_skip hE rfl rfl rfl ?_; clear hE a; intro a hE
                  refine l_step rfl (o_pure hE rfl rfl (p_pick (b := false) rfl rfl).run ?_); clear hE a; intro a hE
                  refine l_step rfl (o_pure hE rfl rfl (p_assign rfl).run ?_); clear hE a; intro a hE
                  refine wpList_nil ?_
                  refine then_normal ?_
                  exact ⟨rfl, false, ⟨fun h => Bool.noConfusion h, fun h => absurd h (by rintro ⟨q1, q2 | q2⟩ <;> first | omega | cases q2)⟩, hE.pick [21, 11, 12, 13, 14, 16, 17, 18, 19, 20]⟩
              · clear hE a; intro bb57 a hb56 hE
                replace hE : EnvOk 137 [(21, .bool bb57), (11, _), (12, _), (13, _), (14, _), (16, _), (17, _), (18, _), (19, _), (20, _)] a := hE
                refine wp_seq ?_
                refine wp_seq ?_
                refine wp_region_list ?_   -- region 13
                refine l_step rfl (o_pure hE rfl rfl (p_move rfl).run ?_); clear hE a; intro a hE
                refine l_step rfl (o_pure hE rfl rfl (p_ifaceNil Tryd.underlying25 rfl rfl rfl).run ?_); clear hE a; intro a hE
                refine l_step rfl (o_pure hE rfl rfl (p_move rfl).run ?_); clear hE a; intro a hE
                rcases Bool.eq_false_or_eq_true bb53 with rfl | rfl
                · replace hb52 := iff_t hb52
                  refine l_step rfl (o_pure hE rfl rfl (p_boolEq Tryd.underlying4 rfl rfl rfl).run ?_); clear hE a; intro a hE
                  refine l_step rfl (o_pure hE rfl rfl (p_move rfl).run ?_); clear hE a; intro a hE
                  refine l_go hE rfl (o_pure hE rfl rfl (p_move rfl).run ?_); clear hE a; intro a hE
                  refine l_go hE rfl (o_pure hE rfl rfl (p_ifaceNil Tryd.underlying25 rfl rfl rfl).run ?_); clear hE a; intro a hE
                  refine l_go hE rfl (o_pure hE rfl rfl (p_move rfl).run ?_); clear hE a; intro a hE
                  rcases Bool.eq_false_or_eq_true bb55 with rfl | rfl
                  · replace hb54 := iff_t hb54
                    refine l_go hE rfl (o_pure hE rfl rfl (p_boolEq Tryd.underlying4 rfl rfl rfl).run ?_); clear hE a; intro a hE
                    refine l_step rfl (o_pure hE rfl rfl (p_pick (b := false) rfl rfl).run ?_); clear hE a; intro a hE
                    refine l_step rfl (o_pure hE rfl rfl (p_move rfl).run ?_); clear hE a; intro a hE
                    refine l_go hE rfl (o_pure hE rfl rfl (p_move rfl).run ?_); clear hE a; intro a hE
                    refine l_go hE rfl (o_pure hE rfl rfl (p_ifaceNil Tryd.underlying25 rfl rfl rfl).run ?_); clear hE a; intro a hE
                    refine l_go hE rfl (o_pure hE rfl rfl (p_move rfl).run ?_); clear hE a; intro a hE
                    refine l_go hE rfl (o_pure hE rfl rfl (p_move rfl).run ?_); clear hE a; intro a hE
                    refine l_go hE rfl (o_pure hE rfl rfl (p_move rfl).run ?_); clear hE a; intro a hE
                    refine l_go hE rfl (o_pure hE rfl rfl (p_pick (b := true) rfl rfl).run ?_); clear hE a; intro a hE
                    refine l_go hE rfl (o_pure hE rfl rfl (p_move rfl).run ?_); clear hE a; intro a hE
                    refine l_go hE rfl (o_pure hE rfl rfl (p_move rfl).run ?_); clear hE a; intro a hE
                    refine l_go hE rfl (o_pure hE rfl rfl (p_pick (b := true) rfl rfl).run ?_); clear hE a; intro a hE
                    rcases Bool.eq_false_or_eq_true bb57 with rfl | rfl
                    · replace hb56 := iff_t hb56
                      refine l_go hE rfl (o_pure hE rfl rfl (p_boolEq Tryd.underlying4 rfl rfl rfl).run ?_); clear hE a; intro a hE
                      refine l_step rfl (o_pure hE rfl rfl (p_pick (b := false) rfl rfl).run ?_); clear hE a; intro a hE
                      refine l_step rfl (o_pure hE rfl rfl (p_move rfl).run ?_); clear hE a; intro a hE
                      refine l_skip hE rfl rfl rfl ?_; clear hE a; intro a hE
                      refine l_skip hE rfl rfl rfl ?_; clear hE a; intro a hE
                      refine l_skip hE rfl rfl rfl ?_; clear hE a; intro a hE
                      refine l_skip hE rfl rfl rfl ?_; clear hE a; intro a hE
                      refine l_skip hE rfl rfl rfl ?_; clear hE a; intro a hE
                      refine l_skip hE rfl rfl rfl ?_; clear hE a; intro a hE
                      refine l_skip hE rfl rfl rfl ?_; clear hE a; intro a hE
                      refine l_step rfl (o_pure hE rfl rfl (p_pick (b := true) rfl rfl).run ?_); clear hE a; intro a hE
                      refine wpList_nil ?_
                      refine then_normal ?_
                      refine c_true hE rfl ?_
                      refine wp_seq ?_
                      refine wp_region_list ?_   -- region 14
                      refine l_step rfl (o_pure hE rfl rfl (p_assign rfl).run ?_); clear hE a; intro a hE
                      refine wpList_nil ?_
                      refine then_normal ?_
                      refine wp_ret ?_
                      refine then_ret ?_
                      refine ret1 rfl hE rfl ?_
                      exfalso
                      first
                        | exact hO2 ⟨by omega, by omega, ‹z2 ≤ 24 ∧ (had = true ∨ z2 = 0)›⟩
                        | exact absurd (show z2 ≤ 24 ∧ (had = true ∨ z2 = 0) by have q := hO.2.2; dsimp only at q; rw [hlv] at q; exact q) ‹¬ (z2 ≤ 24 ∧ (had = true ∨ z2 = 0))›
                        | omega
                    · replace hb56 := iff_f hb56
                      refine l_go hE rfl (o_pure hE rfl rfl (p_boolEq Tryd.underlying4 rfl rfl rfl).run ?_); clear hE a; intro a hE
                      refine l_step rfl (o_pure hE rfl rfl (p_pick (b := false) rfl rfl).run ?_); clear hE a; intro a hE
                      refine l_step rfl (o_pure hE rfl rfl (p_move rfl).run ?_); clear hE a; intro a hE
                      refine l_go hE rfl (o_pure hE rfl rfl (p_move rfl).run ?_); clear hE a; intro a hE
                      refine l_go hE rfl (o_pure hE rfl rfl (p_ifaceNil Tryd.underlying25 rfl rfl rfl).run ?_); clear hE a; intro a hE
                      refine l_go hE rfl (o_pure hE rfl rfl (p_move rfl).run ?_); clear hE a; intro a hE
                      refine l_go hE rfl (o_pure hE rfl rfl (p_move rfl).run ?_); clear hE a; intro a hE
                      refine l_go hE rfl (o_call hE rfl rfl rfl rfl ent_22 (Is_spec hI (hS.mono ((((hD2.trans hD9).trans hD19).trans hD25).trans hD31)) (f := .bare 105) rfl ⟨by omega, by omega⟩ 105) ?_)
                      clear hI hE a
                      rintro r w ⟨rfl, hI⟩ a hE
                      refine l_go hE rfl (o_pure hE rfl rfl (p_not rfl).run ?_); clear hE a; intro a hE
                      refine l_go hE rfl (o_pure hE rfl rfl (p_pick (b := true) rfl rfl).run ?_); clear hE a; intro a hE
                      refine l_step rfl (o_pure hE rfl rfl (p_pick (b := false) rfl rfl).run ?_); clear hE a; intro a hE
                      refine wpList_nil ?_
                      refine then_normal ?_
                      refine c_false hE rfl ?_
                      refine wp_skip ?_
                      refine then_normal ?_
                      refine wp_seq ?_
                      refine wp_seq ?_
                      refine wp_region_list ?_   -- region 15
                      refine l_step rfl (o_pure hE rfl rfl (p_move rfl).run ?_); clear hE a; intro a hE
                      refine l_step rfl (o_pure hE rfl rfl (p_ifaceNil Tryd.underlying25 rfl rfl rfl).run ?_); clear hE a; intro a hE
                      refine wpList_nil ?_
                      refine then_normal ?_
                      refine c_true hE rfl ?_
                      refine wp_seq ?_
                      refine wp_region_list ?_   -- region 16
                      refine l_step rfl (o_pure hE rfl rfl (p_move rfl).run ?_); clear hE a; intro a hE
                      refine l_step rfl (o_pure hE rfl rfl (p_assign rfl).run ?_); clear hE a; intro a hE
                      refine wpList_nil ?_
                      refine then_normal ?_
                      refine wp_ret ?_
                      refine then_ret ?_
                      refine ret1 rfl hE rfl ?_
                      exact ⟨rfl, _, ((((hD2.trans hD9).trans hD19).trans hD25).trans hD31), hI.drop⟩
                  · replace hb54 := iff_f hb54
                    refine l_go hE rfl (o_pure hE rfl rfl (p_boolEq Tryd.underlying4 rfl rfl rfl).run ?_); clear hE a; intro a hE
                    refine l_step rfl (o_pure hE rfl rfl (p_pick (b := false) rfl rfl).run ?_); clear hE a; intro a hE
                    refine l_step rfl (o_pure hE rfl rfl (p_move rfl).run ?_); clear hE a; intro a hE
                    refine l_skip hE rfl rfl rfl ?_; clear hE a; intro a hE
                    refine l_skip hE rfl rfl rfl ?_; clear hE a; intro a hE
                    refine l_skip hE rfl rfl rfl ?_; clear hE a; intro a hE
                    refine l_skip hE rfl rfl rfl ?_; clear hE a; intro a hE
                    refine l_skip hE rfl rfl rfl ?_; clear hE a; intro a hE
                    refine l_skip hE rfl rfl rfl ?_; clear hE a; intro a hE
                    refine l_skip hE rfl rfl rfl ?_; clear hE a; intro a hE
                    refine l_skip hE rfl rfl rfl ?_; clear hE a; intro a hE
                    refine l_skip hE rfl rfl rfl ?_; clear hE a; intro a hE
                    refine l_skip hE rfl rfl rfl ?_; clear hE a; intro a hE
                    refine l_step rfl (o_pure hE rfl rfl (p_pick (b := true) rfl rfl).run ?_); clear hE a; intro a hE
                    refine l_step rfl (o_pure hE rfl rfl (p_move rfl).run ?_); clear hE a; intro a hE
                    refine l_skip hE rfl rfl rfl ?_; clear hE a; intro a hE
                    refine l_skip hE rfl rfl rfl ?_; clear hE a; intro a hE
                    refine l_skip hE rfl rfl rfl ?_; clear hE a; intro a hE
                    refine l_skip hE rfl rfl rfl ?_; clear hE a; intro a hE
                    refine l_skip hE rfl rfl rfl ?_; clear hE a; intro a hE
                    refine l_skip hE rfl rfl rfl ?_; clear hE a; intro a hE
                    refine l_skip hE rfl rfl rfl ?_; clear hE a; intro a hE
                    refine l_step rfl (o_pure hE rfl rfl (p_pick (b := true) rfl rfl).run ?_); clear hE a; intro a hE
                    refine wpList_nil ?_
                    refine then_normal ?_
                    refine c_true hE rfl ?_
                    refine wp_seq ?_
                    refine wp_region_list ?_   -- region 14
                    refine l_step rfl (o_pure hE rfl rfl (p_assign rfl).run ?_); clear hE a; intro a hE
                    refine wpList_nil ?_
                    refine then_normal ?_
                    refine wp_ret ?_
                    refine then_ret ?_
                    refine ret1 rfl hE rfl ?_
                    exfalso
                    first
                      | exact hO2 ⟨by omega, by omega, ‹z2 ≤ 24 ∧ (had = true ∨ z2 = 0)›⟩
                      | exact absurd (show z2 ≤ 24 ∧ (had = true ∨ z2 = 0) by have q := hO.2.2; dsimp only at q; rw [hlv] at q; exact q) ‹¬ (z2 ≤ 24 ∧ (had = true ∨ z2 = 0))›
                      | omega
                · replace hb52 := iff_f hb52
                  refine l_step rfl (o_pure hE rfl rfl (p_boolEq Tryd.underlying4 rfl rfl rfl).run ?_); clear hE a; intro a hE
                  refine l_step rfl (o_pure hE rfl rfl (p_move rfl).run ?_); clear hE a; intro a hE
                  refine l_skip hE rfl rfl rfl ?_; clear hE a; intro a hE
                  refine l_skip hE rfl rfl rfl ?_; clear hE a; intro a hE
                  refine l_skip hE rfl rfl rfl ?_; clear hE a; intro a hE
                  refine l_skip hE rfl rfl rfl ?_; clear hE a; intro a hE
                  refine l_step rfl (o_pure hE rfl rfl (p_pick (b := true) rfl rfl).run ?_); clear hE a; intro a hE
                  refine l_step rfl (o_pure hE rfl rfl (p_move rfl).run ?_); clear hE a; intro a hE
                  refine l_skip hE rfl rfl rfl ?_; clear hE a; intro a hE
                  refine l_skip hE rfl rfl rfl ?_; clear hE a; intro a hE
                  refine l_skip hE rfl rfl rfl ?_; clear hE a; intro a hE
                  refine l_skip hE rfl rfl rfl ?_; clear hE a; intro a hE
                  refine l_skip hE rfl rfl rfl ?_; clear hE a; intro a hE
                  refine l_skip hE rfl rfl rfl ?_; clear hE a; intro a hE
                  refine l_skip hE rfl rfl rfl ?_; clear hE a; intro a hE
                  refine l_skip hE rfl rfl rfl ?_; clear hE a; intro a hE
                  refine l_skip hE rfl rfl rfl ?_; clear hE a; intro a hE
                  refine l_skip hE rfl rfl rfl ?_; clear hE a; intro a hE
                  refine l_step rfl (o_pure hE rfl rfl (p_pick (b := true) rfl rfl).run ?_); clear hE a; intro a hE
                  refine l_step rfl (o_pure hE rfl rfl (p_move rfl).run ?_); clear hE a; intro a hE
                  refine l_skip hE rfl rfl rfl ?_; clear hE a; intro a hE
                  refine l_skip hE rfl rfl rfl ?_; clear hE a; intro a hE
                  refine l_skip hE rfl rfl rfl ?_; clear hE a; intro a hE
                  refine l_skip hE rfl rfl rfl ?_; clear hE a; intro a hE
                  refine l_skip hE rfl rfl rfl ?_; clear hE a; intro a hE
                  refine l_skip hE rfl rfl rfl ?_; clear hE a; intro a hE
                  refine l_skip hE rfl rfl rfl ?_; clear hE a; intro a hE
                  refine l_step rfl (o_pure hE rfl rfl (p_pick (b := true) rfl rfl).run ?_); clear hE a; intro a hE
                  refine wpList_nil ?_
                  refine then_normal ?_
                  refine c_true hE rfl ?_
                  refine wp_seq ?_
                  refine wp_region_list ?_   -- region 14
                  refine l_step rfl (o_pure hE rfl rfl (p_assign rfl).run ?_); clear hE a; intro a hE
                  refine wpList_nil ?_
                  refine then_normal ?_
                  refine wp_ret ?_
                  refine then_ret ?_
                  refine ret1 rfl hE rfl ?_
                  exfalso
                  first
                    | exact hO2 ⟨by omega, by omega, ‹z2 ≤ 24 ∧ (had = true ∨ z2 = 0)›⟩
                    | exact absurd (show z2 ≤ 24 ∧ (had = true ∨ z2 = 0) by have q := hO.2.2; dsimp only at q; rw [hlv] at q; exact q) ‹¬ (z2 ≤ 24 ∧ (had = true ∨ z2 = 0))›
                    | omega
      · skip
        refine l_step rfl (o_pure hE rfl rfl (p_move rfl).run ?_); clear hE a; intro a hE
        refine l_step rfl (o_pure hE rfl rfl (f_extract rfl rfl).run ?_); clear hE a; intro a hE
        refine l_step rfl (o_pure hE rfl rfl (f_extract rfl rfl).run ?_); clear hE a; intro a hE
        refine l_step rfl (o_pure hE rfl rfl (p_assign rfl).run ?_); clear hE a; intro a hE
        refine l_step rfl (o_pure hE rfl rfl (p_assign rfl).run ?_); clear hE a; intro a hE
        refine wpList_nil ?_
        refine then_normal ?_
        refine wp_seq ?_
        refine wp_region_list ?_   -- region 9
        refine l_step rfl (o_pure hE rfl rfl (f_loadA (vs := [_, _, _, _, _]) rfl agg_34 (hI.seg 0 rfl) rfl rfl) ?_); clear hE a; intro a hE
        refine l_step rfl (o_call hE rfl rfl rfl rfl ent_21 (UBytes_spec hI (g105.mono ((hD2.trans hD9).trans hD19)) tx n had (hk.mono hD19) (hv.mono hD19) (by omega)) ?_)
        clear hI hE a
        rintro r w ⟨D58, hD59, h⟩ a hE
        rcases h with ⟨v62, s60, hO, rfl, hI, hR61⟩ | ⟨hO, rfl, hI⟩
        · skip
          exfalso
          obtain ⟨q1, q2, _⟩ := hO
          dsimp only at q1 q2
          omega
        · skip
          have hO2 : ¬ ((1 ≤ tx ∧ tx ≤ 2251799813685248 ∧ 0 ≤ n ∧ n < 12) ∧ (1 ≤ z1 ∧ z1 ≤ 20) ∧ z2 ≤ 24 ∧ (had = true ∨ z2 = 0)) := fun q => hO ⟨q.1, by dsimp only; omega, by dsimp only; omega, by dsimp only; rw [hlv]; exact q.2.2.2⟩
          refine l_step rfl (o_pure hE rfl rfl (p_move rfl).run ?_); clear hE a; intro a hE
          refine l_step rfl (o_pure hE rfl rfl (f_extract rfl rfl).run ?_); clear hE a; intro a hE
          refine l_step rfl (o_pure hE rfl rfl (f_extract rfl rfl).run ?_); clear hE a; intro a hE
          refine l_step rfl (o_pure hE rfl rfl (p_assign rfl).run ?_); clear hE a; intro a hE
          refine l_step rfl (o_pure hE rfl rfl (p_assign rfl).run ?_); clear hE a; intro a hE
          refine wpList_nil ?_
          refine then_normal ?_
          refine c_cutb [0, 1, 4, 11, 12, 13, 14, 16, 17, 18] 19 (1 ≤ tx ∧ tx ≤ 2251799813685248 ∧ 0 ≤ n ∧ n < 12) hE ?_ ?_
          · skip
            refine wp_region_list ?_   -- region 10
            refine l_step rfl (o_pure hE rfl rfl (p_move rfl).run ?_); clear hE a; intro a hE
            refine l_step rfl (o_cmp hE rfl rfl rfl rfl rfl rfl ?_ ?_)
            · intro q1; replace q1 := geq_t q1; clear hE a; intro a hE
              refine l_step rfl (o_pure hE rfl rfl (p_move rfl).run ?_); clear hE a; intro a hE
              refine l_go hE rfl (o_pure hE rfl rfl (p_move rfl).run ?_); clear hE a; intro a hE
              refine l_go hE rfl (o_cmp hE rfl rfl rfl rfl rfl rfl ?_ ?_)
              · intro q2; replace q2 := leq_t q2; clear hE a; intro a hE
                refine l_step rfl (o_pure hE rfl rfl (p_pick (b := true) rfl rfl).run ?_); clear hE a; intro a hE
                refine l_step rfl (o_pure hE rfl rfl (p_move rfl).run ?_); clear hE a; intro a hE
                refine l_go hE rfl (o_pure hE rfl rfl (p_move rfl).run ?_); clear hE a; intro a hE
                refine l_go hE rfl (o_cmp hE rfl rfl rfl rfl rfl rfl ?_ ?_)
                · intro q3; replace q3 := geq_t q3; clear hE a; intro a hE
                  refine l_step rfl (o_pure hE rfl rfl (p_pick (b := true) rfl rfl).run ?_); clear hE a; intro a hE
                  refine l_step rfl (o_pure hE rfl rfl (p_move rfl).run ?_); clear hE a; intro a hE
                  refine l_go hE rfl (o_pure hE rfl rfl (p_move rfl).run ?_); clear hE a; intro a hE
                  refine l_go hE rfl (o_cmp hE rfl rfl rfl rfl rfl rfl ?_ ?_)
                  · intro q4; replace q4 := lss_t q4; clear hE a; intro a hE
                    refine l_step rfl (o_pure hE rfl rfl (p_pick (b := true) rfl rfl).run ?_); clear hE a; intro a hE
                    refine l_step rfl (o_pure hE rfl rfl (p_assign rfl).run ?_); clear hE a; intro a hE
                    refine wpList_nil ?_
                    refine then_normal ?_
                    exact ⟨rfl, true, ⟨fun _ => by omega, fun _ => rfl⟩, hE.pick [19, 0, 1, 4, 11, 12, 13, 14, 16, 17, 18]⟩
                  · intro q4; replace q4 := lss_f q4; clear hE a; intro a hE
                    refine l_step rfl (o_pure hE rfl rfl (p_pick (b := true) rfl rfl).run ?_); clear hE a; intro a hE
                    refine l_step rfl (o_pure hE rfl rfl (p_assign rfl).run ?_); clear hE a; intro a hE
                    refine wpList_nil ?_
                    refine then_normal ?_
                    exact ⟨rfl, false, ⟨fun h => Bool.noConfusion h, fun h => absurd h (by omega)⟩, hE.pick [19, 0, 1, 4, 11, 12, 13, 14, 16, 17, 18]⟩
                · intro q3; replace q3 := geq_f q3; clear hE a; intro a hE
                  refine l_step rfl (o_pure hE rfl rfl (p_pick (b := true) rfl rfl).run ?_); clear hE a; intro a hE
                  refine l_step rfl (o_pure hE rfl rfl (p_move rfl).run ?_); clear hE a; intro a hE
                  refine l_skip hE rfl rfl rfl ?_; clear hE a; intro a hE
                  refine l_skip hE rfl rfl rfl ?_; clear hE a; intro a hE
                  refine l_step rfl (o_pure hE rfl rfl (p_pick (b := false) rfl rfl).run ?_); clear hE a; intro a hE
                  refine l_step rfl (o_pure hE rfl rfl (p_assign rfl).run ?_); clear hE a; intro a hE
                  refine wpList_nil ?_
                  refine then_normal ?_
                  exact ⟨rfl, false, ⟨fun h => Bool.noConfusion h, fun h => absurd h (by omega)⟩, hE.pick [19, 0, 1, 4, 11, 12, 13, 14, 16, 17, 18]⟩
              · intro q2; replace q2 := leq_f q2; clear hE a; intro a hE
                refine l_step rfl (o_pure hE rfl rfl (p_pick (b := true) rfl rfl).run ?_); clear hE a; intro a hE
                refine l_step rfl (o_pure hE rfl rfl (p_move rfl).run ?_); clear hE a; intro a hE
                refine l_skip hE rfl rfl rfl ?_; clear hE a; intro a hE
                refine l_skip hE rfl rfl rfl ?_; clear hE a; intro a hE
                refine l_step rfl (o_pure hE rfl rfl (p_pick (b := false) rfl rfl).run ?_); clear hE a; intro a hE
                refine l_step rfl (o_pure hE rfl rfl (p_move rfl).run ?_); clear hE a; intro a hE
                refine l_skip hE rfl rfl rfl ?_; clear hE a; intro a hE
                refine l_skip hE rfl rfl rfl ?_; clear hE a; intro a hE
                refine l_step rfl (o_pure hE rfl rfl (p_pick (b := false) rfl rfl).run ?_); clear hE a; intro a hE
                refine l_step rfl (o_pure hE rfl rfl (p_assign rfl).run ?_); clear hE a; intro a hE
                refine wpList_nil ?_
                refine then_normal ?_
                exact ⟨rfl, false, ⟨fun h => Bool.noConfusion h, fun h => absurd h (by omega)⟩, hE.pick [19, 0, 1, 4, 11, 12, 13, 14, 16, 17, 18]⟩
            · intro q1; replace q1 := geq_f q1; clear hE a; intro a hE
              refine l_step rfl (o_pure hE rfl rfl (p_move rfl).run ?_); clear hE a; intro a hE
              refine l_skip hE rfl rfl rfl ?_; clear hE a; intro a hE
              refine l_skip hE rfl rfl rfl ?_; clear hE a; intro a hE
              refine l_step rfl (o_pure hE rfl rfl (p_pick (b := false) rfl rfl).run ?_); clear hE a; intro a hE
              refine l_step rfl (o_pure hE rfl rfl (p_move rfl).run ?_); clear hE a; intro a hE
              refine l_skip hE rfl rfl rfl ?_; clear hE a; intro a hE
              refine l_skip hE rfl rfl rfl ?_; clear hE a; intro a hE
              refine l_step rfl (o_pure hE rfl rfl (p_pick (b := false) rfl rfl).run ?_); clear hE a; intro a hE
              refine l_step rfl (o_pure hE rfl rfl (p_move rfl).run ?_); clear hE a; intro a hE
              refine l_skip hE rfl rfl rfl ?_; clear hE a; intro a hE
              refine l_skip hE rfl rfl rfl ?_; clear hE a; intro a hE
              refine l_step rfl (o_pure hE rfl rfl (p_pick (b := false) rfl rfl).run ?_); clear hE a; intro a hE
              refine l_step rfl (o_pure hE rfl rfl (p_assign rfl).run ?_); clear hE a; intro a hE
              refine wpList_nil ?_
              refine then_normal ?_
              exact ⟨rfl, false, ⟨fun h => Bool.noConfusion h, fun h => absurd h (by omega)⟩, hE.pick [19, 0, 1, 4, 11, 12, 13, 14, 16, 17, 18]⟩
          · clear hE a; intro bb67 a hb66 hE
            replace hE : EnvOk 137 [(19, .bool bb67), (0, _), (1, _), (4, _), (11, _), (12, _), (13, _), (14, _), (16, _), (17, _), (18, _)] a := hE
            refine c_cutb [1, 4, 11, 12, 13, 14, 16, 17, 18, 19] 20 (1 ≤ z1 ∧ z1 ≤ 20) hE ?_ ?_
            · skip
              refine wp_region_list ?_   -- region 11
              refine l_step rfl (o_pure hE rfl rfl (p_move rfl).run ?_); clear hE a; intro a hE
              refine l_step rfl (o_cmp hE rfl rfl rfl rfl rfl rfl ?_ ?_)
              · intro q1; replace q1 := geq_t q1; clear hE a; intro a hE
                refine l_step rfl (o_pure hE rfl rfl (p_move rfl).run ?_); clear hE a; intro a hE
                refine l_go hE rfl (o_pure hE rfl rfl (p_move rfl).run ?_); clear hE a; intro a hE
                refine l_go hE rfl (o_cmp hE rfl rfl rfl rfl rfl rfl ?_ ?_)
                · intro q2; replace q2 := leq_t q2; clear hE a; intro a hE
                  refine l_step rfl (o_pure hE rfl rfl (p_pick (b := true) rfl rfl).run ?_); clear hE a; intro a hE
                  refine l_step rfl (o_pure hE rfl rfl (p_assign rfl).run ?_); clear hE a; intro a hE
                  refine wpList_nil ?_
                  refine then_normal ?_
                  exact ⟨rfl, true, ⟨fun _ => by omega, fun _ => rfl⟩, hE.pick [20, 1, 4, 11, 12, 13, 14, 16, 17, 18, 19]⟩
                · intro q2; replace q2 := leq_f q2; clear hE a; intro a hE
                  refine l_step rfl (o_pure hE rfl rfl (p_pick (b := true) rfl rfl).run ?_); clear hE a; intro a hE
                  refine l_step rfl (o_pure hE rfl rfl (p_assign rfl).run ?_); clear hE a; intro a hE
                  refine wpList_nil ?_
                  refine then_normal ?_
                  exact ⟨rfl, false, ⟨fun h => Bool.noConfusion h, fun h => absurd h (by omega)⟩, hE.pick [20, 1, 4, 11, 12, 13, 14, 16, 17, 18, 19]⟩
              · intro q1; replace q1 := geq_f q1; clear hE a; intro a hE
                refine l_step rfl (o_pure hE rfl rfl (p_move rfl).run ?_); clear hE a; intro a hE
                refine l_skip hE rfl rfl rfl ?_; clear hE a; intro a hE
                refine l_skip hE rfl rfl rfl ?_; clear hE a; intro a hE
                refine l_step rfl (o_pure hE rfl rfl (p_pick (b := false) rfl rfl).run ?_); clear hE a; intro a hE
                refine l_step rfl (o_pure hE rfl rfl (p_assign rfl).run ?_); clear hE a; intro a hE
                refine wpList_nil ?_
                refine then_normal ?_
                exact ⟨rfl, false, ⟨fun h => Bool.noConfusion h, fun h => absurd h (by omega)⟩, hE.pick [20, 1, 4, 11, 12, 13, 14, 16, 17, 18, 19]⟩
            · clear hE a; intro bb69 a hb68 hE
              replace hE : EnvOk 137 [(20, .bool bb69), (1, _), (4, _), (11, _), (12, _), (13, _), (14, _), (16, _), (17, _), (18, _), (19, _)] a := hE
              refine c_cutb [11, 12, 13, 14, 16, 17, 18, 19, 20] 21 (z2 ≤ 24 ∧ (had = true ∨ z2 = 0)) hE ?_ ?_
              · skip
                refine wp_region_list ?_   -- region 12
                refine l_step rfl (o_pure hE rfl rfl (p_move rfl).run ?_); clear hE a; intro a hE
                refine l_step rfl (o_cmp hE rfl rfl rfl rfl rfl rfl ?_ ?_)
                · intro q1; replace q1 := leq_t q1; clear hE a; intro a hE
                  refine l_step rfl (o_pure hE rfl rfl (p_move rfl).run ?_); clear hE a; intro a hE
                  refine l_go hE rfl (o_pure hE rfl rfl (p_move rfl).run ?_); clear hE a; intro a hE
                  refine l_go hE rfl (o_pure hE rfl rfl (p_move rfl).run ?_); clear hE a; intro a hE
                  rcases Bool.eq_false_or_eq_true had with rfl | rfl
                  · replace hhad := iff_t hhad
                    refine l_skip hE rfl rfl rfl ?_; clear hE a; intro a hE
                    refine l_skip hE rfl rfl rfl ?_; clear hE a; intro a hE
                    refine l_go hE rfl (o_pure hE rfl rfl (p_pick (b := true) rfl rfl).run ?_); clear hE a; intro a hE
                    refine l_step rfl (o_pure hE rfl rfl (p_pick (b := true) rfl rfl).run ?_); clear hE a; intro a hE
                    refine l_step rfl (o_pure hE rfl rfl (p_assign rfl).run ?_); clear hE a; intro a hE
                    refine wpList_nil ?_
                    refine then_normal ?_
                    exact ⟨rfl, true, ⟨fun _ => ⟨by omega, by first | exact .inl rfl | exact .inr (by omega)⟩, fun _ => rfl⟩, hE.pick [21, 11, 12, 13, 14, 16, 17, 18, 19, 20]⟩
                  · replace hhad := iff_f hhad
                    refine l_go hE rfl (o_pure hE rfl rfl (p_move rfl).run ?_); clear hE a; intro a hE
                    refine l_go hE rfl (o_cmp hE rfl rfl rfl rfl rfl rfl ?_ ?_)
                    · intro q2; replace q2 := eql_t q2; clear hE a; intro a hE
                      refine l_go hE rfl (o_pure hE rfl rfl (p_pick (b := false) rfl rfl).run ?_); clear hE a; intro a hE
                      refine l_step rfl (o_pure hE rfl rfl (p_pick (b := true) rfl rfl).run ?_); clear hE a; intro a hE
                      refine l_step rfl (o_pure hE rfl rfl (p_assign rfl).run ?_); clear hE a; intro a hE
                      refine wpList_nil ?_
                      refine then_normal ?_
                      exact ⟨rfl, true, ⟨fun _ => ⟨by omega, by first | exact .inl rfl | exact .inr (by omega)⟩, fun _ => rfl⟩, hE.pick [21, 11, 12, 13, 14, 16, 17, 18, 19, 20]⟩
                    · intro q2; replace q2 := eql_f q2; clear hE a; intro a hE
                      refine l_go hE rfl (o_pure hE rfl rfl (p_pick (b := false) rfl rfl).run ?_); clear hE a; intro a hE
                      refine l_step rfl (o_pure hE rfl rfl (p_pick (b := true) rfl rfl).run ?_); clear hE a; intro a hE
                      refine l_step rfl (o_pure hE rfl rfl (p_assign rfl).run ?_); clear hE a; intro a hE
                      refine wpList_nil ?_
                      refine then_normal ?_
                      exact ⟨rfl, false, ⟨fun h => Bool.noConfusion h, fun h => absurd h (by rintro ⟨q1, q2 | q2⟩ <;> first | omega | cases q2)⟩, hE.pick [21, 11, 12, 13, 14, 16, 17, 18, 19, 20]⟩
                · intro q1; replace q1 := leq_f q1; clear hE a; intro a hE
                  refine l_step rfl (o_pure hE rfl rfl (p_move rfl).run ?_); clear hE a; intro a hE
                  refine l_skip hE rfl rfl rfl ?_; clear hE a; intro a hE
                  refine l_skip hE rfl rfl rfl ?_; clear hE a; intro a hE
                  refine l_skip hE rfl rfl rfl ?_; clear hE a; intro a hE
                  refine l_skip hE rfl rfl rfl ?_; clear hE a; intro a hE
                  refine l_skip hE rfl rfl rfl ?_; clear hE a; intro a hE
                  refine l_step rfl (o_pure hE rfl rfl (p_pick (b := false) rfl rfl).run ?_); clear hE a; intro a hE
                  refine l_step rfl (o_pure hE rfl rfl (p_assign rfl).run ?_); clear hE a; intro a hE
                  refine wpList_nil ?_
                  refine then_normal ?_
                  exact ⟨rfl, false, ⟨fun h => Bool.noConfusion h, fun h => absurd h (by rintro ⟨q1, q2 | q2⟩ <;> first | omega | cases q2)⟩, hE.pick [21, 11, 12, 13, 14, 16, 17, 18, 19, 20]⟩
              · clear hE a; intro bb71 a hb70 hE
                replace hE : EnvOk 137 [(21, .bool bb71), (11, _), (12, _), (13, _), (14, _), (16, _), (17, _), (18, _), (19, _), (20, _)] a := hE
                refine wp_seq ?_
                refine wp_seq ?_
                refine wp_region_list ?_   -- region 13
                refine l_step rfl (o_pure hE rfl rfl (p_move rfl).run ?_); clear hE a; intro a hE
                refine l_step rfl (o_pure hE rfl rfl (p_ifaceNil Tryd.underlying25 rfl rfl rfl).run ?_); clear hE a; intro a hE
                refine l_step rfl (o_pure hE rfl rfl (p_move rfl).run ?_); clear hE a; intro a hE
                rcases Bool.eq_false_or_eq_true bb67 with rfl | rfl
                · replace hb66 := iff_t hb66
                  refine l_step rfl (o_pure hE rfl rfl (p_boolEq Tryd.underlying4 rfl rfl rfl).run ?_); clear hE a; intro a hE
                  refine l_step rfl (o_pure hE rfl rfl (p_move rfl).run ?_); clear hE a; intro a hE
                  refine l_go hE rfl (o_pure hE rfl rfl (p_move rfl).run ?_); clear hE a; intro a hE
                  refine l_go hE rfl (o_pure hE rfl rfl (p_ifaceNil Tryd.underlying25 rfl rfl rfl).run ?_); clear hE a; intro a hE
                  refine l_go hE rfl (o_pure hE rfl rfl (p_move rfl).run ?_); clear hE a; intro a hE
                  rcases Bool.eq_false_or_eq_true bb69 with rfl | rfl
                  · replace hb68 := iff_t hb68
                    refine l_go hE rfl (o_pure hE rfl rfl (p_boolEq Tryd.underlying4 rfl rfl rfl).run ?_); clear hE a; intro a hE
                    refine l_step rfl (o_pure hE rfl rfl (p_pick (b := false) rfl rfl).run ?_); clear hE a; intro a hE
                    refine l_step rfl (o_pure hE rfl rfl (p_move rfl).run ?_); clear hE a; intro a hE
                    refine l_skip hE rfl rfl rfl ?_; clear hE a; intro a hE
                    refine l_skip hE rfl rfl rfl ?_; clear hE a; intro a hE
                    refine l_skip hE rfl rfl rfl ?_; clear hE a; intro a hE
                    refine l_skip hE rfl rfl rfl ?_; clear hE a; intro a hE
                    refine l_skip hE rfl rfl rfl ?_; clear hE a; intro a hE
                    refine l_skip hE rfl rfl rfl ?_; clear hE a; intro a hE
                    refine l_skip hE rfl rfl rfl ?_; clear hE a; intro a hE
                    refine l_skip hE rfl rfl rfl ?_; clear hE a; intro a hE
                    refine l_skip hE rfl rfl rfl ?_; clear hE a; intro a hE
                    refine l_skip hE rfl rfl rfl ?_; clear hE a; intro a hE
                    refine l_step rfl (o_pure hE rfl rfl (p_pick (b := true) rfl rfl).run ?_); clear hE a; intro a hE
                    refine l_step rfl (o_pure hE rfl rfl (p_move rfl).run ?_); clear hE a; intro a hE
                    refine l_skip hE rfl rfl rfl ?_; clear hE a; intro a hE
                    refine l_skip hE rfl rfl rfl ?_; clear hE a; intro a hE
                    refine l_skip hE rfl rfl rfl ?_; clear hE a; intro a hE
                    refine l_skip hE rfl rfl rfl ?_; clear hE a; intro a hE
                    refine l_skip hE rfl rfl rfl ?_; clear hE a; intro a hE
                    refine l_skip hE rfl rfl rfl ?_; clear hE a; intro a hE
                    refine l_skip hE rfl rfl rfl ?_; clear hE a; intro a hE
                    refine l_step rfl (o_pure hE rfl rfl (p_pick (b := true) rfl rfl).run ?_); clear hE a; intro a hE
                    refine wpList_nil ?_
                    refine then_normal ?_
                    refine c_true hE rfl ?_
                    refine wp_seq ?_
                    refine wp_region_list ?_   -- region 14
                    refine l_step rfl (o_pure hE rfl rfl (p_assign rfl).run ?_); clear hE a; intro a hE
                    refine wpList_nil ?_
                    refine then_normal ?_
                    refine wp_ret ?_
                    refine then_ret ?_
                    refine ret1 rfl hE rfl ?_
                    exfalso
                    first
                      | exact hO2 ⟨by omega, by omega, ‹z2 ≤ 24 ∧ (had = true ∨ z2 = 0)›⟩
                      | exact absurd (show z2 ≤ 24 ∧ (had = true ∨ z2 = 0) by have q := hO.2.2; dsimp only at q; rw [hlv] at q; exact q) ‹¬ (z2 ≤ 24 ∧ (had = true ∨ z2 = 0))›
                      | omega
                  · replace hb68 := iff_f hb68
                    refine l_go hE rfl (o_pure hE rfl rfl (p_boolEq Tryd.underlying4 rfl rfl rfl).run ?_); clear hE a; intro a hE
                    refine l_step rfl (o_pure hE rfl rfl (p_pick (b := false) rfl rfl).run ?_); clear hE a; intro a hE
                    refine l_step rfl (o_pure hE rfl rfl (p_move rfl).run ?_); clear hE a; intro a hE
                    refine l_go hE rfl (o_pure hE rfl rfl (p_move rfl).run ?_); clear hE a; intro a hE
                    refine l_go hE rfl (o_pure hE rfl rfl (p_ifaceNil Tryd.underlying25 rfl rfl rfl).run ?_); clear hE a; intro a hE
                    refine l_go hE rfl (o_pure hE rfl rfl (p_move rfl).run ?_); clear hE a; intro a hE
                    refine l_go hE rfl (o_pure hE rfl rfl (p_move rfl).run ?_); clear hE a; intro a hE
                    refine l_go hE rfl (o_pure hE rfl rfl (p_move rfl).run ?_); clear hE a; intro a hE
                    refine l_go hE rfl (o_pure hE rfl rfl (p_pick (b := true) rfl rfl).run ?_); clear hE a; intro a hE
                    refine l_go hE rfl (o_pure hE rfl rfl (p_move rfl).run ?_); clear hE a; intro a hE
                    refine l_skip hE rfl rfl rfl ?_; clear hE a; intro a hE
                    refine l_go hE rfl (o_pure hE rfl rfl (p_pick (b := false) rfl rfl).run ?_); clear hE a; intro a hE
                    refine l_go hE rfl (o_pure hE rfl rfl (p_boolEq Tryd.underlying4 rfl rfl rfl).run ?_); clear hE a; intro a hE
                    refine l_step rfl (o_pure hE rfl rfl (p_pick (b := false) rfl rfl).run ?_); clear hE a; intro a hE
                    refine l_step rfl (o_pure hE rfl rfl (p_move rfl).run ?_); clear hE a; intro a hE
                    refine l_go hE rfl (o_pure hE rfl rfl (p_move rfl).run ?_); clear hE a; intro a hE
                    refine l_go hE rfl (o_pure hE rfl rfl (p_ifaceNil Tryd.underlying25 rfl rfl rfl).run ?_); clear hE a; intro a hE
                    refine l_go hE rfl (o_pure hE rfl rfl (p_move rfl).run ?_); clear hE a; intro a hE
                    refine l_go hE rfl (o_pure hE rfl rfl (p_move rfl).run ?_); clear hE a; intro a hE
                    refine l_go hE rfl (o_call hE rfl rfl rfl rfl ent_22 (Is_spec hI (hS.mono (((hD2.trans hD9).trans hD19).trans hD59)) (f := .bare 105) rfl ⟨by omega, by omega⟩ 105) ?_)
                    clear hI hE a
                    rintro r w ⟨rfl, hI⟩ a hE
                    refine l_go hE rfl (o_pure hE rfl rfl (p_not rfl).run ?_); clear hE a; intro a hE
                    refine l_go hE rfl (o_pure hE rfl rfl (p_pick (b := true) rfl rfl).run ?_); clear hE a; intro a hE
                    refine l_step rfl (o_pure hE rfl rfl (p_pick (b := false) rfl rfl).run ?_); clear hE a; intro a hE
                    refine wpList_nil ?_
                    refine then_normal ?_
                    refine c_false hE rfl ?_
                    refine wp_skip ?_
                    refine then_normal ?_
                    refine wp_seq ?_
                    refine wp_seq ?_
                    refine wp_region_list ?_   -- region 15
                    refine l_step rfl (o_pure hE rfl rfl (p_move rfl).run ?_); clear hE a; intro a hE
                    refine l_step rfl (o_pure hE rfl rfl (p_ifaceNil Tryd.underlying25 rfl rfl rfl).run ?_); clear hE a; intro a hE
                    refine wpList_nil ?_
                    refine then_normal ?_
                    refine c_true hE rfl ?_
                    refine wp_seq ?_
                    refine wp_region_list ?_   -- region 16
                    refine l_step rfl (o_pure hE rfl rfl (p_move rfl).run ?_); clear hE a; intro a hE
                    refine l_step rfl (o_pure hE rfl rfl (p_assign rfl).run ?_); clear hE a; intro a hE
                    refine wpList_nil ?_
                    refine then_normal ?_
                    refine wp_ret ?_
                    refine then_ret ?_
                    refine ret1 rfl hE rfl ?_
                    exact ⟨rfl, _, (((hD2.trans hD9).trans hD19).trans hD59), hI.drop⟩
                · replace hb66 := iff_f hb66
                  refine l_step rfl (o_pure hE rfl rfl (p_boolEq Tryd.underlying4 rfl rfl rfl).run ?_); clear hE a; intro a hE
                  refine l_step rfl (o_pure hE rfl rfl (p_move rfl).run ?_); clear hE a; intro a hE
                  refine l_skip hE rfl rfl rfl ?_; clear hE a; intro a hE
                  refine l_skip hE rfl rfl rfl ?_; clear hE a; intro a hE
                  refine l_skip hE rfl rfl rfl ?_; clear hE a; intro a hE
                  refine l_skip hE rfl rfl rfl ?_; clear hE a; intro a hE
                  refine l_step rfl (o_pure hE rfl rfl (p_pick (b := true) rfl rfl).run ?_); clear hE a; intro a hE
                  refine l_step rfl (o_pure hE rfl rfl (p_move rfl).run ?_); clear hE a; intro a hE
                  refine l_skip hE rfl rfl rfl ?_; clear hE a; intro a hE
                  refine l_skip hE rfl rfl rfl ?_; clear hE a; intro a hE
                  refine l_skip hE rfl rfl rfl ?_; clear hE a; intro a hE
                  refine l_skip hE rfl rfl rfl ?_; clear hE a; intro a hE
                  refine l_skip hE rfl rfl rfl ?_; clear hE a; intro a hE
                  refine l_skip hE rfl rfl rfl ?_; clear hE a; intro a hE
                  refine l_skip hE rfl rfl rfl ?_; clear hE a; intro a hE
                  refine l_skip hE rfl rfl rfl ?_; clear hE a; intro a hE
                  refine l_skip hE rfl rfl rfl ?_; clear hE a; intro a hE
                  refine l_skip hE rfl rfl rfl ?_; clear hE a; intro a hE
                  refine l_step rfl (o_pure hE rfl rfl (p_pick (b := true) rfl rfl).run ?_); clear hE a; intro a hE
                  refine l_step rfl (o_pure hE rfl rfl (p_move rfl).run ?_); clear hE a; intro a hE
                  refine l_skip hE rfl rfl rfl ?_; clear hE a; intro a hE
                  refine l_skip hE rfl rfl rfl ?_; clear hE a; intro a hE
                  refine l_skip hE rfl rfl rfl ?_; clear hE a; intro a hE
                  refine l_skip hE rfl rfl rfl ?_; clear hE a; intro a hE
                  refine l_skip hE rfl rfl rfl ?_; clear hE a; intro a hE
                  refine l_skip hE rfl rfl rfl ?_; clear hE a; intro a hE
                  refine l_skip hE rfl rfl rfl ?_; clear hE a; intro a hE
                  refine l_step rfl (o_pure hE rfl rfl (p_pick (b := true) rfl rfl).run ?_); clear hE a; intro a hE
                  refine wpList_nil ?_
                  refine then_normal ?_
                  refine c_true hE rfl ?_
                  refine wp_seq ?_
                  refine wp_region_list ?_   -- region 14
                  refine l_step rfl (o_pure hE rfl rfl (p_assign rfl).run ?_); clear hE a; intro a hE
                  refine wpList_nil ?_
                  refine then_normal ?_
                  refine wp_ret ?_
                  refine then_ret ?_
                  refine ret1 rfl hE rfl ?_
                  exfalso
                  first
                    | exact hO2 ⟨by omega, by omega, ‹z2 ≤ 24 ∧ (had = true ∨ z2 = 0)›⟩
                    | exact absurd (show z2 ≤ 24 ∧ (had = true ∨ z2 = 0) by have q := hO.2.2; dsimp only at q; rw [hlv] at q; exact q) ‹¬ (z2 ≤ 24 ∧ (had = true ∨ z2 = 0))›
                    | omega
    · skip
      refine l_step rfl (o_pure hE rfl rfl (p_move rfl).run ?_); clear hE a; intro a hE
      refine l_step rfl (o_pure hE rfl rfl (f_extract rfl rfl).run ?_); clear hE a; intro a hE
      refine l_step rfl (o_pure hE rfl rfl (f_extract rfl rfl).run ?_); clear hE a; intro a hE
      refine l_step rfl (o_pure hE rfl rfl (p_assign rfl).run ?_); clear hE a; intro a hE
      refine l_step rfl (o_pure hE rfl rfl (p_assign rfl).run ?_); clear hE a; intro a hE
      refine wpList_nil ?_
      refine then_normal ?_
      refine wp_seq ?_
      refine wp_region_list ?_   -- region 8
      refine l_step rfl (o_pure hE rfl rfl (p_fieldAddr (m := 2) rfl fo_34_2 rfl).run ?_); clear hE a; intro a hE
      refine l_step rfl (o_pure hE rfl rfl (f_load rfl scal_22 (hI.seg 0 rfl) rfl) ?_); clear hE a; intro a hE
      refine l_step rfl (o_call hE rfl rfl rfl rfl ent_16 (UserKey_spec hI (g105.mono (hD2.trans hD9)) hk) ?_)
      clear hI hE a
      rintro r w h a hE; rcases h with ⟨v74, D72, huser, huser2, rfl, hD73, hI, hv75⟩ | ⟨huser, rfl, hI⟩
      · skip
        obtain ⟨A76, c77, rfl, _⟩ := hv75.slice
        refine l_step rfl (o_pure hE rfl rfl (p_move rfl).run ?_); clear hE a; intro a hE
        refine l_step rfl (o_pure hE rfl rfl (f_extract rfl rfl).run ?_); clear hE a; intro a hE
        refine l_step rfl (o_pure hE rfl rfl (f_extract rfl rfl).run ?_); clear hE a; intro a hE
        refine l_step rfl (o_pure hE rfl rfl (p_assign rfl).run ?_); clear hE a; intro a hE
        refine l_step rfl (o_pure hE rfl rfl (p_assign rfl).run ?_); clear hE a; intro a hE
        refine wpList_nil ?_
        refine then_normal ?_
        refine wp_seq ?_
        refine wp_region_list ?_   -- region 9
        refine l_step rfl (o_pure hE rfl rfl (f_loadA (vs := [_, _, _, _, _]) rfl agg_34 (hI.seg 0 rfl) rfl rfl) ?_); clear hE a; intro a hE
        refine l_step rfl (o_call hE rfl rfl rfl rfl ent_21 (UBytes_spec hI (g105.mono ((hD2.trans hD9).trans hD73)) tx n had (hk.mono hD73) (hv.mono hD73) (by omega)) ?_)
        clear hI hE a
        rintro r w ⟨D78, hD79, h⟩ a hE
        rcases h with ⟨v82, s80, hO, rfl, hI, hR81⟩ | ⟨hO, rfl, hI⟩
        · skip
          exfalso
          obtain ⟨q1, q2, _⟩ := hO
          dsimp only at q1 q2
          omega
        · skip
          have hO2 : ¬ ((1 ≤ tx ∧ tx ≤ 2251799813685248 ∧ 0 ≤ n ∧ n < 12) ∧ (1 ≤ z1 ∧ z1 ≤ 20) ∧ z2 ≤ 24 ∧ (had = true ∨ z2 = 0)) := fun q => hO ⟨q.1, by dsimp only; omega, by dsimp only; omega, by dsimp only; rw [hlv]; exact q.2.2.2⟩
          refine l_step rfl (o_pure hE rfl rfl (p_move rfl).run ?_); clear hE a; intro a hE
          refine l_step rfl (o_pure hE rfl rfl (f_extract rfl rfl).run ?_); clear hE a; intro a hE
          refine l_step rfl (o_pure hE rfl rfl (f_extract rfl rfl).run ?_); clear hE a; intro a hE
          refine l_step rfl (o_pure hE rfl rfl (p_assign rfl).run ?_); clear hE a; intro a hE
          refine l_step rfl (o_pure hE rfl rfl (p_assign rfl).run ?_); clear hE a; intro a hE
          refine wpList_nil ?_
          refine then_normal ?_
          refine c_cutb [0, 1, 4, 11, 12, 13, 14, 16, 17, 18] 19 (1 ≤ tx ∧ tx ≤ 2251799813685248 ∧ 0 ≤ n ∧ n < 12) hE ?_ ?_
          · skip
            refine wp_region_list ?_   -- region 10
            refine l_step rfl (o_pure hE rfl rfl (p_move rfl).run ?_); clear hE a; intro a hE
            refine l_step rfl (o_cmp hE rfl rfl rfl rfl rfl rfl ?_ ?_)
            · intro q1; replace q1 := geq_t q1; clear hE a; intro a hE
              refine l_step rfl (o_pure hE rfl rfl (p_move rfl).run ?_); clear hE a; intro a hE
              refine l_go hE rfl (o_pure hE rfl rfl (p_move rfl).run ?_); clear hE a; intro a hE
              refine l_go hE rfl (o_cmp hE rfl rfl rfl rfl rfl rfl ?_ ?_)
              · intro q2; replace q2 := leq_t q2; clear hE a; intro a hE
                refine l_step rfl (o_pure hE rfl rfl (p_pick (b := true) rfl rfl).run ?_); clear hE a; intro a hE
                refine l_step rfl (o_pure hE rfl rfl (p_move rfl).run ?_); clear hE a; intro a hE
                refine l_go hE rfl (o_pure hE rfl rfl (p_move rfl).run ?_); clear hE a; intro a hE
                refine l_go hE rfl (o_cmp hE rfl rfl rfl rfl rfl rfl ?_ ?_)
                · intro q3; replace q3 := geq_t q3; clear hE a; intro a hE
                  refine l_step rfl (o_pure hE rfl rfl (p_pick (b := true) rfl rfl).run ?_); clear hE a; intro a hE
                  refine l_step rfl (o_pure hE rfl rfl (p_move rfl).run ?_); clear hE a; intro a hE
                  refine l_go hE rfl (o_pure hE rfl rfl (p_move rfl).run ?_); clear hE a; intro a hE
                  refine l_go hE rfl (o_cmp hE rfl rfl rfl rfl rfl rfl ?_ ?_)
                  · intro q4; replace q4 := lss_t q4; clear hE a; intro a hE
                    refine l_step rfl (o_pure hE rfl rfl (p_pick (b := true) rfl rfl).run ?_); clear hE a; intro a hE
                    refine l_step rfl (o_pure hE rfl rfl (p_assign rfl).run ?_); clear hE a; intro a hE
                    refine wpList_nil ?_
                    refine then_normal ?_
                    exact ⟨rfl, true, ⟨fun _ => by omega, fun _ => rfl⟩, hE.pick [19, 0, 1, 4, 11, 12, 13, 14, 16, 17, 18]⟩
                  · intro q4; replace q4 := lss_f q4; clear hE a; intro a hE
                    refine l_step rfl (o_pure hE rfl rfl (p_pick (b := true) rfl rfl).run ?_); clear hE a; intro a hE
                    refine l_step rfl (o_pure hE rfl rfl (p_assign rfl).run ?_); clear hE a; intro a hE
                    refine wpList_nil ?_
                    refine then_normal ?_
                    exact ⟨rfl, false, ⟨fun h => Bool.noConfusion h, fun h => absurd h (by omega)⟩, hE.pick [19, 0, 1, 4, 11, 12, 13, 14, 16, 17, 18]⟩
                · intro q3; replace q3 := geq_f q3; clear hE a; intro a hE
                  refine l_step rfl (o_pure hE rfl rfl (p_pick (b := true) rfl rfl).run ?_); clear hE a; intro a hE
                  refine l_step rfl (o_pure hE rfl rfl (p_move rfl).run ?_); clear hE a; intro a hE
                  refine l_skip hE rfl rfl rfl ?_; clear hE a; intro a hE
                  refine l_skip hE rfl rfl rfl ?_; clear hE a; intro a hE
                  refine l_step rfl (o_pure hE rfl rfl (p_pick (b := false) rfl rfl).run ?_); clear hE a; intro a hE
                  refine l_step rfl (o_pure hE rfl rfl (p_assign rfl).run ?_); clear hE a; intro a hE
                  refine wpList_nil ?_
                  refine then_normal ?_
                  exact ⟨rfl, false, ⟨fun h => Bool.noConfusion h, fun h => absurd h (by omega)⟩, hE.pick [19, 0, 1, 4, 11, 12, 13, 14, 16, 17, 18]⟩
              · intro q2; replace q2 := leq_f q2; clear hE a; intro a hE
                refine l_step rfl (o_pure hE rfl rfl (p_pick (b := true) rfl rfl).run ?_); clear hE a; intro a hE
                refine l_step rfl (o_pure hE rfl rfl (p_move rfl).run ?_); clear hE a; intro a hE
                refine l_skip hE rfl rfl rfl ?_; clear hE a; intro a hE
                refine l_skip hE rfl rfl rfl ?_; clear hE a; intro a hE
                refine l_step rfl (o_pure hE rfl rfl (p_pick (b := false) rfl rfl).run ?_); clear hE a; intro a hE
                refine l_step rfl (o_pure hE rfl rfl (p_move rfl).run ?_); clear hE a; intro a hE
                refine l_skip hE rfl rfl rfl ?_; clear hE a; intro a hE
                refine l_skip hE rfl rfl rfl ?_; clear hE a; intro a hE
                refine l_step rfl (o_pure hE rfl rfl (p_pick (b := false) rfl rfl).run ?_); clear hE a; intro a hE
                refine l_step rfl (o_pure hE rfl rfl (p_assign rfl).run ?_); clear hE a; intro a hE
                refine wpList_nil ?_
                refine then_normal ?_
                exact ⟨rfl, false, ⟨fun h => Bool.noConfusion h, fun h => absurd h (by omega)⟩, hE.pick [19, 0, 1, 4, 11, 12, 13, 14, 16, 17, 18]⟩
            · intro q1; replace q1 := geq_f q1; clear hE a; intro a hE
              refine l_step rfl (o_pure hE rfl rfl (p_move rfl).run ?_); clear hE a; intro a hE
              refine l_skip hE rfl rfl rfl ?_; clear hE a; intro a hE
              refine l_skip hE rfl rfl rfl ?_; clear hE a; intro a hE
              refine l_step rfl (o_pure hE rfl rfl (p_pick (b := false) rfl rfl).run ?_); clear hE a; intro a hE
              refine l_step rfl (o_pure hE rfl rfl (p_move rfl).run ?_); clear hE a; intro a hE
              refine l_skip hE rfl rfl rfl ?_; clear hE a; intro a hE
              refine l_skip hE rfl rfl rfl ?_; clear hE a; intro a hE
              refine l_step rfl (o_pure hE rfl rfl (p_pick (b := false) rfl rfl).run ?_); clear hE a; intro a hE
              refine l_step rfl (o_pure hE rfl rfl (p_move rfl).run ?_); clear hE a; intro a hE
              refine l_skip hE rfl rfl rfl ?_; clear hE a; intro a hE
              refine l_skip hE rfl rfl rfl ?_; clear hE a; intro a hE
              refine l_step rfl (o_pure hE rfl rfl (p_pick (b := false) rfl rfl).run ?_); clear hE a; intro a hE
              refine l_step rfl (o_pure hE rfl rfl (p_assign rfl).run ?_); clear hE a; intro a hE
              refine wpList_nil ?_
              refine then_normal ?_
              exact ⟨rfl, false, ⟨fun h => Bool.noConfusion h, fun h => absurd h (by omega)⟩, hE.pick [19, 0, 1, 4, 11, 12, 13, 14, 16, 17, 18]⟩
          · clear hE a; intro bb87 a hb86 hE
            replace hE : EnvOk 137 [(19, .bool bb87), (0, _), (1, _), (4, _), (11, _), (12, _), (13, _), (14, _), (16, _), (17, _), (18, _)] a := hE
            refine c_cutb [1, 4, 11, 12, 13, 14, 16, 17, 18, 19] 20 (1 ≤ z1 ∧ z1 ≤ 20) hE ?_ ?_
            · skip
              refine wp_region_list ?_   -- region 11
              refine l_step rfl (o_pure hE rfl rfl (p_move rfl).run ?_); clear hE a; intro a hE
              refine l_step rfl (o_cmp hE rfl rfl rfl rfl rfl rfl ?_ ?_)
              · intro q1; replace q1 := geq_t q1; clear hE a; intro a hE
                refine l_step rfl (o_pure hE rfl rfl (p_move rfl).run ?_); clear hE a; intro a hE
                refine l_go hE rfl (o_pure hE rfl rfl (p_move rfl).run ?_); clear hE a; intro a hE
                refine l_go hE rfl (o_cmp hE rfl rfl rfl rfl rfl rfl ?_ ?_)
                · intro q2; replace q2 := leq_t q2; clear hE a; intro a hE
                  refine l_step rfl (o_pure hE rfl rfl (p_pick (b := true) rfl rfl).run ?_); clear hE a; intro a hE
                  refine l_step rfl (o_pure hE rfl rfl (p_assign rfl).run ?_); clear hE a; intro a hE
                  refine wpList_nil ?_
                  refine then_normal ?_
                  exact ⟨rfl, true, ⟨fun _ => by omega, fun _ => rfl⟩, hE.pick [20, 1, 4, 11, 12, 13, 14, 16, 17, 18, 19]⟩
                · intro q2; replace q2 := leq_f q2; clear hE a; intro a hE
                  refine l_step rfl (o_pure hE rfl rfl (p_pick (b := true) rfl rfl).run ?_); clear hE a; intro a hE
                  refine l_step rfl (o_pure hE rfl rfl (p_assign rfl).run ?_); clear hE a; intro a hE
                  refine wpList_nil ?_
                  refine then_normal ?_
                  exact ⟨rfl, false, ⟨fun h => Bool.noConfusion h, fun h => absurd h (by omega)⟩, hE.pick [20, 1, 4, 11, 12, 13, 14, 16, 17, 18, 19]⟩
              · intro q1; replace q1 := geq_f q1; clear hE a; intro a hE
                refine l_step rfl (o_pure hE rfl rfl (p_move rfl).run ?_); clear hE a; intro a hE
                refine l_skip hE rfl rfl rfl ?_; clear hE a; intro a hE
                refine l_skip hE rfl rfl rfl ?_; clear hE a; intro a hE
                refine l_step rfl (o_pure hE rfl rfl (p_pick (b := false) rfl rfl).run ?_); clear hE a; intro a hE
                refine l_step rfl (o_pure hE rfl rfl (p_assign rfl).run ?_); clear hE a; intro a hE
                refine wpList_nil ?_
                refine then_normal ?_
                exact ⟨rfl, false, ⟨fun h => Bool.noConfusion h, fun h => absurd h (by omega)⟩, hE.pick [20, 1, 4, 11, 12, 13, 14, 16, 17, 18, 19]⟩
            · clear hE a; intro bb89 a hb88 hE
              replace hE : EnvOk 137 [(20, .bool bb89), (1, _), (4, _), (11, _), (12, _), (13, _), (14, _), (16, _), (17, _), (18, _), (19, _)] a := hE
              refine c_cutb [11, 12, 13, 14, 16, 17, 18, 19, 20] 21 (z2 ≤ 24 ∧ (had = true ∨ z2 = 0)) hE ?_ ?_
              · skip
                refine wp_region_list ?_   -- region 12
                refine l_step rfl (o_pure hE rfl rfl (p_move rfl).run ?_); clear hE a; intro a hE
                refine l_step rfl (o_cmp hE rfl rfl rfl rfl rfl rfl ?_ ?_)
                · intro q1; replace q1 := leq_t q1; clear hE a; intro a hE
                  refine l_step rfl (o_pure hE rfl rfl (p_move rfl).run ?_); clear hE a; intro a hE
                  refine l_go hE rfl (o_pure hE rfl rfl (p_move rfl).run ?_); clear hE a; intro a hE
                  refine l_go hE rfl (o_pure hE rfl rfl (p_move rfl).run ?_); clear hE a; intro a hE
                  rcases Bool.eq_false_or_eq_true had with rfl | rfl
                  · replace hhad := iff_t hhad
                    refine l_skip hE rfl rfl rfl ?_; clear hE a; intro a hE
                    refine l_skip hE rfl rfl rfl ?_; clear hE a; intro a hE
                    refine l_go hE rfl (o_pure hE rfl rfl (p_pick (b := true) rfl rfl).run ?_); clear hE a; intro a hE
                    refine l_step rfl (o_pure hE rfl rfl (p_pick (b := true) rfl rfl).run ?_); clear hE a; intro a hE
                    refine l_step rfl (o_pure hE rfl rfl (p_assign rfl).run ?_); clear hE a; intro a hE
                    refine wpList_nil ?_
                    refine then_normal ?_
                    exact ⟨rfl, true, ⟨fun _ => ⟨by omega, by first | exact .inl rfl | exact .inr (by omega)⟩, fun _ => rfl⟩, hE.pick [21, 11, 12, 13, 14, 16, 17, 18, 19, 20]⟩
                  · replace hhad := iff_f hhad
                    refine l_go hE rfl (o_pure hE rfl rfl (p_move rfl).run ?_); clear hE a; intro a hE
                    refine l_go hE rfl (o_cmp hE rfl rfl rfl rfl rfl rfl ?_ ?_)
                    · intro q2; replace q2 := eql_t q2; clear hE a; intro a hE
                      refine l_go hE rfl (o_pure hE rfl rfl (p_pick (b := false) rfl rfl).run ?_); clear hE a; intro a hE
                      refine l_step rfl (o_pure hE rfl rfl (p_pick (b := true) rfl rfl).run ?_); clear hE a; intro a hE
                      refine l_step rfl (o_pure hE rfl rfl (p_assign rfl).run ?_); clear hE a; intro a hE
                      refine wpList_nil ?_
                      refine then_normal ?_
                      exact ⟨rfl, true, ⟨fun _ => ⟨by omega, by first | exact .inl rfl | exact .inr (by omega)⟩, fun _ => rfl⟩, hE.pick [21, 11, 12, 13, 14, 16, 17, 18, 19, 20]⟩
                    · intro q2; replace q2 := eql_f q2; clear hE a; intro a hE
                      refine l_go hE rfl (o_pure hE rfl rfl (p_pick (b := false) rfl rfl).run ?_); clear hE a; intro a hE
                      refine l_step rfl (o_pure hE rfl rfl (p_pick (b := true) rfl rfl).run ?_); clear hE a; intro a hE
                      refine l_step rfl (o_pure hE rfl rfl (p_assign rfl).run ?_); clear hE a; intro a hE
                      refine wpList_nil ?_
                      refine then_normal ?_
                      exact ⟨rfl, false, ⟨fun h => Bool.noConfusion h, fun h => absurd h (by rintro ⟨q1, q2 | q2⟩ <;> first | omega | cases q2)⟩, hE.pick [21, 11, 12, 13, 14, 16, 17, 18, 19, 20]⟩
                · intro q1; replace q1 := leq_f q1; clear hE a; intro a hE
                  refine l_step rfl (o_pure hE rfl rfl (p_move rfl).run ?_); clear hE a; intro a hE
                  refine l_skip hE rfl rfl rfl ?_; clear hE a; intro a hE
                  refine l_skip hE rfl rfl rfl ?_; clear hE a; intro a hE
                  refine l_skip hE rfl rfl rfl ?_; clear hE a; intro a hE
                  refine l_skip hE rfl rfl rfl ?_; clear hE a; intro a hE
                  refine l_skip hE rfl rfl rfl ?_; clear hE a; intro a hE
                  refine l_step rfl (o_pure hE rfl rfl (p_pick (b := false) rfl rfl).run ?_); clear hE a; intro a hE
                  refine l_step rfl (o_pure hE rfl rfl (p_assign rfl).run ?_); clear hE a; intro a hE
                  refine wpList_nil ?_
                  refine then_normal ?_
                  exact ⟨rfl, false, ⟨fun h => Bool.noConfusion h, fun h => absurd h (by rintro ⟨q1, q2 | q2⟩ <;> first | omega | cases q2)⟩, hE.pick [21, 11, 12, 13, 14, 16, 17, 18, 19, 20]⟩
              · clear hE a; intro bb91 a hb90 hE
                replace hE : EnvOk 137 [(21, .bool bb91), (11, _), (12, _), (13, _), (14, _), (16, _), (17, _), (18, _), (19, _), (20, _)] a := hE
                refine wp_seq ?_
                refine wp_seq ?_
                refine wp_region_list ?_   -- region 13
                refine l_step rfl (o_pure hE rfl rfl (p_move rfl).run ?_); clear hE a; intro a hE
                refine l_step rfl (o_pure hE rfl rfl (p_ifaceNil Tryd.underlying25 rfl rfl rfl).run ?_); clear hE a; intro a hE
                refine l_step rfl (o_pure hE rfl rfl (p_move rfl).run ?_); clear hE a; intro a hE
                rcases Bool.eq_false_or_eq_true bb87 with rfl | rfl
                · replace hb86 := iff_t hb86
                  refine l_step rfl (o_pure hE rfl rfl (p_boolEq Tryd.underlying4 rfl rfl rfl).run ?_); clear hE a; intro a hE
                  refine l_step rfl (o_pure hE rfl rfl (p_move rfl).run ?_); clear hE a; intro a hE
                  refine l_skip hE rfl rfl rfl ?_; clear hE a; intro a hE
                  refine l_skip hE rfl rfl rfl ?_; clear hE a; intro a hE
                  refine l_skip hE rfl rfl rfl ?_; clear hE a; intro a hE
                  refine l_skip hE rfl rfl rfl ?_; clear hE a; intro a hE
                  refine l_step rfl (o_pure hE rfl rfl (p_pick (b := true) rfl rfl).run ?_); clear hE a; intro a hE
                  refine l_step rfl (o_pure hE rfl rfl (p_move rfl).run ?_); clear hE a; intro a hE
                  refine l_skip hE rfl rfl rfl ?_; clear hE a; intro a hE
                  refine l_skip hE rfl rfl rfl ?_; clear hE a; intro a hE
                  refine l_skip hE rfl rfl rfl ?_; clear hE a; intro a hE
                  refine l_skip hE rfl rfl rfl ?_; clear hE a; intro a hE
                  refine l_skip hE rfl rfl rfl ?_; clear hE a; intro a hE
                  refine l_skip hE rfl rfl rfl ?_; clear hE a; intro a hE
                  refine l_skip hE rfl rfl rfl ?_; clear hE a; intro a hE
                  refine l_skip hE rfl rfl rfl ?_; clear hE a; intro a hE
                  refine l_skip hE rfl rfl rfl ?_; clear hE a; intro a hE
                  refine l_skip hE rfl rfl rfl ?_; clear hE a; intro a hE
                  refine l_step rfl (o_pure hE rfl rfl (p_pick (b := true) rfl rfl).run ?_); clear hE a; intro a hE
                  refine l_step rfl (o_pure hE rfl rfl (p_move rfl).run ?_); clear hE a; intro a hE
                  refine l_skip hE rfl rfl rfl ?_; clear hE a; intro a hE
                  refine l_skip hE rfl rfl rfl ?_; clear hE a; intro a hE
                  refine l_skip hE rfl rfl rfl ?_; clear hE a; intro a hE
                  refine l_skip hE rfl rfl rfl ?_; clear hE a; intro a hE
                  refine l_skip hE rfl rfl rfl ?_; clear hE a; intro a hE
                  refine l_skip hE rfl rfl rfl ?_; clear hE a; intro a hE
                  refine l_skip hE rfl rfl rfl ?_; clear hE a; intro a hE
                  refine l_step rfl (o_pure hE rfl rfl (p_pick (b := true) rfl rfl).run ?_); clear hE a; intro a hE
                  refine wpList_nil ?_
                  refine then_normal ?_
                  refine c_true hE rfl ?_
                  refine wp_seq ?_
                  refine wp_region_list ?_   -- region 14
                  refine l_step rfl (o_pure hE rfl rfl (p_assign rfl).run ?_); clear hE a; intro a hE
                  refine wpList_nil ?_
                  refine then_normal ?_
                  refine wp_ret ?_
                  refine then_ret ?_
                  refine ret1 rfl hE rfl ?_
                  exfalso
                  first
                    | exact hO2 ⟨by omega, by omega, ‹z2 ≤ 24 ∧ (had = true ∨ z2 = 0)›⟩
                    | exact absurd (show z2 ≤ 24 ∧ (had = true ∨ z2 = 0) by have q := hO.2.2; dsimp only at q; rw [hlv] at q; exact q) ‹¬ (z2 ≤ 24 ∧ (had = true ∨ z2 = 0))›
                    | omega
                · replace hb86 := iff_f hb86
                  refine l_step rfl (o_pure hE rfl rfl (p_boolEq Tryd.underlying4 rfl rfl rfl).run ?_); clear hE a; intro a hE
                  refine l_step rfl (o_pure hE rfl rfl (p_move rfl).run ?_); clear hE a; intro a hE
                  refine l_go hE rfl (o_pure hE rfl rfl (p_move rfl).run ?_); clear hE a; intro a hE
                  refine l_go hE rfl (o_pure hE rfl rfl (p_ifaceNil Tryd.underlying25 rfl rfl rfl).run ?_); clear hE a; intro a hE
                  refine l_go hE rfl (o_pure hE rfl rfl (p_move rfl).run ?_); clear hE a; intro a hE
                  rcases Bool.eq_false_or_eq_true bb89 with rfl | rfl
                  · replace hb88 := iff_t hb88
                    refine l_go hE rfl (o_pure hE rfl rfl (p_boolEq Tryd.underlying4 rfl rfl rfl).run ?_); clear hE a; intro a hE
                    refine l_step rfl (o_pure hE rfl rfl (p_pick (b := false) rfl rfl).run ?_); clear hE a; intro a hE
                    refine l_step rfl (o_pure hE rfl rfl (p_move rfl).run ?_); clear hE a; intro a hE
                    refine l_go hE rfl (o_pure hE rfl rfl (p_move rfl).run ?_); clear hE a; intro a hE
                    refine l_go hE rfl (o_pure hE rfl rfl (p_ifaceNil Tryd.underlying25 rfl rfl rfl).run ?_); clear hE a; intro a hE
                    refine l_go hE rfl (o_pure hE rfl rfl (p_move rfl).run ?_); clear hE a; intro a hE
                    refine l_go hE rfl (o_pure hE rfl rfl (p_move rfl).run ?_); clear hE a; intro a hE
                    refine l_skip hE rfl rfl rfl ?_; clear hE a; intro a hE
                    refine l_go hE rfl (o_pure hE rfl rfl (p_pick (b := false) rfl rfl).run ?_); clear hE a; intro a hE
                    refine l_go hE rfl (o_pure hE rfl rfl (p_move rfl).run ?_); clear hE a; intro a hE
                    refine l_skip hE rfl rfl rfl ?_; clear hE a; intro a hE
                    refine l_go hE rfl (o_pure hE rfl rfl (p_pick (b := false) rfl rfl).run ?_); clear hE a; intro a hE
                    refine l_go hE rfl (o_pure hE rfl rfl (p_boolEq Tryd.underlying4 rfl rfl rfl).run ?_); clear hE a; intro a hE
                    refine l_step rfl (o_pure hE rfl rfl (p_pick (b := false) rfl rfl).run ?_); clear hE a; intro a hE
                    refine l_step rfl (o_pure hE rfl rfl (p_move rfl).run ?_); clear hE a; intro a hE
                    refine l_go hE rfl (o_pure hE rfl rfl (p_move rfl).run ?_); clear hE a; intro a hE
                    refine l_go hE rfl (o_pure hE rfl rfl (p_ifaceNil Tryd.underlying25 rfl rfl rfl).run ?_); clear hE a; intro a hE
                    refine l_go hE rfl (o_pure hE rfl rfl (p_move rfl).run ?_); clear hE a; intro a hE
                    refine l_go hE rfl (o_pure hE rfl rfl (p_move rfl).run ?_); clear hE a; intro a hE
                    refine l_go hE rfl (o_call hE rfl rfl rfl rfl ent_22 (Is_spec hI (hS.mono (((hD2.trans hD9).trans hD73).trans hD79)) (f := .bare 105) rfl ⟨by omega, by omega⟩ 105) ?_)
                    clear hI hE a
                    rintro r w ⟨rfl, hI⟩ a hE
                    refine l_go hE rfl (o_pure hE rfl rfl (p_not rfl).run ?_); clear hE a; intro a hE
                    refine l_go hE rfl (o_pure hE rfl rfl (p_pick (b := true) rfl rfl).run ?_); clear hE a; intro a hE
                    refine l_step rfl (o_pure hE rfl rfl (p_pick (b := false) rfl rfl).run ?_); clear hE a; intro a hE
                    refine wpList_nil ?_
                    refine then_normal ?_
                    refine c_false hE rfl ?_
                    refine wp_skip ?_
                    refine then_normal ?_
                    refine wp_seq ?_
                    refine wp_seq ?_
                    refine wp_region_list ?_   -- region 15
                    refine l_step rfl (o_pure hE rfl rfl (p_move rfl).run ?_); clear hE a; intro a hE
                    refine l_step rfl (o_pure hE rfl rfl (p_ifaceNil Tryd.underlying25 rfl rfl rfl).run ?_); clear hE a; intro a hE
                    refine wpList_nil ?_
                    refine then_normal ?_
                    refine c_true hE rfl ?_
                    refine wp_seq ?_
                    refine wp_region_list ?_   -- region 16
                    refine l_step rfl (o_pure hE rfl rfl (p_move rfl).run ?_); clear hE a; intro a hE
                    refine l_step rfl (o_pure hE rfl rfl (p_assign rfl).run ?_); clear hE a; intro a hE
                    refine wpList_nil ?_
                    refine then_normal ?_
                    refine wp_ret ?_
                    refine then_ret ?_
                    refine ret1 rfl hE rfl ?_
                    exact ⟨rfl, _, (((hD2.trans hD9).trans hD73).trans hD79), hI.drop⟩
                  · replace hb88 := iff_f hb88
                    refine l_go hE rfl (o_pure hE rfl rfl (p_boolEq Tryd.underlying4 rfl rfl rfl).run ?_); clear hE a; intro a hE
                    refine l_step rfl (o_pure hE rfl rfl (p_pick (b := false) rfl rfl).run ?_); clear hE a; intro a hE
                    refine l_step rfl (o_pure hE rfl rfl (p_move rfl).run ?_); clear hE a; intro a hE
                    refine l_skip hE rfl rfl rfl ?_; clear hE a; intro a hE
                    refine l_skip hE rfl rfl rfl ?_; clear hE a; intro a hE
                    refine l_skip hE rfl rfl rfl ?_; clear hE a; intro a hE
                    refine l_skip hE rfl rfl rfl ?_; clear hE a; intro a hE
                    refine l_skip hE rfl rfl rfl ?_; clear hE a; intro a hE
                    refine l_skip hE rfl rfl rfl ?_; clear hE a; intro a hE
                    refine l_skip hE rfl rfl rfl ?_; clear hE a; intro a hE
                    refine l_skip hE rfl rfl rfl ?_; clear hE a; intro a hE
                    refine l_skip hE rfl rfl rfl ?_; clear hE a; intro a hE
                    refine l_skip hE rfl rfl rfl ?_; clear hE a; intro a hE
                    refine l_step rfl (o_pure hE rfl rfl (p_pick (b := true) rfl rfl).run ?_); clear hE a; intro a hE
                    refine l_step rfl (o_pure hE rfl rfl (p_move rfl).run ?_); clear hE a; intro a hE
                    refine l_skip hE rfl rfl rfl ?_; clear hE a; intro a hE
                    refine l_skip hE rfl rfl rfl ?_; clear hE a; intro a hE
                    refine l_skip hE rfl rfl rfl ?_; clear hE a; intro a hE
                    refine l_skip hE rfl rfl rfl ?_; clear hE a; intro a hE
                    refine l_skip hE rfl rfl rfl ?_; clear hE a; intro a hE
                    refine l_skip hE rfl rfl rfl ?_; clear hE a; intro a hE
                    refine l_skip hE rfl rfl rfl ?_; clear hE a; intro a hE
                    refine l_step rfl (o_pure hE rfl rfl (p_pick (b := true) rfl rfl).run ?_); clear hE a; intro a hE
                    refine wpList_nil ?_
                    refine then_normal ?_
                    refine c_true hE rfl ?_
                    refine wp_seq ?_
                    refine wp_region_list ?_   -- region 14
                    refine l_step rfl (o_pure hE rfl rfl (p_assign rfl).run ?_); clear hE a; intro a hE
                    refine wpList_nil ?_
                    refine then_normal ?_
                    refine wp_ret ?_
                    refine then_ret ?_
                    refine ret1 rfl hE rfl ?_
                    exfalso
                    first
                      | exact hO2 ⟨by omega, by omega, ‹z2 ≤ 24 ∧ (had = true ∨ z2 = 0)›⟩
                      | exact absurd (show z2 ≤ 24 ∧ (had = true ∨ z2 = 0) by have q := hO.2.2; dsimp only at q; rw [hlv] at q; exact q) ‹¬ (z2 ≤ 24 ∧ (had = true ∨ z2 = 0))›
                      | omega
      · skip
        refine l_step rfl (o_pure hE rfl rfl (p_move rfl).run ?_); clear hE a; intro a hE
        refine l_step rfl (o_pure hE rfl rfl (f_extract rfl rfl).run ?_); clear hE a; intro a hE
        refine l_step rfl (o_pure hE rfl rfl (f_extract rfl rfl).run ?_); clear hE a; intro a hE
        refine l_step rfl (o_pure hE rfl rfl (p_assign rfl).run ?_); clear hE a; intro a hE
        refine l_step rfl (o_pure hE rfl rfl (p_assign rfl).run ?_); clear hE a; intro a hE
        refine wpList_nil ?_
        refine then_normal ?_
        refine wp_seq ?_
        refine wp_region_list ?_   -- region 9
        refine l_step rfl (o_pure hE rfl rfl (f_loadA (vs := [_, _, _, _, _]) rfl agg_34 (hI.seg 0 rfl) rfl rfl) ?_); clear hE a; intro a hE
        refine l_step rfl (o_call hE rfl rfl rfl rfl ent_21 (UBytes_spec hI (g105.mono (hD2.trans hD9)) tx n had hk hv (by omega)) ?_)
        clear hI hE a
        rintro r w ⟨D92, hD93, h⟩ a hE
        rcases h with ⟨v96, s94, hO, rfl, hI, hR95⟩ | ⟨hO, rfl, hI⟩
        · skip
          exfalso
          obtain ⟨q1, q2, _⟩ := hO
          dsimp only at q1 q2
          omega
        · skip
          have hO2 : ¬ ((1 ≤ tx ∧ tx ≤ 2251799813685248 ∧ 0 ≤ n ∧ n < 12) ∧ (1 ≤ z1 ∧ z1 ≤ 20) ∧ z2 ≤ 24 ∧ (had = true ∨ z2 = 0)) := fun q => hO ⟨q.1, by dsimp only; omega, by dsimp only; omega, by dsimp only; rw [hlv]; exact q.2.2.2⟩
          refine l_step rfl (o_pure hE rfl rfl (p_move rfl).run ?_); clear hE a; intro a hE
          refine l_step rfl (o_pure hE rfl rfl (f_extract rfl rfl).run ?_); clear hE a; intro a hE
          refine l_step rfl (o_pure hE rfl rfl (f_extract rfl rfl).run ?_); clear hE a; intro a hE
          refine l_step rfl (o_pure hE rfl rfl (p_assign rfl).run ?_); clear hE a; intro a hE
          refine l_step rfl (o_pure hE rfl rfl (p_assign rfl).run ?_); clear hE a; intro a hE
          refine wpList_nil ?_
          refine then_normal ?_
          refine c_cutb [0, 1, 4, 11, 12, 13, 14, 16, 17, 18] 19 (1 ≤ tx ∧ tx ≤ 2251799813685248 ∧ 0 ≤ n ∧ n < 12) hE ?_ ?_
          · skip
            refine wp_region_list ?_   -- region 10
            refine l_step rfl (o_pure hE rfl rfl (p_move rfl).run ?_); clear hE a; intro a hE
            refine l_step rfl (o_cmp hE rfl rfl rfl rfl rfl rfl ?_ ?_)
            · intro q1; replace q1 := geq_t q1; clear hE a; intro a hE
              refine l_step rfl (o_pure hE rfl rfl (p_move rfl).run ?_); clear hE a; intro a hE
              refine l_go hE rfl (o_pure hE rfl rfl (p_move rfl).run ?_); clear hE a; intro a hE
              refine l_go hE rfl (o_cmp hE rfl rfl rfl rfl rfl rfl ?_ ?_)
              · intro q2; replace q2 := leq_t q2; clear hE a; intro a hE
                refine l_step rfl (o_pure hE rfl rfl (p_pick (b := true) rfl rfl).run ?_); clear hE a; intro a hE
                refine l_step rfl (o_pure hE rfl rfl (p_move rfl).run ?_); clear hE a; intro a hE
                refine l_go hE rfl (o_pure hE rfl rfl (p_move rfl).run ?_); clear hE a; intro a hE
                refine l_go hE rfl (o_cmp hE rfl rfl rfl rfl rfl rfl ?_ ?_)
                · intro q3; replace q3 := geq_t q3; clear hE a; intro a hE
                  refine l_step rfl (o_pure hE rfl rfl (p_pick (b := true) rfl rfl).run ?_); clear hE a; intro a hE
                  refine l_step rfl (o_pure hE rfl rfl (p_move rfl).run ?_); clear hE a; intro a hE
                  refine l_go hE rfl (o_pure hE rfl rfl (p_move rfl).run ?_); clear hE a; intro a hE
                  refine l_go hE rfl (o_cmp hE rfl rfl rfl rfl rfl rfl ?_ ?_)
                  · intro q4; replace q4 := lss_t q4; clear hE a; intro a hE
                    refine l_step rfl (o_pure hE rfl rfl (p_pick (b := true) rfl rfl).run ?_); clear hE a; intro a hE
                    refine l_step rfl (o_pure hE rfl rfl (p_assign rfl).run ?_); clear hE a; intro a hE
                    refine wpList_nil ?_
                    refine then_normal ?_
                    exact ⟨rfl, true, ⟨fun _ => by omega, fun _ => rfl⟩, hE.pick [19, 0, 1, 4, 11, 12, 13, 14, 16, 17, 18]⟩
                  · intro q4; replace q4 := lss_f q4; clear hE a; intro a hE
                    refine l_step rfl (o_pure hE rfl rfl (p_pick (b := true) rfl rfl).run ?_); clear hE a; intro a hE
                    refine l_step rfl (o_pure hE rfl rfl (p_assign rfl).run ?_); clear hE a; intro a hE
                    refine wpList_nil ?_
                    refine then_normal ?_
                    exact ⟨rfl, false, ⟨fun h => Bool.noConfusion h, fun h => absurd h (by omega)⟩, hE.pick [19, 0, 1, 4, 11, 12, 13, 14, 16, 17, 18]⟩
                · intro q3; replace q3 := geq_f q3; clear hE a; intro a hE
                  refine l_step rfl (o_pure hE rfl rfl (p_pick (b := true) rfl rfl).run ?_); clear hE a; intro a hE
                  refine l_step rfl (o_pure hE rfl rfl (p_move rfl).run ?_); clear hE a; intro a hE
                  refine l_skip hE rfl rfl rfl ?_; clear hE a; intro a hE
                  refine l_skip hE rfl rfl rfl ?_; clear hE a; intro a hE
                  refine l_step rfl (o_pure hE rfl rfl (p_pick (b := false) rfl rfl).run ?_); clear hE a; intro a hE
                  refine l_step rfl (o_pure hE rfl rfl (p_assign rfl).run ?_); clear hE a; intro a hE
                  refine wpList_nil ?_
                  refine then_normal ?_
                  exact ⟨rfl, false, ⟨fun h => Bool.noConfusion h, fun h => absurd h (by omega)⟩, hE.pick [19, 0, 1, 4, 11, 12, 13, 14, 16, 17, 18]⟩
              · intro q2; replace q2 := leq_f q2; clear hE a; intro a hE
                refine l_step rfl (o_pure hE rfl rfl (p_pick (b := true) rfl rfl).run ?_); clear hE a; intro a hE
                refine l_step rfl (o_pure hE rfl rfl (p_move rfl).run ?_); clear hE a; intro a hE
                refine l_skip hE rfl rfl rfl ?_; clear hE a; intro a hE
                refine l_skip hE rfl rfl rfl ?_; clear hE a; intro a hE
                refine l_step rfl (o_pure hE rfl rfl (p_pick (b := false) rfl rfl).run ?_); clear hE a; intro a hE
                refine l_step rfl (o_pure hE rfl rfl (p_move rfl).run ?_); clear hE a; intro a hE
                refine l_skip hE rfl rfl rfl ?_; clear hE a; intro a hE
                refine l_skip hE rfl rfl rfl ?_; clear hE a; intro a hE
                refine l_step rfl (o_pure hE rfl rfl (p_pick (b := false) rfl rfl).run ?_); clear hE a; intro a hE
                refine l_step rfl (o_pure hE rfl rfl (p_assign rfl).run ?_); clear hE a; intro a hE
                refine wpList_nil ?_
                refine then_normal ?_
                exact ⟨rfl, false, ⟨fun h => Bool.noConfusion h, fun h => absurd h (by omega)⟩, hE.pick [19, 0, 1, 4, 11, 12, 13, 14, 16, 17, 18]⟩
            · intro q1; replace q1 := geq_f q1; clear hE a; intro a hE
              refine l_step rfl (o_pure hE rfl rfl (p_move rfl).run ?_); clear hE a; intro a hE
              refine l_skip hE rfl rfl rfl ?_; clear hE a; intro a hE
              refine l_skip hE rfl rfl rfl ?_; clear hE a; intro a hE
              refine l_step rfl (o_pure hE rfl rfl (p_pick (b := false) rfl rfl).run ?_); clear hE a; intro a hE
              refine l_step rfl (o_pure hE rfl rfl (p_move rfl).run ?_); clear hE a; intro a hE
              refine l_skip hE rfl rfl rfl ?_; clear hE a; intro a hE
              refine l_skip hE rfl rfl rfl ?_; clear hE a; intro a hE
              refine l_step rfl (o_pure hE rfl rfl (p_pick (b := false) rfl rfl).run ?_); clear hE a; intro a hE
              refine l_step rfl (o_pure hE rfl rfl (p_move rfl).run ?_); clear hE a; intro a hE
              refine l_skip hE rfl rfl rfl ?_; clear hE a; intro a hE
              refine l_skip hE rfl rfl rfl ?_; clear hE a; intro a hE
              refine l_step rfl (o_pure hE rfl rfl (p_pick (b := false) rfl rfl).run ?_); clear hE a; intro a hE
              refine l_step rfl (o_pure hE rfl rfl (p_assign rfl).run ?_); clear hE a; intro a hE
              refine wpList_nil ?_
              refine then_normal ?_
              exact ⟨rfl, false, ⟨fun h => Bool.noConfusion h, fun h => absurd h (by omega)⟩, hE.pick [19, 0, 1, 4, 11, 12, 13, 14, 16, 17, 18]⟩
          · clear hE a; intro bb101 a hb100 hE
            replace hE : EnvOk 137 [(19, .bool bb101), (0, _), (1, _), (4, _), (11, _), (12, _), (13, _), (14, _), (16, _), (17, _), (18, _)] a := hE
            refine c_cutb [1, 4, 11, 12, 13, 14, 16, 17, 18, 19] 20 (1 ≤ z1 ∧ z1 ≤ 20) hE ?_ ?_
            · skip
              refine wp_region_list ?_   -- region 11
              refine l_step rfl (o_pure hE rfl rfl (p_move rfl).run ?_); clear hE a; intro a hE
              refine l_step rfl (o_cmp hE rfl rfl rfl rfl rfl rfl ?_ ?_)
              · intro q1; replace q1 := geq_t q1; clear hE a; intro a hE
                refine l_step rfl (o_pure hE rfl rfl (p_move rfl).run ?_); clear hE a; intro a hE
                refine l_go hE rfl (o_pure hE rfl rfl (p_move rfl).run ?_); clear hE a; intro a hE
                refine l_go hE rfl (o_cmp hE rfl rfl rfl rfl rfl rfl ?_ ?_)
                · intro q2; replace q2 := leq_t q2; clear hE a; intro a hE
                  refine l_step rfl (o_pure hE rfl rfl (p_pick (b := true) rfl rfl).run ?_); clear hE a; intro a hE
                  refine l_step rfl (o_pure hE rfl rfl (p_assign rfl).run ?_); clear hE a; intro a hE
                  refine wpList_nil ?_
                  refine then_normal ?_
                  exact ⟨rfl, true, ⟨fun _ => by omega, fun _ => rfl⟩, hE.pick [20, 1, 4, 11, 12, 13, 14, 16, 17, 18, 19]⟩
                · intro q2; replace q2 := leq_f q2; clear hE a; intro a hE
                  refine l_step rfl (o_pure hE rfl rfl (p_pick (b := true) rfl rfl).run ?_); clear hE a; intro a hE
                  refine l_step rfl (o_pure hE rfl rfl (p_assign rfl).run ?_); clear hE a; intro a hE
                  refine wpList_nil ?_
                  refine then_normal ?_
                  exact ⟨rfl, false, ⟨fun h => Bool.noConfusion h, fun h => absurd h (by omega)⟩, hE.pick [20, 1, 4, 11, 12, 13, 14, 16, 17, 18, 19]⟩
              · intro q1; replace q1 := geq_f q1; clear hE a; intro a hE
                refine l_step rfl (o_pure hE rfl rfl (p_move rfl).run ?_); clear hE a; intro a hE
                refine l_skip hE rfl rfl rfl ?_; clear hE a; intro a hE
                refine l_skip hE rfl rfl rfl ?_; clear hE a; intro a hE
                refine l_step rfl (o_pure hE rfl rfl (p_pick (b := false) rfl rfl).run ?_); clear hE a; intro a hE
                refine l_step rfl (o_pure hE rfl rfl (p_assign rfl).run ?_); clear hE a; intro a hE
                refine wpList_nil ?_
                refine then_normal ?_
                exact ⟨rfl, false, ⟨fun h => Bool.noConfusion h, fun h => absurd h (by omega)⟩, hE.pick [20, 1, 4, 11, 12, 13, 14, 16, 17, 18, 19]⟩
            · clear hE a; intro bb103 a hb102 hE
              replace hE : EnvOk 137 [(20, .bool bb103), (1, _), (4, _), (11, _), (12, _), (13, _), (14, _), (16, _), (17, _), (18, _), (19, _)] a := hE
              refine c_cutb [11, 12, 13, 14, 16, 17, 18, 19, 20] 21 (z2 ≤ 24 ∧ (had = true ∨ z2 = 0)) hE ?_ ?_
              · skip
                refine wp_region_list ?_   -- region 12
                refine l_step rfl (o_pure hE rfl rfl (p_move rfl).run ?_); clear hE a; intro a hE
                refine l_step rfl (o_cmp hE rfl rfl rfl rfl rfl rfl ?_ ?_)
                · intro q1; replace q1 := leq_t q1; clear hE a; intro a hE
                  refine l_step rfl (o_pure hE rfl rfl (p_move rfl).run ?_); clear hE a; intro a hE
                  refine l_go hE rfl (o_pure hE rfl rfl (p_move rfl).run ?_); clear hE a; intro a hE
                  refine l_go hE rfl (o_pure hE rfl rfl (p_move rfl).run ?_); clear hE a; intro a hE
                  rcases Bool.eq_false_or_eq_true had with rfl | rfl
                  · replace hhad := iff_t hhad
                    refine l_skip hE rfl rfl rfl ?_; clear hE a; intro a hE
                    refine l_skip hE rfl rfl rfl ?_; clear hE a; intro a hE
                    refine l_go hE rfl (o_pure hE rfl rfl (p_pick (b := true) rfl rfl).run ?_); clear hE a; intro a hE
                    refine l_step rfl (o_pure hE rfl rfl (p_pick (b := true) rfl rfl).run ?_); clear hE a; intro a hE
                    refine l_step rfl (o_pure hE rfl rfl (p_assign rfl).run ?_); clear hE a; intro a hE
                    refine wpList_nil ?_
                    refine then_normal ?_
                    exact ⟨rfl, true, ⟨fun _ => ⟨by omega, by first | exact .inl rfl | exact .inr (by omega)⟩, fun _ => rfl⟩, hE.pick [21, 11, 12, 13, 14, 16, 17, 18, 19, 20]⟩
                  · replace hhad := iff_f hhad
                    refine l_go hE rfl (o_pure hE rfl rfl (p_move rfl).run ?_); clear hE a; intro a hE
                    refine l_go hE rfl (o_cmp hE rfl rfl rfl rfl rfl rfl ?_ ?_)
                    · intro q2; replace q2 := eql_t q2; clear hE a; intro a hE
                      refine l_go hE rfl (o_pure hE rfl rfl (p_pick (b := false) rfl rfl).run ?_); clear hE a; intro a hE
                      refine l_step rfl (o_pure hE rfl rfl (p_pick (b := true) rfl rfl).run ?_); clear hE a; intro a hE
                      refine l_step rfl (o_pure hE rfl rfl (p_assign rfl).run ?_); clear hE a; intro a hE
                      refine wpList_nil ?_
                      refine then_normal ?_
                      exact ⟨rfl, true, ⟨fun _ => ⟨by omega, by first | exact .inl rfl | exact .inr (by omega)⟩, fun _ => rfl⟩, hE.pick [21, 11, 12, 13, 14, 16, 17, 18, 19, 20]⟩
                    · intro q2; replace q2 := eql_f q2; clear hE a; intro a hE
                      refine l_go hE rfl (o_pure hE rfl rfl (p_pick (b := false) rfl rfl).run ?_); clear hE a; intro a hE
                      refine l_step rfl (o_pure hE rfl rfl (p_pick (b := true) rfl rfl).run ?_); clear hE a; intro a hE
                      refine l_step rfl (o_pure hE rfl rfl (p_assign rfl).run ?_); clear hE a; intro a hE
                      refine wpList_nil ?_
                      refine then_normal ?_
                      exact ⟨rfl, false, ⟨fun h => Bool.noConfusion h, fun h => absurd h (by rintro ⟨q1, q2 | q2⟩ <;> first | omega | cases q2)⟩, hE.pick [21, 11, 12, 13, 14, 16, 17, 18, 19, 20]⟩
                · intro q1; replace q1 := leq_f q1; clear hE a; intro a hE
                  refine l_step rfl (o_pure hE rfl rfl (p_move rfl).run ?_); clear hE a; intro a hE
                  refine l_skip hE rfl rfl rfl ?_; clear hE a; intro a hE
                  refine l_skip hE rfl rfl rfl ?_; clear hE a; intro a hE
                  refine l_skip hE rfl rfl rfl ?_; clear hE a; intro a hE
                  refine l_skip hE rfl rfl rfl ?_; clear hE a; intro a hE
                  refine l_skip hE rfl rfl rfl ?_; clear hE a; intro a hE
                  refine l_step rfl (o_pure hE rfl rfl (p_pick (b := false) rfl rfl).run ?_); clear hE a; intro a hE
                  refine l_step rfl (o_pure hE rfl rfl (p_assign rfl).run ?_); clear hE a; intro a hE
                  refine wpList_nil ?_
                  refine then_normal ?_
                  exact ⟨rfl, false, ⟨fun h => Bool.noConfusion h, fun h => absurd h (by rintro ⟨q1, q2 | q2⟩ <;> first | omega | cases q2)⟩, hE.pick [21, 11, 12, 13, 14, 16, 17, 18, 19, 20]⟩
              · clear hE a; intro bb105 a hb104 hE
                replace hE : EnvOk 137 [(21, .bool bb105), (11, _), (12, _), (13, _), (14, _), (16, _), (17, _), (18, _), (19, _), (20, _)] a := hE
                refine wp_seq ?_
                refine wp_seq ?_
                refine wp_region_list ?_   -- region 13
                refine l_step rfl (o_pure hE rfl rfl (p_move rfl).run ?_); clear hE a; intro a hE
                refine l_step rfl (o_pure hE rfl rfl (p_ifaceNil Tryd.underlying25 rfl rfl rfl).run ?_); clear hE a; intro a hE
                refine l_step rfl (o_pure hE rfl rfl (p_move rfl).run ?_); clear hE a; intro a hE
                rcases Bool.eq_false_or_eq_true bb101 with rfl | rfl
                · replace hb100 := iff_t hb100
                  refine l_step rfl (o_pure hE rfl rfl (p_boolEq Tryd.underlying4 rfl rfl rfl).run ?_); clear hE a; intro a hE
                  refine l_step rfl (o_pure hE rfl rfl (p_move rfl).run ?_); clear hE a; intro a hE
                  refine l_skip hE rfl rfl rfl ?_; clear hE a; intro a hE
                  refine l_skip hE rfl rfl rfl ?_; clear hE a; intro a hE
                  refine l_skip hE rfl rfl rfl ?_; clear hE a; intro a hE
                  refine l_skip hE rfl rfl rfl ?_; clear hE a; intro a hE
                  refine l_step rfl (o_pure hE rfl rfl (p_pick (b := true) rfl rfl).run ?_); clear hE a; intro a hE
                  refine l_step rfl (o_pure hE rfl rfl (p_move rfl).run ?_); clear hE a; intro a hE
                  refine l_skip hE rfl rfl rfl ?_; clear hE a; intro a hE
                  refine l_skip hE rfl rfl rfl ?_; clear hE a; intro a hE
                  refine l_skip hE rfl rfl rfl ?_; clear hE a; intro a hE
                  refine l_skip hE rfl rfl rfl ?_; clear hE a; intro a hE
                  refine l_skip hE rfl rfl rfl ?_; clear hE a; intro a hE
                  refine l_skip hE rfl rfl rfl ?_; clear hE a; intro a hE
                  refine l_skip hE rfl rfl rfl ?_; clear hE a; intro a hE
                  refine l_skip hE rfl rfl rfl ?_; clear hE a; intro a hE
                  refine l_skip hE rfl rfl rfl ?_; clear hE a; intro a hE
                  refine l_skip hE rfl rfl rfl ?_; clear hE a; intro a hE
                  refine l_step rfl (o_pure hE rfl rfl (p_pick (b := true) rfl rfl).run ?_); clear hE a; intro a hE
                  refine l_step rfl (o_pure hE rfl rfl (p_move rfl).run ?_); clear hE a; intro a hE
                  refine l_skip hE rfl rfl rfl ?_; clear hE a; intro a hE
                  refine l_skip hE rfl rfl rfl ?_; clear hE a; intro a hE
                  refine l_skip hE rfl rfl rfl ?_; clear hE a; intro a hE
                  refine l_skip hE rfl rfl rfl ?_; clear hE a; intro a hE
                  refine l_skip hE rfl rfl rfl ?_; clear hE a; intro a hE
                  refine l_skip hE rfl rfl rfl ?_; clear hE a; intro a hE
                  refine l_skip hE rfl rfl rfl ?_; clear hE a; intro a hE
                  refine l_step rfl (o_pure hE rfl rfl (p_pick (b := true) rfl rfl).run ?_); clear hE a; intro a hE
                  refine wpList_nil ?_
                  refine then_normal ?_
                  refine c_true hE rfl ?_
                  refine wp_seq ?_
                  refine wp_region_list ?_   -- region 14
                  refine l_step rfl (o_pure hE rfl rfl (p_assign rfl).run ?_); clear hE a; intro a hE
                  refine wpList_nil ?_
                  refine then_normal ?_
                  refine wp_ret ?_
                  refine then_ret ?_
                  refine ret1 rfl hE rfl ?_
                  exfalso
                  first
                    | exact hO2 ⟨by omega, by omega, ‹z2 ≤ 24 ∧ (had = true ∨ z2 = 0)›⟩
                    | exact absurd (show z2 ≤ 24 ∧ (had = true ∨ z2 = 0) by have q := hO.2.2; dsimp only at q; rw [hlv] at q; exact q) ‹¬ (z2 ≤ 24 ∧ (had = true ∨ z2 = 0))›
                    | omega
                · replace hb100 := iff_f hb100
                  refine l_step rfl (o_pure hE rfl rfl (p_boolEq Tryd.underlying4 rfl rfl rfl).run ?_); clear hE a; intro a hE
                  refine l_step rfl (o_pure hE rfl rfl (p_move rfl).run ?_); clear hE a; intro a hE
                  refine l_go hE rfl (o_pure hE rfl rfl (p_move rfl).run ?_); clear hE a; intro a hE
                  refine l_go hE rfl (o_pure hE rfl rfl (p_ifaceNil Tryd.underlying25 rfl rfl rfl).run ?_); clear hE a; intro a hE
                  refine l_go hE rfl (o_pure hE rfl rfl (p_move rfl).run ?_); clear hE a; intro a hE
                  rcases Bool.eq_false_or_eq_true bb103 with rfl | rfl
                  · replace hb102 := iff_t hb102
                    refine l_go hE rfl (o_pure hE rfl rfl (p_boolEq Tryd.underlying4 rfl rfl rfl).run ?_); clear hE a; intro a hE
                    refine l_step rfl (o_pure hE rfl rfl (p_pick (b := false) rfl rfl).run ?_); clear hE a; intro a hE
                    refine l_step rfl (o_pure hE rfl rfl (p_move rfl).run ?_); clear hE a; intro a hE
                    refine l_skip hE rfl rfl rfl ?_; clear hE a; intro a hE
                    refine l_skip hE rfl rfl rfl ?_; clear hE a; intro a hE
                    refine l_skip hE rfl rfl rfl ?_; clear hE a; intro a hE
                    refine l_skip hE rfl rfl rfl ?_; clear hE a; intro a hE
                    refine l_skip hE rfl rfl rfl ?_; clear hE a; intro a hE
                    refine l_skip hE rfl rfl rfl ?_; clear hE a; intro a hE
                    refine l_skip hE rfl rfl rfl ?_; clear hE a; intro a hE
                    refine l_skip hE rfl rfl rfl ?_; clear hE a; intro a hE
                    refine l_skip hE rfl rfl rfl ?_; clear hE a; intro a hE
                    refine l_skip hE rfl rfl rfl ?_; clear hE a; intro a hE
                    refine l_step rfl (o_pure hE rfl rfl (p_pick (b := true) rfl rfl).run ?_); clear hE a; intro a hE
                    refine l_step rfl (o_pure hE rfl rfl (p_move rfl).run ?_); clear hE a; intro a hE
                    refine l_skip hE rfl rfl rfl ?_; clear hE a; intro a hE
                    refine l_skip hE rfl rfl rfl ?_; clear hE a; intro a hE
                    refine l_skip hE rfl rfl rfl ?_; clear hE a; intro a hE
                    refine l_skip hE rfl rfl rfl ?_; clear hE a; intro a hE
                    refine l_skip hE rfl rfl rfl ?_; clear hE a; intro a hE
                    refine l_skip hE rfl rfl rfl ?_; clear hE a; intro a hE
                    refine l_skip hE rfl rfl rfl ?_; clear hE a; intro a hE
                    refine l_step rfl (o_pure hE rfl rfl (p_pick (b := true) rfl rfl).run ?_); clear hE a; intro a hE
                    refine wpList_nil ?_
                    refine then_normal ?_
                    refine c_true hE rfl ?_
                    refine wp_seq ?_
                    refine wp_region_list ?_   -- region 14
                    refine l_step rfl (o_pure hE rfl rfl (p_assign rfl).run ?_); clear hE a; intro a hE
                    refine wpList_nil ?_
                    refine then_normal ?_
                    refine wp_ret ?_
                    refine then_ret ?_
                    refine ret1 rfl hE rfl ?_
                    exfalso
                    first
                      | exact hO2 ⟨by omega, by omega, ‹z2 ≤ 24 ∧ (had = true ∨ z2 = 0)›⟩
                      | exact absurd (show z2 ≤ 24 ∧ (had = true ∨ z2 = 0) by have q := hO.2.2; dsimp only at q; rw [hlv] at q; exact q) ‹¬ (z2 ≤ 24 ∧ (had = true ∨ z2 = 0))›
                      | omega
                  · replace hb102 := iff_f hb102
                    refine l_go hE rfl (o_pure hE rfl rfl (p_boolEq Tryd.underlying4 rfl rfl rfl).run ?_); clear hE a; intro a hE
                    refine l_step rfl (o_pure hE rfl rfl (p_pick (b := false) rfl rfl).run ?_); clear hE a; intro a hE
                    refine l_step rfl (o_pure hE rfl rfl (p_move rfl).run ?_); clear hE a; intro a hE
                    refine l_go hE rfl (o_pure hE rfl rfl (p_move rfl).run ?_); clear hE a; intro a hE
                    refine l_go hE rfl (o_pure hE rfl rfl (p_ifaceNil Tryd.underlying25 rfl rfl rfl).run ?_); clear hE a; intro a hE
                    refine l_go hE rfl (o_pure hE rfl rfl (p_move rfl).run ?_); clear hE a; intro a hE
                    refine l_go hE rfl (o_pure hE rfl rfl (p_move rfl).run ?_); clear hE a; intro a hE
                    refine l_skip hE rfl rfl rfl ?_; clear hE a; intro a hE
                    refine l_go hE rfl (o_pure hE rfl rfl (p_pick (b := false) rfl rfl).run ?_); clear hE a; intro a hE
                    refine l_go hE rfl (o_pure hE rfl rfl (p_move rfl).run ?_); clear hE a; intro a hE
                    refine l_skip hE rfl rfl rfl ?_; clear hE a; intro a hE
                    refine l_go hE rfl (o_pure hE rfl rfl (p_pick (b := false) rfl rfl).run ?_); clear hE a; intro a hE
                    refine l_go hE rfl (o_pure hE rfl rfl (p_boolEq Tryd.underlying4 rfl rfl rfl).run ?_); clear hE a; intro a hE
                    refine l_step rfl (o_pure hE rfl rfl (p_pick (b := false) rfl rfl).run ?_); clear hE a; intro a hE
                    refine l_step rfl (o_pure hE rfl rfl (p_move rfl).run ?_); clear hE a; intro a hE
                    refine l_go hE rfl (o_pure hE rfl rfl (p_move rfl).run ?_); clear hE a; intro a hE
                    refine l_go hE rfl (o_pure hE rfl rfl (p_ifaceNil Tryd.underlying25 rfl rfl rfl).run ?_); clear hE a; intro a hE
                    refine l_go hE rfl (o_pure hE rfl rfl (p_move rfl).run ?_); clear hE a; intro a hE
                    refine l_go hE rfl (o_pure hE rfl rfl (p_move rfl).run ?_); clear hE a; intro a hE
                    refine l_go hE rfl (o_call hE rfl rfl rfl rfl ent_22 (Is_spec hI (hS.mono ((hD2.trans hD9).trans hD93)) (f := .bare 105) rfl ⟨by omega, by omega⟩ 105) ?_)
                    clear hI hE a
                    rintro r w ⟨rfl, hI⟩ a hE
                    refine l_go hE rfl (o_pure hE rfl rfl (p_not rfl).run ?_); clear hE a; intro a hE
                    refine l_go hE rfl (o_pure hE rfl rfl (p_pick (b := true) rfl rfl).run ?_); clear hE a; intro a hE
                    refine l_step rfl (o_pure hE rfl rfl (p_pick (b := false) rfl rfl).run ?_); clear hE a; intro a hE
                    refine wpList_nil ?_
                    refine then_normal ?_
                    refine c_false hE rfl ?_
                    refine wp_skip ?_
                    refine then_normal ?_
                    refine wp_seq ?_
                    refine wp_seq ?_
                    refine wp_region_list ?_   -- region 15
                    refine l_step rfl (o_pure hE rfl rfl (p_move rfl).run ?_); clear hE a; intro a hE
                    refine l_step rfl (o_pure hE rfl rfl (p_ifaceNil Tryd.underlying25 rfl rfl rfl).run ?_); clear hE a; intro a hE
                    refine wpList_nil ?_
                    refine then_normal ?_
                    refine c_true hE rfl ?_
                    refine wp_seq ?_
                    refine wp_region_list ?_   -- region 16
                    refine l_step rfl (o_pure hE rfl rfl (p_move rfl).run ?_); clear hE a; intro a hE
                    refine l_step rfl (o_pure hE rfl rfl (p_assign rfl).run ?_); clear hE a; intro a hE
                    refine wpList_nil ?_
                    refine then_normal ?_
                    refine wp_ret ?_
                    refine then_ret ?_
                    refine ret1 rfl hE rfl ?_
                    exact ⟨rfl, _, ((hD2.trans hD9).trans hD93), hI.drop⟩

end Go.Proofs.YtbogbnkckofpdaaDoor.B
