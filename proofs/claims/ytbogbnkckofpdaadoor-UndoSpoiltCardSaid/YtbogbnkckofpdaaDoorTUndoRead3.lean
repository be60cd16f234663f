/- What functions of the program compute, each function once: steps over the model, and the plain law of it. -/
import Derived.Test.YtbogbnkckofpdaaDoorTUndoRead2
namespace Go.Proofs.YtbogbnkckofpdaaDoor.B
open Go Go.Proofs
set_option linter.unusedVariables false
set_option linter.unusedSimpArgs false
set_option maxRecDepth 20000
set_option maxHeartbeats 8000000
namespace FTUndoRead3
theorem agg_34 : aggSize Tryd.prog 34 = some 5 := by kernel_rfl
theorem built_113 : ∀ vs, Tryd.prog.built 113 vs = Instr.fill (([(0, 1), (1, 1)] : List (Nat × Nat)).toArray[·]?) ([.int .i64 0, .nilIface] : List Value).toArray vs := fun _ => by kernel_rfl
theorem built_34 : ∀ vs, Tryd.prog.built 34 vs = Instr.fill (([(0, 1), (1, 1), (2, 1), (3, 1), (4, 1)] : List (Nat × Nat)).toArray[·]?) ([.int .i64 0, .int .i64 0, .slice none 0 0, .bool false, .slice none 0 0] : List Value).toArray vs := fun _ => by kernel_rfl
theorem ent_21 : enters Tryd.prog 21 = true := by kernel_rfl
theorem ent_58 : enters Tryd.prog 58 = true := by kernel_rfl
theorem ent_59 : enters Tryd.prog 59 = true := by kernel_rfl
theorem ent_60 : enters Tryd.prog 60 = true := by kernel_rfl
theorem ent_61 : enters Tryd.prog 61 = true := by kernel_rfl
theorem ent_62 : enters Tryd.prog 62 = true := by kernel_rfl
theorem ent_63 : enters Tryd.prog 63 = true := by kernel_rfl
theorem ent_64 : enters Tryd.prog 64 = true := by kernel_rfl
theorem fo_34_2 : fieldOff Tryd.prog 34 2 = some 2 := by kernel_rfl
theorem fo_34_3 : fieldOff Tryd.prog 34 3 = some 3 := by kernel_rfl
theorem fo_34_4 : fieldOff Tryd.prog 34 4 = some 4 := by kernel_rfl
theorem scal_25 : isScal Tryd.prog 25 = true := by kernel_rfl
theorem sz_22 : (Tryd.prog.info? 22).map (·.size) = some 1 := by kernel_rfl
theorem sz_34 : (Tryd.prog.info? 34).map (·.size) = some 5 := by kernel_rfl
theorem sz_4 : (Tryd.prog.info? 4).map (·.size) = some 1 := by kernel_rfl
theorem zer_34 : (Tryd.prog.info? 34).bind (·.zero) = some (.agg #[.int .i64 0, .int .i64 0, .slice none 0 0, .bool false, .slice none 0 0]) := by kernel_rfl
end FTUndoRead3
open FTUndoRead3
theorem bytes_le (r : Rd) (m : Int) : ((r.bytes m).1.length : Int) ≤ max m 0 := by
  unfold Rd.bytes; simp only
  split
  · simp; omega
  · rename_i h
    split
    · simp; omega
    · have h' : (r.num 0 m).2.err = .none := by simpa using h
      have := num_range 0 m h'
      rw [List.length_take]
      omega
abbrev rd1 (v : List Nat) : Rd := ((⟨v, 0, .none⟩ : Rd).bytes 20).2
abbrev rd2 (v : List Nat) : Rd := ((rd1 v).num 0 1).2
abbrev rd3 (v : List Nat) : Rd := ((rd2 v).bytes 24).2
theorem read_bad {k v : List Nat} (h : saidL k = none) : readP k v = .inl (.bare 103) := by unfold readP; rw [h]
theorem read_err {k v : List Nat} {t n : Int} (h : saidL k = some (t, n)) (he : (rd3 v).err ≠ .none) : readP k v = .inl (rd3 v).err := by
  unfold readP; rw [h]; simp only; rw [if_pos he]
theorem read_left {k v : List Nat} {t n : Int} (h : saidL k = some (t, n)) (he : (rd3 v).err = .none) (hl : 0 < (rd3 v).bs.length - (rd3 v).pos) : readP k v = .inl (.at_ 103 (rd3 v).pos) := by
  unfold readP; rw [h]; simp only; rw [if_neg (by rw [he]; simp), if_pos hl]
theorem read_ok {k v : List Nat} {t n : Int} (h : saidL k = some (t, n)) (he : (rd3 v).err = .none) (hl : ¬ 0 < (rd3 v).bs.length - (rd3 v).pos)
    (hv : (⟨t, n, ((⟨v, 0, .none⟩ : Rd).bytes 20).1, decide (((rd1 v).num 0 1).1 = 1), ((rd2 v).bytes 24).1⟩ : Ent).Ok) :
    readP k v = .inr ⟨t, n, ((⟨v, 0, .none⟩ : Rd).bytes 20).1, decide (((rd1 v).num 0 1).1 = 1), ((rd2 v).bytes 24).1⟩ := by
  unfold readP; rw [h]; simp only; rw [if_neg (by rw [he]; simp), if_neg hl, if_pos ⟨hv.2.1.1, by
    rcases hv.2.2.2 with h | h
    · left; simpa using h
    · right; exact h⟩]
theorem read_range {k v : List Nat} {t n : Int} (h : saidL k = some (t, n)) (he : (rd3 v).err = .none) (hl : ¬ 0 < (rd3 v).bs.length - (rd3 v).pos)
    (hv : ¬ (⟨t, n, ((⟨v, 0, .none⟩ : Rd).bytes 20).1, decide (((rd1 v).num 0 1).1 = 1), ((rd2 v).bytes 24).1⟩ : Ent).Ok) :
    readP k v = .inl (.bare 105) := by
  unfold readP; rw [h]; simp only; rw [if_neg (by rw [he]; simp), if_neg hl, if_neg]
  rintro ⟨h1, h2⟩
  refine hv ⟨said_ok h, ⟨h1, ?_⟩, ?_, ?_⟩
  · have := bytes_le ⟨v, 0, .none⟩ 20; dsimp only; omega
  · have := bytes_le (rd2 v) 24; dsimp only; omega
  · rcases h2 with h | h
    · left; simpa using h
    · right; exact h
def ReadIs (D : Sto) (ad : Nat → Addr) (r ve : Value) : Flt ⊕ Ent → Prop
  | .inl f => FltIs D ad ve f ∧ f ≠ .none ∧ r = .agg #[.int .i64 0, .int .i64 0, .slice none 0 0, .bool false, .slice none 0 0]
  | .inr e => ve = .nilIface ∧ ∃ vk vv, r = .agg #[.int .i64 e.tx, .int .i64 e.n, vk, .bool e.had, vv] ∧ RB D vk e.key ∧ RB D vv e.value
theorem RdSeg.mono {D D' : Sto} {ad : Nat → Addr} {b : Nat} {r : Rd} {s : Seg} (h : RdSeg D ad b r s) (hD : Le D D') : RdSeg D' ad b r s := by
  obtain ⟨vb, ve, rfl, hb, he, hok⟩ := h
  exact ⟨vb, ve, rfl, hb.mono hD, he.mono hD, hok⟩

theorem Read_spec {w0 w : World} {D : Sto} {ss : List Seg} (hI : Inv w0 D ss w) {ad : Nat → Addr} (g101 : GlobIs D 2 (errV ad 101)) (g103 : GlobIs D 1 (errV ad 103)) (g105 : GlobIs D 0 (errV ad 105)) {vk vv : Value} {key val : List Nat} (hk : RB D vk key) (hv : RB D vv val) (hm : val.length ≤ 140737488355328) :
    Calls Tryd.prog 23 #[vk, vv] w (Ret fun r w' => ∃ D' r1 ve, Le D D' ∧ Inv w0 D' ss w' ∧ r = .tuple #[r1, ve] ∧ ReadIs D' ad r1 ve (readP key val)) := by
  obtain ⟨A1, c2, rfl, _⟩ := hk.slice
  obtain ⟨A3, c4, rfl, _⟩ := hv.slice
  refine enter (N := 65) Tryd.func23 rfl rfl rfl ?_
  intro a hE
  refine wp_seq ?_
  refine wp_region_list ?_   -- region 0
  refine l_step rfl (f_alloc (cs := #[.int .i64 0, .int .i64 0, .slice none 0 0, .bool false, .slice none 0 0]) hE hI rfl rfl rfl zer_34 rfl ?_)
  clear hI hE a w; intro a b5 w hE hI
  refine l_step rfl (o_pure hE rfl rfl (p_assign rfl).run ?_); clear hE a; intro a hE
  refine wpList_nil ?_
  refine then_normal ?_
  refine wp_seq ?_
  refine wp_region_list ?_   -- region 1
  refine l_step rfl (o_pure hE rfl rfl (p_move rfl).run ?_); clear hE a; intro a hE
  refine l_step rfl (o_call hE rfl rfl rfl rfl ent_58 (said_spec hI hk) ?_)
  clear hI hE a
  rintro r w ⟨h, hI⟩ a hE
  rcases h with ⟨tx, n, hs, rfl⟩ | ⟨hs, rfl⟩
  · have hok := said_ok hs
    refine l_step rfl (o_pure hE rfl rfl (p_move rfl).run ?_); clear hE a; intro a hE
    refine l_step rfl (o_pure hE rfl rfl (f_extract rfl rfl).run ?_); clear hE a; intro a hE
    refine l_step rfl (o_pure hE rfl rfl (f_extract rfl rfl).run ?_); clear hE a; intro a hE
    refine l_step rfl (o_pure hE rfl rfl (f_extract rfl rfl).run ?_); clear hE a; intro a hE
    refine l_step rfl (o_pure hE rfl rfl (p_assign rfl).run ?_); clear hE a; intro a hE
    refine l_step rfl (o_pure hE rfl rfl (p_assign rfl).run ?_); clear hE a; intro a hE
    refine l_step rfl (o_pure hE rfl rfl (p_assign rfl).run ?_); clear hE a; intro a hE
    refine wpList_nil ?_
    refine then_normal ?_
    refine wp_seq ?_
    refine wp_seq ?_
    refine wp_region_list ?_   -- region 2
    refine l_step rfl (o_pure hE rfl rfl (p_move rfl).run ?_); clear hE a; intro a hE
    refine l_step rfl (o_pure hE rfl rfl (p_not rfl).run ?_); clear hE a; intro a hE
    refine wpList_nil ?_
    refine then_normal ?_
    refine c_false hE rfl ?_
    refine wp_skip ?_
    refine then_normal ?_
    refine wp_seq ?_
    refine wp_region_list ?_   -- region 4
    refine l_step rfl (o_pure hE rfl rfl (p_move rfl).run ?_); clear hE a; intro a hE
    refine l_step rfl (o_call hE rfl rfl rfl rfl ent_59 (NewReader_spec hI ad hv (by omega)) ?_)
    clear hI hE a
    rintro r w ⟨b6, s7, D8, hD9, hI, rfl, hR10⟩ a hE
    refine l_step rfl (o_pure hE rfl rfl (p_assign rfl).run ?_); clear hE a; intro a hE
    refine wpList_nil ?_
    refine then_normal ?_
    refine wp_seq ?_
    refine wp_region_list ?_   -- region 5
    refine l_step rfl (o_pure hE rfl rfl (p_move rfl).run ?_); clear hE a; intro a hE
    refine l_step rfl (o_pure hE rfl rfl (p_move rfl).run ?_); clear hE a; intro a hE
    refine l_step rfl (o_pure hE rfl rfl (f_build (vs := [(0, _), (1, _)]) (l := [_, _, _, _, _]) rfl built_34 rfl).run ?_); clear hE a; intro a hE
    refine l_step rfl (f_alloc (cs := #[.int .i64 0, .int .i64 0, .slice none 0 0, .bool false, .slice none 0 0]) hE hI rfl rfl rfl zer_34 rfl ?_)
    clear hI hE a w; intro a b11 w hE hI
    refine l_step rfl (f_store (l := [_, _, _, _, _]) (ss' := _ :: _) 0 hE hI rfl rfl rfl rfl rfl sz_34 (by simp [Value.cells, Value.oneCell']) rfl rfl rfl ?_)
    clear hI w; intro w hI
    refine wpList_nil ?_
    refine then_normal ?_
    refine wp_seq ?_
    refine wp_region_list ?_   -- region 6
    refine l_step rfl (o_pure hE rfl rfl (p_move rfl).run ?_); clear hE a; intro a hE
    refine l_step rfl (o_call hE rfl rfl rfl rfl ent_60 (RBytes_spec (hI.bring 1) hR10 (g101.mono hD9) (g103.mono hD9) (g105.mono hD9) 20) ?_)
    clear hI hE a
    rintro r w ⟨D15, s17, hD16, hI, hb12, hR18⟩ a hE
    replace hI := hI.put_back 1
    try simp only [splice, insAt, List.set_cons_succ, List.set_cons_zero, List.setIfInBounds_toArray, Value.cells, List.eraseIdx_cons_succ, List.eraseIdx_cons_zero, List.eraseIdx_zero, List.tail_cons] at hI
    obtain ⟨A13, c14, rfl, _⟩ := hb12.slice
    refine l_step rfl (o_pure hE rfl rfl (p_fieldAddr (m := 2) rfl fo_34_2 rfl).run ?_); clear hE a; intro a hE
    refine l_step rfl (f_store (l := [_, _, _, _, _]) (ss' := _ :: _) 0 hE hI rfl rfl rfl rfl rfl sz_22 (by simp [Value.cells, Value.oneCell']) rfl rfl rfl ?_)
    clear hI w; intro w hI
    refine wpList_nil ?_
    refine then_normal ?_
    refine wp_seq ?_
    refine wp_region_list ?_   -- region 7
    refine l_step rfl (o_pure hE rfl rfl (p_move rfl).run ?_); clear hE a; intro a hE
    refine l_step rfl (o_call hE rfl rfl rfl rfl ent_61 (Bool_spec (hI.bring 1) hR18 (g101.mono (hD9.trans hD16)) (g103.mono (hD9.trans hD16)) (g105.mono (hD9.trans hD16)) ) ?_)
    clear hI hE a
    rintro r w ⟨D19, s21, hD20, hI, rfl, hR22⟩ a hE
    replace hI := hI.put_back 1
    try simp only [splice, insAt, List.set_cons_succ, List.set_cons_zero, List.setIfInBounds_toArray, Value.cells, List.eraseIdx_cons_succ, List.eraseIdx_cons_zero, List.eraseIdx_zero, List.tail_cons] at hI
    refine l_step rfl (o_pure hE rfl rfl (p_fieldAddr (m := 3) rfl fo_34_3 rfl).run ?_); clear hE a; intro a hE
    refine l_step rfl (f_store (l := [_, _, _, _, _]) (ss' := _ :: _) 0 hE hI rfl rfl rfl rfl rfl sz_4 (by simp [Value.cells, Value.oneCell']) rfl rfl rfl ?_)
    clear hI w; intro w hI
    refine wpList_nil ?_
    refine then_normal ?_
    refine wp_seq ?_
    refine wp_region_list ?_   -- region 8
    refine l_step rfl (o_pure hE rfl rfl (p_move rfl).run ?_); clear hE a; intro a hE
    refine l_step rfl (o_call hE rfl rfl rfl rfl ent_60 (RBytes_spec (hI.bring 1) hR22 (g101.mono ((hD9.trans hD16).trans hD20)) (g103.mono ((hD9.trans hD16).trans hD20)) (g105.mono ((hD9.trans hD16).trans hD20)) 24) ?_)
    clear hI hE a
    rintro r w ⟨D26, s28, hD27, hI, hb23, hR29⟩ a hE
    replace hI := hI.put_back 1
    try simp only [splice, insAt, List.set_cons_succ, List.set_cons_zero, List.setIfInBounds_toArray, Value.cells, List.eraseIdx_cons_succ, List.eraseIdx_cons_zero, List.eraseIdx_zero, List.tail_cons] at hI
    obtain ⟨A24, c25, rfl, _⟩ := hb23.slice
    refine l_step rfl (o_pure hE rfl rfl (p_fieldAddr (m := 4) rfl fo_34_4 rfl).run ?_); clear hE a; intro a hE
    refine l_step rfl (f_store (l := [_, _, _, _, _]) (ss' := _ :: _) 0 hE hI rfl rfl rfl rfl rfl sz_22 (by simp [Value.cells, Value.oneCell']) rfl rfl rfl ?_)
    clear hI w; intro w hI
    refine wpList_nil ?_
    refine then_normal ?_
    refine wp_seq ?_
    refine wp_block ?_
    refine wp_seq ?_
    refine wp_region_list ?_   -- region 9
    refine l_step rfl (o_pure hE rfl rfl (p_move rfl).run ?_); clear hE a; intro a hE
    refine l_step rfl (o_call hE rfl rfl rfl rfl ent_62 (RErr_spec (hI.bring 1) hR29) ?_)
    clear hI hE a
    rintro r w ⟨⟨ve30, rfl, he31⟩, hI⟩ a hE
    replace hI := hI.put_back 1
    try simp only [splice, insAt, List.set_cons_succ, List.set_cons_zero, List.setIfInBounds_toArray, Value.cells, List.eraseIdx_cons_succ, List.eraseIdx_cons_zero, List.eraseIdx_zero, List.tail_cons] at hI
    rcases (he31).two with ⟨rfl, hx32⟩ | ⟨t_33, u_34, rfl, hx32⟩
    · skip
      refine l_step rfl (o_pure hE rfl rfl (p_ifaceNil Tryd.underlying25 rfl rfl rfl).run ?_); clear hE a; intro a hE
      refine l_step rfl (o_pure hE rfl rfl (p_assign rfl).run ?_); clear hE a; intro a hE
      refine wpList_nil ?_
      refine then_normal ?_
      refine c_false hE rfl ?_
      refine wp_seq ?_
      refine wp_region_list ?_   -- region 11
      refine l_step rfl (o_pure hE rfl rfl (p_move rfl).run ?_); clear hE a; intro a hE
      refine l_step rfl (o_call hE rfl rfl rfl rfl ent_63 (RLeft_spec (hI.bring 1) hR29) ?_)
      clear hI hE a
      rintro r w ⟨rfl, hI⟩ a hE
      replace hI := hI.put_back 1
      try simp only [splice, insAt, List.set_cons_succ, List.set_cons_zero, List.setIfInBounds_toArray, Value.cells, List.eraseIdx_cons_succ, List.eraseIdx_cons_zero, List.eraseIdx_zero, List.tail_cons] at hI
      refine l_step rfl (o_cmp hE rfl rfl rfl rfl rfl rfl ?_ ?_)
      · intro hleft; replace hleft := gtr_t hleft; clear hE a; intro a hE
        refine l_step rfl (o_pure hE rfl rfl (p_assign rfl).run ?_); clear hE a; intro a hE
        refine wpList_nil ?_
        refine then_normal ?_
        refine c_true hE rfl ?_
        refine wp_seq ?_
        refine d_start [] [2] (by kernel_rfl) hI rfl rfl ?_   -- region 12 draws its order
        clear hI w; intro w hI
        refine d_pure 0 hE rfl (by kernel_rfl) (by kernel_rfl) (by kernel_rfl) rfl (fun _ _ _ h => h) rfl rfl rfl (f_build (vs := []) (l := [_, _, _, _, _]) rfl built_34 rfl) (fun _ => (hI.dropS [2])) (listed' := #[true, false, false, false, false, false, false, false, false]) rfl ?_; clear hE a; intro a hE
        refine d_pure 1 hE rfl (by kernel_rfl) (by kernel_rfl) (by kernel_rfl) rfl (fun _ _ _ h => h) rfl rfl rfl (p_move rfl) (fun _ => (hI.dropS [2])) (listed' := #[true, true, false, false, false, false, false, false, false]) rfl ?_; clear hE a; intro a hE
        obtain ⟨T_35, fr_35, hg_35⟩ := g103
        refine d_load 3 hE rfl (by kernel_rfl) (by kernel_rfl) (by kernel_rfl) (by kernel_rfl) (by kernel_rfl) rfl rfl (fun _ _ _ h => h) rfl rfl rfl (fun w hS => f_load rfl scal_25 (Inv.data hS _ _ ((((hD9.trans hD16).trans hD20).trans hD27) _ _ (hg_35))) rfl) ((hI.dropS [2])) (listed' := #[true, true, false, true, false, false, false, false, false]) rfl ?_; clear hE a; intro a hE
        refine d_one 2 hE rfl (by kernel_rfl) rfl (listed' := #[true, true, true, true, false, false, false, false, false]) rfl ?_
        refine o_call hE rfl rfl rfl rfl ent_64 (RAt_spec (hI.bring 1) hR29) ?_
        clear hI hE a
        rintro r w ⟨rfl, hI⟩ a hE
        replace hI := hI.put_back 1
        try simp only [splice, insAt, List.set_cons_succ, List.set_cons_zero, List.setIfInBounds_toArray, Value.cells, List.eraseIdx_cons_succ, List.eraseIdx_cons_zero, List.eraseIdx_zero, List.tail_cons] at hI
        refine ⟨fun _ => (hI.dropS [2]), ?_⟩
        refine d_pure 4 hE rfl (by kernel_rfl) (by kernel_rfl) (by kernel_rfl) rfl (fun _ _ _ h => h) rfl rfl rfl (f_build (vs := [(0, _), (1, _)]) (l := [_, _]) rfl built_113 rfl) (fun _ => (hI.dropS [2])) (listed' := #[true, true, true, true, true, false, false, false, false]) rfl ?_; clear hE a; intro a hE
        refine d_two 5 7 hE rfl rfl (by kernel_rfl) rfl rfl (listed' := #[true, true, true, true, true, true, false, false, false]) (listed'' := #[true, true, true, true, true, false, false, true, false]) rfl rfl ?_ ?_
        · skip
          refine f_box (cs := #[_, _]) hE hI rfl rfl rfl rfl rfl ?_
          clear hI hE a w; intro a b36 w hE hI
          refine ⟨fun _ => (hI.dropS [3, 0]), ?_⟩
          refine d_pure 6 hE rfl (by kernel_rfl) (by kernel_rfl) (by kernel_rfl) rfl (fun _ _ _ h => h) rfl rfl rfl (p_iface Tryd.underlying111 rfl rfl) (fun _ => (hI.dropS [3, 0])) (listed' := #[true, true, true, true, true, true, true, false, false]) rfl ?_; clear hE a; intro a hE
          refine d_one 7 hE rfl (by kernel_rfl) rfl (listed' := #[true, true, true, true, true, true, true, true, false]) rfl ?_
          refine f_store (l := [_, _, _, _, _]) (ss' := _ :: _ :: _ :: _ :: _) 3 hE hI rfl rfl rfl rfl rfl sz_34 (by simp [Value.cells, Value.oneCell']) rfl rfl rfl ?_
          clear hI w; intro w hI
          refine ⟨fun _ => (hI.dropS [3, 0]), ?_⟩
          refine d_pure 8 hE rfl (by kernel_rfl) (by kernel_rfl) (by kernel_rfl) rfl (fun _ _ _ h => h) rfl rfl rfl (p_assign rfl) (fun _ => (hI.dropS [3, 0])) (listed' := #[true, true, true, true, true, true, true, true, true]) rfl ?_; clear hE a; intro a hE
          refine d_done (by kernel_rfl) ?_
          refine then_normal ?_
          refine wp_ret ?_
          refine blk_ret ?_
          refine then_ret ?_
          refine retc2 rfl hE rfl agg_34 (hI.seg 3 rfl) rfl rfl ?_
          obtain ⟨hI, hlz⟩ := hI.shut_at 0 rfl
          try simp only [splice, insAt, List.set_cons_succ, List.set_cons_zero, List.setIfInBounds_toArray, Value.cells, List.eraseIdx_cons_succ, List.eraseIdx_cons_zero, List.eraseIdx_zero, List.tail_cons] at hI
          refine ⟨_, _, _, ((((hD9.trans hD16).trans hD20).trans hD27).trans hlz), hI.drop.drop.drop, rfl, ?_⟩
          rw [read_left hs hx32 (by unfold rd3 rd2 rd1; omega)]; exact ⟨⟨_, _, _, rfl, Sto.put_one _ _ _⟩, by simp, rfl⟩
        · skip
          refine f_store (l := [_, _, _, _, _]) (ss' := _ :: _ :: _ :: _) 2 hE hI rfl rfl rfl rfl rfl sz_34 (by simp [Value.cells, Value.oneCell']) rfl rfl rfl ?_
          clear hI w; intro w hI
          refine ⟨fun _ => (hI.dropS [2]), ?_⟩
          refine d_one 5 hE rfl (by kernel_rfl) rfl (listed' := #[true, true, true, true, true, true, false, true, false]) rfl ?_
          refine f_box (cs := #[_, _]) hE hI rfl rfl rfl rfl rfl ?_
          clear hI hE a w; intro a b38 w hE hI
          refine ⟨fun _ => (hI.dropS [3, 0]), ?_⟩
          refine d_pure 6 hE rfl (by kernel_rfl) (by kernel_rfl) (by kernel_rfl) rfl (fun _ _ _ h => h) rfl rfl rfl (p_iface Tryd.underlying111 rfl rfl) (fun _ => (hI.dropS [3, 0])) (listed' := #[true, true, true, true, true, true, true, true, false]) rfl ?_; clear hE a; intro a hE
          refine d_pure 8 hE rfl (by kernel_rfl) (by kernel_rfl) (by kernel_rfl) rfl (fun _ _ _ h => h) rfl rfl rfl (p_assign rfl) (fun _ => (hI.dropS [3, 0])) (listed' := #[true, true, true, true, true, true, true, true, true]) rfl ?_; clear hE a; intro a hE
          refine d_done (by kernel_rfl) ?_
          refine then_normal ?_
          refine wp_ret ?_
          refine blk_ret ?_
          refine then_ret ?_
          refine retc2 rfl hE rfl agg_34 (hI.seg 3 rfl) rfl rfl ?_
          obtain ⟨hI, hlz⟩ := hI.shut_at 0 rfl
          try simp only [splice, insAt, List.set_cons_succ, List.set_cons_zero, List.setIfInBounds_toArray, Value.cells, List.eraseIdx_cons_succ, List.eraseIdx_cons_zero, List.eraseIdx_zero, List.tail_cons] at hI
          refine ⟨_, _, _, ((((hD9.trans hD16).trans hD20).trans hD27).trans hlz), hI.drop.drop.drop, rfl, ?_⟩
          rw [read_left hs hx32 (by unfold rd3 rd2 rd1; omega)]; exact ⟨⟨_, _, _, rfl, Sto.put_one _ _ _⟩, by simp, rfl⟩
      · intro hleft; replace hleft := gtr_f hleft; clear hE a; intro a hE
        refine l_step rfl (o_pure hE rfl rfl (p_assign rfl).run ?_); clear hE a; intro a hE
        refine wpList_nil ?_
        refine then_normal ?_
        refine c_false hE rfl ?_
        refine wp_skip ?_
        refine blk_normal ?_
        refine then_normal ?_
        refine wp_seq ?_
        refine wp_seq ?_
        refine wp_region_list ?_   -- region 13
        refine l_step rfl (o_pure hE rfl rfl (f_loadA (vs := [_, _, _, _, _]) rfl agg_34 (hI.seg 0 rfl) rfl rfl) ?_); clear hE a; intro a hE
        refine l_step rfl (o_call hE rfl rfl rfl rfl ent_21 (UBytes_spec hI (g105.mono (((hD9.trans hD16).trans hD20).trans hD27)) _ _ _ (hb12.mono (hD20.trans hD27)) hb23 (by have := bytes_le (rd2 val) 24; unfold rd2 rd1 at this; omega)) ?_)
        clear hI hE a
        rintro r w ⟨D40, hD41, h⟩ a hE
        rcases h with ⟨v46, s42, hO, rfl, hI, hR43⟩ | ⟨hO, rfl, hI⟩
        · obtain ⟨A44, c45, rfl, _⟩ := Row.slice hR43
          refine l_step rfl (o_pure hE rfl rfl (p_move rfl).run ?_); clear hE a; intro a hE
          refine l_step rfl (o_pure hE rfl rfl (f_extract rfl rfl).run ?_); clear hE a; intro a hE
          refine l_step rfl (o_pure hE rfl rfl (f_extract rfl rfl).run ?_); clear hE a; intro a hE
          refine l_step rfl (o_pure hE rfl rfl (p_assign rfl).run ?_); clear hE a; intro a hE
          refine l_step rfl (o_pure hE rfl rfl (p_assign rfl).run ?_); clear hE a; intro a hE
          refine wpList_nil ?_
          refine then_normal ?_
          refine wp_seq ?_
          refine wp_region_list ?_   -- region 14
          refine l_step rfl (o_pure hE rfl rfl (p_move rfl).run ?_); clear hE a; intro a hE
          refine l_step rfl (o_pure hE rfl rfl (p_ifaceNil Tryd.underlying25 rfl rfl rfl).run ?_); clear hE a; intro a hE
          refine wpList_nil ?_
          refine then_normal ?_
          refine c_false hE rfl ?_
          refine wp_skip ?_
          refine then_normal ?_
          refine wp_seq ?_
          refine wp_region_list ?_   -- region 16
          refine l_step rfl (o_pure hE rfl rfl (f_loadA (vs := [_, _, _, _, _]) rfl agg_34 (hI.seg 1 rfl) rfl rfl) ?_); clear hE a; intro a hE
          refine l_step rfl (f_store (l := [_, _, _, _, _]) (ss' := _ :: _ :: _ :: _ :: _) 3 hE hI rfl rfl rfl rfl rfl sz_34 (by simp [Value.cells, Value.oneCell']) rfl rfl rfl ?_)
          clear hI w; intro w hI
          refine l_step rfl (o_pure hE rfl rfl (p_assign rfl).run ?_); clear hE a; intro a hE
          refine wpList_nil ?_
          refine then_normal ?_
          refine wp_ret ?_
          refine retc2 rfl hE rfl agg_34 (hI.seg 3 rfl) rfl rfl ?_
          refine ⟨_, _, _, ((((hD9.trans hD16).trans hD20).trans hD27).trans hD41), hI.drop.drop.drop.drop, rfl, ?_⟩
          rw [read_ok hs hx32 (by unfold rd3 rd2 rd1; omega) hO]; exact ⟨rfl, _, _, rfl, (hb12.mono ((hD20.trans hD27).trans hD41)), (hb23.mono hD41)⟩
        · skip
          refine l_step rfl (o_pure hE rfl rfl (p_move rfl).run ?_); clear hE a; intro a hE
          refine l_step rfl (o_pure hE rfl rfl (f_extract rfl rfl).run ?_); clear hE a; intro a hE
          refine l_step rfl (o_pure hE rfl rfl (f_extract rfl rfl).run ?_); clear hE a; intro a hE
          refine l_step rfl (o_pure hE rfl rfl (p_assign rfl).run ?_); clear hE a; intro a hE
          refine l_step rfl (o_pure hE rfl rfl (p_assign rfl).run ?_); clear hE a; intro a hE
          refine wpList_nil ?_
          refine then_normal ?_
          refine wp_seq ?_
          refine wp_region_list ?_   -- region 14
          refine l_step rfl (o_pure hE rfl rfl (p_move rfl).run ?_); clear hE a; intro a hE
          refine l_step rfl (o_pure hE rfl rfl (p_ifaceNil Tryd.underlying25 rfl rfl rfl).run ?_); clear hE a; intro a hE
          refine wpList_nil ?_
          refine then_normal ?_
          refine c_true hE rfl ?_
          refine wp_seq ?_
          refine wp_region_list ?_   -- region 15
          refine l_step rfl (o_pure hE rfl rfl (f_build (vs := []) (l := [_, _, _, _, _]) rfl built_34 rfl).run ?_); clear hE a; intro a hE
          refine l_step rfl (o_pure hE rfl rfl (p_move rfl).run ?_); clear hE a; intro a hE
          refine l_step rfl (f_store (l := [_, _, _, _, _]) (ss' := _ :: _ :: _ :: _) 2 hE hI rfl rfl rfl rfl rfl sz_34 (by simp [Value.cells, Value.oneCell']) rfl rfl rfl ?_)
          clear hI w; intro w hI
          refine l_step rfl (o_pure hE rfl rfl (p_assign rfl).run ?_); clear hE a; intro a hE
          refine wpList_nil ?_
          refine then_normal ?_
          refine wp_ret ?_
          refine then_ret ?_
          refine retc2 rfl hE rfl agg_34 (hI.seg 2 rfl) rfl rfl ?_
          refine ⟨_, _, _, ((((hD9.trans hD16).trans hD20).trans hD27).trans hD41), hI.drop.drop.drop, rfl, ?_⟩
          rw [read_range hs hx32 (by unfold rd3 rd2 rd1; omega) hO]; exact ⟨rfl, by simp, rfl⟩
    · skip
      refine l_step rfl (o_pure hE rfl rfl (p_ifaceNil Tryd.underlying25 rfl rfl rfl).run ?_); clear hE a; intro a hE
      refine l_step rfl (o_pure hE rfl rfl (p_assign rfl).run ?_); clear hE a; intro a hE
      refine wpList_nil ?_
      refine then_normal ?_
      refine c_true hE rfl ?_
      refine wp_seq ?_
      refine wp_region_list ?_   -- region 10
      refine l_step rfl (o_pure hE rfl rfl (f_build (vs := []) (l := [_, _, _, _, _]) rfl built_34 rfl).run ?_); clear hE a; intro a hE
      refine l_step rfl (o_pure hE rfl rfl (p_move rfl).run ?_); clear hE a; intro a hE
      refine l_step rfl (o_call hE rfl rfl rfl rfl ent_62 (RErr_spec (hI.bring 1) hR29) ?_)
      clear hI hE a
      rintro r w ⟨⟨ve47, rfl, he48⟩, hI⟩ a hE
      replace hI := hI.put_back 1
      try simp only [splice, insAt, List.set_cons_succ, List.set_cons_zero, List.setIfInBounds_toArray, Value.cells, List.eraseIdx_cons_succ, List.eraseIdx_cons_zero, List.eraseIdx_zero, List.tail_cons] at hI
      refine l_step rfl (f_store (l := [_, _, _, _, _]) (ss' := _ :: _ :: _ :: _) 2 hE hI rfl rfl rfl rfl rfl sz_34 (by simp [Value.cells, Value.oneCell']) rfl rfl rfl ?_)
      clear hI w; intro w hI
      refine l_step rfl (o_pure hE rfl rfl (p_assign rfl).run ?_); clear hE a; intro a hE
      refine wpList_nil ?_
      refine then_normal ?_
      refine wp_ret ?_
      refine blk_ret ?_
      refine then_ret ?_
      refine retc2 rfl hE rfl agg_34 (hI.seg 2 rfl) rfl rfl ?_
      refine ⟨_, _, _, (((hD9.trans hD16).trans hD20).trans hD27), hI.drop.drop.drop, rfl, ?_⟩
      rw [read_err hs hx32]; exact ⟨he48, hx32, rfl⟩
  · skip
    refine l_step rfl (o_pure hE rfl rfl (p_move rfl).run ?_); clear hE a; intro a hE
    refine l_step rfl (o_pure hE rfl rfl (f_extract rfl rfl).run ?_); clear hE a; intro a hE
    refine l_step rfl (o_pure hE rfl rfl (f_extract rfl rfl).run ?_); clear hE a; intro a hE
    refine l_step rfl (o_pure hE rfl rfl (f_extract rfl rfl).run ?_); clear hE a; intro a hE
    refine l_step rfl (o_pure hE rfl rfl (p_assign rfl).run ?_); clear hE a; intro a hE
    refine l_step rfl (o_pure hE rfl rfl (p_assign rfl).run ?_); clear hE a; intro a hE
    refine l_step rfl (o_pure hE rfl rfl (p_assign rfl).run ?_); clear hE a; intro a hE
    refine wpList_nil ?_
    refine then_normal ?_
    refine wp_seq ?_
    refine wp_seq ?_
    refine wp_region_list ?_   -- region 2
    refine l_step rfl (o_pure hE rfl rfl (p_move rfl).run ?_); clear hE a; intro a hE
    refine l_step rfl (o_pure hE rfl rfl (p_not rfl).run ?_); clear hE a; intro a hE
    refine wpList_nil ?_
    refine then_normal ?_
    refine c_true hE rfl ?_
    refine wp_seq ?_
    refine d_start [] [0] (by kernel_rfl) hI rfl rfl ?_   -- region 3 draws its order
    clear hI w; intro w hI
    refine d_pure 0 hE rfl (by kernel_rfl) (by kernel_rfl) (by kernel_rfl) rfl (fun _ _ _ h => h) rfl rfl rfl (f_build (vs := []) (l := [_, _, _, _, _]) rfl built_34 rfl) (fun _ => (hI.dropS [0])) (listed' := #[true, false, false, false]) rfl ?_; clear hE a; intro a hE
    obtain ⟨T_49, fr_49, hg_49⟩ := g103
    refine d_load 1 hE rfl (by kernel_rfl) (by kernel_rfl) (by kernel_rfl) (by kernel_rfl) (by kernel_rfl) rfl rfl (fun _ _ _ h => h) rfl rfl rfl (fun w hS => f_load rfl scal_25 (Inv.data hS _ _ (hg_49)) rfl) ((hI.dropS [0])) (listed' := #[true, true, false, false]) rfl ?_; clear hE a; intro a hE
    refine d_one 2 hE rfl (by kernel_rfl) rfl (listed' := #[true, true, true, false]) rfl ?_
    refine f_store (l := [_, _, _, _, _]) (ss' := _ :: _) 0 hE hI rfl rfl rfl rfl rfl sz_34 (by simp [Value.cells, Value.oneCell']) rfl rfl rfl ?_
    clear hI w; intro w hI
    refine ⟨fun _ => (hI.dropS [0]), ?_⟩
    refine d_pure 3 hE rfl (by kernel_rfl) (by kernel_rfl) (by kernel_rfl) rfl (fun _ _ _ h => h) rfl rfl rfl (p_assign rfl) (fun _ => (hI.dropS [0])) (listed' := #[true, true, true, true]) rfl ?_; clear hE a; intro a hE
    refine d_done (by kernel_rfl) ?_
    refine then_normal ?_
    refine wp_ret ?_
    refine then_ret ?_
    refine retc2 rfl hE rfl agg_34 (hI.seg 0 rfl) rfl rfl ?_
    refine ⟨_, _, _, (Le.refl _), hI.drop, rfl, ?_⟩
    rw [read_bad hs]; exact ⟨rfl, by simp, rfl⟩

end Go.Proofs.YtbogbnkckofpdaaDoor.B
