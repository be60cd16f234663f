/- What functions of the program compute, each function once: steps over the model, and the plain law of it. -/
import Derived.Test.YtbogbnkckofpdaaDoorTUndoReadPure
import Derived.Test.YtbogbnkckofpdaaDoorTSee
namespace Go.Proofs.YtbogbnkckofpdaaDoor.B
open Go Go.Proofs
set_option linter.unusedVariables false
set_option linter.unusedSimpArgs false
set_option maxRecDepth 20000
set_option maxHeartbeats 8000000
namespace FTUndoRead
theorem agg_40 : aggSize Tryd.prog 40 = some 5 := by kernel_rfl
theorem built_40 : ∀ vs, Tryd.prog.built 40 vs = Instr.fill (([(0, 1), (1, 1), (2, 1), (3, 1), (4, 1)] : List (Nat × Nat)).toArray[·]?) ([.int .i64 0, .int .i64 0, .slice none 0 0, .bool false, .slice none 0 0] : List Value).toArray vs := fun _ => by kernel_rfl
theorem ent_18 : enters Tryd.prog 18 = true := by kernel_rfl
theorem fo_34_0 : fieldOff Tryd.prog 34 0 = some 0 := by kernel_rfl
theorem fo_34_1 : fieldOff Tryd.prog 34 1 = some 1 := by kernel_rfl
theorem fo_34_2 : fieldOff Tryd.prog 34 2 = some 2 := by kernel_rfl
theorem fo_34_3 : fieldOff Tryd.prog 34 3 = some 3 := by kernel_rfl
theorem fo_34_4 : fieldOff Tryd.prog 34 4 = some 4 := by kernel_rfl
theorem fo_40_0 : fieldOff Tryd.prog 40 0 = some 0 := by kernel_rfl
theorem fo_40_1 : fieldOff Tryd.prog 40 1 = some 1 := by kernel_rfl
theorem fo_40_2 : fieldOff Tryd.prog 40 2 = some 2 := by kernel_rfl
theorem fo_40_3 : fieldOff Tryd.prog 40 3 = some 3 := by kernel_rfl
theorem fo_40_4 : fieldOff Tryd.prog 40 4 = some 4 := by kernel_rfl
theorem scal_2 : isScal Tryd.prog 2 = true := by kernel_rfl
theorem scal_22 : isScal Tryd.prog 22 = true := by kernel_rfl
theorem scal_3 : isScal Tryd.prog 3 = true := by kernel_rfl
theorem scal_4 : isScal Tryd.prog 4 = true := by kernel_rfl
theorem scal_5 : isScal Tryd.prog 5 = true := by kernel_rfl
theorem sz_40 : (Tryd.prog.info? 40).map (·.size) = some 5 := by kernel_rfl
theorem sz_5 : (Tryd.prog.info? 5).map (·.size) = some 1 := by kernel_rfl
theorem zer_40 : (Tryd.prog.info? 40).bind (·.zero) = some (.agg #[.int .i64 0, .int .i64 0, .slice none 0 0, .bool false, .slice none 0 0]) := by kernel_rfl
theorem zs_5 : (Tryd.prog.info? 5).map (fun i => (i.zero, i.size)) = some (some (.int .u8 0), 1) := by kernel_rfl
theorem zsb_5 : (Tryd.prog.info? 5).map (fun i => (i.zero, i.size, i.bytes)) = some (some (.int .u8 0), 1, 1) := by kernel_rfl
end FTUndoRead
open FTUndoRead
theorem OB.data {w0 w : World} {D : Sto} {ss : List Seg} {r : Value} {bs : List Nat} (h : ∃ s, OB r bs s ∧ Inv w0 D (s :: ss) w) (hb : ∀ x ∈ bs, x < 256) : ∃ D', Le D D' ∧ Inv w0 D' ss w ∧ RB D' r bs := by
  obtain ⟨s, h1, hI⟩ := h
  exact ⟨_, hI.le_shut, hI.shut, Row.shut_bytes h1 hb⟩
theorem Ret.imp {R R' : Value → World → Prop} {e : Ending} {w : World} (h : Ret R e w) (hi : ∀ r w, R r w → R' r w) : Ret R' e w := by
  obtain ⟨r, he, hr⟩ := h; exact ⟨r, he, hi _ _ hr⟩
theorem Clone_data {w0 w : World} {D : Sto} {ss : List Seg} (hI : Inv w0 D ss w) {vb : Value} {bs : List Nat} (hb : RB D vb bs) (hm : bs.length ≤ 140737488355328) :
    Calls Tryd.prog 73 #[vb] w (Ret fun r w' => ∃ D', Le D D' ∧ Inv w0 D' ss w' ∧ RB D' r bs) :=
  (Clone_spec hI hb hm).mono fun _ _ h => h.imp fun _ _ h => OB.data h hb.lt
theorem Put_data {w0 w : World} {D : Sto} {ss : List Seg} (hI : Inv w0 D ss w) {vb : Value} {bs : List Nat} {m : Int} (hb : RB D vb bs) (hm : bs.length ≤ 140737488355000) (h0 : -9223372036854775808 ≤ m) (h1 : m ≤ 9223372036854775807) :
    Calls Tryd.prog 56 #[vb, .int .i64 m] w (Ret fun r w' => ∃ D', Le D D' ∧ Inv w0 D' ss w' ∧ RB D' r (bs ++ putZ m)) :=
  (Put_spec hI hb hm h0 h1).mono fun _ _ h => h.imp fun _ _ h => OB.data h (fun x hx => by rcases List.mem_append.1 hx with h | h; exact hb.lt x h; exact putZ_lt _ x h)
theorem PutBytes_data {w0 w : World} {D : Sto} {ss : List Seg} (hI : Inv w0 D ss w) {vb vx : Value} {bs xs : List Nat} (hb : RB D vb bs) (hx : RB D vx xs) (hm : bs.length + xs.length ≤ 140737488355000) :
    Calls Tryd.prog 55 #[vb, vx] w (Ret fun r w' => ∃ D', Le D D' ∧ Inv w0 D' ss w' ∧ RB D' r (bs ++ putZ (xs.length : Nat) ++ xs)) :=
  (PutBytes_spec hI hb hx hm).mono fun _ _ h => h.imp fun _ _ h => OB.data h (fun x hx' => by
    simp only [List.mem_append] at hx'
    rcases hx' with (h | h) | h
    · exact hb.lt x h
    · exact putZ_lt _ x h
    · exact hx.lt x h)
theorem bytes_step {bs : List Nat} {i : Nat} (h : i < bs.length) : bytesV (bs.take i) ++ (#[Value.int .u8 ((bs.getD ((i : Nat) : Int).toNat 0 : Nat) : Int)] : Array Value).toList = bytesV (bs.take (i + 1)) := by
  have e : bs.getD ((i : Nat) : Int).toNat 0 = bs[i] := by rw [List.getD_eq_getElem?_getD]; simp [List.getElem?_eq_getElem h]
  rw [List.take_add_one, List.getElem?_eq_getElem h, e, Option.toList_some]
  simp only [bytesV, List.map_append, List.map_cons, List.map_nil]
theorem shl8 {t : Nat} (h : t < 72057594037927936) : IntKind.u64.wrap (((t : Nat) : Int) * 2 ^ min (Int.toNat 8) IntKind.u64.bits) = ((t * 256 : Nat) : Int) := by
  have e : (2 : Int) ^ min (Int.toNat 8) IntKind.u64.bits = 256 := by decide
  rw [e, u64_wrap]
  omega
theorem or_byte {t c s : Nat} (h : t < 72057594037927936) (hc : c < 256) (hs : s = t * 256 + c) : arithZ .or .u64 ((t * 256 : Nat) : Int) ((c : Nat) : Int) = some ((s : Nat) : Int) := by
  subst hs
  simp only [arithZ, Option.some.injEq]
  have e1 : (BitVec.ofInt IntKind.u64.bits ((t * 256 : Nat) : Int) ||| BitVec.ofInt IntKind.u64.bits ((c : Nat) : Int)).toNat = t * 256 + c := by
    rw [BitVec.toNat_or]
    simp only [BitVec.toNat_ofInt]
    have a1 : (((t * 256 : Nat) : Int) % ((2 ^ IntKind.u64.bits : Nat) : Int)).toNat = t * 256 := by
      show (((t * 256 : Nat) : Int) % ((2 ^ 64 : Nat) : Int)).toNat = _
      omega
    have a2 : (((c : Nat) : Int) % ((2 ^ IntKind.u64.bits : Nat) : Int)).toNat = c := by
      show (((c : Nat) : Int) % ((2 ^ 64 : Nat) : Int)).toNat = _
      omega
    rw [a1, a2]
    have := Nat.two_pow_add_eq_or_of_lt (i := 8) hc t
    rw [Nat.mul_comm t]
    simpa using this.symm
  rw [e1, u64_wrap]
  omega
theorem val_take_step {l : List Nat} {i : Nat} (h : i < l.length) : valL (l.take (i + 1)) = valL (l.take i) * 256 + l.getD ((i : Nat) : Int).toNat 0 := by
  rw [List.take_add_one, List.getElem?_eq_getElem h, Option.toList_some, valL_snoc]
  simp [List.getD_eq_getElem?_getD, List.getElem?_eq_getElem h]
theorem val_take8 {bs : List Nat} (hb : ∀ x ∈ bs, x < 256) {k : Nat} (hk : k ≤ 7) : valL (((bs.drop 1).take 8).take k) < 72057594037927936 := by
  have h1 := valL_lt (((bs.drop 1).take 8).take k) (fun x hx => hb x (List.mem_of_mem_drop (List.mem_of_mem_take (List.mem_of_mem_take hx))))
  have h2 : (((bs.drop 1).take 8).take k).length ≤ k := by simp; omega
  have h3 : 256 ^ (((bs.drop 1).take 8).take k).length ≤ 256 ^ k := Nat.pow_le_pow_right (by omega) h2
  have h4 : (256 : Nat) ^ k ≤ 256 ^ 7 := Nat.pow_le_pow_right (by omega) (by omega)
  have : (256 : Nat) ^ 7 = 72057594037927936 := by decide
  omega
theorem zero_at {bs : List Nat} (h : ((bs.getD (Int.toNat 0) 0 : Nat) : Int) = 117) : bs.getD 0 0 = 117 := by
  have : ((bs.getD 0 0 : Nat) : Int) = 117 := h
  omega
theorem zero_ne {bs : List Nat} (h : ((bs.getD (Int.toNat 0) 0 : Nat) : Int) ≠ 117) : bs.getD 0 0 ≠ 117 := fun e => h (by show ((bs.getD 0 0 : Nat) : Int) = 117; omega)

theorem Number_spec {w0 w : World} {D : Sto} {ss : List Seg} (hI : Inv w0 D ss w) (n : Int) {m : Int} (hb : 0 < m) (hm : m ≤ 4611686018427387904) :
    Calls Tryd.prog 20 #[.int .i64 n, .int .i64 m] w (Ret fun r w' => (∃ z, r = .int .i64 z ∧ 0 ≤ z ∧ z < m) ∧ Inv w0 D ss w') := by
  refine enter (N := 15) Tryd.func20 rfl rfl rfl ?_
  intro a hE
  refine wp_seq ?_
  refine wp_region_list ?_   -- region 0
  refine l_step rfl (o_pure hE rfl rfl (p_assign rfl).run ?_); clear hE a; intro a hE
  refine wpList_nil ?_
  refine then_normal ?_
  refine wp_seq ?_
  refine wp_region_list ?_   -- region 1
  refine l_step rfl (o_pure hE rfl rfl (p_move rfl).run ?_); clear hE a; intro a hE
  refine l_step rfl (o_pure hE rfl rfl (p_move rfl).run ?_); clear hE a; intro a hE
  refine l_step rfl (o_pure hE rfl rfl (p_arith (z := _) rfl rfl (rem_z rfl (by omega))).run ?_); clear hE a; intro a hE
  refine l_step rfl (o_pure hE rfl rfl (p_assign rfl).run ?_); clear hE a; intro a hE
  refine wpList_nil ?_
  refine then_normal ?_
  refine wp_seq ?_
  refine wp_seq ?_
  have hr1 := Int.tmod_lt_of_pos n hb
  have hr2 := Int.lt_tmod_of_pos n hb
  generalize n.tmod m = r at hE hr1 hr2
  refine wp_region_list ?_   -- region 2
  refine l_step rfl (o_pure hE rfl rfl (p_move rfl).run ?_); clear hE a; intro a hE
  refine l_step rfl (o_cmp hE rfl rfl rfl rfl rfl rfl ?_ ?_)
  · intro hneg; replace hneg := lss_t hneg; clear hE a; intro a hE
    refine wpList_nil ?_
    refine then_normal ?_
    refine c_true hE rfl ?_
    refine wp_region_list ?_   -- region 3
    refine l_step rfl (o_pure hE rfl rfl (p_move rfl).run ?_); clear hE a; intro a hE
    refine l_step rfl (o_pure hE rfl rfl (p_move rfl).run ?_); clear hE a; intro a hE
    refine l_step rfl (o_pure hE rfl rfl (p_arith (z := _) rfl rfl (add_z rfl (by omega) (by omega))).run ?_); clear hE a; intro a hE
    refine l_step rfl (o_pure hE rfl rfl (p_assign rfl).run ?_); clear hE a; intro a hE
    refine wpList_nil ?_
    refine then_normal ?_
    refine wp_seq ?_
    refine wp_region_list ?_   -- region 4
    refine l_step rfl (o_pure hE rfl rfl (p_move rfl).run ?_); clear hE a; intro a hE
    refine l_step rfl (o_pure hE rfl rfl (p_assign rfl).run ?_); clear hE a; intro a hE
    refine wpList_nil ?_
    refine then_normal ?_
    refine wp_ret ?_
    refine ret1 rfl hE rfl ?_
    exact ⟨⟨_, rfl, by omega, by omega⟩, hI⟩
  · intro hneg; replace hneg := lss_f hneg; clear hE a; intro a hE
    refine wpList_nil ?_
    refine then_normal ?_
    refine c_false hE rfl ?_
    refine wp_skip ?_
    refine then_normal ?_
    refine wp_seq ?_
    refine wp_region_list ?_   -- region 4
    refine l_step rfl (o_pure hE rfl rfl (p_move rfl).run ?_); clear hE a; intro a hE
    refine l_step rfl (o_pure hE rfl rfl (p_assign rfl).run ?_); clear hE a; intro a hE
    refine wpList_nil ?_
    refine then_normal ?_
    refine wp_ret ?_
    refine ret1 rfl hE rfl ?_
    exact ⟨⟨_, rfl, by omega, by omega⟩, hI⟩

theorem plain_spec {w0 w : World} {D : Sto} {ss : List Seg} (hI : Inv w0 D ss w) (tx n : Int) {vk vv : Value} {key value : List Nat} (had : Bool) (hk : RB D vk key) (hv : RB D vv value) :
    Calls Tryd.prog 25 #[.agg #[.int .i64 tx, .int .i64 n, vk, .bool had, vv]] w (Ret fun r w' => r = .agg #[.int .i64 tx, .int .i64 n, vk, .bool had, vv] ∧ Inv w0 D ss w') := by
  obtain ⟨Ak, ck, rfl, _⟩ := hk.slice
  obtain ⟨Av, cv, rfl, _⟩ := hv.slice
  have hhad : had = true ↔ had = true := Iff.rfl
  refine enter (N := 14) Tryd.func25 rfl rfl rfl ?_
  intro a hE
  refine wp_seq ?_
  refine wp_region_list ?_   -- region 0
  refine l_step rfl (f_box (cs := #[_, _, _, _, _]) hE hI rfl rfl rfl rfl rfl ?_)
  clear hI hE a w; intro a b1 w hE hI
  refine l_step rfl (f_alloc (cs := #[.int .i64 0, .int .i64 0, .slice none 0 0, .bool false, .slice none 0 0]) hE hI rfl rfl rfl zer_40 rfl ?_)
  clear hI hE a w; intro a b2 w hE hI
  refine wpList_nil ?_
  refine then_normal ?_
  refine wp_seq ?_
  refine wp_region_list ?_   -- region 1
  refine l_step rfl (o_pure hE rfl rfl (p_fieldAddr (m := 0) rfl fo_34_0 rfl).run ?_); clear hE a; intro a hE
  refine l_step rfl (o_pure hE rfl rfl (f_load rfl scal_2 (hI.seg 1 rfl) rfl) ?_); clear hE a; intro a hE
  refine l_step rfl (o_pure hE rfl rfl (p_fieldAddr (m := 1) rfl fo_34_1 rfl).run ?_); clear hE a; intro a hE
  refine l_step rfl (o_pure hE rfl rfl (f_load rfl scal_3 (hI.seg 1 rfl) rfl) ?_); clear hE a; intro a hE
  refine l_step rfl (o_pure hE rfl rfl (p_fieldAddr (m := 2) rfl fo_34_2 rfl).run ?_); clear hE a; intro a hE
  refine l_step rfl (o_pure hE rfl rfl (f_load rfl scal_22 (hI.seg 1 rfl) rfl) ?_); clear hE a; intro a hE
  refine l_step rfl (o_pure hE rfl rfl (p_fieldAddr (m := 3) rfl fo_34_3 rfl).run ?_); clear hE a; intro a hE
  refine l_step rfl (o_pure hE rfl rfl (f_load rfl scal_4 (hI.seg 1 rfl) rfl) ?_); clear hE a; intro a hE
  refine l_step rfl (o_pure hE rfl rfl (p_fieldAddr (m := 4) rfl fo_34_4 rfl).run ?_); clear hE a; intro a hE
  refine l_step rfl (o_pure hE rfl rfl (f_load rfl scal_22 (hI.seg 1 rfl) rfl) ?_); clear hE a; intro a hE
  refine l_step rfl (o_pure hE rfl rfl (f_build (vs := [(0, _), (1, _), (2, _), (3, _), (4, _)]) (l := [_, _, _, _, _]) rfl built_40 rfl).run ?_); clear hE a; intro a hE
  refine l_step rfl (f_store (l := [_, _, _, _, _]) (ss' := _ :: _) 0 hE hI rfl rfl rfl rfl rfl sz_40 (by simp [Value.cells, Value.oneCell']) rfl rfl rfl ?_)
  clear hI w; intro w hI
  refine wpList_nil ?_
  refine then_normal ?_
  refine wp_ret ?_
  refine retc1 rfl hE rfl agg_40 (hI.seg 0 rfl) rfl ?_
  exact ⟨rfl, hI.drop.drop⟩

theorem light_spec {w0 w : World} {D : Sto} {ss : List Seg} (hI : Inv w0 D ss w) (tx n : Int) {vk vv : Value} {key value : List Nat} (had : Bool) (hk : RB D vk key) (hv : RB D vv value) :
    Calls Tryd.prog 26 #[.agg #[.int .i64 tx, .int .i64 n, vk, .bool had, vv]] w (Ret fun r w' => r = .bool (decide (key.length ≤ 40 ∧ value.length ≤ 60)) ∧ Inv w0 D ss w') := by
  obtain ⟨Ak, ck, rfl, _⟩ := hk.slice
  obtain ⟨Av, cv, rfl, _⟩ := hv.slice
  have hhad : had = true ↔ had = true := Iff.rfl
  refine enter (N := 13) Tryd.func26 rfl rfl rfl ?_
  intro a hE
  refine wp_seq ?_
  refine wp_region_list ?_   -- region 0
  refine l_step rfl (f_box (cs := #[_, _, _, _, _]) hE hI rfl rfl rfl rfl rfl ?_)
  clear hI hE a w; intro a b1 w hE hI
  refine l_step rfl (o_pure hE rfl rfl (p_assign rfl).run ?_); clear hE a; intro a hE
  refine wpList_nil ?_
  refine then_normal ?_
  refine wp_seq ?_
  refine wp_region_list ?_   -- region 1
  refine l_step rfl (o_pure hE rfl rfl (p_fieldAddr (m := 2) rfl fo_34_2 rfl).run ?_); clear hE a; intro a hE
  refine l_step rfl (o_pure hE rfl rfl (f_load rfl scal_22 (hI.seg 0 rfl) rfl) ?_); clear hE a; intro a hE
  refine l_step rfl (o_pure hE rfl rfl (p_len rfl rfl Tryd.underlying22).run ?_); clear hE a; intro a hE
  refine l_step rfl (o_cmp hE rfl rfl rfl rfl rfl rfl ?_ ?_)
  · intro h1; replace h1 := leq_t h1; clear hE a; intro a hE
    refine l_step rfl (o_pure hE rfl rfl (p_move rfl).run ?_); clear hE a; intro a hE
    refine l_go hE rfl (o_pure hE rfl rfl (p_fieldAddr (m := 4) rfl fo_34_4 rfl).run ?_); clear hE a; intro a hE
    refine l_go hE rfl (o_pure hE rfl rfl (f_load rfl scal_22 (hI.seg 0 rfl) rfl) ?_); clear hE a; intro a hE
    refine l_go hE rfl (o_pure hE rfl rfl (p_len rfl rfl Tryd.underlying22).run ?_); clear hE a; intro a hE
    refine l_go hE rfl (o_cmp hE rfl rfl rfl rfl rfl rfl ?_ ?_)
    · intro h2; replace h2 := leq_t h2; clear hE a; intro a hE
      refine l_step rfl (o_pure hE rfl rfl (p_pick (b := true) rfl rfl).run ?_); clear hE a; intro a hE
      refine l_step rfl (o_pure hE rfl rfl (p_assign rfl).run ?_); clear hE a; intro a hE
      refine wpList_nil ?_
      refine then_normal ?_
      refine wp_ret ?_
      refine ret1 rfl hE rfl ?_
      exact ⟨by congr 1; symm; simp only [decide_eq_true_eq]; omega, hI.drop⟩
    · intro h2; replace h2 := leq_f h2; clear hE a; intro a hE
      refine l_step rfl (o_pure hE rfl rfl (p_pick (b := true) rfl rfl).run ?_); clear hE a; intro a hE
      refine l_step rfl (o_pure hE rfl rfl (p_assign rfl).run ?_); clear hE a; intro a hE
      refine wpList_nil ?_
      refine then_normal ?_
      refine wp_ret ?_
      refine ret1 rfl hE rfl ?_
      exact ⟨by congr 1; symm; simp only [decide_eq_false_iff_not]; omega, hI.drop⟩
  · intro h1; replace h1 := leq_f h1; clear hE a; intro a hE
    refine l_step rfl (o_pure hE rfl rfl (p_move rfl).run ?_); clear hE a; intro a hE
    refine l_skip hE rfl rfl rfl ?_; clear hE a; intro a hE
    refine l_skip hE rfl rfl rfl ?_; clear hE a; intro a hE
    refine l_skip hE rfl rfl rfl ?_; clear hE a; intro a hE
    refine l_skip hE rfl rfl rfl ?_; clear hE a; intro a hE
    refine l_step rfl (o_pure hE rfl rfl (p_pick (b := false) rfl rfl).run ?_); clear hE a; intro a hE
    refine l_step rfl (o_pure hE rfl rfl (p_assign rfl).run ?_); clear hE a; intro a hE
    refine wpList_nil ?_
    refine then_normal ?_
    refine wp_ret ?_
    refine ret1 rfl hE rfl ?_
    exact ⟨by congr 1; symm; simp only [decide_eq_false_iff_not]; omega, hI.drop⟩

theorem Same20_spec {w0 w : World} {D : Sto} {ss : List Seg} (hI : Inv w0 D ss w) (tx n : Int) {vk vv : Value} {key value : List Nat} (had : Bool) (hk : RB D vk key) (hv : RB D vv value) (tx' n' : Int) {vk' vv' : Value} {key' value' : List Nat} (had' : Bool) (hk' : RB D vk' key') (hv' : RB D vv' value') (hm1 : key.length ≤ 9223372036854775806) (hm2 : value.length ≤ 9223372036854775806) :
    Calls Tryd.prog 24 #[.agg #[.int .i64 tx, .int .i64 n, vk, .bool had, vv], .agg #[.int .i64 tx', .int .i64 n', vk', .bool had', vv']] w (Ret fun r w' => r = .bool (decide (key = key' ∧ value = value' ∧ tx = tx' ∧ n = n' ∧ had = had')) ∧ Inv w0 D ss w') := by
  obtain ⟨Ak, ck, rfl, _⟩ := hk.slice
  obtain ⟨Av, cv, rfl, _⟩ := hv.slice
  have hhad : had = true ↔ had = true := Iff.rfl
  obtain ⟨Bk, dk, rfl, _⟩ := hk'.slice
  obtain ⟨Bv, dv, rfl, _⟩ := hv'.slice
  have hhad' : had' = true ↔ had' = true := Iff.rfl
  refine enter (N := 42) Tryd.func24 rfl rfl rfl ?_
  intro a hE
  refine wp_seq ?_
  refine wp_region_list ?_   -- region 0
  refine l_step rfl (f_box (cs := #[_, _, _, _, _]) hE hI rfl rfl rfl rfl rfl ?_)
  clear hI hE a w; intro a b1 w hE hI
  refine l_step rfl (f_box (cs := #[_, _, _, _, _]) hE hI rfl rfl rfl rfl rfl ?_)
  clear hI hE a w; intro a b2 w hE hI
  refine l_step rfl (o_pure hE rfl rfl (p_assign rfl).run ?_); clear hE a; intro a hE
  refine wpList_nil ?_
  refine then_normal ?_
  refine wp_seq ?_
  refine wp_region_list ?_   -- region 1
  refine l_step rfl (o_pure hE rfl rfl (p_fieldAddr (m := 2) rfl fo_40_2 rfl).run ?_); clear hE a; intro a hE
  refine l_step rfl (o_pure hE rfl rfl (f_load rfl scal_22 (hI.seg 1 rfl) rfl) ?_); clear hE a; intro a hE
  refine l_step rfl (o_pure hE rfl rfl (p_fieldAddr (m := 2) rfl fo_40_2 rfl).run ?_); clear hE a; intro a hE
  refine l_step rfl (o_pure hE rfl rfl (f_load rfl scal_22 (hI.seg 0 rfl) rfl) ?_); clear hE a; intro a hE
  refine l_step rfl (o_call hE rfl rfl rfl rfl ent_18 (SameBytes_spec hI hk hk' (by omega)) ?_)
  clear hI hE a
  rintro r w h a hE; rcases h with ⟨rfl, h1, hI⟩ | ⟨rfl, h1, hI⟩
  · skip
    refine l_step rfl (o_pure hE rfl rfl (p_assign rfl).run ?_); clear hE a; intro a hE
    refine wpList_nil ?_
    refine then_normal ?_
    refine wp_seq ?_
    refine wp_region_list ?_   -- region 2
    refine l_step rfl (o_pure hE rfl rfl (p_fieldAddr (m := 4) rfl fo_40_4 rfl).run ?_); clear hE a; intro a hE
    refine l_step rfl (o_pure hE rfl rfl (f_load rfl scal_22 (hI.seg 1 rfl) rfl) ?_); clear hE a; intro a hE
    refine l_step rfl (o_pure hE rfl rfl (p_fieldAddr (m := 4) rfl fo_40_4 rfl).run ?_); clear hE a; intro a hE
    refine l_step rfl (o_pure hE rfl rfl (f_load rfl scal_22 (hI.seg 0 rfl) rfl) ?_); clear hE a; intro a hE
    refine l_step rfl (o_call hE rfl rfl rfl rfl ent_18 (SameBytes_spec hI hv hv' (by omega)) ?_)
    clear hI hE a
    rintro r w h a hE; rcases h with ⟨rfl, h2, hI⟩ | ⟨rfl, h2, hI⟩
    · skip
      refine l_step rfl (o_pure hE rfl rfl (p_assign rfl).run ?_); clear hE a; intro a hE
      refine wpList_nil ?_
      refine then_normal ?_
      refine wp_seq ?_
      refine wp_region_list ?_   -- region 3
      refine l_step rfl (o_pure hE rfl rfl (p_move rfl).run ?_); clear hE a; intro a hE
      refine l_step rfl (o_pure hE rfl rfl (p_move rfl).run ?_); clear hE a; intro a hE
      refine l_go hE rfl (o_pure hE rfl rfl (p_move rfl).run ?_); clear hE a; intro a hE
      refine l_step rfl (o_pure hE rfl rfl (p_pick (b := true) rfl rfl).run ?_); clear hE a; intro a hE
      refine l_step rfl (o_pure hE rfl rfl (p_move rfl).run ?_); clear hE a; intro a hE
      refine l_go hE rfl (o_pure hE rfl rfl (p_fieldAddr (m := 0) rfl fo_40_0 rfl).run ?_); clear hE a; intro a hE
      refine l_go hE rfl (o_pure hE rfl rfl (f_load rfl scal_2 (hI.seg 1 rfl) rfl) ?_); clear hE a; intro a hE
      refine l_go hE rfl (o_pure hE rfl rfl (p_fieldAddr (m := 0) rfl fo_40_0 rfl).run ?_); clear hE a; intro a hE
      refine l_go hE rfl (o_pure hE rfl rfl (f_load rfl scal_2 (hI.seg 0 rfl) rfl) ?_); clear hE a; intro a hE
      refine l_go hE rfl (o_cmp hE rfl rfl rfl rfl rfl rfl ?_ ?_)
      · intro h3; replace h3 := eql_t h3; clear hE a; intro a hE
        refine l_step rfl (o_pure hE rfl rfl (p_pick (b := true) rfl rfl).run ?_); clear hE a; intro a hE
        refine l_step rfl (o_pure hE rfl rfl (p_move rfl).run ?_); clear hE a; intro a hE
        refine l_go hE rfl (o_pure hE rfl rfl (p_fieldAddr (m := 1) rfl fo_40_1 rfl).run ?_); clear hE a; intro a hE
        refine l_go hE rfl (o_pure hE rfl rfl (f_load rfl scal_3 (hI.seg 1 rfl) rfl) ?_); clear hE a; intro a hE
        refine l_go hE rfl (o_pure hE rfl rfl (p_fieldAddr (m := 1) rfl fo_40_1 rfl).run ?_); clear hE a; intro a hE
        refine l_go hE rfl (o_pure hE rfl rfl (f_load rfl scal_3 (hI.seg 0 rfl) rfl) ?_); clear hE a; intro a hE
        refine l_go hE rfl (o_cmp hE rfl rfl rfl rfl rfl rfl ?_ ?_)
        · intro h4; replace h4 := eql_t h4; clear hE a; intro a hE
          refine l_step rfl (o_pure hE rfl rfl (p_pick (b := true) rfl rfl).run ?_); clear hE a; intro a hE
          refine l_step rfl (o_pure hE rfl rfl (p_move rfl).run ?_); clear hE a; intro a hE
          refine l_go hE rfl (o_pure hE rfl rfl (p_fieldAddr (m := 3) rfl fo_40_3 rfl).run ?_); clear hE a; intro a hE
          refine l_go hE rfl (o_pure hE rfl rfl (f_load rfl scal_4 (hI.seg 1 rfl) rfl) ?_); clear hE a; intro a hE
          refine l_go hE rfl (o_pure hE rfl rfl (p_fieldAddr (m := 3) rfl fo_40_3 rfl).run ?_); clear hE a; intro a hE
          refine l_go hE rfl (o_pure hE rfl rfl (f_load rfl scal_4 (hI.seg 0 rfl) rfl) ?_); clear hE a; intro a hE
          rcases Bool.eq_false_or_eq_true had with rfl | rfl
          · replace hhad := iff_t hhad
            rcases Bool.eq_false_or_eq_true had' with rfl | rfl
            · replace hhad' := iff_t hhad'
              refine l_go hE rfl (o_pure hE rfl rfl (p_boolEq Tryd.underlying4 rfl rfl rfl).run ?_); clear hE a; intro a hE
              refine l_step rfl (o_pure hE rfl rfl (p_pick (b := true) rfl rfl).run ?_); clear hE a; intro a hE
              refine l_step rfl (o_pure hE rfl rfl (p_assign rfl).run ?_); clear hE a; intro a hE
              refine wpList_nil ?_
              refine then_normal ?_
              refine wp_ret ?_
              refine ret1 rfl hE rfl ?_
              exact ⟨by simp [*], hI.drop.drop⟩
            · replace hhad' := iff_f hhad'
              refine l_go hE rfl (o_pure hE rfl rfl (p_boolEq Tryd.underlying4 rfl rfl rfl).run ?_); clear hE a; intro a hE
              refine l_step rfl (o_pure hE rfl rfl (p_pick (b := true) rfl rfl).run ?_); clear hE a; intro a hE
              refine l_step rfl (o_pure hE rfl rfl (p_assign rfl).run ?_); clear hE a; intro a hE
              refine wpList_nil ?_
              refine then_normal ?_
              refine wp_ret ?_
              refine ret1 rfl hE rfl ?_
              exact ⟨by simp [*], hI.drop.drop⟩
          · replace hhad := iff_f hhad
            rcases Bool.eq_false_or_eq_true had' with rfl | rfl
            · replace hhad' := iff_t hhad'
              refine l_go hE rfl (o_pure hE rfl rfl (p_boolEq Tryd.underlying4 rfl rfl rfl).run ?_); clear hE a; intro a hE
              refine l_step rfl (o_pure hE rfl rfl (p_pick (b := true) rfl rfl).run ?_); clear hE a; intro a hE
              refine l_step rfl (o_pure hE rfl rfl (p_assign rfl).run ?_); clear hE a; intro a hE
              refine wpList_nil ?_
              refine then_normal ?_
              refine wp_ret ?_
              refine ret1 rfl hE rfl ?_
              exact ⟨by simp [*], hI.drop.drop⟩
            · replace hhad' := iff_f hhad'
              refine l_go hE rfl (o_pure hE rfl rfl (p_boolEq Tryd.underlying4 rfl rfl rfl).run ?_); clear hE a; intro a hE
              refine l_step rfl (o_pure hE rfl rfl (p_pick (b := true) rfl rfl).run ?_); clear hE a; intro a hE
              refine l_step rfl (o_pure hE rfl rfl (p_assign rfl).run ?_); clear hE a; intro a hE
              refine wpList_nil ?_
              refine then_normal ?_
              refine wp_ret ?_
              refine ret1 rfl hE rfl ?_
              exact ⟨by simp [*], hI.drop.drop⟩
        · intro h4; replace h4 := eql_f h4; clear hE a; intro a hE
          refine l_step rfl (o_pure hE rfl rfl (p_pick (b := true) rfl rfl).run ?_); clear hE a; intro a hE
          refine l_step rfl (o_pure hE rfl rfl (p_move rfl).run ?_); clear hE a; intro a hE
          refine l_skip hE rfl rfl rfl ?_; clear hE a; intro a hE
          refine l_skip hE rfl rfl rfl ?_; clear hE a; intro a hE
          refine l_skip hE rfl rfl rfl ?_; clear hE a; intro a hE
          refine l_skip hE rfl rfl rfl ?_; clear hE a; intro a hE
          refine l_skip hE rfl rfl rfl ?_; clear hE a; intro a hE
          refine l_step rfl (o_pure hE rfl rfl (p_pick (b := false) rfl rfl).run ?_); clear hE a; intro a hE
          refine l_step rfl (o_pure hE rfl rfl (p_assign rfl).run ?_); clear hE a; intro a hE
          refine wpList_nil ?_
          refine then_normal ?_
          refine wp_ret ?_
          refine ret1 rfl hE rfl ?_
          exact ⟨by simp [*], hI.drop.drop⟩
      · intro h3; replace h3 := eql_f h3; clear hE a; intro a hE
        refine l_step rfl (o_pure hE rfl rfl (p_pick (b := true) rfl rfl).run ?_); clear hE a; intro a hE
        refine l_step rfl (o_pure hE rfl rfl (p_move rfl).run ?_); clear hE a; intro a hE
        refine l_skip hE rfl rfl rfl ?_; clear hE a; intro a hE
        refine l_skip hE rfl rfl rfl ?_; clear hE a; intro a hE
        refine l_skip hE rfl rfl rfl ?_; clear hE a; intro a hE
        refine l_skip hE rfl rfl rfl ?_; clear hE a; intro a hE
        refine l_skip hE rfl rfl rfl ?_; clear hE a; intro a hE
        refine l_step rfl (o_pure hE rfl rfl (p_pick (b := false) rfl rfl).run ?_); clear hE a; intro a hE
        refine l_step rfl (o_pure hE rfl rfl (p_move rfl).run ?_); clear hE a; intro a hE
        refine l_skip hE rfl rfl rfl ?_; clear hE a; intro a hE
        refine l_skip hE rfl rfl rfl ?_; clear hE a; intro a hE
        refine l_skip hE rfl rfl rfl ?_; clear hE a; intro a hE
        refine l_skip hE rfl rfl rfl ?_; clear hE a; intro a hE
        refine l_skip hE rfl rfl rfl ?_; clear hE a; intro a hE
        refine l_step rfl (o_pure hE rfl rfl (p_pick (b := false) rfl rfl).run ?_); clear hE a; intro a hE
        refine l_step rfl (o_pure hE rfl rfl (p_assign rfl).run ?_); clear hE a; intro a hE
        refine wpList_nil ?_
        refine then_normal ?_
        refine wp_ret ?_
        refine ret1 rfl hE rfl ?_
        exact ⟨by simp [*], hI.drop.drop⟩
    · skip
      refine l_step rfl (o_pure hE rfl rfl (p_assign rfl).run ?_); clear hE a; intro a hE
      refine wpList_nil ?_
      refine then_normal ?_
      refine wp_seq ?_
      refine wp_region_list ?_   -- region 3
      refine l_step rfl (o_pure hE rfl rfl (p_move rfl).run ?_); clear hE a; intro a hE
      refine l_step rfl (o_pure hE rfl rfl (p_move rfl).run ?_); clear hE a; intro a hE
      refine l_go hE rfl (o_pure hE rfl rfl (p_move rfl).run ?_); clear hE a; intro a hE
      refine l_step rfl (o_pure hE rfl rfl (p_pick (b := true) rfl rfl).run ?_); clear hE a; intro a hE
      refine l_step rfl (o_pure hE rfl rfl (p_move rfl).run ?_); clear hE a; intro a hE
      refine l_skip hE rfl rfl rfl ?_; clear hE a; intro a hE
      refine l_skip hE rfl rfl rfl ?_; clear hE a; intro a hE
      refine l_skip hE rfl rfl rfl ?_; clear hE a; intro a hE
      refine l_skip hE rfl rfl rfl ?_; clear hE a; intro a hE
      refine l_skip hE rfl rfl rfl ?_; clear hE a; intro a hE
      refine l_step rfl (o_pure hE rfl rfl (p_pick (b := false) rfl rfl).run ?_); clear hE a; intro a hE
      refine l_step rfl (o_pure hE rfl rfl (p_move rfl).run ?_); clear hE a; intro a hE
      refine l_skip hE rfl rfl rfl ?_; clear hE a; intro a hE
      refine l_skip hE rfl rfl rfl ?_; clear hE a; intro a hE
      refine l_skip hE rfl rfl rfl ?_; clear hE a; intro a hE
      refine l_skip hE rfl rfl rfl ?_; clear hE a; intro a hE
      refine l_skip hE rfl rfl rfl ?_; clear hE a; intro a hE
      refine l_step rfl (o_pure hE rfl rfl (p_pick (b := false) rfl rfl).run ?_); clear hE a; intro a hE
      refine l_step rfl (o_pure hE rfl rfl (p_move rfl).run ?_); clear hE a; intro a hE
      refine l_skip hE rfl rfl rfl ?_; clear hE a; intro a hE
      refine l_skip hE rfl rfl rfl ?_; clear hE a; intro a hE
      refine l_skip hE rfl rfl rfl ?_; clear hE a; intro a hE
      refine l_skip hE rfl rfl rfl ?_; clear hE a; intro a hE
      refine l_skip hE rfl rfl rfl ?_; clear hE a; intro a hE
      refine l_step rfl (o_pure hE rfl rfl (p_pick (b := false) rfl rfl).run ?_); clear hE a; intro a hE
      refine l_step rfl (o_pure hE rfl rfl (p_assign rfl).run ?_); clear hE a; intro a hE
      refine wpList_nil ?_
      refine then_normal ?_
      refine wp_ret ?_
      refine ret1 rfl hE rfl ?_
      exact ⟨by simp [*], hI.drop.drop⟩
  · skip
    refine l_step rfl (o_pure hE rfl rfl (p_assign rfl).run ?_); clear hE a; intro a hE
    refine wpList_nil ?_
    refine then_normal ?_
    refine wp_seq ?_
    refine wp_region_list ?_   -- region 2
    refine l_step rfl (o_pure hE rfl rfl (p_fieldAddr (m := 4) rfl fo_40_4 rfl).run ?_); clear hE a; intro a hE
    refine l_step rfl (o_pure hE rfl rfl (f_load rfl scal_22 (hI.seg 1 rfl) rfl) ?_); clear hE a; intro a hE
    refine l_step rfl (o_pure hE rfl rfl (p_fieldAddr (m := 4) rfl fo_40_4 rfl).run ?_); clear hE a; intro a hE
    refine l_step rfl (o_pure hE rfl rfl (f_load rfl scal_22 (hI.seg 0 rfl) rfl) ?_); clear hE a; intro a hE
    refine l_step rfl (o_call hE rfl rfl rfl rfl ent_18 (SameBytes_spec hI hv hv' (by omega)) ?_)
    clear hI hE a
    rintro r w h a hE; rcases h with ⟨rfl, h2, hI⟩ | ⟨rfl, h2, hI⟩
    · skip
      refine l_step rfl (o_pure hE rfl rfl (p_assign rfl).run ?_); clear hE a; intro a hE
      refine wpList_nil ?_
      refine then_normal ?_
      refine wp_seq ?_
      refine wp_region_list ?_   -- region 3
      refine l_step rfl (o_pure hE rfl rfl (p_move rfl).run ?_); clear hE a; intro a hE
      refine l_step rfl (o_pure hE rfl rfl (p_move rfl).run ?_); clear hE a; intro a hE
      refine l_skip hE rfl rfl rfl ?_; clear hE a; intro a hE
      refine l_step rfl (o_pure hE rfl rfl (p_pick (b := false) rfl rfl).run ?_); clear hE a; intro a hE
      refine l_step rfl (o_pure hE rfl rfl (p_move rfl).run ?_); clear hE a; intro a hE
      refine l_skip hE rfl rfl rfl ?_; clear hE a; intro a hE
      refine l_skip hE rfl rfl rfl ?_; clear hE a; intro a hE
      refine l_skip hE rfl rfl rfl ?_; clear hE a; intro a hE
      refine l_skip hE rfl rfl rfl ?_; clear hE a; intro a hE
      refine l_skip hE rfl rfl rfl ?_; clear hE a; intro a hE
      refine l_step rfl (o_pure hE rfl rfl (p_pick (b := false) rfl rfl).run ?_); clear hE a; intro a hE
      refine l_step rfl (o_pure hE rfl rfl (p_move rfl).run ?_); clear hE a; intro a hE
      refine l_skip hE rfl rfl rfl ?_; clear hE a; intro a hE
      refine l_skip hE rfl rfl rfl ?_; clear hE a; intro a hE
      refine l_skip hE rfl rfl rfl ?_; clear hE a; intro a hE
      refine l_skip hE rfl rfl rfl ?_; clear hE a; intro a hE
      refine l_skip hE rfl rfl rfl ?_; clear hE a; intro a hE
      refine l_step rfl (o_pure hE rfl rfl (p_pick (b := false) rfl rfl).run ?_); clear hE a; intro a hE
      refine l_step rfl (o_pure hE rfl rfl (p_move rfl).run ?_); clear hE a; intro a hE
      refine l_skip hE rfl rfl rfl ?_; clear hE a; intro a hE
      refine l_skip hE rfl rfl rfl ?_; clear hE a; intro a hE
      refine l_skip hE rfl rfl rfl ?_; clear hE a; intro a hE
      refine l_skip hE rfl rfl rfl ?_; clear hE a; intro a hE
      refine l_skip hE rfl rfl rfl ?_; clear hE a; intro a hE
      refine l_step rfl (o_pure hE rfl rfl (p_pick (b := false) rfl rfl).run ?_); clear hE a; intro a hE
      refine l_step rfl (o_pure hE rfl rfl (p_assign rfl).run ?_); clear hE a; intro a hE
      refine wpList_nil ?_
      refine then_normal ?_
      refine wp_ret ?_
      refine ret1 rfl hE rfl ?_
      exact ⟨by simp [*], hI.drop.drop⟩
    · skip
      refine l_step rfl (o_pure hE rfl rfl (p_assign rfl).run ?_); clear hE a; intro a hE
      refine wpList_nil ?_
      refine then_normal ?_
      refine wp_seq ?_
      refine wp_region_list ?_   -- region 3
      refine l_step rfl (o_pure hE rfl rfl (p_move rfl).run ?_); clear hE a; intro a hE
      refine l_step rfl (o_pure hE rfl rfl (p_move rfl).run ?_); clear hE a; intro a hE
      refine l_skip hE rfl rfl rfl ?_; clear hE a; intro a hE
      refine l_step rfl (o_pure hE rfl rfl (p_pick (b := false) rfl rfl).run ?_); clear hE a; intro a hE
      refine l_step rfl (o_pure hE rfl rfl (p_move rfl).run ?_); clear hE a; intro a hE
      refine l_skip hE rfl rfl rfl ?_; clear hE a; intro a hE
      refine l_skip hE rfl rfl rfl ?_; clear hE a; intro a hE
      refine l_skip hE rfl rfl rfl ?_; clear hE a; intro a hE
      refine l_skip hE rfl rfl rfl ?_; clear hE a; intro a hE
      refine l_skip hE rfl rfl rfl ?_; clear hE a; intro a hE
      refine l_step rfl (o_pure hE rfl rfl (p_pick (b := false) rfl rfl).run ?_); clear hE a; intro a hE
      refine l_step rfl (o_pure hE rfl rfl (p_move rfl).run ?_); clear hE a; intro a hE
      refine l_skip hE rfl rfl rfl ?_; clear hE a; intro a hE
      refine l_skip hE rfl rfl rfl ?_; clear hE a; intro a hE
      refine l_skip hE rfl rfl rfl ?_; clear hE a; intro a hE
      refine l_skip hE rfl rfl rfl ?_; clear hE a; intro a hE
      refine l_skip hE rfl rfl rfl ?_; clear hE a; intro a hE
      refine l_step rfl (o_pure hE rfl rfl (p_pick (b := false) rfl rfl).run ?_); clear hE a; intro a hE
      refine l_step rfl (o_pure hE rfl rfl (p_move rfl).run ?_); clear hE a; intro a hE
      refine l_skip hE rfl rfl rfl ?_; clear hE a; intro a hE
      refine l_skip hE rfl rfl rfl ?_; clear hE a; intro a hE
      refine l_skip hE rfl rfl rfl ?_; clear hE a; intro a hE
      refine l_skip hE rfl rfl rfl ?_; clear hE a; intro a hE
      refine l_skip hE rfl rfl rfl ?_; clear hE a; intro a hE
      refine l_step rfl (o_pure hE rfl rfl (p_pick (b := false) rfl rfl).run ?_); clear hE a; intro a hE
      refine l_step rfl (o_pure hE rfl rfl (p_assign rfl).run ?_); clear hE a; intro a hE
      refine wpList_nil ?_
      refine then_normal ?_
      refine wp_ret ?_
      refine ret1 rfl hE rfl ?_
      exact ⟨by simp [*], hI.drop.drop⟩

theorem refBytes_spec {w0 w : World} {D : Sto} {ss : List Seg} (hI : Inv w0 D ss w) {vb : Value} {bs : List Nat} (hb : RB D vb bs) (hm : bs.length ≤ 140737488355000) :
    Calls Tryd.prog 27 #[vb] w (Ret fun r w' => ∃ s, OB r bs s ∧ Inv w0 D (s :: ss) w') := by
  obtain ⟨A1, c2, rfl, _⟩ := hb.slice
  refine enter (N := 22) Tryd.func27 rfl rfl rfl ?_
  intro a hE
  refine wp_seq ?_
  refine wp_region_list ?_   -- region 0
  refine l_step rfl (o_pure hE rfl rfl (p_assign rfl).run ?_); clear hE a; intro a hE
  refine wpList_nil ?_
  refine then_normal ?_
  refine wp_seq ?_
  refine wp_region_list ?_   -- region 1
  refine l_step rfl (o_pure hE rfl rfl (p_move rfl).run ?_); clear hE a; intro a hE
  refine l_step rfl (o_pure hE rfl rfl (p_len rfl rfl Tryd.underlying22).run ?_); clear hE a; intro a hE
  refine l_step rfl (f_make hE hI rfl rfl rfl rfl rfl Tryd.underlying22 zsb_5 (by omega) (by omega) (by omega) (by omega) ?_)
  clear hI hE a w; intro a b3 w hE hI
  refine l_step rfl (o_pure hE rfl rfl (p_assign rfl).run ?_); clear hE a; intro a hE
  refine wpList_nil ?_
  refine then_normal ?_
  refine wp_seq ?_
  refine wp_seq ?_
  refine wp_region_list ?_   -- region 2
  refine l_step rfl (o_pure hE rfl rfl (p_assign rfl).run ?_); clear hE a; intro a hE
  refine wpList_nil ?_
  refine then_normal ?_
  refine wp_block ?_
  refine c_loop (X := Nat × Value × Seg) (fun x => [(0, _), (3, x.2.1), (4, .int .i64 (x.1 : Nat))]) (fun x w => x.1 ≤ bs.length ∧ Row 5 1 x.2.1 x.1 (bytesV (bs.take x.1)) x.2.2 ∧ Inv w0 D (x.2.2 :: ss) w) (fun x => bs.length - x.1) (0, _, _) (hE.pick [0, 3, 4]) ⟨Nat.zero_le _, Row.cast (Row.made (l := 0) (c := bs.length) rfl (Nat.zero_le _) (by omega)) rfl rfl, hI⟩ ?_
  clear hE hI a w
  rintro ⟨i, v, s⟩ a w hE ⟨hi, hR, hI⟩
  try dsimp only at hE
  try dsimp only at hi
  try dsimp only at hR
  try dsimp only at hI
  obtain ⟨A1, c1, rfl, _⟩ := hR.slice
  refine wp_seq ?_
  refine wp_seq ?_
  refine wp_region_list ?_   -- region 3
  refine l_step rfl (o_pure hE rfl rfl (p_move rfl).run ?_); clear hE a; intro a hE
  refine l_step rfl (o_pure hE rfl rfl (p_move rfl).run ?_); clear hE a; intro a hE
  refine l_step rfl (o_pure hE rfl rfl (p_len rfl rfl Tryd.underlying22).run ?_); clear hE a; intro a hE
  refine l_step rfl (o_cmp hE rfl rfl rfl rfl rfl rfl ?_ ?_)
  · intro hlt; replace hlt := lss_t hlt; clear hE a; intro a hE
    refine wpList_nil ?_
    refine then_normal ?_
    refine c_true hE rfl ?_
    refine wp_skip ?_
    refine then_normal ?_
    refine wp_seq ?_
    refine wp_block ?_
    refine wp_region_list ?_   -- region 5
    refine l_step rfl (o_pure hE rfl rfl (p_move rfl).run ?_); clear hE a; intro a hE
    refine l_step rfl (o_pure hE rfl rfl (p_move rfl).run ?_); clear hE a; intro a hE
    refine l_step rfl (o_pure hE rfl rfl (p_move rfl).run ?_); clear hE a; intro a hE
    obtain ⟨b_4, o_4, cs_4, T_4, fr_4, rfl, hb_4, hc_4⟩ := hb.at_ (List.ne_nil_of_length_pos (by omega))
    refine l_step rfl (o_pure hE rfl rfl (p_indexAddr rfl rfl Tryd.underlying22 sz_5 (by omega) (by omega) rfl).run ?_); clear hE a; intro a hE
    refine l_step rfl (o_pure hE rfl rfl (r_load rfl scal_5 (hI.data _ _ (hb_4)) (RB.cell hc_4 (by omega) (by omega))) ?_); clear hE a; intro a hE
    refine l_step rfl (f_lit (vs := [(0, _)]) (l := [_]) hE hI rfl rfl rfl rfl Tryd.underlying22 zs_5 rfl rfl rfl ?_)
    clear hI hE a w; intro a b5 w hE hI
    refine l_step rfl (o_append 1 hE hI rfl rfl rfl rfl rfl Tryd.underlying22 zsb_5 rfl rfl rfl hR (by rfl) (lit_news (hI.seg 0 rfl)) (by simp [Value.oneCell']) (by omega) (by omega) ?_)
    clear hI hE a w; intro v6 s7 w hR8 hI a hE
    obtain ⟨A9, c10, rfl, _⟩ := hR8.slice
    replace hI := hI.erase 0
    try simp only [splice, insAt, List.set_cons_succ, List.set_cons_zero, List.setIfInBounds_toArray, Value.cells, List.eraseIdx_cons_succ, List.eraseIdx_cons_zero, List.eraseIdx_zero, List.tail_cons] at hI
    refine l_step rfl (o_pure hE rfl rfl (p_assign rfl).run ?_); clear hE a; intro a hE
    refine wpList_nil ?_
    refine blk_normal ?_
    refine then_normal ?_
    refine wp_region_list ?_   -- region 4
    refine l_step rfl (o_pure hE rfl rfl (p_move rfl).run ?_); clear hE a; intro a hE
    refine l_step rfl (o_pure hE rfl rfl (p_arith (z := ((i + 1 : Nat) : Int)) rfl rfl (add_z (by omega) (by omega) (by omega))).run ?_); clear hE a; intro a hE
    refine l_step rfl (o_pure hE rfl rfl (p_assign rfl).run ?_); clear hE a; intro a hE
    refine wpList_nil ?_
    refine then_normal ?_
    exact ⟨(i + 1, _, _), hE.pick [0, 3, 4], ⟨by show i + 1 ≤ bs.length; omega, Row.cast hR8 (bytes_step (by omega)) rfl, hI⟩, by show bs.length - (i + 1) < bs.length - i; omega⟩
  · intro hlt; replace hlt := lss_f hlt; clear hE a; intro a hE
    refine wpList_nil ?_
    refine then_normal ?_
    refine c_false hE rfl ?_
    refine wp_exit ?_
    refine then_exit ?_
    refine then_exit ?_
    refine blk_same ?_
    refine then_normal ?_
    refine wp_seq ?_
    refine wp_region_list ?_   -- region 6
    refine l_step rfl (o_pure hE rfl rfl (p_move rfl).run ?_); clear hE a; intro a hE
    refine l_step rfl (o_pure hE rfl rfl (p_assign rfl).run ?_); clear hE a; intro a hE
    refine wpList_nil ?_
    refine then_normal ?_
    refine wp_ret ?_
    refine ret1 rfl hE rfl ?_
    obtain rfl : i = bs.length := by omega
    exact ⟨_, Row.cast hR (by rw [List.take_length]) rfl, hI⟩

theorem said_spec {w0 w : World} {D : Sto} {ss : List Seg} (hI : Inv w0 D ss w) {vb : Value} {bs : List Nat} (hb : RB D vb bs) :
    Calls Tryd.prog 58 #[vb] w (Ret fun r w' => ((∃ t n, saidL bs = some (t, n) ∧ r = .tuple #[.int .i64 t, .int .i64 n, .bool true]) ∨ (saidL bs = none ∧ r = .tuple #[.int .i64 0, .int .i64 0, .bool false])) ∧ Inv w0 D ss w') := by
  obtain ⟨A1, c2, rfl, _⟩ := hb.slice
  refine enter (N := 48) Tryd.func58 rfl rfl rfl ?_
  intro a hE
  refine wp_seq ?_
  refine wp_region_list ?_   -- region 0
  refine l_step rfl (o_pure hE rfl rfl (p_assign rfl).run ?_); clear hE a; intro a hE
  refine l_step rfl (o_pure hE rfl rfl (p_assign rfl).run ?_); clear hE a; intro a hE
  refine l_step rfl (o_pure hE rfl rfl (p_assign rfl).run ?_); clear hE a; intro a hE
  refine wpList_nil ?_
  refine then_normal ?_
  refine wp_seq ?_
  refine wp_seq ?_
  refine wp_region_list ?_   -- region 1
  refine l_step rfl (o_pure hE rfl rfl (p_move rfl).run ?_); clear hE a; intro a hE
  refine l_step rfl (o_pure hE rfl rfl (p_len rfl rfl Tryd.underlying22).run ?_); clear hE a; intro a hE
  refine l_step rfl (o_cmp hE rfl rfl rfl rfl rfl rfl ?_ ?_)
  · intro hl; replace hl := neq_t hl; clear hE a; intro a hE
    refine l_step rfl (o_pure hE rfl rfl (p_move rfl).run ?_); clear hE a; intro a hE
    refine l_skip hE rfl rfl rfl ?_; clear hE a; intro a hE
    refine l_skip hE rfl rfl rfl ?_; clear hE a; intro a hE
    refine l_skip hE rfl rfl rfl ?_; clear hE a; intro a hE
    refine l_skip hE rfl rfl rfl ?_; clear hE a; intro a hE
    refine l_step rfl (o_pure hE rfl rfl (p_pick (b := true) rfl rfl).run ?_); clear hE a; intro a hE
    refine wpList_nil ?_
    refine then_normal ?_
    refine c_true hE rfl ?_
    refine wp_seq ?_
    refine wp_region_list ?_   -- region 2
    refine l_step rfl (o_pure hE rfl rfl (p_assign rfl).run ?_); clear hE a; intro a hE
    refine l_step rfl (o_pure hE rfl rfl (p_assign rfl).run ?_); clear hE a; intro a hE
    refine l_step rfl (o_pure hE rfl rfl (p_assign rfl).run ?_); clear hE a; intro a hE
    refine wpList_nil ?_
    refine then_normal ?_
    refine wp_ret ?_
    refine then_ret ?_
    refine ret3 rfl hE rfl rfl rfl ?_
    refine ⟨.inr ⟨?_, rfl⟩, hI⟩
    unfold saidL
    first
      | rw [if_neg (by rintro ⟨h, _⟩; omega)]
      | rw [if_neg (by rintro ⟨_, h⟩; exact zero_ne h0 h)]
      | (split
         · rw [if_neg (by omega)]
         · rfl)
  · intro hl; replace hl := neq_f hl; clear hE a; intro a hE
    refine l_step rfl (o_pure hE rfl rfl (p_move rfl).run ?_); clear hE a; intro a hE
    refine l_go hE rfl (o_pure hE rfl rfl (p_move rfl).run ?_); clear hE a; intro a hE
    obtain ⟨b_3, o_3, cs_3, T_3, fr_3, rfl, hb_3, hc_3⟩ := hb.at_ (List.ne_nil_of_length_pos (by omega))
    refine l_go hE rfl (o_pure hE rfl rfl (p_indexAddr rfl rfl Tryd.underlying22 sz_5 (by omega) (by omega) rfl).run ?_); clear hE a; intro a hE
    refine l_go hE rfl (o_pure hE rfl rfl (r_load rfl scal_5 (hI.data _ _ (hb_3)) (RB.cell hc_3 (by omega) (by omega))) ?_); clear hE a; intro a hE
    refine l_go hE rfl (o_cmp hE rfl rfl rfl rfl rfl rfl ?_ ?_)
    · intro h0; replace h0 := neq_t h0; clear hE a; intro a hE
      refine l_step rfl (o_pure hE rfl rfl (p_pick (b := false) rfl rfl).run ?_); clear hE a; intro a hE
      refine wpList_nil ?_
      refine then_normal ?_
      refine c_true hE rfl ?_
      refine wp_seq ?_
      refine wp_region_list ?_   -- region 2
      refine l_step rfl (o_pure hE rfl rfl (p_assign rfl).run ?_); clear hE a; intro a hE
      refine l_step rfl (o_pure hE rfl rfl (p_assign rfl).run ?_); clear hE a; intro a hE
      refine l_step rfl (o_pure hE rfl rfl (p_assign rfl).run ?_); clear hE a; intro a hE
      refine wpList_nil ?_
      refine then_normal ?_
      refine wp_ret ?_
      refine then_ret ?_
      refine ret3 rfl hE rfl rfl rfl ?_
      refine ⟨.inr ⟨?_, rfl⟩, hI⟩
      unfold saidL
      first
        | rw [if_neg (by rintro ⟨h, _⟩; omega)]
        | rw [if_neg (by rintro ⟨_, h⟩; exact zero_ne h0 h)]
        | (split
           · rw [if_neg (by omega)]
           · rfl)
    · intro h0; replace h0 := neq_f h0; clear hE a; intro a hE
      refine l_step rfl (o_pure hE rfl rfl (p_pick (b := false) rfl rfl).run ?_); clear hE a; intro a hE
      refine wpList_nil ?_
      refine then_normal ?_
      refine c_false hE rfl ?_
      refine wp_skip ?_
      refine then_normal ?_
      refine wp_seq ?_
      refine wp_region_list ?_   -- region 3
      refine l_step rfl (o_pure hE rfl rfl (p_assign rfl).run ?_); clear hE a; intro a hE
      refine wpList_nil ?_
      refine then_normal ?_
      refine wp_seq ?_
      refine wp_seq ?_
      refine wp_region_list ?_   -- region 4
      refine l_step rfl (o_pure hE rfl rfl (p_move rfl).run ?_); clear hE a; intro a hE
      refine l_step rfl (o_sliceRB (l := 1) (h := 9) hE rfl rfl rfl rfl Tryd.underlying22 sz_5 (rfl) (rfl) (hb) (by omega) (by omega) ?_)
      clear hE a; intro A4 c5 hs_ a hE
      have e8 : ((bs.drop 1).take (9 - 1)).length = 8 := by simp; omega
      refine l_step rfl (o_pure hE rfl rfl (p_len rfl rfl Tryd.underlying22).run ?_); clear hE a; intro a hE
      refine l_step rfl (o_pure hE rfl rfl (p_move rfl).run ?_); clear hE a; intro a hE
      refine wpList_nil ?_
      refine then_normal ?_
      refine wp_block ?_
      refine c_loop (X := Nat) (fun x => [(0, _), (5, .int .u64 (valL (((bs.drop 1).take 8).take x) : Nat)), (19, _), (20, .int .i64 (((bs.drop 1).take (9 - 1)).length : Nat)), (21, .int .i64 (x : Nat))]) (fun x w => x ≤ 8 ∧ Inv w0 D ss w) (fun x => 8 - x) 0 (hE.pick [0, 5, 19, 20, 21]) ⟨by omega, hI⟩ ?_
      clear hE hI a w
      rintro i a w hE ⟨hi, hI⟩
      try dsimp only at hE
      try dsimp only at hi
      try dsimp only at hI
      refine wp_seq ?_
      refine wp_region_list ?_   -- region 5
      refine l_step rfl (o_cmp hE rfl rfl rfl rfl rfl rfl ?_ ?_)
      · intro hlt; replace hlt := lss_t hlt; clear hE a; intro a hE
        refine wpList_nil ?_
        refine then_normal ?_
        refine wp_seq ?_
        refine c_true hE rfl ?_
        refine wp_skip ?_
        refine then_normal ?_
        refine wp_seq ?_
        refine wp_block ?_
        refine wp_seq ?_
        refine wp_region_list ?_   -- region 6
        obtain ⟨b_6, o_6, cs_6, T_6, fr_6, rfl, hb_6, hc_6⟩ := hs_.at_ (List.ne_nil_of_length_pos (by omega))
        refine l_step rfl (o_pure hE rfl rfl (p_indexAddr rfl rfl Tryd.underlying22 sz_5 (by omega) (by omega) rfl).run ?_); clear hE a; intro a hE
        refine l_step rfl (o_pure hE rfl rfl (r_load rfl scal_5 (hI.data _ _ (hb_6)) (RB.cell hc_6 (by omega) (by omega))) ?_); clear hE a; intro a hE
        refine l_step rfl (o_pure hE rfl rfl (p_assign rfl).run ?_); clear hE a; intro a hE
        refine wpList_nil ?_
        refine then_normal ?_
        have hv8 := val_take8 hb.lt (k := i) (by omega)
        have hcb : ((bs.drop 1).take (9 - 1)).getD ((i : Nat) : Int).toNat 0 < 256 := getD_lt hs_.lt _
        have hst := val_take_step (l := (bs.drop 1).take 8) (i := i) (by rw [e8]; omega)
        refine wp_region_list ?_   -- region 7
        refine l_step rfl (o_pure hE rfl rfl (p_move rfl).run ?_); clear hE a; intro a hE
        refine l_step rfl (o_pure hE rfl rfl (p_shl (z := ((valL (((bs.drop 1).take 8).take i) * 256 : Nat) : Int)) rfl rfl (by omega) (shl8 hv8)).run ?_); clear hE a; intro a hE
        refine l_step rfl (o_pure hE rfl rfl (p_move rfl).run ?_); clear hE a; intro a hE
        refine l_step rfl (o_pure hE rfl rfl (p_int (z := _) Tryd.underlying5 Tryd.underlying154 rfl (u64_small hcb)).run ?_); clear hE a; intro a hE
        refine l_step rfl (o_pure hE rfl rfl (p_arith (z := ((valL (((bs.drop 1).take 8).take (i + 1)) : Nat) : Int)) rfl rfl (or_byte hv8 hcb hst)).run ?_); clear hE a; intro a hE
        refine l_step rfl (o_pure hE rfl rfl (p_assign rfl).run ?_); clear hE a; intro a hE
        refine wpList_nil ?_
        refine blk_normal ?_
        refine then_normal ?_
        refine wp_region_list ?_   -- region 8
        refine l_step rfl (o_pure hE rfl rfl (p_arith (z := ((i + 1 : Nat) : Int)) rfl rfl (add_z (by omega) (by omega) (by omega))).run ?_); clear hE a; intro a hE
        refine l_step rfl (o_pure hE rfl rfl (p_move rfl).run ?_); clear hE a; intro a hE
        refine wpList_nil ?_
        refine then_normal ?_
        exact ⟨i + 1, hE.pick [0, 5, 19, 20, 21], ⟨by show i + 1 ≤ 8; omega, hI⟩, by show 8 - (i + 1) < 8 - i; omega⟩
      · intro hlt; replace hlt := lss_f hlt; clear hE a; intro a hE
        refine wpList_nil ?_
        refine then_normal ?_
        refine wp_seq ?_
        refine c_false hE rfl ?_
        refine wp_exit ?_
        refine then_exit ?_
        refine then_exit ?_
        refine blk_same ?_
        refine then_normal ?_
        refine wp_seq ?_
        obtain rfl : i = 8 := by omega
        have e9 : ((bs.drop 1).take 8).take 8 = (bs.drop 1).take 8 := List.take_of_length_le (by rw [e8]; omega)
        rw [e9] at hE
        have h9 : bs.getD 9 0 < 256 := getD_lt hb.lt _
        refine wp_region_list ?_   -- region 9
        refine l_step rfl (o_pure hE rfl rfl (p_move rfl).run ?_); clear hE a; intro a hE
        refine l_step rfl (o_pure hE rfl rfl (p_indexAddr rfl rfl Tryd.underlying22 sz_5 (by omega) (by omega) rfl).run ?_); clear hE a; intro a hE
        refine l_step rfl (o_pure hE rfl rfl (r_load rfl scal_5 (hI.data _ _ (hb_3)) (RB.cell hc_3 (by omega) (by omega))) ?_); clear hE a; intro a hE
        refine l_step rfl (o_pure hE rfl rfl (p_int (z := ((bs.getD 9 0 : Nat) : Int)) Tryd.underlying5 Tryd.underlying3 rfl (i64_nat (by omega))).run ?_); clear hE a; intro a hE
        refine l_step rfl (o_pure hE rfl rfl (p_assign rfl).run ?_); clear hE a; intro a hE
        refine wpList_nil ?_
        refine then_normal ?_
        refine wp_seq ?_
        refine wp_seq ?_
        refine wp_region_list ?_   -- region 10
        refine l_step rfl (o_pure hE rfl rfl (p_move rfl).run ?_); clear hE a; intro a hE
        refine l_step rfl (o_cmp hE rfl rfl rfl rfl rfl rfl ?_ ?_)
        · intro h1; replace h1 := lss_t h1; clear hE a; intro a hE
          refine l_step rfl (o_pure hE rfl rfl (p_move rfl).run ?_); clear hE a; intro a hE
          refine l_skip hE rfl rfl rfl ?_; clear hE a; intro a hE
          refine l_skip hE rfl rfl rfl ?_; clear hE a; intro a hE
          refine l_step rfl (o_pure hE rfl rfl (p_pick (b := true) rfl rfl).run ?_); clear hE a; intro a hE
          refine l_step rfl (o_pure hE rfl rfl (p_move rfl).run ?_); clear hE a; intro a hE
          refine l_skip hE rfl rfl rfl ?_; clear hE a; intro a hE
          refine l_skip hE rfl rfl rfl ?_; clear hE a; intro a hE
          refine l_step rfl (o_pure hE rfl rfl (p_pick (b := true) rfl rfl).run ?_); clear hE a; intro a hE
          refine wpList_nil ?_
          refine then_normal ?_
          refine c_true hE rfl ?_
          refine wp_seq ?_
          refine wp_region_list ?_   -- region 11
          refine l_step rfl (o_pure hE rfl rfl (p_assign rfl).run ?_); clear hE a; intro a hE
          refine l_step rfl (o_pure hE rfl rfl (p_assign rfl).run ?_); clear hE a; intro a hE
          refine l_step rfl (o_pure hE rfl rfl (p_assign rfl).run ?_); clear hE a; intro a hE
          refine wpList_nil ?_
          refine then_normal ?_
          refine wp_ret ?_
          refine then_ret ?_
          refine ret3 rfl hE rfl rfl rfl ?_
          refine ⟨.inr ⟨?_, rfl⟩, hI⟩
          unfold saidL
          first
            | rw [if_neg (by rintro ⟨h, _⟩; omega)]
            | rw [if_neg (by rintro ⟨_, h⟩; exact zero_ne h0 h)]
            | (split
               · rw [if_neg (by omega)]
               · rfl)
        · intro h1; replace h1 := lss_f h1; clear hE a; intro a hE
          refine l_step rfl (o_pure hE rfl rfl (p_move rfl).run ?_); clear hE a; intro a hE
          refine l_go hE rfl (o_pure hE rfl rfl (p_move rfl).run ?_); clear hE a; intro a hE
          refine l_go hE rfl (o_cmp hE rfl rfl rfl rfl rfl rfl ?_ ?_)
          · intro h2; replace h2 := gtr_t h2; clear hE a; intro a hE
            refine l_step rfl (o_pure hE rfl rfl (p_pick (b := false) rfl rfl).run ?_); clear hE a; intro a hE
            refine l_step rfl (o_pure hE rfl rfl (p_move rfl).run ?_); clear hE a; intro a hE
            refine l_skip hE rfl rfl rfl ?_; clear hE a; intro a hE
            refine l_skip hE rfl rfl rfl ?_; clear hE a; intro a hE
            refine l_step rfl (o_pure hE rfl rfl (p_pick (b := true) rfl rfl).run ?_); clear hE a; intro a hE
            refine wpList_nil ?_
            refine then_normal ?_
            refine c_true hE rfl ?_
            refine wp_seq ?_
            refine wp_region_list ?_   -- region 11
            refine l_step rfl (o_pure hE rfl rfl (p_assign rfl).run ?_); clear hE a; intro a hE
            refine l_step rfl (o_pure hE rfl rfl (p_assign rfl).run ?_); clear hE a; intro a hE
            refine l_step rfl (o_pure hE rfl rfl (p_assign rfl).run ?_); clear hE a; intro a hE
            refine wpList_nil ?_
            refine then_normal ?_
            refine wp_ret ?_
            refine then_ret ?_
            refine ret3 rfl hE rfl rfl rfl ?_
            refine ⟨.inr ⟨?_, rfl⟩, hI⟩
            unfold saidL
            first
              | rw [if_neg (by rintro ⟨h, _⟩; omega)]
              | rw [if_neg (by rintro ⟨_, h⟩; exact zero_ne h0 h)]
              | (split
                 · rw [if_neg (by omega)]
                 · rfl)
          · intro h2; replace h2 := gtr_f h2; clear hE a; intro a hE
            refine l_step rfl (o_pure hE rfl rfl (p_pick (b := false) rfl rfl).run ?_); clear hE a; intro a hE
            refine l_step rfl (o_pure hE rfl rfl (p_move rfl).run ?_); clear hE a; intro a hE
            refine l_go hE rfl (o_pure hE rfl rfl (p_move rfl).run ?_); clear hE a; intro a hE
            refine l_go hE rfl (o_cmp hE rfl rfl rfl rfl rfl rfl ?_ ?_)
            · intro h3; replace h3 := geq_t h3; clear hE a; intro a hE
              refine l_step rfl (o_pure hE rfl rfl (p_pick (b := false) rfl rfl).run ?_); clear hE a; intro a hE
              refine wpList_nil ?_
              refine then_normal ?_
              refine c_true hE rfl ?_
              refine wp_seq ?_
              refine wp_region_list ?_   -- region 11
              refine l_step rfl (o_pure hE rfl rfl (p_assign rfl).run ?_); clear hE a; intro a hE
              refine l_step rfl (o_pure hE rfl rfl (p_assign rfl).run ?_); clear hE a; intro a hE
              refine l_step rfl (o_pure hE rfl rfl (p_assign rfl).run ?_); clear hE a; intro a hE
              refine wpList_nil ?_
              refine then_normal ?_
              refine wp_ret ?_
              refine then_ret ?_
              refine ret3 rfl hE rfl rfl rfl ?_
              refine ⟨.inr ⟨?_, rfl⟩, hI⟩
              unfold saidL
              first
                | rw [if_neg (by rintro ⟨h, _⟩; omega)]
                | rw [if_neg (by rintro ⟨_, h⟩; exact zero_ne h0 h)]
                | (split
                   · rw [if_neg (by omega)]
                   · rfl)
            · intro h3; replace h3 := geq_f h3; clear hE a; intro a hE
              refine l_step rfl (o_pure hE rfl rfl (p_pick (b := false) rfl rfl).run ?_); clear hE a; intro a hE
              refine wpList_nil ?_
              refine then_normal ?_
              refine c_false hE rfl ?_
              refine wp_skip ?_
              refine then_normal ?_
              refine wp_seq ?_
              refine wp_region_list ?_   -- region 12
              refine l_step rfl (o_pure hE rfl rfl (p_move rfl).run ?_); clear hE a; intro a hE
              refine l_step rfl (o_pure hE rfl rfl (p_int (z := ((valL ((bs.drop 1).take 8) : Nat) : Int)) Tryd.underlying154 Tryd.underlying2 rfl (i64_nat (by omega))).run ?_); clear hE a; intro a hE
              refine l_step rfl (o_pure hE rfl rfl (p_move rfl).run ?_); clear hE a; intro a hE
              refine l_step rfl (o_pure hE rfl rfl (p_assign rfl).run ?_); clear hE a; intro a hE
              refine l_step rfl (o_pure hE rfl rfl (p_assign rfl).run ?_); clear hE a; intro a hE
              refine l_step rfl (o_pure hE rfl rfl (p_assign rfl).run ?_); clear hE a; intro a hE
              refine wpList_nil ?_
              refine then_normal ?_
              refine wp_ret ?_
              refine ret3 rfl hE rfl rfl rfl ?_
              exact ⟨.inl ⟨_, _, by unfold saidL; rw [if_pos ⟨by omega, zero_at h0⟩, if_pos ⟨by omega, by omega, by omega⟩], rfl⟩, hI⟩

end Go.Proofs.YtbogbnkckofpdaaDoor.B
