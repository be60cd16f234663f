/- What functions of the program compute, each function once: steps over the model, and the plain law of it. -/
import Derived.Test.YtbogbnkckofpdaaDoorTWireMath
import Derived.Test.YtbogbnkckofpdaaDoorProg
namespace Go.Proofs.YtbogbnkckofpdaaDoor.B
open Go Go.Proofs
set_option linter.unusedVariables false
set_option linter.unusedSimpArgs false
set_option maxRecDepth 20000
set_option maxHeartbeats 8000000
namespace FTWire
theorem built_113 : ∀ vs, Tryd.prog.built 113 vs = Instr.fill (([(0, 1), (1, 1)] : List (Nat × Nat)).toArray[·]?) ([.int .i64 0, .nilIface] : List Value).toArray vs := fun _ => by kernel_rfl
theorem built_156 : ∀ vs, Tryd.prog.built 156 vs = Instr.fill (([(0, 1), (1, 1), (2, 1)] : List (Nat × Nat)).toArray[·]?) ([.slice none 0 0, .int .i64 0, .nilIface] : List Value).toArray vs := fun _ => by kernel_rfl
theorem ent_101 : enters Tryd.prog 101 = true := by kernel_rfl
theorem ent_73 : enters Tryd.prog 73 = true := by kernel_rfl
theorem fo_156_0 : fieldOff Tryd.prog 156 0 = some 0 := by kernel_rfl
theorem fo_156_1 : fieldOff Tryd.prog 156 1 = some 1 := by kernel_rfl
theorem fo_156_2 : fieldOff Tryd.prog 156 2 = some 2 := by kernel_rfl
theorem scal_22 : isScal Tryd.prog 22 = true := by kernel_rfl
theorem scal_25 : isScal Tryd.prog 25 = true := by kernel_rfl
theorem scal_3 : isScal Tryd.prog 3 = true := by kernel_rfl
theorem scal_5 : isScal Tryd.prog 5 = true := by kernel_rfl
theorem sz_25 : (Tryd.prog.info? 25).map (·.size) = some 1 := by kernel_rfl
theorem sz_5 : (Tryd.prog.info? 5).map (·.size) = some 1 := by kernel_rfl
theorem zs_5 : (Tryd.prog.info? 5).map (fun i => (i.zero, i.size)) = some (some (.int .u8 0), 1) := by kernel_rfl
theorem zsb_5 : (Tryd.prog.info? 5).map (fun i => (i.zero, i.size, i.bytes)) = some (some (.int .u8 0), 1, 1) := by kernel_rfl
end FTWire
open FTWire
theorem Clone_spec {w0 w : World} {D : Sto} {ss : List Seg} (hI : Inv w0 D ss w) {vb : Value} {bs : List Nat} (hb : RB D vb bs) (hm : bs.length ≤ 140737488355328) :
    Calls Tryd.prog 73 #[vb] w (Ret fun r w' => ∃ s, OB r bs s ∧ Inv w0 D (s :: ss) w') := by
  obtain ⟨A1, c2, rfl, _⟩ := hb.slice
  refine enter (N := 8) Tryd.func73 rfl rfl rfl ?_
  intro a hE
  refine wp_seq ?_
  refine wp_region_list ?_   -- region 0
  refine l_step rfl (o_pure hE rfl rfl (p_assign rfl).run ?_); clear hE a; intro a hE
  refine wpList_nil ?_
  refine then_normal ?_
  refine wp_seq ?_
  refine wp_seq ?_
  refine wp_region_list ?_   -- region 1
  refine l_step rfl (o_pure hE rfl rfl (p_move rfl).run ?_); clear hE a; intro a hE
  rcases A1 with _ | A1
  · skip
    refine l_step rfl (o_pure hE rfl rfl (p_eq rfl rfl (g_none rfl) (e_sliceNil Tryd.underlying22 (rfl)) rfl rfl).run ?_); clear hE a; intro a hE
    refine wpList_nil ?_
    refine then_normal ?_
    refine c_true hE rfl ?_
    refine wp_seq ?_
    refine wp_region_list ?_   -- region 2
    refine l_step rfl (o_pure hE rfl rfl (p_assign rfl).run ?_); clear hE a; intro a hE
    refine wpList_nil ?_
    refine then_normal ?_
    refine wp_ret ?_
    refine then_ret ?_
    refine ret1 rfl hE rfl ?_
    obtain rfl := hb.none_nil
    exact ⟨[], Row.nil 5 1, hI.nilseg⟩
  · skip
    refine l_step rfl (o_pure hE rfl rfl (p_eq rfl rfl (g_none rfl) (e_sliceNil Tryd.underlying22 (rfl)) rfl rfl).run ?_); clear hE a; intro a hE
    refine wpList_nil ?_
    refine then_normal ?_
    refine c_false hE rfl ?_
    refine wp_skip ?_
    refine then_normal ?_
    refine wp_seq ?_
    refine wp_region_list ?_   -- region 3
    refine l_step rfl (f_lit (vs := []) (l := []) hE hI rfl rfl rfl rfl Tryd.underlying22 zs_5 rfl rfl rfl ?_)
    clear hI hE a w; intro a b3 w hE hI
    refine l_step rfl (o_pure hE rfl rfl (p_move rfl).run ?_); clear hE a; intro a hE
    refine l_step rfl (o_appendRB 0 hE hI rfl rfl rfl rfl rfl Tryd.underlying22 zsb_5 rfl (Row.lit (T := 5) (size := 1) (n := 0) rfl (by omega)) hb (by omega) ?_)
    clear hI hE a w; intro v4 s5 w hR6 hI a hE
    obtain ⟨A7, c8, rfl, _⟩ := hR6.slice
    try simp only [splice, insAt, List.set_cons_succ, List.set_cons_zero, List.setIfInBounds_toArray, Value.cells, List.eraseIdx_cons_succ, List.eraseIdx_cons_zero, List.eraseIdx_zero, List.tail_cons] at hI
    refine l_step rfl (o_pure hE rfl rfl (p_assign rfl).run ?_); clear hE a; intro a hE
    refine wpList_nil ?_
    refine then_normal ?_
    refine wp_ret ?_
    refine ret1 rfl hE rfl ?_
    exact ⟨_, hR6.cast (by simp [bytesV]) (by omega), hI⟩

theorem put_spec {w0 w : World} {D : Sto} {ss : List Seg} {s : Seg} {v : Value} {n : Nat} {xs : List Value} {m : Int} (hI : Inv w0 D (s :: ss) w) (hR : Row 5 1 v n xs s) (h0 : -9223372036854775808 ≤ m) (h1 : m ≤ 9223372036854775807) (hn : n ≤ 140737488355000) :
    Calls Tryd.prog 101 #[v, .int .i64 m] w (Ret fun r w' => ∃ s, Row 5 1 r (n + (putZ m).length) (xs ++ bytesV (putZ m)) s ∧ Inv w0 D (s :: ss) w') := by
  obtain ⟨A0, c0, rfl, _⟩ := hR.slice
  have hlen : (putZ m).length ≤ 10 := putN_len64 (zig_lt h0 h1)
  refine enter (N := 28) Tryd.func101 rfl rfl rfl ?_
  intro a hE
  refine wp_seq ?_
  refine wp_region_list ?_   -- region 0
  refine l_step rfl (o_pure hE rfl rfl (p_assign rfl).run ?_); clear hE a; intro a hE
  refine wpList_nil ?_
  refine then_normal ?_
  refine wp_seq ?_
  refine wp_region_list ?_   -- region 1
  refine l_step rfl (o_pure hE rfl rfl (p_move rfl).run ?_); clear hE a; intro a hE
  refine l_step rfl (o_pure hE rfl rfl (p_int (z := _) Tryd.underlying2 Tryd.underlying154 rfl (rfl)).run ?_); clear hE a; intro a hE
  refine l_step rfl (o_pure hE rfl rfl (p_shl (z := _) rfl rfl (by omega) (rfl)).run ?_); clear hE a; intro a hE
  refine l_step rfl (o_pure hE rfl rfl (p_move rfl).run ?_); clear hE a; intro a hE
  refine l_step rfl (o_pure hE rfl rfl (p_shr (z := _) rfl rfl (by omega) (rfl)).run ?_); clear hE a; intro a hE
  refine l_step rfl (o_pure hE rfl rfl (p_int (z := _) Tryd.underlying2 Tryd.underlying154 rfl (rfl)).run ?_); clear hE a; intro a hE
  refine l_step rfl (o_pure hE rfl rfl (p_arith (z := ((zig m : Nat) : Int)) rfl rfl (zig_z h0 h1)).run ?_); clear hE a; intro a hE
  refine l_step rfl (o_pure hE rfl rfl (p_assign rfl).run ?_); clear hE a; intro a hE
  refine wpList_nil ?_
  refine then_normal ?_
  refine wp_seq ?_
  refine wp_block ?_
  refine c_loop (X := Value × Seg × List Nat × Nat) (fun x => [(0, x.1), (5, .int .u64 (x.2.2.2 : Nat))]) (fun x w => Row 5 1 x.1 (n + x.2.2.1.length) (xs ++ bytesV x.2.2.1) x.2.1 ∧ Inv w0 D (x.2.1 :: ss) w ∧ putZ m = x.2.2.1 ++ putN x.2.2.2 ∧ x.2.2.2 < 18446744073709551616) (fun x => x.2.2.2) (_, _, [], zig m) (hE.pick [0, 5]) ⟨hR.cast (by simp [bytesV]) rfl, hI, rfl, zig_lt h0 h1⟩ ?_
  clear hE hI a w
  rintro ⟨v, s, out, z⟩ a w hE ⟨hR, hI, hp, hz⟩
  try dsimp only at hE
  try dsimp only at hR
  try dsimp only at hI
  try dsimp only at hp
  try dsimp only at hz
  obtain ⟨A1, c1, rfl, _⟩ := hR.slice
  refine wp_seq ?_
  refine wp_seq ?_
  refine wp_region_list ?_   -- region 2
  refine l_step rfl (o_pure hE rfl rfl (p_move rfl).run ?_); clear hE a; intro a hE
  refine l_step rfl (o_cmp hE rfl rfl rfl rfl rfl rfl ?_ ?_)
  · intro hz128; replace hz128 := geq_t hz128; clear hE a; intro a hE
    refine wpList_nil ?_
    refine then_normal ?_
    refine c_true hE rfl ?_
    refine wp_skip ?_
    refine then_normal ?_
    refine wp_block ?_
    refine wp_seq ?_
    refine wp_region_list ?_   -- region 3
    refine l_step rfl (o_pure hE rfl rfl (p_move rfl).run ?_); clear hE a; intro a hE
    refine l_step rfl (o_pure hE rfl rfl (p_move rfl).run ?_); clear hE a; intro a hE
    refine l_step rfl (o_pure hE rfl rfl (p_int (z := _) Tryd.underlying154 Tryd.underlying5 rfl (rfl)).run ?_); clear hE a; intro a hE
    refine l_step rfl (o_pure hE rfl rfl (p_arith (z := ((z % 128 + 128 : Nat) : Int)) rfl rfl (or128)).run ?_); clear hE a; intro a hE
    refine l_step rfl (f_lit (vs := [(0, _)]) (l := [_]) hE hI rfl rfl rfl rfl Tryd.underlying22 zs_5 rfl rfl rfl ?_)
    clear hI hE a w; intro a b1 w hE hI
    refine l_step rfl (o_append 1 hE hI rfl rfl rfl rfl rfl Tryd.underlying22 zsb_5 rfl rfl rfl hR (by rfl) (lit_news (hI.seg 0 rfl)) (by simp [Value.oneCell']) (by have h2 := congrArg List.length hp; have := putN_pos z; simp at h2; omega) (by have h2 := congrArg List.length hp; have := putN_pos z; simp at h2; omega) ?_)
    clear hI hE a w; intro v2 s3 w hR4 hI a hE
    obtain ⟨A5, c6, rfl, _⟩ := hR4.slice
    replace hI := hI.erase 0
    try simp only [splice, insAt, List.set_cons_succ, List.set_cons_zero, List.setIfInBounds_toArray, Value.cells, List.eraseIdx_cons_succ, List.eraseIdx_cons_zero, List.eraseIdx_zero, List.tail_cons] at hI
    refine l_step rfl (o_pure hE rfl rfl (p_assign rfl).run ?_); clear hE a; intro a hE
    refine wpList_nil ?_
    refine then_normal ?_
    refine wp_region_list ?_   -- region 4
    refine l_step rfl (o_pure hE rfl rfl (p_move rfl).run ?_); clear hE a; intro a hE
    refine l_step rfl (o_pure hE rfl rfl (p_shr (z := ((z / 128 : Nat) : Int)) rfl rfl (by omega) (shr7)).run ?_); clear hE a; intro a hE
    refine l_step rfl (o_pure hE rfl rfl (p_assign rfl).run ?_); clear hE a; intro a hE
    refine wpList_nil ?_
    refine blk_normal ?_
    refine then_normal ?_
    exact ⟨(_, _, out ++ [z % 128 + 128], z / 128), hE.pick [0, 5], ⟨Row.cast hR4 (put_step _) (by simp; omega), hI, by rw [hp, putN, if_neg (by omega)]; simp, by show z / 128 < _; omega⟩, by show z / 128 < z; omega⟩
  · intro hz128; replace hz128 := geq_f hz128; clear hE a; intro a hE
    refine wpList_nil ?_
    refine then_normal ?_
    refine c_false hE rfl ?_
    refine wp_exit ?_
    refine then_exit ?_
    refine then_exit ?_
    refine blk_same ?_
    refine then_normal ?_
    refine wp_seq ?_
    refine wp_region_list ?_   -- region 5
    refine l_step rfl (o_pure hE rfl rfl (p_move rfl).run ?_); clear hE a; intro a hE
    refine l_step rfl (o_pure hE rfl rfl (p_move rfl).run ?_); clear hE a; intro a hE
    refine l_step rfl (o_pure hE rfl rfl (p_int (z := ((z : Nat) : Int)) Tryd.underlying154 Tryd.underlying5 rfl (by rw [IntKind.wrap_u8]; omega)).run ?_); clear hE a; intro a hE
    refine l_step rfl (f_lit (vs := [(0, _)]) (l := [_]) hE hI rfl rfl rfl rfl Tryd.underlying22 zs_5 rfl rfl rfl ?_)
    clear hI hE a w; intro a b7 w hE hI
    refine l_step rfl (o_append 1 hE hI rfl rfl rfl rfl rfl Tryd.underlying22 zsb_5 rfl rfl rfl hR (by rfl) (lit_news (hI.seg 0 rfl)) (by simp [Value.oneCell']) (by have h2 := congrArg List.length hp; have := putN_pos z; simp at h2; omega) (by have h2 := congrArg List.length hp; have := putN_pos z; simp at h2; omega) ?_)
    clear hI hE a w; intro v8 s9 w hR10 hI a hE
    obtain ⟨A11, c12, rfl, _⟩ := hR10.slice
    replace hI := hI.erase 0
    try simp only [splice, insAt, List.set_cons_succ, List.set_cons_zero, List.setIfInBounds_toArray, Value.cells, List.eraseIdx_cons_succ, List.eraseIdx_cons_zero, List.eraseIdx_zero, List.tail_cons] at hI
    refine l_step rfl (o_pure hE rfl rfl (p_assign rfl).run ?_); clear hE a; intro a hE
    refine wpList_nil ?_
    refine then_normal ?_
    refine wp_ret ?_
    refine ret1 rfl hE rfl ?_
    have e : putZ m = out ++ [z] := by rw [hp, putN, if_pos (by omega)]
    refine ⟨_, Row.cast hR10 (by rw [e]; exact put_step z) (by rw [e]; simp; omega), hI⟩

theorem Put_spec {w0 w : World} {D : Sto} {ss : List Seg} (hI : Inv w0 D ss w) {vb : Value} {bs : List Nat} {m : Int} (hb : RB D vb bs) (hm : bs.length ≤ 140737488355000) (h0 : -9223372036854775808 ≤ m) (h1 : m ≤ 9223372036854775807) :
    Calls Tryd.prog 56 #[vb, .int .i64 m] w (Ret fun r w' => ∃ s, OB r (bs ++ putZ m) s ∧ Inv w0 D (s :: ss) w') := by
  obtain ⟨A1, c2, rfl, _⟩ := hb.slice
  refine enter (N := 9) Tryd.func56 rfl rfl rfl ?_
  intro a hE
  refine wp_seq ?_
  refine wp_region_list ?_   -- region 0
  refine l_step rfl (o_pure hE rfl rfl (p_assign rfl).run ?_); clear hE a; intro a hE
  refine wpList_nil ?_
  refine then_normal ?_
  refine wp_seq ?_
  refine wp_region_list ?_   -- region 1
  refine l_step rfl (o_pure hE rfl rfl (p_move rfl).run ?_); clear hE a; intro a hE
  refine l_step rfl (o_call hE rfl rfl rfl rfl ent_73 (Clone_spec hI hb (by first | omega | (simp only [List.length_nil]; omega))) ?_)
  clear hI hE a
  rintro r w ⟨s6, hR3, hI⟩ a hE
  obtain ⟨A4, c5, rfl, _⟩ := Row.slice hR3
  refine l_step rfl (o_pure hE rfl rfl (p_move rfl).run ?_); clear hE a; intro a hE
  refine l_step rfl (o_call hE rfl rfl rfl rfl ent_101 (put_spec hI hR3 (by omega) (by omega) (by omega)) ?_)
  clear hI hE a
  rintro r w ⟨s10, hR7, hI⟩ a hE
  obtain ⟨A8, c9, rfl, _⟩ := Row.slice hR7
  refine l_step rfl (o_pure hE rfl rfl (p_assign rfl).run ?_); clear hE a; intro a hE
  refine wpList_nil ?_
  refine then_normal ?_
  refine wp_ret ?_
  refine ret1 rfl hE rfl ?_
  exact ⟨_, Row.cast hR7 (by simp [bytesV]) (by simp), hI⟩

theorem PutBytes_spec {w0 w : World} {D : Sto} {ss : List Seg} (hI : Inv w0 D ss w) {vb vx : Value} {bs xs : List Nat} (hb : RB D vb bs) (hx : RB D vx xs) (hm : bs.length + xs.length ≤ 140737488355000) :
    Calls Tryd.prog 55 #[vb, vx] w (Ret fun r w' => ∃ s, OB r (bs ++ putZ (xs.length : Nat) ++ xs) s ∧ Inv w0 D (s :: ss) w') := by
  obtain ⟨A1, c2, rfl, _⟩ := hb.slice
  obtain ⟨A3, c4, rfl, _⟩ := hx.slice
  have hlen : (putZ (xs.length : Nat)).length ≤ 10 := putN_len64 (zig_lt (by omega) (by omega))
  refine enter (N := 12) Tryd.func55 rfl rfl rfl ?_
  intro a hE
  refine wp_seq ?_
  refine wp_region_list ?_   -- region 0
  refine l_step rfl (o_pure hE rfl rfl (p_assign rfl).run ?_); clear hE a; intro a hE
  refine wpList_nil ?_
  refine then_normal ?_
  refine wp_seq ?_
  refine wp_region_list ?_   -- region 1
  refine l_step rfl (o_pure hE rfl rfl (p_move rfl).run ?_); clear hE a; intro a hE
  refine l_step rfl (o_call hE rfl rfl rfl rfl ent_73 (Clone_spec hI hb (by first | omega | (simp only [List.length_nil]; omega))) ?_)
  clear hI hE a
  rintro r w ⟨s8, hR5, hI⟩ a hE
  obtain ⟨A6, c7, rfl, _⟩ := Row.slice hR5
  refine l_step rfl (o_pure hE rfl rfl (p_move rfl).run ?_); clear hE a; intro a hE
  refine l_step rfl (o_pure hE rfl rfl (p_len rfl rfl Tryd.underlying22).run ?_); clear hE a; intro a hE
  refine l_step rfl (o_call hE rfl rfl rfl rfl ent_101 (put_spec hI hR5 (by omega) (by omega) (by omega)) ?_)
  clear hI hE a
  rintro r w ⟨s12, hR9, hI⟩ a hE
  obtain ⟨A10, c11, rfl, _⟩ := Row.slice hR9
  refine l_step rfl (o_pure hE rfl rfl (p_move rfl).run ?_); clear hE a; intro a hE
  refine l_step rfl (o_appendRB 0 hE hI rfl rfl rfl rfl rfl Tryd.underlying22 zsb_5 rfl hR9 hx (by omega) ?_)
  clear hI hE a w; intro v13 s14 w hR15 hI a hE
  obtain ⟨A16, c17, rfl, _⟩ := hR15.slice
  try simp only [splice, insAt, List.set_cons_succ, List.set_cons_zero, List.setIfInBounds_toArray, Value.cells, List.eraseIdx_cons_succ, List.eraseIdx_cons_zero, List.eraseIdx_zero, List.tail_cons] at hI
  refine l_step rfl (o_pure hE rfl rfl (p_assign rfl).run ?_); clear hE a; intro a hE
  refine wpList_nil ?_
  refine then_normal ?_
  refine wp_ret ?_
  refine ret1 rfl hE rfl ?_
  exact ⟨_, Row.cast hR15 (by simp [bytesV]) (by simp; omega), hI⟩

theorem NewReader_spec {w0 w : World} {D : Sto} {ss : List Seg} (hI : Inv w0 D ss w) (ad : Nat → Addr) {vb : Value} {bs : List Nat} (hb : RB D vb bs) (hm : bs.length ≤ 140737488355328) :
    Calls Tryd.prog 59 #[vb] w (Ret fun r w' => ∃ b s D', Le D D' ∧ Inv w0 D' (s :: ss) w' ∧ r = .pointer (some ⟨b, 0, none⟩) ∧ RdSeg D' ad b ⟨bs, 0, .none⟩ s) := by
  obtain ⟨A1, c2, rfl, _⟩ := hb.slice
  refine enter (N := 7) Tryd.func59 rfl rfl rfl ?_
  intro a hE
  refine wp_seq ?_
  refine wp_region_list ?_   -- region 0
  refine l_step rfl (o_pure hE rfl rfl (p_assign rfl).run ?_); clear hE a; intro a hE
  refine wpList_nil ?_
  refine then_normal ?_
  refine wp_seq ?_
  refine wp_region_list ?_   -- region 1
  refine l_step rfl (o_pure hE rfl rfl (p_move rfl).run ?_); clear hE a; intro a hE
  refine l_step rfl (o_call hE rfl rfl rfl rfl ent_73 (Clone_spec hI hb (by first | omega | (simp only [List.length_nil]; omega))) ?_)
  clear hI hE a
  rintro r w ⟨s6, hR3, hI⟩ a hE
  obtain ⟨A4, c5, rfl, _⟩ := Row.slice hR3
  refine l_step rfl (o_pure hE rfl rfl (f_build (vs := [(0, _)]) (l := [_, _, _]) rfl built_156 rfl).run ?_); clear hE a; intro a hE
  refine l_step rfl (f_box (cs := #[_, _, _]) hE hI rfl rfl rfl rfl rfl ?_)
  clear hI hE a w; intro a b7 w hE hI
  refine l_step rfl (o_pure hE rfl rfl (p_assign rfl).run ?_); clear hE a; intro a hE
  refine wpList_nil ?_
  refine then_normal ?_
  refine wp_ret ?_
  refine ret1 rfl hE rfl ?_
  obtain ⟨hI, hle⟩ := hI.shut_at 1 rfl
  exact ⟨_, _, _, hle, hI, rfl, _, _, rfl, Row.shut_bytes hR3 hb.lt, rfl, ⟨Nat.zero_le _, hm⟩⟩

theorem RErr_spec {w0 w : World} {D : Sto} {ss : List Seg} {s : Seg} {ad : Nat → Addr} {b : Nat} {rd : Rd} (hI : Inv w0 D (s :: ss) w) (hR : RdSeg D ad b rd s) :
    Calls Tryd.prog 62 #[.pointer (some ⟨b, 0, none⟩)] w (Ret fun r w' => (∃ ve, r = ve ∧ FltIs D ad ve rd.err) ∧ Inv w0 D (s :: ss) w') := by
  obtain ⟨vb, ve, rfl, hb, he, hok⟩ := hR
  obtain ⟨Ab, cb, rfl, _⟩ := hb.slice
  have hle := hok.le
  have hmost := hok.most
  refine enter (N := 7) Tryd.func62 rfl rfl rfl ?_
  intro a hE
  refine wp_seq ?_
  refine wp_region_list ?_   -- region 0
  refine l_step rfl (o_pure hE rfl rfl (p_assign rfl).run ?_); clear hE a; intro a hE
  refine wpList_nil ?_
  refine then_normal ?_
  refine wp_seq ?_
  refine wp_region_list ?_   -- region 1
  refine l_step rfl (o_pure hE rfl rfl (p_move rfl).run ?_); clear hE a; intro a hE
  refine l_step rfl (o_pure hE rfl rfl (p_nilCheck rfl).run ?_); clear hE a; intro a hE
  refine l_step rfl (o_pure hE rfl rfl (p_fieldAddr (m := 2) rfl fo_156_2 rfl).run ?_); clear hE a; intro a hE
  refine l_step rfl (o_pure hE rfl rfl (f_load rfl scal_25 (hI.seg 0 rfl) rfl) ?_); clear hE a; intro a hE
  refine l_step rfl (o_pure hE rfl rfl (p_assign rfl).run ?_); clear hE a; intro a hE
  refine wpList_nil ?_
  refine then_normal ?_
  refine wp_ret ?_
  refine ret1 rfl hE rfl ?_
  exact ⟨⟨_, rfl, he⟩, hI⟩

theorem RLeft_spec {w0 w : World} {D : Sto} {ss : List Seg} {s : Seg} {ad : Nat → Addr} {b : Nat} {rd : Rd} (hI : Inv w0 D (s :: ss) w) (hR : RdSeg D ad b rd s) :
    Calls Tryd.prog 63 #[.pointer (some ⟨b, 0, none⟩)] w (Ret fun r w' => r = .int .i64 ((rd.bs.length - rd.pos : Nat) : Int) ∧ Inv w0 D (s :: ss) w') := by
  obtain ⟨vb, ve, rfl, hb, he, hok⟩ := hR
  obtain ⟨Ab, cb, rfl, _⟩ := hb.slice
  have hle := hok.le
  have hmost := hok.most
  refine enter (N := 13) Tryd.func63 rfl rfl rfl ?_
  intro a hE
  refine wp_seq ?_
  refine wp_region_list ?_   -- region 0
  refine l_step rfl (o_pure hE rfl rfl (p_assign rfl).run ?_); clear hE a; intro a hE
  refine wpList_nil ?_
  refine then_normal ?_
  refine wp_seq ?_
  refine d_start [] [] (by kernel_rfl) hI rfl rfl ?_   -- region 1 draws its order
  clear hI w; intro w hI
  refine d_pure 0 hE rfl (by kernel_rfl) (by kernel_rfl) (by kernel_rfl) rfl (fun _ _ _ h => h) rfl rfl rfl (p_move rfl) (fun _ => hI) (listed' := #[true, false, false, false, false, false, false, false, false, false, false]) rfl ?_; clear hE a; intro a hE
  refine d_pure 1 hE rfl (by kernel_rfl) (by kernel_rfl) (by kernel_rfl) rfl (fun _ _ _ h => h) rfl rfl rfl (p_nilCheck rfl) (fun _ => hI) (listed' := #[true, true, false, false, false, false, false, false, false, false, false]) rfl ?_; clear hE a; intro a hE
  refine d_pure 2 hE rfl (by kernel_rfl) (by kernel_rfl) (by kernel_rfl) rfl (fun _ _ _ h => h) rfl rfl rfl (p_fieldAddr (m := 0) rfl fo_156_0 rfl) (fun _ => hI) (listed' := #[true, true, true, false, false, false, false, false, false, false, false]) rfl ?_; clear hE a; intro a hE
  refine d_load 3 hE rfl (by kernel_rfl) (by kernel_rfl) (by kernel_rfl) (by kernel_rfl) (by kernel_rfl) rfl rfl (fun _ _ _ h => h) rfl rfl rfl (fun w hS => f_load rfl scal_22 (Inv.seg 0 hS rfl) rfl) (hI) (listed' := #[true, true, true, true, false, false, false, false, false, false, false]) rfl ?_; clear hE a; intro a hE
  refine d_pure 4 hE rfl (by kernel_rfl) (by kernel_rfl) (by kernel_rfl) rfl (fun _ _ _ h => h) rfl rfl rfl (p_len rfl rfl Tryd.underlying22) (fun _ => hI) (listed' := #[true, true, true, true, true, false, false, false, false, false, false]) rfl ?_; clear hE a; intro a hE
  refine d_pure 5 hE rfl (by kernel_rfl) (by kernel_rfl) (by kernel_rfl) rfl (fun _ _ _ h => h) rfl rfl rfl (p_move rfl) (fun _ => hI) (listed' := #[true, true, true, true, true, true, false, false, false, false, false]) rfl ?_; clear hE a; intro a hE
  refine d_pure 6 hE rfl (by kernel_rfl) (by kernel_rfl) (by kernel_rfl) rfl (fun _ _ _ h => h) rfl rfl rfl (p_nilCheck rfl) (fun _ => hI) (listed' := #[true, true, true, true, true, true, true, false, false, false, false]) rfl ?_; clear hE a; intro a hE
  refine d_pure 7 hE rfl (by kernel_rfl) (by kernel_rfl) (by kernel_rfl) rfl (fun _ _ _ h => h) rfl rfl rfl (p_fieldAddr (m := 1) rfl fo_156_1 rfl) (fun _ => hI) (listed' := #[true, true, true, true, true, true, true, true, false, false, false]) rfl ?_; clear hE a; intro a hE
  refine d_load 8 hE rfl (by kernel_rfl) (by kernel_rfl) (by kernel_rfl) (by kernel_rfl) (by kernel_rfl) rfl rfl (fun _ _ _ h => h) rfl rfl rfl (fun w hS => f_load rfl scal_3 (Inv.seg 0 hS rfl) rfl) (hI) (listed' := #[true, true, true, true, true, true, true, true, true, false, false]) rfl ?_; clear hE a; intro a hE
  refine d_pure 9 hE rfl (by kernel_rfl) (by kernel_rfl) (by kernel_rfl) rfl (fun _ _ _ h => h) rfl rfl rfl (p_arith (z := ((rd.bs.length - rd.pos : Nat) : Int)) rfl rfl (sub_z (by omega) (by omega) (by omega))) (fun _ => hI) (listed' := #[true, true, true, true, true, true, true, true, true, true, false]) rfl ?_; clear hE a; intro a hE
  refine d_pure 10 hE rfl (by kernel_rfl) (by kernel_rfl) (by kernel_rfl) rfl (fun _ _ _ h => h) rfl rfl rfl (p_assign rfl) (fun _ => hI) (listed' := #[true, true, true, true, true, true, true, true, true, true, true]) rfl ?_; clear hE a; intro a hE
  refine d_done (by kernel_rfl) ?_
  refine then_normal ?_
  refine wp_ret ?_
  refine ret1 rfl hE rfl ?_
  exact ⟨rfl, hI⟩

theorem RAt_spec {w0 w : World} {D : Sto} {ss : List Seg} {s : Seg} {ad : Nat → Addr} {b : Nat} {rd : Rd} (hI : Inv w0 D (s :: ss) w) (hR : RdSeg D ad b rd s) :
    Calls Tryd.prog 64 #[.pointer (some ⟨b, 0, none⟩)] w (Ret fun r w' => r = .int .i64 (rd.pos : Nat) ∧ Inv w0 D (s :: ss) w') := by
  obtain ⟨vb, ve, rfl, hb, he, hok⟩ := hR
  obtain ⟨Ab, cb, rfl, _⟩ := hb.slice
  have hle := hok.le
  have hmost := hok.most
  refine enter (N := 7) Tryd.func64 rfl rfl rfl ?_
  intro a hE
  refine wp_seq ?_
  refine wp_region_list ?_   -- region 0
  refine l_step rfl (o_pure hE rfl rfl (p_assign rfl).run ?_); clear hE a; intro a hE
  refine wpList_nil ?_
  refine then_normal ?_
  refine wp_seq ?_
  refine wp_region_list ?_   -- region 1
  refine l_step rfl (o_pure hE rfl rfl (p_move rfl).run ?_); clear hE a; intro a hE
  refine l_step rfl (o_pure hE rfl rfl (p_nilCheck rfl).run ?_); clear hE a; intro a hE
  refine l_step rfl (o_pure hE rfl rfl (p_fieldAddr (m := 1) rfl fo_156_1 rfl).run ?_); clear hE a; intro a hE
  refine l_step rfl (o_pure hE rfl rfl (f_load rfl scal_3 (hI.seg 0 rfl) rfl) ?_); clear hE a; intro a hE
  refine l_step rfl (o_pure hE rfl rfl (p_assign rfl).run ?_); clear hE a; intro a hE
  refine wpList_nil ?_
  refine then_normal ?_
  refine wp_ret ?_
  refine ret1 rfl hE rfl ?_
  exact ⟨rfl, hI⟩

theorem fail_spec {w0 w : World} {D : Sto} {ss : List Seg} {s : Seg} {ad : Nat → Addr} {b : Nat} {rd : Rd} (hI : Inv w0 D (s :: ss) w) (hR : RdSeg D ad b rd s) (c : Nat) :
    Calls Tryd.prog 103 #[.pointer (some ⟨b, 0, none⟩), errV ad c] w (Ret fun r w' => r = .tuple #[] ∧ ∃ D' s', Le D D' ∧ Inv w0 D' (s' :: ss) w' ∧ RdSeg D' ad b { rd with err := .at_ c rd.pos } s') := by
  obtain ⟨vb, ve, rfl, hb, he, hok⟩ := hR
  obtain ⟨Ab, cb, rfl, _⟩ := hb.slice
  have hle := hok.le
  have hmost := hok.most
  refine enter (N := 15) Tryd.func103 rfl rfl rfl ?_
  intro a hE
  refine wp_region_list ?_   -- region 0
  refine l_step rfl (o_pure hE rfl rfl (p_move rfl).run ?_); clear hE a; intro a hE
  refine l_step rfl (o_pure hE rfl rfl (p_move rfl).run ?_); clear hE a; intro a hE
  refine l_step rfl (o_pure hE rfl rfl (p_nilCheck rfl).run ?_); clear hE a; intro a hE
  refine l_step rfl (o_pure hE rfl rfl (p_fieldAddr (m := 1) rfl fo_156_1 rfl).run ?_); clear hE a; intro a hE
  refine l_step rfl (o_pure hE rfl rfl (f_load rfl scal_3 (hI.seg 0 rfl) rfl) ?_); clear hE a; intro a hE
  refine l_step rfl (o_pure hE rfl rfl (p_move rfl).run ?_); clear hE a; intro a hE
  refine l_step rfl (o_pure hE rfl rfl (f_build (vs := [(0, _), (1, _)]) (l := [_, _]) rfl built_113 rfl).run ?_); clear hE a; intro a hE
  refine l_step rfl (f_box (cs := #[_, _]) hE hI rfl rfl rfl rfl rfl ?_)
  clear hI hE a w; intro a b1 w hE hI
  refine l_step rfl (o_pure hE rfl rfl (p_iface Tryd.underlying111 rfl rfl).run ?_); clear hE a; intro a hE
  refine l_step rfl (o_pure hE rfl rfl (p_nilCheck rfl).run ?_); clear hE a; intro a hE
  refine l_step rfl (o_pure hE rfl rfl (p_fieldAddr (m := 2) rfl fo_156_2 rfl).run ?_); clear hE a; intro a hE
  refine l_step rfl (f_store (l := [_, _, _]) (ss' := _ :: _ :: _) 1 hE hI rfl rfl rfl rfl rfl sz_25 (by simp [Value.cells, Value.oneCell']) rfl rfl rfl ?_)
  clear hI w; intro w hI
  refine wpList_nil ?_
  refine ret0 rfl hE ?_
  obtain ⟨hI, hle⟩ := hI.shut_at 0 rfl
  try simp only [List.eraseIdx_cons_zero] at hI
  exact ⟨rfl, _, _, hle, hI, _, _, rfl, hb.mono hle, ⟨_, _, _, rfl, Sto.put_one _ _ _⟩, ⟨hok.le, hok.most⟩⟩

theorem num_small {c i : Nat} (hi : i ≤ 9) (hc : i = 9 → c ≤ 1) : c % 128 * 2 ^ (7 * i) < 18446744073709551616 := by
  rcases Nat.lt_or_ge i 9 with h | h
  · have h1 : c % 128 * 2 ^ (7 * i) < 128 * 2 ^ (7 * i) := Nat.mul_lt_mul_of_pos_right (by omega) (Nat.pow_pos (by omega))
    have h3 : 128 * 2 ^ (7 * i) = 2 ^ (7 * (i + 1)) := by rw [pow7]; omega
    have h4 : 2 ^ (7 * (i + 1)) ≤ 2 ^ 63 := Nat.pow_le_pow_right (by omega) (by omega)
    omega
  · obtain rfl : i = 9 := by omega
    have : c % 128 ≤ 1 := by have := hc rfl; omega
    have : c % 128 * 2 ^ (7 * 9) ≤ 1 * 2 ^ (7 * 9) := Nat.mul_le_mul_right _ this
    omega
theorem num_sum {z c i : Nat} (hz : z < 2 ^ (7 * i)) (hi : i ≤ 9) (hc : i = 9 → c ≤ 1) : z + c % 128 * 2 ^ (7 * i) < 18446744073709551616 := by
  rcases Nat.lt_or_ge i 9 with h | h
  · have h1 : (c % 128 + 1) * 2 ^ (7 * i) ≤ 128 * 2 ^ (7 * i) := Nat.mul_le_mul_right _ (by omega)
    rw [Nat.add_mul, Nat.one_mul] at h1
    have h3 : 128 * 2 ^ (7 * i) = 2 ^ (7 * (i + 1)) := by rw [pow7]; omega
    have h4 : 2 ^ (7 * (i + 1)) ≤ 2 ^ 63 := Nat.pow_le_pow_right (by omega) (by omega)
    omega
  · obtain rfl : i = 9 := by omega
    have : c % 128 ≤ 1 := by have := hc rfl; omega
    have : c % 128 * 2 ^ (7 * 9) ≤ 1 * 2 ^ (7 * 9) := Nat.mul_le_mul_right _ this
    omega
theorem num_lt {z c i : Nat} (hz : z < 2 ^ (7 * i)) (hc : i = 9 → c ≤ 1) : z + c % 128 * 2 ^ (7 * i) < 2 ^ (7 * (i + 1)) := by
  have h1 : (c % 128 + 1) * 2 ^ (7 * i) ≤ 128 * 2 ^ (7 * i) := Nat.mul_le_mul_right _ (by omega)
  rw [Nat.add_mul, Nat.one_mul] at h1
  have h3 : 128 * 2 ^ (7 * i) = 2 ^ (7 * (i + 1)) := by rw [pow7]; omega
  omega
theorem number_spec {w0 w : World} {D : Sto} {ss : List Seg} {s : Seg} {ad : Nat → Addr} {b : Nat} {rd : Rd} (hI : Inv w0 D (s :: ss) w) (hR : RdSeg D ad b rd s) (g101 : GlobIs D 2 (errV ad 101)) (g103 : GlobIs D 1 (errV ad 103)) :
    Calls Tryd.prog 127 #[.pointer (some ⟨b, 0, none⟩)] w (Ret fun r w' => (∃ e, getN (rd.bs.drop rd.pos) 0 0 = .inl e ∧ r = .tuple #[.int .i64 0, .int .i64 0, errV ad e] ∧ Inv w0 D (s :: ss) w') ∨ (∃ z k, getN (rd.bs.drop rd.pos) 0 0 = .inr (z, k) ∧ r = .tuple #[.int .i64 (unzig z), .int .i64 (k : Nat), .nilIface] ∧ Inv w0 D (s :: ss) w')) := by
  obtain ⟨vb, ve, rfl, hb, he, hok⟩ := hR
  obtain ⟨Ab, cb, rfl, _⟩ := hb.slice
  have hle := hok.le
  have hmost := hok.most
  refine enter (N := 69) Tryd.func127 rfl rfl rfl ?_
  intro a hE
  refine wp_seq ?_
  refine wp_region_list ?_   -- region 0
  refine l_step rfl (o_pure hE rfl rfl (p_assign rfl).run ?_); clear hE a; intro a hE
  refine l_step rfl (o_pure hE rfl rfl (p_assign rfl).run ?_); clear hE a; intro a hE
  refine l_step rfl (o_pure hE rfl rfl (p_assign rfl).run ?_); clear hE a; intro a hE
  refine wpList_nil ?_
  refine then_normal ?_
  refine wp_seq ?_
  refine wp_region_list ?_   -- region 1
  refine l_step rfl (o_pure hE rfl rfl (p_assign rfl).run ?_); clear hE a; intro a hE
  refine wpList_nil ?_
  refine then_normal ?_
  refine wp_seq ?_
  refine wp_region_list ?_   -- region 2
  refine l_step rfl (o_pure hE rfl rfl (p_assign rfl).run ?_); clear hE a; intro a hE
  refine wpList_nil ?_
  refine then_normal ?_
  refine wp_block ?_
  refine c_loop (X := Nat × Nat) (fun x => [(0, _), (5, .int .u64 (x.2 : Nat)), (6, .int .i64 (x.1 : Nat))]) (fun x w => x.1 ≤ 9 ∧ x.2 < 2 ^ (7 * x.1) ∧ getN (rd.bs.drop rd.pos) 0 0 = getN (rd.bs.drop (rd.pos + x.1)) x.1 x.2 ∧ Inv w0 D ([(b, .cells #[_, .int .i64 (rd.pos : Nat), ve] 156 (0, 0))] :: ss) w) (fun x => 10 - x.1) (0, 0) (hE.pick [0, 5, 6]) ⟨Nat.zero_le _, by decide, rfl, hI⟩ ?_
  clear hE hI a w
  rintro ⟨i, z⟩ a w hE ⟨hi, hz, hg, hI⟩
  try dsimp only at hE
  try dsimp only at hi
  try dsimp only at hz
  try dsimp only at hg
  try dsimp only at hI
  refine wp_seq ?_
  refine wp_block ?_
  refine wp_seq ?_
  refine wp_seq ?_
  refine d_start [] [] (by kernel_rfl) hI rfl rfl ?_   -- region 4 draws its order
  clear hI w; intro w hI
  refine d_pure 0 hE rfl (by kernel_rfl) (by kernel_rfl) (by kernel_rfl) rfl (fun _ _ _ h => h) rfl rfl rfl (p_move rfl) (fun _ => hI) (listed' := #[true, false, false, false, false, false, false, false, false, false, false, false]) rfl ?_; clear hE a; intro a hE
  refine d_pure 1 hE rfl (by kernel_rfl) (by kernel_rfl) (by kernel_rfl) rfl (fun _ _ _ h => h) rfl rfl rfl (p_nilCheck rfl) (fun _ => hI) (listed' := #[true, true, false, false, false, false, false, false, false, false, false, false]) rfl ?_; clear hE a; intro a hE
  refine d_pure 2 hE rfl (by kernel_rfl) (by kernel_rfl) (by kernel_rfl) rfl (fun _ _ _ h => h) rfl rfl rfl (p_fieldAddr (m := 1) rfl fo_156_1 rfl) (fun _ => hI) (listed' := #[true, true, true, false, false, false, false, false, false, false, false, false]) rfl ?_; clear hE a; intro a hE
  refine d_load 3 hE rfl (by kernel_rfl) (by kernel_rfl) (by kernel_rfl) (by kernel_rfl) (by kernel_rfl) rfl rfl (fun _ _ _ h => h) rfl rfl rfl (fun w hS => f_load rfl scal_3 (Inv.seg 0 hS rfl) rfl) (hI) (listed' := #[true, true, true, true, false, false, false, false, false, false, false, false]) rfl ?_; clear hE a; intro a hE
  refine d_pure 4 hE rfl (by kernel_rfl) (by kernel_rfl) (by kernel_rfl) rfl (fun _ _ _ h => h) rfl rfl rfl (p_move rfl) (fun _ => hI) (listed' := #[true, true, true, true, true, false, false, false, false, false, false, false]) rfl ?_; clear hE a; intro a hE
  refine d_pure 5 hE rfl (by kernel_rfl) (by kernel_rfl) (by kernel_rfl) rfl (fun _ _ _ h => h) rfl rfl rfl (p_arith rfl rfl (add_z rfl (by omega) (by omega))) (fun _ => hI) (listed' := #[true, true, true, true, true, true, false, false, false, false, false, false]) rfl ?_; clear hE a; intro a hE
  refine d_pure 6 hE rfl (by kernel_rfl) (by kernel_rfl) (by kernel_rfl) rfl (fun _ _ _ h => h) rfl rfl rfl (p_move rfl) (fun _ => hI) (listed' := #[true, true, true, true, true, true, true, false, false, false, false, false]) rfl ?_; clear hE a; intro a hE
  refine d_pure 7 hE rfl (by kernel_rfl) (by kernel_rfl) (by kernel_rfl) rfl (fun _ _ _ h => h) rfl rfl rfl (p_nilCheck rfl) (fun _ => hI) (listed' := #[true, true, true, true, true, true, true, true, false, false, false, false]) rfl ?_; clear hE a; intro a hE
  refine d_pure 8 hE rfl (by kernel_rfl) (by kernel_rfl) (by kernel_rfl) rfl (fun _ _ _ h => h) rfl rfl rfl (p_fieldAddr (m := 0) rfl fo_156_0 rfl) (fun _ => hI) (listed' := #[true, true, true, true, true, true, true, true, true, false, false, false]) rfl ?_; clear hE a; intro a hE
  refine d_load 9 hE rfl (by kernel_rfl) (by kernel_rfl) (by kernel_rfl) (by kernel_rfl) (by kernel_rfl) rfl rfl (fun _ _ _ h => h) rfl rfl rfl (fun w hS => f_load rfl scal_22 (Inv.seg 0 hS rfl) rfl) (hI) (listed' := #[true, true, true, true, true, true, true, true, true, true, false, false]) rfl ?_; clear hE a; intro a hE
  refine d_pure 10 hE rfl (by kernel_rfl) (by kernel_rfl) (by kernel_rfl) rfl (fun _ _ _ h => h) rfl rfl rfl (p_len rfl rfl Tryd.underlying22) (fun _ => hI) (listed' := #[true, true, true, true, true, true, true, true, true, true, true, false]) rfl ?_; clear hE a; intro a hE
  refine d_cmp 11 hE rfl (by kernel_rfl) (by kernel_rfl) (by kernel_rfl) rfl (fun _ _ _ _ h => h) rfl rfl rfl rfl rfl rfl rfl (fun _ => hI) (listed' := #[true, true, true, true, true, true, true, true, true, true, true, true]) rfl ?_ ?_
  · intro hlt; replace hlt := geq_t hlt; clear hE a; intro a hE
    refine d_done (by kernel_rfl) ?_
    refine then_normal ?_
    refine c_true hE rfl ?_
    refine wp_seq ?_
    refine d_start [] [] (by kernel_rfl) hI rfl rfl ?_   -- region 5 draws its order
    clear hI w; intro w hI
    obtain ⟨T_1, fr_1, hg_1⟩ := g101
    refine d_load 0 hE rfl (by kernel_rfl) (by kernel_rfl) (by kernel_rfl) (by kernel_rfl) (by kernel_rfl) rfl rfl (fun _ _ _ h => h) rfl rfl rfl (fun w hS => f_load rfl scal_25 (Inv.data hS _ _ (hg_1)) rfl) (hI) (listed' := #[true, false, false, false]) rfl ?_; clear hE a; intro a hE
    refine d_pure 1 hE rfl (by kernel_rfl) (by kernel_rfl) (by kernel_rfl) rfl (fun _ _ _ h => h) rfl rfl rfl (p_assign rfl) (fun _ => hI) (listed' := #[true, true, false, false]) rfl ?_; clear hE a; intro a hE
    refine d_pure 2 hE rfl (by kernel_rfl) (by kernel_rfl) (by kernel_rfl) rfl (fun _ _ _ h => h) rfl rfl rfl (p_assign rfl) (fun _ => hI) (listed' := #[true, true, true, false]) rfl ?_; clear hE a; intro a hE
    refine d_pure 3 hE rfl (by kernel_rfl) (by kernel_rfl) (by kernel_rfl) rfl (fun _ _ _ h => h) rfl rfl rfl (p_assign rfl) (fun _ => hI) (listed' := #[true, true, true, true]) rfl ?_; clear hE a; intro a hE
    refine d_done (by kernel_rfl) ?_
    refine then_normal ?_
    refine wp_ret ?_
    refine then_ret ?_
    refine blk_ret ?_
    refine then_ret ?_
    refine then_ret ?_
    refine blk_ret ?_
    refine ret3 rfl hE rfl rfl rfl ?_
    refine .inl ⟨101, ?_, rfl, hI⟩
    rw [hg, List.drop_eq_nil_of_le (by omega)]; rfl
  · intro hlt; replace hlt := geq_f hlt; clear hE a; intro a hE
    refine d_done (by kernel_rfl) ?_
    refine then_normal ?_
    refine c_false hE rfl ?_
    refine wp_skip ?_
    refine then_normal ?_
    refine wp_seq ?_
    refine d_start [] [] (by kernel_rfl) hI rfl rfl ?_   -- region 6 draws its order
    clear hI w; intro w hI
    refine d_pure 0 hE rfl (by kernel_rfl) (by kernel_rfl) (by kernel_rfl) rfl (fun _ _ _ h => h) rfl rfl rfl (p_move rfl) (fun _ => hI) (listed' := #[true, false, false, false, false, false, false, false, false, false, false, false, false]) rfl ?_; clear hE a; intro a hE
    refine d_pure 1 hE rfl (by kernel_rfl) (by kernel_rfl) (by kernel_rfl) rfl (fun _ _ _ h => h) rfl rfl rfl (p_nilCheck rfl) (fun _ => hI) (listed' := #[true, true, false, false, false, false, false, false, false, false, false, false, false]) rfl ?_; clear hE a; intro a hE
    refine d_pure 2 hE rfl (by kernel_rfl) (by kernel_rfl) (by kernel_rfl) rfl (fun _ _ _ h => h) rfl rfl rfl (p_fieldAddr (m := 0) rfl fo_156_0 rfl) (fun _ => hI) (listed' := #[true, true, true, false, false, false, false, false, false, false, false, false, false]) rfl ?_; clear hE a; intro a hE
    refine d_load 3 hE rfl (by kernel_rfl) (by kernel_rfl) (by kernel_rfl) (by kernel_rfl) (by kernel_rfl) rfl rfl (fun _ _ _ h => h) rfl rfl rfl (fun w hS => f_load rfl scal_22 (Inv.seg 0 hS rfl) rfl) (hI) (listed' := #[true, true, true, true, false, false, false, false, false, false, false, false, false]) rfl ?_; clear hE a; intro a hE
    refine d_pure 4 hE rfl (by kernel_rfl) (by kernel_rfl) (by kernel_rfl) rfl (fun _ _ _ h => h) rfl rfl rfl (p_move rfl) (fun _ => hI) (listed' := #[true, true, true, true, true, false, false, false, false, false, false, false, false]) rfl ?_; clear hE a; intro a hE
    refine d_pure 5 hE rfl (by kernel_rfl) (by kernel_rfl) (by kernel_rfl) rfl (fun _ _ _ h => h) rfl rfl rfl (p_nilCheck rfl) (fun _ => hI) (listed' := #[true, true, true, true, true, true, false, false, false, false, false, false, false]) rfl ?_; clear hE a; intro a hE
    refine d_pure 6 hE rfl (by kernel_rfl) (by kernel_rfl) (by kernel_rfl) rfl (fun _ _ _ h => h) rfl rfl rfl (p_fieldAddr (m := 1) rfl fo_156_1 rfl) (fun _ => hI) (listed' := #[true, true, true, true, true, true, true, false, false, false, false, false, false]) rfl ?_; clear hE a; intro a hE
    refine d_load 7 hE rfl (by kernel_rfl) (by kernel_rfl) (by kernel_rfl) (by kernel_rfl) (by kernel_rfl) rfl rfl (fun _ _ _ h => h) rfl rfl rfl (fun w hS => f_load rfl scal_3 (Inv.seg 0 hS rfl) rfl) (hI) (listed' := #[true, true, true, true, true, true, true, true, false, false, false, false, false]) rfl ?_; clear hE a; intro a hE
    refine d_pure 8 hE rfl (by kernel_rfl) (by kernel_rfl) (by kernel_rfl) rfl (fun _ _ _ h => h) rfl rfl rfl (p_move rfl) (fun _ => hI) (listed' := #[true, true, true, true, true, true, true, true, true, false, false, false, false]) rfl ?_; clear hE a; intro a hE
    refine d_pure 9 hE rfl (by kernel_rfl) (by kernel_rfl) (by kernel_rfl) rfl (fun _ _ _ h => h) rfl rfl rfl (p_arith rfl rfl (add_z rfl (by omega) (by omega))) (fun _ => hI) (listed' := #[true, true, true, true, true, true, true, true, true, true, false, false, false]) rfl ?_; clear hE a; intro a hE
    obtain ⟨b_2, o_2, cs_2, T_2, fr_2, rfl, hb_2, hc_2⟩ := hb.at_ (List.ne_nil_of_length_pos (by omega))
    refine d_pure 10 hE rfl (by kernel_rfl) (by kernel_rfl) (by kernel_rfl) rfl (fun _ _ _ h => h) rfl rfl rfl (p_indexAddr rfl rfl Tryd.underlying22 sz_5 (by omega) (by omega) rfl) (fun _ => hI) (listed' := #[true, true, true, true, true, true, true, true, true, true, true, false, false]) rfl ?_; clear hE a; intro a hE
    refine d_load 11 hE rfl (by kernel_rfl) (by kernel_rfl) (by kernel_rfl) (by kernel_rfl) (by kernel_rfl) rfl rfl (fun _ _ _ h => h) rfl rfl rfl (fun w hS => r_load rfl scal_5 (Inv.data hS _ _ (hb_2)) (RB.cell hc_2 (by omega) (by omega))) (hI) (listed' := #[true, true, true, true, true, true, true, true, true, true, true, true, false]) rfl ?_; clear hE a; intro a hE
    refine d_pure 12 hE rfl (by kernel_rfl) (by kernel_rfl) (by kernel_rfl) rfl (fun _ _ _ h => h) rfl rfl rfl (p_assign rfl) (fun _ => hI) (listed' := #[true, true, true, true, true, true, true, true, true, true, true, true, true]) rfl ?_; clear hE a; intro a hE
    refine d_done (by kernel_rfl) ?_
    refine then_normal ?_
    refine wp_seq ?_
    refine wp_seq ?_
    have hcl0 : rd.pos + i < rd.bs.length := by omega
    rw [drop_at hcl0] at hg
    have hn : ((rd.pos : Int) + (i : Int)).toNat = rd.pos + i := by omega
    rw [hn] at hE
    have hc : rd.bs.getD (rd.pos + i) 0 < 256 := getD_lt hb.lt _
    generalize rd.bs.getD (rd.pos + i) 0 = c at hE hg hc
    refine wp_region_list ?_   -- region 7
    refine l_step rfl (o_pure hE rfl rfl (p_move rfl).run ?_); clear hE a; intro a hE
    refine l_step rfl (o_cmp hE rfl rfl rfl rfl rfl rfl ?_ ?_)
    · intro h9; replace h9 := eql_t h9; clear hE a; intro a hE
      refine l_step rfl (o_pure hE rfl rfl (p_move rfl).run ?_); clear hE a; intro a hE
      refine l_go hE rfl (o_pure hE rfl rfl (p_move rfl).run ?_); clear hE a; intro a hE
      refine l_go hE rfl (o_cmp hE rfl rfl rfl rfl rfl rfl ?_ ?_)
      · intro h91; replace h91 := gtr_t h91; clear hE a; intro a hE
        refine l_step rfl (o_pure hE rfl rfl (p_pick (b := true) rfl rfl).run ?_); clear hE a; intro a hE
        refine wpList_nil ?_
        refine then_normal ?_
        refine c_true hE rfl ?_
        refine wp_seq ?_
        refine d_start [] [] (by kernel_rfl) hI rfl rfl ?_   -- region 8 draws its order
        clear hI w; intro w hI
        obtain ⟨T_3, fr_3, hg_3⟩ := g103
        refine d_load 0 hE rfl (by kernel_rfl) (by kernel_rfl) (by kernel_rfl) (by kernel_rfl) (by kernel_rfl) rfl rfl (fun _ _ _ h => h) rfl rfl rfl (fun w hS => f_load rfl scal_25 (Inv.data hS _ _ (hg_3)) rfl) (hI) (listed' := #[true, false, false, false]) rfl ?_; clear hE a; intro a hE
        refine d_pure 1 hE rfl (by kernel_rfl) (by kernel_rfl) (by kernel_rfl) rfl (fun _ _ _ h => h) rfl rfl rfl (p_assign rfl) (fun _ => hI) (listed' := #[true, true, false, false]) rfl ?_; clear hE a; intro a hE
        refine d_pure 2 hE rfl (by kernel_rfl) (by kernel_rfl) (by kernel_rfl) rfl (fun _ _ _ h => h) rfl rfl rfl (p_assign rfl) (fun _ => hI) (listed' := #[true, true, true, false]) rfl ?_; clear hE a; intro a hE
        refine d_pure 3 hE rfl (by kernel_rfl) (by kernel_rfl) (by kernel_rfl) rfl (fun _ _ _ h => h) rfl rfl rfl (p_assign rfl) (fun _ => hI) (listed' := #[true, true, true, true]) rfl ?_; clear hE a; intro a hE
        refine d_done (by kernel_rfl) ?_
        refine then_normal ?_
        refine wp_ret ?_
        refine then_ret ?_
        refine blk_ret ?_
        refine then_ret ?_
        refine then_ret ?_
        refine blk_ret ?_
        refine ret3 rfl hE rfl rfl rfl ?_
        refine .inl ⟨103, ?_, rfl, hI⟩
        rw [hg, getN]
        first | rw [if_pos (by omega)] | rw [if_neg (by omega), if_neg (by omega), if_pos (by omega)]
      · intro h91; replace h91 := gtr_f h91; clear hE a; intro a hE
        refine l_step rfl (o_pure hE rfl rfl (p_pick (b := true) rfl rfl).run ?_); clear hE a; intro a hE
        refine wpList_nil ?_
        refine then_normal ?_
        refine c_false hE rfl ?_
        refine wp_skip ?_
        refine then_normal ?_
        refine wp_seq ?_
        have hsm := num_small (i := i) (c := c) hi (by omega)
        have hcl : i = 9 → c ≤ 1 := by omega
        have hsum := num_sum hz hi hcl
        refine wp_region_list ?_   -- region 9
        refine l_step rfl (o_pure hE rfl rfl (p_move rfl).run ?_); clear hE a; intro a hE
        refine l_step rfl (o_pure hE rfl rfl (p_move rfl).run ?_); clear hE a; intro a hE
        refine l_step rfl (o_pure hE rfl rfl (p_arith (z := ((c % 128 : Nat) : Int)) rfl rfl (andNot128 hc)).run ?_); clear hE a; intro a hE
        refine l_step rfl (o_pure hE rfl rfl (p_int (z := ((c % 128 : Nat) : Int)) Tryd.underlying5 Tryd.underlying154 rfl (u64_small (by omega))).run ?_); clear hE a; intro a hE
        refine l_step rfl (o_pure hE rfl rfl (p_move rfl).run ?_); clear hE a; intro a hE
        refine l_step rfl (o_pure hE rfl rfl (p_arith (z := ((7 : Int) * (i : Int))) rfl rfl (mul_z rfl (by omega) (by omega))).run ?_); clear hE a; intro a hE
        refine l_step rfl (o_pure hE rfl rfl (p_shl (z := ((c % 128 * 2 ^ (7 * i) : Nat) : Int)) rfl rfl (by omega) (shl_num hsm hi)).run ?_); clear hE a; intro a hE
        refine l_step rfl (o_pure hE rfl rfl (p_arith (z := ((z + c % 128 * 2 ^ (7 * i) : Nat) : Int)) rfl rfl (or_num hz hsum)).run ?_); clear hE a; intro a hE
        refine l_step rfl (o_pure hE rfl rfl (p_assign rfl).run ?_); clear hE a; intro a hE
        refine wpList_nil ?_
        refine then_normal ?_
        refine wp_seq ?_
        refine wp_seq ?_
        have hz1 := hsum
        generalize hzz : z + c % 128 * 2 ^ (7 * i) = z1 at hE hz1
        refine wp_region_list ?_   -- region 10
        refine l_step rfl (o_pure hE rfl rfl (p_move rfl).run ?_); clear hE a; intro a hE
        refine l_step rfl (o_cmp hE rfl rfl rfl rfl rfl rfl ?_ ?_)
        · intro h128; replace h128 := geq_t h128; clear hE a; intro a hE
          refine wpList_nil ?_
          refine then_normal ?_
          refine c_true hE rfl ?_
          refine wp_exit ?_
          refine then_exit ?_
          refine blk_same ?_
          refine then_normal ?_
          subst hzz
          have hstep : getN (rd.bs.drop rd.pos) 0 0 = getN (rd.bs.drop (rd.pos + (i + 1))) (i + 1) (z + c % 128 * 2 ^ (7 * i)) := by rw [hg, getN, if_neg (by omega), if_pos (by omega)]; rfl
          refine wp_region_list ?_   -- region 3
          refine l_step rfl (o_pure hE rfl rfl (p_move rfl).run ?_); clear hE a; intro a hE
          refine l_step rfl (o_pure hE rfl rfl (p_arith (z := ((i + 1 : Nat) : Int)) rfl rfl (add_z (by omega) (by omega) (by omega))).run ?_); clear hE a; intro a hE
          refine l_step rfl (o_pure hE rfl rfl (p_assign rfl).run ?_); clear hE a; intro a hE
          refine wpList_nil ?_
          refine then_normal ?_
          exact ⟨(i + 1, z + c % 128 * 2 ^ (7 * i)), hE.pick [0, 5, 6], ⟨by show i + 1 ≤ 9; omega, num_lt hz hcl, hstep, hI⟩, by show 10 - (i + 1) < 10 - i; omega⟩
        · intro h128; replace h128 := geq_f h128; clear hE a; intro a hE
          refine wpList_nil ?_
          refine then_normal ?_
          refine c_false hE rfl ?_
          refine wp_skip ?_
          refine then_normal ?_
          refine wp_seq ?_
          refine wp_seq ?_
          refine wp_region_list ?_   -- region 11
          refine l_step rfl (o_pure hE rfl rfl (p_move rfl).run ?_); clear hE a; intro a hE
          refine l_step rfl (o_cmp hE rfl rfl rfl rfl rfl rfl ?_ ?_)
          · intro hc0; replace hc0 := eql_t hc0; clear hE a; intro a hE
            refine l_step rfl (o_pure hE rfl rfl (p_move rfl).run ?_); clear hE a; intro a hE
            refine l_go hE rfl (o_pure hE rfl rfl (p_move rfl).run ?_); clear hE a; intro a hE
            refine l_go hE rfl (o_cmp hE rfl rfl rfl rfl rfl rfl ?_ ?_)
            · intro hi0; replace hi0 := gtr_t hi0; clear hE a; intro a hE
              refine l_step rfl (o_pure hE rfl rfl (p_pick (b := true) rfl rfl).run ?_); clear hE a; intro a hE
              refine wpList_nil ?_
              refine then_normal ?_
              refine c_true hE rfl ?_
              refine wp_seq ?_
              refine d_start [] [] (by kernel_rfl) hI rfl rfl ?_   -- region 12 draws its order
              clear hI w; intro w hI
              obtain ⟨T_4, fr_4, hg_4⟩ := g103
              refine d_load 0 hE rfl (by kernel_rfl) (by kernel_rfl) (by kernel_rfl) (by kernel_rfl) (by kernel_rfl) rfl rfl (fun _ _ _ h => h) rfl rfl rfl (fun w hS => f_load rfl scal_25 (Inv.data hS _ _ (hg_4)) rfl) (hI) (listed' := #[true, false, false, false]) rfl ?_; clear hE a; intro a hE
              refine d_pure 1 hE rfl (by kernel_rfl) (by kernel_rfl) (by kernel_rfl) rfl (fun _ _ _ h => h) rfl rfl rfl (p_assign rfl) (fun _ => hI) (listed' := #[true, true, false, false]) rfl ?_; clear hE a; intro a hE
              refine d_pure 2 hE rfl (by kernel_rfl) (by kernel_rfl) (by kernel_rfl) rfl (fun _ _ _ h => h) rfl rfl rfl (p_assign rfl) (fun _ => hI) (listed' := #[true, true, true, false]) rfl ?_; clear hE a; intro a hE
              refine d_pure 3 hE rfl (by kernel_rfl) (by kernel_rfl) (by kernel_rfl) rfl (fun _ _ _ h => h) rfl rfl rfl (p_assign rfl) (fun _ => hI) (listed' := #[true, true, true, true]) rfl ?_; clear hE a; intro a hE
              refine d_done (by kernel_rfl) ?_
              refine then_normal ?_
              refine wp_ret ?_
              refine then_ret ?_
              refine blk_ret ?_
              refine then_ret ?_
              refine then_ret ?_
              refine blk_ret ?_
              refine ret3 rfl hE rfl rfl rfl ?_
              refine .inl ⟨103, ?_, rfl, hI⟩
              rw [hg, getN]
              first | rw [if_pos (by omega)] | rw [if_neg (by omega), if_neg (by omega), if_pos (by omega)]
            · intro hi0; replace hi0 := gtr_f hi0; clear hE a; intro a hE
              refine l_step rfl (o_pure hE rfl rfl (p_pick (b := true) rfl rfl).run ?_); clear hE a; intro a hE
              refine wpList_nil ?_
              refine then_normal ?_
              refine c_false hE rfl ?_
              refine wp_skip ?_
              refine then_normal ?_
              refine wp_seq ?_
              refine wp_region_list ?_   -- region 13
              refine l_step rfl (o_pure hE rfl rfl (p_move rfl).run ?_); clear hE a; intro a hE
              refine l_step rfl (o_pure hE rfl rfl (p_shr (z := ((z1 / 2 : Nat) : Int)) rfl rfl (by omega) (shr1_z)).run ?_); clear hE a; intro a hE
              refine l_step rfl (o_pure hE rfl rfl (p_int (z := ((z1 / 2 : Nat) : Int)) Tryd.underlying154 Tryd.underlying2 rfl (i64_nat (by omega))).run ?_); clear hE a; intro a hE
              refine l_step rfl (o_pure hE rfl rfl (p_move rfl).run ?_); clear hE a; intro a hE
              refine l_step rfl (o_pure hE rfl rfl (p_arith (z := ((z1 % 2 : Nat) : Int)) rfl rfl (and1_z hz1)).run ?_); clear hE a; intro a hE
              refine l_step rfl (o_pure hE rfl rfl (p_int (z := ((z1 % 2 : Nat) : Int)) Tryd.underlying154 Tryd.underlying2 rfl (i64_nat (by omega))).run ?_); clear hE a; intro a hE
              refine l_step rfl (o_pure hE rfl rfl (p_neg rfl (neg_z (by omega))).run ?_); clear hE a; intro a hE
              refine l_step rfl (o_pure hE rfl rfl (p_arith (z := unzig z1) rfl rfl (unzig_z hz1)).run ?_); clear hE a; intro a hE
              refine l_step rfl (o_pure hE rfl rfl (p_move rfl).run ?_); clear hE a; intro a hE
              refine l_step rfl (o_pure hE rfl rfl (p_arith (z := ((i + 1 : Nat) : Int)) rfl rfl (add_z (by omega) (by omega) (by omega))).run ?_); clear hE a; intro a hE
              refine l_step rfl (o_pure hE rfl rfl (p_assign rfl).run ?_); clear hE a; intro a hE
              refine l_step rfl (o_pure hE rfl rfl (p_assign rfl).run ?_); clear hE a; intro a hE
              refine l_step rfl (o_pure hE rfl rfl (p_assign rfl).run ?_); clear hE a; intro a hE
              refine wpList_nil ?_
              refine then_normal ?_
              refine wp_ret ?_
              refine blk_ret ?_
              refine then_ret ?_
              refine then_ret ?_
              refine blk_ret ?_
              refine ret3 rfl hE rfl rfl rfl ?_
              refine .inr ⟨_, _, ?_, rfl, hI⟩
              rw [hg, getN, if_neg (by omega), if_neg (by omega), if_neg (by omega), hzz]
          · intro hc0; replace hc0 := eql_f hc0; clear hE a; intro a hE
            refine l_step rfl (o_pure hE rfl rfl (p_move rfl).run ?_); clear hE a; intro a hE
            refine l_skip hE rfl rfl rfl ?_; clear hE a; intro a hE
            refine l_skip hE rfl rfl rfl ?_; clear hE a; intro a hE
            refine l_step rfl (o_pure hE rfl rfl (p_pick (b := false) rfl rfl).run ?_); clear hE a; intro a hE
            refine wpList_nil ?_
            refine then_normal ?_
            refine c_false hE rfl ?_
            refine wp_skip ?_
            refine then_normal ?_
            refine wp_seq ?_
            refine wp_region_list ?_   -- region 13
            refine l_step rfl (o_pure hE rfl rfl (p_move rfl).run ?_); clear hE a; intro a hE
            refine l_step rfl (o_pure hE rfl rfl (p_shr (z := ((z1 / 2 : Nat) : Int)) rfl rfl (by omega) (shr1_z)).run ?_); clear hE a; intro a hE
            refine l_step rfl (o_pure hE rfl rfl (p_int (z := ((z1 / 2 : Nat) : Int)) Tryd.underlying154 Tryd.underlying2 rfl (i64_nat (by omega))).run ?_); clear hE a; intro a hE
            refine l_step rfl (o_pure hE rfl rfl (p_move rfl).run ?_); clear hE a; intro a hE
            refine l_step rfl (o_pure hE rfl rfl (p_arith (z := ((z1 % 2 : Nat) : Int)) rfl rfl (and1_z hz1)).run ?_); clear hE a; intro a hE
            refine l_step rfl (o_pure hE rfl rfl (p_int (z := ((z1 % 2 : Nat) : Int)) Tryd.underlying154 Tryd.underlying2 rfl (i64_nat (by omega))).run ?_); clear hE a; intro a hE
            refine l_step rfl (o_pure hE rfl rfl (p_neg rfl (neg_z (by omega))).run ?_); clear hE a; intro a hE
            refine l_step rfl (o_pure hE rfl rfl (p_arith (z := unzig z1) rfl rfl (unzig_z hz1)).run ?_); clear hE a; intro a hE
            refine l_step rfl (o_pure hE rfl rfl (p_move rfl).run ?_); clear hE a; intro a hE
            refine l_step rfl (o_pure hE rfl rfl (p_arith (z := ((i + 1 : Nat) : Int)) rfl rfl (add_z (by omega) (by omega) (by omega))).run ?_); clear hE a; intro a hE
            refine l_step rfl (o_pure hE rfl rfl (p_assign rfl).run ?_); clear hE a; intro a hE
            refine l_step rfl (o_pure hE rfl rfl (p_assign rfl).run ?_); clear hE a; intro a hE
            refine l_step rfl (o_pure hE rfl rfl (p_assign rfl).run ?_); clear hE a; intro a hE
            refine wpList_nil ?_
            refine then_normal ?_
            refine wp_ret ?_
            refine blk_ret ?_
            refine then_ret ?_
            refine then_ret ?_
            refine blk_ret ?_
            refine ret3 rfl hE rfl rfl rfl ?_
            refine .inr ⟨_, _, ?_, rfl, hI⟩
            rw [hg, getN, if_neg (by omega), if_neg (by omega), if_neg (by omega), hzz]
    · intro h9; replace h9 := eql_f h9; clear hE a; intro a hE
      refine l_step rfl (o_pure hE rfl rfl (p_move rfl).run ?_); clear hE a; intro a hE
      refine l_skip hE rfl rfl rfl ?_; clear hE a; intro a hE
      refine l_skip hE rfl rfl rfl ?_; clear hE a; intro a hE
      refine l_step rfl (o_pure hE rfl rfl (p_pick (b := false) rfl rfl).run ?_); clear hE a; intro a hE
      refine wpList_nil ?_
      refine then_normal ?_
      refine c_false hE rfl ?_
      refine wp_skip ?_
      refine then_normal ?_
      refine wp_seq ?_
      have hsm := num_small (i := i) (c := c) hi (by omega)
      have hcl : i = 9 → c ≤ 1 := by omega
      have hsum := num_sum hz hi hcl
      refine wp_region_list ?_   -- region 9
      refine l_step rfl (o_pure hE rfl rfl (p_move rfl).run ?_); clear hE a; intro a hE
      refine l_step rfl (o_pure hE rfl rfl (p_move rfl).run ?_); clear hE a; intro a hE
      refine l_step rfl (o_pure hE rfl rfl (p_arith (z := ((c % 128 : Nat) : Int)) rfl rfl (andNot128 hc)).run ?_); clear hE a; intro a hE
      refine l_step rfl (o_pure hE rfl rfl (p_int (z := ((c % 128 : Nat) : Int)) Tryd.underlying5 Tryd.underlying154 rfl (u64_small (by omega))).run ?_); clear hE a; intro a hE
      refine l_step rfl (o_pure hE rfl rfl (p_move rfl).run ?_); clear hE a; intro a hE
      refine l_step rfl (o_pure hE rfl rfl (p_arith (z := ((7 : Int) * (i : Int))) rfl rfl (mul_z rfl (by omega) (by omega))).run ?_); clear hE a; intro a hE
      refine l_step rfl (o_pure hE rfl rfl (p_shl (z := ((c % 128 * 2 ^ (7 * i) : Nat) : Int)) rfl rfl (by omega) (shl_num hsm hi)).run ?_); clear hE a; intro a hE
      refine l_step rfl (o_pure hE rfl rfl (p_arith (z := ((z + c % 128 * 2 ^ (7 * i) : Nat) : Int)) rfl rfl (or_num hz hsum)).run ?_); clear hE a; intro a hE
      refine l_step rfl (o_pure hE rfl rfl (p_assign rfl).run ?_); clear hE a; intro a hE
      refine wpList_nil ?_
      refine then_normal ?_
      refine wp_seq ?_
      refine wp_seq ?_
      have hz1 := hsum
      generalize hzz : z + c % 128 * 2 ^ (7 * i) = z1 at hE hz1
      refine wp_region_list ?_   -- region 10
      refine l_step rfl (o_pure hE rfl rfl (p_move rfl).run ?_); clear hE a; intro a hE
      refine l_step rfl (o_cmp hE rfl rfl rfl rfl rfl rfl ?_ ?_)
      · intro h128; replace h128 := geq_t h128; clear hE a; intro a hE
        refine wpList_nil ?_
        refine then_normal ?_
        refine c_true hE rfl ?_
        refine wp_exit ?_
        refine then_exit ?_
        refine blk_same ?_
        refine then_normal ?_
        subst hzz
        have hstep : getN (rd.bs.drop rd.pos) 0 0 = getN (rd.bs.drop (rd.pos + (i + 1))) (i + 1) (z + c % 128 * 2 ^ (7 * i)) := by rw [hg, getN, if_neg (by omega), if_pos (by omega)]; rfl
        refine wp_region_list ?_   -- region 3
        refine l_step rfl (o_pure hE rfl rfl (p_move rfl).run ?_); clear hE a; intro a hE
        refine l_step rfl (o_pure hE rfl rfl (p_arith (z := ((i + 1 : Nat) : Int)) rfl rfl (add_z (by omega) (by omega) (by omega))).run ?_); clear hE a; intro a hE
        refine l_step rfl (o_pure hE rfl rfl (p_assign rfl).run ?_); clear hE a; intro a hE
        refine wpList_nil ?_
        refine then_normal ?_
        exact ⟨(i + 1, z + c % 128 * 2 ^ (7 * i)), hE.pick [0, 5, 6], ⟨by show i + 1 ≤ 9; omega, num_lt hz hcl, hstep, hI⟩, by show 10 - (i + 1) < 10 - i; omega⟩
      · intro h128; replace h128 := geq_f h128; clear hE a; intro a hE
        refine wpList_nil ?_
        refine then_normal ?_
        refine c_false hE rfl ?_
        refine wp_skip ?_
        refine then_normal ?_
        refine wp_seq ?_
        refine wp_seq ?_
        refine wp_region_list ?_   -- region 11
        refine l_step rfl (o_pure hE rfl rfl (p_move rfl).run ?_); clear hE a; intro a hE
        refine l_step rfl (o_cmp hE rfl rfl rfl rfl rfl rfl ?_ ?_)
        · intro hc0; replace hc0 := eql_t hc0; clear hE a; intro a hE
          refine l_step rfl (o_pure hE rfl rfl (p_move rfl).run ?_); clear hE a; intro a hE
          refine l_go hE rfl (o_pure hE rfl rfl (p_move rfl).run ?_); clear hE a; intro a hE
          refine l_go hE rfl (o_cmp hE rfl rfl rfl rfl rfl rfl ?_ ?_)
          · intro hi0; replace hi0 := gtr_t hi0; clear hE a; intro a hE
            refine l_step rfl (o_pure hE rfl rfl (p_pick (b := true) rfl rfl).run ?_); clear hE a; intro a hE
            refine wpList_nil ?_
            refine then_normal ?_
            refine c_true hE rfl ?_
            refine wp_seq ?_
            refine d_start [] [] (by kernel_rfl) hI rfl rfl ?_   -- region 12 draws its order
            clear hI w; intro w hI
            obtain ⟨T_5, fr_5, hg_5⟩ := g103
            refine d_load 0 hE rfl (by kernel_rfl) (by kernel_rfl) (by kernel_rfl) (by kernel_rfl) (by kernel_rfl) rfl rfl (fun _ _ _ h => h) rfl rfl rfl (fun w hS => f_load rfl scal_25 (Inv.data hS _ _ (hg_5)) rfl) (hI) (listed' := #[true, false, false, false]) rfl ?_; clear hE a; intro a hE
            refine d_pure 1 hE rfl (by kernel_rfl) (by kernel_rfl) (by kernel_rfl) rfl (fun _ _ _ h => h) rfl rfl rfl (p_assign rfl) (fun _ => hI) (listed' := #[true, true, false, false]) rfl ?_; clear hE a; intro a hE
            refine d_pure 2 hE rfl (by kernel_rfl) (by kernel_rfl) (by kernel_rfl) rfl (fun _ _ _ h => h) rfl rfl rfl (p_assign rfl) (fun _ => hI) (listed' := #[true, true, true, false]) rfl ?_; clear hE a; intro a hE
            refine d_pure 3 hE rfl (by kernel_rfl) (by kernel_rfl) (by kernel_rfl) rfl (fun _ _ _ h => h) rfl rfl rfl (p_assign rfl) (fun _ => hI) (listed' := #[true, true, true, true]) rfl ?_; clear hE a; intro a hE
            refine d_done (by kernel_rfl) ?_
            refine then_normal ?_
            refine wp_ret ?_
            refine then_ret ?_
            refine blk_ret ?_
            refine then_ret ?_
            refine then_ret ?_
            refine blk_ret ?_
            refine ret3 rfl hE rfl rfl rfl ?_
            refine .inl ⟨103, ?_, rfl, hI⟩
            rw [hg, getN]
            first | rw [if_pos (by omega)] | rw [if_neg (by omega), if_neg (by omega), if_pos (by omega)]
          · intro hi0; replace hi0 := gtr_f hi0; clear hE a; intro a hE
            refine l_step rfl (o_pure hE rfl rfl (p_pick (b := true) rfl rfl).run ?_); clear hE a; intro a hE
            refine wpList_nil ?_
            refine then_normal ?_
            refine c_false hE rfl ?_
            refine wp_skip ?_
            refine then_normal ?_
            refine wp_seq ?_
            refine wp_region_list ?_   -- region 13
            refine l_step rfl (o_pure hE rfl rfl (p_move rfl).run ?_); clear hE a; intro a hE
            refine l_step rfl (o_pure hE rfl rfl (p_shr (z := ((z1 / 2 : Nat) : Int)) rfl rfl (by omega) (shr1_z)).run ?_); clear hE a; intro a hE
            refine l_step rfl (o_pure hE rfl rfl (p_int (z := ((z1 / 2 : Nat) : Int)) Tryd.underlying154 Tryd.underlying2 rfl (i64_nat (by omega))).run ?_); clear hE a; intro a hE
            refine l_step rfl (o_pure hE rfl rfl (p_move rfl).run ?_); clear hE a; intro a hE
            refine l_step rfl (o_pure hE rfl rfl (p_arith (z := ((z1 % 2 : Nat) : Int)) rfl rfl (and1_z hz1)).run ?_); clear hE a; intro a hE
            refine l_step rfl (o_pure hE rfl rfl (p_int (z := ((z1 % 2 : Nat) : Int)) Tryd.underlying154 Tryd.underlying2 rfl (i64_nat (by omega))).run ?_); clear hE a; intro a hE
            refine l_step rfl (o_pure hE rfl rfl (p_neg rfl (neg_z (by omega))).run ?_); clear hE a; intro a hE
            refine l_step rfl (o_pure hE rfl rfl (p_arith (z := unzig z1) rfl rfl (unzig_z hz1)).run ?_); clear hE a; intro a hE
            refine l_step rfl (o_pure hE rfl rfl (p_move rfl).run ?_); clear hE a; intro a hE
            refine l_step rfl (o_pure hE rfl rfl (p_arith (z := ((i + 1 : Nat) : Int)) rfl rfl (add_z (by omega) (by omega) (by omega))).run ?_); clear hE a; intro a hE
            refine l_step rfl (o_pure hE rfl rfl (p_assign rfl).run ?_); clear hE a; intro a hE
            refine l_step rfl (o_pure hE rfl rfl (p_assign rfl).run ?_); clear hE a; intro a hE
            refine l_step rfl (o_pure hE rfl rfl (p_assign rfl).run ?_); clear hE a; intro a hE
            refine wpList_nil ?_
            refine then_normal ?_
            refine wp_ret ?_
            refine blk_ret ?_
            refine then_ret ?_
            refine then_ret ?_
            refine blk_ret ?_
            refine ret3 rfl hE rfl rfl rfl ?_
            refine .inr ⟨_, _, ?_, rfl, hI⟩
            rw [hg, getN, if_neg (by omega), if_neg (by omega), if_neg (by omega), hzz]
        · intro hc0; replace hc0 := eql_f hc0; clear hE a; intro a hE
          refine l_step rfl (o_pure hE rfl rfl (p_move rfl).run ?_); clear hE a; intro a hE
          refine l_skip hE rfl rfl rfl ?_; clear hE a; intro a hE
          refine l_skip hE rfl rfl rfl ?_; clear hE a; intro a hE
          refine l_step rfl (o_pure hE rfl rfl (p_pick (b := false) rfl rfl).run ?_); clear hE a; intro a hE
          refine wpList_nil ?_
          refine then_normal ?_
          refine c_false hE rfl ?_
          refine wp_skip ?_
          refine then_normal ?_
          refine wp_seq ?_
          refine wp_region_list ?_   -- region 13
          refine l_step rfl (o_pure hE rfl rfl (p_move rfl).run ?_); clear hE a; intro a hE
          refine l_step rfl (o_pure hE rfl rfl (p_shr (z := ((z1 / 2 : Nat) : Int)) rfl rfl (by omega) (shr1_z)).run ?_); clear hE a; intro a hE
          refine l_step rfl (o_pure hE rfl rfl (p_int (z := ((z1 / 2 : Nat) : Int)) Tryd.underlying154 Tryd.underlying2 rfl (i64_nat (by omega))).run ?_); clear hE a; intro a hE
          refine l_step rfl (o_pure hE rfl rfl (p_move rfl).run ?_); clear hE a; intro a hE
          refine l_step rfl (o_pure hE rfl rfl (p_arith (z := ((z1 % 2 : Nat) : Int)) rfl rfl (and1_z hz1)).run ?_); clear hE a; intro a hE
          refine l_step rfl (o_pure hE rfl rfl (p_int (z := ((z1 % 2 : Nat) : Int)) Tryd.underlying154 Tryd.underlying2 rfl (i64_nat (by omega))).run ?_); clear hE a; intro a hE
          refine l_step rfl (o_pure hE rfl rfl (p_neg rfl (neg_z (by omega))).run ?_); clear hE a; intro a hE
          refine l_step rfl (o_pure hE rfl rfl (p_arith (z := unzig z1) rfl rfl (unzig_z hz1)).run ?_); clear hE a; intro a hE
          refine l_step rfl (o_pure hE rfl rfl (p_move rfl).run ?_); clear hE a; intro a hE
          refine l_step rfl (o_pure hE rfl rfl (p_arith (z := ((i + 1 : Nat) : Int)) rfl rfl (add_z (by omega) (by omega) (by omega))).run ?_); clear hE a; intro a hE
          refine l_step rfl (o_pure hE rfl rfl (p_assign rfl).run ?_); clear hE a; intro a hE
          refine l_step rfl (o_pure hE rfl rfl (p_assign rfl).run ?_); clear hE a; intro a hE
          refine l_step rfl (o_pure hE rfl rfl (p_assign rfl).run ?_); clear hE a; intro a hE
          refine wpList_nil ?_
          refine then_normal ?_
          refine wp_ret ?_
          refine blk_ret ?_
          refine then_ret ?_
          refine then_ret ?_
          refine blk_ret ?_
          refine ret3 rfl hE rfl rfl rfl ?_
          refine .inr ⟨_, _, ?_, rfl, hI⟩
          rw [hg, getN, if_neg (by omega), if_neg (by omega), if_neg (by omega), hzz]

end Go.Proofs.YtbogbnkckofpdaaDoor.B
