/- What functions of the program compute, each function once: steps over the model, and the plain law of it. -/
import Derived.Test.YtbogbnkckofpdaaDoorTUndoReadPure
import Derived.Test.YtbogbnkckofpdaaDoorTSee
namespace Go.Proofs.YtbogbnkckofpdaaDoor.B
open Go Go.Proofs
set_option linter.unusedVariables false
set_option linter.unusedSimpArgs false
set_option maxRecDepth 20000
set_option maxHeartbeats 8000000
namespace FTUndoRead
theorem scal_2 : isScal Tryd.prog 2 = true := by kernel_rfl
theorem scal_22 : isScal Tryd.prog 22 = true := by kernel_rfl
theorem scal_3 : isScal Tryd.prog 3 = true := by kernel_rfl
theorem scal_4 : isScal Tryd.prog 4 = true := by kernel_rfl
theorem scal_5 : isScal Tryd.prog 5 = true := by kernel_rfl
theorem sz_5 : (Tryd.prog.info? 5).map (·.size) = some 1 := by kernel_rfl
theorem zs_5 : (Tryd.prog.info? 5).map (fun i => (i.zero, i.size)) = some (some (.int .u8 0), 1) := by kernel_rfl
theorem zsb_5 : (Tryd.prog.info? 5).map (fun i => (i.zero, i.size, i.bytes)) = some (some (.int .u8 0), 1, 1) := by kernel_rfl
end FTUndoRead
open FTUndoRead
theorem OB.data {w0 w : World} {D : Sto} {ss : List Seg} {r : Value} {bs : List Nat} (h : ∃ s, OB r bs s ∧ Inv w0 D (s :: ss) w) (hb : ∀ x ∈ bs, x < 256) : ∃ D', Le D D' ∧ Inv w0 D' ss w ∧ RB D' r bs := by
 obtain ⟨s, h1, hI⟩ := h
 exact ⟨_, hI.le_shut, hI.shut, Row.shut_bytes h1 hb⟩
theorem Ret.imp {R R' : Value → World → Prop} {e : Ending} {w : World} (h : Ret R e w) (hi : ∀ r w, R r w → R' r w) : Ret R' e w := by
 obtain ⟨r, he, hr⟩ := h; exact ⟨r, he, hi _ _ hr⟩
theorem Clone_data {w0 w : World} {D : Sto} {ss : List Seg} (hI : Inv w0 D ss w) {vb : Value} {bs : List Nat} (hb : RB D vb bs) (hm : bs.length ≤ 140737488355328) :
  Calls Tryd.prog 73 #[vb] w (Ret fun r w' => ∃ D', Le D D' ∧ Inv w0 D' ss w' ∧ RB D' r bs) :=
 (Clone_spec hI hb hm).mono fun _ _ h => h.imp fun _ _ h => OB.data h hb.lt
theorem bytes_step {bs : List Nat} {i : Nat} (h : i < bs.length) : bytesV (bs.take i) ++ (#[Value.int .u8 ((bs.getD ((i : Nat) : Int).toNat 0 : Nat) : Int)] : Array Value).toList = bytesV (bs.take (i + 1)) := by
 have e : bs.getD ((i : Nat) : Int).toNat 0 = bs[i] := by rw [List.getD_eq_getElem?_getD]; simp [List.getElem?_eq_getElem h]
 rw [List.take_add_one, List.getElem?_eq_getElem h, e, Option.toList_some]
 simp only [bytesV, List.map_append, List.map_cons, List.map_nil]
theorem Number_spec {w0 w : World} {D : Sto} {ss : List Seg} (hI : Inv w0 D ss w) (n : Int) {m : Int} (hb : 0 < m) (hm : m ≤ 4611686018427387904) :
  Calls Tryd.prog 20 #[.int .i64 n, .int .i64 m] w (Ret fun r w' => (∃ z, r = .int .i64 z ∧ 0 ≤ z ∧ z < m) ∧ Inv w0 D ss w') := by
 refine enter (N := 15) Tryd.func20 rfl rfl rfl ?_
 intro a hE
 refine wsr ?_
 refine za hE ?_; clear hE a; intro a hE
 refine wnt ?_
 refine wsr ?_
 refine zm hE ?_; clear hE a; intro a hE
 refine zm hE ?_; clear hE a; intro a hE
 refine zs hE (p_arith (z := _) rfl rfl (rem_z rfl (by omega))) ?_; clear hE a; intro a hE
 refine za hE ?_; clear hE a; intro a hE
 refine wnt ?_
 refine wp_seq ?_
 refine wp_seq ?_
 have hr1 := Int.tmod_lt_of_pos n hb
 have hr2 := Int.lt_tmod_of_pos n hb
 generalize n.tmod m = r at hE hr1 hr2
 refine wp_region_list ?_
 refine zm hE ?_; clear hE a; intro a hE
 refine l_step rfl (o_cmp hE rfl rfl rfl rfl rfl rfl ?_ ?_)
 ·intro hneg; replace hneg := lss_t hneg; clear hE a; intro a hE
  refine wnt ?_
  refine c_true hE rfl ?_
  refine wp_region_list ?_
  refine zm hE ?_; clear hE a; intro a hE
  refine zm hE ?_; clear hE a; intro a hE
  refine zs hE (p_arith (z := _) rfl rfl (add_z rfl (by omega) (by omega))) ?_; clear hE a; intro a hE
  refine za hE ?_; clear hE a; intro a hE
  refine wnt ?_
  refine wsr ?_
  refine zm hE ?_; clear hE a; intro a hE
  refine za hE ?_; clear hE a; intro a hE
  refine wnt ?_
  refine wp_ret ?_
  refine ret1 rfl hE rfl ?_
  exact ⟨⟨_, rfl, by omega, by omega⟩, hI⟩
 intro hneg; replace hneg := lss_f hneg; clear hE a; intro a hE
 refine wnt ?_
 refine c_false hE rfl ?_
 refine wp_skip ?_
 refine then_normal ?_
 refine wsr ?_
 refine zm hE ?_; clear hE a; intro a hE
 refine za hE ?_; clear hE a; intro a hE
 refine wnt ?_
 refine wp_ret ?_
 refine ret1 rfl hE rfl ?_
 exact ⟨⟨_, rfl, by omega, by omega⟩, hI⟩
theorem refBytes_spec {w0 w : World} {D : Sto} {ss : List Seg} (hI : Inv w0 D ss w) {vb : Value} {bs : List Nat} (hb : RB D vb bs) (hm : bs.length ≤ 140737488355000) :
  Calls Tryd.prog 27 #[vb] w (Ret fun r w' => ∃ s, OB r bs s ∧ Inv w0 D (s :: ss) w') := by
 obtain ⟨A1, c2, rfl, _⟩ := hb.slice
 refine enter (N := 22) Tryd.func27 rfl rfl rfl ?_
 intro a hE
 refine wsr ?_
 refine za hE ?_; clear hE a; intro a hE
 refine wnt ?_
 refine wsr ?_
 refine zm hE ?_; clear hE a; intro a hE
 refine zs hE (p_len rfl rfl Tryd.underlying22) ?_; clear hE a; intro a hE
 refine l_step rfl (f_make hE hI rfl rfl rfl rfl rfl Tryd.underlying22 zsb_5 (by omega) (by omega) (by omega) (by omega) ?_)
 clear hI hE a w; intro a b3 w hE hI
 refine za hE ?_; clear hE a; intro a hE
 refine wnt ?_
 refine wp_seq ?_
 refine wsr ?_
 refine za hE ?_; clear hE a; intro a hE
 refine wnt ?_
 refine wp_block ?_
 refine c_loop (X := Nat × Value × Seg) (fun x => [(0, _), (3, x.2.1), (4, .int .i64 (x.1 : Nat))]) (fun x w => x.1 ≤ bs.length ∧ Row 5 1 x.2.1 x.1 (bytesV (bs.take x.1)) x.2.2 ∧ Inv w0 D (x.2.2 :: ss) w) (fun x => bs.length - x.1) (0, _, _) (hE.pick [0, 3, 4]) ⟨Nat.zero_le _, Row.cast (Row.made (l := 0) (c := bs.length) rfl (Nat.zero_le _) (by omega)) rfl rfl, hI⟩ ?_
 clear hE hI a w
 rintro ⟨i, v, s⟩ a w hE ⟨hi, hR, hI⟩
 try dsimp only at hE
 try dsimp only at hi
 try dsimp only at hR
 try dsimp only at hI
 obtain ⟨A1, c1, rfl, _⟩ := hR.slice
 refine wp_seq ?_
 refine wsr ?_
 refine zm hE ?_; clear hE a; intro a hE
 refine zm hE ?_; clear hE a; intro a hE
 refine zs hE (p_len rfl rfl Tryd.underlying22) ?_; clear hE a; intro a hE
 refine l_step rfl (o_cmp hE rfl rfl rfl rfl rfl rfl ?_ ?_)
 ·intro hlt; replace hlt := lss_t hlt; clear hE a; intro a hE
  refine wnt ?_
  refine c_true hE rfl ?_
  refine wp_skip ?_
  refine then_normal ?_
  refine wp_seq ?_
  refine wp_block ?_
  refine wp_region_list ?_
  refine zm hE ?_; clear hE a; intro a hE
  refine zm hE ?_; clear hE a; intro a hE
  refine zm hE ?_; clear hE a; intro a hE
  obtain ⟨b_4, o_4, cs_4, T_4, fr_4, rfl, hb_4, hc_4⟩ := hb.at_ (List.ne_nil_of_length_pos (by omega))
  refine zs hE (p_indexAddr rfl rfl Tryd.underlying22 sz_5 (by omega) (by omega) rfl) ?_; clear hE a; intro a hE
  refine zl hE (r_load rfl scal_5 (hI.data _ _ (hb_4)) (RB.cell hc_4 (by omega) (by omega))) ?_; clear hE a; intro a hE
  refine l_step rfl (f_lit (vs := [(0, _)]) (l := [_]) hE hI rfl rfl rfl rfl Tryd.underlying22 zs_5 rfl rfl rfl ?_)
  clear hI hE a w; intro a b5 w hE hI
  refine l_step rfl (o_append 1 hE hI rfl rfl rfl rfl rfl Tryd.underlying22 zsb_5 rfl rfl rfl hR (by rfl) (lit_news (hI.seg 0 rfl)) (by simp [Value.oneCell']) (by omega) (by omega) ?_)
  clear hI hE a w; intro v6 s7 w hR8 hI a hE
  obtain ⟨A9, c10, rfl, _⟩ := hR8.slice
  replace hI := hI.erase 0
  try simp only [nrm, Value.cells] at hI
  refine za hE ?_; clear hE a; intro a hE
  refine wpList_nil ?_
  refine blk_normal ?_
  refine then_normal ?_
  refine wp_region_list ?_
  refine zm hE ?_; clear hE a; intro a hE
  refine zs hE (p_arith (z := ((i + 1 : Nat) : Int)) rfl rfl (add_z (by omega) (by omega) (by omega))) ?_; clear hE a; intro a hE
  refine za hE ?_; clear hE a; intro a hE
  refine wnt ?_
  exact ⟨(i + 1, _, _), hE.pick [0, 3, 4], ⟨by show i + 1 ≤ bs.length; omega, Row.cast hR8 (bytes_step (by omega)) rfl, hI⟩, by show bs.length - (i + 1) < bs.length - i; omega⟩
 intro hlt; replace hlt := lss_f hlt; clear hE a; intro a hE
 refine wnt ?_
 refine c_false hE rfl ?_
 refine wp_exit ?_
 refine then_exit ?_
 refine then_exit ?_
 refine blk_same ?_
 refine then_normal ?_
 refine wsr ?_
 refine zm hE ?_; clear hE a; intro a hE
 refine za hE ?_; clear hE a; intro a hE
 refine wnt ?_
 refine wp_ret ?_
 refine ret1 rfl hE rfl ?_
 obtain rfl : i = bs.length := by omega
 exact ⟨_, Row.cast hR (by rw [List.take_length]) rfl, hI⟩
end Go.Proofs.YtbogbnkckofpdaaDoor.B
