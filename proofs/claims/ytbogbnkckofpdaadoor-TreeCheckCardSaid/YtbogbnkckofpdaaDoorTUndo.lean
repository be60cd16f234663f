/- What functions of the program compute, each function once: steps over the model, and the plain law of it. -/
import Derived.Test.YtbogbnkckofpdaaDoorTWirePure
import Derived.Test.YtbogbnkckofpdaaDoorProg
namespace Go.Proofs.YtbogbnkckofpdaaDoor.B
open Go Go.Proofs
set_option linter.unusedVariables false
set_option linter.unusedSimpArgs false
set_option maxRecDepth 20000
set_option maxHeartbeats 8000000
namespace FTUndo
theorem ent_54 : enters Tryd.prog 54 = true := by kernel_rfl
theorem scal_25 : isScal Tryd.prog 25 = true := by kernel_rfl
theorem scal_5 : isScal Tryd.prog 5 = true := by kernel_rfl
theorem sz_5 : (Tryd.prog.info? 5).map (·.size) = some 1 := by kernel_rfl
theorem zs_5 : (Tryd.prog.info? 5).map (fun i => (i.zero, i.size)) = some (some (.int .u8 0), 1) := by kernel_rfl
theorem zsb_5 : (Tryd.prog.info? 5).map (fun i => (i.zero, i.size, i.bytes)) = some (some (.int .u8 0), 1, 1) := by kernel_rfl
end FTUndo
open FTUndo
def Ans (p : Prop) (R : World → Prop) (r : Value) (w : World) : Prop := (r = .bool true ∧ p ∧ R w) ∨ (r = .bool false ∧ ¬ p ∧ R w)
def ltB : List Nat → List Nat → Bool
 | _, [] => false
 | [], _ :: _ => true
 | a :: xs, b :: ys => if a = b then ltB xs ys else decide (a < b)
theorem take_step {ka kb : List Nat} {i : Nat} (h1 : i < ka.length) (h2 : i < kb.length) (ht : ka.take i = kb.take i) (he0 : ((ka.getD ((i : Nat) : Int).toNat 0 : Nat) : Int) = ((kb.getD ((i : Nat) : Int).toNat 0 : Nat) : Int)) : ka.take (i + 1) = kb.take (i + 1) := by
 have he : ka.getD i 0 = kb.getD i 0 := Int.ofNat.inj he0
 simp only [List.getD_eq_getElem?_getD, List.getElem?_eq_getElem h1, List.getElem?_eq_getElem h2, Option.getD_some] at he
 rw [List.take_succ_eq_append_getElem h1, List.take_succ_eq_append_getElem h2, ht, he]
theorem ltB_append (p : List Nat) : ∀ (a b : List Nat), ltB (p ++ a) (p ++ b) = ltB a b := by
 induction p with
 | nil => intro a b; rfl
 | cons x p ih => intro a b; simp [ltB, ih]
theorem lt_mis {ka kb : List Nat} {i : Nat} (h1 : i < ka.length) (h2 : i < kb.length) (ht : ka.take i = kb.take i) (he0 : ((ka.getD ((i : Nat) : Int).toNat 0 : Nat) : Int) ≠ ((kb.getD ((i : Nat) : Int).toNat 0 : Nat) : Int)) :
  (ltB ka kb = true) = (((ka.getD ((i : Nat) : Int).toNat 0 : Nat) : Int) < ((kb.getD ((i : Nat) : Int).toNat 0 : Nat) : Int)) := by
 have he : ka.getD i 0 ≠ kb.getD i 0 := fun e => he0 (congrArg Int.ofNat e)
 simp only [Int.toNat_natCast, Int.ofNat_lt]
 have e1 : ka = ka.take i ++ ka[i] :: ka.drop (i + 1) := by rw [← List.drop_eq_getElem_cons h1, List.take_append_drop]
 have e2 : kb = kb.take i ++ kb[i] :: kb.drop (i + 1) := by rw [← List.drop_eq_getElem_cons h2, List.take_append_drop]
 simp only [List.getD_eq_getElem?_getD, List.getElem?_eq_getElem h1, List.getElem?_eq_getElem h2, Option.getD_some] at he ⊢
 generalize ka[i] = x at *
 generalize kb[i] = y at *
 rw [e1, e2, ht, ltB_append]
 simp [ltB, he]
theorem lt_end {ka kb : List Nat} {i : Nat} (h1 : i ≤ ka.length) (h2 : i ≤ kb.length) (h3 : i = ka.length ∨ i = kb.length) (ht : ka.take i = kb.take i) : (ltB ka kb = true) = (ka.length < kb.length) := by
 have e1 : ka = ka.take i ++ ka.drop i := (List.take_append_drop i ka).symm
 have e2 : kb = kb.take i ++ kb.drop i := (List.take_append_drop i kb).symm
 have l1 : (ka.drop i).length = ka.length - i := List.length_drop
 have l2 : (kb.drop i).length = kb.length - i := List.length_drop
 have h0 : ltB ka kb = ltB (ka.drop i) (kb.drop i) := by
  conv => lhs; rw [e1, e2, ht, ltB_append]
 rw [h0]
 cases hk : ka.drop i with
 | nil => cases hb : kb.drop i with
  | nil =>
   simp only [hk, hb, List.length_nil] at l1 l2
   simp only [ltB, Bool.false_eq_true, eq_iff_iff, false_iff]; omega
  | cons y ys =>
   simp only [hk, hb, List.length_nil, List.length_cons] at l1 l2
   simp only [ltB, eq_iff_iff, true_iff]; omega
 | cons x xs => cases hb : kb.drop i with
  | nil =>
   simp only [hk, hb, List.length_nil, List.length_cons] at l1 l2
   simp only [ltB, Bool.false_eq_true, eq_iff_iff, false_iff]; omega
  | cons y ys =>
   simp only [hk, hb, List.length_cons] at l1 l2
   omega
theorem Ahead_spec {w0 w : World} {D : Sto} {ss : List Seg} (hI : Inv w0 D ss w) {va vb : Value} {ka kb : List Nat} (ha : RB D va ka) (hb : RB D vb kb) (hm : ka.length ≤ 9223372036854775806) :
  Calls Tryd.prog 17 #[va, vb] w (Ret fun r w' => Ans (ltB ka kb = true) (Inv w0 D ss) r w') := by
 obtain ⟨A1, c2, rfl, _⟩ := ha.slice
 obtain ⟨A3, c4, rfl, _⟩ := hb.slice
 refine enter (N := 41) Tryd.func17 rfl rfl rfl ?_
 intro a hE
 refine wsr ?_
 refine za hE ?_; clear hE a; intro a hE
 refine wnt ?_
 refine wp_seq ?_
 refine wsr ?_
 refine za hE ?_; clear hE a; intro a hE
 refine wnt ?_
 refine wp_block ?_
 refine c_loop (X := Nat) (fun x => [(0, _), (1, _), (5, .int .i64 (x : Nat))]) (fun x w => x ≤ ka.length ∧ (x ≤ kb.length ∧ ka.take x = kb.take x) ∧ Inv w0 D ss w) (fun x => ka.length - x) 0 (hE.pick [0, 1, 5]) ⟨Nat.zero_le _, ⟨Nat.zero_le _, rfl⟩, hI⟩ ?_
 clear hE hI a w
 rintro i a w hE ⟨hi, ht, hI⟩
 try dsimp only at hE
 try dsimp only at hi
 try dsimp only at ht
 try dsimp only at hI
 refine wp_seq ?_
 refine wsr ?_
 refine zm hE ?_; clear hE a; intro a hE
 refine zm hE ?_; clear hE a; intro a hE
 refine zs hE (p_len rfl rfl Tryd.underlying22) ?_; clear hE a; intro a hE
 refine l_step rfl (o_cmp hE rfl rfl rfl rfl rfl rfl ?_ ?_)
 ·intro hlt; replace hlt := lss_t hlt; clear hE a; intro a hE
  refine zm hE ?_; clear hE a; intro a hE
  refine gs hE (p_move rfl) ?_; clear hE a; intro a hE
  refine gs hE (p_move rfl) ?_; clear hE a; intro a hE
  refine gs hE (p_len rfl rfl Tryd.underlying22) ?_; clear hE a; intro a hE
  refine l_go hE rfl (o_cmp hE rfl rfl rfl rfl rfl rfl ?_ ?_)
  ·intro hlt2; replace hlt2 := lss_t hlt2; clear hE a; intro a hE
   refine zs hE (p_pick (b := true) rfl rfl) ?_; clear hE a; intro a hE
   refine wnt ?_
   refine c_true hE rfl ?_
   refine wp_skip ?_
   refine then_normal ?_
   refine wp_seq ?_
   refine wp_block ?_
   refine wp_seq ?_
   refine d_start [] [] (by kernel_rfl) hI rfl rfl ?_
   clear hI w; intro w hI
   refine dp 0 hE rfl (p_move rfl) (fun _ => hI) (listed' := #[true, false, false, false, false, false, false, false, false]) ?_; clear hE a; intro a hE
   refine dp 1 hE rfl (p_move rfl) (fun _ => hI) ?_; clear hE a; intro a hE
   obtain ⟨b_5, o_5, cs_5, T_5, fr_5, rfl, hb_5, hc_5⟩ := ha.at_ (List.ne_nil_of_length_pos (by omega))
   refine dp 2 hE rfl (p_indexAddr rfl rfl Tryd.underlying22 sz_5 (by omega) (by omega) rfl) (fun _ => hI) ?_; clear hE a; intro a hE
   refine dl 3 hE rfl (fun w hS => r_load rfl scal_5 (Inv.data hS _ _ (hb_5)) (RB.cell hc_5 (by omega) (by omega))) (hI) ?_; clear hE a; intro a hE
   refine dp 4 hE rfl (p_move rfl) (fun _ => hI) ?_; clear hE a; intro a hE
   refine dp 5 hE rfl (p_move rfl) (fun _ => hI) ?_; clear hE a; intro a hE
   obtain ⟨b_6, o_6, cs_6, T_6, fr_6, rfl, hb_6, hc_6⟩ := hb.at_ (List.ne_nil_of_length_pos (by omega))
   refine dp 6 hE rfl (p_indexAddr rfl rfl Tryd.underlying22 sz_5 (by omega) (by omega) rfl) (fun _ => hI) ?_; clear hE a; intro a hE
   refine dl 7 hE rfl (fun w hS => r_load rfl scal_5 (Inv.data hS _ _ (hb_6)) (RB.cell hc_6 (by omega) (by omega))) (hI) ?_; clear hE a; intro a hE
   refine d_cmp 8 hE rfl (by kernel_rfl) (by kernel_rfl) (by kernel_rfl) rfl (fun _ _ _ _ h => h) rfl rfl rfl rfl rfl rfl rfl (fun _ => hI) (listed' := #[true, true, true, true, true, true, true, true, true]) rfl ?_ ?_
   ·intro he; replace he := neq_t he; clear hE a; intro a hE
    refine d_done (by kernel_rfl) ?_
    refine then_normal ?_
    refine c_true hE rfl ?_
    refine wp_seq ?_
    refine d_start [] [] (by kernel_rfl) hI rfl rfl ?_
    clear hI w; intro w hI
    refine dp 0 hE rfl (p_move rfl) (fun _ => hI) (listed' := #[true, false, false, false, false, false, false, false, false, false]) ?_; clear hE a; intro a hE
    refine dp 1 hE rfl (p_move rfl) (fun _ => hI) ?_; clear hE a; intro a hE
    refine dp 2 hE rfl (p_indexAddr rfl rfl Tryd.underlying22 sz_5 (by omega) (by omega) rfl) (fun _ => hI) ?_; clear hE a; intro a hE
    refine dl 3 hE rfl (fun w hS => r_load rfl scal_5 (Inv.data hS _ _ (hb_5)) (RB.cell hc_5 (by omega) (by omega))) (hI) ?_; clear hE a; intro a hE
    refine dp 4 hE rfl (p_move rfl) (fun _ => hI) ?_; clear hE a; intro a hE
    refine dp 5 hE rfl (p_move rfl) (fun _ => hI) ?_; clear hE a; intro a hE
    refine dp 6 hE rfl (p_indexAddr rfl rfl Tryd.underlying22 sz_5 (by omega) (by omega) rfl) (fun _ => hI) ?_; clear hE a; intro a hE
    refine dl 7 hE rfl (fun w hS => r_load rfl scal_5 (Inv.data hS _ _ (hb_6)) (RB.cell hc_6 (by omega) (by omega))) (hI) ?_; clear hE a; intro a hE
    refine d_cmp 8 hE rfl (by kernel_rfl) (by kernel_rfl) (by kernel_rfl) rfl (fun _ _ _ _ h => h) rfl rfl rfl rfl rfl rfl rfl (fun _ => hI) (listed' := #[true, true, true, true, true, true, true, true, true, false]) rfl ?_ ?_
    ·intro hz; replace hz := lss_t hz; clear hE a; intro a hE
     refine dp 9 hE rfl (p_assign rfl) (fun _ => hI) ?_; clear hE a; intro a hE
     refine d_done (by kernel_rfl) ?_
     refine then_normal ?_
     refine wp_ret ?_
     refine blk_ret ?_
     refine then_ret ?_
     refine then_ret ?_
     refine blk_ret ?_
     refine then_ret ?_
     refine ret1 rfl hE rfl ?_
     exact .inl ⟨rfl, by first | (rw [lt_mis (by omega) (by omega) ht.2 he]; omega) | (rw [lt_end (by omega) (by omega) (by omega) ht.2]; omega), hI⟩
    intro hz; replace hz := lss_f hz; clear hE a; intro a hE
    refine dp 9 hE rfl (p_assign rfl) (fun _ => hI) ?_; clear hE a; intro a hE
    refine d_done (by kernel_rfl) ?_
    refine then_normal ?_
    refine wp_ret ?_
    refine blk_ret ?_
    refine then_ret ?_
    refine then_ret ?_
    refine blk_ret ?_
    refine then_ret ?_
    refine ret1 rfl hE rfl ?_
    exact .inr ⟨rfl, by first | (rw [lt_mis (by omega) (by omega) ht.2 he]; omega) | (rw [lt_end (by omega) (by omega) (by omega) ht.2]; omega), hI⟩
   intro he; replace he := neq_f he; clear hE a; intro a hE
   refine d_done (by kernel_rfl) ?_
   refine then_normal ?_
   refine c_false hE rfl ?_
   refine wp_skip ?_
   refine blk_normal ?_
   refine then_normal ?_
   refine wp_region_list ?_
   refine zm hE ?_; clear hE a; intro a hE
   refine zs hE (p_arith (z := ((i + 1 : Nat) : Int)) rfl rfl (add_z (by omega) (by omega) (by omega))) ?_; clear hE a; intro a hE
   refine za hE ?_; clear hE a; intro a hE
   refine wnt ?_
   exact ⟨i + 1, hE.pick [0, 1, 5], ⟨by omega, ⟨by omega, take_step (by omega) (by omega) ht.2 he⟩, hI⟩, by show ka.length - (i + 1) < ka.length - i; omega⟩
  intro hlt2; replace hlt2 := lss_f hlt2; clear hE a; intro a hE
  refine zs hE (p_pick (b := true) rfl rfl) ?_; clear hE a; intro a hE
  refine wnt ?_
  refine c_false hE rfl ?_
  refine wp_exit ?_
  refine then_exit ?_
  refine then_exit ?_
  refine blk_same ?_
  refine then_normal ?_
  refine wsr ?_
  refine zm hE ?_; clear hE a; intro a hE
  refine zs hE (p_len rfl rfl Tryd.underlying22) ?_; clear hE a; intro a hE
  refine zm hE ?_; clear hE a; intro a hE
  refine zs hE (p_len rfl rfl Tryd.underlying22) ?_; clear hE a; intro a hE
  refine l_step rfl (o_cmp hE rfl rfl rfl rfl rfl rfl ?_ ?_)
  ·intro hz; replace hz := lss_t hz; clear hE a; intro a hE
   refine za hE ?_; clear hE a; intro a hE
   refine wnt ?_
   refine wp_ret ?_
   refine ret1 rfl hE rfl ?_
   exact .inl ⟨rfl, by first | (rw [lt_mis (by omega) (by omega) ht.2 he]; omega) | (rw [lt_end (by omega) (by omega) (by omega) ht.2]; omega), hI⟩
  intro hz; replace hz := lss_f hz; clear hE a; intro a hE
  refine za hE ?_; clear hE a; intro a hE
  refine wnt ?_
  refine wp_ret ?_
  refine ret1 rfl hE rfl ?_
  exact .inr ⟨rfl, by first | (rw [lt_mis (by omega) (by omega) ht.2 he]; omega) | (rw [lt_end (by omega) (by omega) (by omega) ht.2]; omega), hI⟩
 intro hlt; replace hlt := lss_f hlt; clear hE a; intro a hE
 refine zm hE ?_; clear hE a; intro a hE
 refine zk hE ?_; clear hE a; intro a hE
 refine zk hE ?_; clear hE a; intro a hE
 refine zk hE ?_; clear hE a; intro a hE
 refine zk hE ?_; clear hE a; intro a hE
 refine zs hE (p_pick (b := false) rfl rfl) ?_; clear hE a; intro a hE
 refine wnt ?_
 refine c_false hE rfl ?_
 refine wp_exit ?_
 refine then_exit ?_
 refine then_exit ?_
 refine blk_same ?_
 refine then_normal ?_
 refine wsr ?_
 refine zm hE ?_; clear hE a; intro a hE
 refine zs hE (p_len rfl rfl Tryd.underlying22) ?_; clear hE a; intro a hE
 refine zm hE ?_; clear hE a; intro a hE
 refine zs hE (p_len rfl rfl Tryd.underlying22) ?_; clear hE a; intro a hE
 refine l_step rfl (o_cmp hE rfl rfl rfl rfl rfl rfl ?_ ?_)
 ·intro hz; replace hz := lss_t hz; clear hE a; intro a hE
  refine za hE ?_; clear hE a; intro a hE
  refine wnt ?_
  refine wp_ret ?_
  refine ret1 rfl hE rfl ?_
  exact .inl ⟨rfl, by first | (rw [lt_mis (by omega) (by omega) ht.2 he]; omega) | (rw [lt_end (by omega) (by omega) (by omega) ht.2]; omega), hI⟩
 intro hz; replace hz := lss_f hz; clear hE a; intro a hE
 refine za hE ?_; clear hE a; intro a hE
 refine wnt ?_
 refine wp_ret ?_
 refine ret1 rfl hE rfl ?_
 exact .inr ⟨rfl, by first | (rw [lt_mis (by omega) (by omega) ht.2 he]; omega) | (rw [lt_end (by omega) (by omega) (by omega) ht.2]; omega), hI⟩
theorem in_spec {w0 w : World} {D : Sto} {ss : List Seg} (hI : Inv w0 D ss w) (n m : Int) :
  Calls Tryd.prog 54 #[.int .i64 n, .int .i64 m] w (Ret fun r w' => Ans (0 ≤ n ∧ n < m) (Inv w0 D ss) r w') := by
 refine enter (N := 12) Tryd.func54 rfl rfl rfl ?_
 intro a hE
 refine wsr ?_
 refine za hE ?_; clear hE a; intro a hE
 refine wnt ?_
 refine wsr ?_
 refine zm hE ?_; clear hE a; intro a hE
 refine l_step rfl (o_cmp hE rfl rfl rfl rfl rfl rfl ?_ ?_)
 ·intro h1; replace h1 := geq_t h1; clear hE a; intro a hE
  refine zm hE ?_; clear hE a; intro a hE
  refine gs hE (p_move rfl) ?_; clear hE a; intro a hE
  refine gs hE (p_move rfl) ?_; clear hE a; intro a hE
  refine l_go hE rfl (o_cmp hE rfl rfl rfl rfl rfl rfl ?_ ?_)
  ·intro h2; replace h2 := lss_t h2; clear hE a; intro a hE
   refine zs hE (p_pick (b := true) rfl rfl) ?_; clear hE a; intro a hE
   refine za hE ?_; clear hE a; intro a hE
   refine wnt ?_
   refine wp_ret ?_
   refine ret1 rfl hE rfl ?_
   exact .inl ⟨rfl, by omega, hI⟩
  intro h2; replace h2 := lss_f h2; clear hE a; intro a hE
  refine zs hE (p_pick (b := true) rfl rfl) ?_; clear hE a; intro a hE
  refine za hE ?_; clear hE a; intro a hE
  refine wnt ?_
  refine wp_ret ?_
  refine ret1 rfl hE rfl ?_
  exact .inr ⟨rfl, by omega, hI⟩
 intro h1; replace h1 := geq_f h1; clear hE a; intro a hE
 refine zm hE ?_; clear hE a; intro a hE
 refine zk hE ?_; clear hE a; intro a hE
 refine zk hE ?_; clear hE a; intro a hE
 refine zk hE ?_; clear hE a; intro a hE
 refine zs hE (p_pick (b := false) rfl rfl) ?_; clear hE a; intro a hE
 refine za hE ?_; clear hE a; intro a hE
 refine wnt ?_
 refine wp_ret ?_
 refine ret1 rfl hE rfl ?_
 exact .inr ⟨rfl, by omega, hI⟩
theorem Page_spec {w0 w : World} {D : Sto} {ss : List Seg} (hI : Inv w0 D ss w) (n : Int) :
  Calls Tryd.prog 19 #[.int .i64 n] w (Ret fun r w' => Ans (0 ≤ n ∧ n < 256) (Inv w0 D ss) r w') := by
 refine enter (N := 5) Tryd.func19 rfl rfl rfl ?_
 intro a hE
 refine wsr ?_
 refine za hE ?_; clear hE a; intro a hE
 refine wnt ?_
 refine wsr ?_
 refine zm hE ?_; clear hE a; intro a hE
 refine l_step rfl (o_call hE rfl rfl rfl rfl ent_54 (in_spec hI n 256) ?_)
 clear hI hE a
 rintro r w h a hE; rcases h with ⟨rfl, hx, hI⟩ | ⟨rfl, hx, hI⟩
 ·skip
  refine za hE ?_; clear hE a; intro a hE
  refine wnt ?_
  refine wp_ret ?_
  refine ret1 rfl hE rfl ?_
  exact .inl ⟨rfl, hx, hI⟩
 refine za hE ?_; clear hE a; intro a hE
 refine wnt ?_
 refine wp_ret ?_
 refine ret1 rfl hE rfl ?_
 exact .inr ⟨rfl, hx, hI⟩
end Go.Proofs.YtbogbnkckofpdaaDoor.B
