/- What functions of the program compute, each function once: steps over the model, and the plain law of it. -/
import Derived.Test.YtbogbnkckofpdaaDoorTTreeRel
import Derived.Test.YtbogbnkckofpdaaDoorSLogB
namespace Go.Proofs.YtbogbnkckofpdaaDoor.B
open Go Go.Proofs
set_option linter.unusedVariables false
set_option linter.unusedSimpArgs false
set_option maxRecDepth 20000
set_option maxHeartbeats 8000000
namespace FTKeys
theorem scal_22 : isScal Tryd.prog 22 = true := by kernel_rfl
theorem sz_22 : (Tryd.prog.info? 22).map (·.size) = some 1 := by kernel_rfl
end FTKeys
open FTKeys
/-- A row of bytes, as an element. -/
def BsR (D : Sto) (vs : List Value) (x : Bs) : Prop := ∃ v, vs = [v] ∧ RB D v x
theorem BsR.keeps : Keeps BsR := fun D D' vs x hD h => by obtain ⟨v, rfl, h⟩ := h; exact ⟨v, rfl, h.mono hD⟩
theorem Keys_spec {w0 w : World} {D : Sto} {ss : List Seg} (hI : Inv w0 D ss w) {vl : Value} {l : List Bs} (hl : DR 1 BsR D vl l) {most long : Int} (hm : most ≤ 1000000000) :
    Calls Tryd.prog 31 #[vl, .int .i64 most, .int .i64 long] w (Ret fun r w' => r = .bool (decide ((l.length : Int) ≤ most ∧ ∀ k ∈ l, (k.length : Int) ≤ long)) ∧ Inv w0 D ss w') := by
  obtain ⟨A1, c2, rfl, _⟩ := hl.slice
  refine enter (N := 25) Tryd.func31 rfl rfl rfl ?_
  intro a hE
  refine wsr ?_
  refine qa hE rfl rfl rfl rfl rfl ?_; clear hE a; intro a hE
  refine wnt ?_
  refine wp_seq ?_
  refine wsr ?_
  refine qm hE rfl rfl rfl rfl rfl ?_; clear hE a; intro a hE
  refine qs hE rfl rfl rfl (p_len rfl rfl Tryd.underlying50) ?_; clear hE a; intro a hE
  refine qm hE rfl rfl rfl rfl rfl ?_; clear hE a; intro a hE
  refine l_step rfl (o_cmp hE rfl rfl rfl rfl rfl rfl ?_ ?_)
  · intro hgt; replace hgt := gtr_t hgt; clear hE a; intro a hE
    refine wnt ?_
    refine c_true hE rfl ?_
    refine wsr ?_
    refine qa hE rfl rfl rfl rfl rfl ?_; clear hE a; intro a hE
    refine wnt ?_
    refine wp_ret ?_
    refine then_ret ?_
    refine ret1 rfl hE rfl ?_
    exact ⟨by congr 1; symm; rw [decide_eq_false_iff_not]; intro hh; omega, hI⟩
  intro hgt; replace hgt := gtr_f hgt; clear hE a; intro a hE
  refine wnt ?_
  refine c_false hE rfl ?_
  refine wp_skip ?_
  refine then_normal ?_
  refine wp_seq ?_
  refine wsr ?_
  refine qa hE rfl rfl rfl rfl rfl ?_; clear hE a; intro a hE
  refine wnt ?_
  refine wp_block ?_
  refine c_loop (X := Nat) (fun x => [(0, _), (1, _), (2, _), (7, .int .i64 (x : Nat))]) (fun x w => x ≤ l.length ∧ (∀ k ∈ l.take x, (k.length : Int) ≤ long) ∧ Inv w0 D ss w) (fun x => l.length - x) 0 (hE.pick [0, 1, 2, 7]) ⟨Nat.zero_le _, by simp, hI⟩ ?_
  clear hE hI a w
  rintro i a w hE ⟨hi, hall, hI⟩
  try dsimp only at hE
  try dsimp only at hi
  try dsimp only at hall
  try dsimp only at hI
  refine wp_seq ?_
  refine wsr ?_
  refine qm hE rfl rfl rfl rfl rfl ?_; clear hE a; intro a hE
  refine qm hE rfl rfl rfl rfl rfl ?_; clear hE a; intro a hE
  refine qs hE rfl rfl rfl (p_len rfl rfl Tryd.underlying50) ?_; clear hE a; intro a hE
  refine l_step rfl (o_cmp hE rfl rfl rfl rfl rfl rfl ?_ ?_)
  · intro hlt; replace hlt := lss_t hlt; clear hE a; intro a hE
    refine wnt ?_
    refine c_true hE rfl ?_
    refine wp_skip ?_
    refine then_normal ?_
    refine wp_seq ?_
    refine wp_block ?_
    refine wsr ?_
    refine qm hE rfl rfl rfl rfl rfl ?_; clear hE a; intro a hE
    refine qm hE rfl rfl rfl rfl rfl ?_; clear hE a; intro a hE
    obtain ⟨x_3, hx_3⟩ : ∃ z9, (l)[i]? = some z9 := ⟨_, List.getElem?_eq_getElem (by omega)⟩
    obtain ⟨b_3, o_3, cs_3, T_3, fr_3, rfl, hb_3, hat_3⟩ := hl.at_ (by intro h0; rw [h0] at hx_3; simp at hx_3)
    obtain ⟨vs_3, hl_3, ⟨k_3, rfl, hk_3⟩, hex_3, hsz_3, hce_3⟩ := hat_3.extract hx_3 (by omega)
    obtain ⟨A4, c5, rfl, _⟩ := hk_3.slice
    refine qs hE rfl rfl rfl (p_indexAddr (m := o_3 + i * 1) rfl rfl Tryd.underlying50 sz_22 (by omega) (by omega) (by simp)) ?_; clear hE a; intro a hE
    refine ql hE rfl rfl rfl (r_load rfl scal_22 (hI.data _ _ (hb_3)) (hce_3 0 _ rfl)) ?_; clear hE a; intro a hE
    refine qs hE rfl rfl rfl (p_len rfl rfl Tryd.underlying22) ?_; clear hE a; intro a hE
    refine qm hE rfl rfl rfl rfl rfl ?_; clear hE a; intro a hE
    refine l_step rfl (o_cmp hE rfl rfl rfl rfl rfl rfl ?_ ?_)
    · intro hlong; replace hlong := gtr_t hlong; clear hE a; intro a hE
      refine wnt ?_
      refine c_true hE rfl ?_
      refine wsr ?_
      refine qa hE rfl rfl rfl rfl rfl ?_; clear hE a; intro a hE
      refine wnt ?_
      refine wp_ret ?_
      refine blk_ret ?_
      refine then_ret ?_
      refine then_ret ?_
      refine blk_ret ?_
      refine then_ret ?_
      refine ret1 rfl hE rfl ?_
      exact ⟨by congr 1; symm; rw [decide_eq_false_iff_not]; intro hh; have := hh.2 x_3 (List.mem_of_getElem? hx_3); omega, hI⟩
    intro hlong; replace hlong := gtr_f hlong; clear hE a; intro a hE
    refine wnt ?_
    refine c_false hE rfl ?_
    refine wp_skip ?_
    refine blk_normal ?_
    refine then_normal ?_
    refine wp_region_list ?_
    refine qm hE rfl rfl rfl rfl rfl ?_; clear hE a; intro a hE
    refine qs hE rfl rfl rfl (p_arith (z := ((i + 1 : Nat) : Int)) rfl rfl (add_z (by omega) (by omega) (by omega))) ?_; clear hE a; intro a hE
    refine qa hE rfl rfl rfl rfl rfl ?_; clear hE a; intro a hE
    refine wnt ?_
    exact ⟨i + 1, hE.pick [0, 1, 2, 7], ⟨by show i + 1 ≤ _; omega, fun k hk => by
        rw [List.take_add_one, hx_3] at hk
        rcases List.mem_append.1 hk with q | q
        · exact hall k q
        have : k = x_3 := by simpa using q
        subst this; omega, hI⟩, by show l.length - (i + 1) < l.length - i; omega⟩
  intro hlt; replace hlt := lss_f hlt; clear hE a; intro a hE
  refine wnt ?_
  refine c_false hE rfl ?_
  refine wp_exit ?_
  refine then_exit ?_
  refine then_exit ?_
  refine blk_same ?_
  refine then_normal ?_
  refine wsr ?_
  refine qa hE rfl rfl rfl rfl rfl ?_; clear hE a; intro a hE
  refine wnt ?_
  refine wp_ret ?_
  refine ret1 rfl hE rfl ?_
  exact ⟨by congr 1; symm; rw [decide_eq_true_eq]; exact ⟨by omega, fun k hk => hall k (by rw [List.take_of_length_le (by omega)]; exact hk)⟩, hI⟩
end Go.Proofs.YtbogbnkckofpdaaDoor.B
