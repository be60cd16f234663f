/- What functions of the program compute, each function once: steps over the model, and the plain law of it. -/
import Derived.Test.YtbogbnkckofpdaaDoorTWire
namespace Go.Proofs.YtbogbnkckofpdaaDoor.B
open Go Go.Proofs
set_option linter.unusedVariables false
set_option linter.unusedSimpArgs false
set_option maxRecDepth 20000
set_option maxHeartbeats 8000000
namespace FTWire2
theorem ent_102 : enters Tryd.prog 102 = true := by kernel_rfl
theorem ent_103 : enters Tryd.prog 103 = true := by kernel_rfl
theorem ent_127 : enters Tryd.prog 127 = true := by kernel_rfl
theorem ent_63 : enters Tryd.prog 63 = true := by kernel_rfl
theorem ent_73 : enters Tryd.prog 73 = true := by kernel_rfl
theorem fo_156_0 : fieldOff Tryd.prog 156 0 = some 0 := by kernel_rfl
theorem fo_156_1 : fieldOff Tryd.prog 156 1 = some 1 := by kernel_rfl
theorem fo_156_2 : fieldOff Tryd.prog 156 2 = some 2 := by kernel_rfl
theorem scal_22 : isScal Tryd.prog 22 = true := by kernel_rfl
theorem scal_25 : isScal Tryd.prog 25 = true := by kernel_rfl
theorem scal_3 : isScal Tryd.prog 3 = true := by kernel_rfl
theorem sz_3 : (Tryd.prog.info? 3).map (·.size) = some 1 := by kernel_rfl
theorem sz_5 : (Tryd.prog.info? 5).map (·.size) = some 1 := by kernel_rfl
end FTWire2
open FTWire2
theorem getN_64 {l : List Nat} {z k : Nat} (hl : ∀ x ∈ l, x < 256) {p : Nat} (h : getN (l.drop p) 0 0 = .inr (z, k)) : z < 18446744073709551616 := by
  obtain ⟨z1, rest, h1, _, _, _, h5⟩ := getN_inv _ 0 0 z k (fun x hx => hl x (List.mem_of_mem_drop hx)) h (by omega)
  simp at h1 h5
  omega
theorem Num_spec {w0 w : World} {D : Sto} {ss : List Seg} {s : Seg} {ad : Nat → Addr} {b : Nat} {rd : Rd} (hI : Inv w0 D (s :: ss) w) (hR : RdSeg D ad b rd s) (g101 : GlobIs D 2 (errV ad 101)) (g103 : GlobIs D 1 (errV ad 103)) (g105 : GlobIs D 0 (errV ad 105)) (low high : Int) :
    Calls Tryd.prog 102 #[.pointer (some ⟨b, 0, none⟩), .int .i64 low, .int .i64 high] w (Ret fun r w' => ∃ D' s', Le D D' ∧ Inv w0 D' (s' :: ss) w' ∧ r = .int .i64 (rd.num low high).1 ∧ RdSeg D' ad b (rd.num low high).2 s') := by
  obtain ⟨vb, ve, rfl, hb, he, hok⟩ := hR
  obtain ⟨Ab, cb, rfl, _⟩ := hb.slice
  have hle := hok.le
  have hmost := hok.most
  refine enter (N := 48) Tryd.func102 rfl rfl rfl ?_
  intro a hE
  refine wp_seq ?_
  refine wp_region_list ?_   -- region 0
  refine l_step rfl (o_pure hE rfl rfl (p_assign rfl).run ?_); clear hE a; intro a hE
  refine wpList_nil ?_
  refine then_normal ?_
  refine wp_seq ?_
  refine wp_seq ?_
  refine wp_region_list ?_   -- region 1
  refine l_step rfl (o_pure hE rfl rfl (p_move rfl).run ?_); clear hE a; intro a hE
  refine l_step rfl (o_pure hE rfl rfl (p_nilCheck rfl).run ?_); clear hE a; intro a hE
  refine l_step rfl (o_pure hE rfl rfl (p_fieldAddr (m := 2) rfl fo_156_2 rfl).run ?_); clear hE a; intro a hE
  refine l_step rfl (o_pure hE rfl rfl (f_load rfl scal_25 (hI.seg 0 rfl) rfl) ?_); clear hE a; intro a hE
  rcases (he).two with ⟨rfl, hx1⟩ | ⟨t_2, u_3, rfl, hx1⟩
  · skip
    refine l_step rfl (o_pure hE rfl rfl (p_ifaceNil Tryd.underlying25 rfl rfl rfl).run ?_); clear hE a; intro a hE
    refine wpList_nil ?_
    refine then_normal ?_
    refine c_false hE rfl ?_
    refine wp_skip ?_
    refine then_normal ?_
    refine wp_seq ?_
    refine wp_region_list ?_   -- region 3
    refine l_step rfl (o_pure hE rfl rfl (p_move rfl).run ?_); clear hE a; intro a hE
    refine l_step rfl (o_call hE rfl rfl rfl rfl ent_127 (number_spec hI ⟨_, _, rfl, hb, he, hok⟩ g101 g103) ?_)
    clear hI hE a
    rintro r w h a hE; rcases h with ⟨e, hn, rfl, hI⟩ | ⟨z, k, hn, rfl, hI⟩
    · skip
      refine l_step rfl (o_pure hE rfl rfl (p_move rfl).run ?_); clear hE a; intro a hE
      refine l_step rfl (o_pure hE rfl rfl (f_extract rfl rfl).run ?_); clear hE a; intro a hE
      refine l_step rfl (o_pure hE rfl rfl (f_extract rfl rfl).run ?_); clear hE a; intro a hE
      refine l_step rfl (o_pure hE rfl rfl (f_extract rfl rfl).run ?_); clear hE a; intro a hE
      refine l_step rfl (o_pure hE rfl rfl (p_assign rfl).run ?_); clear hE a; intro a hE
      refine l_step rfl (o_pure hE rfl rfl (p_assign rfl).run ?_); clear hE a; intro a hE
      refine l_step rfl (o_pure hE rfl rfl (p_assign rfl).run ?_); clear hE a; intro a hE
      refine wpList_nil ?_
      refine then_normal ?_
      refine wp_seq ?_
      refine wp_seq ?_
      refine wp_region_list ?_   -- region 4
      refine l_step rfl (o_pure hE rfl rfl (p_move rfl).run ?_); clear hE a; intro a hE
      refine l_step rfl (o_pure hE rfl rfl (p_ifaceNil Tryd.underlying25 rfl rfl rfl).run ?_); clear hE a; intro a hE
      refine l_step rfl (o_pure hE rfl rfl (p_move rfl).run ?_); clear hE a; intro a hE
      refine l_skip hE rfl rfl rfl ?_; clear hE a; intro a hE
      refine l_skip hE rfl rfl rfl ?_; clear hE a; intro a hE
      refine l_skip hE rfl rfl rfl ?_; clear hE a; intro a hE
      refine l_skip hE rfl rfl rfl ?_; clear hE a; intro a hE
      refine l_skip hE rfl rfl rfl ?_; clear hE a; intro a hE
      refine l_skip hE rfl rfl rfl ?_; clear hE a; intro a hE
      refine l_skip hE rfl rfl rfl ?_; clear hE a; intro a hE
      refine l_skip hE rfl rfl rfl ?_; clear hE a; intro a hE
      refine l_step rfl (o_pure hE rfl rfl (p_pick (b := false) rfl rfl).run ?_); clear hE a; intro a hE
      refine wpList_nil ?_
      refine then_normal ?_
      refine c_false hE rfl ?_
      refine wp_skip ?_
      refine then_normal ?_
      refine wp_seq ?_
      refine wp_seq ?_
      refine wp_region_list ?_   -- region 6
      refine l_step rfl (o_pure hE rfl rfl (p_move rfl).run ?_); clear hE a; intro a hE
      refine l_step rfl (o_pure hE rfl rfl (p_ifaceNil Tryd.underlying25 rfl rfl rfl).run ?_); clear hE a; intro a hE
      refine wpList_nil ?_
      refine then_normal ?_
      refine c_true hE rfl ?_
      refine wp_seq ?_
      refine wp_region_list ?_   -- region 7
      refine l_step rfl (o_pure hE rfl rfl (p_move rfl).run ?_); clear hE a; intro a hE
      refine l_step rfl (o_pure hE rfl rfl (p_move rfl).run ?_); clear hE a; intro a hE
      refine l_step rfl (o_call hE rfl rfl rfl rfl ent_103 (fail_spec hI ⟨_, _, rfl, hb, he, hok⟩ e) ?_)
      clear hI hE a
      rintro r w ⟨rfl, D4, s1, hD5, hI, hR1⟩ a hE
      refine wpList_nil ?_
      refine then_normal ?_
      refine wp_seq ?_
      refine wp_region_list ?_   -- region 8
      refine l_step rfl (o_pure hE rfl rfl (p_assign rfl).run ?_); clear hE a; intro a hE
      refine wpList_nil ?_
      refine then_normal ?_
      refine wp_ret ?_
      refine then_ret ?_
      refine ret1 rfl hE rfl ?_
      refine ⟨_, s1, hD5, hI, ?_, ?_⟩
      · simp only [Rd.num, if_neg (show ¬ rd.err ≠ .none by rw [hx1]; simp), hn]
        try (first | rfl | (rw [if_pos (by omega)]; try rfl))
      · simp only [Rd.num, if_neg (show ¬ rd.err ≠ .none by rw [hx1]; simp), hn]
        first | exact hR1 | (rw [if_pos (by omega)]; exact hR1)
    · skip
      have hk := getN_end _ _ _ _ _ hn
      simp at hk
      have hz := getN_64 hb.lt hn
      refine l_step rfl (o_pure hE rfl rfl (p_move rfl).run ?_); clear hE a; intro a hE
      refine l_step rfl (o_pure hE rfl rfl (f_extract rfl rfl).run ?_); clear hE a; intro a hE
      refine l_step rfl (o_pure hE rfl rfl (f_extract rfl rfl).run ?_); clear hE a; intro a hE
      refine l_step rfl (o_pure hE rfl rfl (f_extract rfl rfl).run ?_); clear hE a; intro a hE
      refine l_step rfl (o_pure hE rfl rfl (p_assign rfl).run ?_); clear hE a; intro a hE
      refine l_step rfl (o_pure hE rfl rfl (p_assign rfl).run ?_); clear hE a; intro a hE
      refine l_step rfl (o_pure hE rfl rfl (p_assign rfl).run ?_); clear hE a; intro a hE
      refine wpList_nil ?_
      refine then_normal ?_
      refine wp_seq ?_
      refine wp_seq ?_
      refine wp_region_list ?_   -- region 4
      refine l_step rfl (o_pure hE rfl rfl (p_move rfl).run ?_); clear hE a; intro a hE
      refine l_step rfl (o_pure hE rfl rfl (p_ifaceNil Tryd.underlying25 rfl rfl rfl).run ?_); clear hE a; intro a hE
      refine l_step rfl (o_pure hE rfl rfl (p_move rfl).run ?_); clear hE a; intro a hE
      refine l_go hE rfl (o_pure hE rfl rfl (p_move rfl).run ?_); clear hE a; intro a hE
      refine l_go hE rfl (o_pure hE rfl rfl (p_move rfl).run ?_); clear hE a; intro a hE
      refine l_go hE rfl (o_cmp hE rfl rfl rfl rfl rfl rfl ?_ ?_)
      · intro h1; replace h1 := lss_t h1; clear hE a; intro a hE
        refine l_go hE rfl (o_pure hE rfl rfl (p_move rfl).run ?_); clear hE a; intro a hE
        refine l_skip hE rfl rfl rfl ?_; clear hE a; intro a hE
        refine l_skip hE rfl rfl rfl ?_; clear hE a; intro a hE
        refine l_skip hE rfl rfl rfl ?_; clear hE a; intro a hE
        refine l_go hE rfl (o_pure hE rfl rfl (p_pick (b := true) rfl rfl).run ?_); clear hE a; intro a hE
        refine l_step rfl (o_pure hE rfl rfl (p_pick (b := true) rfl rfl).run ?_); clear hE a; intro a hE
        refine wpList_nil ?_
        refine then_normal ?_
        refine c_true hE rfl ?_
        refine wp_region_list ?_   -- region 5
        obtain ⟨T_6, fr_6, hg_6⟩ := g105
        refine l_step rfl (o_pure hE rfl rfl (f_load rfl scal_25 (hI.data _ _ (hg_6)) rfl) ?_); clear hE a; intro a hE
        refine l_step rfl (o_pure hE rfl rfl (p_assign rfl).run ?_); clear hE a; intro a hE
        refine wpList_nil ?_
        refine then_normal ?_
        refine wp_seq ?_
        refine wp_seq ?_
        refine wp_region_list ?_   -- region 6
        refine l_step rfl (o_pure hE rfl rfl (p_move rfl).run ?_); clear hE a; intro a hE
        refine l_step rfl (o_pure hE rfl rfl (p_ifaceNil Tryd.underlying25 rfl rfl rfl).run ?_); clear hE a; intro a hE
        refine wpList_nil ?_
        refine then_normal ?_
        refine c_true hE rfl ?_
        refine wp_seq ?_
        refine wp_region_list ?_   -- region 7
        refine l_step rfl (o_pure hE rfl rfl (p_move rfl).run ?_); clear hE a; intro a hE
        refine l_step rfl (o_pure hE rfl rfl (p_move rfl).run ?_); clear hE a; intro a hE
        refine l_step rfl (o_call hE rfl rfl rfl rfl ent_103 (fail_spec hI ⟨_, _, rfl, hb, he, hok⟩ 105) ?_)
        clear hI hE a
        rintro r w ⟨rfl, D7, s1, hD8, hI, hR1⟩ a hE
        refine wpList_nil ?_
        refine then_normal ?_
        refine wp_seq ?_
        refine wp_region_list ?_   -- region 8
        refine l_step rfl (o_pure hE rfl rfl (p_assign rfl).run ?_); clear hE a; intro a hE
        refine wpList_nil ?_
        refine then_normal ?_
        refine wp_ret ?_
        refine then_ret ?_
        refine ret1 rfl hE rfl ?_
        refine ⟨_, s1, hD8, hI, ?_, ?_⟩
        · simp only [Rd.num, if_neg (show ¬ rd.err ≠ .none by rw [hx1]; simp), hn]
          try (first | rfl | (rw [if_pos (by omega)]; try rfl))
        · simp only [Rd.num, if_neg (show ¬ rd.err ≠ .none by rw [hx1]; simp), hn]
          first | exact hR1 | (rw [if_pos (by omega)]; exact hR1)
      · intro h1; replace h1 := lss_f h1; clear hE a; intro a hE
        refine l_go hE rfl (o_pure hE rfl rfl (p_move rfl).run ?_); clear hE a; intro a hE
        refine l_go hE rfl (o_pure hE rfl rfl (p_move rfl).run ?_); clear hE a; intro a hE
        refine l_go hE rfl (o_pure hE rfl rfl (p_move rfl).run ?_); clear hE a; intro a hE
        refine l_go hE rfl (o_cmp hE rfl rfl rfl rfl rfl rfl ?_ ?_)
        · intro h2; replace h2 := gtr_t h2; clear hE a; intro a hE
          refine l_go hE rfl (o_pure hE rfl rfl (p_pick (b := false) rfl rfl).run ?_); clear hE a; intro a hE
          refine l_step rfl (o_pure hE rfl rfl (p_pick (b := true) rfl rfl).run ?_); clear hE a; intro a hE
          refine wpList_nil ?_
          refine then_normal ?_
          refine c_true hE rfl ?_
          refine wp_region_list ?_   -- region 5
          obtain ⟨T_9, fr_9, hg_9⟩ := g105
          refine l_step rfl (o_pure hE rfl rfl (f_load rfl scal_25 (hI.data _ _ (hg_9)) rfl) ?_); clear hE a; intro a hE
          refine l_step rfl (o_pure hE rfl rfl (p_assign rfl).run ?_); clear hE a; intro a hE
          refine wpList_nil ?_
          refine then_normal ?_
          refine wp_seq ?_
          refine wp_seq ?_
          refine wp_region_list ?_   -- region 6
          refine l_step rfl (o_pure hE rfl rfl (p_move rfl).run ?_); clear hE a; intro a hE
          refine l_step rfl (o_pure hE rfl rfl (p_ifaceNil Tryd.underlying25 rfl rfl rfl).run ?_); clear hE a; intro a hE
          refine wpList_nil ?_
          refine then_normal ?_
          refine c_true hE rfl ?_
          refine wp_seq ?_
          refine wp_region_list ?_   -- region 7
          refine l_step rfl (o_pure hE rfl rfl (p_move rfl).run ?_); clear hE a; intro a hE
          refine l_step rfl (o_pure hE rfl rfl (p_move rfl).run ?_); clear hE a; intro a hE
          refine l_step rfl (o_call hE rfl rfl rfl rfl ent_103 (fail_spec hI ⟨_, _, rfl, hb, he, hok⟩ 105) ?_)
          clear hI hE a
          rintro r w ⟨rfl, D10, s1, hD11, hI, hR1⟩ a hE
          refine wpList_nil ?_
          refine then_normal ?_
          refine wp_seq ?_
          refine wp_region_list ?_   -- region 8
          refine l_step rfl (o_pure hE rfl rfl (p_assign rfl).run ?_); clear hE a; intro a hE
          refine wpList_nil ?_
          refine then_normal ?_
          refine wp_ret ?_
          refine then_ret ?_
          refine ret1 rfl hE rfl ?_
          refine ⟨_, s1, hD11, hI, ?_, ?_⟩
          · simp only [Rd.num, if_neg (show ¬ rd.err ≠ .none by rw [hx1]; simp), hn]
            try (first | rfl | (rw [if_pos (by omega)]; try rfl))
          · simp only [Rd.num, if_neg (show ¬ rd.err ≠ .none by rw [hx1]; simp), hn]
            first | exact hR1 | (rw [if_pos (by omega)]; exact hR1)
        · intro h2; replace h2 := gtr_f h2; clear hE a; intro a hE
          refine l_go hE rfl (o_pure hE rfl rfl (p_pick (b := false) rfl rfl).run ?_); clear hE a; intro a hE
          refine l_step rfl (o_pure hE rfl rfl (p_pick (b := true) rfl rfl).run ?_); clear hE a; intro a hE
          refine wpList_nil ?_
          refine then_normal ?_
          refine c_false hE rfl ?_
          refine wp_skip ?_
          refine then_normal ?_
          refine wp_seq ?_
          refine wp_seq ?_
          refine wp_region_list ?_   -- region 6
          refine l_step rfl (o_pure hE rfl rfl (p_move rfl).run ?_); clear hE a; intro a hE
          refine l_step rfl (o_pure hE rfl rfl (p_ifaceNil Tryd.underlying25 rfl rfl rfl).run ?_); clear hE a; intro a hE
          refine wpList_nil ?_
          refine then_normal ?_
          refine c_false hE rfl ?_
          refine wp_skip ?_
          refine then_normal ?_
          refine wp_seq ?_
          refine wp_region_list ?_   -- region 9
          refine l_step rfl (o_pure hE rfl rfl (p_move rfl).run ?_); clear hE a; intro a hE
          refine l_step rfl (o_pure hE rfl rfl (p_nilCheck rfl).run ?_); clear hE a; intro a hE
          refine l_step rfl (o_pure hE rfl rfl (p_fieldAddr (m := 1) rfl fo_156_1 rfl).run ?_); clear hE a; intro a hE
          refine l_step rfl (o_pure hE rfl rfl (f_load rfl scal_3 (hI.seg 0 rfl) rfl) ?_); clear hE a; intro a hE
          refine l_step rfl (o_pure hE rfl rfl (p_move rfl).run ?_); clear hE a; intro a hE
          refine l_step rfl (o_pure hE rfl rfl (p_arith (z := ((rd.pos + k : Nat) : Int)) rfl rfl (add_z (by omega) (by omega) (by omega))).run ?_); clear hE a; intro a hE
          refine l_step rfl (o_pure hE rfl rfl (p_nilCheck rfl).run ?_); clear hE a; intro a hE
          refine l_step rfl (o_pure hE rfl rfl (p_fieldAddr (m := 1) rfl fo_156_1 rfl).run ?_); clear hE a; intro a hE
          refine l_step rfl (f_store (l := [_, _, _]) (ss' := _ :: _) 0 hE hI rfl rfl rfl rfl rfl sz_3 (by simp [Value.cells, Value.oneCell']) rfl rfl rfl ?_)
          clear hI w; intro w hI
          refine wpList_nil ?_
          refine then_normal ?_
          refine wp_seq ?_
          refine wp_region_list ?_   -- region 10
          refine l_step rfl (o_pure hE rfl rfl (p_move rfl).run ?_); clear hE a; intro a hE
          refine l_step rfl (o_pure hE rfl rfl (p_assign rfl).run ?_); clear hE a; intro a hE
          refine wpList_nil ?_
          refine then_normal ?_
          refine wp_ret ?_
          refine ret1 rfl hE rfl ?_
          refine ⟨D, _, Le.refl _, hI, ?_, ?_⟩
          · simp only [Rd.num, if_neg (show ¬ rd.err ≠ .none by rw [hx1]; simp), hn]
            rw [if_neg (by omega)]; try rfl
          · simp only [Rd.num, if_neg (show ¬ rd.err ≠ .none by rw [hx1]; simp), hn]
            rw [if_neg (by omega)]
            exact ⟨_, _, rfl, hb, he, ⟨by show rd.pos + k ≤ rd.bs.length; omega, hok.most⟩⟩
  · skip
    refine l_step rfl (o_pure hE rfl rfl (p_ifaceNil Tryd.underlying25 rfl rfl rfl).run ?_); clear hE a; intro a hE
    refine wpList_nil ?_
    refine then_normal ?_
    refine c_true hE rfl ?_
    refine wp_seq ?_
    refine wp_region_list ?_   -- region 2
    refine l_step rfl (o_pure hE rfl rfl (p_assign rfl).run ?_); clear hE a; intro a hE
    refine wpList_nil ?_
    refine then_normal ?_
    refine wp_ret ?_
    refine then_ret ?_
    refine ret1 rfl hE rfl ?_
    refine ⟨D, _, Le.refl _, hI, ?_, ?_⟩
    · simp only [Rd.num, if_pos hx1]
    · simp only [Rd.num, if_pos hx1]
      exact ⟨_, _, rfl, hb, he, hok⟩

theorem Bool_spec {w0 w : World} {D : Sto} {ss : List Seg} {s : Seg} {ad : Nat → Addr} {b : Nat} {rd : Rd} (hI : Inv w0 D (s :: ss) w) (hR : RdSeg D ad b rd s) (g101 : GlobIs D 2 (errV ad 101)) (g103 : GlobIs D 1 (errV ad 103)) (g105 : GlobIs D 0 (errV ad 105)) :
    Calls Tryd.prog 61 #[.pointer (some ⟨b, 0, none⟩)] w (Ret fun r w' => ∃ D' s', Le D D' ∧ Inv w0 D' (s' :: ss) w' ∧ r = .bool (decide ((rd.num 0 1).1 = 1)) ∧ RdSeg D' ad b (rd.num 0 1).2 s') := by
  refine enter (N := 6) Tryd.func61 rfl rfl rfl ?_
  intro a hE
  refine wp_seq ?_
  refine wp_region_list ?_   -- region 0
  refine l_step rfl (o_pure hE rfl rfl (p_assign rfl).run ?_); clear hE a; intro a hE
  refine wpList_nil ?_
  refine then_normal ?_
  refine wp_seq ?_
  refine wp_region_list ?_   -- region 1
  refine l_step rfl (o_pure hE rfl rfl (p_move rfl).run ?_); clear hE a; intro a hE
  refine l_step rfl (o_call hE rfl rfl rfl rfl ent_102 (Num_spec hI hR g101 g103 g105 0 1) ?_)
  clear hI hE a
  rintro r w ⟨D1, s3, hD2, hI, rfl, hR4⟩ a hE
  refine l_step rfl (o_cmp hE rfl rfl rfl rfl rfl rfl ?_ ?_)
  · intro hq; replace hq := eql_t hq; clear hE a; intro a hE
    refine l_step rfl (o_pure hE rfl rfl (p_assign rfl).run ?_); clear hE a; intro a hE
    refine wpList_nil ?_
    refine then_normal ?_
    refine wp_ret ?_
    refine ret1 rfl hE rfl ?_
    refine ⟨_, _, hD2, hI, ?_, hR4⟩
    simp [hq]
  · intro hq; replace hq := eql_f hq; clear hE a; intro a hE
    refine l_step rfl (o_pure hE rfl rfl (p_assign rfl).run ?_); clear hE a; intro a hE
    refine wpList_nil ?_
    refine then_normal ?_
    refine wp_ret ?_
    refine ret1 rfl hE rfl ?_
    refine ⟨_, _, hD2, hI, ?_, hR4⟩
    simp [hq]

theorem bytes_err {rd : Rd} {most : Int} (h : (rd.num 0 most).2.err ≠ .none) : (rd.bytes most).1 = [] := by simp only [Rd.bytes, if_pos h]
theorem bytes_err' {rd : Rd} {most : Int} (h : (rd.num 0 most).2.err ≠ .none) : (rd.bytes most).2 = (rd.num 0 most).2 := by simp only [Rd.bytes, if_pos h]
theorem bytes_end {rd : Rd} {most : Int} (h : (rd.num 0 most).2.err = .none) (h2 : (((rd.num 0 most).2.bs.length - (rd.num 0 most).2.pos : Nat) : Int) < (rd.num 0 most).1) : (rd.bytes most).1 = [] := by
  simp only [Rd.bytes]
  rw [if_neg (by rw [h]; simp), if_pos h2]
theorem bytes_end' {rd : Rd} {most : Int} (h : (rd.num 0 most).2.err = .none) (h2 : (((rd.num 0 most).2.bs.length - (rd.num 0 most).2.pos : Nat) : Int) < (rd.num 0 most).1) : (rd.bytes most).2 = { (rd.num 0 most).2 with pos := rd.pos, err := .at_ 101 rd.pos } := by
  simp only [Rd.bytes]
  rw [if_neg (by rw [h]; simp), if_pos h2]
theorem bytes_ok {rd : Rd} {most : Int} (h : (rd.num 0 most).2.err = .none) (h2 : (rd.num 0 most).1 ≤ (((rd.num 0 most).2.bs.length - (rd.num 0 most).2.pos : Nat) : Int)) : (rd.bytes most).1 = ((rd.num 0 most).2.bs.drop (rd.num 0 most).2.pos).take (rd.num 0 most).1.toNat := by
  simp only [Rd.bytes]
  rw [if_neg (by rw [h]; simp), if_neg (by omega)]
theorem bytes_ok' {rd : Rd} {most : Int} (h : (rd.num 0 most).2.err = .none) (h2 : (rd.num 0 most).1 ≤ (((rd.num 0 most).2.bs.length - (rd.num 0 most).2.pos : Nat) : Int)) : (rd.bytes most).2 = { (rd.num 0 most).2 with pos := (rd.num 0 most).2.pos + (rd.num 0 most).1.toNat } := by
  simp only [Rd.bytes]
  rw [if_neg (by rw [h]; simp), if_neg (by omega)]
theorem cut_at {n : Int} {k : Nat} (h0 : 0 ≤ n) (h1 : n.toNat = k) : (if 0 ≤ n then some n.toNat else none) = some k := by rw [if_pos h0, h1]

theorem RBytes_spec {w0 w : World} {D : Sto} {ss : List Seg} {s : Seg} {ad : Nat → Addr} {b : Nat} {rd : Rd} (hI : Inv w0 D (s :: ss) w) (hR : RdSeg D ad b rd s) (g101 : GlobIs D 2 (errV ad 101)) (g103 : GlobIs D 1 (errV ad 103)) (g105 : GlobIs D 0 (errV ad 105)) (most : Int) :
    Calls Tryd.prog 60 #[.pointer (some ⟨b, 0, none⟩), .int .i64 most] w (Ret fun r w' => ∃ D' s', Le D D' ∧ Inv w0 D' (s' :: ss) w' ∧ RB D' r (rd.bytes most).1 ∧ RdSeg D' ad b (rd.bytes most).2 s') := by
  obtain ⟨vb, ve, rfl, hb, he, hok⟩ := hR
  obtain ⟨Ab, cb, rfl, _⟩ := hb.slice
  have hle := hok.le
  have hmost := hok.most
  refine enter (N := 54) Tryd.func60 rfl rfl rfl ?_
  intro a hE
  refine wp_seq ?_
  refine wp_region_list ?_   -- region 0
  refine l_step rfl (o_pure hE rfl rfl (p_assign rfl).run ?_); clear hE a; intro a hE
  refine wpList_nil ?_
  refine then_normal ?_
  refine wp_seq ?_
  refine wp_region_list ?_   -- region 1
  refine l_step rfl (o_pure hE rfl rfl (p_move rfl).run ?_); clear hE a; intro a hE
  refine l_step rfl (o_pure hE rfl rfl (p_nilCheck rfl).run ?_); clear hE a; intro a hE
  refine l_step rfl (o_pure hE rfl rfl (p_fieldAddr (m := 1) rfl fo_156_1 rfl).run ?_); clear hE a; intro a hE
  refine l_step rfl (o_pure hE rfl rfl (f_load rfl scal_3 (hI.seg 0 rfl) rfl) ?_); clear hE a; intro a hE
  refine l_step rfl (o_pure hE rfl rfl (p_assign rfl).run ?_); clear hE a; intro a hE
  refine wpList_nil ?_
  refine then_normal ?_
  refine wp_seq ?_
  refine wp_region_list ?_   -- region 2
  refine l_step rfl (o_pure hE rfl rfl (p_move rfl).run ?_); clear hE a; intro a hE
  refine l_step rfl (o_pure hE rfl rfl (p_move rfl).run ?_); clear hE a; intro a hE
  refine l_step rfl (o_call hE rfl rfl rfl rfl ent_102 (Num_spec hI ⟨_, _, rfl, hb, he, hok⟩ g101 g103 g105 0 most) ?_)
  clear hI hE a
  rintro r w ⟨D1, s3, hD2, hI, rfl, hR4⟩ a hE
  obtain ⟨vb1, ve1, rfl, hb1, he1, hok1⟩ := hR4
  obtain ⟨Ab1, cb1, rfl, _⟩ := hb1.slice
  have hbs := num_bs rd 0 most
  have hbl : (rd.num 0 most).2.bs.length = rd.bs.length := by rw [hbs]
  have hle1 := hok1.le
  have hmost1 := hok1.most
  refine l_step rfl (o_pure hE rfl rfl (p_assign rfl).run ?_); clear hE a; intro a hE
  refine wpList_nil ?_
  refine then_normal ?_
  refine wp_seq ?_
  refine wp_seq ?_
  refine wp_region_list ?_   -- region 3
  refine l_step rfl (o_pure hE rfl rfl (p_move rfl).run ?_); clear hE a; intro a hE
  refine l_step rfl (o_pure hE rfl rfl (p_nilCheck rfl).run ?_); clear hE a; intro a hE
  refine l_step rfl (o_pure hE rfl rfl (p_fieldAddr (m := 2) rfl fo_156_2 rfl).run ?_); clear hE a; intro a hE
  refine l_step rfl (o_pure hE rfl rfl (f_load rfl scal_25 (hI.seg 0 rfl) rfl) ?_); clear hE a; intro a hE
  rcases (he1).two with ⟨rfl, hx5⟩ | ⟨t_6, u_7, rfl, hx5⟩
  · skip
    refine l_step rfl (o_pure hE rfl rfl (p_ifaceNil Tryd.underlying25 rfl rfl rfl).run ?_); clear hE a; intro a hE
    refine wpList_nil ?_
    refine then_normal ?_
    refine c_false hE rfl ?_
    refine wp_skip ?_
    refine then_normal ?_
    refine wp_seq ?_
    refine wp_seq ?_
    refine wp_region_list ?_   -- region 5
    refine l_step rfl (o_pure hE rfl rfl (p_move rfl).run ?_); clear hE a; intro a hE
    refine l_step rfl (o_pure hE rfl rfl (p_move rfl).run ?_); clear hE a; intro a hE
    refine l_step rfl (o_call hE rfl rfl rfl rfl ent_63 (RLeft_spec hI ⟨_, _, rfl, hb1, he1, hok1⟩) ?_)
    clear hI hE a
    rintro r w ⟨rfl, hI⟩ a hE
    have hrange := num_range (r := rd) 0 most ‹_›
    refine l_step rfl (o_cmp hE rfl rfl rfl rfl rfl rfl ?_ ?_)
    · intro h3; replace h3 := gtr_t h3; clear hE a; intro a hE
      refine wpList_nil ?_
      refine then_normal ?_
      refine c_true hE rfl ?_
      refine wp_seq ?_
      refine wp_region_list ?_   -- region 6
      refine l_step rfl (o_pure hE rfl rfl (p_move rfl).run ?_); clear hE a; intro a hE
      refine l_step rfl (o_pure hE rfl rfl (p_move rfl).run ?_); clear hE a; intro a hE
      refine l_step rfl (o_pure hE rfl rfl (p_nilCheck rfl).run ?_); clear hE a; intro a hE
      refine l_step rfl (o_pure hE rfl rfl (p_fieldAddr (m := 1) rfl fo_156_1 rfl).run ?_); clear hE a; intro a hE
      refine l_step rfl (f_store (l := [_, _, _]) (ss' := _ :: _) 0 hE hI rfl rfl rfl rfl rfl sz_3 (by simp [Value.cells, Value.oneCell']) rfl rfl rfl ?_)
      clear hI w; intro w hI
      refine wpList_nil ?_
      refine then_normal ?_
      refine wp_seq ?_
      refine wp_region_list ?_   -- region 7
      refine l_step rfl (o_pure hE rfl rfl (p_move rfl).run ?_); clear hE a; intro a hE
      obtain ⟨T_8, fr_8, hg_8⟩ := g101
      refine l_step rfl (o_pure hE rfl rfl (f_load rfl scal_25 (hI.data _ _ (hD2 _ _ (hg_8))) rfl) ?_); clear hE a; intro a hE
      refine l_step rfl (o_call hE rfl rfl rfl rfl ent_103 (fail_spec (rd := { (rd.num 0 most).2 with pos := rd.pos }) hI ⟨_, _, rfl, hb1, he1, ⟨by show rd.pos ≤ (rd.num 0 most).2.bs.length; omega, hmost1⟩⟩ 101) ?_)
      clear hI hE a
      rintro r w ⟨rfl, D9, s1, hD10, hI, hR9⟩ a hE
      refine wpList_nil ?_
      refine then_normal ?_
      refine wp_seq ?_
      refine wp_region_list ?_   -- region 8
      refine l_step rfl (o_pure hE rfl rfl (p_assign rfl).run ?_); clear hE a; intro a hE
      refine wpList_nil ?_
      refine then_normal ?_
      refine wp_ret ?_
      refine then_ret ?_
      refine ret1 rfl hE rfl ?_
      refine ⟨_, s1, (hD2.trans hD10), hI, ?_, ?_⟩
      · rw [bytes_end ‹_› (by omega)]; exact RB.nil _
      · rw [bytes_end' ‹_› (by omega)]; exact hR9
    · intro h3; replace h3 := gtr_f h3; clear hE a; intro a hE
      refine wpList_nil ?_
      refine then_normal ?_
      refine c_false hE rfl ?_
      refine wp_skip ?_
      refine then_normal ?_
      refine wp_seq ?_
      refine wp_region_list ?_   -- region 9
      refine l_step rfl (o_pure hE rfl rfl (p_move rfl).run ?_); clear hE a; intro a hE
      refine l_step rfl (o_pure hE rfl rfl (p_nilCheck rfl).run ?_); clear hE a; intro a hE
      refine l_step rfl (o_pure hE rfl rfl (p_fieldAddr (m := 1) rfl fo_156_1 rfl).run ?_); clear hE a; intro a hE
      refine l_step rfl (o_pure hE rfl rfl (f_load rfl scal_3 (hI.seg 0 rfl) rfl) ?_); clear hE a; intro a hE
      refine l_step rfl (o_pure hE rfl rfl (p_move rfl).run ?_); clear hE a; intro a hE
      refine l_step rfl (o_pure hE rfl rfl (p_arith (z := (((rd.num 0 most).2.pos + (rd.num 0 most).1.toNat : Nat) : Int)) rfl rfl (add_z (by omega) (by omega) (by omega))).run ?_); clear hE a; intro a hE
      refine l_step rfl (o_pure hE rfl rfl (p_nilCheck rfl).run ?_); clear hE a; intro a hE
      refine l_step rfl (o_pure hE rfl rfl (p_fieldAddr (m := 1) rfl fo_156_1 rfl).run ?_); clear hE a; intro a hE
      refine l_step rfl (f_store (l := [_, _, _]) (ss' := _ :: _) 0 hE hI rfl rfl rfl rfl rfl sz_3 (by simp [Value.cells, Value.oneCell']) rfl rfl rfl ?_)
      clear hI w; intro w hI
      refine wpList_nil ?_
      refine then_normal ?_
      refine wp_seq ?_
      refine d_start [15] [] (by kernel_rfl) hI rfl rfl ?_   -- region 10 draws its order
      clear hI w; intro w hI
      refine d_pure 0 hE rfl (by kernel_rfl) (by kernel_rfl) (by kernel_rfl) rfl (fun _ _ _ h => h) rfl rfl rfl (p_move rfl) (fun _ => hI) (listed' := #[true, false, false, false, false, false, false, false, false, false, false, false, false, false, false, false, false]) rfl ?_; clear hE a; intro a hE
      refine d_pure 1 hE rfl (by kernel_rfl) (by kernel_rfl) (by kernel_rfl) rfl (fun _ _ _ h => h) rfl rfl rfl (p_nilCheck rfl) (fun _ => hI) (listed' := #[true, true, false, false, false, false, false, false, false, false, false, false, false, false, false, false, false]) rfl ?_; clear hE a; intro a hE
      refine d_pure 2 hE rfl (by kernel_rfl) (by kernel_rfl) (by kernel_rfl) rfl (fun _ _ _ h => h) rfl rfl rfl (p_fieldAddr (m := 0) rfl fo_156_0 rfl) (fun _ => hI) (listed' := #[true, true, true, false, false, false, false, false, false, false, false, false, false, false, false, false, false]) rfl ?_; clear hE a; intro a hE
      refine d_load 3 hE rfl (by kernel_rfl) (by kernel_rfl) (by kernel_rfl) (by kernel_rfl) (by kernel_rfl) rfl rfl (fun _ _ _ h => h) rfl rfl rfl (fun w hS => f_load rfl scal_22 (Inv.seg 0 hS rfl) rfl) (hI) (listed' := #[true, true, true, true, false, false, false, false, false, false, false, false, false, false, false, false, false]) rfl ?_; clear hE a; intro a hE
      refine d_pure 4 hE rfl (by kernel_rfl) (by kernel_rfl) (by kernel_rfl) rfl (fun _ _ _ h => h) rfl rfl rfl (p_move rfl) (fun _ => hI) (listed' := #[true, true, true, true, true, false, false, false, false, false, false, false, false, false, false, false, false]) rfl ?_; clear hE a; intro a hE
      refine d_pure 5 hE rfl (by kernel_rfl) (by kernel_rfl) (by kernel_rfl) rfl (fun _ _ _ h => h) rfl rfl rfl (p_nilCheck rfl) (fun _ => hI) (listed' := #[true, true, true, true, true, true, false, false, false, false, false, false, false, false, false, false, false]) rfl ?_; clear hE a; intro a hE
      refine d_pure 6 hE rfl (by kernel_rfl) (by kernel_rfl) (by kernel_rfl) rfl (fun _ _ _ h => h) rfl rfl rfl (p_fieldAddr (m := 1) rfl fo_156_1 rfl) (fun _ => hI) (listed' := #[true, true, true, true, true, true, true, false, false, false, false, false, false, false, false, false, false]) rfl ?_; clear hE a; intro a hE
      refine d_load 7 hE rfl (by kernel_rfl) (by kernel_rfl) (by kernel_rfl) (by kernel_rfl) (by kernel_rfl) rfl rfl (fun _ _ _ h => h) rfl rfl rfl (fun w hS => f_load rfl scal_3 (Inv.seg 0 hS rfl) rfl) (hI) (listed' := #[true, true, true, true, true, true, true, true, false, false, false, false, false, false, false, false, false]) rfl ?_; clear hE a; intro a hE
      refine d_pure 8 hE rfl (by kernel_rfl) (by kernel_rfl) (by kernel_rfl) rfl (fun _ _ _ h => h) rfl rfl rfl (p_move rfl) (fun _ => hI) (listed' := #[true, true, true, true, true, true, true, true, true, false, false, false, false, false, false, false, false]) rfl ?_; clear hE a; intro a hE
      refine d_pure 9 hE rfl (by kernel_rfl) (by kernel_rfl) (by kernel_rfl) rfl (fun _ _ _ h => h) rfl rfl rfl (p_arith (z := ((rd.num 0 most).2.pos : Int)) rfl rfl (sub_z (by omega) (by omega) (by omega))) (fun _ => hI) (listed' := #[true, true, true, true, true, true, true, true, true, true, false, false, false, false, false, false, false]) rfl ?_; clear hE a; intro a hE
      refine d_pure 10 hE rfl (by kernel_rfl) (by kernel_rfl) (by kernel_rfl) rfl (fun _ _ _ h => h) rfl rfl rfl (p_move rfl) (fun _ => hI) (listed' := #[true, true, true, true, true, true, true, true, true, true, true, false, false, false, false, false, false]) rfl ?_; clear hE a; intro a hE
      refine d_pure 11 hE rfl (by kernel_rfl) (by kernel_rfl) (by kernel_rfl) rfl (fun _ _ _ h => h) rfl rfl rfl (p_nilCheck rfl) (fun _ => hI) (listed' := #[true, true, true, true, true, true, true, true, true, true, true, true, false, false, false, false, false]) rfl ?_; clear hE a; intro a hE
      refine d_pure 12 hE rfl (by kernel_rfl) (by kernel_rfl) (by kernel_rfl) rfl (fun _ _ _ h => h) rfl rfl rfl (p_fieldAddr (m := 1) rfl fo_156_1 rfl) (fun _ => hI) (listed' := #[true, true, true, true, true, true, true, true, true, true, true, true, true, false, false, false, false]) rfl ?_; clear hE a; intro a hE
      refine d_load 13 hE rfl (by kernel_rfl) (by kernel_rfl) (by kernel_rfl) (by kernel_rfl) (by kernel_rfl) rfl rfl (fun _ _ _ h => h) rfl rfl rfl (fun w hS => f_load rfl scal_3 (Inv.seg 0 hS rfl) rfl) (hI) (listed' := #[true, true, true, true, true, true, true, true, true, true, true, true, true, true, false, false, false]) rfl ?_; clear hE a; intro a hE
      obtain ⟨hsl, hsr⟩ := hb1.cut (l := (rd.num 0 most).2.pos) (h := ((rd.num 0 most).2.pos + (rd.num 0 most).1.toNat)) (by omega) (by omega)
      refine d_pure 14 hE rfl (by kernel_rfl) (by kernel_rfl) (by kernel_rfl) rfl (fun _ _ _ h => h) rfl rfl rfl (p_slice (l := (rd.num 0 most).2.pos) (h := ((rd.num 0 most).2.pos + (rd.num 0 most).1.toNat)) rfl Tryd.underlying22 sz_5 (cut_at (by omega) (by omega)) (cut_at (by omega) (by omega)) (by omega) (by omega)) (fun _ => hI) (listed' := #[true, true, true, true, true, true, true, true, true, true, true, true, true, true, true, false, false]) rfl ?_; clear hE a; intro a hE
      refine d_one 15 hE rfl (by kernel_rfl) rfl (listed' := #[true, true, true, true, true, true, true, true, true, true, true, true, true, true, true, true, false]) rfl ?_
      refine o_call hE rfl rfl rfl rfl ent_73 (Clone_spec hI hsr (by simp; omega)) ?_
      clear hI hE a
      rintro r w ⟨s14, hR11, hI⟩ a hE
      obtain ⟨A12, c13, rfl, _⟩ := Row.slice hR11
      refine ⟨(fun h => Bool.noConfusion (show false = true from h)), ?_⟩
      refine d_pure 16 hE rfl (by kernel_rfl) (by kernel_rfl) (by kernel_rfl) rfl (fun _ _ _ h => h) rfl rfl rfl (p_assign rfl) ((fun h => Bool.noConfusion (show false = true from h))) (listed' := #[true, true, true, true, true, true, true, true, true, true, true, true, true, true, true, true, true]) rfl ?_; clear hE a; intro a hE
      refine d_done (by kernel_rfl) ?_
      refine then_normal ?_
      refine wp_ret ?_
      refine ret1 rfl hE rfl ?_
      obtain ⟨hI, hlz⟩ := hI.shut_at 0 rfl
      try simp only [List.eraseIdx_cons_zero] at hI
      refine ⟨_, _, (hD2.trans hlz), hI, ?_, ?_⟩
      · rw [bytes_ok ‹_› (by omega)]
        simp only [Nat.add_sub_cancel_left] at hR11 hsr ⊢
        exact Row.shut_bytes hR11 hsr.lt
      · rw [bytes_ok' ‹_› (by omega)]; exact ⟨_, _, rfl, hb1.mono hlz, he1.mono hlz, ⟨by show _ ≤ (rd.num 0 most).2.bs.length; simp only; omega, hmost1⟩⟩
  · skip
    refine l_step rfl (o_pure hE rfl rfl (p_ifaceNil Tryd.underlying25 rfl rfl rfl).run ?_); clear hE a; intro a hE
    refine wpList_nil ?_
    refine then_normal ?_
    refine c_true hE rfl ?_
    refine wp_seq ?_
    refine wp_region_list ?_   -- region 4
    refine l_step rfl (o_pure hE rfl rfl (p_assign rfl).run ?_); clear hE a; intro a hE
    refine wpList_nil ?_
    refine then_normal ?_
    refine wp_ret ?_
    refine then_ret ?_
    refine ret1 rfl hE rfl ?_
    refine ⟨_, _, hD2, hI, ?_, ?_⟩
    · rw [bytes_err ‹_›]; exact RB.nil _
    · rw [bytes_err' ‹_›]; exact ⟨_, _, rfl, hb1, he1, hok1⟩

end Go.Proofs.YtbogbnkckofpdaaDoor.B
