/- What functions of the program compute, each function once: steps over the model, and the plain law of it. -/
import Derived.Test.YtbogbnkckofpdaaDoorTScanTwice
import Derived.Test.YtbogbnkckofpdaaDoorTPrefP
import Derived.Test.YtbogbnkckofpdaaDoorTStrEq
namespace Go.Proofs.YtbogbnkckofpdaaDoor.B
open Go Go.Proofs
set_option linter.unusedVariables false
set_option linter.unusedSimpArgs false
set_option maxRecDepth 20000
set_option maxHeartbeats 8000000
namespace FTScanPref
theorem ent_117 : enters Tryd.prog 117 = true := by kernel_rfl
theorem ent_73 : enters Tryd.prog 73 = true := by kernel_rfl
theorem ent_82 : enters Tryd.prog 82 = true := by kernel_rfl
theorem ent_85 : enters Tryd.prog 85 = true := by kernel_rfl
theorem ent_86 : enters Tryd.prog 86 = true := by kernel_rfl
theorem ent_87 : enters Tryd.prog 87 = true := by kernel_rfl
theorem scal_22 : isScal Tryd.prog 22 = true := by kernel_rfl
theorem scal_52 : isScal Tryd.prog 52 = true := by kernel_rfl
theorem sz_22 : (Tryd.prog.info? 22).map (·.size) = some 1 := by kernel_rfl
theorem sz_5 : (Tryd.prog.info? 5).map (·.size) = some 1 := by kernel_rfl
end FTScanPref
open FTScanPref
theorem Equal_spec {w0 w : World} {D : Sto} {ss : List Seg} (hI : Inv w0 D ss w) {va vb : Value} {ka kb : List Nat} (ha : RB D va ka) (hb : RB D vb kb) :
    Calls Tryd.prog 117 #[va, vb] w (Ret fun r w' => r = .bool (decide (ka = kb)) ∧ Inv w0 D ss w') := by
  obtain ⟨A1, c2, rfl, _⟩ := ha.slice
  obtain ⟨A3, c4, rfl, _⟩ := hb.slice
  refine enter (N := 10) Tryd.func117 rfl rfl rfl ?_
  intro a hE
  refine wsr ?_
  refine qa hE rfl rfl rfl rfl rfl ?_; clear hE a; intro a hE
  refine wnt ?_
  refine wsr ?_
  refine qm hE rfl rfl rfl rfl rfl ?_; clear hE a; intro a hE
  refine ql hE rfl rfl rfl (r_toString hI rfl ha Tryd.underlying22 Tryd.underlying5 Tryd.underlying9) ?_; clear hE a; intro a hE
  refine qm hE rfl rfl rfl rfl rfl ?_; clear hE a; intro a hE
  refine ql hE rfl rfl rfl (r_toString hI rfl hb Tryd.underlying22 Tryd.underlying5 Tryd.underlying9) ?_; clear hE a; intro a hE
  refine qs hE rfl rfl rfl (p_strEql rfl rfl (strOf_eq ha.lt hb.lt)) ?_; clear hE a; intro a hE
  refine qa hE rfl rfl rfl rfl rfl ?_; clear hE a; intro a hE
  refine wnt ?_
  refine wp_ret ?_
  refine ret1 rfl hE rfl ?_
  exact ⟨rfl, hI⟩
theorem HasPrefix_spec {w0 w : World} {D : Sto} {ss : List Seg} (hI : Inv w0 D ss w) {vk vp : Value} {key pre : Bs} (hk : RB D vk key) (hp : RB D vp pre) (hlk : key.length ≤ 100000) (hlp : pre.length ≤ 100000) :
    Calls Tryd.prog 87 #[vk, vp] w (Ret fun r w' => (r = .bool true ∧ begB pre key = true ∧ Inv w0 D ss w') ∨ (r = .bool false ∧ ¬ begB pre key = true ∧ Inv w0 D ss w')) := by
  obtain ⟨A1, c2, rfl, _⟩ := hk.slice
  obtain ⟨A3, c4, rfl, _⟩ := hp.slice
  refine enter (N := 18) Tryd.func87 rfl rfl rfl ?_
  intro a hE
  refine wsr ?_
  refine qa hE rfl rfl rfl rfl rfl ?_; clear hE a; intro a hE
  refine wnt ?_
  refine wsr ?_
  refine qm hE rfl rfl rfl rfl rfl ?_; clear hE a; intro a hE
  refine qs hE rfl rfl rfl (p_len rfl rfl Tryd.underlying22) ?_; clear hE a; intro a hE
  refine qm hE rfl rfl rfl rfl rfl ?_; clear hE a; intro a hE
  refine qs hE rfl rfl rfl (p_len rfl rfl Tryd.underlying22) ?_; clear hE a; intro a hE
  refine l_step rfl (o_cmp hE rfl rfl rfl rfl rfl rfl ?_ ?_)
  · intro hlen; replace hlen := geq_t hlen; clear hE a; intro a hE
    refine qm hE rfl rfl rfl rfl rfl ?_; clear hE a; intro a hE
    refine l_go hE rfl (o_pure hE rfl rfl (p_move rfl).run ?_); clear hE a; intro a hE
    refine l_go hE rfl (o_pure hE rfl rfl (p_move rfl).run ?_); clear hE a; intro a hE
    refine l_go hE rfl (o_pure hE rfl rfl (p_len rfl rfl Tryd.underlying22).run ?_); clear hE a; intro a hE
    refine l_go hE rfl (o_sliceRB (l := 0) (h := pre.length) hE rfl rfl rfl rfl Tryd.underlying22 sz_5 (rfl) (lo_at rfl (by omega) (by omega)) (hk) (by omega) (by omega) ?_)
    clear hE a; intro A6 c7 hs5 a hE
    refine l_go hE rfl (o_pure hE rfl rfl (p_move rfl).run ?_); clear hE a; intro a hE
    refine l_go hE rfl (o_call hE rfl rfl rfl rfl ent_117 (Equal_spec hI hs5 hp) ?_)
    clear hI hE a
    rintro r w ⟨rfl, hI⟩ a hE
    obtain ⟨bf8, hbf9⟩ : ∃ b, decide ((((key).drop 0).take (pre.length - 0)) = pre) = b := ⟨_, rfl⟩
    rw [hbf9] at hE
    replace hbf9 : bf8 = true ↔ ((((key).drop 0).take (pre.length - 0)) = pre) := by rw [← hbf9]; exact decide_eq_true_iff
    refine qs hE rfl rfl rfl (p_pick (b := true) rfl rfl) ?_; clear hE a; intro a hE
    refine qa hE rfl rfl rfl rfl rfl ?_; clear hE a; intro a hE
    refine wnt ?_
    refine wp_ret ?_
    refine ret1 rfl hE rfl ?_
    rcases Bool.eq_false_or_eq_true bf8 with rfl | rfl
    · replace hbf9 := iff_t hbf9
      exact .inl ⟨rfl, by simp only [begB, Bool.and_eq_true, decide_eq_true_eq]; exact ⟨by omega, by simpa using hbf9⟩, hI⟩
    replace hbf9 := iff_f hbf9
    exact .inr ⟨rfl, by simp only [begB, Bool.and_eq_true, decide_eq_true_eq]; rintro ⟨_, q⟩; exact hbf9 (by simpa using q), hI⟩
  intro hlen; replace hlen := geq_f hlen; clear hE a; intro a hE
  refine qm hE rfl rfl rfl rfl rfl ?_; clear hE a; intro a hE
  refine l_skip hE rfl rfl rfl ?_; clear hE a; intro a hE
  refine l_skip hE rfl rfl rfl ?_; clear hE a; intro a hE
  refine l_skip hE rfl rfl rfl ?_; clear hE a; intro a hE
  refine l_skip hE rfl rfl rfl ?_; clear hE a; intro a hE
  refine l_skip hE rfl rfl rfl ?_; clear hE a; intro a hE
  refine l_skip hE rfl rfl rfl ?_; clear hE a; intro a hE
  refine qs hE rfl rfl rfl (p_pick (b := false) rfl rfl) ?_; clear hE a; intro a hE
  refine qa hE rfl rfl rfl rfl rfl ?_; clear hE a; intro a hE
  refine wnt ?_
  refine wp_ret ?_
  refine ret1 rfl hE rfl ?_
  exact .inr ⟨rfl, by simp only [begB, Bool.and_eq_true, decide_eq_true_eq]; rintro ⟨q, _⟩; omega, hI⟩
theorem PTold_spec {w0 w : World} {D : Sto} {ss : List Seg} (hI : Inv w0 D ss w) {vk vp : Value} {key pre : Bs} (hk : RB D vk key) (hp : RB D vp pre) {bt T : Nat} {fr : Nat × Nat} (hb : D bt = some (.cells #[vp] T fr)) (hlk : key.length ≤ 100000) (hlp : pre.length ≤ 100000) :
    Calls Tryd.prog 86 #[vk, .pointer (some ⟨bt, 0, none⟩)] w (Ret fun r w' => (r = .bool true ∧ begB pre key = true ∧ Inv w0 D ss w') ∨ (r = .bool false ∧ ¬ begB pre key = true ∧ Inv w0 D ss w')) := by
  obtain ⟨A1, c2, rfl, _⟩ := hk.slice
  obtain ⟨A9, c9, rfl, _⟩ := hp.slice
  refine enter (N := 7) Tryd.func86 rfl rfl rfl ?_
  intro a hE
  refine wsr ?_
  refine qa hE rfl rfl rfl rfl rfl ?_; clear hE a; intro a hE
  refine wnt ?_
  refine wsr ?_
  refine qm hE rfl rfl rfl rfl rfl ?_; clear hE a; intro a hE
  refine ql hE rfl rfl rfl (f_load rfl scal_22 (hI.data _ _ (hb)) rfl) ?_; clear hE a; intro a hE
  refine l_step rfl (o_call hE rfl rfl rfl rfl ent_87 (HasPrefix_spec hI hk hp hlk hlp) ?_)
  clear hI hE a
  rintro r w h a hE; rcases h with ⟨rfl, h9, hI⟩ | ⟨rfl, h9, hI⟩
  · skip
    refine qa hE rfl rfl rfl rfl rfl ?_; clear hE a; intro a hE
    refine wnt ?_
    refine wp_ret ?_
    refine ret1 rfl hE rfl ?_
    exact .inl ⟨rfl, h9, hI⟩
  refine qa hE rfl rfl rfl rfl rfl ?_; clear hE a; intro a hE
  refine wnt ?_
  refine wp_ret ?_
  refine ret1 rfl hE rfl ?_
  exact .inr ⟨rfl, h9, hI⟩
theorem Prefix1_spec {w0 w : World} {D : Sto} {ss ms : List Seg} {sp : Seg} {vp vf : Value} {P : Pl} {kv : Ens} {pre : Bs} {s l : Nat} {J Jx : Nat → Sto → List Seg → Prop} (hI : Inv w0 D (sp :: (ms ++ ss)) w) {ad : Nat → Addr} (hS : TSents D ad) (hP : PoolS D vp P sp) (hO : PoolOk P kv) (hf : RB D vf pre) (hfl : pre.length ≤ 32) (hs : fromK pre false kv = s) {b1 b2 T1 T2 : Nat} {fr1 fr2 : Nat × Nat} (hb1 : D b1 = some (.cells #[vf] T1 fr1)) (hb2 : D b2 = some (.cells #[vp] T2 fr2)) (hR : Rounds w0 D vp P l kv s (begB pre) J Jx) (hJ0 : J 0 D ms) :
    Calls Tryd.prog 85 #[.func (.yield l) #[] #[], .pointer (some ⟨b1, 0, none⟩), .pointer (some ⟨b2, 0, none⟩)] w (Ret fun r w' => IterPost w0 D ss vp P kv s (begB pre) J Jx w') := by
  obtain ⟨q, hq⟩ := hP.ptr
  subst hq
  obtain ⟨A1, c1, rfl, _⟩ := hf.slice
  refine enter (N := 16) Tryd.func85 rfl rfl rfl ?_
  intro a hE
  refine wp_seq ?_
  refine wsr ?_
  refine ql hE rfl rfl rfl (f_load rfl scal_22 (hI.data _ _ (hb1)) rfl) ?_; clear hE a; intro a hE
  refine qs hE rfl rfl rfl (p_len rfl rfl Tryd.underlying22) ?_; clear hE a; intro a hE
  refine qs hE rfl rfl rfl (p_cmp rfl rfl (gtr_n (by omega))) ?_; clear hE a; intro a hE
  refine wnt ?_
  refine c_false hE rfl ?_
  refine wp_skip ?_
  refine then_normal ?_
  refine wp_region_list ?_
  refine ql hE rfl rfl rfl (f_load rfl scal_52 (hI.data _ _ (hb2)) rfl) ?_; clear hE a; intro a hE
  refine ql hE rfl rfl rfl (f_load rfl scal_22 (hI.data _ _ (hb1)) rfl) ?_; clear hE a; intro a hE
  refine qs hE rfl rfl rfl (p_func (vs := #[]) (us := #[.pointer (some ⟨b1, 0, none⟩)]) rfl rfl) ?_; clear hE a; intro a hE
  refine qm hE rfl rfl rfl rfl rfl ?_; clear hE a; intro a hE
  refine l_step rfl (o_call hE rfl rfl rfl rfl ent_82 (each_spec (told := begB pre) hI hS hP hO hf (by omega) hs ⟨86, #[.pointer (some ⟨b1, 0, none⟩)], rfl, ent_86, fun w0 w D1 ss vk key hD hI hk hl => PTold_spec hI hk (hf.mono hD) (hD _ _ hb1) hl (by omega)⟩ hR hJ0) ?_)
  clear hI hE a
  rintro r w hpost a hE
  refine wpList_nil ?_
  refine ret0 rfl hE ?_
  exact hpost
theorem Prefix_spec {w0 w : World} {D : Sto} {ss : List Seg} (hI : Inv w0 D ss w) {ad : Nat → Addr} (hS : TSents D ad) {P : Pl} {kv : Ens} (hO : PoolOk P kv) {q : Nat} {vf : Value} {pre : Bs} {s : Nat} (hf : RB D vf pre) (hfl : pre.length ≤ 32) (hs : fromK pre false kv = s) :
    Calls Tryd.prog 44 #[.pointer (some ⟨q, 0, none⟩), vf] w (Ret fun r w' => ∃ D', Le D D' ∧ SeqOk D' r (.pointer (some ⟨q, 0, none⟩)) P kv s (begB pre) ∧ Inv w0 D' ss w') := by
  obtain ⟨A1, c2, rfl, _⟩ := hf.slice
  refine enter (N := 8) Tryd.func44 rfl rfl rfl ?_
  intro a hE
  refine wsr ?_
  refine l_step rfl (f_box (cs := #[_]) hE hI rfl rfl rfl rfl rfl ?_)
  clear hI hE a w; intro a b3 w hE hI
  refine l_step rfl (f_box (cs := #[_]) hE hI rfl rfl rfl rfl rfl ?_)
  clear hI hE a w; intro a b4 w hE hI
  refine qa hE rfl rfl rfl rfl rfl ?_; clear hE a; intro a hE
  refine wnt ?_
  refine wsr ?_
  refine ql hE rfl rfl rfl (f_load rfl scal_22 (hI.seg 0 rfl) rfl) ?_; clear hE a; intro a hE
  refine l_step rfl (o_call hE rfl rfl rfl rfl ent_73 (Clone_data (bs := pre) hI hf (by omega)) ?_)
  clear hI hE a
  rintro r w ⟨D5, hD6, hI, hb7⟩ a hE
  obtain ⟨A8, c9, rfl, _⟩ := hb7.slice
  refine l_step rfl (f_store (l := [_]) (ss' := _ :: _) 0 hE hI rfl rfl rfl rfl rfl sz_22 (by simp [Value.cells, Value.oneCell', pgCells, rcCells, zPg]) rfl rfl rfl ?_)
  clear hI w; intro w hI
  refine wnt ?_
  refine wsr ?_
  refine qs hE rfl rfl rfl (p_func (vs := #[]) (us := #[.pointer (some ⟨b4, 0, none⟩), .pointer (some ⟨b3, 0, none⟩)]) rfl rfl) ?_; clear hE a; intro a hE
  refine qa hE rfl rfl rfl rfl rfl ?_; clear hE a; intro a hE
  refine wnt ?_
  refine wp_ret ?_
  refine ret1 rfl hE rfl ?_
  have hle0 := hD6
  obtain ⟨Da, hDa, hIa, hda⟩ := Inv.shut_one hI
  obtain ⟨Db, hDb, hIb, hdb⟩ := Inv.shut_one hIa
  have hl2 : Le D5 Db := hDa.trans hDb
  refine ⟨Db, hle0.trans hl2, ⟨85, _, rfl, ent_85, fun w0 w D9 ms ss sp l J Jx hD9 hI hP hR hJ => Prefix1_spec hI ((hS.mono (hle0.trans hl2)).mono hD9) hP hO (hb7.mono (hl2.trans hD9)) hfl hs (hD9 _ _ (hDb _ _ hda)) (hD9 _ _ hdb) hR hJ⟩, hIb⟩
theorem want_snoc {p : Bs} {kv : Ens} {i : Nat} {e : Bs × Bs} (h : kv[i]? = some e) : wantE p (kv.take (i + 1)) = if begB p e.1 then wantE p (kv.take i) ++ [e] else wantE p (kv.take i) := by
  unfold wantE
  rw [List.take_add_one, h, List.filter_append]
  by_cases hb : begB p e.1 = true
  · rw [if_pos hb]; simp [hb]
  rw [if_neg hb]; simp [hb]
theorem want_at {p : Bs} {kv : Ens} {i : Nat} (h : ∀ j, j < i + 1 → ∃ x, kv[fromK p false kv + j]? = some x ∧ begB p x.1 = true) : (wantE p kv)[i]? = kv[fromK p false kv + i]? ∧ i < (wantE p kv).length := by
  obtain ⟨s, hs⟩ : ∃ s, fromK p false kv = s := ⟨_, rfl⟩
  rw [hs] at h ⊢
  rw [fromK_false] at hs
  have h1 : wantE p kv = wantE p (kv.drop s) := by
    have := want_left (p := p) (kv.take s) (R := kv.drop s) (hs ▸ findP_all kv)
    rw [List.take_append_drop] at this
    exact this
  have ha : wantE p ((kv.drop s).take (i + 1)) = (kv.drop s).take (i + 1) := by
    unfold wantE
    rw [List.filter_eq_self]
    intro e he
    obtain ⟨j, hj, he⟩ := List.getElem_of_mem he
    have hj' : j < i + 1 := by rw [List.length_take] at hj; omega
    obtain ⟨x, hx, ht⟩ := h j hj'
    have h3 : ((kv.drop s).take (i + 1))[j]? = some e := by rw [← he]; exact List.getElem?_eq_getElem hj
    rw [List.getElem?_take_of_lt hj', List.getElem?_drop, hx] at h3
    injection h3 with h3
    rw [← h3]; exact ht
  have hc : wantE p (kv.drop s) = (kv.drop s).take (i + 1) ++ wantE p ((kv.drop s).drop (i + 1)) := by
    have e1 : kv.drop s = (kv.drop s).take (i + 1) ++ (kv.drop s).drop (i + 1) := (List.take_append_drop (i + 1) _).symm
    conv => lhs; rw [e1]
    rw [← ha]
    unfold wantE; rw [List.filter_append, List.filter_filter]
    simp
  obtain ⟨x, hx, _⟩ := h i (by omega)
  have hlen := (List.getElem?_eq_some_iff.1 hx).1
  have hl2 : ((kv.drop s).take (i + 1)).length = i + 1 := by rw [List.length_take, List.length_drop]; omega
  rw [h1, hc]
  refine ⟨?_, by rw [List.length_append]; omega⟩
  rw [List.getElem?_append_left (by omega), List.getElem?_take_of_lt (by omega), List.getElem?_drop]
theorem done_unique {kv : Ens} {s n m : Nat} {t : Bs → Bool} (h : Done kv s t n) (k : Done kv s t m) : n = m := by
  rcases Nat.lt_trichotomy n m with h1 | h1 | h1
  · obtain ⟨x, hx, ht⟩ := k.1 n h1
    exact absurd ht (h.2 x hx)
  · exact h1
  obtain ⟨x, hx, ht⟩ := h.1 m h1
  exact absurd ht (k.2 x hx)
end Go.Proofs.YtbogbnkckofpdaaDoor.B
