/- What functions of the program compute, each function once: steps over the model, and the plain law of it. -/
import Derived.Test.YtbogbnkckofpdaaDoorTUndoRead3
namespace Go.Proofs.YtbogbnkckofpdaaDoor.B
open Go Go.Proofs
set_option linter.unusedVariables false
set_option linter.unusedSimpArgs false
set_option maxRecDepth 20000
set_option maxHeartbeats 8000000
namespace FTUndoSpoilt
theorem agg_34 : aggSize Tryd.prog 34 = some 5 := by kernel_rfl
theorem ent_14 : enters Tryd.prog 14 = true := by kernel_rfl
theorem ent_15 : enters Tryd.prog 15 = true := by kernel_rfl
theorem ent_20 : enters Tryd.prog 20 = true := by kernel_rfl
theorem ent_21 : enters Tryd.prog 21 = true := by kernel_rfl
theorem ent_23 : enters Tryd.prog 23 = true := by kernel_rfl
theorem ent_24 : enters Tryd.prog 24 = true := by kernel_rfl
theorem ent_25 : enters Tryd.prog 25 = true := by kernel_rfl
theorem ent_26 : enters Tryd.prog 26 = true := by kernel_rfl
theorem ent_27 : enters Tryd.prog 27 = true := by kernel_rfl
theorem ent_28 : enters Tryd.prog 28 = true := by kernel_rfl
theorem ent_29 : enters Tryd.prog 29 = true := by kernel_rfl
theorem fo_34_0 : fieldOff Tryd.prog 34 0 = some 0 := by kernel_rfl
theorem fo_34_1 : fieldOff Tryd.prog 34 1 = some 1 := by kernel_rfl
theorem scal_2 : isScal Tryd.prog 2 = true := by kernel_rfl
theorem scal_3 : isScal Tryd.prog 3 = true := by kernel_rfl
theorem scal_5 : isScal Tryd.prog 5 = true := by kernel_rfl
theorem sz_34 : (Tryd.prog.info? 34).map (·.size) = some 5 := by kernel_rfl
theorem sz_5 : (Tryd.prog.info? 5).map (·.size) = some 1 := by kernel_rfl
theorem zer_34 : (Tryd.prog.info? 34).bind (·.zero) = some (.agg #[.int .i64 0, .int .i64 0, .slice none 0 0, .bool false, .slice none 0 0]) := by kernel_rfl
theorem zs_5 : (Tryd.prog.info? 5).map (fun i => (i.zero, i.size)) = some (some (.int .u8 0), 1) := by kernel_rfl
theorem zsb_5 : (Tryd.prog.info? 5).map (fun i => (i.zero, i.size, i.bytes)) = some (some (.int .u8 0), 1, 1) := by kernel_rfl
end FTUndoSpoilt
open FTUndoSpoilt
theorem read_cut {e : Ent} (h : e.Ok) (hb : ∀ x ∈ e.enc, x < 256) {c : Nat} (hc : c < e.enc.length) : ∃ f, readP (keyL e.tx e.n) (e.enc.take c) = .inl f := by
  cases hr : readP (keyL e.tx e.n) (e.enc.take c) with
  | inl f => exact ⟨f, rfl⟩
  | inr e2 =>
    exfalso
    have hl := enc_len h
    obtain ⟨h1, h2, h3⟩ := read_inv (by simp; omega) (fun x hx => hb x (List.mem_of_mem_take hx)) hr
    rw [said_key h.1] at h3
    injection h3 with h3
    injection h3 with h4 h5
    have h6 := read_enc h2 (e.enc.drop c)
    rw [← h1, List.take_append_drop, if_pos (by rw [List.length_drop]; omega), ← h4, ← h5] at h6
    have h7 := read_enc h []
    rw [List.append_nil, h6] at h7
    simp at h7
theorem read_turned {e e2 : Ent} (h : e.Ok) {v : List Nat} (hl : v.length ≤ 1000) (hb : ∀ x ∈ v, x < 256) (hr : readP (keyL e.tx e.n) v = .inr e2) (hk : e2.key = e.key) (hv : e2.value = e.value) (hh : e2.had = e.had) : v = e.enc := by
  obtain ⟨h1, h2, h3⟩ := read_inv (by omega) hb hr
  rw [said_key h.1] at h3
  injection h3 with h3
  injection h3 with h4 h5
  rw [h1]
  cases e; cases e2
  simp only at hk hv hh h4 h5
  subst hk; subst hv; subst hh; subst h4; subst h5
  rfl
theorem read_txn {e2 : Ent} {t n : Int} (h : 1 ≤ t ∧ t ≤ 2251799813685248 ∧ 0 ≤ n ∧ n < 12) {v : List Nat} (hl : v.length ≤ 1000) (hb : ∀ x ∈ v, x < 256) (hr : readP (keyL t n) v = .inr e2) : e2.tx = t ∧ e2.n = n := by
  obtain ⟨h1, h2, h3⟩ := read_inv (by omega) hb hr
  rw [said_key h] at h3
  injection h3 with h3
  injection h3 with h4 h5
  exact ⟨h4.symm, h5.symm⟩
theorem set_ne {l : List Nat} {i y : Nat} (hi : i < l.length) (hy : y ≠ l.getD i 0) : l.set i y ≠ l := by
  intro e
  have : (l.set i y)[i]? = l[i]? := by rw [e]
  rw [List.getElem?_set_self hi] at this
  rw [List.getD_eq_getElem?_getD, ← this] at hy
  exact hy rfl
theorem xor_ne : ∀ (a b : Fin 256), b.val ≠ 0 → (a.val ^^^ b.val) % 256 ≠ a.val := by
  intro a b hb e
  have h1 : a.val ^^^ b.val < 2 ^ 8 := Nat.xor_lt_two_pow a.isLt b.isLt
  rw [Nat.mod_eq_of_lt h1] at e
  have h2 : a.val ^^^ (a.val ^^^ b.val) = a.val ^^^ a.val := by rw [e]
  rw [← Nat.xor_assoc, Nat.xor_self, Nat.zero_xor] at h2
  exact hb h2
/-- A row's cell, read and written. -/
theorem OB.open {v : Value} {bs : List Nat} {s : Seg} (h : OB v bs s) (hn : 0 < bs.length) :
    ∃ g cap cur, v = .slice (some ⟨g, 0, none⟩) bs.length cap ∧ s = [(g, .cells cur 5 (0, 0))] ∧ bs.length ≤ cap ∧ cap ≤ maxLen ∧ cur.size = cap * 1 ∧ cur.toList.take (bs.length * 1) = bytesV bs := by
  rcases h.at_ with ⟨_, h2, _⟩ | ⟨g, cap, cur, h1, h2, h3, h4, h5, h6⟩
  · omega
  · exact ⟨g, cap, cur, h1, h2, h3, h4, h5, h6⟩
theorem cur_at {cur : Array Value} {bs : List Nat} {z : Nat} (h : cur.toList.take (bs.length * 1) = bytesV bs) (hz : z < bs.length) : cur[0 + ((z : Nat) : Int).toNat * 1]? = some (.int .u8 ((bs.getD z 0 : Nat) : Int)) := by
  have e : 0 + ((z : Nat) : Int).toNat * 1 = z := by omega
  have h1 : (bytesV bs)[z]? = some (.int .u8 ((bs.getD z 0 : Nat) : Int)) := bytesV_get (by rw [List.getD_eq_getElem?_getD, List.getElem?_eq_getElem hz]; rfl)
  rw [← h, List.getElem?_take_of_lt (by omega)] at h1
  rw [e]
  simpa using h1
theorem cur_set {g cap : Nat} {cur : Array Value} {bs : List Nat} {z y : Nat} (hc : bs.length ≤ cap) (hm : cap ≤ maxLen) (hs : cur.size = cap * 1) (h : cur.toList.take (bs.length * 1) = bytesV bs) :
    OB (.slice (some ⟨g, 0, none⟩) bs.length cap) (bs.set z y) [(g, .cells (splice cur (0 + ((z : Nat) : Int).toNat * 1) (Value.cells (.int .u8 ((y : Nat) : Int))).toList) 5 (0, 0))] := by
  have e : 0 + ((z : Nat) : Int).toNat * 1 = z := by omega
  refine ⟨by simp [bytesV], .inr ⟨g, cap, _, by simp, rfl, by simpa using hc, hm, by rw [size_splice, hs], ?_⟩⟩
  rw [e]
  show ((cur.setIfInBounds z (.int .u8 ((y : Nat) : Int))).toList).take _ = _
  rw [Array.toList_setIfInBounds, List.take_set, List.length_set, h]
  simp [bytesV, List.map_set]

theorem enc_pos (e : Ent) : 0 < e.enc.length := by
  simp only [Ent.enc, List.length_append]
  have := putN_pos (zig ((e.key.length : Nat) : Int))
  unfold putZ
  omega
theorem bytes_len (r : Rd) (m : Int) : (r.bytes m).1.length ≤ r.bs.length := by
  unfold Rd.bytes; simp only
  split
  · simp
  · split
    · simp
    · rw [List.length_take, List.length_drop, num_bs]; omega
theorem key_len {k v : List Nat} {e : Ent} (h : readP k v = .inr e) (hl : v.length ≤ 1000) : e.key.length ≤ 1000 := by
  unfold readP at h
  split at h
  · cases h
  · simp only at h
    split at h
    · cases h
    · split at h
      · cases h
      · split at h
        · injection h with h
          subst h
          have := bytes_len ⟨v, 0, .none⟩ 20
          dsimp only at this ⊢
          omega
        · cases h
theorem val_len {k v : List Nat} {e : Ent} (h : readP k v = .inr e) (hl : v.length ≤ 1000) : e.value.length ≤ 1000 := by
  unfold readP at h
  split at h
  · cases h
  · simp only at h
    split at h
    · cases h
    · split at h
      · cases h
      · split at h
        · injection h with h
          subst h
          have h1 := bytes_len (((⟨v, 0, .none⟩ : Rd).bytes 20).2.num 0 1).2 24
          rw [num_bs, bytes_bs] at h1
          dsimp only at h1 ⊢
          omega
        · cases h
theorem UndoSpoilt_spec {w0 w : World} {D : Sto} {ss : List Seg} (hI : Inv w0 D ss w) {ad : Nat → Addr} (hS : Sents D ad) (tx n : Int) {vk vv : Value} {key value : List Nat} (had : Bool) (hk : RB D vk key) (hv : RB D vv value) (cut at_ : Int) (b0 : Nat) (hb0 : b0 < 256) :
    Calls Tryd.prog 5 #[.agg #[.int .i64 tx, .int .i64 n, vk, .bool had, vv], .int .i64 cut, .int .i64 at_, .int .u8 (b0 : Nat)] w (Ret fun r w' => r = .bool true ∧ ∃ D', Le D D' ∧ Inv w0 D' ss w') := by
  obtain ⟨Ak, ck, rfl, _⟩ := hk.slice
  obtain ⟨Av, cv, rfl, _⟩ := hv.slice
  have hhad : had = true ↔ had = true := Iff.rfl
  have g101 := hS.g101
  have g103 := hS.g103
  have g105 := hS.g105
  refine enter (N := 108) Tryd.func5 rfl rfl rfl ?_
  intro a hE
  refine wp_seq ?_
  refine wp_region_list ?_   -- region 0
  refine l_step rfl (f_box (cs := #[_, _, _, _, _]) hE hI rfl rfl rfl rfl rfl ?_)
  clear hI hE a w; intro a b1 w hE hI
  refine l_step rfl (o_pure hE rfl rfl (p_assign rfl).run ?_); clear hE a; intro a hE
  refine wpList_nil ?_
  refine then_normal ?_
  refine wp_seq ?_
  refine wp_region_list ?_   -- region 1
  refine l_step rfl (o_call hE rfl rfl rfl rfl ent_14 (first23_spec hI g105) ?_)
  clear hI hE a
  rintro r w ⟨rfl, D2, hD3, hI⟩ a hE
  refine l_step rfl (o_pure hE rfl rfl (p_assign rfl).run ?_); clear hE a; intro a hE
  refine wpList_nil ?_
  refine then_normal ?_
  refine wp_seq ?_
  refine wp_seq ?_
  refine wp_region_list ?_   -- region 2
  refine l_step rfl (o_pure hE rfl rfl (p_move rfl).run ?_); clear hE a; intro a hE
  refine l_step rfl (o_pure hE rfl rfl (p_not rfl).run ?_); clear hE a; intro a hE
  refine wpList_nil ?_
  refine then_normal ?_
  refine c_false hE rfl ?_
  refine wp_skip ?_
  refine then_normal ?_
  refine wp_seq ?_
  refine wp_seq ?_
  refine wp_region_list ?_   -- region 4
  refine l_step rfl (o_pure hE rfl rfl (f_loadA (vs := [_, _, _, _, _]) rfl agg_34 (hI.seg 0 rfl) rfl rfl) ?_); clear hE a; intro a hE
  refine l_step rfl (o_call hE rfl rfl rfl rfl ent_26 (light_spec hI tx n had (hk.mono hD3) (hv.mono hD3)) ?_)
  clear hI hE a
  rintro r w ⟨rfl, hI⟩ a hE
  by_cases hlight : key.length ≤ 40 ∧ value.length ≤ 60
  · rw [decide_eq_true hlight] at hE
    refine l_step rfl (o_pure hE rfl rfl (p_not rfl).run ?_); clear hE a; intro a hE
    refine l_step rfl (o_pure hE rfl rfl (p_move rfl).run ?_); clear hE a; intro a hE
    refine l_go hE rfl (o_pure hE rfl rfl (p_move rfl).run ?_); clear hE a; intro a hE
    refine l_go hE rfl (o_pure hE rfl rfl (p_not rfl).run ?_); clear hE a; intro a hE
    refine l_step rfl (o_pure hE rfl rfl (p_pick (b := false) rfl rfl).run ?_); clear hE a; intro a hE
    refine wpList_nil ?_
    refine then_normal ?_
    refine c_false hE rfl ?_
    refine wp_skip ?_
    refine then_normal ?_
    refine wp_seq ?_
    refine wp_region_list ?_   -- region 6
    refine l_step rfl (o_pure hE rfl rfl (p_fieldAddr (m := 0) rfl fo_34_0 rfl).run ?_); clear hE a; intro a hE
    refine l_step rfl (o_pure hE rfl rfl (f_load rfl scal_2 (hI.seg 0 rfl) rfl) ?_); clear hE a; intro a hE
    refine l_step rfl (o_pure hE rfl rfl (p_fieldAddr (m := 1) rfl fo_34_1 rfl).run ?_); clear hE a; intro a hE
    refine l_step rfl (o_pure hE rfl rfl (f_load rfl scal_3 (hI.seg 0 rfl) rfl) ?_); clear hE a; intro a hE
    refine l_step rfl (o_call hE rfl rfl rfl rfl ent_15 (Key_spec hI (g105.mono hD3) tx n) ?_)
    clear hI hE a
    rintro r w h a hE; rcases h with ⟨v6, D4, hnum, rfl, hD5, hI, hv7⟩ | ⟨hnum, rfl, hI⟩
    · skip
      obtain ⟨A8, c9, rfl, _⟩ := hv7.slice
      refine l_step rfl (o_pure hE rfl rfl (p_move rfl).run ?_); clear hE a; intro a hE
      refine l_step rfl (o_pure hE rfl rfl (f_extract rfl rfl).run ?_); clear hE a; intro a hE
      refine l_step rfl (o_pure hE rfl rfl (f_extract rfl rfl).run ?_); clear hE a; intro a hE
      refine l_step rfl (o_pure hE rfl rfl (p_assign rfl).run ?_); clear hE a; intro a hE
      refine l_step rfl (o_pure hE rfl rfl (p_assign rfl).run ?_); clear hE a; intro a hE
      refine wpList_nil ?_
      refine then_normal ?_
      refine wp_seq ?_
      refine wp_region_list ?_   -- region 7
      refine l_step rfl (o_pure hE rfl rfl (f_loadA (vs := [_, _, _, _, _]) rfl agg_34 (hI.seg 0 rfl) rfl rfl) ?_); clear hE a; intro a hE
      refine l_step rfl (o_call hE rfl rfl rfl rfl ent_21 (UBytes_spec hI (g105.mono (hD3.trans hD5)) tx n had (hk.mono (hD3.trans hD5)) (hv.mono (hD3.trans hD5)) (by omega)) ?_)
      clear hI hE a
      rintro r w ⟨D10, hD11, h⟩ a hE
      rcases h with ⟨v12, sb, hO, rfl, hI, hOB⟩ | ⟨hO, rfl, hI⟩
      · have hlen := enc_len hO
        obtain ⟨A13, c14, rfl, _⟩ := Row.slice hOB
        have hencb := enc_lt (e := (⟨tx, n, key, had, value⟩ : Ent)) hk.lt hv.lt
        refine l_step rfl (o_pure hE rfl rfl (p_move rfl).run ?_); clear hE a; intro a hE
        refine l_step rfl (o_pure hE rfl rfl (f_extract rfl rfl).run ?_); clear hE a; intro a hE
        refine l_step rfl (o_pure hE rfl rfl (f_extract rfl rfl).run ?_); clear hE a; intro a hE
        refine l_step rfl (o_pure hE rfl rfl (p_assign rfl).run ?_); clear hE a; intro a hE
        refine l_step rfl (o_pure hE rfl rfl (p_assign rfl).run ?_); clear hE a; intro a hE
        refine wpList_nil ?_
        refine then_normal ?_
        refine wp_seq ?_
        refine wp_seq ?_
        refine wp_region_list ?_   -- region 8
        refine l_step rfl (o_pure hE rfl rfl (p_move rfl).run ?_); clear hE a; intro a hE
        refine l_step rfl (o_pure hE rfl rfl (p_ifaceNil Tryd.underlying25 rfl rfl rfl).run ?_); clear hE a; intro a hE
        refine l_step rfl (o_pure hE rfl rfl (p_move rfl).run ?_); clear hE a; intro a hE
        refine l_go hE rfl (o_pure hE rfl rfl (p_move rfl).run ?_); clear hE a; intro a hE
        refine l_go hE rfl (o_pure hE rfl rfl (p_ifaceNil Tryd.underlying25 rfl rfl rfl).run ?_); clear hE a; intro a hE
        refine l_step rfl (o_pure hE rfl rfl (p_pick (b := false) rfl rfl).run ?_); clear hE a; intro a hE
        refine wpList_nil ?_
        refine then_normal ?_
        refine c_false hE rfl ?_
        refine wp_skip ?_
        refine then_normal ?_
        refine wp_seq ?_
        have hap := hI.seg_apart 0 rfl
        obtain ⟨Db, hDb, hI, hDbe⟩ := hI.shut_ex 0 rfl
        try simp only [splice, insAt, List.set_cons_succ, List.set_cons_zero, List.setIfInBounds_toArray, Value.cells, List.eraseIdx_cons_succ, List.eraseIdx_cons_zero, List.eraseIdx_zero, List.tail_cons] at hI
        have hrbb := Row.shut_bytes (D := D10) hOB hencb
        rw [← hDbe] at hrbb
        refine wp_region_list ?_   -- region 10
        refine l_step rfl (o_pure hE rfl rfl (p_move rfl).run ?_); clear hE a; intro a hE
        refine l_step rfl (o_pure hE rfl rfl (p_move rfl).run ?_); clear hE a; intro a hE
        refine l_step rfl (o_pure hE rfl rfl (p_move rfl).run ?_); clear hE a; intro a hE
        refine l_step rfl (o_pure hE rfl rfl (p_move rfl).run ?_); clear hE a; intro a hE
        refine l_step rfl (o_pure hE rfl rfl (p_len rfl rfl Tryd.underlying22).run ?_); clear hE a; intro a hE
        refine l_step rfl (o_call hE rfl rfl rfl rfl ent_20 (Number_spec hI cut (m := (((⟨tx, n, key, had, value⟩ : Ent).enc.length : Nat) : Int)) (by have := enc_pos (⟨tx, n, key, had, value⟩ : Ent); omega) (by omega)) ?_)
        clear hI hE a
        rintro r w ⟨⟨z1, rfl, hz10, hz11⟩, hI⟩ a hE
        obtain ⟨z1, rfl⟩ : ∃ q : Nat, z1 = q := ⟨z1.toNat, by omega⟩
        refine l_step rfl (o_sliceRB (l := 0) (h := z1) hE rfl rfl rfl rfl Tryd.underlying22 sz_5 (rfl) (lo_at rfl (by omega) rfl) (hrbb) (by omega) (by omega) ?_)
        clear hE a; intro A15 c16 hs_ a hE
        simp only [List.drop_zero, Nat.sub_zero] at hE hs_
        refine l_step rfl (o_call hE rfl rfl rfl rfl ent_23 (Read_spec hI (g101.mono (((hD3.trans hD5).trans hD11).trans hDb)) (g103.mono (((hD3.trans hD5).trans hD11).trans hDb)) (g105.mono (((hD3.trans hD5).trans hD11).trans hDb)) (hv7.mono (hD11.trans hDb)) hs_ (by first | omega | (simp; omega))) ?_)
        clear hI hE a
        rintro r w ⟨D17, r1, ve19, hD18, hI, rfl, hread⟩ a hE
        obtain ⟨fl, he⟩ := read_cut hO hencb (c := z1) (by omega)
        rw [he] at hread
        obtain ⟨hf20, hne21, rfl⟩ := hread
        refine l_step rfl (o_pure hE rfl rfl (p_move rfl).run ?_); clear hE a; intro a hE
        refine l_step rfl (o_pure hE rfl rfl (f_extract rfl rfl).run ?_); clear hE a; intro a hE
        refine l_step rfl (o_pure hE rfl rfl (f_extract rfl rfl).run ?_); clear hE a; intro a hE
        refine l_step rfl (f_alloc (cs := #[.int .i64 0, .int .i64 0, .slice none 0 0, .bool false, .slice none 0 0]) hE hI rfl rfl rfl zer_34 rfl ?_)
        clear hI hE a w; intro a b22 w hE hI
        refine l_step rfl (f_store (l := [_, _, _, _, _]) (ss' := _ :: _) 0 hE hI rfl rfl rfl rfl rfl sz_34 (by simp [Value.cells, Value.oneCell']) rfl rfl rfl ?_)
        clear hI w; intro w hI
        refine l_step rfl (o_pure hE rfl rfl (p_assign rfl).run ?_); clear hE a; intro a hE
        refine wpList_nil ?_
        refine then_normal ?_
        refine wp_seq ?_
        refine wp_region_list ?_   -- region 11
        refine l_step rfl (o_pure hE rfl rfl (p_move rfl).run ?_); clear hE a; intro a hE
        refine l_step rfl (o_pure hE rfl rfl (p_move rfl).run ?_); clear hE a; intro a hE
        refine l_step rfl (o_call hE rfl rfl rfl rfl ent_27 (refBytes_spec hI (hrbb.mono hD18) (by omega)) ?_)
        clear hI hE a
        rintro r w ⟨s26, hR23, hI⟩ a hE
        obtain ⟨A24, c25, rfl, _⟩ := Row.slice hR23
        refine l_step rfl (f_lit (vs := [(0, _)]) (l := [_]) hE hI rfl rfl rfl rfl Tryd.underlying22 zs_5 rfl rfl rfl ?_)
        clear hI hE a w; intro a b27 w hE hI
        refine l_step rfl (o_append 1 hE hI rfl rfl rfl rfl rfl Tryd.underlying22 zsb_5 rfl rfl rfl hR23 (by rfl) (lit_news (hI.seg 0 rfl)) (by simp [Value.oneCell']) (by omega) (by omega) ?_)
        clear hI hE a w; intro v28 s29 w hR30 hI a hE
        obtain ⟨A31, c32, rfl, _⟩ := hR30.slice
        replace hI := hI.erase 0
        try simp only [splice, insAt, List.set_cons_succ, List.set_cons_zero, List.setIfInBounds_toArray, Value.cells, List.eraseIdx_cons_succ, List.eraseIdx_cons_zero, List.eraseIdx_zero, List.tail_cons] at hI
        obtain ⟨Dc, hDc, hI, hDce⟩ := hI.shut_ex 0 rfl
        try simp only [splice, insAt, List.set_cons_succ, List.set_cons_zero, List.setIfInBounds_toArray, Value.cells, List.eraseIdx_cons_succ, List.eraseIdx_cons_zero, List.eraseIdx_zero, List.tail_cons] at hI
        have hrbc := Row.shut_bytes (D := D17) (bs := (⟨tx, n, key, had, value⟩ : Ent).enc ++ [0]) (Row.cast hR30 (by simp [bytesV]) rfl) (by intro y hy; rcases List.mem_append.1 hy with h | h; exact hencb y h; simp at h; omega)
        rw [← hDce] at hrbc
        refine l_step rfl (o_call hE rfl rfl rfl rfl ent_23 (Read_spec hI (g101.mono (((((hD3.trans hD5).trans hD11).trans hDb).trans hD18).trans hDc)) (g103.mono (((((hD3.trans hD5).trans hD11).trans hDb).trans hD18).trans hDc)) (g105.mono (((((hD3.trans hD5).trans hD11).trans hDb).trans hD18).trans hDc)) (hv7.mono (((hD11.trans hDb).trans hD18).trans hDc)) hrbc (by first | omega | (simp; omega))) ?_)
        clear hI hE a
        rintro r w ⟨D33, r1, ve35, hD34, hI, rfl, hread⟩ a hE
        have he := read_enc hO [0]
        rw [if_pos (by simp)] at he
        rw [he] at hread
        obtain ⟨hf36, hne37, rfl⟩ := hread
        refine l_step rfl (o_pure hE rfl rfl (p_move rfl).run ?_); clear hE a; intro a hE
        refine l_step rfl (o_pure hE rfl rfl (f_extract rfl rfl).run ?_); clear hE a; intro a hE
        refine l_step rfl (o_pure hE rfl rfl (f_extract rfl rfl).run ?_); clear hE a; intro a hE
        refine l_step rfl (f_alloc (cs := #[.int .i64 0, .int .i64 0, .slice none 0 0, .bool false, .slice none 0 0]) hE hI rfl rfl rfl zer_34 rfl ?_)
        clear hI hE a w; intro a b38 w hE hI
        refine l_step rfl (f_store (l := [_, _, _, _, _]) (ss' := _ :: _) 0 hE hI rfl rfl rfl rfl rfl sz_34 (by simp [Value.cells, Value.oneCell']) rfl rfl rfl ?_)
        clear hI w; intro w hI
        refine l_step rfl (o_pure hE rfl rfl (p_assign rfl).run ?_); clear hE a; intro a hE
        refine wpList_nil ?_
        refine then_normal ?_
        refine wp_seq ?_
        refine wp_seq ?_
        refine wp_region_list ?_   -- region 12
        refine l_step rfl (o_pure hE rfl rfl (p_move rfl).run ?_); clear hE a; intro a hE
        rcases (hf20).two with ⟨rfl, hx39⟩ | ⟨t_40, u_41, rfl, hx39⟩
        · skip
          exfalso
          exact absurd hx39 hne21
        · skip
          refine l_step rfl (o_pure hE rfl rfl (p_ifaceNil Tryd.underlying25 rfl rfl rfl).run ?_); clear hE a; intro a hE
          refine l_step rfl (o_pure hE rfl rfl (p_move rfl).run ?_); clear hE a; intro a hE
          refine l_go hE rfl (o_pure hE rfl rfl (p_move rfl).run ?_); clear hE a; intro a hE
          refine l_go hE rfl (o_pure hE rfl rfl (p_move rfl).run ?_); clear hE a; intro a hE
          refine l_go hE rfl (o_pure hE rfl rfl (p_len rfl rfl Tryd.underlying22).run ?_); clear hE a; intro a hE
          refine l_go hE rfl (o_call hE rfl rfl rfl rfl ent_29 (Placed_spec hI (c := 103) (by omega) _) ?_)
          clear hI hE a
          rintro r w ⟨rfl, hI⟩ a hE
          refine l_go hE rfl (o_call hE rfl rfl rfl rfl ent_28 (Same_spec hI (hS.mono ((((((hD3.trans hD5).trans hD11).trans hDb).trans hD18).trans hDc).trans hD34)) hf36 ⟨by omega, by omega⟩ _ _ _) ?_)
          clear hI hE a
          rintro r w ⟨rfl, hI⟩ a hE
          rw [decide_eq_true (by exact ⟨rfl, rfl, rfl⟩)] at hE
          refine l_go hE rfl (o_pure hE rfl rfl (p_not rfl).run ?_); clear hE a; intro a hE
          refine l_step rfl (o_pure hE rfl rfl (p_pick (b := false) rfl rfl).run ?_); clear hE a; intro a hE
          refine wpList_nil ?_
          refine then_normal ?_
          refine c_false hE rfl ?_
          refine wp_skip ?_
          refine then_normal ?_
          refine wp_seq ?_
          refine wp_seq ?_
          refine wp_region_list ?_   -- region 14
          refine l_step rfl (o_pure hE rfl rfl (p_move rfl).run ?_); clear hE a; intro a hE
          refine l_step rfl (o_cmp hE rfl rfl rfl rfl rfl rfl ?_ ?_)
          · intro hby; replace hby := eql_t hby; clear hE a; intro a hE
            refine wpList_nil ?_
            refine then_normal ?_
            refine c_true hE rfl ?_
            refine wp_seq ?_
            refine wp_region_list ?_   -- region 15
            refine l_step rfl (o_pure hE rfl rfl (p_assign rfl).run ?_); clear hE a; intro a hE
            refine wpList_nil ?_
            refine then_normal ?_
            refine wp_ret ?_
            refine then_ret ?_
            refine ret1 rfl hE rfl ?_
            exact ⟨rfl, _, ((((((hD3.trans hD5).trans hD11).trans hDb).trans hD18).trans hDc).trans hD34), hI.drop.drop.drop⟩
          · intro hby; replace hby := eql_f hby; clear hE a; intro a hE
            refine wpList_nil ?_
            refine then_normal ?_
            refine c_false hE rfl ?_
            refine wp_skip ?_
            refine then_normal ?_
            refine wp_seq ?_
            replace hI := Inv.reopen (D := D10) (s := sb) hI (by rw [← hDbe]; exact ((hD18.trans hDc).trans hD34)) hap.1 hap.2
            obtain ⟨gg, cap, cur, hv1, hv2, hv3, hv4, hv5, hv6⟩ := hOB.open (by have := enc_pos (⟨tx, n, key, had, value⟩ : Ent); omega)
            subst hv2
            injection hv1 with hv1 _ hv7
            subst hv1
            subst hv7
            refine wp_region_list ?_   -- region 16
            refine l_step rfl (o_pure hE rfl rfl (p_move rfl).run ?_); clear hE a; intro a hE
            refine l_step rfl (o_pure hE rfl rfl (p_move rfl).run ?_); clear hE a; intro a hE
            refine l_step rfl (o_pure hE rfl rfl (p_move rfl).run ?_); clear hE a; intro a hE
            refine l_step rfl (o_pure hE rfl rfl (p_len rfl rfl Tryd.underlying22).run ?_); clear hE a; intro a hE
            refine l_step rfl (o_call hE rfl rfl rfl rfl ent_20 (Number_spec hI at_ (m := (((⟨tx, n, key, had, value⟩ : Ent).enc.length : Nat) : Int)) (by have := enc_pos (⟨tx, n, key, had, value⟩ : Ent); omega) (by omega)) ?_)
            clear hI hE a
            rintro r w ⟨⟨z2, rfl, hz20, hz21⟩, hI⟩ a hE
            obtain ⟨z2, rfl⟩ : ∃ q : Nat, z2 = q := ⟨z2.toNat, by omega⟩
            refine l_step rfl (o_pure hE rfl rfl (p_indexAddr rfl rfl Tryd.underlying22 sz_5 (by omega) (by omega) rfl).run ?_); clear hE a; intro a hE
            refine l_step rfl (o_pure hE rfl rfl (r_load rfl scal_5 (hI.seg 0 rfl) (cur_at hv6 (by omega))) ?_); clear hE a; intro a hE
            refine l_step rfl (o_pure hE rfl rfl (p_move rfl).run ?_); clear hE a; intro a hE
            refine l_step rfl (o_pure hE rfl rfl (p_arith (z := ((((⟨tx, n, key, had, value⟩ : Ent).enc.getD z2 0 ^^^ b0) % 256 : Nat) : Int)) rfl rfl (xor8 (getD_lt hencb _) hb0)).run ?_); clear hE a; intro a hE
            refine l_step rfl (o_pure hE rfl rfl (p_indexAddr rfl rfl Tryd.underlying22 sz_5 (by omega) (by omega) rfl).run ?_); clear hE a; intro a hE
            refine l_step rfl (o_store (ss' := _ :: _) 0 hE hI rfl rfl rfl rfl rfl sz_5 (by simp [Value.cells, Value.oneCell']) (Nat.ble_eq_true_of_le (by show _ + 1 ≤ cur.size; omega)) rfl rfl ?_)
            clear hI w; intro w hI
            have hnew := cur_set (g := gg) (z := z2) (y := ((⟨tx, n, key, had, value⟩ : Ent).enc.getD z2 0 ^^^ b0) % 256) hv3 hv4 hv5 hv6
            refine wpList_nil ?_
            refine then_normal ?_
            refine wp_seq ?_
            obtain ⟨De, hDe, hI, hDee⟩ := hI.shut_ex 0 rfl
            try simp only [splice, insAt, List.set_cons_succ, List.set_cons_zero, List.setIfInBounds_toArray, Value.cells, List.eraseIdx_cons_succ, List.eraseIdx_cons_zero, List.eraseIdx_zero, List.tail_cons] at hI
            have hrbe := Row.shut_bytes (D := D10) (bs := (⟨tx, n, key, had, value⟩ : Ent).enc.set z2 (((⟨tx, n, key, had, value⟩ : Ent).enc.getD z2 0 ^^^ b0) % 256)) (Row.cast hnew rfl rfl) (by intro y hy; rcases List.mem_or_eq_of_mem_set hy with h | h; exact hencb y h; omega)
            have hgl : (⟨tx, n, key, had, value⟩ : Ent).enc.getD z2 0 < 256 := getD_lt hencb _
            have hset := set_ne (l := (⟨tx, n, key, had, value⟩ : Ent).enc) (i := z2) (by omega) (xor_ne ⟨_, hgl⟩ ⟨b0, hb0⟩ (by simpa using hby))
            rw [← hDee] at hrbe
            have hbl : ((⟨tx, n, key, had, value⟩ : Ent).enc.set z2 (((⟨tx, n, key, had, value⟩ : Ent).enc.getD z2 0 ^^^ b0) % 256)).length = (⟨tx, n, key, had, value⟩ : Ent).enc.length := by simp
            generalize hen : (⟨tx, n, key, had, value⟩ : Ent).enc.set z2 (((⟨tx, n, key, had, value⟩ : Ent).enc.getD z2 0 ^^^ b0) % 256) = en at hrbe hset hbl
            refine wp_region_list ?_   -- region 17
            refine l_step rfl (o_pure hE rfl rfl (p_move rfl).run ?_); clear hE a; intro a hE
            refine l_step rfl (o_pure hE rfl rfl (p_move rfl).run ?_); clear hE a; intro a hE
            refine l_step rfl (o_call hE rfl rfl rfl rfl ent_23 (Read_spec hI (g101.mono (((hD3.trans hD5).trans hD11).trans hDe)) (g103.mono (((hD3.trans hD5).trans hD11).trans hDe)) (g105.mono (((hD3.trans hD5).trans hD11).trans hDe)) (hv7.mono (hD11.trans hDe)) hrbe (by omega)) ?_)
            clear hI hE a
            rintro r w ⟨D42, r1, ve, hD43, hI, rfl, hread⟩ a hE
            rcases hq : readP (keyL tx n) en with f | e2
            · rw [hq] at hread
              obtain ⟨hf, hne, rfl⟩ := hread
              refine l_step rfl (o_pure hE rfl rfl (p_move rfl).run ?_); clear hE a; intro a hE
              refine l_step rfl (o_pure hE rfl rfl (f_extract rfl rfl).run ?_); clear hE a; intro a hE
              refine l_step rfl (o_pure hE rfl rfl (f_extract rfl rfl).run ?_); clear hE a; intro a hE
              refine l_step rfl (f_alloc (cs := #[.int .i64 0, .int .i64 0, .slice none 0 0, .bool false, .slice none 0 0]) hE hI rfl rfl rfl zer_34 rfl ?_)
              clear hI hE a w; intro a b44 w hE hI
              refine l_step rfl (f_store (l := [_, _, _, _, _]) (ss' := _ :: _) 0 hE hI rfl rfl rfl rfl rfl sz_34 (by simp [Value.cells, Value.oneCell']) rfl rfl rfl ?_)
              clear hI w; intro w hI
              refine l_step rfl (o_pure hE rfl rfl (p_assign rfl).run ?_); clear hE a; intro a hE
              refine wpList_nil ?_
              refine then_normal ?_
              refine wp_seq ?_
              refine d_start [] [] (by kernel_rfl) hI rfl rfl ?_   -- region 18 draws its order
              clear hI w; intro w hI
              refine d_pure 0 hE rfl (by kernel_rfl) (by kernel_rfl) (by kernel_rfl) rfl (fun _ _ _ h => h) rfl rfl rfl (p_move rfl) (fun _ => hI) (listed' := #[true, false, false, false, false, false, false, false, false, false, false]) rfl ?_; clear hE a; intro a hE
              rcases (hf).two with ⟨rfl, hx45⟩ | ⟨t_46, u_47, rfl, hx45⟩
              · skip
                exfalso
                exact absurd hx45 hne
              · skip
                refine d_pure 1 hE rfl (by kernel_rfl) (by kernel_rfl) (by kernel_rfl) rfl (fun _ _ _ h => h) rfl rfl rfl (p_ifaceNil Tryd.underlying25 rfl rfl rfl) (fun _ => hI) (listed' := #[true, true, false, false, false, false, false, false, false, false, false]) rfl ?_; clear hE a; intro a hE
                refine d_pure 2 hE rfl (by kernel_rfl) (by kernel_rfl) (by kernel_rfl) rfl (fun _ _ _ h => h) rfl rfl rfl (p_move rfl) (fun _ => hI) (listed' := #[true, true, true, false, false, false, false, false, false, false, false]) rfl ?_; clear hE a; intro a hE
                refine d_skip 3 hE rfl (by kernel_rfl) (by kernel_rfl) (by kernel_rfl) rfl (fun _ _ _ h => h) rfl rfl rfl (fun _ => hI) (listed' := #[true, true, true, true, false, false, false, false, false, false, false]) rfl ?_; clear hE a; intro a hE
                refine d_skip 4 hE rfl (by kernel_rfl) (by kernel_rfl) (by kernel_rfl) rfl (fun _ _ _ h => h) rfl rfl rfl (fun _ => hI) (listed' := #[true, true, true, true, true, false, false, false, false, false, false]) rfl ?_; clear hE a; intro a hE
                refine d_skip 5 hE rfl (by kernel_rfl) (by kernel_rfl) (by kernel_rfl) rfl (fun _ _ _ h => h) rfl rfl rfl (fun _ => hI) (listed' := #[true, true, true, true, true, true, false, false, false, false, false]) rfl ?_; clear hE a; intro a hE
                refine d_skip 6 hE rfl (by kernel_rfl) (by kernel_rfl) (by kernel_rfl) rfl (fun _ _ _ h => h) rfl rfl rfl (fun _ => hI) (listed' := #[true, true, true, true, true, true, true, false, false, false, false]) rfl ?_; clear hE a; intro a hE
                refine d_skip 7 hE rfl (by kernel_rfl) (by kernel_rfl) (by kernel_rfl) rfl (fun _ _ _ h => h) rfl rfl rfl (fun _ => hI) (listed' := #[true, true, true, true, true, true, true, true, false, false, false]) rfl ?_; clear hE a; intro a hE
                refine d_skip 8 hE rfl (by kernel_rfl) (by kernel_rfl) (by kernel_rfl) rfl (fun _ _ _ h => h) rfl rfl rfl (fun _ => hI) (listed' := #[true, true, true, true, true, true, true, true, true, false, false]) rfl ?_; clear hE a; intro a hE
                refine d_pure 9 hE rfl (by kernel_rfl) (by kernel_rfl) (by kernel_rfl) rfl (fun _ _ _ h => h) rfl rfl rfl (p_pick (b := true) rfl rfl) (fun _ => hI) (listed' := #[true, true, true, true, true, true, true, true, true, true, false]) rfl ?_; clear hE a; intro a hE
                refine d_pure 10 hE rfl (by kernel_rfl) (by kernel_rfl) (by kernel_rfl) rfl (fun _ _ _ h => h) rfl rfl rfl (p_assign rfl) (fun _ => hI) (listed' := #[true, true, true, true, true, true, true, true, true, true, true]) rfl ?_; clear hE a; intro a hE
                refine d_done (by kernel_rfl) ?_
                refine then_normal ?_
                refine wp_ret ?_
                refine ret1 rfl hE rfl ?_
                exact ⟨rfl, _, ((((hD3.trans hD5).trans hD11).trans hDe).trans hD43), hI.drop.drop.drop.drop⟩
            · rw [hq] at hread
              obtain ⟨rfl, vk2, vv2, rfl, hk2, hv2⟩ := hread
              obtain ⟨A9, c9, rfl, _⟩ := hk2.slice
              obtain ⟨B9, d9, rfl, _⟩ := hv2.slice
              have htn := read_txn hnum (by omega) hrbe.lt hq
              obtain ⟨etx, en_, ekey, ehad, eval⟩ := e2
              dsimp only at hk2 hv2 htn hE
              refine l_step rfl (o_pure hE rfl rfl (p_move rfl).run ?_); clear hE a; intro a hE
              refine l_step rfl (o_pure hE rfl rfl (f_extract rfl rfl).run ?_); clear hE a; intro a hE
              refine l_step rfl (o_pure hE rfl rfl (f_extract rfl rfl).run ?_); clear hE a; intro a hE
              refine l_step rfl (f_alloc (cs := #[.int .i64 0, .int .i64 0, .slice none 0 0, .bool false, .slice none 0 0]) hE hI rfl rfl rfl zer_34 rfl ?_)
              clear hI hE a w; intro a b48 w hE hI
              refine l_step rfl (f_store (l := [_, _, _, _, _]) (ss' := _ :: _) 0 hE hI rfl rfl rfl rfl rfl sz_34 (by simp [Value.cells, Value.oneCell']) rfl rfl rfl ?_)
              clear hI w; intro w hI
              refine l_step rfl (o_pure hE rfl rfl (p_assign rfl).run ?_); clear hE a; intro a hE
              refine wpList_nil ?_
              refine then_normal ?_
              refine wp_seq ?_
              refine d_start [] [] (by kernel_rfl) hI rfl rfl ?_   -- region 18 draws its order
              clear hI w; intro w hI
              refine d_pure 0 hE rfl (by kernel_rfl) (by kernel_rfl) (by kernel_rfl) rfl (fun _ _ _ h => h) rfl rfl rfl (p_move rfl) (fun _ => hI) (listed' := #[true, false, false, false, false, false, false, false, false, false, false]) rfl ?_; clear hE a; intro a hE
              refine d_pure 1 hE rfl (by kernel_rfl) (by kernel_rfl) (by kernel_rfl) rfl (fun _ _ _ h => h) rfl rfl rfl (p_ifaceNil Tryd.underlying25 rfl rfl rfl) (fun _ => hI) (listed' := #[true, true, false, false, false, false, false, false, false, false, false]) rfl ?_; clear hE a; intro a hE
              refine d_pure 2 hE rfl (by kernel_rfl) (by kernel_rfl) (by kernel_rfl) rfl (fun _ _ _ h => h) rfl rfl rfl (p_move rfl) (fun _ => hI) (listed' := #[true, true, true, false, false, false, false, false, false, false, false]) rfl ?_; clear hE a; intro a hE
              refine d_load 3 hE rfl (by kernel_rfl) (by kernel_rfl) (by kernel_rfl) (by kernel_rfl) (by kernel_rfl) rfl rfl (fun _ _ _ h => h) rfl rfl rfl (fun w hS => f_loadA (vs := [_, _, _, _, _]) rfl agg_34 (Inv.seg 0 hS rfl) rfl rfl) (hI) (listed' := #[true, true, true, true, false, false, false, false, false, false, false]) rfl ?_; clear hE a; intro a hE
              refine d_load 5 hE rfl (by kernel_rfl) (by kernel_rfl) (by kernel_rfl) (by kernel_rfl) (by kernel_rfl) rfl rfl (fun _ _ _ h => h) rfl rfl rfl (fun w hS => f_loadA (vs := [_, _, _, _, _]) rfl agg_34 (Inv.seg 3 hS rfl) rfl rfl) (hI) (listed' := #[true, true, true, true, false, true, false, false, false, false, false]) rfl ?_; clear hE a; intro a hE
              refine d_one 4 hE rfl (by kernel_rfl) rfl (listed' := #[true, true, true, true, true, true, false, false, false, false, false]) rfl ?_
              refine o_call hE rfl rfl rfl rfl ent_25 (plain_spec hI _ _ _ hk2 hv2) ?_
              clear hI hE a
              rintro r w ⟨rfl, hI⟩ a hE
              refine ⟨fun _ => hI, ?_⟩
              refine d_one 6 hE rfl (by kernel_rfl) rfl (listed' := #[true, true, true, true, true, true, true, false, false, false, false]) rfl ?_
              refine o_call hE rfl rfl rfl rfl ent_25 (plain_spec hI _ _ _ (hk.mono ((((hD3.trans hD5).trans hD11).trans hDe).trans hD43)) (hv.mono ((((hD3.trans hD5).trans hD11).trans hDe).trans hD43))) ?_
              clear hI hE a
              rintro r w ⟨rfl, hI⟩ a hE
              refine ⟨fun _ => hI, ?_⟩
              refine d_one 7 hE rfl (by kernel_rfl) rfl (listed' := #[true, true, true, true, true, true, true, true, false, false, false]) rfl ?_
              refine o_call hE rfl rfl rfl rfl ent_24 (Same20_spec hI _ _ _ hk2 hv2 _ _ _ (hk.mono ((((hD3.trans hD5).trans hD11).trans hDe).trans hD43)) (hv.mono ((((hD3.trans hD5).trans hD11).trans hDe).trans hD43)) (by have := key_len hq (by omega); dsimp only at this; omega) (by have := val_len hq (by omega); dsimp only at this; omega)) ?_
              clear hI hE a
              rintro r w ⟨rfl, hI⟩ a hE
              rw [decide_eq_false (fun hh => hset (by have := read_turned (e := (⟨tx, n, key, had, value⟩ : Ent)) hO (by omega) hrbe.lt hq hh.1 hh.2.1 hh.2.2.2.2; rw [this]))] at hE
              refine ⟨fun _ => hI, ?_⟩
              refine d_pure 8 hE rfl (by kernel_rfl) (by kernel_rfl) (by kernel_rfl) rfl (fun _ _ _ h => h) rfl rfl rfl (p_not rfl) (fun _ => hI) (listed' := #[true, true, true, true, true, true, true, true, true, false, false]) rfl ?_; clear hE a; intro a hE
              refine d_pure 9 hE rfl (by kernel_rfl) (by kernel_rfl) (by kernel_rfl) rfl (fun _ _ _ h => h) rfl rfl rfl (p_pick (b := false) rfl rfl) (fun _ => hI) (listed' := #[true, true, true, true, true, true, true, true, true, true, false]) rfl ?_; clear hE a; intro a hE
              refine d_pure 10 hE rfl (by kernel_rfl) (by kernel_rfl) (by kernel_rfl) rfl (fun _ _ _ h => h) rfl rfl rfl (p_assign rfl) (fun _ => hI) (listed' := #[true, true, true, true, true, true, true, true, true, true, true]) rfl ?_; clear hE a; intro a hE
              refine d_done (by kernel_rfl) ?_
              refine then_normal ?_
              refine wp_ret ?_
              refine ret1 rfl hE rfl ?_
              exact ⟨rfl, _, ((((hD3.trans hD5).trans hD11).trans hDe).trans hD43), hI.drop.drop.drop.drop⟩
      · skip
        refine l_step rfl (o_pure hE rfl rfl (p_move rfl).run ?_); clear hE a; intro a hE
        refine l_step rfl (o_pure hE rfl rfl (f_extract rfl rfl).run ?_); clear hE a; intro a hE
        refine l_step rfl (o_pure hE rfl rfl (f_extract rfl rfl).run ?_); clear hE a; intro a hE
        refine l_step rfl (o_pure hE rfl rfl (p_assign rfl).run ?_); clear hE a; intro a hE
        refine l_step rfl (o_pure hE rfl rfl (p_assign rfl).run ?_); clear hE a; intro a hE
        refine wpList_nil ?_
        refine then_normal ?_
        refine wp_seq ?_
        refine wp_seq ?_
        refine wp_region_list ?_   -- region 8
        refine l_step rfl (o_pure hE rfl rfl (p_move rfl).run ?_); clear hE a; intro a hE
        refine l_step rfl (o_pure hE rfl rfl (p_ifaceNil Tryd.underlying25 rfl rfl rfl).run ?_); clear hE a; intro a hE
        refine l_step rfl (o_pure hE rfl rfl (p_move rfl).run ?_); clear hE a; intro a hE
        refine l_go hE rfl (o_pure hE rfl rfl (p_move rfl).run ?_); clear hE a; intro a hE
        refine l_go hE rfl (o_pure hE rfl rfl (p_ifaceNil Tryd.underlying25 rfl rfl rfl).run ?_); clear hE a; intro a hE
        refine l_step rfl (o_pure hE rfl rfl (p_pick (b := false) rfl rfl).run ?_); clear hE a; intro a hE
        refine wpList_nil ?_
        refine then_normal ?_
        refine c_true hE rfl ?_
        refine wp_seq ?_
        refine wp_region_list ?_   -- region 9
        refine l_step rfl (o_pure hE rfl rfl (p_assign rfl).run ?_); clear hE a; intro a hE
        refine wpList_nil ?_
        refine then_normal ?_
        refine wp_ret ?_
        refine then_ret ?_
        refine ret1 rfl hE rfl ?_
        exact ⟨rfl, _, ((hD3.trans hD5).trans hD11), hI.drop⟩
    · skip
      refine l_step rfl (o_pure hE rfl rfl (p_move rfl).run ?_); clear hE a; intro a hE
      refine l_step rfl (o_pure hE rfl rfl (f_extract rfl rfl).run ?_); clear hE a; intro a hE
      refine l_step rfl (o_pure hE rfl rfl (f_extract rfl rfl).run ?_); clear hE a; intro a hE
      refine l_step rfl (o_pure hE rfl rfl (p_assign rfl).run ?_); clear hE a; intro a hE
      refine l_step rfl (o_pure hE rfl rfl (p_assign rfl).run ?_); clear hE a; intro a hE
      refine wpList_nil ?_
      refine then_normal ?_
      refine wp_seq ?_
      refine wp_region_list ?_   -- region 7
      refine l_step rfl (o_pure hE rfl rfl (f_loadA (vs := [_, _, _, _, _]) rfl agg_34 (hI.seg 0 rfl) rfl rfl) ?_); clear hE a; intro a hE
      refine l_step rfl (o_call hE rfl rfl rfl rfl ent_21 (UBytes_spec hI (g105.mono hD3) tx n had (hk.mono hD3) (hv.mono hD3) (by omega)) ?_)
      clear hI hE a
      rintro r w ⟨D49, hD50, h⟩ a hE
      rcases h with ⟨v51, sb, hO, rfl, hI, hOB⟩ | ⟨hO, rfl, hI⟩
      · have hlen := enc_len hO
        obtain ⟨A52, c53, rfl, _⟩ := Row.slice hOB
        have hencb := enc_lt (e := (⟨tx, n, key, had, value⟩ : Ent)) hk.lt hv.lt
        refine l_step rfl (o_pure hE rfl rfl (p_move rfl).run ?_); clear hE a; intro a hE
        refine l_step rfl (o_pure hE rfl rfl (f_extract rfl rfl).run ?_); clear hE a; intro a hE
        refine l_step rfl (o_pure hE rfl rfl (f_extract rfl rfl).run ?_); clear hE a; intro a hE
        refine l_step rfl (o_pure hE rfl rfl (p_assign rfl).run ?_); clear hE a; intro a hE
        refine l_step rfl (o_pure hE rfl rfl (p_assign rfl).run ?_); clear hE a; intro a hE
        refine wpList_nil ?_
        refine then_normal ?_
        refine wp_seq ?_
        refine wp_seq ?_
        refine wp_region_list ?_   -- region 8
        refine l_step rfl (o_pure hE rfl rfl (p_move rfl).run ?_); clear hE a; intro a hE
        refine l_step rfl (o_pure hE rfl rfl (p_ifaceNil Tryd.underlying25 rfl rfl rfl).run ?_); clear hE a; intro a hE
        refine l_step rfl (o_pure hE rfl rfl (p_move rfl).run ?_); clear hE a; intro a hE
        refine l_skip hE rfl rfl rfl ?_; clear hE a; intro a hE
        refine l_skip hE rfl rfl rfl ?_; clear hE a; intro a hE
        refine l_step rfl (o_pure hE rfl rfl (p_pick (b := true) rfl rfl).run ?_); clear hE a; intro a hE
        refine wpList_nil ?_
        refine then_normal ?_
        refine c_true hE rfl ?_
        refine wp_seq ?_
        refine wp_region_list ?_   -- region 9
        refine l_step rfl (o_pure hE rfl rfl (p_assign rfl).run ?_); clear hE a; intro a hE
        refine wpList_nil ?_
        refine then_normal ?_
        refine wp_ret ?_
        refine then_ret ?_
        refine ret1 rfl hE rfl ?_
        exact ⟨rfl, _, (hD3.trans hD50), hI.drop.drop⟩
      · skip
        refine l_step rfl (o_pure hE rfl rfl (p_move rfl).run ?_); clear hE a; intro a hE
        refine l_step rfl (o_pure hE rfl rfl (f_extract rfl rfl).run ?_); clear hE a; intro a hE
        refine l_step rfl (o_pure hE rfl rfl (f_extract rfl rfl).run ?_); clear hE a; intro a hE
        refine l_step rfl (o_pure hE rfl rfl (p_assign rfl).run ?_); clear hE a; intro a hE
        refine l_step rfl (o_pure hE rfl rfl (p_assign rfl).run ?_); clear hE a; intro a hE
        refine wpList_nil ?_
        refine then_normal ?_
        refine wp_seq ?_
        refine wp_seq ?_
        refine wp_region_list ?_   -- region 8
        refine l_step rfl (o_pure hE rfl rfl (p_move rfl).run ?_); clear hE a; intro a hE
        refine l_step rfl (o_pure hE rfl rfl (p_ifaceNil Tryd.underlying25 rfl rfl rfl).run ?_); clear hE a; intro a hE
        refine l_step rfl (o_pure hE rfl rfl (p_move rfl).run ?_); clear hE a; intro a hE
        refine l_skip hE rfl rfl rfl ?_; clear hE a; intro a hE
        refine l_skip hE rfl rfl rfl ?_; clear hE a; intro a hE
        refine l_step rfl (o_pure hE rfl rfl (p_pick (b := true) rfl rfl).run ?_); clear hE a; intro a hE
        refine wpList_nil ?_
        refine then_normal ?_
        refine c_true hE rfl ?_
        refine wp_seq ?_
        refine wp_region_list ?_   -- region 9
        refine l_step rfl (o_pure hE rfl rfl (p_assign rfl).run ?_); clear hE a; intro a hE
        refine wpList_nil ?_
        refine then_normal ?_
        refine wp_ret ?_
        refine then_ret ?_
        refine ret1 rfl hE rfl ?_
        exact ⟨rfl, _, (hD3.trans hD50), hI.drop⟩
  · rw [decide_eq_false hlight] at hE
    refine l_step rfl (o_pure hE rfl rfl (p_not rfl).run ?_); clear hE a; intro a hE
    refine l_step rfl (o_pure hE rfl rfl (p_move rfl).run ?_); clear hE a; intro a hE
    refine l_skip hE rfl rfl rfl ?_; clear hE a; intro a hE
    refine l_skip hE rfl rfl rfl ?_; clear hE a; intro a hE
    refine l_step rfl (o_pure hE rfl rfl (p_pick (b := true) rfl rfl).run ?_); clear hE a; intro a hE
    refine wpList_nil ?_
    refine then_normal ?_
    refine c_true hE rfl ?_
    refine wp_seq ?_
    refine wp_region_list ?_   -- region 5
    refine l_step rfl (o_pure hE rfl rfl (p_move rfl).run ?_); clear hE a; intro a hE
    refine l_step rfl (o_pure hE rfl rfl (p_assign rfl).run ?_); clear hE a; intro a hE
    refine wpList_nil ?_
    refine then_normal ?_
    refine wp_ret ?_
    refine then_ret ?_
    refine ret1 rfl hE rfl ?_
    exact ⟨rfl, _, hD3, hI.drop⟩

end Go.Proofs.YtbogbnkckofpdaaDoor.B
