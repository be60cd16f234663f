/- What functions of the program compute, each function once: steps over the model, and the plain law of it. -/
import Derived.Test.YtbogbnkckofpdaaDoorTUndo
namespace Go.Proofs.YtbogbnkckofpdaaDoor.B
open Go Go.Proofs
set_option linter.unusedVariables false
set_option linter.unusedSimpArgs false
set_option maxRecDepth 20000
set_option maxHeartbeats 8000000
namespace FTUndoOrder
theorem ent_14 : enters Tryd.prog 14 = true := by kernel_rfl
theorem ent_15 : enters Tryd.prog 15 = true := by kernel_rfl
theorem ent_16 : enters Tryd.prog 16 = true := by kernel_rfl
theorem ent_17 : enters Tryd.prog 17 = true := by kernel_rfl
theorem ent_18 : enters Tryd.prog 18 = true := by kernel_rfl
theorem ent_19 : enters Tryd.prog 19 = true := by kernel_rfl
end FTUndoOrder
open FTUndoOrder
/-! ### the order of keys -/
def valL (l : List Nat) : Nat := l.foldl (fun s x => s * 256 + x) 0
theorem valL_acc : ∀ (l : List Nat) (s : Nat), l.foldl (fun s x => s * 256 + x) s = s * 256 ^ l.length + valL l
  | [], s => by simp [valL]
  | x :: l, s => by
    simp only [List.foldl_cons, valL, List.length_cons]
    rw [valL_acc l (s * 256 + x), valL_acc l (0 * 256 + x)]
    have h : s * 256 ^ (l.length + 1) = s * 256 * 256 ^ l.length := by rw [Nat.pow_succ, Nat.mul_assoc, Nat.mul_comm 256]
    rw [h, Nat.add_mul, Nat.zero_mul, Nat.zero_add]
    omega
theorem valL_cons (x : Nat) (l : List Nat) : valL (x :: l) = x * 256 ^ l.length + valL l := by
  have := valL_acc l (0 * 256 + x)
  simpa [valL] using this
theorem valL_lt : ∀ (l : List Nat), (∀ x ∈ l, x < 256) → valL l < 256 ^ l.length
  | [], _ => by simp [valL]
  | x :: l, h => by
    rw [valL_cons, List.length_cons, Nat.pow_succ]
    have h1 := valL_lt l (fun y hy => h y (by simp [hy]))
    have h2 := h x (by simp)
    have h3 : x * 256 ^ l.length ≤ 255 * 256 ^ l.length := Nat.mul_le_mul_right _ (by omega)
    omega
theorem ltB_val : ∀ (a b : List Nat), a.length = b.length → (∀ x ∈ a, x < 256) → (∀ x ∈ b, x < 256) → (ltB a b = true ↔ valL a < valL b)
  | [], [], _, _, _ => by simp [ltB, valL]
  | [], _ :: _, h, _, _ => by simp at h
  | _ :: _, [], h, _, _ => by simp at h
  | x :: a, y :: b, h, ha, hb => by
    have hl : a.length = b.length := by simpa using h
    have ih := ltB_val a b hl (fun z hz => ha z (by simp [hz])) (fun z hz => hb z (by simp [hz]))
    have h1 := valL_lt a (fun z hz => ha z (by simp [hz]))
    have h2 := valL_lt b (fun z hz => hb z (by simp [hz]))
    rw [valL_cons, valL_cons, ← hl]
    rw [← hl] at h2
    simp only [ltB]
    generalize 256 ^ a.length = q at *
    by_cases e : x = y
    · subst e
      rw [if_pos rfl, ih]
      omega
    · rw [if_neg e, decide_eq_true_eq]
      constructor
      · intro hxy
        have h3 : (x + 1) * q ≤ y * q := Nat.mul_le_mul_right _ (by omega)
        rw [Nat.add_mul] at h3
        omega
      · intro hlt
        rcases Nat.lt_or_ge x y with h | h
        · exact h
        · exfalso
          have h3 : (y + 1) * q ≤ x * q := Nat.mul_le_mul_right _ (by omega)
          rw [Nat.add_mul] at h3
          omega
theorem valL_inj : ∀ (a b : List Nat), a.length = b.length → (∀ x ∈ a, x < 256) → (∀ x ∈ b, x < 256) → valL a = valL b → a = b
  | [], [], _, _, _, _ => rfl
  | [], _ :: _, h, _, _, _ => by simp at h
  | _ :: _, [], h, _, _, _ => by simp at h
  | x :: a, y :: b, h, ha, hb, hv => by
    have hl : a.length = b.length := by simpa using h
    have h1 := valL_lt a (fun z hz => ha z (by simp [hz]))
    have h2 := valL_lt b (fun z hz => hb z (by simp [hz]))
    rw [valL_cons, valL_cons, ← hl] at hv
    rw [← hl] at h2
    have hxy : x = y := by
      generalize 256 ^ a.length = q at *
      rcases Nat.lt_trichotomy x y with h | h | h
      · have h3 : (x + 1) * q ≤ y * q := Nat.mul_le_mul_right _ (by omega)
        rw [Nat.add_mul] at h3
        omega
      · exact h
      · have h3 : (y + 1) * q ≤ x * q := Nat.mul_le_mul_right _ (by omega)
        rw [Nat.add_mul] at h3
        omega
    subst hxy
    rw [valL_inj a b hl (fun z hz => ha z (by simp [hz])) (fun z hz => hb z (by simp [hz])) (by omega)]
theorem byteAt_nat (t i : Nat) (hi : i < 8) : byteAt (t : Int) i = t / 256 ^ (7 - i) % 256 := by
  unfold byteAt
  have h1 : min (8 * ((7 - i : Nat) : Int)).toNat 64 = 8 * (7 - i) := by omega
  rw [h1, Int.fdiv_eq_ediv_of_nonneg _ (Int.pow_nonneg (by omega))]
  have h2 : (2 : Int) ^ (8 * (7 - i)) = ((256 ^ (7 - i) : Nat) : Int) := by
    rw [Int.pow_mul, Int.natCast_pow]
    rfl
  rw [h2]
  rw [← Int.natCast_ediv, show (256 : Int) = ((256 : Nat) : Int) from rfl, ← Int.natCast_emod, Int.toNat_natCast]
theorem valL_key (t n : Nat) (ht : t < 256 ^ 8) (hn : n < 256) : valL (keyL t n) = (117 * 256 ^ 8 + t) * 256 + n := by
  have hb : be8 (t : Int) = [t / 256 ^ 7 % 256, t / 256 ^ 6 % 256, t / 256 ^ 5 % 256, t / 256 ^ 4 % 256, t / 256 ^ 3 % 256, t / 256 ^ 2 % 256, t / 256 ^ 1 % 256, t / 256 ^ 0 % 256] := by
    simp only [be8, show List.range 8 = [0, 1, 2, 3, 4, 5, 6, 7] from rfl, List.map_cons, List.map_nil]
    rw [byteAt_nat t 0 (by omega), byteAt_nat t 1 (by omega), byteAt_nat t 2 (by omega), byteAt_nat t 3 (by omega), byteAt_nat t 4 (by omega), byteAt_nat t 5 (by omega), byteAt_nat t 6 (by omega), byteAt_nat t 7 (by omega)]
  have hn' : ((n : Int) % 256).toNat = n := by omega
  simp only [keyL, hb, hn', List.cons_append, List.nil_append]
  simp only [valL, List.foldl_cons, List.foldl_nil]
  omega
theorem keyL_len (t n : Int) : (keyL t n).length = 10 := by simp [keyL, be8]
theorem ltB_key {t s n m : Int} (h1 : 1 ≤ t ∧ t ≤ 2251799813685248 ∧ 0 ≤ n ∧ n < 12) (h2 : 1 ≤ s ∧ s ≤ 2251799813685248 ∧ 0 ≤ m ∧ m < 12) : (ltB (keyL t n) (keyL s m) = true) = (t < s ∨ t = s ∧ n < m) := by
  obtain ⟨t, rfl⟩ := Int.eq_ofNat_of_zero_le (show 0 ≤ t by omega)
  obtain ⟨s, rfl⟩ := Int.eq_ofNat_of_zero_le (show 0 ≤ s by omega)
  obtain ⟨n, rfl⟩ := Int.eq_ofNat_of_zero_le (show 0 ≤ n by omega)
  obtain ⟨m, rfl⟩ := Int.eq_ofNat_of_zero_le (show 0 ≤ m by omega)
  rw [eq_iff_iff, ltB_val _ _ (by rw [keyL_len, keyL_len]) (keyL_lt _ _) (keyL_lt _ _), valL_key t n (by omega) (by omega), valL_key s m (by omega) (by omega)]
  omega
theorem key_eq {t s n m : Int} (h1 : 1 ≤ t ∧ t ≤ 2251799813685248 ∧ 0 ≤ n ∧ n < 12) (h2 : 1 ≤ s ∧ s ≤ 2251799813685248 ∧ 0 ≤ m ∧ m < 12) : (keyL t n = keyL s m) = (t = s ∧ n = m) := by
  obtain ⟨t, rfl⟩ := Int.eq_ofNat_of_zero_le (show 0 ≤ t by omega)
  obtain ⟨s, rfl⟩ := Int.eq_ofNat_of_zero_le (show 0 ≤ s by omega)
  obtain ⟨n, rfl⟩ := Int.eq_ofNat_of_zero_le (show 0 ≤ n by omega)
  obtain ⟨m, rfl⟩ := Int.eq_ofNat_of_zero_le (show 0 ≤ m by omega)
  rw [eq_iff_iff]
  constructor
  · intro h
    have := congrArg valL h
    rw [valL_key t n (by omega) (by omega), valL_key s m (by omega) (by omega)] at this
    omega
  · rintro ⟨h3, h4⟩
    rw [h3, h4]
theorem ltB_user (key : List Nat) (t n : Int) : ltB (107 :: key) (keyL t n) = true := by
  simp [keyL, ltB]

theorem first23_spec {w0 w : World} {D : Sto} {ss : List Seg} (hI : Inv w0 D ss w) {ad : Nat → Addr} (g105 : GlobIs D 0 (errV ad 105)) :
    Calls Tryd.prog 14 #[] w (Ret fun r w' => r = .bool true ∧ ∃ D', Le D D' ∧ Inv w0 D' ss w') := by
  refine enter (N := 14) Tryd.func14 rfl rfl rfl ?_
  intro a hE
  refine wp_seq ?_
  refine wp_region_list ?_   -- region 0
  refine l_step rfl (o_pure hE rfl rfl (p_assign rfl).run ?_); clear hE a; intro a hE
  refine wpList_nil ?_
  refine then_normal ?_
  refine wp_seq ?_
  refine wp_region_list ?_   -- region 1
  refine l_step rfl (o_call hE rfl rfl rfl rfl ent_15 (Key_spec hI g105 1 0) ?_)
  clear hI hE a
  rintro r w h a hE; rcases h with ⟨v3, D1, hk5, rfl, hD2, hI, hv4⟩ | ⟨hk5, rfl, hI⟩
  · skip
    obtain ⟨A6, c7, rfl, _⟩ := hv4.slice
    refine l_step rfl (o_pure hE rfl rfl (p_move rfl).run ?_); clear hE a; intro a hE
    refine l_step rfl (o_pure hE rfl rfl (f_extract rfl rfl).run ?_); clear hE a; intro a hE
    refine l_step rfl (o_pure hE rfl rfl (f_extract rfl rfl).run ?_); clear hE a; intro a hE
    refine l_step rfl (o_pure hE rfl rfl (p_assign rfl).run ?_); clear hE a; intro a hE
    refine l_step rfl (o_pure hE rfl rfl (p_assign rfl).run ?_); clear hE a; intro a hE
    refine wpList_nil ?_
    refine then_normal ?_
    refine wp_seq ?_
    refine wp_region_list ?_   -- region 2
    refine l_step rfl (o_pure hE rfl rfl (p_move rfl).run ?_); clear hE a; intro a hE
    refine l_step rfl (o_pure hE rfl rfl (p_ifaceNil Tryd.underlying25 rfl rfl rfl).run ?_); clear hE a; intro a hE
    refine l_step rfl (o_pure hE rfl rfl (p_move rfl).run ?_); clear hE a; intro a hE
    refine l_go hE rfl (o_pure hE rfl rfl (p_move rfl).run ?_); clear hE a; intro a hE
    refine l_go hE rfl (o_pure hE rfl rfl (p_len rfl rfl Tryd.underlying22).run ?_); clear hE a; intro a hE
    refine l_go hE rfl (o_pure hE rfl rfl (p_cmp rfl rfl (eql_y (by rw [keyL_len]; rfl))).run ?_); clear hE a; intro a hE
    refine l_step rfl (o_pure hE rfl rfl (p_pick (b := true) rfl rfl).run ?_); clear hE a; intro a hE
    refine l_step rfl (o_pure hE rfl rfl (p_assign rfl).run ?_); clear hE a; intro a hE
    refine wpList_nil ?_
    refine then_normal ?_
    refine wp_ret ?_
    refine ret1 rfl hE rfl ?_
    exact ⟨rfl, _, hD2, hI⟩
  · skip
    refine l_step rfl (o_pure hE rfl rfl (p_move rfl).run ?_); clear hE a; intro a hE
    refine l_step rfl (o_pure hE rfl rfl (f_extract rfl rfl).run ?_); clear hE a; intro a hE
    refine l_step rfl (o_pure hE rfl rfl (f_extract rfl rfl).run ?_); clear hE a; intro a hE
    refine l_step rfl (o_pure hE rfl rfl (p_assign rfl).run ?_); clear hE a; intro a hE
    refine l_step rfl (o_pure hE rfl rfl (p_assign rfl).run ?_); clear hE a; intro a hE
    refine wpList_nil ?_
    refine then_normal ?_
    refine wp_seq ?_
    refine wp_region_list ?_   -- region 2
    refine l_step rfl (o_pure hE rfl rfl (p_move rfl).run ?_); clear hE a; intro a hE
    refine l_step rfl (o_pure hE rfl rfl (p_ifaceNil Tryd.underlying25 rfl rfl rfl).run ?_); clear hE a; intro a hE
    refine l_step rfl (o_pure hE rfl rfl (p_move rfl).run ?_); clear hE a; intro a hE
    refine l_skip hE rfl rfl rfl ?_; clear hE a; intro a hE
    refine l_skip hE rfl rfl rfl ?_; clear hE a; intro a hE
    refine l_skip hE rfl rfl rfl ?_; clear hE a; intro a hE
    refine l_step rfl (o_pure hE rfl rfl (p_pick (b := false) rfl rfl).run ?_); clear hE a; intro a hE
    refine l_step rfl (o_pure hE rfl rfl (p_assign rfl).run ?_); clear hE a; intro a hE
    refine wpList_nil ?_
    refine then_normal ?_
    refine wp_ret ?_
    refine ret1 rfl hE rfl ?_
    omega

theorem UndoOrder_spec {w0 w : World} {D : Sto} {ss : List Seg} (hI : Inv w0 D ss w) {ad : Nat → Addr} (g105 : GlobIs D 0 (errV ad 105)) (a1 b n m : Int) {vu : Value} {user : List Nat} (hu : RB D vu user) :
    Calls Tryd.prog 3 #[.int .i64 a1, .int .i64 b, .int .i64 n, .int .i64 m, vu] w (Ret fun r w' => r = .bool true ∧ ∃ D', Le D D' ∧ Inv w0 D' ss w') := by
  obtain ⟨A1, c2, rfl, _⟩ := hu.slice
  refine enter (N := 86) Tryd.func3 rfl rfl rfl ?_
  intro a hE
  refine wp_seq ?_
  refine wp_region_list ?_   -- region 0
  refine l_step rfl (o_pure hE rfl rfl (p_assign rfl).run ?_); clear hE a; intro a hE
  refine wpList_nil ?_
  refine then_normal ?_
  refine wp_seq ?_
  refine wp_region_list ?_   -- region 1
  refine l_step rfl (o_call hE rfl rfl rfl rfl ent_14 (first23_spec hI g105) ?_)
  clear hI hE a
  rintro r w ⟨rfl, D3, hD4, hI⟩ a hE
  refine l_step rfl (o_pure hE rfl rfl (p_assign rfl).run ?_); clear hE a; intro a hE
  refine wpList_nil ?_
  refine then_normal ?_
  refine wp_seq ?_
  refine wp_seq ?_
  refine wp_region_list ?_   -- region 2
  refine l_step rfl (o_pure hE rfl rfl (p_move rfl).run ?_); clear hE a; intro a hE
  refine l_step rfl (o_pure hE rfl rfl (p_not rfl).run ?_); clear hE a; intro a hE
  refine wpList_nil ?_
  refine then_normal ?_
  refine c_false hE rfl ?_
  refine wp_skip ?_
  refine then_normal ?_
  refine wp_seq ?_
  refine wp_region_list ?_   -- region 4
  refine l_step rfl (o_pure hE rfl rfl (p_move rfl).run ?_); clear hE a; intro a hE
  refine l_step rfl (o_pure hE rfl rfl (p_move rfl).run ?_); clear hE a; intro a hE
  refine l_step rfl (o_call hE rfl rfl rfl rfl ent_15 (Key_spec hI (g105.mono hD4) a1 n) ?_)
  clear hI hE a
  rintro r w h a hE; rcases h with ⟨v7, D5, hx9, rfl, hD6, hI, hv8⟩ | ⟨hx9, rfl, hI⟩
  · skip
    obtain ⟨A10, c11, rfl, _⟩ := hv8.slice
    refine l_step rfl (o_pure hE rfl rfl (p_move rfl).run ?_); clear hE a; intro a hE
    refine l_step rfl (o_pure hE rfl rfl (f_extract rfl rfl).run ?_); clear hE a; intro a hE
    refine l_step rfl (o_pure hE rfl rfl (f_extract rfl rfl).run ?_); clear hE a; intro a hE
    refine l_step rfl (o_pure hE rfl rfl (p_assign rfl).run ?_); clear hE a; intro a hE
    refine l_step rfl (o_pure hE rfl rfl (p_assign rfl).run ?_); clear hE a; intro a hE
    refine wpList_nil ?_
    refine then_normal ?_
    refine wp_seq ?_
    refine wp_region_list ?_   -- region 5
    refine l_step rfl (o_pure hE rfl rfl (p_move rfl).run ?_); clear hE a; intro a hE
    refine l_step rfl (o_pure hE rfl rfl (p_move rfl).run ?_); clear hE a; intro a hE
    refine l_step rfl (o_call hE rfl rfl rfl rfl ent_15 (Key_spec hI (g105.mono (hD4.trans hD6)) b m) ?_)
    clear hI hE a
    rintro r w h a hE; rcases h with ⟨v14, D12, hy16, rfl, hD13, hI, hv15⟩ | ⟨hy16, rfl, hI⟩
    · skip
      obtain ⟨A17, c18, rfl, _⟩ := hv15.slice
      refine l_step rfl (o_pure hE rfl rfl (p_move rfl).run ?_); clear hE a; intro a hE
      refine l_step rfl (o_pure hE rfl rfl (f_extract rfl rfl).run ?_); clear hE a; intro a hE
      refine l_step rfl (o_pure hE rfl rfl (f_extract rfl rfl).run ?_); clear hE a; intro a hE
      refine l_step rfl (o_pure hE rfl rfl (p_assign rfl).run ?_); clear hE a; intro a hE
      refine l_step rfl (o_pure hE rfl rfl (p_assign rfl).run ?_); clear hE a; intro a hE
      refine wpList_nil ?_
      refine then_normal ?_
      refine wp_seq ?_
      refine wp_region_list ?_   -- region 6
      refine l_step rfl (o_pure hE rfl rfl (p_move rfl).run ?_); clear hE a; intro a hE
      refine l_step rfl (o_call hE rfl rfl rfl rfl ent_16 (UserKey_spec hI (g105.mono ((hD4.trans hD6).trans hD13)) (hu.mono ((hD4.trans hD6).trans hD13))) ?_)
      clear hI hE a
      rintro r w h a hE; rcases h with ⟨v21, D19, hz23, hz23_, rfl, hD20, hI, hv22⟩ | ⟨hz23, rfl, hI⟩
      · skip
        obtain ⟨A24, c25, rfl, _⟩ := hv22.slice
        refine l_step rfl (o_pure hE rfl rfl (p_move rfl).run ?_); clear hE a; intro a hE
        refine l_step rfl (o_pure hE rfl rfl (f_extract rfl rfl).run ?_); clear hE a; intro a hE
        refine l_step rfl (o_pure hE rfl rfl (f_extract rfl rfl).run ?_); clear hE a; intro a hE
        refine l_step rfl (o_pure hE rfl rfl (p_assign rfl).run ?_); clear hE a; intro a hE
        refine l_step rfl (o_pure hE rfl rfl (p_assign rfl).run ?_); clear hE a; intro a hE
        refine wpList_nil ?_
        refine then_normal ?_
        refine wp_seq ?_
        refine wp_seq ?_
        refine wp_region_list ?_   -- region 7
        refine l_step rfl (o_pure hE rfl rfl (p_move rfl).run ?_); clear hE a; intro a hE
        refine l_step rfl (o_pure hE rfl rfl (p_ifaceNil Tryd.underlying25 rfl rfl rfl).run ?_); clear hE a; intro a hE
        refine l_step rfl (o_pure hE rfl rfl (p_move rfl).run ?_); clear hE a; intro a hE
        refine l_go hE rfl (o_pure hE rfl rfl (p_move rfl).run ?_); clear hE a; intro a hE
        refine l_go hE rfl (o_pure hE rfl rfl (p_ifaceNil Tryd.underlying25 rfl rfl rfl).run ?_); clear hE a; intro a hE
        refine l_step rfl (o_pure hE rfl rfl (p_pick (b := false) rfl rfl).run ?_); clear hE a; intro a hE
        refine wpList_nil ?_
        refine then_normal ?_
        refine c_false hE rfl ?_
        refine wp_skip ?_
        refine then_normal ?_
        refine wp_seq ?_
        refine wp_seq ?_
        refine wp_region_list ?_   -- region 9
        refine l_step rfl (o_pure hE rfl rfl (p_move rfl).run ?_); clear hE a; intro a hE
        refine l_step rfl (o_pure hE rfl rfl (p_move rfl).run ?_); clear hE a; intro a hE
        refine l_step rfl (o_call hE rfl rfl rfl rfl ent_17 (Ahead_spec hI (hv8.mono (hD13.trans hD20)) (hv15.mono hD20) (by first | (rw [keyL_len]; omega) | (simp only [List.length_cons]; omega))) ?_)
        clear hI hE a
        rintro r w h a hE; rcases h with ⟨rfl, hA, hI⟩ | ⟨rfl, hA, hI⟩
        · skip
          rw [ltB_key (by omega) (by omega)] at hA
          refine l_step rfl (o_pure hE rfl rfl (p_move rfl).run ?_); clear hE a; intro a hE
          refine l_step rfl (o_pure hE rfl rfl (p_move rfl).run ?_); clear hE a; intro a hE
          refine l_step rfl (o_cmp hE rfl rfl rfl rfl rfl rfl ?_ ?_)
          · intro q1; replace q1 := lss_t q1; clear hE a; intro a hE
            refine l_step rfl (o_pure hE rfl rfl (p_move rfl).run ?_); clear hE a; intro a hE
            refine l_skip hE rfl rfl rfl ?_; clear hE a; intro a hE
            refine l_skip hE rfl rfl rfl ?_; clear hE a; intro a hE
            refine l_skip hE rfl rfl rfl ?_; clear hE a; intro a hE
            refine l_skip hE rfl rfl rfl ?_; clear hE a; intro a hE
            refine l_skip hE rfl rfl rfl ?_; clear hE a; intro a hE
            refine l_skip hE rfl rfl rfl ?_; clear hE a; intro a hE
            refine l_skip hE rfl rfl rfl ?_; clear hE a; intro a hE
            refine l_skip hE rfl rfl rfl ?_; clear hE a; intro a hE
            refine l_step rfl (o_pure hE rfl rfl (p_pick (b := true) rfl rfl).run ?_); clear hE a; intro a hE
            refine l_step rfl (o_pure hE rfl rfl (p_boolEq Tryd.underlying4 rfl rfl rfl).run ?_); clear hE a; intro a hE
            refine l_step rfl (o_pure hE rfl rfl (p_move rfl).run ?_); clear hE a; intro a hE
            refine l_go hE rfl (o_pure hE rfl rfl (p_move rfl).run ?_); clear hE a; intro a hE
            refine l_go hE rfl (o_pure hE rfl rfl (p_move rfl).run ?_); clear hE a; intro a hE
            refine l_go hE rfl (o_call hE rfl rfl rfl rfl ent_18 (SameBytes_spec hI (hv8.mono (hD13.trans hD20)) (hv15.mono hD20) (by rw [keyL_len]; omega)) ?_)
            clear hI hE a
            rintro r w h a hE; rcases h with ⟨rfl, hB, hI⟩ | ⟨rfl, hB, hI⟩
            · skip
              rw [key_eq (by omega) (by omega)] at hB
              refine l_go hE rfl (o_pure hE rfl rfl (p_move rfl).run ?_); clear hE a; intro a hE
              refine l_go hE rfl (o_pure hE rfl rfl (p_move rfl).run ?_); clear hE a; intro a hE
              refine l_go hE rfl (o_cmp hE rfl rfl rfl rfl rfl rfl ?_ ?_)
              · intro q4; replace q4 := eql_t q4; clear hE a; intro a hE
                refine l_go hE rfl (o_pure hE rfl rfl (p_move rfl).run ?_); clear hE a; intro a hE
                refine l_go hE rfl (o_pure hE rfl rfl (p_move rfl).run ?_); clear hE a; intro a hE
                refine l_go hE rfl (o_pure hE rfl rfl (p_move rfl).run ?_); clear hE a; intro a hE
                refine l_go hE rfl (o_cmp hE rfl rfl rfl rfl rfl rfl ?_ ?_)
                · intro q5; replace q5 := eql_t q5; clear hE a; intro a hE
                  refine l_go hE rfl (o_pure hE rfl rfl (p_pick (b := true) rfl rfl).run ?_); clear hE a; intro a hE
                  refine l_go hE rfl (o_pure hE rfl rfl (p_boolEq Tryd.underlying4 rfl rfl rfl).run ?_); clear hE a; intro a hE
                  refine l_step rfl (o_pure hE rfl rfl (p_pick (b := false) rfl rfl).run ?_); clear hE a; intro a hE
                  refine wpList_nil ?_
                  refine then_normal ?_
                  refine c_false hE rfl ?_
                  refine wp_skip ?_
                  refine then_normal ?_
                  refine wp_seq ?_
                  refine wp_region_list ?_   -- region 11
                  refine l_step rfl (o_pure hE rfl rfl (p_move rfl).run ?_); clear hE a; intro a hE
                  refine l_step rfl (o_pure hE rfl rfl (p_ifaceNil Tryd.underlying25 rfl rfl rfl).run ?_); clear hE a; intro a hE
                  refine l_step rfl (o_pure hE rfl rfl (p_move rfl).run ?_); clear hE a; intro a hE
                  refine l_go hE rfl (o_pure hE rfl rfl (p_move rfl).run ?_); clear hE a; intro a hE
                  refine l_go hE rfl (o_pure hE rfl rfl (p_move rfl).run ?_); clear hE a; intro a hE
                  refine l_go hE rfl (o_call hE rfl rfl rfl rfl ent_17 (Ahead_spec hI hv22 (hv8.mono (hD13.trans hD20)) (by first | (rw [keyL_len]; omega) | (simp only [List.length_cons]; omega))) ?_)
                  clear hI hE a
                  rintro r w h a hE; rcases h with ⟨rfl, hC, hI⟩ | ⟨rfl, hC, hI⟩
                  · skip
                    rw [ltB_user] at hC
                    refine l_go hE rfl (o_pure hE rfl rfl (p_move rfl).run ?_); clear hE a; intro a hE
                    refine l_go hE rfl (o_call hE rfl rfl rfl rfl ent_19 (Page_spec hI 0) ?_)
                    clear hI hE a
                    rintro r w h a hE; rcases h with ⟨rfl, hp, hI⟩ | ⟨rfl, hp, hI⟩
                    · skip
                      refine l_go hE rfl (o_pure hE rfl rfl (p_pick (b := true) rfl rfl).run ?_); clear hE a; intro a hE
                      refine l_step rfl (o_pure hE rfl rfl (p_pick (b := false) rfl rfl).run ?_); clear hE a; intro a hE
                      refine l_step rfl (o_pure hE rfl rfl (p_assign rfl).run ?_); clear hE a; intro a hE
                      refine wpList_nil ?_
                      refine then_normal ?_
                      refine wp_ret ?_
                      refine ret1 rfl hE rfl ?_
                      exact ⟨rfl, _, (((hD4.trans hD6).trans hD13).trans hD20), hI⟩
                    · skip
                      exfalso
                      omega
                  · skip
                    rw [ltB_user] at hC
                    refine l_go hE rfl (o_pure hE rfl rfl (p_move rfl).run ?_); clear hE a; intro a hE
                    refine l_skip hE rfl rfl rfl ?_; clear hE a; intro a hE
                    refine l_go hE rfl (o_pure hE rfl rfl (p_pick (b := false) rfl rfl).run ?_); clear hE a; intro a hE
                    refine l_step rfl (o_pure hE rfl rfl (p_pick (b := false) rfl rfl).run ?_); clear hE a; intro a hE
                    refine l_step rfl (o_pure hE rfl rfl (p_assign rfl).run ?_); clear hE a; intro a hE
                    refine wpList_nil ?_
                    refine then_normal ?_
                    refine wp_ret ?_
                    refine ret1 rfl hE rfl ?_
                    first | omega | exact absurd rfl hC
                · intro q5; replace q5 := eql_f q5; clear hE a; intro a hE
                  refine l_go hE rfl (o_pure hE rfl rfl (p_pick (b := true) rfl rfl).run ?_); clear hE a; intro a hE
                  refine l_go hE rfl (o_pure hE rfl rfl (p_boolEq Tryd.underlying4 rfl rfl rfl).run ?_); clear hE a; intro a hE
                  refine l_step rfl (o_pure hE rfl rfl (p_pick (b := false) rfl rfl).run ?_); clear hE a; intro a hE
                  refine wpList_nil ?_
                  refine then_normal ?_
                  refine c_true hE rfl ?_
                  refine wp_seq ?_
                  refine wp_region_list ?_   -- region 10
                  refine l_step rfl (o_pure hE rfl rfl (p_assign rfl).run ?_); clear hE a; intro a hE
                  refine wpList_nil ?_
                  refine then_normal ?_
                  refine wp_ret ?_
                  refine then_ret ?_
                  refine ret1 rfl hE rfl ?_
                  first | omega | exact absurd rfl hC
              · intro q4; replace q4 := eql_f q4; clear hE a; intro a hE
                refine l_go hE rfl (o_pure hE rfl rfl (p_move rfl).run ?_); clear hE a; intro a hE
                refine l_skip hE rfl rfl rfl ?_; clear hE a; intro a hE
                refine l_skip hE rfl rfl rfl ?_; clear hE a; intro a hE
                refine l_skip hE rfl rfl rfl ?_; clear hE a; intro a hE
                refine l_go hE rfl (o_pure hE rfl rfl (p_pick (b := false) rfl rfl).run ?_); clear hE a; intro a hE
                refine l_go hE rfl (o_pure hE rfl rfl (p_boolEq Tryd.underlying4 rfl rfl rfl).run ?_); clear hE a; intro a hE
                refine l_step rfl (o_pure hE rfl rfl (p_pick (b := false) rfl rfl).run ?_); clear hE a; intro a hE
                refine wpList_nil ?_
                refine then_normal ?_
                refine c_true hE rfl ?_
                refine wp_seq ?_
                refine wp_region_list ?_   -- region 10
                refine l_step rfl (o_pure hE rfl rfl (p_assign rfl).run ?_); clear hE a; intro a hE
                refine wpList_nil ?_
                refine then_normal ?_
                refine wp_ret ?_
                refine then_ret ?_
                refine ret1 rfl hE rfl ?_
                first | omega | exact absurd rfl hC
            · skip
              rw [key_eq (by omega) (by omega)] at hB
              refine l_go hE rfl (o_pure hE rfl rfl (p_move rfl).run ?_); clear hE a; intro a hE
              refine l_go hE rfl (o_pure hE rfl rfl (p_move rfl).run ?_); clear hE a; intro a hE
              refine l_go hE rfl (o_cmp hE rfl rfl rfl rfl rfl rfl ?_ ?_)
              · intro q4; replace q4 := eql_t q4; clear hE a; intro a hE
                refine l_go hE rfl (o_pure hE rfl rfl (p_move rfl).run ?_); clear hE a; intro a hE
                refine l_go hE rfl (o_pure hE rfl rfl (p_move rfl).run ?_); clear hE a; intro a hE
                refine l_go hE rfl (o_pure hE rfl rfl (p_move rfl).run ?_); clear hE a; intro a hE
                refine l_go hE rfl (o_cmp hE rfl rfl rfl rfl rfl rfl ?_ ?_)
                · intro q5; replace q5 := eql_t q5; clear hE a; intro a hE
                  refine l_go hE rfl (o_pure hE rfl rfl (p_pick (b := true) rfl rfl).run ?_); clear hE a; intro a hE
                  refine l_go hE rfl (o_pure hE rfl rfl (p_boolEq Tryd.underlying4 rfl rfl rfl).run ?_); clear hE a; intro a hE
                  refine l_step rfl (o_pure hE rfl rfl (p_pick (b := false) rfl rfl).run ?_); clear hE a; intro a hE
                  refine wpList_nil ?_
                  refine then_normal ?_
                  refine c_true hE rfl ?_
                  refine wp_seq ?_
                  refine wp_region_list ?_   -- region 10
                  refine l_step rfl (o_pure hE rfl rfl (p_assign rfl).run ?_); clear hE a; intro a hE
                  refine wpList_nil ?_
                  refine then_normal ?_
                  refine wp_ret ?_
                  refine then_ret ?_
                  refine ret1 rfl hE rfl ?_
                  first | omega | exact absurd rfl hC
                · intro q5; replace q5 := eql_f q5; clear hE a; intro a hE
                  refine l_go hE rfl (o_pure hE rfl rfl (p_pick (b := true) rfl rfl).run ?_); clear hE a; intro a hE
                  refine l_go hE rfl (o_pure hE rfl rfl (p_boolEq Tryd.underlying4 rfl rfl rfl).run ?_); clear hE a; intro a hE
                  refine l_step rfl (o_pure hE rfl rfl (p_pick (b := false) rfl rfl).run ?_); clear hE a; intro a hE
                  refine wpList_nil ?_
                  refine then_normal ?_
                  refine c_false hE rfl ?_
                  refine wp_skip ?_
                  refine then_normal ?_
                  refine wp_seq ?_
                  refine wp_region_list ?_   -- region 11
                  refine l_step rfl (o_pure hE rfl rfl (p_move rfl).run ?_); clear hE a; intro a hE
                  refine l_step rfl (o_pure hE rfl rfl (p_ifaceNil Tryd.underlying25 rfl rfl rfl).run ?_); clear hE a; intro a hE
                  refine l_step rfl (o_pure hE rfl rfl (p_move rfl).run ?_); clear hE a; intro a hE
                  refine l_go hE rfl (o_pure hE rfl rfl (p_move rfl).run ?_); clear hE a; intro a hE
                  refine l_go hE rfl (o_pure hE rfl rfl (p_move rfl).run ?_); clear hE a; intro a hE
                  refine l_go hE rfl (o_call hE rfl rfl rfl rfl ent_17 (Ahead_spec hI hv22 (hv8.mono (hD13.trans hD20)) (by first | (rw [keyL_len]; omega) | (simp only [List.length_cons]; omega))) ?_)
                  clear hI hE a
                  rintro r w h a hE; rcases h with ⟨rfl, hC, hI⟩ | ⟨rfl, hC, hI⟩
                  · skip
                    rw [ltB_user] at hC
                    refine l_go hE rfl (o_pure hE rfl rfl (p_move rfl).run ?_); clear hE a; intro a hE
                    refine l_go hE rfl (o_call hE rfl rfl rfl rfl ent_19 (Page_spec hI 0) ?_)
                    clear hI hE a
                    rintro r w h a hE; rcases h with ⟨rfl, hp, hI⟩ | ⟨rfl, hp, hI⟩
                    · skip
                      refine l_go hE rfl (o_pure hE rfl rfl (p_pick (b := true) rfl rfl).run ?_); clear hE a; intro a hE
                      refine l_step rfl (o_pure hE rfl rfl (p_pick (b := false) rfl rfl).run ?_); clear hE a; intro a hE
                      refine l_step rfl (o_pure hE rfl rfl (p_assign rfl).run ?_); clear hE a; intro a hE
                      refine wpList_nil ?_
                      refine then_normal ?_
                      refine wp_ret ?_
                      refine ret1 rfl hE rfl ?_
                      exact ⟨rfl, _, (((hD4.trans hD6).trans hD13).trans hD20), hI⟩
                    · skip
                      exfalso
                      omega
                  · skip
                    rw [ltB_user] at hC
                    refine l_go hE rfl (o_pure hE rfl rfl (p_move rfl).run ?_); clear hE a; intro a hE
                    refine l_skip hE rfl rfl rfl ?_; clear hE a; intro a hE
                    refine l_go hE rfl (o_pure hE rfl rfl (p_pick (b := false) rfl rfl).run ?_); clear hE a; intro a hE
                    refine l_step rfl (o_pure hE rfl rfl (p_pick (b := false) rfl rfl).run ?_); clear hE a; intro a hE
                    refine l_step rfl (o_pure hE rfl rfl (p_assign rfl).run ?_); clear hE a; intro a hE
                    refine wpList_nil ?_
                    refine then_normal ?_
                    refine wp_ret ?_
                    refine ret1 rfl hE rfl ?_
                    first | omega | exact absurd rfl hC
              · intro q4; replace q4 := eql_f q4; clear hE a; intro a hE
                refine l_go hE rfl (o_pure hE rfl rfl (p_move rfl).run ?_); clear hE a; intro a hE
                refine l_skip hE rfl rfl rfl ?_; clear hE a; intro a hE
                refine l_skip hE rfl rfl rfl ?_; clear hE a; intro a hE
                refine l_skip hE rfl rfl rfl ?_; clear hE a; intro a hE
                refine l_go hE rfl (o_pure hE rfl rfl (p_pick (b := false) rfl rfl).run ?_); clear hE a; intro a hE
                refine l_go hE rfl (o_pure hE rfl rfl (p_boolEq Tryd.underlying4 rfl rfl rfl).run ?_); clear hE a; intro a hE
                refine l_step rfl (o_pure hE rfl rfl (p_pick (b := false) rfl rfl).run ?_); clear hE a; intro a hE
                refine wpList_nil ?_
                refine then_normal ?_
                refine c_false hE rfl ?_
                refine wp_skip ?_
                refine then_normal ?_
                refine wp_seq ?_
                refine wp_region_list ?_   -- region 11
                refine l_step rfl (o_pure hE rfl rfl (p_move rfl).run ?_); clear hE a; intro a hE
                refine l_step rfl (o_pure hE rfl rfl (p_ifaceNil Tryd.underlying25 rfl rfl rfl).run ?_); clear hE a; intro a hE
                refine l_step rfl (o_pure hE rfl rfl (p_move rfl).run ?_); clear hE a; intro a hE
                refine l_go hE rfl (o_pure hE rfl rfl (p_move rfl).run ?_); clear hE a; intro a hE
                refine l_go hE rfl (o_pure hE rfl rfl (p_move rfl).run ?_); clear hE a; intro a hE
                refine l_go hE rfl (o_call hE rfl rfl rfl rfl ent_17 (Ahead_spec hI hv22 (hv8.mono (hD13.trans hD20)) (by first | (rw [keyL_len]; omega) | (simp only [List.length_cons]; omega))) ?_)
                clear hI hE a
                rintro r w h a hE; rcases h with ⟨rfl, hC, hI⟩ | ⟨rfl, hC, hI⟩
                · skip
                  rw [ltB_user] at hC
                  refine l_go hE rfl (o_pure hE rfl rfl (p_move rfl).run ?_); clear hE a; intro a hE
                  refine l_go hE rfl (o_call hE rfl rfl rfl rfl ent_19 (Page_spec hI 0) ?_)
                  clear hI hE a
                  rintro r w h a hE; rcases h with ⟨rfl, hp, hI⟩ | ⟨rfl, hp, hI⟩
                  · skip
                    refine l_go hE rfl (o_pure hE rfl rfl (p_pick (b := true) rfl rfl).run ?_); clear hE a; intro a hE
                    refine l_step rfl (o_pure hE rfl rfl (p_pick (b := false) rfl rfl).run ?_); clear hE a; intro a hE
                    refine l_step rfl (o_pure hE rfl rfl (p_assign rfl).run ?_); clear hE a; intro a hE
                    refine wpList_nil ?_
                    refine then_normal ?_
                    refine wp_ret ?_
                    refine ret1 rfl hE rfl ?_
                    exact ⟨rfl, _, (((hD4.trans hD6).trans hD13).trans hD20), hI⟩
                  · skip
                    exfalso
                    omega
                · skip
                  rw [ltB_user] at hC
                  refine l_go hE rfl (o_pure hE rfl rfl (p_move rfl).run ?_); clear hE a; intro a hE
                  refine l_skip hE rfl rfl rfl ?_; clear hE a; intro a hE
                  refine l_go hE rfl (o_pure hE rfl rfl (p_pick (b := false) rfl rfl).run ?_); clear hE a; intro a hE
                  refine l_step rfl (o_pure hE rfl rfl (p_pick (b := false) rfl rfl).run ?_); clear hE a; intro a hE
                  refine l_step rfl (o_pure hE rfl rfl (p_assign rfl).run ?_); clear hE a; intro a hE
                  refine wpList_nil ?_
                  refine then_normal ?_
                  refine wp_ret ?_
                  refine ret1 rfl hE rfl ?_
                  first | omega | exact absurd rfl hC
          · intro q1; replace q1 := lss_f q1; clear hE a; intro a hE
            refine l_step rfl (o_pure hE rfl rfl (p_move rfl).run ?_); clear hE a; intro a hE
            refine l_go hE rfl (o_pure hE rfl rfl (p_move rfl).run ?_); clear hE a; intro a hE
            refine l_go hE rfl (o_pure hE rfl rfl (p_move rfl).run ?_); clear hE a; intro a hE
            refine l_go hE rfl (o_cmp hE rfl rfl rfl rfl rfl rfl ?_ ?_)
            · intro q2; replace q2 := eql_t q2; clear hE a; intro a hE
              refine l_go hE rfl (o_pure hE rfl rfl (p_move rfl).run ?_); clear hE a; intro a hE
              refine l_go hE rfl (o_pure hE rfl rfl (p_move rfl).run ?_); clear hE a; intro a hE
              refine l_go hE rfl (o_pure hE rfl rfl (p_move rfl).run ?_); clear hE a; intro a hE
              refine l_go hE rfl (o_cmp hE rfl rfl rfl rfl rfl rfl ?_ ?_)
              · intro q3; replace q3 := lss_t q3; clear hE a; intro a hE
                refine l_go hE rfl (o_pure hE rfl rfl (p_pick (b := true) rfl rfl).run ?_); clear hE a; intro a hE
                refine l_step rfl (o_pure hE rfl rfl (p_pick (b := false) rfl rfl).run ?_); clear hE a; intro a hE
                refine l_step rfl (o_pure hE rfl rfl (p_boolEq Tryd.underlying4 rfl rfl rfl).run ?_); clear hE a; intro a hE
                refine l_step rfl (o_pure hE rfl rfl (p_move rfl).run ?_); clear hE a; intro a hE
                refine l_go hE rfl (o_pure hE rfl rfl (p_move rfl).run ?_); clear hE a; intro a hE
                refine l_go hE rfl (o_pure hE rfl rfl (p_move rfl).run ?_); clear hE a; intro a hE
                refine l_go hE rfl (o_call hE rfl rfl rfl rfl ent_18 (SameBytes_spec hI (hv8.mono (hD13.trans hD20)) (hv15.mono hD20) (by rw [keyL_len]; omega)) ?_)
                clear hI hE a
                rintro r w h a hE; rcases h with ⟨rfl, hB, hI⟩ | ⟨rfl, hB, hI⟩
                · skip
                  rw [key_eq (by omega) (by omega)] at hB
                  refine l_go hE rfl (o_pure hE rfl rfl (p_move rfl).run ?_); clear hE a; intro a hE
                  refine l_go hE rfl (o_pure hE rfl rfl (p_move rfl).run ?_); clear hE a; intro a hE
                  refine l_go hE rfl (o_cmp hE rfl rfl rfl rfl rfl rfl ?_ ?_)
                  · intro q4; replace q4 := eql_t q4; clear hE a; intro a hE
                    refine l_go hE rfl (o_pure hE rfl rfl (p_move rfl).run ?_); clear hE a; intro a hE
                    refine l_go hE rfl (o_pure hE rfl rfl (p_move rfl).run ?_); clear hE a; intro a hE
                    refine l_go hE rfl (o_pure hE rfl rfl (p_move rfl).run ?_); clear hE a; intro a hE
                    refine l_go hE rfl (o_cmp hE rfl rfl rfl rfl rfl rfl ?_ ?_)
                    · intro q5; replace q5 := eql_t q5; clear hE a; intro a hE
                      refine l_go hE rfl (o_pure hE rfl rfl (p_pick (b := true) rfl rfl).run ?_); clear hE a; intro a hE
                      refine l_go hE rfl (o_pure hE rfl rfl (p_boolEq Tryd.underlying4 rfl rfl rfl).run ?_); clear hE a; intro a hE
                      refine l_step rfl (o_pure hE rfl rfl (p_pick (b := false) rfl rfl).run ?_); clear hE a; intro a hE
                      refine wpList_nil ?_
                      refine then_normal ?_
                      refine c_false hE rfl ?_
                      refine wp_skip ?_
                      refine then_normal ?_
                      refine wp_seq ?_
                      refine wp_region_list ?_   -- region 11
                      refine l_step rfl (o_pure hE rfl rfl (p_move rfl).run ?_); clear hE a; intro a hE
                      refine l_step rfl (o_pure hE rfl rfl (p_ifaceNil Tryd.underlying25 rfl rfl rfl).run ?_); clear hE a; intro a hE
                      refine l_step rfl (o_pure hE rfl rfl (p_move rfl).run ?_); clear hE a; intro a hE
                      refine l_go hE rfl (o_pure hE rfl rfl (p_move rfl).run ?_); clear hE a; intro a hE
                      refine l_go hE rfl (o_pure hE rfl rfl (p_move rfl).run ?_); clear hE a; intro a hE
                      refine l_go hE rfl (o_call hE rfl rfl rfl rfl ent_17 (Ahead_spec hI hv22 (hv8.mono (hD13.trans hD20)) (by first | (rw [keyL_len]; omega) | (simp only [List.length_cons]; omega))) ?_)
                      clear hI hE a
                      rintro r w h a hE; rcases h with ⟨rfl, hC, hI⟩ | ⟨rfl, hC, hI⟩
                      · skip
                        rw [ltB_user] at hC
                        refine l_go hE rfl (o_pure hE rfl rfl (p_move rfl).run ?_); clear hE a; intro a hE
                        refine l_go hE rfl (o_call hE rfl rfl rfl rfl ent_19 (Page_spec hI 0) ?_)
                        clear hI hE a
                        rintro r w h a hE; rcases h with ⟨rfl, hp, hI⟩ | ⟨rfl, hp, hI⟩
                        · skip
                          refine l_go hE rfl (o_pure hE rfl rfl (p_pick (b := true) rfl rfl).run ?_); clear hE a; intro a hE
                          refine l_step rfl (o_pure hE rfl rfl (p_pick (b := false) rfl rfl).run ?_); clear hE a; intro a hE
                          refine l_step rfl (o_pure hE rfl rfl (p_assign rfl).run ?_); clear hE a; intro a hE
                          refine wpList_nil ?_
                          refine then_normal ?_
                          refine wp_ret ?_
                          refine ret1 rfl hE rfl ?_
                          exact ⟨rfl, _, (((hD4.trans hD6).trans hD13).trans hD20), hI⟩
                        · skip
                          exfalso
                          omega
                      · skip
                        rw [ltB_user] at hC
                        refine l_go hE rfl (o_pure hE rfl rfl (p_move rfl).run ?_); clear hE a; intro a hE
                        refine l_skip hE rfl rfl rfl ?_; clear hE a; intro a hE
                        refine l_go hE rfl (o_pure hE rfl rfl (p_pick (b := false) rfl rfl).run ?_); clear hE a; intro a hE
                        refine l_step rfl (o_pure hE rfl rfl (p_pick (b := false) rfl rfl).run ?_); clear hE a; intro a hE
                        refine l_step rfl (o_pure hE rfl rfl (p_assign rfl).run ?_); clear hE a; intro a hE
                        refine wpList_nil ?_
                        refine then_normal ?_
                        refine wp_ret ?_
                        refine ret1 rfl hE rfl ?_
                        first | omega | exact absurd rfl hC
                    · intro q5; replace q5 := eql_f q5; clear hE a; intro a hE
                      refine l_go hE rfl (o_pure hE rfl rfl (p_pick (b := true) rfl rfl).run ?_); clear hE a; intro a hE
                      refine l_go hE rfl (o_pure hE rfl rfl (p_boolEq Tryd.underlying4 rfl rfl rfl).run ?_); clear hE a; intro a hE
                      refine l_step rfl (o_pure hE rfl rfl (p_pick (b := false) rfl rfl).run ?_); clear hE a; intro a hE
                      refine wpList_nil ?_
                      refine then_normal ?_
                      refine c_true hE rfl ?_
                      refine wp_seq ?_
                      refine wp_region_list ?_   -- region 10
                      refine l_step rfl (o_pure hE rfl rfl (p_assign rfl).run ?_); clear hE a; intro a hE
                      refine wpList_nil ?_
                      refine then_normal ?_
                      refine wp_ret ?_
                      refine then_ret ?_
                      refine ret1 rfl hE rfl ?_
                      first | omega | exact absurd rfl hC
                  · intro q4; replace q4 := eql_f q4; clear hE a; intro a hE
                    refine l_go hE rfl (o_pure hE rfl rfl (p_move rfl).run ?_); clear hE a; intro a hE
                    refine l_skip hE rfl rfl rfl ?_; clear hE a; intro a hE
                    refine l_skip hE rfl rfl rfl ?_; clear hE a; intro a hE
                    refine l_skip hE rfl rfl rfl ?_; clear hE a; intro a hE
                    refine l_go hE rfl (o_pure hE rfl rfl (p_pick (b := false) rfl rfl).run ?_); clear hE a; intro a hE
                    refine l_go hE rfl (o_pure hE rfl rfl (p_boolEq Tryd.underlying4 rfl rfl rfl).run ?_); clear hE a; intro a hE
                    refine l_step rfl (o_pure hE rfl rfl (p_pick (b := false) rfl rfl).run ?_); clear hE a; intro a hE
                    refine wpList_nil ?_
                    refine then_normal ?_
                    refine c_true hE rfl ?_
                    refine wp_seq ?_
                    refine wp_region_list ?_   -- region 10
                    refine l_step rfl (o_pure hE rfl rfl (p_assign rfl).run ?_); clear hE a; intro a hE
                    refine wpList_nil ?_
                    refine then_normal ?_
                    refine wp_ret ?_
                    refine then_ret ?_
                    refine ret1 rfl hE rfl ?_
                    first | omega | exact absurd rfl hC
                · skip
                  rw [key_eq (by omega) (by omega)] at hB
                  refine l_go hE rfl (o_pure hE rfl rfl (p_move rfl).run ?_); clear hE a; intro a hE
                  refine l_go hE rfl (o_pure hE rfl rfl (p_move rfl).run ?_); clear hE a; intro a hE
                  refine l_go hE rfl (o_cmp hE rfl rfl rfl rfl rfl rfl ?_ ?_)
                  · intro q4; replace q4 := eql_t q4; clear hE a; intro a hE
                    refine l_go hE rfl (o_pure hE rfl rfl (p_move rfl).run ?_); clear hE a; intro a hE
                    refine l_go hE rfl (o_pure hE rfl rfl (p_move rfl).run ?_); clear hE a; intro a hE
                    refine l_go hE rfl (o_pure hE rfl rfl (p_move rfl).run ?_); clear hE a; intro a hE
                    refine l_go hE rfl (o_cmp hE rfl rfl rfl rfl rfl rfl ?_ ?_)
                    · intro q5; replace q5 := eql_t q5; clear hE a; intro a hE
                      refine l_go hE rfl (o_pure hE rfl rfl (p_pick (b := true) rfl rfl).run ?_); clear hE a; intro a hE
                      refine l_go hE rfl (o_pure hE rfl rfl (p_boolEq Tryd.underlying4 rfl rfl rfl).run ?_); clear hE a; intro a hE
                      refine l_step rfl (o_pure hE rfl rfl (p_pick (b := false) rfl rfl).run ?_); clear hE a; intro a hE
                      refine wpList_nil ?_
                      refine then_normal ?_
                      refine c_true hE rfl ?_
                      refine wp_seq ?_
                      refine wp_region_list ?_   -- region 10
                      refine l_step rfl (o_pure hE rfl rfl (p_assign rfl).run ?_); clear hE a; intro a hE
                      refine wpList_nil ?_
                      refine then_normal ?_
                      refine wp_ret ?_
                      refine then_ret ?_
                      refine ret1 rfl hE rfl ?_
                      first | omega | exact absurd rfl hC
                    · intro q5; replace q5 := eql_f q5; clear hE a; intro a hE
                      refine l_go hE rfl (o_pure hE rfl rfl (p_pick (b := true) rfl rfl).run ?_); clear hE a; intro a hE
                      refine l_go hE rfl (o_pure hE rfl rfl (p_boolEq Tryd.underlying4 rfl rfl rfl).run ?_); clear hE a; intro a hE
                      refine l_step rfl (o_pure hE rfl rfl (p_pick (b := false) rfl rfl).run ?_); clear hE a; intro a hE
                      refine wpList_nil ?_
                      refine then_normal ?_
                      refine c_false hE rfl ?_
                      refine wp_skip ?_
                      refine then_normal ?_
                      refine wp_seq ?_
                      refine wp_region_list ?_   -- region 11
                      refine l_step rfl (o_pure hE rfl rfl (p_move rfl).run ?_); clear hE a; intro a hE
                      refine l_step rfl (o_pure hE rfl rfl (p_ifaceNil Tryd.underlying25 rfl rfl rfl).run ?_); clear hE a; intro a hE
                      refine l_step rfl (o_pure hE rfl rfl (p_move rfl).run ?_); clear hE a; intro a hE
                      refine l_go hE rfl (o_pure hE rfl rfl (p_move rfl).run ?_); clear hE a; intro a hE
                      refine l_go hE rfl (o_pure hE rfl rfl (p_move rfl).run ?_); clear hE a; intro a hE
                      refine l_go hE rfl (o_call hE rfl rfl rfl rfl ent_17 (Ahead_spec hI hv22 (hv8.mono (hD13.trans hD20)) (by first | (rw [keyL_len]; omega) | (simp only [List.length_cons]; omega))) ?_)
                      clear hI hE a
                      rintro r w h a hE; rcases h with ⟨rfl, hC, hI⟩ | ⟨rfl, hC, hI⟩
                      · skip
                        rw [ltB_user] at hC
                        refine l_go hE rfl (o_pure hE rfl rfl (p_move rfl).run ?_); clear hE a; intro a hE
                        refine l_go hE rfl (o_call hE rfl rfl rfl rfl ent_19 (Page_spec hI 0) ?_)
                        clear hI hE a
                        rintro r w h a hE; rcases h with ⟨rfl, hp, hI⟩ | ⟨rfl, hp, hI⟩
                        · skip
                          refine l_go hE rfl (o_pure hE rfl rfl (p_pick (b := true) rfl rfl).run ?_); clear hE a; intro a hE
                          refine l_step rfl (o_pure hE rfl rfl (p_pick (b := false) rfl rfl).run ?_); clear hE a; intro a hE
                          refine l_step rfl (o_pure hE rfl rfl (p_assign rfl).run ?_); clear hE a; intro a hE
                          refine wpList_nil ?_
                          refine then_normal ?_
                          refine wp_ret ?_
                          refine ret1 rfl hE rfl ?_
                          exact ⟨rfl, _, (((hD4.trans hD6).trans hD13).trans hD20), hI⟩
                        · skip
                          exfalso
                          omega
                      · skip
                        rw [ltB_user] at hC
                        refine l_go hE rfl (o_pure hE rfl rfl (p_move rfl).run ?_); clear hE a; intro a hE
                        refine l_skip hE rfl rfl rfl ?_; clear hE a; intro a hE
                        refine l_go hE rfl (o_pure hE rfl rfl (p_pick (b := false) rfl rfl).run ?_); clear hE a; intro a hE
                        refine l_step rfl (o_pure hE rfl rfl (p_pick (b := false) rfl rfl).run ?_); clear hE a; intro a hE
                        refine l_step rfl (o_pure hE rfl rfl (p_assign rfl).run ?_); clear hE a; intro a hE
                        refine wpList_nil ?_
                        refine then_normal ?_
                        refine wp_ret ?_
                        refine ret1 rfl hE rfl ?_
                        first | omega | exact absurd rfl hC
                  · intro q4; replace q4 := eql_f q4; clear hE a; intro a hE
                    refine l_go hE rfl (o_pure hE rfl rfl (p_move rfl).run ?_); clear hE a; intro a hE
                    refine l_skip hE rfl rfl rfl ?_; clear hE a; intro a hE
                    refine l_skip hE rfl rfl rfl ?_; clear hE a; intro a hE
                    refine l_skip hE rfl rfl rfl ?_; clear hE a; intro a hE
                    refine l_go hE rfl (o_pure hE rfl rfl (p_pick (b := false) rfl rfl).run ?_); clear hE a; intro a hE
                    refine l_go hE rfl (o_pure hE rfl rfl (p_boolEq Tryd.underlying4 rfl rfl rfl).run ?_); clear hE a; intro a hE
                    refine l_step rfl (o_pure hE rfl rfl (p_pick (b := false) rfl rfl).run ?_); clear hE a; intro a hE
                    refine wpList_nil ?_
                    refine then_normal ?_
                    refine c_false hE rfl ?_
                    refine wp_skip ?_
                    refine then_normal ?_
                    refine wp_seq ?_
                    refine wp_region_list ?_   -- region 11
                    refine l_step rfl (o_pure hE rfl rfl (p_move rfl).run ?_); clear hE a; intro a hE
                    refine l_step rfl (o_pure hE rfl rfl (p_ifaceNil Tryd.underlying25 rfl rfl rfl).run ?_); clear hE a; intro a hE
                    refine l_step rfl (o_pure hE rfl rfl (p_move rfl).run ?_); clear hE a; intro a hE
                    refine l_go hE rfl (o_pure hE rfl rfl (p_move rfl).run ?_); clear hE a; intro a hE
                    refine l_go hE rfl (o_pure hE rfl rfl (p_move rfl).run ?_); clear hE a; intro a hE
                    refine l_go hE rfl (o_call hE rfl rfl rfl rfl ent_17 (Ahead_spec hI hv22 (hv8.mono (hD13.trans hD20)) (by first | (rw [keyL_len]; omega) | (simp only [List.length_cons]; omega))) ?_)
                    clear hI hE a
                    rintro r w h a hE; rcases h with ⟨rfl, hC, hI⟩ | ⟨rfl, hC, hI⟩
                    · skip
                      rw [ltB_user] at hC
                      refine l_go hE rfl (o_pure hE rfl rfl (p_move rfl).run ?_); clear hE a; intro a hE
                      refine l_go hE rfl (o_call hE rfl rfl rfl rfl ent_19 (Page_spec hI 0) ?_)
                      clear hI hE a
                      rintro r w h a hE; rcases h with ⟨rfl, hp, hI⟩ | ⟨rfl, hp, hI⟩
                      · skip
                        refine l_go hE rfl (o_pure hE rfl rfl (p_pick (b := true) rfl rfl).run ?_); clear hE a; intro a hE
                        refine l_step rfl (o_pure hE rfl rfl (p_pick (b := false) rfl rfl).run ?_); clear hE a; intro a hE
                        refine l_step rfl (o_pure hE rfl rfl (p_assign rfl).run ?_); clear hE a; intro a hE
                        refine wpList_nil ?_
                        refine then_normal ?_
                        refine wp_ret ?_
                        refine ret1 rfl hE rfl ?_
                        exact ⟨rfl, _, (((hD4.trans hD6).trans hD13).trans hD20), hI⟩
                      · skip
                        exfalso
                        omega
                    · skip
                      rw [ltB_user] at hC
                      refine l_go hE rfl (o_pure hE rfl rfl (p_move rfl).run ?_); clear hE a; intro a hE
                      refine l_skip hE rfl rfl rfl ?_; clear hE a; intro a hE
                      refine l_go hE rfl (o_pure hE rfl rfl (p_pick (b := false) rfl rfl).run ?_); clear hE a; intro a hE
                      refine l_step rfl (o_pure hE rfl rfl (p_pick (b := false) rfl rfl).run ?_); clear hE a; intro a hE
                      refine l_step rfl (o_pure hE rfl rfl (p_assign rfl).run ?_); clear hE a; intro a hE
                      refine wpList_nil ?_
                      refine then_normal ?_
                      refine wp_ret ?_
                      refine ret1 rfl hE rfl ?_
                      first | omega | exact absurd rfl hC
              · intro q3; replace q3 := lss_f q3; clear hE a; intro a hE
                refine l_go hE rfl (o_pure hE rfl rfl (p_pick (b := true) rfl rfl).run ?_); clear hE a; intro a hE
                refine l_step rfl (o_pure hE rfl rfl (p_pick (b := false) rfl rfl).run ?_); clear hE a; intro a hE
                refine l_step rfl (o_pure hE rfl rfl (p_boolEq Tryd.underlying4 rfl rfl rfl).run ?_); clear hE a; intro a hE
                refine l_step rfl (o_pure hE rfl rfl (p_move rfl).run ?_); clear hE a; intro a hE
                refine l_skip hE rfl rfl rfl ?_; clear hE a; intro a hE
                refine l_skip hE rfl rfl rfl ?_; clear hE a; intro a hE
                refine l_skip hE rfl rfl rfl ?_; clear hE a; intro a hE
                refine l_skip hE rfl rfl rfl ?_; clear hE a; intro a hE
                refine l_skip hE rfl rfl rfl ?_; clear hE a; intro a hE
                refine l_skip hE rfl rfl rfl ?_; clear hE a; intro a hE
                refine l_skip hE rfl rfl rfl ?_; clear hE a; intro a hE
                refine l_skip hE rfl rfl rfl ?_; clear hE a; intro a hE
                refine l_skip hE rfl rfl rfl ?_; clear hE a; intro a hE
                refine l_skip hE rfl rfl rfl ?_; clear hE a; intro a hE
                refine l_skip hE rfl rfl rfl ?_; clear hE a; intro a hE
                refine l_skip hE rfl rfl rfl ?_; clear hE a; intro a hE
                refine l_step rfl (o_pure hE rfl rfl (p_pick (b := true) rfl rfl).run ?_); clear hE a; intro a hE
                refine wpList_nil ?_
                refine then_normal ?_
                refine c_true hE rfl ?_
                refine wp_seq ?_
                refine wp_region_list ?_   -- region 10
                refine l_step rfl (o_pure hE rfl rfl (p_assign rfl).run ?_); clear hE a; intro a hE
                refine wpList_nil ?_
                refine then_normal ?_
                refine wp_ret ?_
                refine then_ret ?_
                refine ret1 rfl hE rfl ?_
                first | omega | exact absurd rfl hC
            · intro q2; replace q2 := eql_f q2; clear hE a; intro a hE
              refine l_go hE rfl (o_pure hE rfl rfl (p_move rfl).run ?_); clear hE a; intro a hE
              refine l_skip hE rfl rfl rfl ?_; clear hE a; intro a hE
              refine l_skip hE rfl rfl rfl ?_; clear hE a; intro a hE
              refine l_skip hE rfl rfl rfl ?_; clear hE a; intro a hE
              refine l_go hE rfl (o_pure hE rfl rfl (p_pick (b := false) rfl rfl).run ?_); clear hE a; intro a hE
              refine l_step rfl (o_pure hE rfl rfl (p_pick (b := false) rfl rfl).run ?_); clear hE a; intro a hE
              refine l_step rfl (o_pure hE rfl rfl (p_boolEq Tryd.underlying4 rfl rfl rfl).run ?_); clear hE a; intro a hE
              refine l_step rfl (o_pure hE rfl rfl (p_move rfl).run ?_); clear hE a; intro a hE
              refine l_skip hE rfl rfl rfl ?_; clear hE a; intro a hE
              refine l_skip hE rfl rfl rfl ?_; clear hE a; intro a hE
              refine l_skip hE rfl rfl rfl ?_; clear hE a; intro a hE
              refine l_skip hE rfl rfl rfl ?_; clear hE a; intro a hE
              refine l_skip hE rfl rfl rfl ?_; clear hE a; intro a hE
              refine l_skip hE rfl rfl rfl ?_; clear hE a; intro a hE
              refine l_skip hE rfl rfl rfl ?_; clear hE a; intro a hE
              refine l_skip hE rfl rfl rfl ?_; clear hE a; intro a hE
              refine l_skip hE rfl rfl rfl ?_; clear hE a; intro a hE
              refine l_skip hE rfl rfl rfl ?_; clear hE a; intro a hE
              refine l_skip hE rfl rfl rfl ?_; clear hE a; intro a hE
              refine l_skip hE rfl rfl rfl ?_; clear hE a; intro a hE
              refine l_step rfl (o_pure hE rfl rfl (p_pick (b := true) rfl rfl).run ?_); clear hE a; intro a hE
              refine wpList_nil ?_
              refine then_normal ?_
              refine c_true hE rfl ?_
              refine wp_seq ?_
              refine wp_region_list ?_   -- region 10
              refine l_step rfl (o_pure hE rfl rfl (p_assign rfl).run ?_); clear hE a; intro a hE
              refine wpList_nil ?_
              refine then_normal ?_
              refine wp_ret ?_
              refine then_ret ?_
              refine ret1 rfl hE rfl ?_
              first | omega | exact absurd rfl hC
        · skip
          rw [ltB_key (by omega) (by omega)] at hA
          refine l_step rfl (o_pure hE rfl rfl (p_move rfl).run ?_); clear hE a; intro a hE
          refine l_step rfl (o_pure hE rfl rfl (p_move rfl).run ?_); clear hE a; intro a hE
          refine l_step rfl (o_cmp hE rfl rfl rfl rfl rfl rfl ?_ ?_)
          · intro q1; replace q1 := lss_t q1; clear hE a; intro a hE
            refine l_step rfl (o_pure hE rfl rfl (p_move rfl).run ?_); clear hE a; intro a hE
            refine l_skip hE rfl rfl rfl ?_; clear hE a; intro a hE
            refine l_skip hE rfl rfl rfl ?_; clear hE a; intro a hE
            refine l_skip hE rfl rfl rfl ?_; clear hE a; intro a hE
            refine l_skip hE rfl rfl rfl ?_; clear hE a; intro a hE
            refine l_skip hE rfl rfl rfl ?_; clear hE a; intro a hE
            refine l_skip hE rfl rfl rfl ?_; clear hE a; intro a hE
            refine l_skip hE rfl rfl rfl ?_; clear hE a; intro a hE
            refine l_skip hE rfl rfl rfl ?_; clear hE a; intro a hE
            refine l_step rfl (o_pure hE rfl rfl (p_pick (b := true) rfl rfl).run ?_); clear hE a; intro a hE
            refine l_step rfl (o_pure hE rfl rfl (p_boolEq Tryd.underlying4 rfl rfl rfl).run ?_); clear hE a; intro a hE
            refine l_step rfl (o_pure hE rfl rfl (p_move rfl).run ?_); clear hE a; intro a hE
            refine l_skip hE rfl rfl rfl ?_; clear hE a; intro a hE
            refine l_skip hE rfl rfl rfl ?_; clear hE a; intro a hE
            refine l_skip hE rfl rfl rfl ?_; clear hE a; intro a hE
            refine l_skip hE rfl rfl rfl ?_; clear hE a; intro a hE
            refine l_skip hE rfl rfl rfl ?_; clear hE a; intro a hE
            refine l_skip hE rfl rfl rfl ?_; clear hE a; intro a hE
            refine l_skip hE rfl rfl rfl ?_; clear hE a; intro a hE
            refine l_skip hE rfl rfl rfl ?_; clear hE a; intro a hE
            refine l_skip hE rfl rfl rfl ?_; clear hE a; intro a hE
            refine l_skip hE rfl rfl rfl ?_; clear hE a; intro a hE
            refine l_skip hE rfl rfl rfl ?_; clear hE a; intro a hE
            refine l_skip hE rfl rfl rfl ?_; clear hE a; intro a hE
            refine l_step rfl (o_pure hE rfl rfl (p_pick (b := true) rfl rfl).run ?_); clear hE a; intro a hE
            refine wpList_nil ?_
            refine then_normal ?_
            refine c_true hE rfl ?_
            refine wp_seq ?_
            refine wp_region_list ?_   -- region 10
            refine l_step rfl (o_pure hE rfl rfl (p_assign rfl).run ?_); clear hE a; intro a hE
            refine wpList_nil ?_
            refine then_normal ?_
            refine wp_ret ?_
            refine then_ret ?_
            refine ret1 rfl hE rfl ?_
            first | omega | exact absurd rfl hC
          · intro q1; replace q1 := lss_f q1; clear hE a; intro a hE
            refine l_step rfl (o_pure hE rfl rfl (p_move rfl).run ?_); clear hE a; intro a hE
            refine l_go hE rfl (o_pure hE rfl rfl (p_move rfl).run ?_); clear hE a; intro a hE
            refine l_go hE rfl (o_pure hE rfl rfl (p_move rfl).run ?_); clear hE a; intro a hE
            refine l_go hE rfl (o_cmp hE rfl rfl rfl rfl rfl rfl ?_ ?_)
            · intro q2; replace q2 := eql_t q2; clear hE a; intro a hE
              refine l_go hE rfl (o_pure hE rfl rfl (p_move rfl).run ?_); clear hE a; intro a hE
              refine l_go hE rfl (o_pure hE rfl rfl (p_move rfl).run ?_); clear hE a; intro a hE
              refine l_go hE rfl (o_pure hE rfl rfl (p_move rfl).run ?_); clear hE a; intro a hE
              refine l_go hE rfl (o_cmp hE rfl rfl rfl rfl rfl rfl ?_ ?_)
              · intro q3; replace q3 := lss_t q3; clear hE a; intro a hE
                refine l_go hE rfl (o_pure hE rfl rfl (p_pick (b := true) rfl rfl).run ?_); clear hE a; intro a hE
                refine l_step rfl (o_pure hE rfl rfl (p_pick (b := false) rfl rfl).run ?_); clear hE a; intro a hE
                refine l_step rfl (o_pure hE rfl rfl (p_boolEq Tryd.underlying4 rfl rfl rfl).run ?_); clear hE a; intro a hE
                refine l_step rfl (o_pure hE rfl rfl (p_move rfl).run ?_); clear hE a; intro a hE
                refine l_skip hE rfl rfl rfl ?_; clear hE a; intro a hE
                refine l_skip hE rfl rfl rfl ?_; clear hE a; intro a hE
                refine l_skip hE rfl rfl rfl ?_; clear hE a; intro a hE
                refine l_skip hE rfl rfl rfl ?_; clear hE a; intro a hE
                refine l_skip hE rfl rfl rfl ?_; clear hE a; intro a hE
                refine l_skip hE rfl rfl rfl ?_; clear hE a; intro a hE
                refine l_skip hE rfl rfl rfl ?_; clear hE a; intro a hE
                refine l_skip hE rfl rfl rfl ?_; clear hE a; intro a hE
                refine l_skip hE rfl rfl rfl ?_; clear hE a; intro a hE
                refine l_skip hE rfl rfl rfl ?_; clear hE a; intro a hE
                refine l_skip hE rfl rfl rfl ?_; clear hE a; intro a hE
                refine l_skip hE rfl rfl rfl ?_; clear hE a; intro a hE
                refine l_step rfl (o_pure hE rfl rfl (p_pick (b := true) rfl rfl).run ?_); clear hE a; intro a hE
                refine wpList_nil ?_
                refine then_normal ?_
                refine c_true hE rfl ?_
                refine wp_seq ?_
                refine wp_region_list ?_   -- region 10
                refine l_step rfl (o_pure hE rfl rfl (p_assign rfl).run ?_); clear hE a; intro a hE
                refine wpList_nil ?_
                refine then_normal ?_
                refine wp_ret ?_
                refine then_ret ?_
                refine ret1 rfl hE rfl ?_
                first | omega | exact absurd rfl hC
              · intro q3; replace q3 := lss_f q3; clear hE a; intro a hE
                refine l_go hE rfl (o_pure hE rfl rfl (p_pick (b := true) rfl rfl).run ?_); clear hE a; intro a hE
                refine l_step rfl (o_pure hE rfl rfl (p_pick (b := false) rfl rfl).run ?_); clear hE a; intro a hE
                refine l_step rfl (o_pure hE rfl rfl (p_boolEq Tryd.underlying4 rfl rfl rfl).run ?_); clear hE a; intro a hE
                refine l_step rfl (o_pure hE rfl rfl (p_move rfl).run ?_); clear hE a; intro a hE
                refine l_go hE rfl (o_pure hE rfl rfl (p_move rfl).run ?_); clear hE a; intro a hE
                refine l_go hE rfl (o_pure hE rfl rfl (p_move rfl).run ?_); clear hE a; intro a hE
                refine l_go hE rfl (o_call hE rfl rfl rfl rfl ent_18 (SameBytes_spec hI (hv8.mono (hD13.trans hD20)) (hv15.mono hD20) (by rw [keyL_len]; omega)) ?_)
                clear hI hE a
                rintro r w h a hE; rcases h with ⟨rfl, hB, hI⟩ | ⟨rfl, hB, hI⟩
                · skip
                  rw [key_eq (by omega) (by omega)] at hB
                  refine l_go hE rfl (o_pure hE rfl rfl (p_move rfl).run ?_); clear hE a; intro a hE
                  refine l_go hE rfl (o_pure hE rfl rfl (p_move rfl).run ?_); clear hE a; intro a hE
                  refine l_go hE rfl (o_cmp hE rfl rfl rfl rfl rfl rfl ?_ ?_)
                  · intro q4; replace q4 := eql_t q4; clear hE a; intro a hE
                    refine l_go hE rfl (o_pure hE rfl rfl (p_move rfl).run ?_); clear hE a; intro a hE
                    refine l_go hE rfl (o_pure hE rfl rfl (p_move rfl).run ?_); clear hE a; intro a hE
                    refine l_go hE rfl (o_pure hE rfl rfl (p_move rfl).run ?_); clear hE a; intro a hE
                    refine l_go hE rfl (o_cmp hE rfl rfl rfl rfl rfl rfl ?_ ?_)
                    · intro q5; replace q5 := eql_t q5; clear hE a; intro a hE
                      refine l_go hE rfl (o_pure hE rfl rfl (p_pick (b := true) rfl rfl).run ?_); clear hE a; intro a hE
                      refine l_go hE rfl (o_pure hE rfl rfl (p_boolEq Tryd.underlying4 rfl rfl rfl).run ?_); clear hE a; intro a hE
                      refine l_step rfl (o_pure hE rfl rfl (p_pick (b := false) rfl rfl).run ?_); clear hE a; intro a hE
                      refine wpList_nil ?_
                      refine then_normal ?_
                      refine c_false hE rfl ?_
                      refine wp_skip ?_
                      refine then_normal ?_
                      refine wp_seq ?_
                      refine wp_region_list ?_   -- region 11
                      refine l_step rfl (o_pure hE rfl rfl (p_move rfl).run ?_); clear hE a; intro a hE
                      refine l_step rfl (o_pure hE rfl rfl (p_ifaceNil Tryd.underlying25 rfl rfl rfl).run ?_); clear hE a; intro a hE
                      refine l_step rfl (o_pure hE rfl rfl (p_move rfl).run ?_); clear hE a; intro a hE
                      refine l_go hE rfl (o_pure hE rfl rfl (p_move rfl).run ?_); clear hE a; intro a hE
                      refine l_go hE rfl (o_pure hE rfl rfl (p_move rfl).run ?_); clear hE a; intro a hE
                      refine l_go hE rfl (o_call hE rfl rfl rfl rfl ent_17 (Ahead_spec hI hv22 (hv8.mono (hD13.trans hD20)) (by first | (rw [keyL_len]; omega) | (simp only [List.length_cons]; omega))) ?_)
                      clear hI hE a
                      rintro r w h a hE; rcases h with ⟨rfl, hC, hI⟩ | ⟨rfl, hC, hI⟩
                      · skip
                        rw [ltB_user] at hC
                        refine l_go hE rfl (o_pure hE rfl rfl (p_move rfl).run ?_); clear hE a; intro a hE
                        refine l_go hE rfl (o_call hE rfl rfl rfl rfl ent_19 (Page_spec hI 0) ?_)
                        clear hI hE a
                        rintro r w h a hE; rcases h with ⟨rfl, hp, hI⟩ | ⟨rfl, hp, hI⟩
                        · skip
                          refine l_go hE rfl (o_pure hE rfl rfl (p_pick (b := true) rfl rfl).run ?_); clear hE a; intro a hE
                          refine l_step rfl (o_pure hE rfl rfl (p_pick (b := false) rfl rfl).run ?_); clear hE a; intro a hE
                          refine l_step rfl (o_pure hE rfl rfl (p_assign rfl).run ?_); clear hE a; intro a hE
                          refine wpList_nil ?_
                          refine then_normal ?_
                          refine wp_ret ?_
                          refine ret1 rfl hE rfl ?_
                          exact ⟨rfl, _, (((hD4.trans hD6).trans hD13).trans hD20), hI⟩
                        · skip
                          exfalso
                          omega
                      · skip
                        rw [ltB_user] at hC
                        refine l_go hE rfl (o_pure hE rfl rfl (p_move rfl).run ?_); clear hE a; intro a hE
                        refine l_skip hE rfl rfl rfl ?_; clear hE a; intro a hE
                        refine l_go hE rfl (o_pure hE rfl rfl (p_pick (b := false) rfl rfl).run ?_); clear hE a; intro a hE
                        refine l_step rfl (o_pure hE rfl rfl (p_pick (b := false) rfl rfl).run ?_); clear hE a; intro a hE
                        refine l_step rfl (o_pure hE rfl rfl (p_assign rfl).run ?_); clear hE a; intro a hE
                        refine wpList_nil ?_
                        refine then_normal ?_
                        refine wp_ret ?_
                        refine ret1 rfl hE rfl ?_
                        first | omega | exact absurd rfl hC
                    · intro q5; replace q5 := eql_f q5; clear hE a; intro a hE
                      refine l_go hE rfl (o_pure hE rfl rfl (p_pick (b := true) rfl rfl).run ?_); clear hE a; intro a hE
                      refine l_go hE rfl (o_pure hE rfl rfl (p_boolEq Tryd.underlying4 rfl rfl rfl).run ?_); clear hE a; intro a hE
                      refine l_step rfl (o_pure hE rfl rfl (p_pick (b := false) rfl rfl).run ?_); clear hE a; intro a hE
                      refine wpList_nil ?_
                      refine then_normal ?_
                      refine c_true hE rfl ?_
                      refine wp_seq ?_
                      refine wp_region_list ?_   -- region 10
                      refine l_step rfl (o_pure hE rfl rfl (p_assign rfl).run ?_); clear hE a; intro a hE
                      refine wpList_nil ?_
                      refine then_normal ?_
                      refine wp_ret ?_
                      refine then_ret ?_
                      refine ret1 rfl hE rfl ?_
                      first | omega | exact absurd rfl hC
                  · intro q4; replace q4 := eql_f q4; clear hE a; intro a hE
                    refine l_go hE rfl (o_pure hE rfl rfl (p_move rfl).run ?_); clear hE a; intro a hE
                    refine l_skip hE rfl rfl rfl ?_; clear hE a; intro a hE
                    refine l_skip hE rfl rfl rfl ?_; clear hE a; intro a hE
                    refine l_skip hE rfl rfl rfl ?_; clear hE a; intro a hE
                    refine l_go hE rfl (o_pure hE rfl rfl (p_pick (b := false) rfl rfl).run ?_); clear hE a; intro a hE
                    refine l_go hE rfl (o_pure hE rfl rfl (p_boolEq Tryd.underlying4 rfl rfl rfl).run ?_); clear hE a; intro a hE
                    refine l_step rfl (o_pure hE rfl rfl (p_pick (b := false) rfl rfl).run ?_); clear hE a; intro a hE
                    refine wpList_nil ?_
                    refine then_normal ?_
                    refine c_true hE rfl ?_
                    refine wp_seq ?_
                    refine wp_region_list ?_   -- region 10
                    refine l_step rfl (o_pure hE rfl rfl (p_assign rfl).run ?_); clear hE a; intro a hE
                    refine wpList_nil ?_
                    refine then_normal ?_
                    refine wp_ret ?_
                    refine then_ret ?_
                    refine ret1 rfl hE rfl ?_
                    first | omega | exact absurd rfl hC
                · skip
                  rw [key_eq (by omega) (by omega)] at hB
                  refine l_go hE rfl (o_pure hE rfl rfl (p_move rfl).run ?_); clear hE a; intro a hE
                  refine l_go hE rfl (o_pure hE rfl rfl (p_move rfl).run ?_); clear hE a; intro a hE
                  refine l_go hE rfl (o_cmp hE rfl rfl rfl rfl rfl rfl ?_ ?_)
                  · intro q4; replace q4 := eql_t q4; clear hE a; intro a hE
                    refine l_go hE rfl (o_pure hE rfl rfl (p_move rfl).run ?_); clear hE a; intro a hE
                    refine l_go hE rfl (o_pure hE rfl rfl (p_move rfl).run ?_); clear hE a; intro a hE
                    refine l_go hE rfl (o_pure hE rfl rfl (p_move rfl).run ?_); clear hE a; intro a hE
                    refine l_go hE rfl (o_cmp hE rfl rfl rfl rfl rfl rfl ?_ ?_)
                    · intro q5; replace q5 := eql_t q5; clear hE a; intro a hE
                      refine l_go hE rfl (o_pure hE rfl rfl (p_pick (b := true) rfl rfl).run ?_); clear hE a; intro a hE
                      refine l_go hE rfl (o_pure hE rfl rfl (p_boolEq Tryd.underlying4 rfl rfl rfl).run ?_); clear hE a; intro a hE
                      refine l_step rfl (o_pure hE rfl rfl (p_pick (b := false) rfl rfl).run ?_); clear hE a; intro a hE
                      refine wpList_nil ?_
                      refine then_normal ?_
                      refine c_true hE rfl ?_
                      refine wp_seq ?_
                      refine wp_region_list ?_   -- region 10
                      refine l_step rfl (o_pure hE rfl rfl (p_assign rfl).run ?_); clear hE a; intro a hE
                      refine wpList_nil ?_
                      refine then_normal ?_
                      refine wp_ret ?_
                      refine then_ret ?_
                      refine ret1 rfl hE rfl ?_
                      first | omega | exact absurd rfl hC
                    · intro q5; replace q5 := eql_f q5; clear hE a; intro a hE
                      refine l_go hE rfl (o_pure hE rfl rfl (p_pick (b := true) rfl rfl).run ?_); clear hE a; intro a hE
                      refine l_go hE rfl (o_pure hE rfl rfl (p_boolEq Tryd.underlying4 rfl rfl rfl).run ?_); clear hE a; intro a hE
                      refine l_step rfl (o_pure hE rfl rfl (p_pick (b := false) rfl rfl).run ?_); clear hE a; intro a hE
                      refine wpList_nil ?_
                      refine then_normal ?_
                      refine c_false hE rfl ?_
                      refine wp_skip ?_
                      refine then_normal ?_
                      refine wp_seq ?_
                      refine wp_region_list ?_   -- region 11
                      refine l_step rfl (o_pure hE rfl rfl (p_move rfl).run ?_); clear hE a; intro a hE
                      refine l_step rfl (o_pure hE rfl rfl (p_ifaceNil Tryd.underlying25 rfl rfl rfl).run ?_); clear hE a; intro a hE
                      refine l_step rfl (o_pure hE rfl rfl (p_move rfl).run ?_); clear hE a; intro a hE
                      refine l_go hE rfl (o_pure hE rfl rfl (p_move rfl).run ?_); clear hE a; intro a hE
                      refine l_go hE rfl (o_pure hE rfl rfl (p_move rfl).run ?_); clear hE a; intro a hE
                      refine l_go hE rfl (o_call hE rfl rfl rfl rfl ent_17 (Ahead_spec hI hv22 (hv8.mono (hD13.trans hD20)) (by first | (rw [keyL_len]; omega) | (simp only [List.length_cons]; omega))) ?_)
                      clear hI hE a
                      rintro r w h a hE; rcases h with ⟨rfl, hC, hI⟩ | ⟨rfl, hC, hI⟩
                      · skip
                        rw [ltB_user] at hC
                        refine l_go hE rfl (o_pure hE rfl rfl (p_move rfl).run ?_); clear hE a; intro a hE
                        refine l_go hE rfl (o_call hE rfl rfl rfl rfl ent_19 (Page_spec hI 0) ?_)
                        clear hI hE a
                        rintro r w h a hE; rcases h with ⟨rfl, hp, hI⟩ | ⟨rfl, hp, hI⟩
                        · skip
                          refine l_go hE rfl (o_pure hE rfl rfl (p_pick (b := true) rfl rfl).run ?_); clear hE a; intro a hE
                          refine l_step rfl (o_pure hE rfl rfl (p_pick (b := false) rfl rfl).run ?_); clear hE a; intro a hE
                          refine l_step rfl (o_pure hE rfl rfl (p_assign rfl).run ?_); clear hE a; intro a hE
                          refine wpList_nil ?_
                          refine then_normal ?_
                          refine wp_ret ?_
                          refine ret1 rfl hE rfl ?_
                          exact ⟨rfl, _, (((hD4.trans hD6).trans hD13).trans hD20), hI⟩
                        · skip
                          exfalso
                          omega
                      · skip
                        rw [ltB_user] at hC
                        refine l_go hE rfl (o_pure hE rfl rfl (p_move rfl).run ?_); clear hE a; intro a hE
                        refine l_skip hE rfl rfl rfl ?_; clear hE a; intro a hE
                        refine l_go hE rfl (o_pure hE rfl rfl (p_pick (b := false) rfl rfl).run ?_); clear hE a; intro a hE
                        refine l_step rfl (o_pure hE rfl rfl (p_pick (b := false) rfl rfl).run ?_); clear hE a; intro a hE
                        refine l_step rfl (o_pure hE rfl rfl (p_assign rfl).run ?_); clear hE a; intro a hE
                        refine wpList_nil ?_
                        refine then_normal ?_
                        refine wp_ret ?_
                        refine ret1 rfl hE rfl ?_
                        first | omega | exact absurd rfl hC
                  · intro q4; replace q4 := eql_f q4; clear hE a; intro a hE
                    refine l_go hE rfl (o_pure hE rfl rfl (p_move rfl).run ?_); clear hE a; intro a hE
                    refine l_skip hE rfl rfl rfl ?_; clear hE a; intro a hE
                    refine l_skip hE rfl rfl rfl ?_; clear hE a; intro a hE
                    refine l_skip hE rfl rfl rfl ?_; clear hE a; intro a hE
                    refine l_go hE rfl (o_pure hE rfl rfl (p_pick (b := false) rfl rfl).run ?_); clear hE a; intro a hE
                    refine l_go hE rfl (o_pure hE rfl rfl (p_boolEq Tryd.underlying4 rfl rfl rfl).run ?_); clear hE a; intro a hE
                    refine l_step rfl (o_pure hE rfl rfl (p_pick (b := false) rfl rfl).run ?_); clear hE a; intro a hE
                    refine wpList_nil ?_
                    refine then_normal ?_
                    refine c_false hE rfl ?_
                    refine wp_skip ?_
                    refine then_normal ?_
                    refine wp_seq ?_
                    refine wp_region_list ?_   -- region 11
                    refine l_step rfl (o_pure hE rfl rfl (p_move rfl).run ?_); clear hE a; intro a hE
                    refine l_step rfl (o_pure hE rfl rfl (p_ifaceNil Tryd.underlying25 rfl rfl rfl).run ?_); clear hE a; intro a hE
                    refine l_step rfl (o_pure hE rfl rfl (p_move rfl).run ?_); clear hE a; intro a hE
                    refine l_go hE rfl (o_pure hE rfl rfl (p_move rfl).run ?_); clear hE a; intro a hE
                    refine l_go hE rfl (o_pure hE rfl rfl (p_move rfl).run ?_); clear hE a; intro a hE
                    refine l_go hE rfl (o_call hE rfl rfl rfl rfl ent_17 (Ahead_spec hI hv22 (hv8.mono (hD13.trans hD20)) (by first | (rw [keyL_len]; omega) | (simp only [List.length_cons]; omega))) ?_)
                    clear hI hE a
                    rintro r w h a hE; rcases h with ⟨rfl, hC, hI⟩ | ⟨rfl, hC, hI⟩
                    · skip
                      rw [ltB_user] at hC
                      refine l_go hE rfl (o_pure hE rfl rfl (p_move rfl).run ?_); clear hE a; intro a hE
                      refine l_go hE rfl (o_call hE rfl rfl rfl rfl ent_19 (Page_spec hI 0) ?_)
                      clear hI hE a
                      rintro r w h a hE; rcases h with ⟨rfl, hp, hI⟩ | ⟨rfl, hp, hI⟩
                      · skip
                        refine l_go hE rfl (o_pure hE rfl rfl (p_pick (b := true) rfl rfl).run ?_); clear hE a; intro a hE
                        refine l_step rfl (o_pure hE rfl rfl (p_pick (b := false) rfl rfl).run ?_); clear hE a; intro a hE
                        refine l_step rfl (o_pure hE rfl rfl (p_assign rfl).run ?_); clear hE a; intro a hE
                        refine wpList_nil ?_
                        refine then_normal ?_
                        refine wp_ret ?_
                        refine ret1 rfl hE rfl ?_
                        exact ⟨rfl, _, (((hD4.trans hD6).trans hD13).trans hD20), hI⟩
                      · skip
                        exfalso
                        omega
                    · skip
                      rw [ltB_user] at hC
                      refine l_go hE rfl (o_pure hE rfl rfl (p_move rfl).run ?_); clear hE a; intro a hE
                      refine l_skip hE rfl rfl rfl ?_; clear hE a; intro a hE
                      refine l_go hE rfl (o_pure hE rfl rfl (p_pick (b := false) rfl rfl).run ?_); clear hE a; intro a hE
                      refine l_step rfl (o_pure hE rfl rfl (p_pick (b := false) rfl rfl).run ?_); clear hE a; intro a hE
                      refine l_step rfl (o_pure hE rfl rfl (p_assign rfl).run ?_); clear hE a; intro a hE
                      refine wpList_nil ?_
                      refine then_normal ?_
                      refine wp_ret ?_
                      refine ret1 rfl hE rfl ?_
                      first | omega | exact absurd rfl hC
            · intro q2; replace q2 := eql_f q2; clear hE a; intro a hE
              refine l_go hE rfl (o_pure hE rfl rfl (p_move rfl).run ?_); clear hE a; intro a hE
              refine l_skip hE rfl rfl rfl ?_; clear hE a; intro a hE
              refine l_skip hE rfl rfl rfl ?_; clear hE a; intro a hE
              refine l_skip hE rfl rfl rfl ?_; clear hE a; intro a hE
              refine l_go hE rfl (o_pure hE rfl rfl (p_pick (b := false) rfl rfl).run ?_); clear hE a; intro a hE
              refine l_step rfl (o_pure hE rfl rfl (p_pick (b := false) rfl rfl).run ?_); clear hE a; intro a hE
              refine l_step rfl (o_pure hE rfl rfl (p_boolEq Tryd.underlying4 rfl rfl rfl).run ?_); clear hE a; intro a hE
              refine l_step rfl (o_pure hE rfl rfl (p_move rfl).run ?_); clear hE a; intro a hE
              refine l_go hE rfl (o_pure hE rfl rfl (p_move rfl).run ?_); clear hE a; intro a hE
              refine l_go hE rfl (o_pure hE rfl rfl (p_move rfl).run ?_); clear hE a; intro a hE
              refine l_go hE rfl (o_call hE rfl rfl rfl rfl ent_18 (SameBytes_spec hI (hv8.mono (hD13.trans hD20)) (hv15.mono hD20) (by rw [keyL_len]; omega)) ?_)
              clear hI hE a
              rintro r w h a hE; rcases h with ⟨rfl, hB, hI⟩ | ⟨rfl, hB, hI⟩
              · skip
                rw [key_eq (by omega) (by omega)] at hB
                refine l_go hE rfl (o_pure hE rfl rfl (p_move rfl).run ?_); clear hE a; intro a hE
                refine l_go hE rfl (o_pure hE rfl rfl (p_move rfl).run ?_); clear hE a; intro a hE
                refine l_go hE rfl (o_cmp hE rfl rfl rfl rfl rfl rfl ?_ ?_)
                · intro q4; replace q4 := eql_t q4; clear hE a; intro a hE
                  refine l_go hE rfl (o_pure hE rfl rfl (p_move rfl).run ?_); clear hE a; intro a hE
                  refine l_go hE rfl (o_pure hE rfl rfl (p_move rfl).run ?_); clear hE a; intro a hE
                  refine l_go hE rfl (o_pure hE rfl rfl (p_move rfl).run ?_); clear hE a; intro a hE
                  refine l_go hE rfl (o_cmp hE rfl rfl rfl rfl rfl rfl ?_ ?_)
                  · intro q5; replace q5 := eql_t q5; clear hE a; intro a hE
                    refine l_go hE rfl (o_pure hE rfl rfl (p_pick (b := true) rfl rfl).run ?_); clear hE a; intro a hE
                    refine l_go hE rfl (o_pure hE rfl rfl (p_boolEq Tryd.underlying4 rfl rfl rfl).run ?_); clear hE a; intro a hE
                    refine l_step rfl (o_pure hE rfl rfl (p_pick (b := false) rfl rfl).run ?_); clear hE a; intro a hE
                    refine wpList_nil ?_
                    refine then_normal ?_
                    refine c_false hE rfl ?_
                    refine wp_skip ?_
                    refine then_normal ?_
                    refine wp_seq ?_
                    refine wp_region_list ?_   -- region 11
                    refine l_step rfl (o_pure hE rfl rfl (p_move rfl).run ?_); clear hE a; intro a hE
                    refine l_step rfl (o_pure hE rfl rfl (p_ifaceNil Tryd.underlying25 rfl rfl rfl).run ?_); clear hE a; intro a hE
                    refine l_step rfl (o_pure hE rfl rfl (p_move rfl).run ?_); clear hE a; intro a hE
                    refine l_go hE rfl (o_pure hE rfl rfl (p_move rfl).run ?_); clear hE a; intro a hE
                    refine l_go hE rfl (o_pure hE rfl rfl (p_move rfl).run ?_); clear hE a; intro a hE
                    refine l_go hE rfl (o_call hE rfl rfl rfl rfl ent_17 (Ahead_spec hI hv22 (hv8.mono (hD13.trans hD20)) (by first | (rw [keyL_len]; omega) | (simp only [List.length_cons]; omega))) ?_)
                    clear hI hE a
                    rintro r w h a hE; rcases h with ⟨rfl, hC, hI⟩ | ⟨rfl, hC, hI⟩
                    · skip
                      rw [ltB_user] at hC
                      refine l_go hE rfl (o_pure hE rfl rfl (p_move rfl).run ?_); clear hE a; intro a hE
                      refine l_go hE rfl (o_call hE rfl rfl rfl rfl ent_19 (Page_spec hI 0) ?_)
                      clear hI hE a
                      rintro r w h a hE; rcases h with ⟨rfl, hp, hI⟩ | ⟨rfl, hp, hI⟩
                      · skip
                        refine l_go hE rfl (o_pure hE rfl rfl (p_pick (b := true) rfl rfl).run ?_); clear hE a; intro a hE
                        refine l_step rfl (o_pure hE rfl rfl (p_pick (b := false) rfl rfl).run ?_); clear hE a; intro a hE
                        refine l_step rfl (o_pure hE rfl rfl (p_assign rfl).run ?_); clear hE a; intro a hE
                        refine wpList_nil ?_
                        refine then_normal ?_
                        refine wp_ret ?_
                        refine ret1 rfl hE rfl ?_
                        exact ⟨rfl, _, (((hD4.trans hD6).trans hD13).trans hD20), hI⟩
                      · skip
                        exfalso
                        omega
                    · skip
                      rw [ltB_user] at hC
                      refine l_go hE rfl (o_pure hE rfl rfl (p_move rfl).run ?_); clear hE a; intro a hE
                      refine l_skip hE rfl rfl rfl ?_; clear hE a; intro a hE
                      refine l_go hE rfl (o_pure hE rfl rfl (p_pick (b := false) rfl rfl).run ?_); clear hE a; intro a hE
                      refine l_step rfl (o_pure hE rfl rfl (p_pick (b := false) rfl rfl).run ?_); clear hE a; intro a hE
                      refine l_step rfl (o_pure hE rfl rfl (p_assign rfl).run ?_); clear hE a; intro a hE
                      refine wpList_nil ?_
                      refine then_normal ?_
                      refine wp_ret ?_
                      refine ret1 rfl hE rfl ?_
                      first | omega | exact absurd rfl hC
                  · intro q5; replace q5 := eql_f q5; clear hE a; intro a hE
                    refine l_go hE rfl (o_pure hE rfl rfl (p_pick (b := true) rfl rfl).run ?_); clear hE a; intro a hE
                    refine l_go hE rfl (o_pure hE rfl rfl (p_boolEq Tryd.underlying4 rfl rfl rfl).run ?_); clear hE a; intro a hE
                    refine l_step rfl (o_pure hE rfl rfl (p_pick (b := false) rfl rfl).run ?_); clear hE a; intro a hE
                    refine wpList_nil ?_
                    refine then_normal ?_
                    refine c_true hE rfl ?_
                    refine wp_seq ?_
                    refine wp_region_list ?_   -- region 10
                    refine l_step rfl (o_pure hE rfl rfl (p_assign rfl).run ?_); clear hE a; intro a hE
                    refine wpList_nil ?_
                    refine then_normal ?_
                    refine wp_ret ?_
                    refine then_ret ?_
                    refine ret1 rfl hE rfl ?_
                    first | omega | exact absurd rfl hC
                · intro q4; replace q4 := eql_f q4; clear hE a; intro a hE
                  refine l_go hE rfl (o_pure hE rfl rfl (p_move rfl).run ?_); clear hE a; intro a hE
                  refine l_skip hE rfl rfl rfl ?_; clear hE a; intro a hE
                  refine l_skip hE rfl rfl rfl ?_; clear hE a; intro a hE
                  refine l_skip hE rfl rfl rfl ?_; clear hE a; intro a hE
                  refine l_go hE rfl (o_pure hE rfl rfl (p_pick (b := false) rfl rfl).run ?_); clear hE a; intro a hE
                  refine l_go hE rfl (o_pure hE rfl rfl (p_boolEq Tryd.underlying4 rfl rfl rfl).run ?_); clear hE a; intro a hE
                  refine l_step rfl (o_pure hE rfl rfl (p_pick (b := false) rfl rfl).run ?_); clear hE a; intro a hE
                  refine wpList_nil ?_
                  refine then_normal ?_
                  refine c_true hE rfl ?_
                  refine wp_seq ?_
                  refine wp_region_list ?_   -- region 10
                  refine l_step rfl (o_pure hE rfl rfl (p_assign rfl).run ?_); clear hE a; intro a hE
                  refine wpList_nil ?_
                  refine then_normal ?_
                  refine wp_ret ?_
                  refine then_ret ?_
                  refine ret1 rfl hE rfl ?_
                  first | omega | exact absurd rfl hC
              · skip
                rw [key_eq (by omega) (by omega)] at hB
                refine l_go hE rfl (o_pure hE rfl rfl (p_move rfl).run ?_); clear hE a; intro a hE
                refine l_go hE rfl (o_pure hE rfl rfl (p_move rfl).run ?_); clear hE a; intro a hE
                refine l_go hE rfl (o_cmp hE rfl rfl rfl rfl rfl rfl ?_ ?_)
                · intro q4; replace q4 := eql_t q4; clear hE a; intro a hE
                  refine l_go hE rfl (o_pure hE rfl rfl (p_move rfl).run ?_); clear hE a; intro a hE
                  refine l_go hE rfl (o_pure hE rfl rfl (p_move rfl).run ?_); clear hE a; intro a hE
                  refine l_go hE rfl (o_pure hE rfl rfl (p_move rfl).run ?_); clear hE a; intro a hE
                  refine l_go hE rfl (o_cmp hE rfl rfl rfl rfl rfl rfl ?_ ?_)
                  · intro q5; replace q5 := eql_t q5; clear hE a; intro a hE
                    refine l_go hE rfl (o_pure hE rfl rfl (p_pick (b := true) rfl rfl).run ?_); clear hE a; intro a hE
                    refine l_go hE rfl (o_pure hE rfl rfl (p_boolEq Tryd.underlying4 rfl rfl rfl).run ?_); clear hE a; intro a hE
                    refine l_step rfl (o_pure hE rfl rfl (p_pick (b := false) rfl rfl).run ?_); clear hE a; intro a hE
                    refine wpList_nil ?_
                    refine then_normal ?_
                    refine c_true hE rfl ?_
                    refine wp_seq ?_
                    refine wp_region_list ?_   -- region 10
                    refine l_step rfl (o_pure hE rfl rfl (p_assign rfl).run ?_); clear hE a; intro a hE
                    refine wpList_nil ?_
                    refine then_normal ?_
                    refine wp_ret ?_
                    refine then_ret ?_
                    refine ret1 rfl hE rfl ?_
                    first | omega | exact absurd rfl hC
                  · intro q5; replace q5 := eql_f q5; clear hE a; intro a hE
                    refine l_go hE rfl (o_pure hE rfl rfl (p_pick (b := true) rfl rfl).run ?_); clear hE a; intro a hE
                    refine l_go hE rfl (o_pure hE rfl rfl (p_boolEq Tryd.underlying4 rfl rfl rfl).run ?_); clear hE a; intro a hE
                    refine l_step rfl (o_pure hE rfl rfl (p_pick (b := false) rfl rfl).run ?_); clear hE a; intro a hE
                    refine wpList_nil ?_
                    refine then_normal ?_
                    refine c_false hE rfl ?_
                    refine wp_skip ?_
                    refine then_normal ?_
                    refine wp_seq ?_
                    refine wp_region_list ?_   -- region 11
                    refine l_step rfl (o_pure hE rfl rfl (p_move rfl).run ?_); clear hE a; intro a hE
                    refine l_step rfl (o_pure hE rfl rfl (p_ifaceNil Tryd.underlying25 rfl rfl rfl).run ?_); clear hE a; intro a hE
                    refine l_step rfl (o_pure hE rfl rfl (p_move rfl).run ?_); clear hE a; intro a hE
                    refine l_go hE rfl (o_pure hE rfl rfl (p_move rfl).run ?_); clear hE a; intro a hE
                    refine l_go hE rfl (o_pure hE rfl rfl (p_move rfl).run ?_); clear hE a; intro a hE
                    refine l_go hE rfl (o_call hE rfl rfl rfl rfl ent_17 (Ahead_spec hI hv22 (hv8.mono (hD13.trans hD20)) (by first | (rw [keyL_len]; omega) | (simp only [List.length_cons]; omega))) ?_)
                    clear hI hE a
                    rintro r w h a hE; rcases h with ⟨rfl, hC, hI⟩ | ⟨rfl, hC, hI⟩
                    · skip
                      rw [ltB_user] at hC
                      refine l_go hE rfl (o_pure hE rfl rfl (p_move rfl).run ?_); clear hE a; intro a hE
                      refine l_go hE rfl (o_call hE rfl rfl rfl rfl ent_19 (Page_spec hI 0) ?_)
                      clear hI hE a
                      rintro r w h a hE; rcases h with ⟨rfl, hp, hI⟩ | ⟨rfl, hp, hI⟩
                      · skip
                        refine l_go hE rfl (o_pure hE rfl rfl (p_pick (b := true) rfl rfl).run ?_); clear hE a; intro a hE
                        refine l_step rfl (o_pure hE rfl rfl (p_pick (b := false) rfl rfl).run ?_); clear hE a; intro a hE
                        refine l_step rfl (o_pure hE rfl rfl (p_assign rfl).run ?_); clear hE a; intro a hE
                        refine wpList_nil ?_
                        refine then_normal ?_
                        refine wp_ret ?_
                        refine ret1 rfl hE rfl ?_
                        exact ⟨rfl, _, (((hD4.trans hD6).trans hD13).trans hD20), hI⟩
                      · skip
                        exfalso
                        omega
                    · skip
                      rw [ltB_user] at hC
                      refine l_go hE rfl (o_pure hE rfl rfl (p_move rfl).run ?_); clear hE a; intro a hE
                      refine l_skip hE rfl rfl rfl ?_; clear hE a; intro a hE
                      refine l_go hE rfl (o_pure hE rfl rfl (p_pick (b := false) rfl rfl).run ?_); clear hE a; intro a hE
                      refine l_step rfl (o_pure hE rfl rfl (p_pick (b := false) rfl rfl).run ?_); clear hE a; intro a hE
                      refine l_step rfl (o_pure hE rfl rfl (p_assign rfl).run ?_); clear hE a; intro a hE
                      refine wpList_nil ?_
                      refine then_normal ?_
                      refine wp_ret ?_
                      refine ret1 rfl hE rfl ?_
                      first | omega | exact absurd rfl hC
                · intro q4; replace q4 := eql_f q4; clear hE a; intro a hE
                  refine l_go hE rfl (o_pure hE rfl rfl (p_move rfl).run ?_); clear hE a; intro a hE
                  refine l_skip hE rfl rfl rfl ?_; clear hE a; intro a hE
                  refine l_skip hE rfl rfl rfl ?_; clear hE a; intro a hE
                  refine l_skip hE rfl rfl rfl ?_; clear hE a; intro a hE
                  refine l_go hE rfl (o_pure hE rfl rfl (p_pick (b := false) rfl rfl).run ?_); clear hE a; intro a hE
                  refine l_go hE rfl (o_pure hE rfl rfl (p_boolEq Tryd.underlying4 rfl rfl rfl).run ?_); clear hE a; intro a hE
                  refine l_step rfl (o_pure hE rfl rfl (p_pick (b := false) rfl rfl).run ?_); clear hE a; intro a hE
                  refine wpList_nil ?_
                  refine then_normal ?_
                  refine c_false hE rfl ?_
                  refine wp_skip ?_
                  refine then_normal ?_
                  refine wp_seq ?_
                  refine wp_region_list ?_   -- region 11
                  refine l_step rfl (o_pure hE rfl rfl (p_move rfl).run ?_); clear hE a; intro a hE
                  refine l_step rfl (o_pure hE rfl rfl (p_ifaceNil Tryd.underlying25 rfl rfl rfl).run ?_); clear hE a; intro a hE
                  refine l_step rfl (o_pure hE rfl rfl (p_move rfl).run ?_); clear hE a; intro a hE
                  refine l_go hE rfl (o_pure hE rfl rfl (p_move rfl).run ?_); clear hE a; intro a hE
                  refine l_go hE rfl (o_pure hE rfl rfl (p_move rfl).run ?_); clear hE a; intro a hE
                  refine l_go hE rfl (o_call hE rfl rfl rfl rfl ent_17 (Ahead_spec hI hv22 (hv8.mono (hD13.trans hD20)) (by first | (rw [keyL_len]; omega) | (simp only [List.length_cons]; omega))) ?_)
                  clear hI hE a
                  rintro r w h a hE; rcases h with ⟨rfl, hC, hI⟩ | ⟨rfl, hC, hI⟩
                  · skip
                    rw [ltB_user] at hC
                    refine l_go hE rfl (o_pure hE rfl rfl (p_move rfl).run ?_); clear hE a; intro a hE
                    refine l_go hE rfl (o_call hE rfl rfl rfl rfl ent_19 (Page_spec hI 0) ?_)
                    clear hI hE a
                    rintro r w h a hE; rcases h with ⟨rfl, hp, hI⟩ | ⟨rfl, hp, hI⟩
                    · skip
                      refine l_go hE rfl (o_pure hE rfl rfl (p_pick (b := true) rfl rfl).run ?_); clear hE a; intro a hE
                      refine l_step rfl (o_pure hE rfl rfl (p_pick (b := false) rfl rfl).run ?_); clear hE a; intro a hE
                      refine l_step rfl (o_pure hE rfl rfl (p_assign rfl).run ?_); clear hE a; intro a hE
                      refine wpList_nil ?_
                      refine then_normal ?_
                      refine wp_ret ?_
                      refine ret1 rfl hE rfl ?_
                      exact ⟨rfl, _, (((hD4.trans hD6).trans hD13).trans hD20), hI⟩
                    · skip
                      exfalso
                      omega
                  · skip
                    rw [ltB_user] at hC
                    refine l_go hE rfl (o_pure hE rfl rfl (p_move rfl).run ?_); clear hE a; intro a hE
                    refine l_skip hE rfl rfl rfl ?_; clear hE a; intro a hE
                    refine l_go hE rfl (o_pure hE rfl rfl (p_pick (b := false) rfl rfl).run ?_); clear hE a; intro a hE
                    refine l_step rfl (o_pure hE rfl rfl (p_pick (b := false) rfl rfl).run ?_); clear hE a; intro a hE
                    refine l_step rfl (o_pure hE rfl rfl (p_assign rfl).run ?_); clear hE a; intro a hE
                    refine wpList_nil ?_
                    refine then_normal ?_
                    refine wp_ret ?_
                    refine ret1 rfl hE rfl ?_
                    first | omega | exact absurd rfl hC
      · skip
        refine l_step rfl (o_pure hE rfl rfl (p_move rfl).run ?_); clear hE a; intro a hE
        refine l_step rfl (o_pure hE rfl rfl (f_extract rfl rfl).run ?_); clear hE a; intro a hE
        refine l_step rfl (o_pure hE rfl rfl (f_extract rfl rfl).run ?_); clear hE a; intro a hE
        refine l_step rfl (o_pure hE rfl rfl (p_assign rfl).run ?_); clear hE a; intro a hE
        refine l_step rfl (o_pure hE rfl rfl (p_assign rfl).run ?_); clear hE a; intro a hE
        refine wpList_nil ?_
        refine then_normal ?_
        refine wp_seq ?_
        refine wp_seq ?_
        refine wp_region_list ?_   -- region 7
        refine l_step rfl (o_pure hE rfl rfl (p_move rfl).run ?_); clear hE a; intro a hE
        refine l_step rfl (o_pure hE rfl rfl (p_ifaceNil Tryd.underlying25 rfl rfl rfl).run ?_); clear hE a; intro a hE
        refine l_step rfl (o_pure hE rfl rfl (p_move rfl).run ?_); clear hE a; intro a hE
        refine l_go hE rfl (o_pure hE rfl rfl (p_move rfl).run ?_); clear hE a; intro a hE
        refine l_go hE rfl (o_pure hE rfl rfl (p_ifaceNil Tryd.underlying25 rfl rfl rfl).run ?_); clear hE a; intro a hE
        refine l_step rfl (o_pure hE rfl rfl (p_pick (b := false) rfl rfl).run ?_); clear hE a; intro a hE
        refine wpList_nil ?_
        refine then_normal ?_
        refine c_false hE rfl ?_
        refine wp_skip ?_
        refine then_normal ?_
        refine wp_seq ?_
        refine wp_seq ?_
        refine wp_region_list ?_   -- region 9
        refine l_step rfl (o_pure hE rfl rfl (p_move rfl).run ?_); clear hE a; intro a hE
        refine l_step rfl (o_pure hE rfl rfl (p_move rfl).run ?_); clear hE a; intro a hE
        refine l_step rfl (o_call hE rfl rfl rfl rfl ent_17 (Ahead_spec hI (hv8.mono hD13) hv15 (by first | (rw [keyL_len]; omega) | (simp only [List.length_cons]; omega))) ?_)
        clear hI hE a
        rintro r w h a hE; rcases h with ⟨rfl, hA, hI⟩ | ⟨rfl, hA, hI⟩
        · skip
          rw [ltB_key (by omega) (by omega)] at hA
          refine l_step rfl (o_pure hE rfl rfl (p_move rfl).run ?_); clear hE a; intro a hE
          refine l_step rfl (o_pure hE rfl rfl (p_move rfl).run ?_); clear hE a; intro a hE
          refine l_step rfl (o_cmp hE rfl rfl rfl rfl rfl rfl ?_ ?_)
          · intro q1; replace q1 := lss_t q1; clear hE a; intro a hE
            refine l_step rfl (o_pure hE rfl rfl (p_move rfl).run ?_); clear hE a; intro a hE
            refine l_skip hE rfl rfl rfl ?_; clear hE a; intro a hE
            refine l_skip hE rfl rfl rfl ?_; clear hE a; intro a hE
            refine l_skip hE rfl rfl rfl ?_; clear hE a; intro a hE
            refine l_skip hE rfl rfl rfl ?_; clear hE a; intro a hE
            refine l_skip hE rfl rfl rfl ?_; clear hE a; intro a hE
            refine l_skip hE rfl rfl rfl ?_; clear hE a; intro a hE
            refine l_skip hE rfl rfl rfl ?_; clear hE a; intro a hE
            refine l_skip hE rfl rfl rfl ?_; clear hE a; intro a hE
            refine l_step rfl (o_pure hE rfl rfl (p_pick (b := true) rfl rfl).run ?_); clear hE a; intro a hE
            refine l_step rfl (o_pure hE rfl rfl (p_boolEq Tryd.underlying4 rfl rfl rfl).run ?_); clear hE a; intro a hE
            refine l_step rfl (o_pure hE rfl rfl (p_move rfl).run ?_); clear hE a; intro a hE
            refine l_go hE rfl (o_pure hE rfl rfl (p_move rfl).run ?_); clear hE a; intro a hE
            refine l_go hE rfl (o_pure hE rfl rfl (p_move rfl).run ?_); clear hE a; intro a hE
            refine l_go hE rfl (o_call hE rfl rfl rfl rfl ent_18 (SameBytes_spec hI (hv8.mono hD13) hv15 (by rw [keyL_len]; omega)) ?_)
            clear hI hE a
            rintro r w h a hE; rcases h with ⟨rfl, hB, hI⟩ | ⟨rfl, hB, hI⟩
            · skip
              rw [key_eq (by omega) (by omega)] at hB
              refine l_go hE rfl (o_pure hE rfl rfl (p_move rfl).run ?_); clear hE a; intro a hE
              refine l_go hE rfl (o_pure hE rfl rfl (p_move rfl).run ?_); clear hE a; intro a hE
              refine l_go hE rfl (o_cmp hE rfl rfl rfl rfl rfl rfl ?_ ?_)
              · intro q4; replace q4 := eql_t q4; clear hE a; intro a hE
                refine l_go hE rfl (o_pure hE rfl rfl (p_move rfl).run ?_); clear hE a; intro a hE
                refine l_go hE rfl (o_pure hE rfl rfl (p_move rfl).run ?_); clear hE a; intro a hE
                refine l_go hE rfl (o_pure hE rfl rfl (p_move rfl).run ?_); clear hE a; intro a hE
                refine l_go hE rfl (o_cmp hE rfl rfl rfl rfl rfl rfl ?_ ?_)
                · intro q5; replace q5 := eql_t q5; clear hE a; intro a hE
                  refine l_go hE rfl (o_pure hE rfl rfl (p_pick (b := true) rfl rfl).run ?_); clear hE a; intro a hE
                  refine l_go hE rfl (o_pure hE rfl rfl (p_boolEq Tryd.underlying4 rfl rfl rfl).run ?_); clear hE a; intro a hE
                  refine l_step rfl (o_pure hE rfl rfl (p_pick (b := false) rfl rfl).run ?_); clear hE a; intro a hE
                  refine wpList_nil ?_
                  refine then_normal ?_
                  refine c_false hE rfl ?_
                  refine wp_skip ?_
                  refine then_normal ?_
                  refine wp_seq ?_
                  refine wp_region_list ?_   -- region 11
                  refine l_step rfl (o_pure hE rfl rfl (p_move rfl).run ?_); clear hE a; intro a hE
                  refine l_step rfl (o_pure hE rfl rfl (p_ifaceNil Tryd.underlying25 rfl rfl rfl).run ?_); clear hE a; intro a hE
                  refine l_step rfl (o_pure hE rfl rfl (p_move rfl).run ?_); clear hE a; intro a hE
                  refine l_skip hE rfl rfl rfl ?_; clear hE a; intro a hE
                  refine l_skip hE rfl rfl rfl ?_; clear hE a; intro a hE
                  refine l_skip hE rfl rfl rfl ?_; clear hE a; intro a hE
                  refine l_skip hE rfl rfl rfl ?_; clear hE a; intro a hE
                  refine l_skip hE rfl rfl rfl ?_; clear hE a; intro a hE
                  refine l_skip hE rfl rfl rfl ?_; clear hE a; intro a hE
                  refine l_step rfl (o_pure hE rfl rfl (p_pick (b := true) rfl rfl).run ?_); clear hE a; intro a hE
                  refine l_step rfl (o_pure hE rfl rfl (p_assign rfl).run ?_); clear hE a; intro a hE
                  refine wpList_nil ?_
                  refine then_normal ?_
                  refine wp_ret ?_
                  refine ret1 rfl hE rfl ?_
                  exact ⟨rfl, _, ((hD4.trans hD6).trans hD13), hI⟩
                · intro q5; replace q5 := eql_f q5; clear hE a; intro a hE
                  refine l_go hE rfl (o_pure hE rfl rfl (p_pick (b := true) rfl rfl).run ?_); clear hE a; intro a hE
                  refine l_go hE rfl (o_pure hE rfl rfl (p_boolEq Tryd.underlying4 rfl rfl rfl).run ?_); clear hE a; intro a hE
                  refine l_step rfl (o_pure hE rfl rfl (p_pick (b := false) rfl rfl).run ?_); clear hE a; intro a hE
                  refine wpList_nil ?_
                  refine then_normal ?_
                  refine c_true hE rfl ?_
                  refine wp_seq ?_
                  refine wp_region_list ?_   -- region 10
                  refine l_step rfl (o_pure hE rfl rfl (p_assign rfl).run ?_); clear hE a; intro a hE
                  refine wpList_nil ?_
                  refine then_normal ?_
                  refine wp_ret ?_
                  refine then_ret ?_
                  refine ret1 rfl hE rfl ?_
                  first | omega | exact absurd rfl hC
              · intro q4; replace q4 := eql_f q4; clear hE a; intro a hE
                refine l_go hE rfl (o_pure hE rfl rfl (p_move rfl).run ?_); clear hE a; intro a hE
                refine l_skip hE rfl rfl rfl ?_; clear hE a; intro a hE
                refine l_skip hE rfl rfl rfl ?_; clear hE a; intro a hE
                refine l_skip hE rfl rfl rfl ?_; clear hE a; intro a hE
                refine l_go hE rfl (o_pure hE rfl rfl (p_pick (b := false) rfl rfl).run ?_); clear hE a; intro a hE
                refine l_go hE rfl (o_pure hE rfl rfl (p_boolEq Tryd.underlying4 rfl rfl rfl).run ?_); clear hE a; intro a hE
                refine l_step rfl (o_pure hE rfl rfl (p_pick (b := false) rfl rfl).run ?_); clear hE a; intro a hE
                refine wpList_nil ?_
                refine then_normal ?_
                refine c_true hE rfl ?_
                refine wp_seq ?_
                refine wp_region_list ?_   -- region 10
                refine l_step rfl (o_pure hE rfl rfl (p_assign rfl).run ?_); clear hE a; intro a hE
                refine wpList_nil ?_
                refine then_normal ?_
                refine wp_ret ?_
                refine then_ret ?_
                refine ret1 rfl hE rfl ?_
                first | omega | exact absurd rfl hC
            · skip
              rw [key_eq (by omega) (by omega)] at hB
              refine l_go hE rfl (o_pure hE rfl rfl (p_move rfl).run ?_); clear hE a; intro a hE
              refine l_go hE rfl (o_pure hE rfl rfl (p_move rfl).run ?_); clear hE a; intro a hE
              refine l_go hE rfl (o_cmp hE rfl rfl rfl rfl rfl rfl ?_ ?_)
              · intro q4; replace q4 := eql_t q4; clear hE a; intro a hE
                refine l_go hE rfl (o_pure hE rfl rfl (p_move rfl).run ?_); clear hE a; intro a hE
                refine l_go hE rfl (o_pure hE rfl rfl (p_move rfl).run ?_); clear hE a; intro a hE
                refine l_go hE rfl (o_pure hE rfl rfl (p_move rfl).run ?_); clear hE a; intro a hE
                refine l_go hE rfl (o_cmp hE rfl rfl rfl rfl rfl rfl ?_ ?_)
                · intro q5; replace q5 := eql_t q5; clear hE a; intro a hE
                  refine l_go hE rfl (o_pure hE rfl rfl (p_pick (b := true) rfl rfl).run ?_); clear hE a; intro a hE
                  refine l_go hE rfl (o_pure hE rfl rfl (p_boolEq Tryd.underlying4 rfl rfl rfl).run ?_); clear hE a; intro a hE
                  refine l_step rfl (o_pure hE rfl rfl (p_pick (b := false) rfl rfl).run ?_); clear hE a; intro a hE
                  refine wpList_nil ?_
                  refine then_normal ?_
                  refine c_true hE rfl ?_
                  refine wp_seq ?_
                  refine wp_region_list ?_   -- region 10
                  refine l_step rfl (o_pure hE rfl rfl (p_assign rfl).run ?_); clear hE a; intro a hE
                  refine wpList_nil ?_
                  refine then_normal ?_
                  refine wp_ret ?_
                  refine then_ret ?_
                  refine ret1 rfl hE rfl ?_
                  first | omega | exact absurd rfl hC
                · intro q5; replace q5 := eql_f q5; clear hE a; intro a hE
                  refine l_go hE rfl (o_pure hE rfl rfl (p_pick (b := true) rfl rfl).run ?_); clear hE a; intro a hE
                  refine l_go hE rfl (o_pure hE rfl rfl (p_boolEq Tryd.underlying4 rfl rfl rfl).run ?_); clear hE a; intro a hE
                  refine l_step rfl (o_pure hE rfl rfl (p_pick (b := false) rfl rfl).run ?_); clear hE a; intro a hE
                  refine wpList_nil ?_
                  refine then_normal ?_
                  refine c_false hE rfl ?_
                  refine wp_skip ?_
                  refine then_normal ?_
                  refine wp_seq ?_
                  refine wp_region_list ?_   -- region 11
                  refine l_step rfl (o_pure hE rfl rfl (p_move rfl).run ?_); clear hE a; intro a hE
                  refine l_step rfl (o_pure hE rfl rfl (p_ifaceNil Tryd.underlying25 rfl rfl rfl).run ?_); clear hE a; intro a hE
                  refine l_step rfl (o_pure hE rfl rfl (p_move rfl).run ?_); clear hE a; intro a hE
                  refine l_skip hE rfl rfl rfl ?_; clear hE a; intro a hE
                  refine l_skip hE rfl rfl rfl ?_; clear hE a; intro a hE
                  refine l_skip hE rfl rfl rfl ?_; clear hE a; intro a hE
                  refine l_skip hE rfl rfl rfl ?_; clear hE a; intro a hE
                  refine l_skip hE rfl rfl rfl ?_; clear hE a; intro a hE
                  refine l_skip hE rfl rfl rfl ?_; clear hE a; intro a hE
                  refine l_step rfl (o_pure hE rfl rfl (p_pick (b := true) rfl rfl).run ?_); clear hE a; intro a hE
                  refine l_step rfl (o_pure hE rfl rfl (p_assign rfl).run ?_); clear hE a; intro a hE
                  refine wpList_nil ?_
                  refine then_normal ?_
                  refine wp_ret ?_
                  refine ret1 rfl hE rfl ?_
                  exact ⟨rfl, _, ((hD4.trans hD6).trans hD13), hI⟩
              · intro q4; replace q4 := eql_f q4; clear hE a; intro a hE
                refine l_go hE rfl (o_pure hE rfl rfl (p_move rfl).run ?_); clear hE a; intro a hE
                refine l_skip hE rfl rfl rfl ?_; clear hE a; intro a hE
                refine l_skip hE rfl rfl rfl ?_; clear hE a; intro a hE
                refine l_skip hE rfl rfl rfl ?_; clear hE a; intro a hE
                refine l_go hE rfl (o_pure hE rfl rfl (p_pick (b := false) rfl rfl).run ?_); clear hE a; intro a hE
                refine l_go hE rfl (o_pure hE rfl rfl (p_boolEq Tryd.underlying4 rfl rfl rfl).run ?_); clear hE a; intro a hE
                refine l_step rfl (o_pure hE rfl rfl (p_pick (b := false) rfl rfl).run ?_); clear hE a; intro a hE
                refine wpList_nil ?_
                refine then_normal ?_
                refine c_false hE rfl ?_
                refine wp_skip ?_
                refine then_normal ?_
                refine wp_seq ?_
                refine wp_region_list ?_   -- region 11
                refine l_step rfl (o_pure hE rfl rfl (p_move rfl).run ?_); clear hE a; intro a hE
                refine l_step rfl (o_pure hE rfl rfl (p_ifaceNil Tryd.underlying25 rfl rfl rfl).run ?_); clear hE a; intro a hE
                refine l_step rfl (o_pure hE rfl rfl (p_move rfl).run ?_); clear hE a; intro a hE
                refine l_skip hE rfl rfl rfl ?_; clear hE a; intro a hE
                refine l_skip hE rfl rfl rfl ?_; clear hE a; intro a hE
                refine l_skip hE rfl rfl rfl ?_; clear hE a; intro a hE
                refine l_skip hE rfl rfl rfl ?_; clear hE a; intro a hE
                refine l_skip hE rfl rfl rfl ?_; clear hE a; intro a hE
                refine l_skip hE rfl rfl rfl ?_; clear hE a; intro a hE
                refine l_step rfl (o_pure hE rfl rfl (p_pick (b := true) rfl rfl).run ?_); clear hE a; intro a hE
                refine l_step rfl (o_pure hE rfl rfl (p_assign rfl).run ?_); clear hE a; intro a hE
                refine wpList_nil ?_
                refine then_normal ?_
                refine wp_ret ?_
                refine ret1 rfl hE rfl ?_
                exact ⟨rfl, _, ((hD4.trans hD6).trans hD13), hI⟩
          · intro q1; replace q1 := lss_f q1; clear hE a; intro a hE
            refine l_step rfl (o_pure hE rfl rfl (p_move rfl).run ?_); clear hE a; intro a hE
            refine l_go hE rfl (o_pure hE rfl rfl (p_move rfl).run ?_); clear hE a; intro a hE
            refine l_go hE rfl (o_pure hE rfl rfl (p_move rfl).run ?_); clear hE a; intro a hE
            refine l_go hE rfl (o_cmp hE rfl rfl rfl rfl rfl rfl ?_ ?_)
            · intro q2; replace q2 := eql_t q2; clear hE a; intro a hE
              refine l_go hE rfl (o_pure hE rfl rfl (p_move rfl).run ?_); clear hE a; intro a hE
              refine l_go hE rfl (o_pure hE rfl rfl (p_move rfl).run ?_); clear hE a; intro a hE
              refine l_go hE rfl (o_pure hE rfl rfl (p_move rfl).run ?_); clear hE a; intro a hE
              refine l_go hE rfl (o_cmp hE rfl rfl rfl rfl rfl rfl ?_ ?_)
              · intro q3; replace q3 := lss_t q3; clear hE a; intro a hE
                refine l_go hE rfl (o_pure hE rfl rfl (p_pick (b := true) rfl rfl).run ?_); clear hE a; intro a hE
                refine l_step rfl (o_pure hE rfl rfl (p_pick (b := false) rfl rfl).run ?_); clear hE a; intro a hE
                refine l_step rfl (o_pure hE rfl rfl (p_boolEq Tryd.underlying4 rfl rfl rfl).run ?_); clear hE a; intro a hE
                refine l_step rfl (o_pure hE rfl rfl (p_move rfl).run ?_); clear hE a; intro a hE
                refine l_go hE rfl (o_pure hE rfl rfl (p_move rfl).run ?_); clear hE a; intro a hE
                refine l_go hE rfl (o_pure hE rfl rfl (p_move rfl).run ?_); clear hE a; intro a hE
                refine l_go hE rfl (o_call hE rfl rfl rfl rfl ent_18 (SameBytes_spec hI (hv8.mono hD13) hv15 (by rw [keyL_len]; omega)) ?_)
                clear hI hE a
                rintro r w h a hE; rcases h with ⟨rfl, hB, hI⟩ | ⟨rfl, hB, hI⟩
                · skip
                  rw [key_eq (by omega) (by omega)] at hB
                  refine l_go hE rfl (o_pure hE rfl rfl (p_move rfl).run ?_); clear hE a; intro a hE
                  refine l_go hE rfl (o_pure hE rfl rfl (p_move rfl).run ?_); clear hE a; intro a hE
                  refine l_go hE rfl (o_cmp hE rfl rfl rfl rfl rfl rfl ?_ ?_)
                  · intro q4; replace q4 := eql_t q4; clear hE a; intro a hE
                    refine l_go hE rfl (o_pure hE rfl rfl (p_move rfl).run ?_); clear hE a; intro a hE
                    refine l_go hE rfl (o_pure hE rfl rfl (p_move rfl).run ?_); clear hE a; intro a hE
                    refine l_go hE rfl (o_pure hE rfl rfl (p_move rfl).run ?_); clear hE a; intro a hE
                    refine l_go hE rfl (o_cmp hE rfl rfl rfl rfl rfl rfl ?_ ?_)
                    · intro q5; replace q5 := eql_t q5; clear hE a; intro a hE
                      refine l_go hE rfl (o_pure hE rfl rfl (p_pick (b := true) rfl rfl).run ?_); clear hE a; intro a hE
                      refine l_go hE rfl (o_pure hE rfl rfl (p_boolEq Tryd.underlying4 rfl rfl rfl).run ?_); clear hE a; intro a hE
                      refine l_step rfl (o_pure hE rfl rfl (p_pick (b := false) rfl rfl).run ?_); clear hE a; intro a hE
                      refine wpList_nil ?_
                      refine then_normal ?_
                      refine c_false hE rfl ?_
                      refine wp_skip ?_
                      refine then_normal ?_
                      refine wp_seq ?_
                      refine wp_region_list ?_   -- region 11
                      refine l_step rfl (o_pure hE rfl rfl (p_move rfl).run ?_); clear hE a; intro a hE
                      refine l_step rfl (o_pure hE rfl rfl (p_ifaceNil Tryd.underlying25 rfl rfl rfl).run ?_); clear hE a; intro a hE
                      refine l_step rfl (o_pure hE rfl rfl (p_move rfl).run ?_); clear hE a; intro a hE
                      refine l_skip hE rfl rfl rfl ?_; clear hE a; intro a hE
                      refine l_skip hE rfl rfl rfl ?_; clear hE a; intro a hE
                      refine l_skip hE rfl rfl rfl ?_; clear hE a; intro a hE
                      refine l_skip hE rfl rfl rfl ?_; clear hE a; intro a hE
                      refine l_skip hE rfl rfl rfl ?_; clear hE a; intro a hE
                      refine l_skip hE rfl rfl rfl ?_; clear hE a; intro a hE
                      refine l_step rfl (o_pure hE rfl rfl (p_pick (b := true) rfl rfl).run ?_); clear hE a; intro a hE
                      refine l_step rfl (o_pure hE rfl rfl (p_assign rfl).run ?_); clear hE a; intro a hE
                      refine wpList_nil ?_
                      refine then_normal ?_
                      refine wp_ret ?_
                      refine ret1 rfl hE rfl ?_
                      exact ⟨rfl, _, ((hD4.trans hD6).trans hD13), hI⟩
                    · intro q5; replace q5 := eql_f q5; clear hE a; intro a hE
                      refine l_go hE rfl (o_pure hE rfl rfl (p_pick (b := true) rfl rfl).run ?_); clear hE a; intro a hE
                      refine l_go hE rfl (o_pure hE rfl rfl (p_boolEq Tryd.underlying4 rfl rfl rfl).run ?_); clear hE a; intro a hE
                      refine l_step rfl (o_pure hE rfl rfl (p_pick (b := false) rfl rfl).run ?_); clear hE a; intro a hE
                      refine wpList_nil ?_
                      refine then_normal ?_
                      refine c_true hE rfl ?_
                      refine wp_seq ?_
                      refine wp_region_list ?_   -- region 10
                      refine l_step rfl (o_pure hE rfl rfl (p_assign rfl).run ?_); clear hE a; intro a hE
                      refine wpList_nil ?_
                      refine then_normal ?_
                      refine wp_ret ?_
                      refine then_ret ?_
                      refine ret1 rfl hE rfl ?_
                      first | omega | exact absurd rfl hC
                  · intro q4; replace q4 := eql_f q4; clear hE a; intro a hE
                    refine l_go hE rfl (o_pure hE rfl rfl (p_move rfl).run ?_); clear hE a; intro a hE
                    refine l_skip hE rfl rfl rfl ?_; clear hE a; intro a hE
                    refine l_skip hE rfl rfl rfl ?_; clear hE a; intro a hE
                    refine l_skip hE rfl rfl rfl ?_; clear hE a; intro a hE
                    refine l_go hE rfl (o_pure hE rfl rfl (p_pick (b := false) rfl rfl).run ?_); clear hE a; intro a hE
                    refine l_go hE rfl (o_pure hE rfl rfl (p_boolEq Tryd.underlying4 rfl rfl rfl).run ?_); clear hE a; intro a hE
                    refine l_step rfl (o_pure hE rfl rfl (p_pick (b := false) rfl rfl).run ?_); clear hE a; intro a hE
                    refine wpList_nil ?_
                    refine then_normal ?_
                    refine c_true hE rfl ?_
                    refine wp_seq ?_
                    refine wp_region_list ?_   -- region 10
                    refine l_step rfl (o_pure hE rfl rfl (p_assign rfl).run ?_); clear hE a; intro a hE
                    refine wpList_nil ?_
                    refine then_normal ?_
                    refine wp_ret ?_
                    refine then_ret ?_
                    refine ret1 rfl hE rfl ?_
                    first | omega | exact absurd rfl hC
                · skip
                  rw [key_eq (by omega) (by omega)] at hB
                  refine l_go hE rfl (o_pure hE rfl rfl (p_move rfl).run ?_); clear hE a; intro a hE
                  refine l_go hE rfl (o_pure hE rfl rfl (p_move rfl).run ?_); clear hE a; intro a hE
                  refine l_go hE rfl (o_cmp hE rfl rfl rfl rfl rfl rfl ?_ ?_)
                  · intro q4; replace q4 := eql_t q4; clear hE a; intro a hE
                    refine l_go hE rfl (o_pure hE rfl rfl (p_move rfl).run ?_); clear hE a; intro a hE
                    refine l_go hE rfl (o_pure hE rfl rfl (p_move rfl).run ?_); clear hE a; intro a hE
                    refine l_go hE rfl (o_pure hE rfl rfl (p_move rfl).run ?_); clear hE a; intro a hE
                    refine l_go hE rfl (o_cmp hE rfl rfl rfl rfl rfl rfl ?_ ?_)
                    · intro q5; replace q5 := eql_t q5; clear hE a; intro a hE
                      refine l_go hE rfl (o_pure hE rfl rfl (p_pick (b := true) rfl rfl).run ?_); clear hE a; intro a hE
                      refine l_go hE rfl (o_pure hE rfl rfl (p_boolEq Tryd.underlying4 rfl rfl rfl).run ?_); clear hE a; intro a hE
                      refine l_step rfl (o_pure hE rfl rfl (p_pick (b := false) rfl rfl).run ?_); clear hE a; intro a hE
                      refine wpList_nil ?_
                      refine then_normal ?_
                      refine c_true hE rfl ?_
                      refine wp_seq ?_
                      refine wp_region_list ?_   -- region 10
                      refine l_step rfl (o_pure hE rfl rfl (p_assign rfl).run ?_); clear hE a; intro a hE
                      refine wpList_nil ?_
                      refine then_normal ?_
                      refine wp_ret ?_
                      refine then_ret ?_
                      refine ret1 rfl hE rfl ?_
                      first | omega | exact absurd rfl hC
                    · intro q5; replace q5 := eql_f q5; clear hE a; intro a hE
                      refine l_go hE rfl (o_pure hE rfl rfl (p_pick (b := true) rfl rfl).run ?_); clear hE a; intro a hE
                      refine l_go hE rfl (o_pure hE rfl rfl (p_boolEq Tryd.underlying4 rfl rfl rfl).run ?_); clear hE a; intro a hE
                      refine l_step rfl (o_pure hE rfl rfl (p_pick (b := false) rfl rfl).run ?_); clear hE a; intro a hE
                      refine wpList_nil ?_
                      refine then_normal ?_
                      refine c_false hE rfl ?_
                      refine wp_skip ?_
                      refine then_normal ?_
                      refine wp_seq ?_
                      refine wp_region_list ?_   -- region 11
                      refine l_step rfl (o_pure hE rfl rfl (p_move rfl).run ?_); clear hE a; intro a hE
                      refine l_step rfl (o_pure hE rfl rfl (p_ifaceNil Tryd.underlying25 rfl rfl rfl).run ?_); clear hE a; intro a hE
                      refine l_step rfl (o_pure hE rfl rfl (p_move rfl).run ?_); clear hE a; intro a hE
                      refine l_skip hE rfl rfl rfl ?_; clear hE a; intro a hE
                      refine l_skip hE rfl rfl rfl ?_; clear hE a; intro a hE
                      refine l_skip hE rfl rfl rfl ?_; clear hE a; intro a hE
                      refine l_skip hE rfl rfl rfl ?_; clear hE a; intro a hE
                      refine l_skip hE rfl rfl rfl ?_; clear hE a; intro a hE
                      refine l_skip hE rfl rfl rfl ?_; clear hE a; intro a hE
                      refine l_step rfl (o_pure hE rfl rfl (p_pick (b := true) rfl rfl).run ?_); clear hE a; intro a hE
                      refine l_step rfl (o_pure hE rfl rfl (p_assign rfl).run ?_); clear hE a; intro a hE
                      refine wpList_nil ?_
                      refine then_normal ?_
                      refine wp_ret ?_
                      refine ret1 rfl hE rfl ?_
                      exact ⟨rfl, _, ((hD4.trans hD6).trans hD13), hI⟩
                  · intro q4; replace q4 := eql_f q4; clear hE a; intro a hE
                    refine l_go hE rfl (o_pure hE rfl rfl (p_move rfl).run ?_); clear hE a; intro a hE
                    refine l_skip hE rfl rfl rfl ?_; clear hE a; intro a hE
                    refine l_skip hE rfl rfl rfl ?_; clear hE a; intro a hE
                    refine l_skip hE rfl rfl rfl ?_; clear hE a; intro a hE
                    refine l_go hE rfl (o_pure hE rfl rfl (p_pick (b := false) rfl rfl).run ?_); clear hE a; intro a hE
                    refine l_go hE rfl (o_pure hE rfl rfl (p_boolEq Tryd.underlying4 rfl rfl rfl).run ?_); clear hE a; intro a hE
                    refine l_step rfl (o_pure hE rfl rfl (p_pick (b := false) rfl rfl).run ?_); clear hE a; intro a hE
                    refine wpList_nil ?_
                    refine then_normal ?_
                    refine c_false hE rfl ?_
                    refine wp_skip ?_
                    refine then_normal ?_
                    refine wp_seq ?_
                    refine wp_region_list ?_   -- region 11
                    refine l_step rfl (o_pure hE rfl rfl (p_move rfl).run ?_); clear hE a; intro a hE
                    refine l_step rfl (o_pure hE rfl rfl (p_ifaceNil Tryd.underlying25 rfl rfl rfl).run ?_); clear hE a; intro a hE
                    refine l_step rfl (o_pure hE rfl rfl (p_move rfl).run ?_); clear hE a; intro a hE
                    refine l_skip hE rfl rfl rfl ?_; clear hE a; intro a hE
                    refine l_skip hE rfl rfl rfl ?_; clear hE a; intro a hE
                    refine l_skip hE rfl rfl rfl ?_; clear hE a; intro a hE
                    refine l_skip hE rfl rfl rfl ?_; clear hE a; intro a hE
                    refine l_skip hE rfl rfl rfl ?_; clear hE a; intro a hE
                    refine l_skip hE rfl rfl rfl ?_; clear hE a; intro a hE
                    refine l_step rfl (o_pure hE rfl rfl (p_pick (b := true) rfl rfl).run ?_); clear hE a; intro a hE
                    refine l_step rfl (o_pure hE rfl rfl (p_assign rfl).run ?_); clear hE a; intro a hE
                    refine wpList_nil ?_
                    refine then_normal ?_
                    refine wp_ret ?_
                    refine ret1 rfl hE rfl ?_
                    exact ⟨rfl, _, ((hD4.trans hD6).trans hD13), hI⟩
              · intro q3; replace q3 := lss_f q3; clear hE a; intro a hE
                refine l_go hE rfl (o_pure hE rfl rfl (p_pick (b := true) rfl rfl).run ?_); clear hE a; intro a hE
                refine l_step rfl (o_pure hE rfl rfl (p_pick (b := false) rfl rfl).run ?_); clear hE a; intro a hE
                refine l_step rfl (o_pure hE rfl rfl (p_boolEq Tryd.underlying4 rfl rfl rfl).run ?_); clear hE a; intro a hE
                refine l_step rfl (o_pure hE rfl rfl (p_move rfl).run ?_); clear hE a; intro a hE
                refine l_skip hE rfl rfl rfl ?_; clear hE a; intro a hE
                refine l_skip hE rfl rfl rfl ?_; clear hE a; intro a hE
                refine l_skip hE rfl rfl rfl ?_; clear hE a; intro a hE
                refine l_skip hE rfl rfl rfl ?_; clear hE a; intro a hE
                refine l_skip hE rfl rfl rfl ?_; clear hE a; intro a hE
                refine l_skip hE rfl rfl rfl ?_; clear hE a; intro a hE
                refine l_skip hE rfl rfl rfl ?_; clear hE a; intro a hE
                refine l_skip hE rfl rfl rfl ?_; clear hE a; intro a hE
                refine l_skip hE rfl rfl rfl ?_; clear hE a; intro a hE
                refine l_skip hE rfl rfl rfl ?_; clear hE a; intro a hE
                refine l_skip hE rfl rfl rfl ?_; clear hE a; intro a hE
                refine l_skip hE rfl rfl rfl ?_; clear hE a; intro a hE
                refine l_step rfl (o_pure hE rfl rfl (p_pick (b := true) rfl rfl).run ?_); clear hE a; intro a hE
                refine wpList_nil ?_
                refine then_normal ?_
                refine c_true hE rfl ?_
                refine wp_seq ?_
                refine wp_region_list ?_   -- region 10
                refine l_step rfl (o_pure hE rfl rfl (p_assign rfl).run ?_); clear hE a; intro a hE
                refine wpList_nil ?_
                refine then_normal ?_
                refine wp_ret ?_
                refine then_ret ?_
                refine ret1 rfl hE rfl ?_
                first | omega | exact absurd rfl hC
            · intro q2; replace q2 := eql_f q2; clear hE a; intro a hE
              refine l_go hE rfl (o_pure hE rfl rfl (p_move rfl).run ?_); clear hE a; intro a hE
              refine l_skip hE rfl rfl rfl ?_; clear hE a; intro a hE
              refine l_skip hE rfl rfl rfl ?_; clear hE a; intro a hE
              refine l_skip hE rfl rfl rfl ?_; clear hE a; intro a hE
              refine l_go hE rfl (o_pure hE rfl rfl (p_pick (b := false) rfl rfl).run ?_); clear hE a; intro a hE
              refine l_step rfl (o_pure hE rfl rfl (p_pick (b := false) rfl rfl).run ?_); clear hE a; intro a hE
              refine l_step rfl (o_pure hE rfl rfl (p_boolEq Tryd.underlying4 rfl rfl rfl).run ?_); clear hE a; intro a hE
              refine l_step rfl (o_pure hE rfl rfl (p_move rfl).run ?_); clear hE a; intro a hE
              refine l_skip hE rfl rfl rfl ?_; clear hE a; intro a hE
              refine l_skip hE rfl rfl rfl ?_; clear hE a; intro a hE
              refine l_skip hE rfl rfl rfl ?_; clear hE a; intro a hE
              refine l_skip hE rfl rfl rfl ?_; clear hE a; intro a hE
              refine l_skip hE rfl rfl rfl ?_; clear hE a; intro a hE
              refine l_skip hE rfl rfl rfl ?_; clear hE a; intro a hE
              refine l_skip hE rfl rfl rfl ?_; clear hE a; intro a hE
              refine l_skip hE rfl rfl rfl ?_; clear hE a; intro a hE
              refine l_skip hE rfl rfl rfl ?_; clear hE a; intro a hE
              refine l_skip hE rfl rfl rfl ?_; clear hE a; intro a hE
              refine l_skip hE rfl rfl rfl ?_; clear hE a; intro a hE
              refine l_skip hE rfl rfl rfl ?_; clear hE a; intro a hE
              refine l_step rfl (o_pure hE rfl rfl (p_pick (b := true) rfl rfl).run ?_); clear hE a; intro a hE
              refine wpList_nil ?_
              refine then_normal ?_
              refine c_true hE rfl ?_
              refine wp_seq ?_
              refine wp_region_list ?_   -- region 10
              refine l_step rfl (o_pure hE rfl rfl (p_assign rfl).run ?_); clear hE a; intro a hE
              refine wpList_nil ?_
              refine then_normal ?_
              refine wp_ret ?_
              refine then_ret ?_
              refine ret1 rfl hE rfl ?_
              first | omega | exact absurd rfl hC
        · skip
          rw [ltB_key (by omega) (by omega)] at hA
          refine l_step rfl (o_pure hE rfl rfl (p_move rfl).run ?_); clear hE a; intro a hE
          refine l_step rfl (o_pure hE rfl rfl (p_move rfl).run ?_); clear hE a; intro a hE
          refine l_step rfl (o_cmp hE rfl rfl rfl rfl rfl rfl ?_ ?_)
          · intro q1; replace q1 := lss_t q1; clear hE a; intro a hE
            refine l_step rfl (o_pure hE rfl rfl (p_move rfl).run ?_); clear hE a; intro a hE
            refine l_skip hE rfl rfl rfl ?_; clear hE a; intro a hE
            refine l_skip hE rfl rfl rfl ?_; clear hE a; intro a hE
            refine l_skip hE rfl rfl rfl ?_; clear hE a; intro a hE
            refine l_skip hE rfl rfl rfl ?_; clear hE a; intro a hE
            refine l_skip hE rfl rfl rfl ?_; clear hE a; intro a hE
            refine l_skip hE rfl rfl rfl ?_; clear hE a; intro a hE
            refine l_skip hE rfl rfl rfl ?_; clear hE a; intro a hE
            refine l_skip hE rfl rfl rfl ?_; clear hE a; intro a hE
            refine l_step rfl (o_pure hE rfl rfl (p_pick (b := true) rfl rfl).run ?_); clear hE a; intro a hE
            refine l_step rfl (o_pure hE rfl rfl (p_boolEq Tryd.underlying4 rfl rfl rfl).run ?_); clear hE a; intro a hE
            refine l_step rfl (o_pure hE rfl rfl (p_move rfl).run ?_); clear hE a; intro a hE
            refine l_skip hE rfl rfl rfl ?_; clear hE a; intro a hE
            refine l_skip hE rfl rfl rfl ?_; clear hE a; intro a hE
            refine l_skip hE rfl rfl rfl ?_; clear hE a; intro a hE
            refine l_skip hE rfl rfl rfl ?_; clear hE a; intro a hE
            refine l_skip hE rfl rfl rfl ?_; clear hE a; intro a hE
            refine l_skip hE rfl rfl rfl ?_; clear hE a; intro a hE
            refine l_skip hE rfl rfl rfl ?_; clear hE a; intro a hE
            refine l_skip hE rfl rfl rfl ?_; clear hE a; intro a hE
            refine l_skip hE rfl rfl rfl ?_; clear hE a; intro a hE
            refine l_skip hE rfl rfl rfl ?_; clear hE a; intro a hE
            refine l_skip hE rfl rfl rfl ?_; clear hE a; intro a hE
            refine l_skip hE rfl rfl rfl ?_; clear hE a; intro a hE
            refine l_step rfl (o_pure hE rfl rfl (p_pick (b := true) rfl rfl).run ?_); clear hE a; intro a hE
            refine wpList_nil ?_
            refine then_normal ?_
            refine c_true hE rfl ?_
            refine wp_seq ?_
            refine wp_region_list ?_   -- region 10
            refine l_step rfl (o_pure hE rfl rfl (p_assign rfl).run ?_); clear hE a; intro a hE
            refine wpList_nil ?_
            refine then_normal ?_
            refine wp_ret ?_
            refine then_ret ?_
            refine ret1 rfl hE rfl ?_
            first | omega | exact absurd rfl hC
          · intro q1; replace q1 := lss_f q1; clear hE a; intro a hE
            refine l_step rfl (o_pure hE rfl rfl (p_move rfl).run ?_); clear hE a; intro a hE
            refine l_go hE rfl (o_pure hE rfl rfl (p_move rfl).run ?_); clear hE a; intro a hE
            refine l_go hE rfl (o_pure hE rfl rfl (p_move rfl).run ?_); clear hE a; intro a hE
            refine l_go hE rfl (o_cmp hE rfl rfl rfl rfl rfl rfl ?_ ?_)
            · intro q2; replace q2 := eql_t q2; clear hE a; intro a hE
              refine l_go hE rfl (o_pure hE rfl rfl (p_move rfl).run ?_); clear hE a; intro a hE
              refine l_go hE rfl (o_pure hE rfl rfl (p_move rfl).run ?_); clear hE a; intro a hE
              refine l_go hE rfl (o_pure hE rfl rfl (p_move rfl).run ?_); clear hE a; intro a hE
              refine l_go hE rfl (o_cmp hE rfl rfl rfl rfl rfl rfl ?_ ?_)
              · intro q3; replace q3 := lss_t q3; clear hE a; intro a hE
                refine l_go hE rfl (o_pure hE rfl rfl (p_pick (b := true) rfl rfl).run ?_); clear hE a; intro a hE
                refine l_step rfl (o_pure hE rfl rfl (p_pick (b := false) rfl rfl).run ?_); clear hE a; intro a hE
                refine l_step rfl (o_pure hE rfl rfl (p_boolEq Tryd.underlying4 rfl rfl rfl).run ?_); clear hE a; intro a hE
                refine l_step rfl (o_pure hE rfl rfl (p_move rfl).run ?_); clear hE a; intro a hE
                refine l_skip hE rfl rfl rfl ?_; clear hE a; intro a hE
                refine l_skip hE rfl rfl rfl ?_; clear hE a; intro a hE
                refine l_skip hE rfl rfl rfl ?_; clear hE a; intro a hE
                refine l_skip hE rfl rfl rfl ?_; clear hE a; intro a hE
                refine l_skip hE rfl rfl rfl ?_; clear hE a; intro a hE
                refine l_skip hE rfl rfl rfl ?_; clear hE a; intro a hE
                refine l_skip hE rfl rfl rfl ?_; clear hE a; intro a hE
                refine l_skip hE rfl rfl rfl ?_; clear hE a; intro a hE
                refine l_skip hE rfl rfl rfl ?_; clear hE a; intro a hE
                refine l_skip hE rfl rfl rfl ?_; clear hE a; intro a hE
                refine l_skip hE rfl rfl rfl ?_; clear hE a; intro a hE
                refine l_skip hE rfl rfl rfl ?_; clear hE a; intro a hE
                refine l_step rfl (o_pure hE rfl rfl (p_pick (b := true) rfl rfl).run ?_); clear hE a; intro a hE
                refine wpList_nil ?_
                refine then_normal ?_
                refine c_true hE rfl ?_
                refine wp_seq ?_
                refine wp_region_list ?_   -- region 10
                refine l_step rfl (o_pure hE rfl rfl (p_assign rfl).run ?_); clear hE a; intro a hE
                refine wpList_nil ?_
                refine then_normal ?_
                refine wp_ret ?_
                refine then_ret ?_
                refine ret1 rfl hE rfl ?_
                first | omega | exact absurd rfl hC
              · intro q3; replace q3 := lss_f q3; clear hE a; intro a hE
                refine l_go hE rfl (o_pure hE rfl rfl (p_pick (b := true) rfl rfl).run ?_); clear hE a; intro a hE
                refine l_step rfl (o_pure hE rfl rfl (p_pick (b := false) rfl rfl).run ?_); clear hE a; intro a hE
                refine l_step rfl (o_pure hE rfl rfl (p_boolEq Tryd.underlying4 rfl rfl rfl).run ?_); clear hE a; intro a hE
                refine l_step rfl (o_pure hE rfl rfl (p_move rfl).run ?_); clear hE a; intro a hE
                refine l_go hE rfl (o_pure hE rfl rfl (p_move rfl).run ?_); clear hE a; intro a hE
                refine l_go hE rfl (o_pure hE rfl rfl (p_move rfl).run ?_); clear hE a; intro a hE
                refine l_go hE rfl (o_call hE rfl rfl rfl rfl ent_18 (SameBytes_spec hI (hv8.mono hD13) hv15 (by rw [keyL_len]; omega)) ?_)
                clear hI hE a
                rintro r w h a hE; rcases h with ⟨rfl, hB, hI⟩ | ⟨rfl, hB, hI⟩
                · skip
                  rw [key_eq (by omega) (by omega)] at hB
                  refine l_go hE rfl (o_pure hE rfl rfl (p_move rfl).run ?_); clear hE a; intro a hE
                  refine l_go hE rfl (o_pure hE rfl rfl (p_move rfl).run ?_); clear hE a; intro a hE
                  refine l_go hE rfl (o_cmp hE rfl rfl rfl rfl rfl rfl ?_ ?_)
                  · intro q4; replace q4 := eql_t q4; clear hE a; intro a hE
                    refine l_go hE rfl (o_pure hE rfl rfl (p_move rfl).run ?_); clear hE a; intro a hE
                    refine l_go hE rfl (o_pure hE rfl rfl (p_move rfl).run ?_); clear hE a; intro a hE
                    refine l_go hE rfl (o_pure hE rfl rfl (p_move rfl).run ?_); clear hE a; intro a hE
                    refine l_go hE rfl (o_cmp hE rfl rfl rfl rfl rfl rfl ?_ ?_)
                    · intro q5; replace q5 := eql_t q5; clear hE a; intro a hE
                      refine l_go hE rfl (o_pure hE rfl rfl (p_pick (b := true) rfl rfl).run ?_); clear hE a; intro a hE
                      refine l_go hE rfl (o_pure hE rfl rfl (p_boolEq Tryd.underlying4 rfl rfl rfl).run ?_); clear hE a; intro a hE
                      refine l_step rfl (o_pure hE rfl rfl (p_pick (b := false) rfl rfl).run ?_); clear hE a; intro a hE
                      refine wpList_nil ?_
                      refine then_normal ?_
                      refine c_false hE rfl ?_
                      refine wp_skip ?_
                      refine then_normal ?_
                      refine wp_seq ?_
                      refine wp_region_list ?_   -- region 11
                      refine l_step rfl (o_pure hE rfl rfl (p_move rfl).run ?_); clear hE a; intro a hE
                      refine l_step rfl (o_pure hE rfl rfl (p_ifaceNil Tryd.underlying25 rfl rfl rfl).run ?_); clear hE a; intro a hE
                      refine l_step rfl (o_pure hE rfl rfl (p_move rfl).run ?_); clear hE a; intro a hE
                      refine l_skip hE rfl rfl rfl ?_; clear hE a; intro a hE
                      refine l_skip hE rfl rfl rfl ?_; clear hE a; intro a hE
                      refine l_skip hE rfl rfl rfl ?_; clear hE a; intro a hE
                      refine l_skip hE rfl rfl rfl ?_; clear hE a; intro a hE
                      refine l_skip hE rfl rfl rfl ?_; clear hE a; intro a hE
                      refine l_skip hE rfl rfl rfl ?_; clear hE a; intro a hE
                      refine l_step rfl (o_pure hE rfl rfl (p_pick (b := true) rfl rfl).run ?_); clear hE a; intro a hE
                      refine l_step rfl (o_pure hE rfl rfl (p_assign rfl).run ?_); clear hE a; intro a hE
                      refine wpList_nil ?_
                      refine then_normal ?_
                      refine wp_ret ?_
                      refine ret1 rfl hE rfl ?_
                      exact ⟨rfl, _, ((hD4.trans hD6).trans hD13), hI⟩
                    · intro q5; replace q5 := eql_f q5; clear hE a; intro a hE
                      refine l_go hE rfl (o_pure hE rfl rfl (p_pick (b := true) rfl rfl).run ?_); clear hE a; intro a hE
                      refine l_go hE rfl (o_pure hE rfl rfl (p_boolEq Tryd.underlying4 rfl rfl rfl).run ?_); clear hE a; intro a hE
                      refine l_step rfl (o_pure hE rfl rfl (p_pick (b := false) rfl rfl).run ?_); clear hE a; intro a hE
                      refine wpList_nil ?_
                      refine then_normal ?_
                      refine c_true hE rfl ?_
                      refine wp_seq ?_
                      refine wp_region_list ?_   -- region 10
                      refine l_step rfl (o_pure hE rfl rfl (p_assign rfl).run ?_); clear hE a; intro a hE
                      refine wpList_nil ?_
                      refine then_normal ?_
                      refine wp_ret ?_
                      refine then_ret ?_
                      refine ret1 rfl hE rfl ?_
                      first | omega | exact absurd rfl hC
                  · intro q4; replace q4 := eql_f q4; clear hE a; intro a hE
                    refine l_go hE rfl (o_pure hE rfl rfl (p_move rfl).run ?_); clear hE a; intro a hE
                    refine l_skip hE rfl rfl rfl ?_; clear hE a; intro a hE
                    refine l_skip hE rfl rfl rfl ?_; clear hE a; intro a hE
                    refine l_skip hE rfl rfl rfl ?_; clear hE a; intro a hE
                    refine l_go hE rfl (o_pure hE rfl rfl (p_pick (b := false) rfl rfl).run ?_); clear hE a; intro a hE
                    refine l_go hE rfl (o_pure hE rfl rfl (p_boolEq Tryd.underlying4 rfl rfl rfl).run ?_); clear hE a; intro a hE
                    refine l_step rfl (o_pure hE rfl rfl (p_pick (b := false) rfl rfl).run ?_); clear hE a; intro a hE
                    refine wpList_nil ?_
                    refine then_normal ?_
                    refine c_true hE rfl ?_
                    refine wp_seq ?_
                    refine wp_region_list ?_   -- region 10
                    refine l_step rfl (o_pure hE rfl rfl (p_assign rfl).run ?_); clear hE a; intro a hE
                    refine wpList_nil ?_
                    refine then_normal ?_
                    refine wp_ret ?_
                    refine then_ret ?_
                    refine ret1 rfl hE rfl ?_
                    first | omega | exact absurd rfl hC
                · skip
                  rw [key_eq (by omega) (by omega)] at hB
                  refine l_go hE rfl (o_pure hE rfl rfl (p_move rfl).run ?_); clear hE a; intro a hE
                  refine l_go hE rfl (o_pure hE rfl rfl (p_move rfl).run ?_); clear hE a; intro a hE
                  refine l_go hE rfl (o_cmp hE rfl rfl rfl rfl rfl rfl ?_ ?_)
                  · intro q4; replace q4 := eql_t q4; clear hE a; intro a hE
                    refine l_go hE rfl (o_pure hE rfl rfl (p_move rfl).run ?_); clear hE a; intro a hE
                    refine l_go hE rfl (o_pure hE rfl rfl (p_move rfl).run ?_); clear hE a; intro a hE
                    refine l_go hE rfl (o_pure hE rfl rfl (p_move rfl).run ?_); clear hE a; intro a hE
                    refine l_go hE rfl (o_cmp hE rfl rfl rfl rfl rfl rfl ?_ ?_)
                    · intro q5; replace q5 := eql_t q5; clear hE a; intro a hE
                      refine l_go hE rfl (o_pure hE rfl rfl (p_pick (b := true) rfl rfl).run ?_); clear hE a; intro a hE
                      refine l_go hE rfl (o_pure hE rfl rfl (p_boolEq Tryd.underlying4 rfl rfl rfl).run ?_); clear hE a; intro a hE
                      refine l_step rfl (o_pure hE rfl rfl (p_pick (b := false) rfl rfl).run ?_); clear hE a; intro a hE
                      refine wpList_nil ?_
                      refine then_normal ?_
                      refine c_true hE rfl ?_
                      refine wp_seq ?_
                      refine wp_region_list ?_   -- region 10
                      refine l_step rfl (o_pure hE rfl rfl (p_assign rfl).run ?_); clear hE a; intro a hE
                      refine wpList_nil ?_
                      refine then_normal ?_
                      refine wp_ret ?_
                      refine then_ret ?_
                      refine ret1 rfl hE rfl ?_
                      first | omega | exact absurd rfl hC
                    · intro q5; replace q5 := eql_f q5; clear hE a; intro a hE
                      refine l_go hE rfl (o_pure hE rfl rfl (p_pick (b := true) rfl rfl).run ?_); clear hE a; intro a hE
                      refine l_go hE rfl (o_pure hE rfl rfl (p_boolEq Tryd.underlying4 rfl rfl rfl).run ?_); clear hE a; intro a hE
                      refine l_step rfl (o_pure hE rfl rfl (p_pick (b := false) rfl rfl).run ?_); clear hE a; intro a hE
                      refine wpList_nil ?_
                      refine then_normal ?_
                      refine c_false hE rfl ?_
                      refine wp_skip ?_
                      refine then_normal ?_
                      refine wp_seq ?_
                      refine wp_region_list ?_   -- region 11
                      refine l_step rfl (o_pure hE rfl rfl (p_move rfl).run ?_); clear hE a; intro a hE
                      refine l_step rfl (o_pure hE rfl rfl (p_ifaceNil Tryd.underlying25 rfl rfl rfl).run ?_); clear hE a; intro a hE
                      refine l_step rfl (o_pure hE rfl rfl (p_move rfl).run ?_); clear hE a; intro a hE
                      refine l_skip hE rfl rfl rfl ?_; clear hE a; intro a hE
                      refine l_skip hE rfl rfl rfl ?_; clear hE a; intro a hE
                      refine l_skip hE rfl rfl rfl ?_; clear hE a; intro a hE
                      refine l_skip hE rfl rfl rfl ?_; clear hE a; intro a hE
                      refine l_skip hE rfl rfl rfl ?_; clear hE a; intro a hE
                      refine l_skip hE rfl rfl rfl ?_; clear hE a; intro a hE
                      refine l_step rfl (o_pure hE rfl rfl (p_pick (b := true) rfl rfl).run ?_); clear hE a; intro a hE
                      refine l_step rfl (o_pure hE rfl rfl (p_assign rfl).run ?_); clear hE a; intro a hE
                      refine wpList_nil ?_
                      refine then_normal ?_
                      refine wp_ret ?_
                      refine ret1 rfl hE rfl ?_
                      exact ⟨rfl, _, ((hD4.trans hD6).trans hD13), hI⟩
                  · intro q4; replace q4 := eql_f q4; clear hE a; intro a hE
                    refine l_go hE rfl (o_pure hE rfl rfl (p_move rfl).run ?_); clear hE a; intro a hE
                    refine l_skip hE rfl rfl rfl ?_; clear hE a; intro a hE
                    refine l_skip hE rfl rfl rfl ?_; clear hE a; intro a hE
                    refine l_skip hE rfl rfl rfl ?_; clear hE a; intro a hE
                    refine l_go hE rfl (o_pure hE rfl rfl (p_pick (b := false) rfl rfl).run ?_); clear hE a; intro a hE
                    refine l_go hE rfl (o_pure hE rfl rfl (p_boolEq Tryd.underlying4 rfl rfl rfl).run ?_); clear hE a; intro a hE
                    refine l_step rfl (o_pure hE rfl rfl (p_pick (b := false) rfl rfl).run ?_); clear hE a; intro a hE
                    refine wpList_nil ?_
                    refine then_normal ?_
                    refine c_false hE rfl ?_
                    refine wp_skip ?_
                    refine then_normal ?_
                    refine wp_seq ?_
                    refine wp_region_list ?_   -- region 11
                    refine l_step rfl (o_pure hE rfl rfl (p_move rfl).run ?_); clear hE a; intro a hE
                    refine l_step rfl (o_pure hE rfl rfl (p_ifaceNil Tryd.underlying25 rfl rfl rfl).run ?_); clear hE a; intro a hE
                    refine l_step rfl (o_pure hE rfl rfl (p_move rfl).run ?_); clear hE a; intro a hE
                    refine l_skip hE rfl rfl rfl ?_; clear hE a; intro a hE
                    refine l_skip hE rfl rfl rfl ?_; clear hE a; intro a hE
                    refine l_skip hE rfl rfl rfl ?_; clear hE a; intro a hE
                    refine l_skip hE rfl rfl rfl ?_; clear hE a; intro a hE
                    refine l_skip hE rfl rfl rfl ?_; clear hE a; intro a hE
                    refine l_skip hE rfl rfl rfl ?_; clear hE a; intro a hE
                    refine l_step rfl (o_pure hE rfl rfl (p_pick (b := true) rfl rfl).run ?_); clear hE a; intro a hE
                    refine l_step rfl (o_pure hE rfl rfl (p_assign rfl).run ?_); clear hE a; intro a hE
                    refine wpList_nil ?_
                    refine then_normal ?_
                    refine wp_ret ?_
                    refine ret1 rfl hE rfl ?_
                    exact ⟨rfl, _, ((hD4.trans hD6).trans hD13), hI⟩
            · intro q2; replace q2 := eql_f q2; clear hE a; intro a hE
              refine l_go hE rfl (o_pure hE rfl rfl (p_move rfl).run ?_); clear hE a; intro a hE
              refine l_skip hE rfl rfl rfl ?_; clear hE a; intro a hE
              refine l_skip hE rfl rfl rfl ?_; clear hE a; intro a hE
              refine l_skip hE rfl rfl rfl ?_; clear hE a; intro a hE
              refine l_go hE rfl (o_pure hE rfl rfl (p_pick (b := false) rfl rfl).run ?_); clear hE a; intro a hE
              refine l_step rfl (o_pure hE rfl rfl (p_pick (b := false) rfl rfl).run ?_); clear hE a; intro a hE
              refine l_step rfl (o_pure hE rfl rfl (p_boolEq Tryd.underlying4 rfl rfl rfl).run ?_); clear hE a; intro a hE
              refine l_step rfl (o_pure hE rfl rfl (p_move rfl).run ?_); clear hE a; intro a hE
              refine l_go hE rfl (o_pure hE rfl rfl (p_move rfl).run ?_); clear hE a; intro a hE
              refine l_go hE rfl (o_pure hE rfl rfl (p_move rfl).run ?_); clear hE a; intro a hE
              refine l_go hE rfl (o_call hE rfl rfl rfl rfl ent_18 (SameBytes_spec hI (hv8.mono hD13) hv15 (by rw [keyL_len]; omega)) ?_)
              clear hI hE a
              rintro r w h a hE; rcases h with ⟨rfl, hB, hI⟩ | ⟨rfl, hB, hI⟩
              · skip
                rw [key_eq (by omega) (by omega)] at hB
                refine l_go hE rfl (o_pure hE rfl rfl (p_move rfl).run ?_); clear hE a; intro a hE
                refine l_go hE rfl (o_pure hE rfl rfl (p_move rfl).run ?_); clear hE a; intro a hE
                refine l_go hE rfl (o_cmp hE rfl rfl rfl rfl rfl rfl ?_ ?_)
                · intro q4; replace q4 := eql_t q4; clear hE a; intro a hE
                  refine l_go hE rfl (o_pure hE rfl rfl (p_move rfl).run ?_); clear hE a; intro a hE
                  refine l_go hE rfl (o_pure hE rfl rfl (p_move rfl).run ?_); clear hE a; intro a hE
                  refine l_go hE rfl (o_pure hE rfl rfl (p_move rfl).run ?_); clear hE a; intro a hE
                  refine l_go hE rfl (o_cmp hE rfl rfl rfl rfl rfl rfl ?_ ?_)
                  · intro q5; replace q5 := eql_t q5; clear hE a; intro a hE
                    refine l_go hE rfl (o_pure hE rfl rfl (p_pick (b := true) rfl rfl).run ?_); clear hE a; intro a hE
                    refine l_go hE rfl (o_pure hE rfl rfl (p_boolEq Tryd.underlying4 rfl rfl rfl).run ?_); clear hE a; intro a hE
                    refine l_step rfl (o_pure hE rfl rfl (p_pick (b := false) rfl rfl).run ?_); clear hE a; intro a hE
                    refine wpList_nil ?_
                    refine then_normal ?_
                    refine c_false hE rfl ?_
                    refine wp_skip ?_
                    refine then_normal ?_
                    refine wp_seq ?_
                    refine wp_region_list ?_   -- region 11
                    refine l_step rfl (o_pure hE rfl rfl (p_move rfl).run ?_); clear hE a; intro a hE
                    refine l_step rfl (o_pure hE rfl rfl (p_ifaceNil Tryd.underlying25 rfl rfl rfl).run ?_); clear hE a; intro a hE
                    refine l_step rfl (o_pure hE rfl rfl (p_move rfl).run ?_); clear hE a; intro a hE
                    refine l_skip hE rfl rfl rfl ?_; clear hE a; intro a hE
                    refine l_skip hE rfl rfl rfl ?_; clear hE a; intro a hE
                    refine l_skip hE rfl rfl rfl ?_; clear hE a; intro a hE
                    refine l_skip hE rfl rfl rfl ?_; clear hE a; intro a hE
                    refine l_skip hE rfl rfl rfl ?_; clear hE a; intro a hE
                    refine l_skip hE rfl rfl rfl ?_; clear hE a; intro a hE
                    refine l_step rfl (o_pure hE rfl rfl (p_pick (b := true) rfl rfl).run ?_); clear hE a; intro a hE
                    refine l_step rfl (o_pure hE rfl rfl (p_assign rfl).run ?_); clear hE a; intro a hE
                    refine wpList_nil ?_
                    refine then_normal ?_
                    refine wp_ret ?_
                    refine ret1 rfl hE rfl ?_
                    exact ⟨rfl, _, ((hD4.trans hD6).trans hD13), hI⟩
                  · intro q5; replace q5 := eql_f q5; clear hE a; intro a hE
                    refine l_go hE rfl (o_pure hE rfl rfl (p_pick (b := true) rfl rfl).run ?_); clear hE a; intro a hE
                    refine l_go hE rfl (o_pure hE rfl rfl (p_boolEq Tryd.underlying4 rfl rfl rfl).run ?_); clear hE a; intro a hE
                    refine l_step rfl (o_pure hE rfl rfl (p_pick (b := false) rfl rfl).run ?_); clear hE a; intro a hE
                    refine wpList_nil ?_
                    refine then_normal ?_
                    refine c_true hE rfl ?_
                    refine wp_seq ?_
                    refine wp_region_list ?_   -- region 10
                    refine l_step rfl (o_pure hE rfl rfl (p_assign rfl).run ?_); clear hE a; intro a hE
                    refine wpList_nil ?_
                    refine then_normal ?_
                    refine wp_ret ?_
                    refine then_ret ?_
                    refine ret1 rfl hE rfl ?_
                    first | omega | exact absurd rfl hC
                · intro q4; replace q4 := eql_f q4; clear hE a; intro a hE
                  refine l_go hE rfl (o_pure hE rfl rfl (p_move rfl).run ?_); clear hE a; intro a hE
                  refine l_skip hE rfl rfl rfl ?_; clear hE a; intro a hE
                  refine l_skip hE rfl rfl rfl ?_; clear hE a; intro a hE
                  refine l_skip hE rfl rfl rfl ?_; clear hE a; intro a hE
                  refine l_go hE rfl (o_pure hE rfl rfl (p_pick (b := false) rfl rfl).run ?_); clear hE a; intro a hE
                  refine l_go hE rfl (o_pure hE rfl rfl (p_boolEq Tryd.underlying4 rfl rfl rfl).run ?_); clear hE a; intro a hE
                  refine l_step rfl (o_pure hE rfl rfl (p_pick (b := false) rfl rfl).run ?_); clear hE a; intro a hE
                  refine wpList_nil ?_
                  refine then_normal ?_
                  refine c_true hE rfl ?_
                  refine wp_seq ?_
                  refine wp_region_list ?_   -- region 10
                  refine l_step rfl (o_pure hE rfl rfl (p_assign rfl).run ?_); clear hE a; intro a hE
                  refine wpList_nil ?_
                  refine then_normal ?_
                  refine wp_ret ?_
                  refine then_ret ?_
                  refine ret1 rfl hE rfl ?_
                  first | omega | exact absurd rfl hC
              · skip
                rw [key_eq (by omega) (by omega)] at hB
                refine l_go hE rfl (o_pure hE rfl rfl (p_move rfl).run ?_); clear hE a; intro a hE
                refine l_go hE rfl (o_pure hE rfl rfl (p_move rfl).run ?_); clear hE a; intro a hE
                refine l_go hE rfl (o_cmp hE rfl rfl rfl rfl rfl rfl ?_ ?_)
                · intro q4; replace q4 := eql_t q4; clear hE a; intro a hE
                  refine l_go hE rfl (o_pure hE rfl rfl (p_move rfl).run ?_); clear hE a; intro a hE
                  refine l_go hE rfl (o_pure hE rfl rfl (p_move rfl).run ?_); clear hE a; intro a hE
                  refine l_go hE rfl (o_pure hE rfl rfl (p_move rfl).run ?_); clear hE a; intro a hE
                  refine l_go hE rfl (o_cmp hE rfl rfl rfl rfl rfl rfl ?_ ?_)
                  · intro q5; replace q5 := eql_t q5; clear hE a; intro a hE
                    refine l_go hE rfl (o_pure hE rfl rfl (p_pick (b := true) rfl rfl).run ?_); clear hE a; intro a hE
                    refine l_go hE rfl (o_pure hE rfl rfl (p_boolEq Tryd.underlying4 rfl rfl rfl).run ?_); clear hE a; intro a hE
                    refine l_step rfl (o_pure hE rfl rfl (p_pick (b := false) rfl rfl).run ?_); clear hE a; intro a hE
                    refine wpList_nil ?_
                    refine then_normal ?_
                    refine c_true hE rfl ?_
                    refine wp_seq ?_
                    refine wp_region_list ?_   -- region 10
                    refine l_step rfl (o_pure hE rfl rfl (p_assign rfl).run ?_); clear hE a; intro a hE
                    refine wpList_nil ?_
                    refine then_normal ?_
                    refine wp_ret ?_
                    refine then_ret ?_
                    refine ret1 rfl hE rfl ?_
                    first | omega | exact absurd rfl hC
                  · intro q5; replace q5 := eql_f q5; clear hE a; intro a hE
                    refine l_go hE rfl (o_pure hE rfl rfl (p_pick (b := true) rfl rfl).run ?_); clear hE a; intro a hE
                    refine l_go hE rfl (o_pure hE rfl rfl (p_boolEq Tryd.underlying4 rfl rfl rfl).run ?_); clear hE a; intro a hE
                    refine l_step rfl (o_pure hE rfl rfl (p_pick (b := false) rfl rfl).run ?_); clear hE a; intro a hE
                    refine wpList_nil ?_
                    refine then_normal ?_
                    refine c_false hE rfl ?_
                    refine wp_skip ?_
                    refine then_normal ?_
                    refine wp_seq ?_
                    refine wp_region_list ?_   -- region 11
                    refine l_step rfl (o_pure hE rfl rfl (p_move rfl).run ?_); clear hE a; intro a hE
                    refine l_step rfl (o_pure hE rfl rfl (p_ifaceNil Tryd.underlying25 rfl rfl rfl).run ?_); clear hE a; intro a hE
                    refine l_step rfl (o_pure hE rfl rfl (p_move rfl).run ?_); clear hE a; intro a hE
                    refine l_skip hE rfl rfl rfl ?_; clear hE a; intro a hE
                    refine l_skip hE rfl rfl rfl ?_; clear hE a; intro a hE
                    refine l_skip hE rfl rfl rfl ?_; clear hE a; intro a hE
                    refine l_skip hE rfl rfl rfl ?_; clear hE a; intro a hE
                    refine l_skip hE rfl rfl rfl ?_; clear hE a; intro a hE
                    refine l_skip hE rfl rfl rfl ?_; clear hE a; intro a hE
                    refine l_step rfl (o_pure hE rfl rfl (p_pick (b := true) rfl rfl).run ?_); clear hE a; intro a hE
                    refine l_step rfl (o_pure hE rfl rfl (p_assign rfl).run ?_); clear hE a; intro a hE
                    refine wpList_nil ?_
                    refine then_normal ?_
                    refine wp_ret ?_
                    refine ret1 rfl hE rfl ?_
                    exact ⟨rfl, _, ((hD4.trans hD6).trans hD13), hI⟩
                · intro q4; replace q4 := eql_f q4; clear hE a; intro a hE
                  refine l_go hE rfl (o_pure hE rfl rfl (p_move rfl).run ?_); clear hE a; intro a hE
                  refine l_skip hE rfl rfl rfl ?_; clear hE a; intro a hE
                  refine l_skip hE rfl rfl rfl ?_; clear hE a; intro a hE
                  refine l_skip hE rfl rfl rfl ?_; clear hE a; intro a hE
                  refine l_go hE rfl (o_pure hE rfl rfl (p_pick (b := false) rfl rfl).run ?_); clear hE a; intro a hE
                  refine l_go hE rfl (o_pure hE rfl rfl (p_boolEq Tryd.underlying4 rfl rfl rfl).run ?_); clear hE a; intro a hE
                  refine l_step rfl (o_pure hE rfl rfl (p_pick (b := false) rfl rfl).run ?_); clear hE a; intro a hE
                  refine wpList_nil ?_
                  refine then_normal ?_
                  refine c_false hE rfl ?_
                  refine wp_skip ?_
                  refine then_normal ?_
                  refine wp_seq ?_
                  refine wp_region_list ?_   -- region 11
                  refine l_step rfl (o_pure hE rfl rfl (p_move rfl).run ?_); clear hE a; intro a hE
                  refine l_step rfl (o_pure hE rfl rfl (p_ifaceNil Tryd.underlying25 rfl rfl rfl).run ?_); clear hE a; intro a hE
                  refine l_step rfl (o_pure hE rfl rfl (p_move rfl).run ?_); clear hE a; intro a hE
                  refine l_skip hE rfl rfl rfl ?_; clear hE a; intro a hE
                  refine l_skip hE rfl rfl rfl ?_; clear hE a; intro a hE
                  refine l_skip hE rfl rfl rfl ?_; clear hE a; intro a hE
                  refine l_skip hE rfl rfl rfl ?_; clear hE a; intro a hE
                  refine l_skip hE rfl rfl rfl ?_; clear hE a; intro a hE
                  refine l_skip hE rfl rfl rfl ?_; clear hE a; intro a hE
                  refine l_step rfl (o_pure hE rfl rfl (p_pick (b := true) rfl rfl).run ?_); clear hE a; intro a hE
                  refine l_step rfl (o_pure hE rfl rfl (p_assign rfl).run ?_); clear hE a; intro a hE
                  refine wpList_nil ?_
                  refine then_normal ?_
                  refine wp_ret ?_
                  refine ret1 rfl hE rfl ?_
                  exact ⟨rfl, _, ((hD4.trans hD6).trans hD13), hI⟩
    · skip
      refine l_step rfl (o_pure hE rfl rfl (p_move rfl).run ?_); clear hE a; intro a hE
      refine l_step rfl (o_pure hE rfl rfl (f_extract rfl rfl).run ?_); clear hE a; intro a hE
      refine l_step rfl (o_pure hE rfl rfl (f_extract rfl rfl).run ?_); clear hE a; intro a hE
      refine l_step rfl (o_pure hE rfl rfl (p_assign rfl).run ?_); clear hE a; intro a hE
      refine l_step rfl (o_pure hE rfl rfl (p_assign rfl).run ?_); clear hE a; intro a hE
      refine wpList_nil ?_
      refine then_normal ?_
      refine wp_seq ?_
      refine wp_region_list ?_   -- region 6
      refine l_step rfl (o_pure hE rfl rfl (p_move rfl).run ?_); clear hE a; intro a hE
      refine l_step rfl (o_call hE rfl rfl rfl rfl ent_16 (UserKey_spec hI (g105.mono (hD4.trans hD6)) (hu.mono (hD4.trans hD6))) ?_)
      clear hI hE a
      rintro r w h a hE; rcases h with ⟨v28, D26, hz30, hz30_, rfl, hD27, hI, hv29⟩ | ⟨hz30, rfl, hI⟩
      · skip
        obtain ⟨A31, c32, rfl, _⟩ := hv29.slice
        refine l_step rfl (o_pure hE rfl rfl (p_move rfl).run ?_); clear hE a; intro a hE
        refine l_step rfl (o_pure hE rfl rfl (f_extract rfl rfl).run ?_); clear hE a; intro a hE
        refine l_step rfl (o_pure hE rfl rfl (f_extract rfl rfl).run ?_); clear hE a; intro a hE
        refine l_step rfl (o_pure hE rfl rfl (p_assign rfl).run ?_); clear hE a; intro a hE
        refine l_step rfl (o_pure hE rfl rfl (p_assign rfl).run ?_); clear hE a; intro a hE
        refine wpList_nil ?_
        refine then_normal ?_
        refine wp_seq ?_
        refine wp_seq ?_
        refine wp_region_list ?_   -- region 7
        refine l_step rfl (o_pure hE rfl rfl (p_move rfl).run ?_); clear hE a; intro a hE
        refine l_step rfl (o_pure hE rfl rfl (p_ifaceNil Tryd.underlying25 rfl rfl rfl).run ?_); clear hE a; intro a hE
        refine l_step rfl (o_pure hE rfl rfl (p_move rfl).run ?_); clear hE a; intro a hE
        refine l_go hE rfl (o_pure hE rfl rfl (p_move rfl).run ?_); clear hE a; intro a hE
        refine l_go hE rfl (o_pure hE rfl rfl (p_ifaceNil Tryd.underlying25 rfl rfl rfl).run ?_); clear hE a; intro a hE
        refine l_step rfl (o_pure hE rfl rfl (p_pick (b := false) rfl rfl).run ?_); clear hE a; intro a hE
        refine wpList_nil ?_
        refine then_normal ?_
        refine c_true hE rfl ?_
        refine wp_seq ?_
        refine wp_region_list ?_   -- region 8
        refine l_step rfl (o_pure hE rfl rfl (p_move rfl).run ?_); clear hE a; intro a hE
        refine l_step rfl (o_pure hE rfl rfl (p_assign rfl).run ?_); clear hE a; intro a hE
        refine wpList_nil ?_
        refine then_normal ?_
        refine wp_ret ?_
        refine then_ret ?_
        refine ret1 rfl hE rfl ?_
        exact ⟨rfl, _, ((hD4.trans hD6).trans hD27), hI⟩
      · skip
        refine l_step rfl (o_pure hE rfl rfl (p_move rfl).run ?_); clear hE a; intro a hE
        refine l_step rfl (o_pure hE rfl rfl (f_extract rfl rfl).run ?_); clear hE a; intro a hE
        refine l_step rfl (o_pure hE rfl rfl (f_extract rfl rfl).run ?_); clear hE a; intro a hE
        refine l_step rfl (o_pure hE rfl rfl (p_assign rfl).run ?_); clear hE a; intro a hE
        refine l_step rfl (o_pure hE rfl rfl (p_assign rfl).run ?_); clear hE a; intro a hE
        refine wpList_nil ?_
        refine then_normal ?_
        refine wp_seq ?_
        refine wp_seq ?_
        refine wp_region_list ?_   -- region 7
        refine l_step rfl (o_pure hE rfl rfl (p_move rfl).run ?_); clear hE a; intro a hE
        refine l_step rfl (o_pure hE rfl rfl (p_ifaceNil Tryd.underlying25 rfl rfl rfl).run ?_); clear hE a; intro a hE
        refine l_step rfl (o_pure hE rfl rfl (p_move rfl).run ?_); clear hE a; intro a hE
        refine l_go hE rfl (o_pure hE rfl rfl (p_move rfl).run ?_); clear hE a; intro a hE
        refine l_go hE rfl (o_pure hE rfl rfl (p_ifaceNil Tryd.underlying25 rfl rfl rfl).run ?_); clear hE a; intro a hE
        refine l_step rfl (o_pure hE rfl rfl (p_pick (b := false) rfl rfl).run ?_); clear hE a; intro a hE
        refine wpList_nil ?_
        refine then_normal ?_
        refine c_true hE rfl ?_
        refine wp_seq ?_
        refine wp_region_list ?_   -- region 8
        refine l_step rfl (o_pure hE rfl rfl (p_move rfl).run ?_); clear hE a; intro a hE
        refine l_step rfl (o_pure hE rfl rfl (p_assign rfl).run ?_); clear hE a; intro a hE
        refine wpList_nil ?_
        refine then_normal ?_
        refine wp_ret ?_
        refine then_ret ?_
        refine ret1 rfl hE rfl ?_
        exact ⟨rfl, _, (hD4.trans hD6), hI⟩
  · skip
    refine l_step rfl (o_pure hE rfl rfl (p_move rfl).run ?_); clear hE a; intro a hE
    refine l_step rfl (o_pure hE rfl rfl (f_extract rfl rfl).run ?_); clear hE a; intro a hE
    refine l_step rfl (o_pure hE rfl rfl (f_extract rfl rfl).run ?_); clear hE a; intro a hE
    refine l_step rfl (o_pure hE rfl rfl (p_assign rfl).run ?_); clear hE a; intro a hE
    refine l_step rfl (o_pure hE rfl rfl (p_assign rfl).run ?_); clear hE a; intro a hE
    refine wpList_nil ?_
    refine then_normal ?_
    refine wp_seq ?_
    refine wp_region_list ?_   -- region 5
    refine l_step rfl (o_pure hE rfl rfl (p_move rfl).run ?_); clear hE a; intro a hE
    refine l_step rfl (o_pure hE rfl rfl (p_move rfl).run ?_); clear hE a; intro a hE
    refine l_step rfl (o_call hE rfl rfl rfl rfl ent_15 (Key_spec hI (g105.mono hD4) b m) ?_)
    clear hI hE a
    rintro r w h a hE; rcases h with ⟨v35, D33, hy37, rfl, hD34, hI, hv36⟩ | ⟨hy37, rfl, hI⟩
    · skip
      obtain ⟨A38, c39, rfl, _⟩ := hv36.slice
      refine l_step rfl (o_pure hE rfl rfl (p_move rfl).run ?_); clear hE a; intro a hE
      refine l_step rfl (o_pure hE rfl rfl (f_extract rfl rfl).run ?_); clear hE a; intro a hE
      refine l_step rfl (o_pure hE rfl rfl (f_extract rfl rfl).run ?_); clear hE a; intro a hE
      refine l_step rfl (o_pure hE rfl rfl (p_assign rfl).run ?_); clear hE a; intro a hE
      refine l_step rfl (o_pure hE rfl rfl (p_assign rfl).run ?_); clear hE a; intro a hE
      refine wpList_nil ?_
      refine then_normal ?_
      refine wp_seq ?_
      refine wp_region_list ?_   -- region 6
      refine l_step rfl (o_pure hE rfl rfl (p_move rfl).run ?_); clear hE a; intro a hE
      refine l_step rfl (o_call hE rfl rfl rfl rfl ent_16 (UserKey_spec hI (g105.mono (hD4.trans hD34)) (hu.mono (hD4.trans hD34))) ?_)
      clear hI hE a
      rintro r w h a hE; rcases h with ⟨v42, D40, hz44, hz44_, rfl, hD41, hI, hv43⟩ | ⟨hz44, rfl, hI⟩
      · skip
        obtain ⟨A45, c46, rfl, _⟩ := hv43.slice
        refine l_step rfl (o_pure hE rfl rfl (p_move rfl).run ?_); clear hE a; intro a hE
        refine l_step rfl (o_pure hE rfl rfl (f_extract rfl rfl).run ?_); clear hE a; intro a hE
        refine l_step rfl (o_pure hE rfl rfl (f_extract rfl rfl).run ?_); clear hE a; intro a hE
        refine l_step rfl (o_pure hE rfl rfl (p_assign rfl).run ?_); clear hE a; intro a hE
        refine l_step rfl (o_pure hE rfl rfl (p_assign rfl).run ?_); clear hE a; intro a hE
        refine wpList_nil ?_
        refine then_normal ?_
        refine wp_seq ?_
        refine wp_seq ?_
        refine wp_region_list ?_   -- region 7
        refine l_step rfl (o_pure hE rfl rfl (p_move rfl).run ?_); clear hE a; intro a hE
        refine l_step rfl (o_pure hE rfl rfl (p_ifaceNil Tryd.underlying25 rfl rfl rfl).run ?_); clear hE a; intro a hE
        refine l_step rfl (o_pure hE rfl rfl (p_move rfl).run ?_); clear hE a; intro a hE
        refine l_skip hE rfl rfl rfl ?_; clear hE a; intro a hE
        refine l_skip hE rfl rfl rfl ?_; clear hE a; intro a hE
        refine l_step rfl (o_pure hE rfl rfl (p_pick (b := true) rfl rfl).run ?_); clear hE a; intro a hE
        refine wpList_nil ?_
        refine then_normal ?_
        refine c_true hE rfl ?_
        refine wp_seq ?_
        refine wp_region_list ?_   -- region 8
        refine l_step rfl (o_pure hE rfl rfl (p_move rfl).run ?_); clear hE a; intro a hE
        refine l_step rfl (o_pure hE rfl rfl (p_assign rfl).run ?_); clear hE a; intro a hE
        refine wpList_nil ?_
        refine then_normal ?_
        refine wp_ret ?_
        refine then_ret ?_
        refine ret1 rfl hE rfl ?_
        exact ⟨rfl, _, ((hD4.trans hD34).trans hD41), hI⟩
      · skip
        refine l_step rfl (o_pure hE rfl rfl (p_move rfl).run ?_); clear hE a; intro a hE
        refine l_step rfl (o_pure hE rfl rfl (f_extract rfl rfl).run ?_); clear hE a; intro a hE
        refine l_step rfl (o_pure hE rfl rfl (f_extract rfl rfl).run ?_); clear hE a; intro a hE
        refine l_step rfl (o_pure hE rfl rfl (p_assign rfl).run ?_); clear hE a; intro a hE
        refine l_step rfl (o_pure hE rfl rfl (p_assign rfl).run ?_); clear hE a; intro a hE
        refine wpList_nil ?_
        refine then_normal ?_
        refine wp_seq ?_
        refine wp_seq ?_
        refine wp_region_list ?_   -- region 7
        refine l_step rfl (o_pure hE rfl rfl (p_move rfl).run ?_); clear hE a; intro a hE
        refine l_step rfl (o_pure hE rfl rfl (p_ifaceNil Tryd.underlying25 rfl rfl rfl).run ?_); clear hE a; intro a hE
        refine l_step rfl (o_pure hE rfl rfl (p_move rfl).run ?_); clear hE a; intro a hE
        refine l_skip hE rfl rfl rfl ?_; clear hE a; intro a hE
        refine l_skip hE rfl rfl rfl ?_; clear hE a; intro a hE
        refine l_step rfl (o_pure hE rfl rfl (p_pick (b := true) rfl rfl).run ?_); clear hE a; intro a hE
        refine wpList_nil ?_
        refine then_normal ?_
        refine c_true hE rfl ?_
        refine wp_seq ?_
        refine wp_region_list ?_   -- region 8
        refine l_step rfl (o_pure hE rfl rfl (p_move rfl).run ?_); clear hE a; intro a hE
        refine l_step rfl (o_pure hE rfl rfl (p_assign rfl).run ?_); clear hE a; intro a hE
        refine wpList_nil ?_
        refine then_normal ?_
        refine wp_ret ?_
        refine then_ret ?_
        refine ret1 rfl hE rfl ?_
        exact ⟨rfl, _, (hD4.trans hD34), hI⟩
    · skip
      refine l_step rfl (o_pure hE rfl rfl (p_move rfl).run ?_); clear hE a; intro a hE
      refine l_step rfl (o_pure hE rfl rfl (f_extract rfl rfl).run ?_); clear hE a; intro a hE
      refine l_step rfl (o_pure hE rfl rfl (f_extract rfl rfl).run ?_); clear hE a; intro a hE
      refine l_step rfl (o_pure hE rfl rfl (p_assign rfl).run ?_); clear hE a; intro a hE
      refine l_step rfl (o_pure hE rfl rfl (p_assign rfl).run ?_); clear hE a; intro a hE
      refine wpList_nil ?_
      refine then_normal ?_
      refine wp_seq ?_
      refine wp_region_list ?_   -- region 6
      refine l_step rfl (o_pure hE rfl rfl (p_move rfl).run ?_); clear hE a; intro a hE
      refine l_step rfl (o_call hE rfl rfl rfl rfl ent_16 (UserKey_spec hI (g105.mono hD4) (hu.mono hD4)) ?_)
      clear hI hE a
      rintro r w h a hE; rcases h with ⟨v49, D47, hz51, hz51_, rfl, hD48, hI, hv50⟩ | ⟨hz51, rfl, hI⟩
      · skip
        obtain ⟨A52, c53, rfl, _⟩ := hv50.slice
        refine l_step rfl (o_pure hE rfl rfl (p_move rfl).run ?_); clear hE a; intro a hE
        refine l_step rfl (o_pure hE rfl rfl (f_extract rfl rfl).run ?_); clear hE a; intro a hE
        refine l_step rfl (o_pure hE rfl rfl (f_extract rfl rfl).run ?_); clear hE a; intro a hE
        refine l_step rfl (o_pure hE rfl rfl (p_assign rfl).run ?_); clear hE a; intro a hE
        refine l_step rfl (o_pure hE rfl rfl (p_assign rfl).run ?_); clear hE a; intro a hE
        refine wpList_nil ?_
        refine then_normal ?_
        refine wp_seq ?_
        refine wp_seq ?_
        refine wp_region_list ?_   -- region 7
        refine l_step rfl (o_pure hE rfl rfl (p_move rfl).run ?_); clear hE a; intro a hE
        refine l_step rfl (o_pure hE rfl rfl (p_ifaceNil Tryd.underlying25 rfl rfl rfl).run ?_); clear hE a; intro a hE
        refine l_step rfl (o_pure hE rfl rfl (p_move rfl).run ?_); clear hE a; intro a hE
        refine l_skip hE rfl rfl rfl ?_; clear hE a; intro a hE
        refine l_skip hE rfl rfl rfl ?_; clear hE a; intro a hE
        refine l_step rfl (o_pure hE rfl rfl (p_pick (b := true) rfl rfl).run ?_); clear hE a; intro a hE
        refine wpList_nil ?_
        refine then_normal ?_
        refine c_true hE rfl ?_
        refine wp_seq ?_
        refine wp_region_list ?_   -- region 8
        refine l_step rfl (o_pure hE rfl rfl (p_move rfl).run ?_); clear hE a; intro a hE
        refine l_step rfl (o_pure hE rfl rfl (p_assign rfl).run ?_); clear hE a; intro a hE
        refine wpList_nil ?_
        refine then_normal ?_
        refine wp_ret ?_
        refine then_ret ?_
        refine ret1 rfl hE rfl ?_
        exact ⟨rfl, _, (hD4.trans hD48), hI⟩
      · skip
        refine l_step rfl (o_pure hE rfl rfl (p_move rfl).run ?_); clear hE a; intro a hE
        refine l_step rfl (o_pure hE rfl rfl (f_extract rfl rfl).run ?_); clear hE a; intro a hE
        refine l_step rfl (o_pure hE rfl rfl (f_extract rfl rfl).run ?_); clear hE a; intro a hE
        refine l_step rfl (o_pure hE rfl rfl (p_assign rfl).run ?_); clear hE a; intro a hE
        refine l_step rfl (o_pure hE rfl rfl (p_assign rfl).run ?_); clear hE a; intro a hE
        refine wpList_nil ?_
        refine then_normal ?_
        refine wp_seq ?_
        refine wp_seq ?_
        refine wp_region_list ?_   -- region 7
        refine l_step rfl (o_pure hE rfl rfl (p_move rfl).run ?_); clear hE a; intro a hE
        refine l_step rfl (o_pure hE rfl rfl (p_ifaceNil Tryd.underlying25 rfl rfl rfl).run ?_); clear hE a; intro a hE
        refine l_step rfl (o_pure hE rfl rfl (p_move rfl).run ?_); clear hE a; intro a hE
        refine l_skip hE rfl rfl rfl ?_; clear hE a; intro a hE
        refine l_skip hE rfl rfl rfl ?_; clear hE a; intro a hE
        refine l_step rfl (o_pure hE rfl rfl (p_pick (b := true) rfl rfl).run ?_); clear hE a; intro a hE
        refine wpList_nil ?_
        refine then_normal ?_
        refine c_true hE rfl ?_
        refine wp_seq ?_
        refine wp_region_list ?_   -- region 8
        refine l_step rfl (o_pure hE rfl rfl (p_move rfl).run ?_); clear hE a; intro a hE
        refine l_step rfl (o_pure hE rfl rfl (p_assign rfl).run ?_); clear hE a; intro a hE
        refine wpList_nil ?_
        refine then_normal ?_
        refine wp_ret ?_
        refine then_ret ?_
        refine ret1 rfl hE rfl ?_
        exact ⟨rfl, _, hD4, hI⟩

end Go.Proofs.YtbogbnkckofpdaaDoor.B
