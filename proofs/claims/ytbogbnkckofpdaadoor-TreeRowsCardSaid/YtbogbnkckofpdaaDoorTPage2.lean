/- What functions of the program compute, each function once: steps over the model, and the plain law of it. -/
import Derived.Test.YtbogbnkckofpdaaDoorTPage
namespace Go.Proofs.YtbogbnkckofpdaaDoor.B
open Go Go.Proofs
set_option linter.unusedVariables false
set_option linter.unusedSimpArgs false
set_option maxRecDepth 20000
set_option maxHeartbeats 8000000
namespace FTPage2
theorem agg_83 : aggSize Tryd.prog 83 = some 5 := by kernel_rfl
theorem ent_123 : enters Tryd.prog 123 = true := by kernel_rfl
theorem ent_130 : enters Tryd.prog 130 = true := by kernel_rfl
theorem ent_71 : enters Tryd.prog 71 = true := by kernel_rfl
theorem fo_69_1 : fieldOff Tryd.prog 69 1 = some 1 := by kernel_rfl
theorem fo_83_4 : fieldOff Tryd.prog 83 4 = some 4 := by kernel_rfl
theorem scal_22 : isScal Tryd.prog 22 = true := by kernel_rfl
theorem scal_25 : isScal Tryd.prog 25 = true := by kernel_rfl
theorem scal_5 : isScal Tryd.prog 5 = true := by kernel_rfl
theorem scal_65 : isScal Tryd.prog 65 = true := by kernel_rfl
theorem sz_5 : (Tryd.prog.info? 5).map (·.size) = some 1 := by kernel_rfl
theorem sz_69 : (Tryd.prog.info? 69).map (·.size) = some 2 := by kernel_rfl
theorem zs_5 : (Tryd.prog.info? 5).map (fun i => (i.zero, i.size)) = some (some (.int .u8 0), 1) := by kernel_rfl
theorem zsb_5 : (Tryd.prog.info? 5).map (fun i => (i.zero, i.size, i.bytes)) = some (some (.int .u8 0), 1, 1) := by kernel_rfl
end FTPage2
open FTPage2
theorem or_bytes {x y : Nat} (hx : x < 256) (hy : y < 256) : arithZ .or .i64 ((x * 256 : Nat) : Int) (y : Nat) = some ((x * 256 + y : Nat) : Int) := by
 show some (IntKind.i64.wrap ((BitVec.ofInt 64 ((x * 256 : Nat) : Int) ||| BitVec.ofInt 64 ((y : Nat) : Int)).toNat)) = _
 rw [BitVec.ofInt_natCast, BitVec.ofInt_natCast]
 have h3 : (BitVec.ofNat 64 (x * 256) ||| BitVec.ofNat 64 y).toNat = x * 256 + y := by
  rw [BitVec.toNat_or, BitVec.toNat_ofNat, BitVec.toNat_ofNat, Nat.mod_eq_of_lt (by omega), Nat.mod_eq_of_lt (by omega)]
  have := Nat.shiftLeft_add_eq_or_of_lt (b := y) (i := 8) (by omega) x
  rw [Nat.shiftLeft_eq, show (2 : Nat) ^ 8 = 256 from rfl] at this
  omega
 rw [h3]
 congr 1
 rw [IntKind.wrap_i64]; omega
theorem two_spec {w0 w : World} {D : Sto} {ss : List Seg} (hI : Inv w0 D ss w) (n : Int) :
  Calls Tryd.prog 123 #[.int .i64 n] w (Ret fun r w' => ∃ s, OB r (twoB n) s ∧ Inv w0 D (s :: ss) w') := by
 refine enter (N := 9) Tryd.func123 rfl rfl rfl ?_
 intro a hE
 refine wsr ?_
 refine za hE ?_; clear hE a; intro a hE
 refine wnt ?_
 refine wsr ?_
 refine zm hE ?_; clear hE a; intro a hE
 refine zs hE (p_shr (z := n.fdiv 256) rfl rfl (by omega) (by simp [IntKind.bits])) ?_; clear hE a; intro a hE
 refine zs hE (p_int (z := (((n.fdiv 256) % 256).toNat : Nat)) Tryd.underlying3 Tryd.underlying5 rfl (u8_z)) ?_; clear hE a; intro a hE
 refine zm hE ?_; clear hE a; intro a hE
 refine zs hE (p_int (z := ((n % 256).toNat : Nat)) Tryd.underlying3 Tryd.underlying5 rfl (u8_z)) ?_; clear hE a; intro a hE
 refine l_step rfl (f_lit (vs := [(0, _), (1, _)]) (l := [_, _]) hE hI rfl rfl rfl rfl Tryd.underlying22 zs_5 rfl rfl rfl ?_)
 clear hI hE a w; intro a b1 w hE hI
 refine za hE ?_; clear hE a; intro a hE
 refine wnt ?_
 refine wp_ret ?_
 refine ret1 rfl hE rfl ?_
 exact ⟨_, (Row.lit (T := 5) (size := 1) (n := 2) rfl (by omega)), hI⟩
theorem twoB_lt (n : Int) : ∀ x ∈ twoB n, x < 256 := by
 intro x hx
 simp only [twoB, List.mem_cons, List.not_mem_nil, or_false] at hx
 rcases hx with rfl | rfl <;> omega
theorem two_data {w0 w : World} {D : Sto} {ss : List Seg} (hI : Inv w0 D ss w) (n : Int) : Calls Tryd.prog 123 #[.int .i64 n] w (Ret fun r w' => ∃ D', Le D D' ∧ Inv w0 D' ss w' ∧ RB D' r (twoB n)) :=
 (two_spec hI n).mono fun _ _ h => h.imp fun _ _ h => OB.data h (twoB_lt n)
theorem counts_spec {w0 w : World} {D : Sto} {ss : List Seg} (hI : Inv w0 D ss w) (used free : Int) :
  Calls Tryd.prog 96 #[.int .i64 used, .int .i64 free] w (Ret fun r w' => ∃ D', Le D D' ∧ Inv w0 D' ss w' ∧ RB D' r (twoB used ++ twoB free)) := by
 refine enter (N := 10) Tryd.func96 rfl rfl rfl ?_
 intro a hE
 refine wsr ?_
 refine za hE ?_; clear hE a; intro a hE
 refine wnt ?_
 refine wsr ?_
 refine zm hE ?_; clear hE a; intro a hE
 refine l_step rfl (o_call hE rfl rfl rfl rfl ent_123 (two_spec hI used) ?_)
 clear hI hE a
 rintro r w ⟨s1, hR2, hI⟩ a hE
 obtain ⟨A3, c4, rfl, _⟩ := Row.slice hR2
 refine zm hE ?_; clear hE a; intro a hE
 refine l_step rfl (o_call hE rfl rfl rfl rfl ent_123 (two_data hI free) ?_)
 clear hI hE a
 rintro r w ⟨D5, hD6, hI, hb7⟩ a hE
 obtain ⟨A8, c9, rfl, _⟩ := hb7.slice
 refine l_step rfl (o_appendRB 0 hE hI rfl rfl rfl rfl rfl Tryd.underlying22 zsb_5 rfl hR2 hb7 (by simp [twoB]) ?_)
 clear hI hE a w; intro v10 s11 w hR12 hI a hE
 obtain ⟨A13, c14, rfl, _⟩ := hR12.slice
 try simp only [nrm, Value.cells] at hI
 refine za hE ?_; clear hE a; intro a hE
 refine wnt ?_
 refine wp_ret ?_
 refine ret1 rfl hE rfl ?_
 obtain ⟨D9, hD9, hI, hb⟩ := OB.data ⟨_, Row.cast (ys := bytesV (twoB used ++ twoB free)) hR12 (by simp [bytesV]) (by simp [twoB]), hI⟩ (by intro x hx; rcases List.mem_append.1 hx with h | h; exact twoB_lt _ x h; exact twoB_lt _ x h)
 exact ⟨D9, hD6.trans hD9, hI, hb⟩
theorem number21_spec {w0 w : World} {D : Sto} {ss : List Seg} (hI : Inv w0 D ss w) {vb : Value} {bs : List Nat} (hb : RB D vb bs) (hl : 2 ≤ bs.length) :
  Calls Tryd.prog 130 #[vb] w (Ret fun r w' => r = .int .i64 (numberP bs) ∧ Inv w0 D ss w') := by
 obtain ⟨A1, c2, rfl, _⟩ := hb.slice
 have hne : bs ≠ [] := by rintro rfl; simp at hl
 have l0 : bs.getD 0 0 < 256 := by rw [List.getD_eq_getElem?_getD, List.getElem?_eq_getElem (by omega)]; exact hb.lt _ (List.getElem_mem _)
 have l1 : bs.getD 1 0 < 256 := by rw [List.getD_eq_getElem?_getD, List.getElem?_eq_getElem (by omega)]; exact hb.lt _ (List.getElem_mem _)
 refine enter (N := 13) Tryd.func130 rfl rfl rfl ?_
 intro a hE
 refine wsr ?_
 refine za hE ?_; clear hE a; intro a hE
 refine wnt ?_
 refine wp_seq ?_
 refine d_start [] [] (by kernel_rfl) hI rfl rfl ?_
 clear hI w; intro w hI
 refine dp 0 hE rfl (p_move rfl) (fun _ => hI) (listed' := #[true, false, false, false, false, false, false, false, false, false, false]) ?_; clear hE a; intro a hE
 obtain ⟨b_3, o_3, cs_3, T_3, fr_3, rfl, hb_3, hc_3⟩ := hb.at_ (hne)
 refine dp 1 hE rfl (p_indexAddr rfl rfl Tryd.underlying22 sz_5 (by omega) (by omega) rfl) (fun _ => hI) ?_; clear hE a; intro a hE
 refine dl 2 hE rfl (fun w hS => r_load rfl scal_5 (Inv.data hS _ _ (hb_3)) (RB.cell hc_3 (by omega) (by omega))) (hI) ?_; clear hE a; intro a hE
 refine dp 3 hE rfl (p_int (z := ((bs.getD 0 0 : Nat) : Int)) Tryd.underlying5 Tryd.underlying3 rfl (by show IntKind.i64.wrap ((bs.getD 0 0 : Nat) : Int) = _; rw [IntKind.wrap_i64]; omega)) (fun _ => hI) ?_; clear hE a; intro a hE
 refine dp 4 hE rfl (p_shl (z := ((bs.getD 0 0 * 256 : Nat) : Int)) rfl rfl (by omega) (by show IntKind.i64.wrap (((bs.getD 0 0 : Nat) : Int) * 2 ^ min (8 : Int).toNat 64) = _; rw [show min (8 : Int).toNat 64 = 8 from rfl, IntKind.wrap_i64]; omega)) (fun _ => hI) ?_; clear hE a; intro a hE
 refine dp 5 hE rfl (p_move rfl) (fun _ => hI) ?_; clear hE a; intro a hE
 refine dp 6 hE rfl (p_indexAddr rfl rfl Tryd.underlying22 sz_5 (by omega) (by omega) rfl) (fun _ => hI) ?_; clear hE a; intro a hE
 refine dl 7 hE rfl (fun w hS => r_load rfl scal_5 (Inv.data hS _ _ (hb_3)) (RB.cell hc_3 (by omega) (by omega))) (hI) ?_; clear hE a; intro a hE
 refine dp 8 hE rfl (p_int (z := ((bs.getD 1 0 : Nat) : Int)) Tryd.underlying5 Tryd.underlying3 rfl (by show IntKind.i64.wrap ((bs.getD 1 0 : Nat) : Int) = _; rw [IntKind.wrap_i64]; omega)) (fun _ => hI) ?_; clear hE a; intro a hE
 refine dp 9 hE rfl (p_arith (z := ((bs.getD 0 0 * 256 + bs.getD 1 0 : Nat) : Int)) rfl rfl (or_bytes l0 l1)) (fun _ => hI) ?_; clear hE a; intro a hE
 refine dp 10 hE rfl (p_assign rfl) (fun _ => hI) ?_; clear hE a; intro a hE
 refine d_done (by kernel_rfl) ?_
 refine then_normal ?_
 refine wp_ret ?_
 refine ret1 rfl hE rfl ?_
 exact ⟨rfl, hI⟩
section
variable {P : Program} {ops : Array Oper} {Q : Exit → Act → World → Prop} {a : Act} {w0 w w' : World} {D : Sto} {ss : List Seg} {rest : List Oper} {o : Oper} {N : Nat} {env : Env} {K : Act → World → Prop}
theorem o_mark {t e b n c T d : Nat} {x : Operand} {cs : Array Value} (i : Nat) (hE : EnvOk N env a) (hI : Inv w0 D ss w) (hd : o.dst = some d) (hN : Nat.blt d N = true) (ho : o.op = .convert t t x) (hx : ev env x = some (.slice (some ⟨b, 0, none⟩) n c))
  (ht : P.underlying t = some (.slice e)) (he : P.underlying e = some (.int .u8)) (hi : ss[i]? = some [(b, .cells cs T (0, 0))])
  (k : ∀ w', Inv w0 D (ss.set i [(b, .cells cs T (cs.size, cs.size + 1))]) w' → ∀ a', EnvOk N ((d, .slice (some ⟨b, 0, none⟩) n c) :: env) a' → K a' w') : o.wp P a w K Q := by
 have hb := hI.seg i hi
 have hsh : w.shape? b = some (T, cs.size) := by simp [World.shape?, hb]
 have hfr : w.freeze ⟨b, cs.size, none⟩ 1 = { w with heap := w.heap.setIfInBounds b (.cells cs T (cs.size, cs.size + 1)) } := by
  unfold World.freeze
  rw [if_neg (by decide)]
  refine heap_ext fun j => ?_
  rw [Array.getElem?_modify]
  by_cases hj : b = j
  ·subst hj
   rw [Array.getElem?_setIfInBounds_self_of_lt (heap_lt hb)]
   simp [hb]
  rw [Array.getElem?_setIfInBounds_ne hj]
  simp [hj]
 have hrun : (execOp a.eval o).run P w = .ok (.value (.slice (some ⟨b, 0, none⟩) n c)) { w with heap := w.heap.setIfInBounds b (.cells cs T (cs.size, cs.size + 1)) } := by
  simp [execOp, ho, hE.eval hx, convert, run_underlying ht, run_underlying he, markStringish, hsh, hfr, shape, freeze, Sem.run]
 exact o_val hrun (by rw [hd]; exact k _ (hI.turn_at i hi) _ (hE.put hN _))
end
theorem RB.lit {D : Sto} {b T : Nat} {fr : Nat × Nat} {bs : List Nat} (h : ∀ x ∈ bs, x < 256) : RB (Sto.put D [(b, .cells (bytesV bs).toArray T fr)]) (.slice (some ⟨b, 0, none⟩) bs.length bs.length) bs :=
 ⟨_, _, rfl, Nat.le_refl _, h, fun h => (by cases h), fun _ => ⟨b, 0, _, T, fr, rfl, Sto.put_one _ _ _, fun i x hx => by rw [Nat.zero_add, List.getElem?_toArray]; exact bytesV_get hx⟩⟩
theorem name_spec {w0 w : World} {D : Sto} {ss : List Seg} (hI : Inv w0 D ss w) :
  Calls Tryd.prog 95 #[] w (Ret fun r w' => ∃ D', Le D D' ∧ Inv w0 D' ss w' ∧ RB D' r [110]) := by
 refine enter (N := 3) Tryd.func95 rfl rfl rfl ?_
 intro a hE
 refine wsr ?_
 refine za hE ?_; clear hE a; intro a hE
 refine wnt ?_
 refine wsr ?_
 refine l_step rfl (f_lit (vs := [(0, _)]) (l := [_]) hE hI rfl rfl rfl rfl Tryd.underlying22 zs_5 rfl rfl rfl ?_)
 clear hI hE a w; intro a b1 w hE hI
 refine l_step rfl (o_mark 0 hE hI rfl rfl rfl rfl Tryd.underlying22 Tryd.underlying5 rfl ?_)
 clear hE hI a w; intro w hI a hE
 refine za hE ?_; clear hE a; intro a hE
 refine wnt ?_
 refine wp_ret ?_
 refine ret1 rfl hE rfl ?_
 obtain ⟨h1, h2⟩ := hI.shut_at 0 rfl
 exact ⟨_, h2, h1, RB.lit (bs := [110]) (by simp)⟩
theorem findP_le : ∀ (es : Ens) (key : Bs), (findP es key).1 ≤ es.length
 | [], _ => Nat.le_refl _
 | e :: r, key => by
  have := findP_le r key
  simp only [findP]
  split <;> simp <;> omega
theorem child_spec {w0 w : World} {D : Sto} {ss : List Seg} (hI : Inv w0 D ss w) {vp vk : Value} {p : Pg} {key : List Nat} (hp : PgV D vp p) (hk : RB D vk key) :
  Calls Tryd.prog 105 #[vp, vk] w (Ret fun r w' => r = .int .i64 (childP p key : Nat) ∧ Inv w0 D ss w') := by
 obtain ⟨e1, rfl, he2, ho3⟩ := hp
 have hlen_p := ho3.len
 obtain ⟨A4, c5, rfl, _⟩ := he2.slice
 obtain ⟨A6, c7, rfl, _⟩ := hk.slice
 refine enter (N := 19) Tryd.func105 rfl rfl rfl ?_
 intro a hE
 refine wsr ?_
 refine l_step rfl (f_box (cs := #[_, _, _, _, _]) hE hI rfl rfl rfl rfl rfl ?_)
 clear hI hE a w; intro a b8 w hE hI
 refine za hE ?_; clear hE a; intro a hE
 refine wnt ?_
 refine wsr ?_
 refine zl hE (f_loadA (vs := [_, _, _, _, _]) rfl agg_83 (hI.seg 0 rfl) rfl rfl) ?_; clear hE a; intro a hE
 refine zm hE ?_; clear hE a; intro a hE
 refine l_step rfl (o_call hE rfl rfl rfl rfl ent_71 (Find_spec (p := p) hI ⟨_, rfl, he2, ho3⟩ hk) ?_)
 clear hI hE a
 rintro r w ⟨rfl, hI⟩ a hE
 have hfl := findP_le p.ents key
 obtain ⟨bf9, hbf10⟩ : ∃ b, (findP p.ents key).2 = b := ⟨_, rfl⟩
 rw [hbf10] at hE
 have hbf102 : bf9 = true ↔ (findP p.ents key).2 = true := by rw [hbf10]
 replace hbf10 := hbf102
 refine zm hE ?_; clear hE a; intro a hE
 refine zx hE ?_; clear hE a; intro a hE
 refine zx hE ?_; clear hE a; intro a hE
 refine za hE ?_; clear hE a; intro a hE
 refine za hE ?_; clear hE a; intro a hE
 refine wnt ?_
 refine wp_seq ?_
 refine wsr ?_
 refine zm hE ?_; clear hE a; intro a hE
 rcases Bool.eq_false_or_eq_true bf9 with rfl | rfl
 ·replace hbf10 := iff_t hbf10
  refine zs hE (p_not rfl) ?_; clear hE a; intro a hE
  refine wnt ?_
  refine c_false hE rfl ?_
  refine wp_skip ?_
  refine then_normal ?_
  refine wsr ?_
  refine zm hE ?_; clear hE a; intro a hE
  refine zs hE (p_max rfl rfl rfl) ?_; clear hE a; intro a hE
  refine za hE ?_; clear hE a; intro a hE
  refine wnt ?_
  refine wp_ret ?_
  refine ret1 rfl hE rfl ?_
  refine ⟨?_, hI.drop⟩
  simp only [childP]
  split <;> first | contradiction | (congr 1; omega)
 replace hbf10 := iff_f hbf10
 refine zs hE (p_not rfl) ?_; clear hE a; intro a hE
 refine wnt ?_
 refine c_true hE rfl ?_
 refine wp_region_list ?_
 refine zm hE ?_; clear hE a; intro a hE
 refine zs hE (p_arith (z := ((findP p.ents key).1 : Int) - 1) rfl rfl (sub_z rfl (by omega) (by omega))) ?_; clear hE a; intro a hE
 refine za hE ?_; clear hE a; intro a hE
 refine wnt ?_
 refine wsr ?_
 refine zm hE ?_; clear hE a; intro a hE
 refine zs hE (p_max rfl rfl rfl) ?_; clear hE a; intro a hE
 refine za hE ?_; clear hE a; intro a hE
 refine wnt ?_
 refine wp_ret ?_
 refine ret1 rfl hE rfl ?_
 refine ⟨?_, hI.drop⟩
 simp only [childP]
 split <;> first | contradiction | (congr 1; omega)
theorem at_spec {w0 w : World} {D : Sto} {ss : List Seg} (hI : Inv w0 D ss w) {ad : Nat → Addr} (hS : TSents D ad) {vp : Value} {p : Pg} (hp : PgV D vp p) (k : Int) :
  Calls Tryd.prog 106 #[vp, .int .i64 k] w (Ret fun r w' => (∃ i, atP p k = .ok i ∧ r = .tuple #[.int .i64 i, .nilIface] ∧ Inv w0 D ss w') ∨ (atP p k = .fail 103 none ∧ r = .tuple #[.int .i64 0, errV ad 103] ∧ Inv w0 D ss w')) := by
 obtain ⟨e1, rfl, he2, ho3⟩ := hp
 have hlen_p := ho3.len
 obtain ⟨A4, c5, rfl, _⟩ := he2.slice
 refine enter (N := 33) Tryd.func106 rfl rfl rfl ?_
 intro a hE
 refine wsr ?_
 refine l_step rfl (f_box (cs := #[_, _, _, _, _]) hE hI rfl rfl rfl rfl rfl ?_)
 clear hI hE a w; intro a b6 w hE hI
 refine za hE ?_; clear hE a; intro a hE
 refine za hE ?_; clear hE a; intro a hE
 refine wnt ?_
 refine wp_seq ?_
 refine wsr ?_
 refine zm hE ?_; clear hE a; intro a hE
 refine l_step rfl (o_cmp hE rfl rfl rfl rfl rfl rfl ?_ ?_)
 ·intro h1; replace h1 := lss_t h1; clear hE a; intro a hE
  refine zm hE ?_; clear hE a; intro a hE
  refine zk hE ?_; clear hE a; intro a hE
  refine zk hE ?_; clear hE a; intro a hE
  refine zk hE ?_; clear hE a; intro a hE
  refine zk hE ?_; clear hE a; intro a hE
  refine zk hE ?_; clear hE a; intro a hE
  refine zs hE (p_pick (b := true) rfl rfl) ?_; clear hE a; intro a hE
  refine zm hE ?_; clear hE a; intro a hE
  refine zk hE ?_; clear hE a; intro a hE
  refine zk hE ?_; clear hE a; intro a hE
  refine zk hE ?_; clear hE a; intro a hE
  refine zk hE ?_; clear hE a; intro a hE
  refine zk hE ?_; clear hE a; intro a hE
  refine zk hE ?_; clear hE a; intro a hE
  refine zk hE ?_; clear hE a; intro a hE
  refine zk hE ?_; clear hE a; intro a hE
  refine zs hE (p_pick (b := true) rfl rfl) ?_; clear hE a; intro a hE
  refine wnt ?_
  refine c_true hE rfl ?_
  refine wp_seq ?_
  refine d_start [] [] (by kernel_rfl) hI rfl rfl ?_
  clear hI w; intro w hI
  obtain ⟨T_7, fr_7, hg_7⟩ := hS.g103
  refine dl 0 hE rfl (fun w hS => f_load rfl scal_25 (Inv.data hS _ _ (hg_7)) rfl) (hI) (listed' := #[true, false, false]) ?_; clear hE a; intro a hE
  refine dp 1 hE rfl (p_assign rfl) (fun _ => hI) ?_; clear hE a; intro a hE
  refine dp 2 hE rfl (p_assign rfl) (fun _ => hI) ?_; clear hE a; intro a hE
  refine d_done (by kernel_rfl) ?_
  refine then_normal ?_
  refine wp_ret ?_
  refine then_ret ?_
  refine ret2 rfl hE rfl rfl ?_
  exact .inr ⟨by rw [atP, if_pos (by omega)], rfl, hI.drop⟩
 intro h1; replace h1 := lss_f h1; clear hE a; intro a hE
 refine zm hE ?_; clear hE a; intro a hE
 refine gs hE (p_move rfl) ?_; clear hE a; intro a hE
 refine gs hE (p_fieldAddr (m := 4) rfl fo_83_4 rfl) ?_; clear hE a; intro a hE
 refine gl hE (f_load rfl scal_65 (hI.seg 0 rfl) rfl) ?_; clear hE a; intro a hE
 refine gs hE (p_len rfl rfl Tryd.underlying65) ?_; clear hE a; intro a hE
 refine l_go hE rfl (o_cmp hE rfl rfl rfl rfl rfl rfl ?_ ?_)
 ·intro h2; replace h2 := geq_t h2; clear hE a; intro a hE
  refine zs hE (p_pick (b := false) rfl rfl) ?_; clear hE a; intro a hE
  refine zm hE ?_; clear hE a; intro a hE
  refine zk hE ?_; clear hE a; intro a hE
  refine zk hE ?_; clear hE a; intro a hE
  refine zk hE ?_; clear hE a; intro a hE
  refine zk hE ?_; clear hE a; intro a hE
  refine zk hE ?_; clear hE a; intro a hE
  refine zk hE ?_; clear hE a; intro a hE
  refine zk hE ?_; clear hE a; intro a hE
  refine zk hE ?_; clear hE a; intro a hE
  refine zs hE (p_pick (b := true) rfl rfl) ?_; clear hE a; intro a hE
  refine wnt ?_
  refine c_true hE rfl ?_
  refine wp_seq ?_
  refine d_start [] [] (by kernel_rfl) hI rfl rfl ?_
  clear hI w; intro w hI
  obtain ⟨T_8, fr_8, hg_8⟩ := hS.g103
  refine dl 0 hE rfl (fun w hS => f_load rfl scal_25 (Inv.data hS _ _ (hg_8)) rfl) (hI) (listed' := #[true, false, false]) ?_; clear hE a; intro a hE
  refine dp 1 hE rfl (p_assign rfl) (fun _ => hI) ?_; clear hE a; intro a hE
  refine dp 2 hE rfl (p_assign rfl) (fun _ => hI) ?_; clear hE a; intro a hE
  refine d_done (by kernel_rfl) ?_
  refine then_normal ?_
  refine wp_ret ?_
  refine then_ret ?_
  refine ret2 rfl hE rfl rfl ?_
  exact .inr ⟨by rw [atP, if_pos (by omega)], rfl, hI.drop⟩
 intro h2; replace h2 := geq_f h2; clear hE a; intro a hE
 refine zs hE (p_pick (b := false) rfl rfl) ?_; clear hE a; intro a hE
 refine zm hE ?_; clear hE a; intro a hE
 refine gs hE (p_fieldAddr (m := 4) rfl fo_83_4 rfl) ?_; clear hE a; intro a hE
 refine gl hE (f_load rfl scal_65 (hI.seg 0 rfl) rfl) ?_; clear hE a; intro a hE
 refine gs hE (p_move rfl) ?_; clear hE a; intro a hE
 obtain ⟨x_9, hx_9⟩ : ∃ y, (p.ents)[k.toNat]? = some y := ⟨_, List.getElem?_eq_getElem (by omega)⟩
 obtain ⟨b_9, o_9, cs_9, T_9, fr_9, rfl, hb_9, hat_9⟩ := he2.at_ (by intro h0; rw [h0] at hx_9; simp at hx_9)
 obtain ⟨vs_9, hl_9, ⟨k_9, v_9, rfl, hk_9, hv_9, hok_9⟩, hex_9, hsz_9, hce_9⟩ := hat_9.extract hx_9 (by omega)
 obtain ⟨A10, c11, rfl, _⟩ := hk_9.slice
 obtain ⟨A12, c13, rfl, _⟩ := hv_9.slice
 refine gs hE (p_indexAddr (m := o_9 + k.toNat * 2) rfl rfl Tryd.underlying65 sz_69 (by omega) (by omega) (by simp)) ?_; clear hE a; intro a hE
 refine gs hE (p_fieldAddr rfl fo_69_1 rfl) ?_; clear hE a; intro a hE
 refine gl hE (r_load rfl scal_22 (hI.data _ _ (hb_9)) (hce_9 1 _ rfl)) ?_; clear hE a; intro a hE
 refine gs hE (p_len rfl rfl Tryd.underlying22) ?_; clear hE a; intro a hE
 refine l_go hE rfl (o_cmp hE rfl rfl rfl rfl rfl rfl ?_ ?_)
 ·intro h3; replace h3 := neq_t h3; clear hE a; intro a hE
  refine zs hE (p_pick (b := false) rfl rfl) ?_; clear hE a; intro a hE
  refine wnt ?_
  refine c_true hE rfl ?_
  refine wp_seq ?_
  refine d_start [] [] (by kernel_rfl) hI rfl rfl ?_
  clear hI w; intro w hI
  obtain ⟨T_14, fr_14, hg_14⟩ := hS.g103
  refine dl 0 hE rfl (fun w hS => f_load rfl scal_25 (Inv.data hS _ _ (hg_14)) rfl) (hI) (listed' := #[true, false, false]) ?_; clear hE a; intro a hE
  refine dp 1 hE rfl (p_assign rfl) (fun _ => hI) ?_; clear hE a; intro a hE
  refine dp 2 hE rfl (p_assign rfl) (fun _ => hI) ?_; clear hE a; intro a hE
  refine d_done (by kernel_rfl) ?_
  refine then_normal ?_
  refine wp_ret ?_
  refine then_ret ?_
  refine ret2 rfl hE rfl rfl ?_
  exact .inr ⟨by rw [atP, if_neg (by omega), show p.ents.getD k.toNat ([], []) = x_9 by rw [List.getD_eq_getElem?_getD, hx_9]; rfl, if_pos (by omega)], rfl, hI.drop⟩
 intro h3; replace h3 := neq_f h3; clear hE a; intro a hE
 refine zs hE (p_pick (b := false) rfl rfl) ?_; clear hE a; intro a hE
 refine wnt ?_
 refine c_false hE rfl ?_
 refine wp_skip ?_
 refine then_normal ?_
 refine wsr ?_
 refine zs hE (p_fieldAddr (m := 4) rfl fo_83_4 rfl) ?_; clear hE a; intro a hE
 refine zl hE (f_load rfl scal_65 (hI.seg 0 rfl) rfl) ?_; clear hE a; intro a hE
 refine zm hE ?_; clear hE a; intro a hE
 refine zs hE (p_indexAddr (m := o_9 + k.toNat * 2) rfl rfl Tryd.underlying65 sz_69 (by omega) (by omega) (by simp)) ?_; clear hE a; intro a hE
 refine zs hE (p_fieldAddr rfl fo_69_1 rfl) ?_; clear hE a; intro a hE
 refine zl hE (r_load rfl scal_22 (hI.data _ _ (hb_9)) (hce_9 1 _ rfl)) ?_; clear hE a; intro a hE
 refine l_step rfl (o_call hE rfl rfl rfl rfl ent_130 (number21_spec (bs := x_9.2) hI hv_9 (by omega)) ?_)
 clear hI hE a
 rintro r w ⟨rfl, hI⟩ a hE
 refine za hE ?_; clear hE a; intro a hE
 refine za hE ?_; clear hE a; intro a hE
 refine wnt ?_
 refine wp_ret ?_
 refine ret2 rfl hE rfl rfl ?_
 exact .inl ⟨_, by rw [atP, if_neg (by omega), show p.ents.getD k.toNat ([], []) = x_9 by rw [List.getD_eq_getElem?_getD, hx_9]; rfl, if_neg (by omega)], rfl, hI.drop⟩
end Go.Proofs.YtbogbnkckofpdaaDoor.B
