/- What functions of the program compute, each function once: steps over the model, and the plain law of it. -/
import Derived.Test.YtbogbnkckofpdaaDoorTTree6
import Derived.Test.YtbogbnkckofpdaaDoorSOrow
namespace Go.Proofs.YtbogbnkckofpdaaDoor.B
open Go Go.Proofs
set_option linter.unusedVariables false
set_option linter.unusedSimpArgs false
set_option maxRecDepth 20000
set_option maxHeartbeats 8000000
namespace FTTree7
theorem agg_69 : aggSize Tryd.prog 69 = some 2 := by kernel_rfl
theorem agg_83 : aggSize Tryd.prog 83 = some 5 := by kernel_rfl
theorem built_88 : ∀ vs, Tryd.prog.built 88 vs = Instr.fill (([(0, 1), (1, 1), (2, 1), (3, 1), (4, 1), (5, 1), (6, 1), (7, 1), (8, 1), (9, 1)] : List (Nat × Nat)).toArray[·]?) ([.int .i64 0, .int .i64 0, .int .i64 0, .int .i64 0, .int .i64 0, .int .i64 0, .int .i64 0, .slice none 0 0, .slice none 0 0, .bool false] : List Value).toArray vs := fun _ => by kernel_rfl
theorem ent_100 : enters Tryd.prog 100 = true := by kernel_rfl
theorem ent_106 : enters Tryd.prog 106 = true := by kernel_rfl
theorem ent_107 : enters Tryd.prog 107 = true := by kernel_rfl
theorem ent_124 : enters Tryd.prog 124 = true := by kernel_rfl
theorem ent_125 : enters Tryd.prog 125 = true := by kernel_rfl
theorem ent_69 : enters Tryd.prog 69 = true := by kernel_rfl
theorem ent_70 : enters Tryd.prog 70 = true := by kernel_rfl
theorem ent_71 : enters Tryd.prog 71 = true := by kernel_rfl
theorem ent_72 : enters Tryd.prog 72 = true := by kernel_rfl
theorem ent_73 : enters Tryd.prog 73 = true := by kernel_rfl
theorem ent_74 : enters Tryd.prog 74 = true := by kernel_rfl
theorem ent_88 : enters Tryd.prog 88 = true := by kernel_rfl
theorem ent_99 : enters Tryd.prog 99 = true := by kernel_rfl
theorem fo_69_0 : fieldOff Tryd.prog 69 0 = some 0 := by kernel_rfl
theorem fo_69_1 : fieldOff Tryd.prog 69 1 = some 1 := by kernel_rfl
theorem fo_83_0 : fieldOff Tryd.prog 83 0 = some 0 := by kernel_rfl
theorem fo_83_3 : fieldOff Tryd.prog 83 3 = some 3 := by kernel_rfl
theorem fo_83_4 : fieldOff Tryd.prog 83 4 = some 4 := by kernel_rfl
theorem scal_22 : isScal Tryd.prog 22 = true := by kernel_rfl
theorem scal_25 : isScal Tryd.prog 25 = true := by kernel_rfl
theorem scal_3 : isScal Tryd.prog 3 = true := by kernel_rfl
theorem scal_65 : isScal Tryd.prog 65 = true := by kernel_rfl
theorem sz_3 : (Tryd.prog.info? 3).map (·.size) = some 1 := by kernel_rfl
theorem sz_69 : (Tryd.prog.info? 69).map (·.size) = some 2 := by kernel_rfl
theorem sz_83 : (Tryd.prog.info? 83).map (·.size) = some 5 := by kernel_rfl
theorem zer_69 : (Tryd.prog.info? 69).bind (·.zero) = some (.agg #[.slice none 0 0, .slice none 0 0]) := by kernel_rfl
theorem zer_83 : (Tryd.prog.info? 83).bind (·.zero) = some (.agg #[.int .i64 0, .int .i64 0, .int .i64 0, .int .i64 0, .slice none 0 0]) := by kernel_rfl
theorem zs_3 : (Tryd.prog.info? 3).map (fun i => (i.zero, i.size)) = some (some (.int .i64 0), 1) := by kernel_rfl
theorem zs_83 : (Tryd.prog.info? 83).map (fun i => (i.zero, i.size)) = some (some (.agg #[.int .i64 0, .int .i64 0, .int .i64 0, .int .i64 0, .slice none 0 0]), 5) := by kernel_rfl
theorem zs_88 : (Tryd.prog.info? 88).map (fun i => (i.zero, i.size)) = some (some (.agg #[.int .i64 0, .int .i64 0, .int .i64 0, .int .i64 0, .int .i64 0, .int .i64 0, .int .i64 0, .slice none 0 0, .slice none 0 0, .bool false]), 10) := by kernel_rfl
theorem zsb_83 : (Tryd.prog.info? 83).map (fun i => (i.zero, i.size, i.bytes)) = some (some (.agg #[.int .i64 0, .int .i64 0, .int .i64 0, .int .i64 0, .slice none 0 0]), 5, 56) := by kernel_rfl
end FTTree7
open FTTree7
theorem c_cutE {X : Type} {P : Program} {Q : Exit → Act → World → Prop} {N : Nat} {env : Env} {a : Act} {w : World} {x y : Code} (slots : List Nat) (en : X → Env) (W : X → World → Prop) (hE : EnvOk N env a)
  (h : x.wp P (Exit.then (fun a' w' => ∃ z, EnvOk N (en z ++ pick env slots) a' ∧ W z w') Q) a w)
  (k : ∀ z a' w', EnvOk N (en z ++ pick env slots) a' → W z w' → y.wp P Q a' w') : (Code.seq x y).wp P Q a w :=
 wp_seq (wp_mono h fun e a' w' q => by
  cases e <;> first | exact q | (obtain ⟨b, hE', hW⟩ := q; exact k b a' w' hE' hW))
theorem insR_len (id : Int) : ∀ (l : Ens) (i : Nat), (insR id i l).length = l.length
 | [], _ => rfl
 | e :: r, i => by simp [insR, insR_len id r (i + 1)]
theorem ins_at {b : Bt} {id : Int} {l : Ens} {i n : Nat} {e : Bs × Bs} (hx : l[i]? = some e) : b.all (insR id (n + i) (l.drop i)) =
  match b.doR { page := id, kind := 2, slot := ((n + i : Nat) : Int), key := e.1, val := e.2 } with
  | .fail c o => .fail c o
  | .ok b => b.all (insR id (n + (i + 1)) (l.drop (i + 1))) := by
 obtain ⟨h1, h2⟩ := List.getElem?_eq_some_iff.1 hx
 rw [List.drop_eq_getElem_cons h1, h2, insR, Bt.all]
 cases b.doR _ <;> rfl
theorem join_ext {b b' : Bt} {p : Pg} {k : Int} (h : b.join p k = .ok b') : Ext b b' ∧ b'.recs.length ≤ b.recs.length + 11 := by
 rw [Bt.join] at h
 split at h
 ·injection h with h; subst h; exact ⟨Ext.refl _, by omega⟩
 simp only [] at h
 split at h
 ·cases h
 split at h
 ·cases h
 split at h
 ·cases h
 split at h
 ·cases h
 split at h
 ·injection h with h; subst h; exact ⟨Ext.refl _, by omega⟩
 rename_i hle
 split at h
 ·cases h
 rename_i h1; have e1 := all_ext _ h1
 split at h
 ·cases h
 rename_i h2; have e2 := all_ext _ h2
 have e3 := free_ext h
 have l1 := e1.2; have l2 := e2.2; have l3 := e3.2
 rw [insR_len] at l1
 simp only [List.length_cons, List.length_nil] at l2
 exact ⟨e1.1.trans (e2.1.trans e3.1), by omega⟩
def kkP (p : Pg) (k : Nat) : Nat := if k + 1 = p.ents.length then k - 1 else k
theorem kkP_le (p : Pg) (k : Nat) : kkP p k ≤ k := by rw [kkP]; split <;> omega
def Bt.pickF (b : Bt) (p : Pg) : List Nat → List Pg → Res (List Pg)
 | [], l => .ok l
 | k :: r, l => match atP p (k : Nat) with
  | .fail c o => .fail c o
  | .ok i => match b.page i with
   | .fail c o => .fail c o
   | .ok x => b.pickF p r (l ++ [x])
theorem pick_at {b : Bt} {p : Pg} {ks : List Nat} {i k : Nat} {l : List Pg} (hx : ks[i]? = some k) : b.pickF p (ks.drop i) l = match atP p (k : Nat) with
  | .fail c o => .fail c o
  | .ok i' => match b.page i' with
   | .fail c o => .fail c o
   | .ok x => b.pickF p (ks.drop (i + 1)) (l ++ [x]) := by
 obtain ⟨h1, h2⟩ := List.getElem?_eq_some_iff.1 hx
 rw [List.drop_eq_getElem_cons h1, h2, Bt.pickF]
def nextP (y : Pg) : Int := if y.next = -1 then 256 else y.next
def Bt.joinL (b : Bt) (p : Pg) (k : Nat) (x y : Pg) : Res Bt :=
 if 6 < x.ents.length + y.ents.length then .ok b else
  match b.all (insR x.id x.ents.length y.ents) with
  | .fail c o => .fail c o
  | .ok b => match b.all [{ page := x.id, kind := 5, slot := nextP y }, { page := p.id, kind := 3, slot := ((k + 1 : Nat) : Int) }] with
   | .fail c o => .fail c o
   | .ok b => b.free y.id
theorem join_eq {b : Bt} {p : Pg} {k : Nat} (h : 2 ≤ p.ents.length) : b.join p (k : Nat) = match b.pickF p [kkP p k, kkP p k + 1] [] with
  | .fail c o => .fail c o
  | .ok l => b.joinL p (kkP p k) (l.getD 0 (newPg 0)) (l.getD 1 (newPg 0)) := by
 have hk : (if (k : Int) + 1 = (p.ents.length : Nat) then (k : Int) - 1 else k) = ((kkP p k : Nat) : Int) := by
  rw [kkP]; split <;> split <;> omega
 rw [Bt.join, if_neg (by omega)]
 have h1 : ((kkP p k + 1 : Nat) : Int) = ((kkP p k : Nat) : Int) + 1 := by omega
 simp only [hk, Bt.pickF, h1]
 cases atP p ((kkP p k : Nat) : Int) with
 | fail c o => rfl
 | ok i =>
  simp only []
  cases b.page i with
  | fail c o => rfl
  | ok x =>
   simp only []
   cases atP p (((kkP p k : Nat) : Int) + 1) with
   | fail c o => rfl
   | ok j =>
    simp only []
    cases b.page j with
    | fail c o => rfl
    | ok y => rfl
theorem DR.na2 {D : Sto} {b k j : Nat} {w0 w : World} {ss : List Seg} (i : Nat) (hI : Inv w0 D ss w) (hi : ss[i]? = some [(b, .cells #[.int .i64 k, .int .i64 j] 3 (0, 0))]) :
  ∃ D' ks v, Le D D' ∧ ks = [k, j] ∧ v = .slice (some ⟨b, 0, none⟩) 2 2 ∧ Inv w0 D' (ss.eraseIdx i) w ∧ DR 1 NaR D' v ks := by
 obtain ⟨h1, h2⟩ := hI.shut_at i hi
 exact ⟨_, _, _, h2, rfl, rfl, h1, OR.shut NaR.keeps (OR.ofAt (T := 3) rfl (Nat.le_refl _) (by simp [maxLen]) rfl (At.lit2 (v1 := [.int .i64 k]) (v2 := [.int .i64 j]) rfl rfl rfl rfl)) h2⟩
theorem downF_ks {b : Bt} {key : Bs} : ∀ (n : Nat) (id : Int) (l : List Pg) (ks : List Nat) {l' : List Pg} {ks' : List Nat}, b.downF key n id l ks = .ok (l', ks') → l.length = ks.length → (∀ (i k : Nat) (x : Pg), ks[i]? = some k → l[i]? = some x → k = childP x key) → ∀ (i k : Nat) (x : Pg), ks'[i]? = some k → l'[i]? = some x → k = childP x key
 | 0, id, l, ks, l', ks', h, _, _ => by simp [Bt.downF] at h
 | n + 1, id, l, ks, l', ks', h, hl, hk => by
  rw [Bt.downF] at h
  split at h
  ·cases h
  rename_i x hx
  split at h
  ·injection h with h; injection h with h1 h2; subst h1; subst h2
   intro i k y h1 h2
   obtain ⟨h3, _⟩ := List.getElem?_eq_some_iff.1 h1
   rw [List.getElem?_append_left (by omega)] at h2
   exact hk i k y h1 h2
  split at h
  ·cases h
  refine downF_ks n _ _ _ h (by simp [hl]) ?_
  intro i k y h1 h2
  by_cases hi : i < ks.length
  ·rw [List.getElem?_append_left hi] at h1; rw [List.getElem?_append_left (by omega)] at h2
   exact hk i k y h1 h2
  obtain ⟨h3, _⟩ := List.getElem?_eq_some_iff.1 h1
  simp only [List.length_append, List.length_cons, List.length_nil] at h3
  obtain rfl : i = ks.length := by omega
  rw [List.getElem?_append_right (by omega)] at h1
  rw [List.getElem?_append_right (by omega)] at h2
  simp only [Nat.sub_self, hl, List.getElem?_cons_zero, Option.some.injEq] at h1 h2
  rw [← h1, ← h2]
theorem down_ks {b : Bt} {key : Bs} {l : List Pg} {ks : List Nat} (h : b.down key = .ok (l, ks)) {i k : Nat} {x : Pg} (h1 : ks[i]? = some k) (h2 : l[i]? = some x) : k ≤ x.ents.length := by
 have := downF_ks _ _ _ _ h rfl (by simp) i k x h1 h2
 rw [this]; exact childP_le x key
theorem join_spec {w0 w : World} {D : Sto} {ss : List Seg} {s : Seg} {vb vp : Value} {b : Bt} {P : Pl} (hI : Inv w0 D (s :: ss) w) {ad : Nat → Addr} (hS : TSents D ad) (hT : TreeS D vb vp b P s) {vq : Value} {p : Pg} (hp : PgV D vq p) {k : Nat} (hk1 : k ≤ 1000) (hlen : b.recs.length ≤ 1000000000 - 2000) :
  Calls Tryd.prog 99 #[vb, vq, .int .i64 (k : Nat)] w (Ret fun r w' => (∃ b', b.join p (k : Nat) = .ok b' ∧ r = .nilIface ∧ ∃ D' s', Le D D' ∧ TreeS D' vb vp b' P s' ∧ Inv w0 D' (s' :: ss) w') ∨ (∃ c o, b.join p (k : Nat) = .fail c o ∧ r = errV ad c ∧ ∃ b' D' s', Ext b b' ∧ Le D D' ∧ TreeS D' vb vp b' (P.after o) s' ∧ Inv w0 D' (s' :: ss) w')) := by
 obtain ⟨e1, rfl, he2, ho3⟩ := hp
 have hlen_p := ho3.len
 obtain ⟨A4, c5, rfl, _⟩ := he2.slice
 refine enter (N := 129) Tryd.func99 rfl rfl rfl ?_
 intro a hE
 refine wsr ?_
 refine l_step rfl (f_box (cs := #[_, _, _, _, _]) hE hI rfl rfl rfl rfl rfl ?_)
 clear hI hE a w; intro a b6 w hE hI
 refine za hE ?_; clear hE a; intro a hE
 refine wnt ?_
 refine wp_seq ?_
 refine wsr ?_
 refine zs hE (p_fieldAddr (m := 4) rfl fo_83_4 rfl) ?_; clear hE a; intro a hE
 refine zl hE (f_load rfl scal_65 (hI.seg 0 rfl) rfl) ?_; clear hE a; intro a hE
 refine zs hE (p_len rfl rfl Tryd.underlying65) ?_; clear hE a; intro a hE
 refine l_step rfl (o_cmp hE rfl rfl rfl rfl rfl rfl ?_ ?_)
 ·intro hl2; replace hl2 := lss_t hl2; clear hE a; intro a hE
  refine wnt ?_
  refine c_true hE rfl ?_
  refine wsr ?_
  refine za hE ?_; clear hE a; intro a hE
  refine wnt ?_
  refine wp_ret ?_
  refine then_ret ?_
  refine ret1 rfl hE rfl ?_
  replace hI := hI.erase 0
  exact .inl ⟨b, by rw [Bt.join, if_pos (by omega)], rfl, _, _, (Le.refl _), hT, hI⟩
 intro hl2; replace hl2 := lss_f hl2; clear hE a; intro a hE
 refine wnt ?_
 refine c_false hE rfl ?_
 refine wp_skip ?_
 refine then_normal ?_
 replace hI := hI.bring 1
 refine c_cutE (X := Nat) [0, 4] (fun x => [(2, .int .i64 (x : Nat))]) (fun x w => x = kkP p k ∧ Inv w0 D (s :: [(b6, .cells #[.int .i64 p.id, .int .i64 p.lsn, .int .i64 p.level, .int .i64 p.next, .slice A4 (p.ents).length c5] 83 (0, 0))] :: ss) w) hE ?_ ?_
 ·skip
  refine wsr ?_
  refine zm hE ?_; clear hE a; intro a hE
  refine zs hE (p_arith (z := ((k + 1 : Nat) : Int)) rfl rfl (add_z (by omega) (by omega) (by omega))) ?_; clear hE a; intro a hE
  refine zs hE (p_fieldAddr (m := 4) rfl fo_83_4 rfl) ?_; clear hE a; intro a hE
  refine zl hE (f_load rfl scal_65 (hI.seg 1 rfl) rfl) ?_; clear hE a; intro a hE
  refine zs hE (p_len rfl rfl Tryd.underlying65) ?_; clear hE a; intro a hE
  refine l_step rfl (o_cmp hE rfl rfl rfl rfl rfl rfl ?_ ?_)
  ·intro hke; replace hke := eql_t hke; clear hE a; intro a hE
   refine wnt ?_
   refine c_true hE rfl ?_
   refine wp_region_list ?_
   refine zm hE ?_; clear hE a; intro a hE
   refine zs hE (p_arith (z := ((k - 1 : Nat) : Int)) rfl rfl (sub_z (by omega) (by omega) (by omega))) ?_; clear hE a; intro a hE
   refine za hE ?_; clear hE a; intro a hE
   refine wnt ?_
   exact ⟨(k - 1), hE.pick [2, 0, 4], ⟨by rw [kkP, if_pos (by omega)], hI⟩⟩
  intro hke; replace hke := eql_f hke; clear hE a; intro a hE
  refine wnt ?_
  refine c_false hE rfl ?_
  refine wp_skip ?_
  refine then_normal ?_
  exact ⟨k, hE.pick [2, 0, 4], ⟨by rw [kkP, if_neg (by omega)], hI⟩⟩
 clear hE hI a w; rintro z9 a w hE ⟨hz9, hI⟩
 try dsimp only at hE
 try dsimp only at hz9
 try dsimp only at hI
 replace hE : EnvOk 129 [(2, _), (0, _), (4, _)] a := hE
 have hkk := kkP_le p k
 subst hz9
 have hj := join_eq (b := b) (p := p) (k := k) (by omega)
 refine wsr ?_
 refine za hE ?_; clear hE a; intro a hE
 refine wnt ?_
 refine wp_seq ?_
 refine wsr ?_
 refine zm hE ?_; clear hE a; intro a hE
 refine zm hE ?_; clear hE a; intro a hE
 refine zs hE (p_arith (z := ((kkP p k + 1 : Nat) : Int)) rfl rfl (add_z (by omega) (by omega) (by omega))) ?_; clear hE a; intro a hE
 refine l_step rfl (f_lit (vs := [(0, _), (1, _)]) (l := [_, _]) hE hI rfl rfl rfl rfl Tryd.underlying97 zs_3 rfl rfl rfl ?_)
 clear hI hE a w; intro a b7 w hE hI
 refine zs hE (p_len rfl rfl Tryd.underlying97) ?_; clear hE a; intro a hE
 refine zm hE ?_; clear hE a; intro a hE
 refine wnt ?_
 refine wp_block ?_
 obtain ⟨Dk, ks, vks, hDk, hks, hvks, hIk, hK⟩ := DR.na2 0 hI rfl
 replace hI := hIk
 clear hIk
 try simp only [nrm, Value.cells] at hI
 rw [← hvks] at hE
 have hkl : ks.length = 2 := by rw [hks]; rfl
 clear hvks
 obtain ⟨A8, c9, rfl, _⟩ := hK.slice
 replace hI := hI.nilseg
 replace hI := hI.bring 1
 refine c_loop (X := Sto × Nat × List Pg × Value × Seg) (fun x => [(0, _), (4, _), (2, _), (35, _), (36, _), (7, x.2.2.2.1), (37, .int .i64 (x.2.1 : Nat))]) (fun x w => x.2.1 ≤ 2 ∧ Le Dk x.1 ∧ b.pickF p ks [] = b.pickF p (ks.drop x.2.1) x.2.2.1 ∧ x.2.2.1.length = x.2.1 ∧ OR 5 PgR x.1 83 x.2.2.2.1 x.2.2.1 x.2.2.2.2 ∧ TreeS x.1 vb vp b P s ∧ Inv w0 x.1 (s :: x.2.2.2.2 :: [(b6, .cells #[.int .i64 p.id, .int .i64 p.lsn, .int .i64 p.level, .int .i64 p.next, .slice A4 (p.ents).length c5] 83 (0, 0))] :: ss) w) (fun x => 2 - x.2.1) (Dk, 0, [], .slice none 0 0, []) (hE.pick [0, 4, 2, 35, 36, 7, 37]) ⟨Nat.zero_le _, Le.refl _, rfl, rfl, OR.nil _ _ _ _, (hT.mono hDk), hI⟩ ?_
 clear hE hI a w
 rintro ⟨D1, i, l, vl, sl⟩ a w hE ⟨hi, hD1, heq, hll, hOl, hT1, hI⟩
 try dsimp only at hE
 try dsimp only at hi
 try dsimp only at hD1
 try dsimp only at heq
 try dsimp only at hll
 try dsimp only at hOl
 try dsimp only at hT1
 try dsimp only at hI
 obtain ⟨A10, c11, rfl, _⟩ := hOl.slice
 refine wsr ?_
 refine l_step rfl (o_cmp hE rfl rfl rfl rfl rfl rfl ?_ ?_)
 ·intro hlt; replace hlt := lss_t hlt; clear hE a; intro a hE
  refine wnt ?_
  refine wp_seq ?_
  refine c_true hE rfl ?_
  refine wp_skip ?_
  refine then_normal ?_
  refine wp_seq ?_
  refine wp_block ?_
  refine wsr ?_
  obtain ⟨x_12, hx_12⟩ : ∃ z9, (ks)[i]? = some z9 := ⟨_, List.getElem?_eq_getElem (by omega)⟩
  obtain ⟨b_12, o_12, cs_12, T_12, fr_12, hA_12, hb_12, hat_12⟩ := hK.at_ (by intro h0; rw [h0] at hx_12; simp at hx_12)
  subst hA_12
  obtain ⟨vs_12, hl_12, rfl, hex_12, hsz_12, hce_12⟩ := hat_12.extract hx_12 (by omega)
  refine zs hE (p_indexAddr (m := o_12 + i * 1) rfl rfl Tryd.underlying97 sz_3 (by omega) (by omega) (by simp)) ?_; clear hE a; intro a hE
  refine zl hE (r_load rfl scal_3 (hI.data _ _ (hD1 _ _ (hb_12))) (hce_12 0 _ rfl)) ?_; clear hE a; intro a hE
  refine za hE ?_; clear hE a; intro a hE
  refine wnt ?_
  refine wsr ?_
  refine zl hE (f_loadA (vs := [_, _, _, _, _]) rfl agg_83 (hI.seg 2 rfl) rfl rfl) ?_; clear hE a; intro a hE
  refine zm hE ?_; clear hE a; intro a hE
  refine l_step rfl (o_call hE rfl rfl rfl rfl ent_106 (at_spec (p := p) hI (hS.mono (hDk.trans hD1)) ⟨_, rfl, (DR.mono EnR.keeps he2 (hDk.trans hD1)), ho3⟩ ((x_12 : Nat))) ?_)
  clear hI hE a
  rintro r w h a hE; rcases h with ⟨id13, hx14, rfl, hI⟩ | ⟨hx15, rfl, hI⟩
  ·skip
   refine zm hE ?_; clear hE a; intro a hE
   refine zx hE ?_; clear hE a; intro a hE
   refine zx hE ?_; clear hE a; intro a hE
   refine za hE ?_; clear hE a; intro a hE
   refine za hE ?_; clear hE a; intro a hE
   refine wnt ?_
   refine wp_seq ?_
   refine wsr ?_
   refine zm hE ?_; clear hE a; intro a hE
   refine zs hE (p_ifaceNil Tryd.underlying25 rfl rfl rfl) ?_; clear hE a; intro a hE
   refine wnt ?_
   refine c_false hE rfl ?_
   refine wp_skip ?_
   refine then_normal ?_
   refine wsr ?_
   refine zm hE ?_; clear hE a; intro a hE
   refine zm hE ?_; clear hE a; intro a hE
   refine l_step rfl (o_call hE rfl rfl rfl rfl ent_88 (page_spec hI (hS.mono (hDk.trans hD1)) hT1 (id13)) ?_)
   clear hI hE a
   rintro r w h a hE; rcases h with ⟨x16, hx17, D18, e19, hD20, rfl, he21, ho22, hT23, hI⟩ | ⟨c24, o25, hx17, rfl, s26, hT23, hI⟩
   ·skip
    have hlen_x16 := ho22.len
    obtain ⟨A27, c28, rfl, _⟩ := he21.slice
    refine zm hE ?_; clear hE a; intro a hE
    refine zx hE ?_; clear hE a; intro a hE
    refine zx hE ?_; clear hE a; intro a hE
    refine l_step rfl (f_alloc (cs := #[.int .i64 0, .int .i64 0, .int .i64 0, .int .i64 0, .slice none 0 0]) hE hI rfl rfl rfl zer_83 rfl ?_)
    clear hI hE a w; intro a b29 w hE hI
    refine l_step rfl (f_store (l := [_, _, _, _, _]) (ss' := _ :: _) 0 hE hI rfl rfl rfl rfl rfl sz_83 (by simp [Value.cells, Value.oneCell', pgCells, rcCells, zPg]) rfl rfl rfl ?_)
    clear hI w; intro w hI
    refine za hE ?_; clear hE a; intro a hE
    refine wnt ?_
    refine wp_seq ?_
    refine wsr ?_
    refine zm hE ?_; clear hE a; intro a hE
    refine zs hE (p_ifaceNil Tryd.underlying25 rfl rfl rfl) ?_; clear hE a; intro a hE
    refine wnt ?_
    refine c_false hE rfl ?_
    refine wp_skip ?_
    refine then_normal ?_
    refine wp_region_list ?_
    refine zm hE ?_; clear hE a; intro a hE
    refine zl hE (f_loadA (vs := [_, _, _, _, _]) rfl agg_83 (hI.seg 0 rfl) rfl rfl) ?_; clear hE a; intro a hE
    refine l_step rfl (f_lit (vs := [(0, _)]) (l := [_, _, _, _, _]) hE hI rfl rfl rfl rfl Tryd.underlying121 zs_83 rfl rfl rfl ?_)
    clear hI hE a w; intro a b30 w hE hI
    refine l_step rfl (o_appendOR (R := PgR) (el := x16) 3 0 hE hI rfl rfl rfl rfl rfl Tryd.underlying121 zsb_83 rfl rfl rfl (OR.mono PgR.keeps hOl hD20) rfl rfl (⟨_, rfl, he21, ho22⟩) (by simp [Value.oneCell']) (by omega) (by omega) ?_)
    clear hI hE a w; intro v31 s32 w hO33 hI a hE
    obtain ⟨A34, c35, rfl, _⟩ := hO33.slice
    replace hI := hI.erase 0
    try simp only [nrm, Value.cells] at hI
    refine za hE ?_; clear hE a; intro a hE
    refine wpList_nil ?_
    refine blk_normal ?_
    refine then_normal ?_
    refine wp_region_list ?_
    refine zs hE (p_arith (z := ((i + 1 : Nat) : Int)) rfl rfl (add_z (by omega) (by omega) (by omega))) ?_; clear hE a; intro a hE
    refine zm hE ?_; clear hE a; intro a hE
    refine wnt ?_
    replace hI := hI.erase 0
    exact ⟨(D18, i + 1, l ++ [x16], _, _), hE.pick [0, 4, 2, 35, 36, 7, 37], ⟨by show i + 1 ≤ _; omega, (hD1.trans hD20), heq.trans (by simp only [pick_at hx_12, hx14, hx17]), by show (l ++ [_]).length = i + 1; simp [hll], hO33, hT23, hI⟩, by show 2 - (i + 1) < 2 - i; omega⟩
   refine zm hE ?_; clear hE a; intro a hE
   refine zx hE ?_; clear hE a; intro a hE
   refine zx hE ?_; clear hE a; intro a hE
   refine l_step rfl (f_alloc (cs := #[.int .i64 0, .int .i64 0, .int .i64 0, .int .i64 0, .slice none 0 0]) hE hI rfl rfl rfl zer_83 rfl ?_)
   clear hI hE a w; intro a b36 w hE hI
   refine l_step rfl (f_store (l := [_, _, _, _, _]) (ss' := _ :: _) 0 hE hI rfl rfl rfl rfl rfl sz_83 (by simp [Value.cells, Value.oneCell', pgCells, rcCells, zPg]) rfl rfl rfl ?_)
   clear hI w; intro w hI
   refine za hE ?_; clear hE a; intro a hE
   refine wnt ?_
   refine wp_seq ?_
   refine wsr ?_
   refine zm hE ?_; clear hE a; intro a hE
   refine zs hE (p_ifaceNil Tryd.underlying25 rfl rfl rfl) ?_; clear hE a; intro a hE
   refine wnt ?_
   refine c_true hE rfl ?_
   refine wsr ?_
   refine zm hE ?_; clear hE a; intro a hE
   refine za hE ?_; clear hE a; intro a hE
   refine wnt ?_
   refine wp_ret ?_
   refine then_ret ?_
   refine blk_ret ?_
   refine then_ret ?_
   refine then_ret ?_
   refine blk_ret ?_
   refine then_ret ?_
   refine ret1 rfl hE rfl ?_
   replace hI := hI.erase 3
   replace hI := hI.erase 2
   replace hI := hI.erase 0
   exact .inr ⟨_, o25, hj.trans (by rw [← hks, heq]; simp only [pick_at hx_12, hx14, hx17]), rfl, _, _, _, Ext.refl _, (hDk.trans hD1), hT23, hI⟩
  refine zm hE ?_; clear hE a; intro a hE
  refine zx hE ?_; clear hE a; intro a hE
  refine zx hE ?_; clear hE a; intro a hE
  refine za hE ?_; clear hE a; intro a hE
  refine za hE ?_; clear hE a; intro a hE
  refine wnt ?_
  refine wp_seq ?_
  refine wsr ?_
  refine zm hE ?_; clear hE a; intro a hE
  refine zs hE (p_ifaceNil Tryd.underlying25 rfl rfl rfl) ?_; clear hE a; intro a hE
  refine wnt ?_
  refine c_true hE rfl ?_
  refine wsr ?_
  refine zm hE ?_; clear hE a; intro a hE
  refine za hE ?_; clear hE a; intro a hE
  refine wnt ?_
  refine wp_ret ?_
  refine then_ret ?_
  refine blk_ret ?_
  refine then_ret ?_
  refine then_ret ?_
  refine blk_ret ?_
  refine then_ret ?_
  refine ret1 rfl hE rfl ?_
  replace hI := hI.erase 2
  replace hI := hI.erase 1
  exact .inr ⟨_, none, hj.trans (by rw [← hks, heq]; simp only [pick_at hx_12, hx15]), rfl, _, _, _, Ext.refl _, (hDk.trans hD1), hT1, hI⟩
 intro hlt; replace hlt := lss_f hlt; clear hE a; intro a hE
 refine wnt ?_
 refine wp_seq ?_
 refine c_false hE rfl ?_
 refine wp_exit ?_
 refine then_exit ?_
 refine then_exit ?_
 refine blk_same ?_
 refine then_normal ?_
 obtain ⟨D37, hD38, hIz, hDl39⟩ := Inv.shutOR 1 hI rfl PgR.keeps hOl
 replace hI := hIz
 clear hIz
 try simp only [nrm, Value.cells] at hI
 have hi2 : i = 2 := by omega
 subst hi2
 rw [show ks.drop 2 = [] from List.drop_of_length_le (by omega), Bt.pickF] at heq
 obtain ⟨x_40, hx_40⟩ : ∃ z9, (l)[0]? = some z9 := ⟨_, List.getElem?_eq_getElem (by omega)⟩
 obtain ⟨b_40, o_40, cs_40, T_40, fr_40, rfl, hb_40, hat_40⟩ := hDl39.at_ (by intro h0; rw [h0] at hx_40; simp at hx_40)
 obtain ⟨vs_40, hl_40, ⟨e_40, rfl, he_40, hok_40⟩, hex_40, hsz_40, hce_40⟩ := hat_40.extract hx_40 (by omega)
 obtain ⟨A41, c42, rfl, _⟩ := he_40.slice
 have hlen_x_40 := hok_40.len
 obtain ⟨x_43, hx_43⟩ : ∃ z9, (l)[1]? = some z9 := ⟨_, List.getElem?_eq_getElem (by omega)⟩
 obtain ⟨vs_43, hl_43, ⟨e_43, rfl, he_43, hok_43⟩, hex_43, hsz_43, hce_43⟩ := hat_40.extract hx_43 (by omega)
 obtain ⟨A44, c45, rfl, _⟩ := he_43.slice
 have hlen_x_43 := hok_43.len
 rw [hks] at heq
 rw [heq] at hj
 replace hj : b.join p (k : Nat) = b.joinL p (kkP p k) x_40 x_43 := by rw [hj]; simp only [List.getD, hx_40, hx_43, Option.getD_some]
 refine c_cutE (X := Nat × Nat) [0, 4, 2] (fun x => [(13, .pointer (some ⟨x.1, 0, none⟩)), (14, .pointer (some ⟨x.2, 0, none⟩))]) (fun x w => Inv w0 D37 ([(x.1, .cells #[.int .i64 x_40.id, .int .i64 x_40.lsn, .int .i64 x_40.level, .int .i64 x_40.next, .slice A41 (x_40.ents).length c42] 83 (0, 0))] :: [(x.2, .cells #[.int .i64 x_43.id, .int .i64 x_43.lsn, .int .i64 x_43.level, .int .i64 x_43.next, .slice A44 (x_43.ents).length c45] 83 (0, 0))] :: s :: [(b6, .cells #[.int .i64 p.id, .int .i64 p.lsn, .int .i64 p.level, .int .i64 p.next, .slice A4 (p.ents).length c5] 83 (0, 0))] :: ss) w) hE ?_ ?_
 ·skip
  refine d_start [] [] (by kernel_rfl) hI rfl rfl ?_
  clear hI w; intro w hI
  refine dp 0 hE rfl (p_move rfl) (fun _ => hI) (listed' := #[true, false, false, false, false, false, false, false, false, false]) ?_; clear hE a; intro a hE
  refine dp 1 hE rfl (p_indexAddr (m := o_40 + 0 * 5) rfl rfl Tryd.underlying121 sz_83 (by omega) (by omega) (by simp)) (fun _ => hI) ?_; clear hE a; intro a hE
  refine dl 2 hE rfl (fun w hS => r_loadA rfl agg_83 (Inv.data hS _ _ (hb_40)) hsz_40 hex_40) (hI) ?_; clear hE a; intro a hE
  refine dp 3 hE rfl (p_move rfl) (fun _ => hI) ?_; clear hE a; intro a hE
  refine dp 4 hE rfl (p_indexAddr (m := o_40 + 1 * 5) rfl rfl Tryd.underlying121 sz_83 (by omega) (by omega) (by simp)) (fun _ => hI) ?_; clear hE a; intro a hE
  refine dl 5 hE rfl (fun w hS => r_loadA rfl agg_83 (Inv.data hS _ _ (hb_40)) hsz_43 hex_43) (hI) ?_; clear hE a; intro a hE
  refine d_two 6 7 hE rfl rfl (by kernel_rfl) rfl rfl (listed' := #[true, true, true, true, true, true, true, false, false, false]) (listed'' := #[true, true, true, true, true, true, false, true, false, false]) rfl rfl ?_ ?_
  ·skip
   refine f_alloc (cs := #[.int .i64 0, .int .i64 0, .int .i64 0, .int .i64 0, .slice none 0 0]) hE hI rfl rfl rfl zer_83 rfl ?_
   clear hI hE a w; intro a b46 w hE hI
   refine ⟨fun _ => (hI.dropS [0]), ?_⟩
   refine do1 7 hE rfl ?_
   refine f_alloc (cs := #[.int .i64 0, .int .i64 0, .int .i64 0, .int .i64 0, .slice none 0 0]) hE hI rfl rfl rfl zer_83 rfl ?_
   clear hI hE a w; intro a b47 w hE hI
   refine ⟨fun _ => (hI.dropS [1, 0]), ?_⟩
   refine do1 8 hE rfl ?_
   refine f_store (l := [_, _, _, _, _]) (ss' := _ :: _ :: _) 1 hE hI rfl rfl rfl rfl rfl sz_83 (by simp [Value.cells, Value.oneCell', pgCells, rcCells, zPg]) rfl rfl rfl ?_
   clear hI w; intro w hI
   refine ⟨fun _ => (hI.dropS [1, 0]), ?_⟩
   refine do1 9 hE rfl ?_
   refine f_store (l := [_, _, _, _, _]) (ss' := _ :: _) 0 hE hI rfl rfl rfl rfl rfl sz_83 (by simp [Value.cells, Value.oneCell', pgCells, rcCells, zPg]) rfl rfl rfl ?_
   clear hI w; intro w hI
   refine ⟨fun _ => (hI.dropS [1, 0]), ?_⟩
   refine d_done (by kernel_rfl) ?_
   refine then_normal ?_
   replace hI := hI.bring 3
   replace hI := hI.bring 3
   replace hI := hI.bring 2
   replace hI := hI.bring 3
   exact ⟨(b46, b47), hE.pick [13, 14, 0, 4, 2], hI⟩
  refine f_alloc (cs := #[.int .i64 0, .int .i64 0, .int .i64 0, .int .i64 0, .slice none 0 0]) hE hI rfl rfl rfl zer_83 rfl ?_
  clear hI hE a w; intro a b48 w hE hI
  refine ⟨fun _ => (hI.dropS [0]), ?_⟩
  refine do1 6 hE rfl ?_
  refine f_alloc (cs := #[.int .i64 0, .int .i64 0, .int .i64 0, .int .i64 0, .slice none 0 0]) hE hI rfl rfl rfl zer_83 rfl ?_
  clear hI hE a w; intro a b49 w hE hI
  refine ⟨fun _ => (hI.dropS [1, 0]), ?_⟩
  refine do1 8 hE rfl ?_
  refine f_store (l := [_, _, _, _, _]) (ss' := _ :: _) 0 hE hI rfl rfl rfl rfl rfl sz_83 (by simp [Value.cells, Value.oneCell', pgCells, rcCells, zPg]) rfl rfl rfl ?_
  clear hI w; intro w hI
  refine ⟨fun _ => (hI.dropS [1, 0]), ?_⟩
  refine do1 9 hE rfl ?_
  refine f_store (l := [_, _, _, _, _]) (ss' := _ :: _ :: _) 1 hE hI rfl rfl rfl rfl rfl sz_83 (by simp [Value.cells, Value.oneCell', pgCells, rcCells, zPg]) rfl rfl rfl ?_
  clear hI w; intro w hI
  refine ⟨fun _ => (hI.dropS [1, 0]), ?_⟩
  refine d_done (by kernel_rfl) ?_
  refine then_normal ?_
  exact ⟨(b49, b48), hE.pick [13, 14, 0, 4, 2], hI⟩
 clear hE hI a w; rintro ⟨b13, b14⟩ a w hE hI
 try dsimp only at hE
 try dsimp only at hI
 replace hE : EnvOk 129 [(13, _), (14, _), (0, _), (4, _), (2, _)] a := hE
 refine wp_seq ?_
 refine wsr ?_
 refine zs hE (p_fieldAddr (m := 4) rfl fo_83_4 rfl) ?_; clear hE a; intro a hE
 refine zl hE (f_load rfl scal_65 (hI.seg 0 rfl) rfl) ?_; clear hE a; intro a hE
 refine zs hE (p_len rfl rfl Tryd.underlying65) ?_; clear hE a; intro a hE
 refine zs hE (p_fieldAddr (m := 4) rfl fo_83_4 rfl) ?_; clear hE a; intro a hE
 refine zl hE (f_load rfl scal_65 (hI.seg 1 rfl) rfl) ?_; clear hE a; intro a hE
 refine zs hE (p_len rfl rfl Tryd.underlying65) ?_; clear hE a; intro a hE
 refine zs hE (p_arith (z := ((x_40.ents.length + x_43.ents.length : Nat) : Int)) rfl rfl (add_z (by omega) (by omega) (by omega))) ?_; clear hE a; intro a hE
 refine l_step rfl (o_cmp hE rfl rfl rfl rfl rfl rfl ?_ ?_)
 ·intro h6; replace h6 := gtr_t h6; clear hE a; intro a hE
  refine wnt ?_
  refine c_true hE rfl ?_
  refine wsr ?_
  refine za hE ?_; clear hE a; intro a hE
  refine wnt ?_
  refine wp_ret ?_
  refine then_ret ?_
  refine ret1 rfl hE rfl ?_
  replace hI := hI.erase 3
  replace hI := hI.erase 1
  replace hI := hI.erase 0
  exact .inl ⟨b, hj.trans (by rw [Bt.joinL, if_pos (by omega)]), rfl, _, _, ((hDk.trans hD1).trans hD38), (hT1.mono hD38), hI⟩
 intro h6; replace h6 := gtr_f h6; clear hE a; intro a hE
 refine wnt ?_
 refine c_false hE rfl ?_
 refine wp_skip ?_
 refine then_normal ?_
 refine wp_seq ?_
 refine wsr ?_
 refine zs hE (p_fieldAddr (m := 4) rfl fo_83_4 rfl) ?_; clear hE a; intro a hE
 refine zl hE (f_load rfl scal_65 (hI.seg 1 rfl) rfl) ?_; clear hE a; intro a hE
 refine zs hE (p_len rfl rfl Tryd.underlying65) ?_; clear hE a; intro a hE
 refine zm hE ?_; clear hE a; intro a hE
 refine wnt ?_
 refine wp_block ?_
 replace hI := hI.bring 3
 replace hI := hI.bring 2
 replace hI := hI.bring 2
 replace hI := hI.bring 3
 have hsum : x_40.ents.length + x_43.ents.length ≤ 6 := by omega
 replace hj : b.join p (k : Nat) = _ := hj.trans (by rw [Bt.joinL, if_neg (by omega)])
 refine c_loop (X := Sto × Nat × Bt × Seg) (fun x => [(0, _), (4, _), (2, _), (13, _), (14, _), (79, _), (80, _), (81, .int .i64 (x.2.1 : Nat))]) (fun x w => x.2.1 ≤ x_43.ents.length ∧ Le D37 x.1 ∧ Ext b x.2.2.1 ∧ b.all (insR x_40.id x_40.ents.length x_43.ents) = x.2.2.1.all (insR x_40.id (x_40.ents.length + x.2.1) (x_43.ents.drop x.2.1)) ∧ x.2.2.1.recs.length ≤ b.recs.length + x.2.1 ∧ TreeS x.1 vb vp x.2.2.1 P x.2.2.2 ∧ Inv w0 x.1 (x.2.2.2 :: [(b13, .cells #[.int .i64 x_40.id, .int .i64 x_40.lsn, .int .i64 x_40.level, .int .i64 x_40.next, .slice A41 (x_40.ents).length c42] 83 (0, 0))] :: [(b14, .cells #[.int .i64 x_43.id, .int .i64 x_43.lsn, .int .i64 x_43.level, .int .i64 x_43.next, .slice A44 (x_43.ents).length c45] 83 (0, 0))] :: [(b6, .cells #[.int .i64 p.id, .int .i64 p.lsn, .int .i64 p.level, .int .i64 p.next, .slice A4 (p.ents).length c5] 83 (0, 0))] :: ss) w) (fun x => x_43.ents.length - x.2.1) (D37, 0, b, s) (hE.pick [0, 4, 2, 13, 14, 79, 80, 81]) ⟨Nat.zero_le _, Le.refl _, Ext.refl _, rfl, by show b.recs.length ≤ b.recs.length + 0; omega, (hT1.mono hD38), hI⟩ ?_
 clear hE hI a w
 rintro ⟨D2, j, b2, s2⟩ a w hE ⟨hj2, hD2, hx2, heq2, hlen2, hT2, hI⟩
 try dsimp only at hE
 try dsimp only at hj2
 try dsimp only at hD2
 try dsimp only at hx2
 try dsimp only at heq2
 try dsimp only at hlen2
 try dsimp only at hT2
 try dsimp only at hI
 refine wsr ?_
 refine l_step rfl (o_cmp hE rfl rfl rfl rfl rfl rfl ?_ ?_)
 ·intro hlt2; replace hlt2 := lss_t hlt2; clear hE a; intro a hE
  refine wnt ?_
  refine wp_seq ?_
  refine c_true hE rfl ?_
  refine wp_skip ?_
  refine then_normal ?_
  refine wp_seq ?_
  refine wp_block ?_
  refine wsr ?_
  refine zm hE ?_; clear hE a; intro a hE
  obtain ⟨x_50, hx_50⟩ : ∃ z9, (x_43.ents)[j]? = some z9 := ⟨_, List.getElem?_eq_getElem (by omega)⟩
  obtain ⟨b_50, o_50, cs_50, T_50, fr_50, rfl, hb_50, hat_50⟩ := he_43.at_ (by intro h0; rw [h0] at hx_50; simp at hx_50)
  obtain ⟨vs_50, hl_50, ⟨k_50, v_50, rfl, hk_50, hv_50, hok_50⟩, hex_50, hsz_50, hce_50⟩ := hat_50.extract hx_50 (by omega)
  obtain ⟨A51, c52, rfl, _⟩ := hk_50.slice
  obtain ⟨A53, c54, rfl, _⟩ := hv_50.slice
  refine zs hE (p_indexAddr (m := o_50 + j * 2) rfl rfl Tryd.underlying65 sz_69 (by omega) (by omega) (by simp)) ?_; clear hE a; intro a hE
  refine zl hE (r_loadA rfl agg_69 (hI.data _ _ (hD2 _ _ (hb_50))) hsz_50 hex_50) ?_; clear hE a; intro a hE
  refine l_step rfl (f_alloc (cs := #[.slice none 0 0, .slice none 0 0]) hE hI rfl rfl rfl zer_69 rfl ?_)
  clear hI hE a w; intro a b55 w hE hI
  refine za hE ?_; clear hE a; intro a hE
  refine l_step rfl (f_store (l := [_, _]) (ss' := _ :: _) 0 hE hI rfl rfl rfl rfl rfl sz_69 (by simp [Value.cells, Value.oneCell', pgCells, rcCells, zPg]) rfl rfl rfl ?_)
  clear hI w; intro w hI
  refine wnt ?_
  refine wp_seq ?_
  refine d_start [15] [] (by kernel_rfl) hI rfl rfl ?_
  clear hI w; intro w hI
  refine dp 0 hE rfl (p_move rfl) (fun _ => hI) (listed' := #[true, false, false, false, false, false, false, false, false, false, false, false, false, false, false, false, false]) ?_; clear hE a; intro a hE
  refine dp 1 hE rfl (p_fieldAddr (m := 0) rfl fo_83_0 rfl) (fun _ => hI) ?_; clear hE a; intro a hE
  refine dl 2 hE rfl (fun w hS => f_load rfl scal_3 (Inv.seg 2 hS rfl) rfl) (hI) ?_; clear hE a; intro a hE
  refine dp 3 hE rfl (p_fieldAddr (m := 4) rfl fo_83_4 rfl) (fun _ => hI) ?_; clear hE a; intro a hE
  refine dl 4 hE rfl (fun w hS => f_load rfl scal_65 (Inv.seg 2 hS rfl) rfl) (hI) ?_; clear hE a; intro a hE
  refine dp 5 hE rfl (p_len rfl rfl Tryd.underlying65) (fun _ => hI) ?_; clear hE a; intro a hE
  refine dp 6 hE rfl (p_move rfl) (fun _ => hI) ?_; clear hE a; intro a hE
  refine dp 7 hE rfl (p_arith (z := ((x_40.ents.length + j : Nat) : Int)) rfl rfl (add_z (by omega) (by omega) (by omega))) (fun _ => hI) ?_; clear hE a; intro a hE
  refine dp 8 hE rfl (p_fieldAddr (m := 0) rfl fo_69_0 rfl) (fun _ => hI) ?_; clear hE a; intro a hE
  refine dl 9 hE rfl (fun w hS => f_load rfl scal_22 (Inv.seg 0 hS rfl) rfl) (hI) ?_; clear hE a; intro a hE
  refine dp 11 hE rfl (p_fieldAddr (m := 1) rfl fo_69_1 rfl) (fun _ => hI) ?_; clear hE a; intro a hE
  refine dl 12 hE rfl (fun w hS => f_load rfl scal_22 (Inv.seg 0 hS rfl) rfl) (hI) ?_; clear hE a; intro a hE
  refine do1 10 hE rfl ?_
  refine o_call hE rfl rfl rfl rfl ent_73 (Clone_data (bs := x_50.1) hI (hk_50.mono hD2) (by have := hok_50.1; have := hok_50.2; omega)) ?_
  clear hI hE a
  rintro r w ⟨D56, hD57, hI, hb58⟩ a hE
  obtain ⟨A59, c60, rfl, _⟩ := hb58.slice
  refine ⟨fun _ => (Inv.weaken hI hD57), ?_⟩
  refine do1 13 hE rfl ?_
  refine o_call hE rfl rfl rfl rfl ent_73 (Clone_data (bs := x_50.2) hI (hv_50.mono (hD2.trans hD57)) (by have := hok_50.1; have := hok_50.2; omega)) ?_
  clear hI hE a
  rintro r w ⟨D61, hD62, hI, hb63⟩ a hE
  obtain ⟨A64, c65, rfl, _⟩ := hb63.slice
  refine ⟨fun _ => (Inv.weaken hI (hD57.trans hD62)), ?_⟩
  refine dp 14 hE rfl (f_build (vs := [(4, _), (5, _), (6, _), (7, _), (8, _)]) (l := [_, _, _, _, _, _, _, _, _, _]) rfl built_88 rfl) (fun _ => (Inv.weaken hI (hD57.trans hD62))) ?_; clear hE a; intro a hE
  refine do1 15 hE rfl ?_
  refine o_call hE rfl rfl rfl rfl ent_72 (do_spec (hI.bring 1) (hS.mono (((((hDk.trans hD1).trans hD38).trans hD2).trans hD57).trans hD62)) (hT2.mono (hD57.trans hD62)) (rc := ({ page := x_40.id, kind := 2, slot := ((x_40.ents.length + j : Nat) : Int), key := x_50.1, val := x_50.2 } : Rc)) ⟨_, _, rfl, (hb58.mono hD62), hb63, ROk.of0 rfl (by show (0 : Int) ≤ ((x_40.ents.length + j : Nat) : Int); omega) (by show ((x_40.ents.length + j : Nat) : Int) ≤ _; omega) hok_50.1 hok_50.2⟩ (by omega)) ?_
  clear hI hE a
  rintro r w h a hE; rcases h with ⟨b67, hx66, rfl, D68, s73, hD69, hT70, hI⟩ | ⟨c71, o72, hx66, rfl, D74, s77, hD75, hT76, hI⟩
  ·skip
   replace hI := hI.put_back 1
   try simp only [nrm, Value.cells] at hI
   have hext_hx66 := (doR_ext hx66).1
   have hlen_hx66 := (doR_ext hx66).2
   refine ⟨nl, ?_⟩
   refine dp 16 hE rfl (p_assign rfl) nl ?_; clear hE a; intro a hE
   refine d_done (by kernel_rfl) ?_
   refine then_normal ?_
   refine wsr ?_
   refine zm hE ?_; clear hE a; intro a hE
   refine zs hE (p_ifaceNil Tryd.underlying25 rfl rfl rfl) ?_; clear hE a; intro a hE
   refine wnt ?_
   refine c_false hE rfl ?_
   refine wp_skip ?_
   refine blk_normal ?_
   refine then_normal ?_
   refine wp_region_list ?_
   refine zs hE (p_arith (z := ((j + 1 : Nat) : Int)) rfl rfl (add_z (by omega) (by omega) (by omega))) ?_; clear hE a; intro a hE
   refine zm hE ?_; clear hE a; intro a hE
   refine wnt ?_
   replace hI := hI.erase 0
   exact ⟨(D68, j + 1, b67, _), hE.pick [0, 4, 2, 13, 14, 79, 80, 81], ⟨by show j + 1 ≤ _; omega, (((hD2.trans hD57).trans hD62).trans hD69), hx2.trans (doR_ext hx66).1, heq2.trans (by rw [ins_at hx_50, hx66]), by have := (doR_ext hx66).2; show (Bt.recs b67).length ≤ _ + (j + 1); omega, hT70, hI⟩, by show x_43.ents.length - (j + 1) < x_43.ents.length - j; omega⟩
  replace hI := hI.put_back 1
  try simp only [nrm, Value.cells] at hI
  refine ⟨nl, ?_⟩
  refine dp 16 hE rfl (p_assign rfl) nl ?_; clear hE a; intro a hE
  refine d_done (by kernel_rfl) ?_
  refine then_normal ?_
  refine wsr ?_
  refine zm hE ?_; clear hE a; intro a hE
  refine zs hE (p_ifaceNil Tryd.underlying25 rfl rfl rfl) ?_; clear hE a; intro a hE
  refine wnt ?_
  refine c_true hE rfl ?_
  refine wsr ?_
  refine zm hE ?_; clear hE a; intro a hE
  refine za hE ?_; clear hE a; intro a hE
  refine wnt ?_
  refine wp_ret ?_
  refine blk_ret ?_
  refine then_ret ?_
  refine then_ret ?_
  refine blk_ret ?_
  refine then_ret ?_
  refine ret1 rfl hE rfl ?_
  replace hI := hI.erase 4
  replace hI := hI.erase 3
  replace hI := hI.erase 2
  replace hI := hI.erase 0
  exact .inr ⟨_, o72, hj.trans (by rw [heq2, ins_at hx_50, hx66]), rfl, _, _, _, hx2, ((((((hDk.trans hD1).trans hD38).trans hD2).trans hD57).trans hD62).trans hD75), hT76, hI⟩
 intro hlt2; replace hlt2 := lss_f hlt2; clear hE a; intro a hE
 refine wnt ?_
 refine wp_seq ?_
 refine c_false hE rfl ?_
 refine wp_exit ?_
 refine then_exit ?_
 refine then_exit ?_
 refine blk_same ?_
 refine then_normal ?_
 refine wsr ?_
 refine zs hE (p_fieldAddr (m := 3) rfl fo_83_3 rfl) ?_; clear hE a; intro a hE
 refine zl hE (f_load rfl scal_3 (hI.seg 2 rfl) rfl) ?_; clear hE a; intro a hE
 refine za hE ?_; clear hE a; intro a hE
 refine wnt ?_
 have hdr : x_43.ents.drop j = [] := List.drop_of_length_le (by omega)
 rw [hdr, insR, Bt.all] at heq2
 rw [heq2] at hj
 have hn0 := hok_43.n0
 have hn1 := hok_43.n1
 refine c_cutE (X := Int) [0, 4, 2, 13, 14] (fun x => [(18, .int .i64 x)]) (fun x w => x = nextP x_43 ∧ Inv w0 D2 (s2 :: [(b13, .cells #[.int .i64 x_40.id, .int .i64 x_40.lsn, .int .i64 x_40.level, .int .i64 x_40.next, .slice A41 (x_40.ents).length c42] 83 (0, 0))] :: [(b14, .cells #[.int .i64 x_43.id, .int .i64 x_43.lsn, .int .i64 x_43.level, .int .i64 x_43.next, .slice A44 (x_43.ents).length c45] 83 (0, 0))] :: [(b6, .cells #[.int .i64 p.id, .int .i64 p.lsn, .int .i64 p.level, .int .i64 p.next, .slice A4 (p.ents).length c5] 83 (0, 0))] :: ss) w) hE ?_ ?_
 ·skip
  refine wsr ?_
  refine zm hE ?_; clear hE a; intro a hE
  refine l_step rfl (o_cmp hE rfl rfl rfl rfl rfl rfl ?_ ?_)
  ·intro hnx1; replace hnx1 := eql_t hnx1; clear hE a; intro a hE
   refine wnt ?_
   refine c_true hE rfl ?_
   refine wp_region_list ?_
   refine za hE ?_; clear hE a; intro a hE
   refine wnt ?_
   exact ⟨256, hE.pick [18, 0, 4, 2, 13, 14], ⟨by rw [nextP, if_pos (by omega)], hI⟩⟩
  intro hnx1; replace hnx1 := eql_f hnx1; clear hE a; intro a hE
  refine wnt ?_
  refine c_false hE rfl ?_
  refine wp_skip ?_
  refine then_normal ?_
  exact ⟨x_43.next, hE.pick [18, 0, 4, 2, 13, 14], ⟨by rw [nextP, if_neg (by omega)], hI⟩⟩
 clear hE hI a w; rintro z8 a w hE ⟨hz8, hI⟩
 try dsimp only at hE
 try dsimp only at hz8
 try dsimp only at hI
 replace hE : EnvOk 129 [(18, _), (0, _), (4, _), (2, _), (13, _), (14, _)] a := hE
 have hnx : 0 ≤ nextP x_43 ∧ nextP x_43 ≤ 4611686018427387904 := by rw [nextP]; split <;> omega
 subst hz8
 refine wp_seq ?_
 refine wsr ?_
 refine zm hE ?_; clear hE a; intro a hE
 refine zs hE (p_fieldAddr (m := 0) rfl fo_83_0 rfl) ?_; clear hE a; intro a hE
 refine zl hE (f_load rfl scal_3 (hI.seg 1 rfl) rfl) ?_; clear hE a; intro a hE
 refine zm hE ?_; clear hE a; intro a hE
 refine zs hE (f_build (vs := [(4, _), (5, _), (6, _)]) (l := [_, _, _, _, _, _, _, _, _, _]) rfl built_88 rfl) ?_; clear hE a; intro a hE
 refine zs hE (p_fieldAddr (m := 0) rfl fo_83_0 rfl) ?_; clear hE a; intro a hE
 refine zl hE (f_load rfl scal_3 (hI.seg 3 rfl) rfl) ?_; clear hE a; intro a hE
 refine zm hE ?_; clear hE a; intro a hE
 refine zs hE (p_arith (z := ((kkP p k + 1 : Nat) : Int)) rfl rfl (add_z (by omega) (by omega) (by omega))) ?_; clear hE a; intro a hE
 refine zs hE (f_build (vs := [(4, _), (5, _), (6, _)]) (l := [_, _, _, _, _, _, _, _, _, _]) rfl built_88 rfl) ?_; clear hE a; intro a hE
 refine l_step rfl (f_lit (vs := [(0, _), (1, _)]) (l := [_, _, _, _, _, _, _, _, _, _, _, _, _, _, _, _, _, _, _, _]) hE hI rfl rfl rfl rfl Tryd.underlying62 zs_88 rfl rfl rfl ?_)
 clear hI hE a w; intro a b80 w hE hI
 have hr84 : RcR D2 _ ({ page := x_40.id, kind := 5, slot := nextP x_43 } : Rc) := ⟨_, _, rfl, (RB.nil _), (RB.nil _), ROk.of0 rfl hnx.1 hnx.2 (by simp) (by simp)⟩
 have hr85 : RcR D2 _ ({ page := p.id, kind := 3, slot := ((kkP p k + 1 : Nat) : Int) } : Rc) := ⟨_, _, rfl, (RB.nil _), (RB.nil _), ROk.of0 rfl (by show (0 : Int) ≤ ((kkP p k + 1 : Nat) : Int); omega) (by show ((kkP p k + 1 : Nat) : Int) ≤ _; omega) (by simp) (by simp)⟩
 obtain ⟨D81, hD82, hIa, hL83⟩ := DR.lits (n := 2) (l := [({ page := x_40.id, kind := 5, slot := nextP x_43 } : Rc), ({ page := p.id, kind := 3, slot := ((kkP p k + 1 : Nat) : Int) } : Rc)]) 0 hI rfl rfl rfl (by omega) (At.lit2 (size := 10) (by rfl) (by rfl)  hr84 hr85)
 replace hI := hIa
 clear hIa
 try simp only [nrm, Value.cells] at hI
 refine l_step rfl (o_call hE rfl rfl rfl rfl ent_124 (all_spec hI (hS.mono ((((hDk.trans hD1).trans hD38).trans hD2).trans hD82)) (hT2.mono hD82) (l := [({ page := x_40.id, kind := 5, slot := nextP x_43 } : Rc), ({ page := p.id, kind := 3, slot := ((kkP p k + 1 : Nat) : Int) } : Rc)]) hL83 (by simp only [List.length_cons, List.length_nil]; omega)) ?_)
 clear hI hE a
 rintro r w h a hE; rcases h with ⟨b87, hx86, rfl, D88, s93, hD89, hT90, hI⟩ | ⟨c91, o92, hx86, rfl, b98, D94, s97, hext99, hD95, hT96, hI⟩
 ·skip
  have hext_hx86 := (all_ext _ hx86).1
  have hlen_hx86 := (all_ext _ hx86).2
  refine za hE ?_; clear hE a; intro a hE
  refine wnt ?_
  refine wsr ?_
  refine zm hE ?_; clear hE a; intro a hE
  refine zs hE (p_ifaceNil Tryd.underlying25 rfl rfl rfl) ?_; clear hE a; intro a hE
  refine wnt ?_
  refine c_false hE rfl ?_
  refine wp_skip ?_
  refine then_normal ?_
  refine wp_seq ?_
  simp only [List.length_cons, List.length_nil] at hlen_hx86
  refine wp_region_list ?_
  refine zm hE ?_; clear hE a; intro a hE
  refine zs hE (p_fieldAddr (m := 0) rfl fo_83_0 rfl) ?_; clear hE a; intro a hE
  refine zl hE (f_load rfl scal_3 (hI.seg 2 rfl) rfl) ?_; clear hE a; intro a hE
  refine l_step rfl (o_call hE rfl rfl rfl rfl ent_125 (free_spec hI (hS.mono (((((hDk.trans hD1).trans hD38).trans hD2).trans hD82).trans hD89)) hT90 x_43.id (by omega)) ?_)
  clear hI hE a
  rintro r w h a hE; rcases h with ⟨b101, hx100, rfl, D102, s107, hD103, hT104, hI⟩ | ⟨c105, o106, hx100, rfl, b112, D108, s111, hext113, hD109, hT110, hI⟩
  ·skip
   have hext_hx100 := (free_ext hx100).1
   have hlen_hx100 := (free_ext hx100).2
   refine za hE ?_; clear hE a; intro a hE
   refine wnt ?_
   refine wp_ret ?_
   refine ret1 rfl hE rfl ?_
   replace hI := hI.erase 3
   replace hI := hI.erase 2
   replace hI := hI.erase 1
   exact .inl ⟨_, hj.trans (by simp only [hx86, hx100]), rfl, _, _, ((((((hDk.trans hD1).trans hD38).trans hD2).trans hD82).trans hD89).trans hD103), hT104, hI⟩
  refine za hE ?_; clear hE a; intro a hE
  refine wnt ?_
  refine wp_ret ?_
  refine ret1 rfl hE rfl ?_
  replace hI := hI.erase 3
  replace hI := hI.erase 2
  replace hI := hI.erase 1
  exact .inr ⟨_, o106, hj.trans (by simp only [hx86, hx100]), rfl, _, _, _, (hx2.trans (hext_hx86.trans hext113)), ((((((hDk.trans hD1).trans hD38).trans hD2).trans hD82).trans hD89).trans hD109), hT110, hI⟩
 refine za hE ?_; clear hE a; intro a hE
 refine wnt ?_
 refine wsr ?_
 refine zm hE ?_; clear hE a; intro a hE
 refine zs hE (p_ifaceNil Tryd.underlying25 rfl rfl rfl) ?_; clear hE a; intro a hE
 refine wnt ?_
 refine c_true hE rfl ?_
 refine wsr ?_
 refine zm hE ?_; clear hE a; intro a hE
 refine za hE ?_; clear hE a; intro a hE
 refine wnt ?_
 refine wp_ret ?_
 refine then_ret ?_
 refine ret1 rfl hE rfl ?_
 replace hI := hI.erase 3
 replace hI := hI.erase 2
 replace hI := hI.erase 1
 exact .inr ⟨_, o92, hj.trans (by simp only [hx86]), rfl, _, _, _, (hx2.trans hext99), (((((hDk.trans hD1).trans hD38).trans hD2).trans hD82).trans hD95), hT96, hI⟩
theorem BDelete_spec {w0 w : World} {D : Sto} {ss : List Seg} {s : Seg} {vb vp : Value} {b : Bt} {P : Pl} (hI : Inv w0 D (s :: ss) w) {ad : Nat → Addr} (hS : TSents D ad) (hT : TreeS D vb vp b P s) {vk : Value} {key : Bs} (hk : RB D vk key) (hlen : b.recs.length ≤ 1000000000 - 8000) :
  Calls Tryd.prog 52 #[vb, vk] w (Ret fun r w' => (∃ res b', b.delete key = .ok (res, b') ∧ r = .tuple #[.bool res, .nilIface] ∧ ∃ D' s', Le D D' ∧ TreeS D' vb vp b' P s' ∧ Inv w0 D' (s' :: ss) w') ∨ (∃ c o, b.delete key = .fail c o ∧ r = .tuple #[.bool false, errV ad c] ∧ ∃ D' s', Le D D' ∧ TreeS D' vb vp b (P.after o) s' ∧ Inv w0 D' (s' :: ss) w')) := by
 obtain ⟨A1, c2, rfl, _⟩ := hk.slice
 refine enter (N := 86) Tryd.func52 rfl rfl rfl ?_
 intro a hE
 refine wsr ?_
 refine za hE ?_; clear hE a; intro a hE
 refine za hE ?_; clear hE a; intro a hE
 refine wnt ?_
 refine wp_seq ?_
 refine wsr ?_
 refine zm hE ?_; clear hE a; intro a hE
 refine l_step rfl (o_call hE rfl rfl rfl rfl ent_69 (right_spec hI hk) ?_)
 clear hI hE a
 rintro r w ⟨rfl, hI⟩ a hE
 obtain ⟨bf3, hbf4⟩ : ∃ b, rightK key = b := ⟨_, rfl⟩
 rw [hbf4] at hE
 replace hbf4 : bf3 = true ↔ rightK key = true := by rw [← hbf4]
 rcases Bool.eq_false_or_eq_true bf3 with rfl | rfl
 ·replace hbf4 := iff_t hbf4
  have hrk : rightK key = true := hbf4
  have hrk2 := rightK_len hrk
  refine zs hE (p_not rfl) ?_; clear hE a; intro a hE
  refine wnt ?_
  refine c_false hE rfl ?_
  refine wp_skip ?_
  refine then_normal ?_
  refine wsr ?_
  refine zm hE ?_; clear hE a; intro a hE
  refine zm hE ?_; clear hE a; intro a hE
  refine l_step rfl (o_call hE rfl rfl rfl rfl ent_70 (down_spec hI hS hT hk) ?_)
  clear hI hE a
  rintro r w h a hE; rcases h with ⟨l5, ks6, hx7, hne8, hll9, D10, vl11, vk12, hD13, rfl, hdl14, hdk15, hT16, hI⟩ | ⟨c17, o18, hx7, rfl, D19, s20, hD21, hT22, hI⟩
  ·skip
   have hl1 : 1 ≤ l5.length := List.length_pos_iff.2 hne8
   have hl17 := down_len hx7
   obtain ⟨A23, c24, rfl, _⟩ := hdl14.slice
   obtain ⟨A25, c26, rfl, _⟩ := hdk15.slice
   refine zm hE ?_; clear hE a; intro a hE
   refine zx hE ?_; clear hE a; intro a hE
   refine zx hE ?_; clear hE a; intro a hE
   refine zx hE ?_; clear hE a; intro a hE
   refine za hE ?_; clear hE a; intro a hE
   refine za hE ?_; clear hE a; intro a hE
   refine za hE ?_; clear hE a; intro a hE
   refine wnt ?_
   refine wp_seq ?_
   refine wsr ?_
   refine zm hE ?_; clear hE a; intro a hE
   refine zs hE (p_ifaceNil Tryd.underlying25 rfl rfl rfl) ?_; clear hE a; intro a hE
   refine wnt ?_
   refine c_false hE rfl ?_
   refine wp_skip ?_
   refine then_normal ?_
   refine wsr ?_
   refine zm hE ?_; clear hE a; intro a hE
   refine zm hE ?_; clear hE a; intro a hE
   refine zs hE (p_len rfl rfl Tryd.underlying121) ?_; clear hE a; intro a hE
   refine zs hE (p_arith (z := ((l5.length - 1 : Nat) : Int)) rfl rfl (sub_z (by omega) (by omega) (by omega))) ?_; clear hE a; intro a hE
   obtain ⟨x_27, hx_27⟩ : ∃ z9, (l5)[(l5.length - 1)]? = some z9 := ⟨_, List.getElem?_eq_getElem (by omega)⟩
   obtain ⟨b_27, o_27, cs_27, T_27, fr_27, rfl, hb_27, hat_27⟩ := hdl14.at_ (by intro h0; rw [h0] at hx_27; simp at hx_27)
   obtain ⟨vs_27, hl_27, ⟨e_27, rfl, he_27, hok_27⟩, hex_27, hsz_27, hce_27⟩ := hat_27.extract hx_27 (by omega)
   obtain ⟨A28, c29, rfl, _⟩ := he_27.slice
   refine zs hE (p_indexAddr (m := o_27 + (l5.length - 1) * 5) rfl rfl Tryd.underlying121 sz_83 (by omega) (by omega) (by simp)) ?_; clear hE a; intro a hE
   refine zl hE (r_loadA rfl agg_83 (hI.data _ _ (hb_27)) hsz_27 hex_27) ?_; clear hE a; intro a hE
   refine l_step rfl (f_alloc (cs := #[.int .i64 0, .int .i64 0, .int .i64 0, .int .i64 0, .slice none 0 0]) hE hI rfl rfl rfl zer_83 rfl ?_)
   clear hI hE a w; intro a b30 w hE hI
   refine l_step rfl (f_store (l := [_, _, _, _, _]) (ss' := _ :: _) 0 hE hI rfl rfl rfl rfl rfl sz_83 (by simp [Value.cells, Value.oneCell', pgCells, rcCells, zPg]) rfl rfl rfl ?_)
   clear hI w; intro w hI
   refine wnt ?_
   refine wsr ?_
   refine zl hE (f_loadA (vs := [_, _, _, _, _]) rfl agg_83 (hI.seg 0 rfl) rfl rfl) ?_; clear hE a; intro a hE
   refine zm hE ?_; clear hE a; intro a hE
   refine l_step rfl (o_call hE rfl rfl rfl rfl ent_71 (Find_spec (p := x_27) hI ⟨_, rfl, he_27, hok_27⟩ (hk.mono hD13)) ?_)
   clear hI hE a
   rintro r w ⟨rfl, hI⟩ a hE
   have hfl33 := findP_le x_27.ents key
   obtain ⟨bf31, hbf32⟩ : ∃ b, (findP x_27.ents key).2 = b := ⟨_, rfl⟩
   rw [hbf32] at hE
   replace hbf32 : bf31 = true ↔ (findP x_27.ents key).2 = true := by rw [← hbf32]
   refine zm hE ?_; clear hE a; intro a hE
   refine zx hE ?_; clear hE a; intro a hE
   refine zx hE ?_; clear hE a; intro a hE
   refine za hE ?_; clear hE a; intro a hE
   refine za hE ?_; clear hE a; intro a hE
   refine wnt ?_
   refine wp_seq ?_
   refine wsr ?_
   refine zm hE ?_; clear hE a; intro a hE
   rcases Bool.eq_false_or_eq_true bf31 with rfl | rfl
   ·replace hbf32 := iff_t hbf32
    have hfd_hfl33 : (findP x_27.ents key).2 = true := hbf32
    have hlt_hfl33 := findP_lt hfd_hfl33
    refine zs hE (p_not rfl) ?_; clear hE a; intro a hE
    refine wnt ?_
    refine c_false hE rfl ?_
    refine wp_skip ?_
    refine then_normal ?_
    refine wsr ?_
    refine zm hE ?_; clear hE a; intro a hE
    refine l_step rfl (o_call hE rfl rfl rfl rfl ent_74 (save_spec (hI.bring 1) (hS.mono hD13) hT16) ?_)
    clear hI hE a
    rintro r w ⟨s34, hV35, hI, hT36⟩ a hE
    replace hI := hI.put_two 1
    try simp only [nrm, Value.cells] at hI
    obtain ⟨us, hvf⟩ := hV35.func
    subst hvf
    refine za hE ?_; clear hE a; intro a hE
    refine wnt ?_
    refine wsr ?_
    refine zm hE ?_; clear hE a; intro a hE
    refine zs hE (p_fieldAddr (m := 0) rfl fo_83_0 rfl) ?_; clear hE a; intro a hE
    refine zl hE (f_load rfl scal_3 (hI.seg 0 rfl) rfl) ?_; clear hE a; intro a hE
    refine zm hE ?_; clear hE a; intro a hE
    refine zs hE (f_build (vs := [(4, _), (5, _), (6, _)]) (l := [_, _, _, _, _, _, _, _, _, _]) rfl built_88 rfl) ?_; clear hE a; intro a hE
    refine l_step rfl (o_call hE rfl rfl rfl rfl ent_72 (do_spec (hI.bring 2) (hS.mono hD13) hT36 (rc := ({ page := x_27.id, kind := 3, slot := ((findP x_27.ents key).1 : Nat) } : Rc)) ⟨_, _, rfl, (RB.nil _), (RB.nil _), ROk.of0 rfl (by show (0 : Int) ≤ ((findP x_27.ents key).1 : Nat); omega) (by have := hok_27.len; show (((findP x_27.ents key).1 : Nat) : Int) ≤ _; omega) (by simp) (by simp)⟩ (by omega)) ?_)
    clear hI hE a
    rintro r w h a hE; rcases h with ⟨b38, hx37, rfl, D39, s44, hD40, hT41, hI⟩ | ⟨c42, o43, hx37, rfl, D45, s48, hD46, hT47, hI⟩
    ·skip
     replace hI := hI.put_back 2
     try simp only [nrm, Value.cells] at hI
     have hext_hx37 := (doR_ext hx37).1
     have hlen_hx37 := (doR_ext hx37).2
     refine za hE ?_; clear hE a; intro a hE
     refine wnt ?_
     refine wp_seq ?_
     refine wp_seq ?_
     have hne_hfl33 : 1 ≤ x_27.ents.length := by omega
     have hle_hfl33 := hok_27.len
     refine wp_region_list ?_
     refine zm hE ?_; clear hE a; intro a hE
     refine zs hE (p_ifaceNil Tryd.underlying25 rfl rfl rfl) ?_; clear hE a; intro a hE
     refine zm hE ?_; clear hE a; intro a hE
     refine gs hE (p_move rfl) ?_; clear hE a; intro a hE
     refine gs hE (p_len rfl rfl Tryd.underlying121) ?_; clear hE a; intro a hE
     refine l_go hE rfl (o_cmp hE rfl rfl rfl rfl rfl rfl ?_ ?_)
     ·intro hl1; replace hl1 := gtr_t hl1; clear hE a; intro a hE
      refine zs hE (p_pick (b := true) rfl rfl) ?_; clear hE a; intro a hE
      refine zm hE ?_; clear hE a; intro a hE
      refine gs hE (p_fieldAddr (m := 4) rfl fo_83_4 rfl) ?_; clear hE a; intro a hE
      refine gl hE (f_load rfl scal_65 (hI.seg 0 rfl) rfl) ?_; clear hE a; intro a hE
      refine gs hE (p_len rfl rfl Tryd.underlying65) ?_; clear hE a; intro a hE
      refine gs hE (p_arith (z := ((x_27.ents.length - 1 : Nat) : Int)) rfl rfl (sub_z (by omega) (by omega) (by omega))) ?_; clear hE a; intro a hE
      refine l_go hE rfl (o_cmp hE rfl rfl rfl rfl rfl rfl ?_ ?_)
      ·intro hfew; replace hfew := leq_t hfew; clear hE a; intro a hE
       refine zs hE (p_pick (b := true) rfl rfl) ?_; clear hE a; intro a hE
       refine wnt ?_
       refine c_true hE rfl ?_
       refine d_start [13] [] (by kernel_rfl) hI rfl rfl ?_
       clear hI w; intro w hI
       refine dp 0 hE rfl (p_move rfl) (fun _ => hI) (listed' := #[true, false, false, false, false, false, false, false, false, false, false, false, false, false, false]) ?_; clear hE a; intro a hE
       refine dp 1 hE rfl (p_move rfl) (fun _ => hI) ?_; clear hE a; intro a hE
       refine dp 2 hE rfl (p_move rfl) (fun _ => hI) ?_; clear hE a; intro a hE
       refine dp 3 hE rfl (p_len rfl rfl Tryd.underlying121) (fun _ => hI) ?_; clear hE a; intro a hE
       refine dp 4 hE rfl (p_arith (z := ((l5.length - 2 : Nat) : Int)) rfl rfl (sub_z (by omega) (by omega) (by omega))) (fun _ => hI) ?_; clear hE a; intro a hE
       obtain ⟨x_51, hx_51⟩ : ∃ z9, (l5)[(l5.length - 2)]? = some z9 := ⟨_, List.getElem?_eq_getElem (by omega)⟩
       obtain ⟨vs_51, hl_51, ⟨e_51, rfl, he_51, hok_51⟩, hex_51, hsz_51, hce_51⟩ := hat_27.extract hx_51 (by omega)
       obtain ⟨A52, c53, rfl, _⟩ := he_51.slice
       refine dp 5 hE rfl (p_indexAddr (m := o_27 + (l5.length - 2) * 5) rfl rfl Tryd.underlying121 sz_83 (by omega) (by omega) (by simp)) (fun _ => hI) ?_; clear hE a; intro a hE
       refine dl 6 hE rfl (fun w hS => r_loadA rfl agg_83 (Inv.data hS _ _ (hD40 _ _ (hb_27))) hsz_51 hex_51) (hI) ?_; clear hE a; intro a hE
       refine dp 7 hE rfl (p_move rfl) (fun _ => hI) ?_; clear hE a; intro a hE
       refine dp 8 hE rfl (p_move rfl) (fun _ => hI) ?_; clear hE a; intro a hE
       refine dp 9 hE rfl (p_len rfl rfl Tryd.underlying97) (fun _ => hI) ?_; clear hE a; intro a hE
       refine dp 10 hE rfl (p_arith (z := ((ks6.length - 1 : Nat) : Int)) rfl rfl (sub_z (by omega) (by omega) (by omega))) (fun _ => hI) ?_; clear hE a; intro a hE
       obtain ⟨x_54, hx_54⟩ : ∃ z9, (ks6)[(ks6.length - 1)]? = some z9 := ⟨_, List.getElem?_eq_getElem (by omega)⟩
       obtain ⟨b_54, o_54, cs_54, T_54, fr_54, hA_54, hb_54, hat_54⟩ := hdk15.at_ (by intro h0; rw [h0] at hx_54; simp at hx_54)
       subst hA_54
       obtain ⟨vs_54, hl_54, rfl, hex_54, hsz_54, hce_54⟩ := hat_54.extract hx_54 (by omega)
       refine dp 11 hE rfl (p_indexAddr (m := o_54 + (ks6.length - 1) * 1) rfl rfl Tryd.underlying97 sz_3 (by omega) (by omega) (by simp)) (fun _ => hI) ?_; clear hE a; intro a hE
       refine dl 12 hE rfl (fun w hS => r_load rfl scal_3 (Inv.data hS _ _ (hD40 _ _ (hb_54))) (hce_54 0 _ rfl)) (hI) ?_; clear hE a; intro a hE
       refine do1 13 hE rfl ?_
       have hlm := hok_51.len
       have hkb := down_ks hx7 (i := ks6.length - 1) hx_54 (by rw [show ks6.length - 1 = l5.length - 2 by omega]; exact hx_51)
       refine o_call hE rfl rfl rfl rfl ent_99 (join_spec (hI.bring 2) (hS.mono (hD13.trans hD40)) hT41 (p := x_51) ⟨_, rfl, (DR.mono EnR.keeps he_51 hD40), hok_51⟩ (k := x_54) (by omega) (by omega)) ?_
       clear hI hE a
       rintro r w h a hE; rcases h with ⟨b56, hx55, rfl, D57, s62, hD58, hT59, hI⟩ | ⟨c60, o61, hx55, rfl, b67, D63, s66, hext68, hD64, hT65, hI⟩
       ·skip
        replace hI := hI.put_back 2
        try simp only [nrm, Value.cells] at hI
        have hext_hx55 := (join_ext hx55).1
        have hlen_hx55 := (join_ext hx55).2
        refine ⟨nl, ?_⟩
        refine dp 14 hE rfl (p_assign rfl) nl ?_; clear hE a; intro a hE
        refine d_done (by kernel_rfl) ?_
        refine then_normal ?_
        refine wp_seq ?_
        refine wsr ?_
        refine zm hE ?_; clear hE a; intro a hE
        refine zs hE (p_ifaceNil Tryd.underlying25 rfl rfl rfl) ?_; clear hE a; intro a hE
        refine wnt ?_
        refine c_true hE rfl ?_
        refine wp_region_list ?_
        refine zm hE ?_; clear hE a; intro a hE
        refine l_step rfl (o_call hE rfl rfl rfl rfl ent_100 (sink_spec (hI.bring 2) (hS.mono ((hD13.trans hD40).trans hD58)) hT59 (by omega)) ?_)
        clear hI hE a
        rintro r w h a hE; rcases h with ⟨b70, hx69, rfl, D71, s76, hD72, hT73, hI⟩ | ⟨c74, o75, hx69, rfl, b81, D77, s80, hext82, hD78, hT79, hI⟩
        ·skip
         replace hI := hI.put_back 2
         try simp only [nrm, Value.cells] at hI
         refine za hE ?_; clear hE a; intro a hE
         refine wnt ?_
         refine wp_seq ?_
         refine wsr ?_
         refine zm hE ?_; clear hE a; intro a hE
         refine zs hE (p_ifaceNil Tryd.underlying25 rfl rfl rfl) ?_; clear hE a; intro a hE
         refine wnt ?_
         refine c_false hE rfl ?_
         refine wp_skip ?_
         refine then_normal ?_
         refine wsr ?_
         refine za hE ?_; clear hE a; intro a hE
         refine za hE ?_; clear hE a; intro a hE
         refine wnt ?_
         refine wp_ret ?_
         refine ret2 rfl hE rfl rfl ?_
         have hlast : lastPg l5 = x_27 := lastPg_eq hx_27
         have hgl : l5.getD (l5.length - 2) (newPg 0) = x_51 := by rw [List.getD_eq_getElem?_getD, hx_51]; rfl
         have hgk : ks6.getLastD 0 = x_54 := by rw [List.getLastD_eq_getLast?, List.getLast?_eq_getElem?, hx_54]; rfl
         replace hI := hI.erase 1
         replace hI := hI.erase 0
         exact .inl ⟨true, _, by simp only [Bt.delete, hrk, eq_true (show 1 < l5.length ∧ (x_27.ents.length : Int) - 1 ≤ 2 by omega), hx7, hx37, hx55, hx69, hlast, hfd_hfl33, Bool.false_eq_true, reduceCtorEq, hgl, hgk, if_true, if_false, ite_true, ite_false, reduceCtorEq], rfl, _, _, (((hD13.trans hD40).trans hD58).trans hD72), hT73, hI⟩
        replace hI := hI.put_back 2
        try simp only [nrm, Value.cells] at hI
        refine za hE ?_; clear hE a; intro a hE
        refine wnt ?_
        refine wp_seq ?_
        refine wsr ?_
        refine zm hE ?_; clear hE a; intro a hE
        refine zs hE (p_ifaceNil Tryd.underlying25 rfl rfl rfl) ?_; clear hE a; intro a hE
        refine wnt ?_
        refine c_true hE rfl ?_
        refine wsr ?_
        refine zm hE ?_; clear hE a; intro a hE
        replace hI := hI.bring 2
        replace hI := hI.bring 2
        refine l_step rfl (o_callv (vs := #[]) hE rfl rfl rfl rfl rfl (by simp) ent_107 (back_spec hI rfl (hV35.mono ((hD40.trans hD58).trans hD78)) hT79 (hext_hx37.trans (hext_hx55.trans hext82))) ?_)
        clear hI hE a
        rintro r w ⟨s83, hT84, hI, rfl⟩ a hE
        refine wnt ?_
        refine wsr ?_
        refine zm hE ?_; clear hE a; intro a hE
        refine za hE ?_; clear hE a; intro a hE
        refine za hE ?_; clear hE a; intro a hE
        refine wnt ?_
        refine wp_ret ?_
        refine then_ret ?_
        refine ret2 rfl hE rfl rfl ?_
        have hlast : lastPg l5 = x_27 := lastPg_eq hx_27
        have hgl : l5.getD (l5.length - 2) (newPg 0) = x_51 := by rw [List.getD_eq_getElem?_getD, hx_51]; rfl
        have hgk : ks6.getLastD 0 = x_54 := by rw [List.getLastD_eq_getLast?, List.getLast?_eq_getElem?, hx_54]; rfl
        replace hI := hI.erase 1
        exact .inr ⟨_, o75, by simp only [Bt.delete, hrk, eq_true (show 1 < l5.length ∧ (x_27.ents.length : Int) - 1 ≤ 2 by omega), hx7, hx37, hx55, hx69, hlast, hfd_hfl33, Bool.false_eq_true, reduceCtorEq, hgl, hgk, if_true, if_false, ite_true, ite_false, reduceCtorEq], rfl, _, _, (((hD13.trans hD40).trans hD58).trans hD78), hT84, hI⟩
       replace hI := hI.put_back 2
       try simp only [nrm, Value.cells] at hI
       refine ⟨nl, ?_⟩
       refine dp 14 hE rfl (p_assign rfl) nl ?_; clear hE a; intro a hE
       refine d_done (by kernel_rfl) ?_
       refine then_normal ?_
       refine wp_seq ?_
       refine wsr ?_
       refine zm hE ?_; clear hE a; intro a hE
       refine zs hE (p_ifaceNil Tryd.underlying25 rfl rfl rfl) ?_; clear hE a; intro a hE
       refine wnt ?_
       refine c_false hE rfl ?_
       refine wp_skip ?_
       refine then_normal ?_
       refine wp_seq ?_
       refine wsr ?_
       refine zm hE ?_; clear hE a; intro a hE
       refine zs hE (p_ifaceNil Tryd.underlying25 rfl rfl rfl) ?_; clear hE a; intro a hE
       refine wnt ?_
       refine c_true hE rfl ?_
       refine wsr ?_
       refine zm hE ?_; clear hE a; intro a hE
       replace hI := hI.bring 2
       replace hI := hI.bring 2
       refine l_step rfl (o_callv (vs := #[]) hE rfl rfl rfl rfl rfl (by simp) ent_107 (back_spec hI rfl (hV35.mono (hD40.trans hD64)) hT65 (hext_hx37.trans hext68)) ?_)
       clear hI hE a
       rintro r w ⟨s85, hT86, hI, rfl⟩ a hE
       refine wnt ?_
       refine wsr ?_
       refine zm hE ?_; clear hE a; intro a hE
       refine za hE ?_; clear hE a; intro a hE
       refine za hE ?_; clear hE a; intro a hE
       refine wnt ?_
       refine wp_ret ?_
       refine then_ret ?_
       refine ret2 rfl hE rfl rfl ?_
       have hlast : lastPg l5 = x_27 := lastPg_eq hx_27
       have hgl : l5.getD (l5.length - 2) (newPg 0) = x_51 := by rw [List.getD_eq_getElem?_getD, hx_51]; rfl
       have hgk : ks6.getLastD 0 = x_54 := by rw [List.getLastD_eq_getLast?, List.getLast?_eq_getElem?, hx_54]; rfl
       replace hI := hI.erase 1
       exact .inr ⟨_, o61, by simp only [Bt.delete, hrk, eq_true (show 1 < l5.length ∧ (x_27.ents.length : Int) - 1 ≤ 2 by omega), hx7, hx37, hx55, hlast, hfd_hfl33, Bool.false_eq_true, reduceCtorEq, hgl, hgk, if_true, if_false, ite_true, ite_false, reduceCtorEq], rfl, _, _, ((hD13.trans hD40).trans hD64), hT86, hI⟩
      intro hfew; replace hfew := leq_f hfew; clear hE a; intro a hE
      refine zs hE (p_pick (b := true) rfl rfl) ?_; clear hE a; intro a hE
      refine wnt ?_
      refine c_false hE rfl ?_
      refine wp_skip ?_
      refine then_normal ?_
      refine wp_seq ?_
      refine wsr ?_
      refine zm hE ?_; clear hE a; intro a hE
      refine zs hE (p_ifaceNil Tryd.underlying25 rfl rfl rfl) ?_; clear hE a; intro a hE
      refine wnt ?_
      refine c_true hE rfl ?_
      refine wp_region_list ?_
      refine zm hE ?_; clear hE a; intro a hE
      refine l_step rfl (o_call hE rfl rfl rfl rfl ent_100 (sink_spec (hI.bring 2) (hS.mono (hD13.trans hD40)) hT41 (by omega)) ?_)
      clear hI hE a
      rintro r w h a hE; rcases h with ⟨b88, hx87, rfl, D89, s94, hD90, hT91, hI⟩ | ⟨c92, o93, hx87, rfl, b99, D95, s98, hext100, hD96, hT97, hI⟩
      ·skip
       replace hI := hI.put_back 2
       try simp only [nrm, Value.cells] at hI
       refine za hE ?_; clear hE a; intro a hE
       refine wnt ?_
       refine wp_seq ?_
       refine wsr ?_
       refine zm hE ?_; clear hE a; intro a hE
       refine zs hE (p_ifaceNil Tryd.underlying25 rfl rfl rfl) ?_; clear hE a; intro a hE
       refine wnt ?_
       refine c_false hE rfl ?_
       refine wp_skip ?_
       refine then_normal ?_
       refine wsr ?_
       refine za hE ?_; clear hE a; intro a hE
       refine za hE ?_; clear hE a; intro a hE
       refine wnt ?_
       refine wp_ret ?_
       refine ret2 rfl hE rfl rfl ?_
       have hlast : lastPg l5 = x_27 := lastPg_eq hx_27
       replace hI := hI.erase 1
       replace hI := hI.erase 0
       exact .inl ⟨true, _, by simp only [Bt.delete, hrk, eq_false (show ¬ (1 < l5.length ∧ (x_27.ents.length : Int) - 1 ≤ 2) by omega), hx7, hx37, hx87, hlast, hfd_hfl33, Bool.false_eq_true, reduceCtorEq, if_true, if_false, ite_true, ite_false, reduceCtorEq], rfl, _, _, ((hD13.trans hD40).trans hD90), hT91, hI⟩
      replace hI := hI.put_back 2
      try simp only [nrm, Value.cells] at hI
      refine za hE ?_; clear hE a; intro a hE
      refine wnt ?_
      refine wp_seq ?_
      refine wsr ?_
      refine zm hE ?_; clear hE a; intro a hE
      refine zs hE (p_ifaceNil Tryd.underlying25 rfl rfl rfl) ?_; clear hE a; intro a hE
      refine wnt ?_
      refine c_true hE rfl ?_
      refine wsr ?_
      refine zm hE ?_; clear hE a; intro a hE
      replace hI := hI.bring 2
      replace hI := hI.bring 2
      refine l_step rfl (o_callv (vs := #[]) hE rfl rfl rfl rfl rfl (by simp) ent_107 (back_spec hI rfl (hV35.mono (hD40.trans hD96)) hT97 (hext_hx37.trans hext100)) ?_)
      clear hI hE a
      rintro r w ⟨s101, hT102, hI, rfl⟩ a hE
      refine wnt ?_
      refine wsr ?_
      refine zm hE ?_; clear hE a; intro a hE
      refine za hE ?_; clear hE a; intro a hE
      refine za hE ?_; clear hE a; intro a hE
      refine wnt ?_
      refine wp_ret ?_
      refine then_ret ?_
      refine ret2 rfl hE rfl rfl ?_
      have hlast : lastPg l5 = x_27 := lastPg_eq hx_27
      replace hI := hI.erase 1
      exact .inr ⟨_, o93, by simp only [Bt.delete, hrk, eq_false (show ¬ (1 < l5.length ∧ (x_27.ents.length : Int) - 1 ≤ 2) by omega), hx7, hx37, hx87, hlast, hfd_hfl33, Bool.false_eq_true, reduceCtorEq, if_true, if_false, ite_true, ite_false, reduceCtorEq], rfl, _, _, ((hD13.trans hD40).trans hD96), hT102, hI⟩
     intro hl1; replace hl1 := gtr_f hl1; clear hE a; intro a hE
     refine zs hE (p_pick (b := true) rfl rfl) ?_; clear hE a; intro a hE
     refine zm hE ?_; clear hE a; intro a hE
     refine zk hE ?_; clear hE a; intro a hE
     refine zk hE ?_; clear hE a; intro a hE
     refine zk hE ?_; clear hE a; intro a hE
     refine zk hE ?_; clear hE a; intro a hE
     refine zk hE ?_; clear hE a; intro a hE
     refine zs hE (p_pick (b := false) rfl rfl) ?_; clear hE a; intro a hE
     refine wnt ?_
     refine c_false hE rfl ?_
     refine wp_skip ?_
     refine then_normal ?_
     refine wp_seq ?_
     refine wsr ?_
     refine zm hE ?_; clear hE a; intro a hE
     refine zs hE (p_ifaceNil Tryd.underlying25 rfl rfl rfl) ?_; clear hE a; intro a hE
     refine wnt ?_
     refine c_true hE rfl ?_
     refine wp_region_list ?_
     refine zm hE ?_; clear hE a; intro a hE
     refine l_step rfl (o_call hE rfl rfl rfl rfl ent_100 (sink_spec (hI.bring 2) (hS.mono (hD13.trans hD40)) hT41 (by omega)) ?_)
     clear hI hE a
     rintro r w h a hE; rcases h with ⟨b104, hx103, rfl, D105, s110, hD106, hT107, hI⟩ | ⟨c108, o109, hx103, rfl, b115, D111, s114, hext116, hD112, hT113, hI⟩
     ·skip
      replace hI := hI.put_back 2
      try simp only [nrm, Value.cells] at hI
      refine za hE ?_; clear hE a; intro a hE
      refine wnt ?_
      refine wp_seq ?_
      refine wsr ?_
      refine zm hE ?_; clear hE a; intro a hE
      refine zs hE (p_ifaceNil Tryd.underlying25 rfl rfl rfl) ?_; clear hE a; intro a hE
      refine wnt ?_
      refine c_false hE rfl ?_
      refine wp_skip ?_
      refine then_normal ?_
      refine wsr ?_
      refine za hE ?_; clear hE a; intro a hE
      refine za hE ?_; clear hE a; intro a hE
      refine wnt ?_
      refine wp_ret ?_
      refine ret2 rfl hE rfl rfl ?_
      have hlast : lastPg l5 = x_27 := lastPg_eq hx_27
      replace hI := hI.erase 1
      replace hI := hI.erase 0
      exact .inl ⟨true, _, by simp only [Bt.delete, hrk, eq_false (show ¬ (1 < l5.length ∧ (x_27.ents.length : Int) - 1 ≤ 2) by omega), hx7, hx37, hx103, hlast, hfd_hfl33, Bool.false_eq_true, reduceCtorEq, if_true, if_false, ite_true, ite_false, reduceCtorEq], rfl, _, _, ((hD13.trans hD40).trans hD106), hT107, hI⟩
     replace hI := hI.put_back 2
     try simp only [nrm, Value.cells] at hI
     refine za hE ?_; clear hE a; intro a hE
     refine wnt ?_
     refine wp_seq ?_
     refine wsr ?_
     refine zm hE ?_; clear hE a; intro a hE
     refine zs hE (p_ifaceNil Tryd.underlying25 rfl rfl rfl) ?_; clear hE a; intro a hE
     refine wnt ?_
     refine c_true hE rfl ?_
     refine wsr ?_
     refine zm hE ?_; clear hE a; intro a hE
     replace hI := hI.bring 2
     replace hI := hI.bring 2
     refine l_step rfl (o_callv (vs := #[]) hE rfl rfl rfl rfl rfl (by simp) ent_107 (back_spec hI rfl (hV35.mono (hD40.trans hD112)) hT113 (hext_hx37.trans hext116)) ?_)
     clear hI hE a
     rintro r w ⟨s117, hT118, hI, rfl⟩ a hE
     refine wnt ?_
     refine wsr ?_
     refine zm hE ?_; clear hE a; intro a hE
     refine za hE ?_; clear hE a; intro a hE
     refine za hE ?_; clear hE a; intro a hE
     refine wnt ?_
     refine wp_ret ?_
     refine then_ret ?_
     refine ret2 rfl hE rfl rfl ?_
     have hlast : lastPg l5 = x_27 := lastPg_eq hx_27
     replace hI := hI.erase 1
     exact .inr ⟨_, o109, by simp only [Bt.delete, hrk, eq_false (show ¬ (1 < l5.length ∧ (x_27.ents.length : Int) - 1 ≤ 2) by omega), hx7, hx37, hx103, hlast, hfd_hfl33, Bool.false_eq_true, reduceCtorEq, if_true, if_false, ite_true, ite_false, reduceCtorEq], rfl, _, _, ((hD13.trans hD40).trans hD112), hT118, hI⟩
    replace hI := hI.put_back 2
    try simp only [nrm, Value.cells] at hI
    refine za hE ?_; clear hE a; intro a hE
    refine wnt ?_
    refine wp_seq ?_
    refine wp_seq ?_
    have hne_hfl33 : 1 ≤ x_27.ents.length := by omega
    have hle_hfl33 := hok_27.len
    refine wp_region_list ?_
    refine zm hE ?_; clear hE a; intro a hE
    refine zs hE (p_ifaceNil Tryd.underlying25 rfl rfl rfl) ?_; clear hE a; intro a hE
    refine zm hE ?_; clear hE a; intro a hE
    refine zk hE ?_; clear hE a; intro a hE
    refine zk hE ?_; clear hE a; intro a hE
    refine zk hE ?_; clear hE a; intro a hE
    refine zs hE (p_pick (b := false) rfl rfl) ?_; clear hE a; intro a hE
    refine zm hE ?_; clear hE a; intro a hE
    refine zk hE ?_; clear hE a; intro a hE
    refine zk hE ?_; clear hE a; intro a hE
    refine zk hE ?_; clear hE a; intro a hE
    refine zk hE ?_; clear hE a; intro a hE
    refine zk hE ?_; clear hE a; intro a hE
    refine zs hE (p_pick (b := false) rfl rfl) ?_; clear hE a; intro a hE
    refine wnt ?_
    refine c_false hE rfl ?_
    refine wp_skip ?_
    refine then_normal ?_
    refine wp_seq ?_
    refine wsr ?_
    refine zm hE ?_; clear hE a; intro a hE
    refine zs hE (p_ifaceNil Tryd.underlying25 rfl rfl rfl) ?_; clear hE a; intro a hE
    refine wnt ?_
    refine c_false hE rfl ?_
    refine wp_skip ?_
    refine then_normal ?_
    refine wp_seq ?_
    refine wsr ?_
    refine zm hE ?_; clear hE a; intro a hE
    refine zs hE (p_ifaceNil Tryd.underlying25 rfl rfl rfl) ?_; clear hE a; intro a hE
    refine wnt ?_
    refine c_true hE rfl ?_
    refine wsr ?_
    refine zm hE ?_; clear hE a; intro a hE
    replace hI := hI.bring 2
    replace hI := hI.bring 2
    refine l_step rfl (o_callv (vs := #[]) hE rfl rfl rfl rfl rfl (by simp) ent_107 (back_spec hI rfl (hV35.mono hD46) hT47 (Ext.refl _)) ?_)
    clear hI hE a
    rintro r w ⟨s119, hT120, hI, rfl⟩ a hE
    refine wnt ?_
    refine wsr ?_
    refine zm hE ?_; clear hE a; intro a hE
    refine za hE ?_; clear hE a; intro a hE
    refine za hE ?_; clear hE a; intro a hE
    refine wnt ?_
    refine wp_ret ?_
    refine then_ret ?_
    refine ret2 rfl hE rfl rfl ?_
    have hlast : lastPg l5 = x_27 := lastPg_eq hx_27
    replace hI := hI.erase 1
    exact .inr ⟨_, o43, by simp only [Bt.delete, hrk, hx7, hx37, hlast, hfd_hfl33, Bool.false_eq_true, reduceCtorEq, if_true, if_false, ite_true, ite_false, reduceCtorEq], rfl, _, _, (hD13.trans hD46), hT120, hI⟩
   replace hbf32 := iff_f hbf32
   have hfd_hfl33 : (findP x_27.ents key).2 = false := by simpa using hbf32
   refine zs hE (p_not rfl) ?_; clear hE a; intro a hE
   refine wnt ?_
   refine c_true hE rfl ?_
   refine wsr ?_
   refine za hE ?_; clear hE a; intro a hE
   refine za hE ?_; clear hE a; intro a hE
   refine wnt ?_
   refine wp_ret ?_
   refine then_ret ?_
   refine ret2 rfl hE rfl rfl ?_
   have hlast : lastPg l5 = x_27 := lastPg_eq hx_27
   replace hI := hI.erase 0
   exact .inl ⟨false, _, by simp only [Bt.delete, hrk, hx7, hlast, hfd_hfl33, Bool.false_eq_true, reduceCtorEq, if_true, if_false, ite_true, ite_false, reduceCtorEq], rfl, _, _, hD13, hT16, hI⟩
  refine zm hE ?_; clear hE a; intro a hE
  refine zx hE ?_; clear hE a; intro a hE
  refine zx hE ?_; clear hE a; intro a hE
  refine zx hE ?_; clear hE a; intro a hE
  refine za hE ?_; clear hE a; intro a hE
  refine za hE ?_; clear hE a; intro a hE
  refine za hE ?_; clear hE a; intro a hE
  refine wnt ?_
  refine wp_seq ?_
  refine wsr ?_
  refine zm hE ?_; clear hE a; intro a hE
  refine zs hE (p_ifaceNil Tryd.underlying25 rfl rfl rfl) ?_; clear hE a; intro a hE
  refine wnt ?_
  refine c_true hE rfl ?_
  refine wsr ?_
  refine zm hE ?_; clear hE a; intro a hE
  refine za hE ?_; clear hE a; intro a hE
  refine za hE ?_; clear hE a; intro a hE
  refine wnt ?_
  refine wp_ret ?_
  refine then_ret ?_
  refine ret2 rfl hE rfl rfl ?_
  exact .inr ⟨_, o18, by simp only [Bt.delete, hrk, hx7, if_true, if_false, ite_true, ite_false, reduceCtorEq], rfl, _, _, hD21, hT22, hI⟩
 replace hbf4 := iff_f hbf4
 have hrk : rightK key = false := by simpa using hbf4
 refine zs hE (p_not rfl) ?_; clear hE a; intro a hE
 refine wnt ?_
 refine c_true hE rfl ?_
 refine wp_seq ?_
 refine d_start [] [] (by kernel_rfl) hI rfl rfl ?_
 clear hI w; intro w hI
 obtain ⟨T_121, fr_121, hg_121⟩ := hS.g105
 refine dl 0 hE rfl (fun w hS => f_load rfl scal_25 (Inv.data hS _ _ (hg_121)) rfl) (hI) (listed' := #[true, false, false]) ?_; clear hE a; intro a hE
 refine dp 1 hE rfl (p_assign rfl) (fun _ => hI) ?_; clear hE a; intro a hE
 refine dp 2 hE rfl (p_assign rfl) (fun _ => hI) ?_; clear hE a; intro a hE
 refine d_done (by kernel_rfl) ?_
 refine then_normal ?_
 refine wp_ret ?_
 refine then_ret ?_
 refine ret2 rfl hE rfl rfl ?_
 exact .inr ⟨105, none, by simp only [Bt.delete, hrk, if_true, if_false, ite_true, ite_false, reduceCtorEq], rfl, _, _, (Le.refl _), hT, hI⟩
end Go.Proofs.YtbogbnkckofpdaaDoor.B
