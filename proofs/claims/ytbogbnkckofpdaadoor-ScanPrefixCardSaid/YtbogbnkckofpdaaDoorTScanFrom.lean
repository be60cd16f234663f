/- What functions of the program compute, each function once: steps over the model, and the plain law of it. -/
import Derived.Test.YtbogbnkckofpdaaDoorTMade2
namespace Go.Proofs.YtbogbnkckofpdaaDoor.B
open Go Go.Proofs
set_option linter.unusedVariables false
set_option linter.unusedSimpArgs false
set_option maxRecDepth 20000
set_option maxHeartbeats 8000000
namespace FTScanFrom
theorem ent_20 : enters Tryd.prog 20 = true := by kernel_rfl
theorem ent_31 : enters Tryd.prog 31 = true := by kernel_rfl
theorem ent_38 : enters Tryd.prog 38 = true := by kernel_rfl
theorem ent_39 : enters Tryd.prog 39 = true := by kernel_rfl
theorem ent_40 : enters Tryd.prog 40 = true := by kernel_rfl
theorem fo_69_0 : fieldOff Tryd.prog 69 0 = some 0 := by kernel_rfl
theorem scal_22 : isScal Tryd.prog 22 = true := by kernel_rfl
theorem sz_69 : (Tryd.prog.info? 69).map (·.size) = some 2 := by kernel_rfl
end FTScanFrom
open FTScanFrom
theorem toldTo_nil (k : Bs) : toldTo [] k = true := by simp [toldTo]
theorem done_len {kv : Ens} {s n : Nat} (hs : s ≤ kv.length) (h : Done kv s (toldTo []) n) : n = kv.length - s := by
  rcases Nat.lt_or_ge (s + n) kv.length with h1 | h1
  · exact absurd (toldTo_nil _) (h.2 _ (List.getElem?_eq_getElem h1))
  rcases Nat.lt_or_ge (kv.length - s) n with h2 | h2
  · obtain ⟨x, hx, _⟩ := h.1 (kv.length - s) h2
    have := (List.getElem?_eq_some_iff.1 hx).1
    omega
  omega
theorem first22_spec {w0 w : World} {D : Sto} {ss : List Seg} (hI : Inv w0 D ss w) {ad : Nat → Addr} (hS : TSents D ad) :
    Calls Tryd.prog 38 #[] w (Ret fun r w' => ∃ D', Le D D' ∧ Inv w0 D' ss w' ∧ r = .bool true) := by
  refine enter (N := 22) Tryd.func38 rfl rfl rfl ?_
  intro a hE
  refine wsr ?_
  refine qa hE rfl rfl rfl rfl rfl ?_; clear hE a; intro a hE
  refine wnt ?_
  refine wsr ?_
  refine l_step rfl (o_call hE rfl rfl rfl rfl ent_39 (made_spec (l := ([] : List Bs)) hI hS (DR.nil 1 BsR D) (by simp)) ?_)
  clear hI hE a
  rintro r w ⟨D1, q2, vh3, sp4, P5, hD6, rfl, hP7, hO8, hH9, hI⟩ a hE
  obtain ⟨A10, c11, rfl, _⟩ := hH9.slice
  refine qm hE rfl rfl rfl rfl rfl ?_; clear hE a; intro a hE
  refine qs hE rfl rfl rfl (f_extract rfl rfl) ?_; clear hE a; intro a hE
  refine qs hE rfl rfl rfl (f_extract rfl rfl) ?_; clear hE a; intro a hE
  refine qa hE rfl rfl rfl rfl rfl ?_; clear hE a; intro a hE
  refine qa hE rfl rfl rfl rfl rfl ?_; clear hE a; intro a hE
  refine wnt ?_
  refine wp_seq ?_
  refine wsr ?_
  refine qm hE rfl rfl rfl rfl rfl ?_; clear hE a; intro a hE
  refine qs hE rfl rfl rfl (p_eq rfl rfl (g_none rfl) (e_ptrNil Tryd.underlying52 rfl) rfl rfl) ?_; clear hE a; intro a hE
  refine wnt ?_
  refine c_false hE rfl ?_
  refine wp_skip ?_
  refine then_normal ?_
  refine wsr ?_
  refine qm hE rfl rfl rfl rfl rfl ?_; clear hE a; intro a hE
  refine l_step rfl (o_call hE rfl rfl rfl rfl ent_40 (Count_spec (frm := []) (to := []) (s := 0) hI (hS.mono hD6) hP7 hO8 (RB.nil _) (RB.nil _) (by simp) (by simp) (from_nil _)) ?_)
  clear hI hE a
  rintro r w ⟨n12, D13, sp14, rfl, hdn15, hD16, hP17, hI⟩ a hE
  have hn9 : n12 = 0 := by have := done_len (Nat.zero_le _) hdn15; simpa [madeKv] using this
  subst hn9
  refine qm hE rfl rfl rfl rfl rfl ?_; clear hE a; intro a hE
  refine qs hE rfl rfl rfl (f_extract rfl rfl) ?_; clear hE a; intro a hE
  refine qs hE rfl rfl rfl (f_extract rfl rfl) ?_; clear hE a; intro a hE
  refine qa hE rfl rfl rfl rfl rfl ?_; clear hE a; intro a hE
  refine qa hE rfl rfl rfl rfl rfl ?_; clear hE a; intro a hE
  refine wnt ?_
  refine wsr ?_
  refine qm hE rfl rfl rfl rfl rfl ?_; clear hE a; intro a hE
  refine qs hE rfl rfl rfl (p_cmp rfl rfl (eql_y (rfl))) ?_; clear hE a; intro a hE
  refine qm hE rfl rfl rfl rfl rfl ?_; clear hE a; intro a hE
  refine l_go hE rfl (o_pure hE rfl rfl (p_move rfl).run ?_); clear hE a; intro a hE
  refine l_go hE rfl (o_pure hE rfl rfl (p_ifaceNil Tryd.underlying25 rfl rfl rfl).run ?_); clear hE a; intro a hE
  refine qs hE rfl rfl rfl (p_pick (b := true) rfl rfl) ?_; clear hE a; intro a hE
  refine qa hE rfl rfl rfl rfl rfl ?_; clear hE a; intro a hE
  refine wnt ?_
  refine wp_ret ?_
  refine ret1 rfl hE rfl ?_
  exact ⟨_, (hD6.trans hD16), hI.drop, rfl⟩
end Go.Proofs.YtbogbnkckofpdaaDoor.B
