/- What functions of the program compute, each function once: steps over the model, and the plain law of it. -/
import Derived.Test.YtbogbnkckofpdaaDoorTWirePure
import Derived.Test.YtbogbnkckofpdaaDoorProg
namespace Go.Proofs.YtbogbnkckofpdaaDoor.B
open Go Go.Proofs
set_option linter.unusedVariables false
set_option linter.unusedSimpArgs false
set_option maxRecDepth 20000
set_option maxHeartbeats 8000000
namespace FTUndo
theorem ent_54 : enters Tryd.prog 54 = true := by kernel_rfl
theorem scal_25 : isScal Tryd.prog 25 = true := by kernel_rfl
theorem scal_5 : isScal Tryd.prog 5 = true := by kernel_rfl
theorem sz_5 : (Tryd.prog.info? 5).map (·.size) = some 1 := by kernel_rfl
theorem zs_5 : (Tryd.prog.info? 5).map (fun i => (i.zero, i.size)) = some (some (.int .u8 0), 1) := by kernel_rfl
theorem zsb_5 : (Tryd.prog.info? 5).map (fun i => (i.zero, i.size, i.bytes)) = some (some (.int .u8 0), 1, 1) := by kernel_rfl
end FTUndo
open FTUndo
def Ans (p : Prop) (R : World → Prop) (r : Value) (w : World) : Prop := (r = .bool true ∧ p ∧ R w) ∨ (r = .bool false ∧ ¬ p ∧ R w)
def ltB : List Nat → List Nat → Bool
 | _, [] => false
 | [], _ :: _ => true
 | a :: xs, b :: ys => if a = b then ltB xs ys else decide (a < b)
theorem in_spec {w0 w : World} {D : Sto} {ss : List Seg} (hI : Inv w0 D ss w) (n m : Int) :
  Calls Tryd.prog 54 #[.int .i64 n, .int .i64 m] w (Ret fun r w' => Ans (0 ≤ n ∧ n < m) (Inv w0 D ss) r w') := by
 refine enter (N := 12) Tryd.func54 rfl rfl rfl ?_
 intro a hE
 refine wsr ?_
 refine za hE ?_; clear hE a; intro a hE
 refine wnt ?_
 refine wsr ?_
 refine zm hE ?_; clear hE a; intro a hE
 refine l_step rfl (o_cmp hE rfl rfl rfl rfl rfl rfl ?_ ?_)
 ·intro h1; replace h1 := geq_t h1; clear hE a; intro a hE
  refine zm hE ?_; clear hE a; intro a hE
  refine gs hE (p_move rfl) ?_; clear hE a; intro a hE
  refine gs hE (p_move rfl) ?_; clear hE a; intro a hE
  refine l_go hE rfl (o_cmp hE rfl rfl rfl rfl rfl rfl ?_ ?_)
  ·intro h2; replace h2 := lss_t h2; clear hE a; intro a hE
   refine zs hE (p_pick (b := true) rfl rfl) ?_; clear hE a; intro a hE
   refine za hE ?_; clear hE a; intro a hE
   refine wnt ?_
   refine wp_ret ?_
   refine ret1 rfl hE rfl ?_
   exact .inl ⟨rfl, by omega, hI⟩
  intro h2; replace h2 := lss_f h2; clear hE a; intro a hE
  refine zs hE (p_pick (b := true) rfl rfl) ?_; clear hE a; intro a hE
  refine za hE ?_; clear hE a; intro a hE
  refine wnt ?_
  refine wp_ret ?_
  refine ret1 rfl hE rfl ?_
  exact .inr ⟨rfl, by omega, hI⟩
 intro h1; replace h1 := geq_f h1; clear hE a; intro a hE
 refine zm hE ?_; clear hE a; intro a hE
 refine zk hE ?_; clear hE a; intro a hE
 refine zk hE ?_; clear hE a; intro a hE
 refine zk hE ?_; clear hE a; intro a hE
 refine zs hE (p_pick (b := false) rfl rfl) ?_; clear hE a; intro a hE
 refine za hE ?_; clear hE a; intro a hE
 refine wnt ?_
 refine wp_ret ?_
 refine ret1 rfl hE rfl ?_
 exact .inr ⟨rfl, by omega, hI⟩
theorem Page_spec {w0 w : World} {D : Sto} {ss : List Seg} (hI : Inv w0 D ss w) (n : Int) :
  Calls Tryd.prog 19 #[.int .i64 n] w (Ret fun r w' => Ans (0 ≤ n ∧ n < 256) (Inv w0 D ss) r w') := by
 refine enter (N := 5) Tryd.func19 rfl rfl rfl ?_
 intro a hE
 refine wsr ?_
 refine za hE ?_; clear hE a; intro a hE
 refine wnt ?_
 refine wsr ?_
 refine zm hE ?_; clear hE a; intro a hE
 refine l_step rfl (o_call hE rfl rfl rfl rfl ent_54 (in_spec hI n 256) ?_)
 clear hI hE a
 rintro r w h a hE; rcases h with ⟨rfl, hx, hI⟩ | ⟨rfl, hx, hI⟩
 ·skip
  refine za hE ?_; clear hE a; intro a hE
  refine wnt ?_
  refine wp_ret ?_
  refine ret1 rfl hE rfl ?_
  exact .inl ⟨rfl, hx, hI⟩
 refine za hE ?_; clear hE a; intro a hE
 refine wnt ?_
 refine wp_ret ?_
 refine ret1 rfl hE rfl ?_
 exact .inr ⟨rfl, hx, hI⟩
end Go.Proofs.YtbogbnkckofpdaaDoor.B
