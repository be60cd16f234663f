/- What functions of the program compute, each function once: steps over the model, and the plain law of it. -/
import Derived.Test.YtbogbnkckofpdaaDoorTWireMath
import Derived.Test.YtbogbnkckofpdaaDoorProg
namespace Go.Proofs.YtbogbnkckofpdaaDoor.B
open Go Go.Proofs
set_option linter.unusedVariables false
set_option linter.unusedSimpArgs false
set_option maxRecDepth 20000
set_option maxHeartbeats 8000000
namespace FTWire
theorem ent_73 : enters Tryd.prog 73 = true := by kernel_rfl
theorem scal_22 : isScal Tryd.prog 22 = true := by kernel_rfl
theorem scal_25 : isScal Tryd.prog 25 = true := by kernel_rfl
theorem scal_3 : isScal Tryd.prog 3 = true := by kernel_rfl
theorem scal_5 : isScal Tryd.prog 5 = true := by kernel_rfl
theorem sz_5 : (Tryd.prog.info? 5).map (·.size) = some 1 := by kernel_rfl
theorem zs_5 : (Tryd.prog.info? 5).map (fun i => (i.zero, i.size)) = some (some (.int .u8 0), 1) := by kernel_rfl
theorem zsb_5 : (Tryd.prog.info? 5).map (fun i => (i.zero, i.size, i.bytes)) = some (some (.int .u8 0), 1, 1) := by kernel_rfl
end FTWire
open FTWire
theorem Clone_spec {w0 w : World} {D : Sto} {ss : List Seg} (hI : Inv w0 D ss w) {vb : Value} {bs : List Nat} (hb : RB D vb bs) (hm : bs.length ≤ 140737488355328) :
  Calls Tryd.prog 73 #[vb] w (Ret fun r w' => ∃ s, OB r bs s ∧ Inv w0 D (s :: ss) w') := by
 obtain ⟨A1, c2, rfl, _⟩ := hb.slice
 refine enter (N := 8) Tryd.func73 rfl rfl rfl ?_
 intro a hE
 refine wsr ?_
 refine za hE ?_; clear hE a; intro a hE
 refine wnt ?_
 refine wp_seq ?_
 refine wsr ?_
 refine zm hE ?_; clear hE a; intro a hE
 rcases A1 with _ | A1
 ·skip
  refine zs hE (p_eq rfl rfl (g_none rfl) (e_sliceNil Tryd.underlying22 (rfl)) rfl rfl) ?_; clear hE a; intro a hE
  refine wnt ?_
  refine c_true hE rfl ?_
  refine wsr ?_
  refine za hE ?_; clear hE a; intro a hE
  refine wnt ?_
  refine wp_ret ?_
  refine then_ret ?_
  refine ret1 rfl hE rfl ?_
  obtain rfl := hb.none_nil
  exact ⟨[], Row.nil 5 1, hI.nilseg⟩
 refine zs hE (p_eq rfl rfl (g_none rfl) (e_sliceNil Tryd.underlying22 (rfl)) rfl rfl) ?_; clear hE a; intro a hE
 refine wnt ?_
 refine c_false hE rfl ?_
 refine wp_skip ?_
 refine then_normal ?_
 refine wsr ?_
 refine l_step rfl (f_lit (vs := []) (l := []) hE hI rfl rfl rfl rfl Tryd.underlying22 zs_5 rfl rfl rfl ?_)
 clear hI hE a w; intro a b3 w hE hI
 refine zm hE ?_; clear hE a; intro a hE
 refine l_step rfl (o_appendRB 0 hE hI rfl rfl rfl rfl rfl Tryd.underlying22 zsb_5 rfl (Row.lit (T := 5) (size := 1) (n := 0) rfl (by omega)) hb (by omega) ?_)
 clear hI hE a w; intro v4 s5 w hR6 hI a hE
 obtain ⟨A7, c8, rfl, _⟩ := hR6.slice
 try simp only [nrm, Value.cells] at hI
 refine za hE ?_; clear hE a; intro a hE
 refine wnt ?_
 refine wp_ret ?_
 refine ret1 rfl hE rfl ?_
 exact ⟨_, hR6.cast (by simp [bytesV]) (by omega), hI⟩
end Go.Proofs.YtbogbnkckofpdaaDoor.B
