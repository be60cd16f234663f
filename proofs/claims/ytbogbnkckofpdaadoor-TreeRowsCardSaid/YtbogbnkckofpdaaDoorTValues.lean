/- What functions of the program compute, each function once: steps over the model, and the plain law of it. -/
import Derived.Test.YtbogbnkckofpdaaDoorTCheckG
import Derived.Test.YtbogbnkckofpdaaDoorTValuesP
import Derived.Test.YtbogbnkckofpdaaDoorTFirst
import Derived.Test.YtbogbnkckofpdaaDoorTApart
namespace Go.Proofs.YtbogbnkckofpdaaDoor.B
open Go Go.Proofs
set_option linter.unusedVariables false
set_option linter.unusedSimpArgs false
set_option maxRecDepth 20000
set_option maxHeartbeats 8000000
namespace FTValues
theorem ent_20 : enters Tryd.prog 20 = true := by kernel_rfl
theorem ent_30 : enters Tryd.prog 30 = true := by kernel_rfl
theorem ent_32 : enters Tryd.prog 32 = true := by kernel_rfl
theorem ent_33 : enters Tryd.prog 33 = true := by kernel_rfl
theorem ent_34 : enters Tryd.prog 34 = true := by kernel_rfl
theorem ent_35 : enters Tryd.prog 35 = true := by kernel_rfl
theorem ent_36 : enters Tryd.prog 36 = true := by kernel_rfl
theorem ent_37 : enters Tryd.prog 37 = true := by kernel_rfl
theorem ent_45 : enters Tryd.prog 45 = true := by kernel_rfl
theorem fo_88_5 : fieldOff Tryd.prog 88 5 = some 5 := by kernel_rfl
theorem scal_3 : isScal Tryd.prog 3 = true := by kernel_rfl
theorem sz_88 : (Tryd.prog.info? 88).map (·.size) = some 10 := by kernel_rfl
theorem zs_5 : (Tryd.prog.info? 5).map (fun i => (i.zero, i.size)) = some (some (.int .u8 0), 1) := by kernel_rfl
end FTValues
open FTValues
theorem lit_one {w0 w : World} {D : Sto} {ss : List Seg} {b T n : Nat} {fr : Nat × Nat} (i : Nat) (hI : Inv w0 D ss w) (hn : n < 256) (hi : ss[i]? = some [(b, .cells [Value.int .u8 ((n : Nat) : Int)].toArray T fr)]) :
  ∃ D', Le D D' ∧ Inv w0 D' (ss.eraseIdx i) w ∧ RB D' (.slice (some ⟨b, 0, none⟩) 1 1) [n] := lit_data [n] i hI hi (by intro x hx; simp only [List.mem_cons, List.not_mem_nil, or_false] at hx; omega)
end Go.Proofs.YtbogbnkckofpdaaDoor.B
