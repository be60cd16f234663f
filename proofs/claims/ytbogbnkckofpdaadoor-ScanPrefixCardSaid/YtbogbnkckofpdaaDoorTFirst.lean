/- What functions of the program compute, each function once: steps over the model, and the plain law of it. -/
import Derived.Test.YtbogbnkckofpdaaDoorTCheck
namespace Go.Proofs.YtbogbnkckofpdaaDoor.B
open Go Go.Proofs
set_option linter.unusedVariables false
set_option linter.unusedSimpArgs false
set_option maxRecDepth 20000
set_option maxHeartbeats 8000000
namespace FTFirst
theorem ent_33 : enters Tryd.prog 33 = true := by kernel_rfl
theorem ent_34 : enters Tryd.prog 34 = true := by kernel_rfl
theorem ent_48 : enters Tryd.prog 48 = true := by kernel_rfl
theorem ent_68 : enters Tryd.prog 68 = true := by kernel_rfl
theorem scal_5 : isScal Tryd.prog 5 = true := by kernel_rfl
theorem sz_5 : (Tryd.prog.info? 5).map (·.size) = some 1 := by kernel_rfl
theorem zs_5 : (Tryd.prog.info? 5).map (fun i => (i.zero, i.size)) = some (some (.int .u8 0), 1) := by kernel_rfl
end FTFirst
open FTFirst
theorem lit_data {w0 w : World} {D : Sto} {ss : List Seg} {b T : Nat} {fr : Nat × Nat} (bs : List Nat) (i : Nat) (hI : Inv w0 D ss w) (hi : ss[i]? = some [(b, .cells (bytesV bs).toArray T fr)]) (hb : ∀ x ∈ bs, x < 256) :
    ∃ D', Le D D' ∧ Inv w0 D' (ss.eraseIdx i) w ∧ RB D' (.slice (some ⟨b, 0, none⟩) bs.length bs.length) bs := by
  obtain ⟨h1, h2⟩ := hI.shut_at i hi
  exact ⟨_, h2, h1, RB.lit hb⟩
theorem Inv.part {w0 w : World} {D : Sto} {ss : List Seg} {s1 s2 : Seg} (h : Inv w0 D ((s1 ++ s2) :: ss) w) : Inv w0 D (s1 :: s2 :: ss) w := h.perm (List.Perm.of_eq (by simp))
end Go.Proofs.YtbogbnkckofpdaaDoor.B
