/- VolGroups: the law sextetlaw19.VolGroups answers true for every page and every number of groups (no conditions). -/
import Derived.Test.YtbogbnkckofpdaaPVolGroupsx1
namespace Go.Proofs.Ytbogbnkckofpdaa.Pure
open Go.RowKit Go.Proofs.Ytbogbnkckofpdaa.PVolGroups Go.Proofs.YtbogbnkckofpdaaW.PrintWords Go.Proofs.YtbogbnkckofpdaaW.PrintLast

/-- YOURS: ∀ (a0 : Int) (a1 : Int), (Lit.int .i64 a0).wf = true → (Lit.int .i64 a1).wf = true → sextetlaw19_VolGroups.f a0 a1 = some true
What it reaches (each with k first where it has rounds; `.mono`: more rounds tell the same; `.l0`, ..: its loops, with `.mono_l`): vol_GroupOf.f, sextetlaw19_first.f, sextetlaw19_VolGroups.f -/
theorem VolGroups : sextetlaw19_VolGroups.Pure := by
  intro a0 a1 _ _
  have h : sextetlaw19_first.f = some true := by decide
  unfold sextetlaw19_VolGroups.f vol_GroupOf.f
  rw [h]
  simp only [Option.bind_some, if_true]
  repeat' split
  all_goals first
    | rfl
    | (simp only [Option.bind_some]; simp)
    | omega

end Go.Proofs.Ytbogbnkckofpdaa.Pure
