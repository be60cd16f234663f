/- What functions of the program compute, each function once: steps over the model, and the plain law of it. -/
import Derived.Test.YtbogbnkckofpdaaDoorTWirePure
namespace Go.Proofs.YtbogbnkckofpdaaDoor.B
open Go
def OB (r : Value) (bs : List Nat) (s : Seg) : Prop := Row 5 1 r bs.length (bytesV bs) s
theorem RB.none_nil {D : Sto} {n c : Nat} {bs : List Nat} (h : RB D (.slice none n c) bs) : bs = [] := by
 cases bs with
 | nil => rfl
 | cons x r => obtain ⟨b, o, cs, T, fr, h1, _⟩ := h.at_ (by simp); cases h1
theorem Inv.nilseg {w0 w : World} {D : Sto} {ss : List Seg} (h : Inv w0 D ss w) : Inv w0 D ([] :: ss) w := h.perm (List.Perm.refl _)
end Go.Proofs.YtbogbnkckofpdaaDoor.B
