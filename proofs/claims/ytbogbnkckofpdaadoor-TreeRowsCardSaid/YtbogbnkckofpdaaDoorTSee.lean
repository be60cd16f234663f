/- What functions of the program compute, each function once: steps over the model, and the plain law of it. -/
import Derived.Test.YtbogbnkckofpdaaDoorTWireMath
import Derived.Test.YtbogbnkckofpdaaDoorProg
namespace Go.Proofs.YtbogbnkckofpdaaDoor.B
open Go Go.Proofs
set_option linter.unusedVariables false
set_option linter.unusedSimpArgs false
set_option maxRecDepth 20000
set_option maxHeartbeats 8000000
namespace FTSee
theorem scal_25 : isScal Tryd.prog 25 = true := by kernel_rfl
theorem scal_3 : isScal Tryd.prog 3 = true := by kernel_rfl
theorem scal_4 : isScal Tryd.prog 4 = true := by kernel_rfl
end FTSee
open FTSee
/-- All of api's errors. -/
structure Sents (D : Sto) (ad : Nat → Addr) : Prop where
 g101 : GlobIs D 2 (errV ad 101)
 g102 : GlobIs D 7 (errV ad 102)
 g103 : GlobIs D 1 (errV ad 103)
 g104 : GlobIs D 5 (errV ad 104)
 g105 : GlobIs D 0 (errV ad 105)
 g106 : GlobIs D 4 (errV ad 106)
 g107 : GlobIs D 8 (errV ad 107)
 g108 : GlobIs D 9 (errV ad 108)
 g109 : GlobIs D 10 (errV ad 109)
 g110 : GlobIs D 11 (errV ad 110)
 g111 : GlobIs D 12 (errV ad 111)
 g112 : GlobIs D 13 (errV ad 112)
 g113 : GlobIs D 3 (errV ad 113)
 g114 : GlobIs D 14 (errV ad 114)
 g115 : GlobIs D 15 (errV ad 115)
 g116 : GlobIs D 16 (errV ad 116)
 g117 : GlobIs D 17 (errV ad 117)
 ne : ∀ j k, 101 ≤ j → j ≤ 117 → 101 ≤ k → k ≤ 117 → j ≠ k → ad j ≠ ad k
 cell : ∀ k, 101 ≤ k → k ≤ 117 → ∃ c T, D (ad k).block = some (.cells c T (0, 0))
theorem Sents.mono {D D' : Sto} {ad : Nat → Addr} (h : Sents D ad) (hD : Le D D') : Sents D' ad :=
 ⟨h.g101.mono hD, h.g102.mono hD, h.g103.mono hD, h.g104.mono hD, h.g105.mono hD, h.g106.mono hD, h.g107.mono hD, h.g108.mono hD, h.g109.mono hD, h.g110.mono hD, h.g111.mono hD, h.g112.mono hD, h.g113.mono hD, h.g114.mono hD, h.g115.mono hD, h.g116.mono hD, h.g117.mono hD, h.ne, fun k h1 h2 => by obtain ⟨c, T, hc⟩ := h.cell k h1 h2; exact ⟨c, T, hD _ _ hc⟩⟩
def Flt.c : Flt → Int
 | .none => 0
 | .bare c => (c : Nat)
 | .at_ c _ => (c : Nat)
def Flt.b : Flt → Bool
 | .at_ _ _ => true
 | _ => false
def Flt.p : Flt → Int
 | .at_ _ p => p
 | _ => 0
end Go.Proofs.YtbogbnkckofpdaaDoor.B
