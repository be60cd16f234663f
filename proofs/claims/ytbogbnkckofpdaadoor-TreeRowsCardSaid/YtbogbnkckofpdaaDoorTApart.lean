/- What functions of the program compute, each function once: steps over the model, and the plain law of it. -/
import Derived.Test.YtbogbnkckofpdaaDoorTCheck
import Derived.Test.YtbogbnkckofpdaaDoorTTreeLawA
namespace Go.Proofs.YtbogbnkckofpdaaDoor.B
open Go Go.Proofs
set_option linter.unusedVariables false
set_option linter.unusedSimpArgs false
/-! ### calls upon a batch that lies apart from its pool -/
theorem Inv.parted {w0 w : World} {D : Sto} {ss : List Seg} {s1 s2 : Seg} (h : Inv w0 D ((s1 ++ s2) :: ss) w) : Inv w0 D (s1 :: s2 :: ss) w := h.perm (List.Perm.of_eq (by simp))
theorem BPut_ok {w0 w : World} {D : Sto} {ss : List Seg} {sb sp : Seg} {vb vp : Value} {b b' : Bt} {P : Pl} (hI : Inv w0 D (sb :: sp :: ss) w) {ad : Nat → Addr} (hS : TSents D ad) (hB : BatchS D vb vp b sb) (hP : PoolS D vp P sp) (hpool : b.pool = P.f) {vk vv : Value} {key val : Bs} (hk : RB D vk key) (hv : RB D vv val) (hlen : b.recs.length ≤ 1000000000 - 8000) (hok : b.put key val = .ok b') :
  Calls Tryd.prog 34 #[vb, vk, vv] w (Ret fun r w' => r = .nilIface ∧ ∃ D' sb' sp', Le D D' ∧ BatchS D' vb vp b' sb' ∧ PoolS D' vp P sp' ∧ Inv w0 D' (sb' :: sp' :: ss) w') := by
 refine (BPut_spec hI.merge hS (TreeS.join hB hP hpool) hk hv hlen).mono fun e w' h => ?_
 obtain ⟨r, he, h⟩ := h
 refine ⟨r, he, ?_⟩
 rcases h with ⟨b1, h1, rfl, D', s', hD, hT, hI'⟩ | ⟨c, o, h1, _⟩
 ·rw [hok] at h1; injection h1 with h1; subst h1
  obtain ⟨sb', sp', rfl, hB', hP', _⟩ := hT
  exact ⟨rfl, D', sb', sp', hD, hB', hP', hI'.parted⟩
 rw [hok] at h1; cases h1
theorem Redo_ok {w0 w : World} {D : Sto} {ss : List Seg} {sb sp : Seg} {vb vp : Value} {b : Bt} {P : Pl} (hI : Inv w0 D (sb :: sp :: ss) w) {ad : Nat → Addr} (hS : TSents D ad) (hB : BatchS D vb vp b sb) (hP : PoolS D vp P sp) (hpool : b.pool = P.f) (hlen : b.recs.length ≤ 1000000000) :
  Calls Tryd.prog 37 #[vb] w (Ret fun r w' => ∃ D' sb' sp', Le D D' ∧ DR 10 RcR D' r b.recs ∧ BatchS D' vb vp b sb' ∧ PoolS D' vp P sp' ∧ Inv w0 D' (sb' :: sp' :: ss) w') := by
 refine (Redo_spec hI.merge hS (TreeS.join hB hP hpool) hlen).mono fun e w' h => ?_
 obtain ⟨r, he, D', hD, hI', hr, hT⟩ := h
 refine ⟨r, he, ?_⟩
 obtain ⟨sb', sp', hs, hB', hP', _⟩ := hT
 rw [hs] at hI'
 exact ⟨D', sb', sp', hD, hr, hB', hP', hI'.parted⟩
end Go.Proofs.YtbogbnkckofpdaaDoor.B
