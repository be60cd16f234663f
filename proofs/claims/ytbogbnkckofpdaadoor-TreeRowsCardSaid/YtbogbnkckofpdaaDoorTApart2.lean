/- What functions of the program compute, each function once: steps over the model, and the plain law of it. -/
import Derived.Test.YtbogbnkckofpdaaDoorTApart
import Derived.Test.YtbogbnkckofpdaaDoorTTree7
import Derived.Test.YtbogbnkckofpdaaDoorTTreeLaid
import Derived.Test.YtbogbnkckofpdaaDoorTCheckP
import Derived.Test.YtbogbnkckofpdaaDoorTValues
namespace Go.Proofs.YtbogbnkckofpdaaDoor.B
open Go Go.Proofs
set_option linter.unusedVariables false
set_option linter.unusedSimpArgs false
theorem BDel_ok {w0 w : World} {D : Sto} {ss : List Seg} {sb sp : Seg} {vb vp : Value} {b b' : Bt} {P : Pl} {res : Bool} (hI : Inv w0 D (sb :: sp :: ss) w) {ad : Nat → Addr} (hS : TSents D ad) (hB : BatchS D vb vp b sb) (hP : PoolS D vp P sp) (hpool : b.pool = P.f) {vk : Value} {key : Bs} (hk : RB D vk key) (hlen : b.recs.length ≤ 1000000000 - 8000) (hok : b.delete key = .ok (res, b')) :
  Calls Tryd.prog 52 #[vb, vk] w (Ret fun r w' => r = .tuple #[.bool res, .nilIface] ∧ ∃ D' sb' sp', Le D D' ∧ BatchS D' vb vp b' sb' ∧ PoolS D' vp P sp' ∧ Inv w0 D' (sb' :: sp' :: ss) w') := by
 refine (BDelete_spec hI.merge hS (TreeS.join hB hP hpool) hk hlen).mono fun e w' h => ?_
 obtain ⟨r, he, h⟩ := h
 refine ⟨r, he, ?_⟩
 rcases h with ⟨res1, b1, h1, rfl, D', s', hD, hT, hI'⟩ | ⟨c, o, h1, _⟩
 ·rw [hok] at h1; injection h1 with h1; injection h1 with h1 h2; subst h1; subst h2
  obtain ⟨sb', sp', rfl, hB', hP', _⟩ := hT
  exact ⟨rfl, D', sb', sp', hD, hB', hP', hI'.parted⟩
 rw [hok] at h1; cases h1
/-- A pool has no more pages than there are. -/
theorem PoolS.n_le {D : Sto} {vp : Value} {P : Pl} {s : Seg} {n : Int} (h : PoolS D vp P s) (hO : PlOk P n) : P.n ≤ 256 := by
 obtain ⟨bp, bl, bw, es, clk, m, es', clk', mw, h1, h2, h3, h4, h5, h6, h7⟩ := h
 have hl : (m.map (·.1)).length ≤ 256 := ints_len h3.nd (fun i hi => by
  obtain ⟨⟨k, v⟩, hp, rfl⟩ := List.mem_map.1 hi
  have hg := getM_of_mem h3.nd hp
  cases hf : P.f k with
  | none => rw [h4.none hf] at hg; cases hg
  | some x =>
   have := hO k x hf
   rw [← this.2.1]; exact this.1.id)
 rw [List.length_map] at hl
 omega
theorem lit_two {w0 w : World} {D : Sto} {ss : List Seg} {b n m T : Nat} (i : Nat) (hI : Inv w0 D ss w) (hn : n < 256) (hm : m < 256) (hi : ss[i]? = some [(b, .cells #[.int .u8 (n : Nat), .int .u8 (m : Nat)] T (0, 0))]) :
  ∃ D', Le D D' ∧ Inv w0 D' (ss.eraseIdx i) w ∧ RB D' (.slice (some ⟨b, 0, none⟩) 2 2) [n, m] :=
 ⟨_, (hI.shut_at i hi).2, (hI.shut_at i hi).1, RB.lit (bs := [n, m]) (by intro x hx; simp only [List.mem_cons, List.not_mem_nil, or_false] at hx; omega)⟩
end Go.Proofs.YtbogbnkckofpdaaDoor.B
