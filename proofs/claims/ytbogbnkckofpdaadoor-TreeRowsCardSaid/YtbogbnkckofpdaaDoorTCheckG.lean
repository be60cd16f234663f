/- What functions of the program compute, each function once: steps over the model, and the plain law of it. -/
import Derived.Test.YtbogbnkckofpdaaDoorTWalk
import Derived.Test.YtbogbnkckofpdaaDoorTStrEq
namespace Go.Proofs.YtbogbnkckofpdaaDoor.B
open Go Go.Proofs
set_option linter.unusedVariables false
set_option linter.unusedSimpArgs false
set_option maxRecDepth 20000
set_option maxHeartbeats 8000000
namespace FTCheckG
theorem agg_83 : aggSize Tryd.prog 83 = some 5 := by kernel_rfl
theorem built_141 : ∀ vs, Tryd.prog.built 141 vs = Instr.fill (([(0, 1), (1, 1), (2, 1), (3, 1)] : List (Nat × Nat)).toArray[·]?) ([.pointer none, .map none, .slice none 0 0, .int .i64 0] : List Value).toArray vs := fun _ => by kernel_rfl
theorem ent_117 : enters Tryd.prog 117 = true := by kernel_rfl
theorem ent_119 : enters Tryd.prog 119 = true := by kernel_rfl
theorem ent_33 : enters Tryd.prog 33 = true := by kernel_rfl
theorem ent_88 : enters Tryd.prog 88 = true := by kernel_rfl
theorem ent_89 : enters Tryd.prog 89 = true := by kernel_rfl
theorem ent_90 : enters Tryd.prog 90 = true := by kernel_rfl
theorem ent_95 : enters Tryd.prog 95 = true := by kernel_rfl
theorem fo_141_0 : fieldOff Tryd.prog 141 0 = some 0 := by kernel_rfl
theorem fo_141_1 : fieldOff Tryd.prog 141 1 = some 1 := by kernel_rfl
theorem fo_141_2 : fieldOff Tryd.prog 141 2 = some 2 := by kernel_rfl
theorem fo_141_3 : fieldOff Tryd.prog 141 3 = some 3 := by kernel_rfl
theorem fo_69_0 : fieldOff Tryd.prog 69 0 = some 0 := by kernel_rfl
theorem fo_83_0 : fieldOff Tryd.prog 83 0 = some 0 := by kernel_rfl
theorem fo_83_2 : fieldOff Tryd.prog 83 2 = some 2 := by kernel_rfl
theorem fo_83_3 : fieldOff Tryd.prog 83 3 = some 3 := by kernel_rfl
theorem fo_83_4 : fieldOff Tryd.prog 83 4 = some 4 := by kernel_rfl
theorem ik_139 : intKeyed Tryd.prog 139 = some 4 := by kernel_rfl
theorem scal_121 : isScal Tryd.prog 121 = true := by kernel_rfl
theorem scal_139 : isScal Tryd.prog 139 = true := by kernel_rfl
theorem scal_22 : isScal Tryd.prog 22 = true := by kernel_rfl
theorem scal_25 : isScal Tryd.prog 25 = true := by kernel_rfl
theorem scal_3 : isScal Tryd.prog 3 = true := by kernel_rfl
theorem scal_55 : isScal Tryd.prog 55 = true := by kernel_rfl
theorem scal_65 : isScal Tryd.prog 65 = true := by kernel_rfl
theorem sz_69 : (Tryd.prog.info? 69).map (·.size) = some 2 := by kernel_rfl
theorem sz_83 : (Tryd.prog.info? 83).map (·.size) = some 5 := by kernel_rfl
theorem zer_83 : (Tryd.prog.info? 83).bind (·.zero) = some (.agg #[.int .i64 0, .int .i64 0, .int .i64 0, .int .i64 0, .slice none 0 0]) := by kernel_rfl
end FTCheckG
open FTCheckG
theorem newBt_range (P : Pl) : ∀ id x, (newBt P).page id = .ok x → 0 ≤ id ∧ id < 256 := fun id x h => by
 simp only [Bt.page, newBt] at h
 split at h
 ·cases h
 omega
theorem chainOk_iff : ∀ l : List Pg, chainOk l = true ↔ ∀ j x, l[j]? = some x → x.next = (match l[j + 1]? with | some y => y.id | none => -1)
  | [] => by simp [chainOk]
  | [x] => by
    constructor
    · intro h j y hy
      cases j with
      | zero => obtain rfl : x = y := by simpa using hy
                simpa [chainOk] using h
      | succ j => simp at hy
    intro h
    have := h 0 x rfl
    simpa [chainOk] using this
  | x :: y :: r => by
    rw [chainOk, Bool.and_eq_true, decide_eq_true_eq, chainOk_iff (y :: r)]
    constructor
    · rintro ⟨h1, h2⟩ j z hz
      cases j with
      | zero => obtain rfl : x = z := by simpa using hz
                simpa using h1
      | succ j => have := h2 j z (by simpa using hz); simpa using this
    intro h
    exact ⟨by simpa using h 0 x rfl, fun j z hz => by have := h (j + 1) z (by simpa using hz); simpa using this⟩
theorem chain_no {l : List Pg} {j : Nat} {x : Pg} (hx : l[j]? = some x) (h : x.next ≠ (match l[j + 1]? with | some y => y.id | none => -1)) : chainOk l = false := by
 cases hq : chainOk l with
 | false => rfl
 | true => exact absurd ((chainOk_iff l).1 hq j x hx) h
theorem CkOk.start : CkOk ⟨[1], [], 0⟩ := ⟨by simp, by intro i hi; simp only [List.mem_cons, List.not_mem_nil, or_false] at hi; omega, by simp, by simp, by simp⟩
end Go.Proofs.YtbogbnkckofpdaaDoor.B
