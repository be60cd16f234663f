/- What functions of the program compute, each function once: steps over the model, and the plain law of it. -/
import Derived.Test.YtbogbnkckofpdaaDoorTLaw21
import Derived.Laws.BytesString
namespace Go.Proofs.YtbogbnkckofpdaaDoor.B
open Go Go.Proofs
set_option linter.unusedVariables false
set_option linter.unusedSimpArgs false
set_option maxRecDepth 20000
set_option maxHeartbeats 8000000
namespace FTCheck
theorem agg_83 : aggSize Tryd.prog 83 = some 5 := by kernel_rfl
theorem ent_119 : enters Tryd.prog 119 = true := by kernel_rfl
theorem ent_33 : enters Tryd.prog 33 = true := by kernel_rfl
theorem ent_88 : enters Tryd.prog 88 = true := by kernel_rfl
theorem ent_95 : enters Tryd.prog 95 = true := by kernel_rfl
theorem fo_69_0 : fieldOff Tryd.prog 69 0 = some 0 := by kernel_rfl
theorem fo_83_2 : fieldOff Tryd.prog 83 2 = some 2 := by kernel_rfl
theorem fo_83_3 : fieldOff Tryd.prog 83 3 = some 3 := by kernel_rfl
theorem fo_83_4 : fieldOff Tryd.prog 83 4 = some 4 := by kernel_rfl
theorem ik_139 : intKeyed Tryd.prog 139 = some 4 := by kernel_rfl
theorem scal_139 : isScal Tryd.prog 139 = true := by kernel_rfl
theorem scal_22 : isScal Tryd.prog 22 = true := by kernel_rfl
theorem scal_3 : isScal Tryd.prog 3 = true := by kernel_rfl
theorem scal_55 : isScal Tryd.prog 55 = true := by kernel_rfl
theorem scal_65 : isScal Tryd.prog 65 = true := by kernel_rfl
theorem sz_3 : (Tryd.prog.info? 3).map (·.size) = some 1 := by kernel_rfl
theorem sz_69 : (Tryd.prog.info? 69).map (·.size) = some 2 := by kernel_rfl
theorem sz_83 : (Tryd.prog.info? 83).map (·.size) = some 5 := by kernel_rfl
theorem zer_4 : (Tryd.prog.info? 4).bind (·.zero) = some (.bool false) := by kernel_rfl
theorem zer_83 : (Tryd.prog.info? 83).bind (·.zero) = some (.agg #[.int .i64 0, .int .i64 0, .int .i64 0, .int .i64 0, .slice none 0 0]) := by kernel_rfl
theorem zs_83 : (Tryd.prog.info? 83).map (fun i => (i.zero, i.size)) = some (some (.agg #[.int .i64 0, .int .i64 0, .int .i64 0, .int .i64 0, .slice none 0 0]), 5) := by kernel_rfl
theorem zsb_83 : (Tryd.prog.info? 83).map (fun i => (i.zero, i.size, i.bytes)) = some (some (.agg #[.int .i64 0, .int .i64 0, .int .i64 0, .int .i64 0, .slice none 0 0]), 5, 56) := by kernel_rfl
end FTCheck
open FTCheck
section
variable {P : Program} {ops : Array Oper} {Q : Exit → Act → World → Prop} {a : Act} {w0 w w' : World} {D : Sto} {ss : List Seg} {o : Oper} {N : Nat} {env : Env} {K : Act → World → Prop}
end
theorem TreeS.ptr {D : Sto} {vb vp : Value} {b : Bt} {P : Pl} {s : Seg} (h : TreeS D vb vp b P s) : ∃ bb, vb = .pointer (some ⟨bb, 0, none⟩) := by
  obtain ⟨sb, sp, _, ⟨bb, bo, es, clk, m, vr, sr, h1, _⟩, _⟩ := h; exact ⟨bb, h1⟩
theorem Inv.merge {w0 w : World} {D : Sto} {ss : List Seg} {s1 s2 : Seg} (h : Inv w0 D (s1 :: s2 :: ss) w) : Inv w0 D ((s1 ++ s2) :: ss) w := h.perm (List.Perm.of_eq (by simp))
theorem Inv.right {w0 w : World} {D : Sto} {ss : List Seg} {s1 s2 : Seg} (h : Inv w0 D ((s1 ++ s2) :: ss) w) : Inv w0 D (s2 :: ss) w :=
  (h.perm (ss' := s1 :: s2 :: ss) (List.Perm.of_eq (by simp))).drop
theorem TreeS.join {D : Sto} {vb vp : Value} {b : Bt} {P : Pl} {sb sp : Seg} (h : BatchS D vb vp b sb) (k : PoolS D vp P sp) (hp : b.pool = P.f) : TreeS D vb vp b P (sb ++ sp) := ⟨sb, sp, rfl, h, k, hp⟩
theorem BatchS.ptr {D : Sto} {vb vp : Value} {b : Bt} {s : Seg} (h : BatchS D vb vp b s) : ∃ bb, vb = .pointer (some ⟨bb, 0, none⟩) := by
  obtain ⟨bb, bo, es, clk, m, vr, sr, h1, _⟩ := h; exact ⟨bb, h1⟩
end Go.Proofs.YtbogbnkckofpdaaDoor.B
