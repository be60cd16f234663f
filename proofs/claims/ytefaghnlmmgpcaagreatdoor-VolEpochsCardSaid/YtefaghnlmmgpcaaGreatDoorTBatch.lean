/- What functions of the program compute, each function once: steps over the model, and the plain law of it. -/
import Derived.Test.YtefaghnlmmgpcaaGreatDoorTPage3
import Derived.Test.YtefaghnlmmgpcaaGreatDoorTPool
namespace Go.Proofs.YtefaghnlmmgpcaaGreatDoor.B
open Go Go.Proofs
set_option linter.unusedVariables false
set_option linter.unusedSimpArgs false
set_option maxRecDepth 20000
set_option maxHeartbeats 8000000
def zPg:Value:= .agg #[.int .i64 0, .int .i64 0, .int .i64 0, .int .i64 0, .slice none 0 0]
theorem nodup_len: ∀(a b:List Int),a.Nodup->(∀x∈a,x∈b)->a.length<=b.length
 | [],b,_,_=>Nat.zero_le _
 |x::r,b,hn,hs=>by
  have hx:x∈b:=hs x (by simp);have h1:=List.nodup_cons.1 hn;have ih:=nodup_len r (b.erase x) h1.2 (fun y hy=>(List.mem_erase_of_ne (fun e=>by subst e;exact h1.1 hy)).2 (hs y (by simp [hy])));rw [List.length_erase_of_mem hx] at ih;have:=List.length_pos_of_mem hx;simp only [List.length_cons];omega
theorem Vis.len {es:Array MapEntry} {seen:Array Nat} {m vis:List (Int×Value)} (h:Vis es seen m vis):vis.length<=m.length:=by
 have:=nodup_len (vis.map (·.1)) (m.map (·.1)) h.nd (fun x hx=>by
  obtain ⟨p,hp,rfl⟩:=List.mem_map.1 hx;exact List.mem_map_of_mem (h.sub p hp))
 simpa using this
end Go.Proofs.YtefaghnlmmgpcaaGreatDoor.B
