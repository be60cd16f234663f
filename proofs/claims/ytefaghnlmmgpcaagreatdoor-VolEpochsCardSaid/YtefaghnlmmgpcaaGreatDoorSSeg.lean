/- A program logic over the model: what is owned, what is written no more, and one lemma for each kind of step. -/
import Derived.Test.YtefaghnlmmgpcaaGreatDoorSLogB
namespace Go.Proofs.YtefaghnlmmgpcaaGreatDoor.B
open Go Go.Proofs
set_option linter.unusedVariables false
set_option linter.unusedSimpArgs false
section
variable {P:Program} {ops:Array Oper} {Q:Exit->Act->World->Prop} {a:Act} {w0 w w':World} {D:Sto} {ss:List Seg} {rest:List Oper} {o:Oper} {N:Nat} {env:Env} {K:Act->World->Prop}
theorem o_clearM_ {t u:TypeId} {v:TypeId} {x:Operand} {b:Nat} {es:Array MapEntry} {clock:Nat} {ts:Array TypeId} (j:Nat) (Z:EnvOk N env a) (I:Inv w0 D ss w) (hd:o.dst=none)
    (ho:o.op= .call {callee:= .builtin .clear,args:= #[x],argTypes:=ts}) (hx:ev env x=some (.map (some b))) (hts:ts[0]? =some t) (ht:P.underlying t=some (.map u v)) (hj:ss[j]? =some [(b, .map es clock)])
    (k: ∀w',Inv w0 D (ss.set j [(b, .map #[] clock)]) w'->K a w'):o.wp P a w K Q:=by
  have hb:=I.seg j hj;have hrun:(execOp a.eval o).run P w= .ok (.value (.tuple #[])) {w with heap:=w.heap.setIfInBounds b (.map #[] clock)}:=by simp [execOp,ho,resolve,Z.eval hx,invoke,builtin,Builtin.clear_,hts,run_underlying ht,run_getObj hb rfl,run_setObj hb rfl]
  exact o_val hrun (by rw [hd];exact k _ (I.turn_at j hj))
theorem IntMap.none (clock:Nat):IntMap #[] clock []:=⟨rfl,by simp,by simp,by simp⟩
theorem p_indexArr {t e:TypeId} {x y:Operand} {b off len size m:Nat} {k:IntKind} {i:Int} (hx:ev env x=some (.pointer (some ⟨b,off,none⟩))) (hy:ev env y=some (.int k i))
    (ht:P.underlying t=some (.array len e)) (hs:(P.info? e).map (·.size)=some size) (h0:0<=i) (h1:i<len) (hm:off+i.toNat*size=m):PureOp P env (.indexAddr t x y) (.pointer (some ⟨b,m,none⟩)):=fun _ a w o Z ho=>by
  have e1:=Z.eval hx;have e2:=Z.eval hy;subst hm;obtain ⟨inf,hi,rfl⟩:=Option.map_eq_some_iff.1 hs;have hadd: ∀n,(⟨b,off,none⟩:Addr).add n=⟨b,off+n,none⟩:=fun n=>by unfold Addr.add;split<;>simp_all
  simp [execOp,ho,e1,e2,Instr.indexAt,Instr.sureAddr,asIntOf,underlying,program,ht,Sem.run,sizeOf,typeInfo,hi,hadd,h0,h1]
end
end Go.Proofs.YtefaghnlmmgpcaaGreatDoor.B
