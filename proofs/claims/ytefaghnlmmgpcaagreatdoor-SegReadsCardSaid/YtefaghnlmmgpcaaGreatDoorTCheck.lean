/- What functions of the program compute, each function once: steps over the model, and the plain law of it. -/
import Derived.Test.YtefaghnlmmgpcaaGreatDoorTBatch
import Derived.Laws.BytesString
namespace Go.Proofs.YtefaghnlmmgpcaaGreatDoor.B
open Go Go.Proofs
set_option linter.unusedVariables false
set_option linter.unusedSimpArgs false
set_option maxRecDepth 20000
set_option maxHeartbeats 8000000
section
variable {α:Type} {size:Nat} {R:Sto->List Value->α->Prop} {D:Sto}
theorem At.nil (cs:List Value):At size R D (([]:List Value)++cs).toArray 0 []:=fun i x hx=>by simp at hx
end
section
variable {P:Program} {a:Act} {w:World} {b:Frame} {k:List Item} {cs:List Frame} {Q:Exit->Act->World->Prop}
end
section
variable {P:Program} {ops:Array Oper} {Q:Exit->Act->World->Prop} {a:Act} {w0 w w':World} {D:Sto} {ss:List Seg} {o:Oper} {N:Nat} {env:Env} {K:Act->World->Prop}
def strOf (bs:List Nat):ByteArray:=(bs.map (fun x=>((x:Nat):Int))).foldl (fun r n=>r.push (UInt8.ofNat n.toNat)) ByteArray.empty
theorem r_toString {src dst e:TypeId} {x:Operand} {v:Value} {bs:List Nat} (I:Inv w0 D ss w) (hx:ev env x=some v) (hr:RB D v bs) (hs:P.underlying src=some (.slice e)) (he:P.underlying e=some (.int .u8)) (hd:P.underlying dst=some .string) :
  RunOp P env w (.convert src dst x) (.string (strOf bs)):=fun _ a o Z ho=>by
 obtain ⟨A,c,rfl,hc,hlt,hA,hat⟩:=hr;have h1:=run_convert_bytes_string (P:=P) w src dst e A bs.length c hs he hd;have h2:(Conv.bytesToString (.slice A bs.length c)).run P w= .ok (.string (strOf bs)) w:=by
  cases bs with
  |nil=>
   cases A with
   |none=>rfl
   |some ad=>
    have:=run_bytesToString (P:=P) w ad 0 c [] (by simpa using run_loadCells_list (P:=P) w ad [] (by simp));simpa [strOf] using this
  |cons y r=>
   obtain ⟨b,off,cs,T,fr,rfl,h7,h8⟩:=hat (by simp);have hld:=run_loadCells_list (P:=P) w ⟨b,off,none⟩ (((y::r).map (fun x=>((x:Nat):Int))).map (Value.int .u8)) (fun j u hu=>by
    rw [addr_add,cell_of (I.data _ _ h7)];simp only [List.map_map,List.getElem?_map,Option.map_eq_some_iff] at hu;obtain ⟨z,hz,rfl⟩:=hu;exact h8 j z hz)
   simp only [List.length_map] at hld;exact run_bytesToString (P:=P) w ⟨b,off,none⟩ _ c _ hld
 simp [execOp,ho,Z.eval hx,h1,h2]
theorem p_strEql {t t':TypeId} {x y:Operand} {s u:ByteArray} {e:Bool} (hx:ev env x=some (.string s)) (hy:ev env y=some (.string u)) (he:(s.toList==u.toList)=e):PureOp P env (.binOp .eql t x y t') (.bool e):=fun _ a w o Z ho=>by
 have h1:=Z.eval hx;have h2:=Z.eval hy;subst he;simp [execOp,ho,h1,h2,eqGuard,binOp,Op.stringOp,Sem.run]
end
end Go.Proofs.YtefaghnlmmgpcaaGreatDoor.B
