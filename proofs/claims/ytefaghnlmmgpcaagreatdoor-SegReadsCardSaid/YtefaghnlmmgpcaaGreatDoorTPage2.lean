/- What functions of the program compute, each function once: steps over the model, and the plain law of it. -/
import Derived.Test.YtefaghnlmmgpcaaGreatDoorTSee
import Derived.Test.YtefaghnlmmgpcaaGreatDoorSLogB
import Derived.Test.YtefaghnlmmgpcaaGreatDoorTUndoRead
import Derived.Test.YtefaghnlmmgpcaaGreatDoorTFacts
namespace Go.Proofs.YtefaghnlmmgpcaaGreatDoor.B
open Go
set_option linter.unusedVariables false
set_option linter.unusedSimpArgs false
def EOk (e:Bs×Bs):Prop:=e.1.length<=100000/\e.2.length<=100000
structure POk (p:Pg):Prop where
 l0: -4611686018427387904<=p.lsn
 l1:p.lsn<=4611686018427387904
 v0:0<=p.level
 v1:p.level<=16
 n0: -1<=p.next
 n1:p.next<=4611686018427387904
 len:p.ents.length<=8
 ents: ∀e∈p.ents,EOk e
structure ROk (r:Rc):Prop where
 l0: -4611686018427387904<=r.lsn
 l1:r.lsn<=4611686018427387904
 s0:0<=r.slot
 s1:r.slot<=4611686018427387904
 k:r.key.length<=100000
 v:r.val.length<=100000
def EnR (D:Sto) (vs:List Value) (e:Bs×Bs):Prop:= ∃k v,vs= [k,v]/\RB D k e.1/\RB D v e.2/\EOk e
theorem EnR.keeps:Keeps EnR:=fun D D' vs x hD ⟨k,v,h1,h2,h3,h4⟩=>⟨k,v,h1,h2.mono hD,h3.mono hD,h4⟩
abbrev EnD (D:Sto) (v:Value) (es:Ens):Prop:=DR 2 EnR D v es
def pgCells (p:Pg) (e:Value):List Value:= [.int .i64 p.id, .int .i64 p.lsn, .int .i64 p.level, .int .i64 p.next,e]
def PgV (D:Sto) (v:Value) (p:Pg):Prop:= ∃e,v= .agg (pgCells p e).toArray/\EnD D e p.ents/\POk p
def rcCells (r:Rc) (k v:Value):List Value:= [.int .i64 r.lsn, .int .i64 r.back, .int .i64 r.epoch, .int .i64 r.group, .int .i64 r.page, .int .i64 r.kind, .int .i64 r.slot,k,v, .bool r.last]
def RcR (D:Sto) (vs:List Value) (r:Rc):Prop:= ∃k v,vs=rcCells r k v/\RB D k r.key/\RB D v r.val/\ROk r
theorem RcR.keeps:Keeps RcR:=fun D D' vs x hD ⟨k,v,h1,h2,h3,h4⟩=>⟨k,v,h1,h2.mono hD,h3.mono hD,h4⟩
def RcV (D:Sto) (v:Value) (r:Rc):Prop:= ∃k u,v= .agg (rcCells r k u).toArray/\RB D k r.key/\RB D u r.val/\ROk r
open Go Go.Proofs
def Rd.Ahd (r:Rd) (rest:List Nat):Prop:=r.err= .none/\r.rem=rest
theorem Rd.Ahd.num {r:Rd} {m low high:Int} {rest:List Nat} (h:r.Ahd (putZ m++rest)) (h0:low<=m) (h1:m<=high) (h2: -4611686018427387904<=m) (h3:m<=4611686018427387904): ∃r',r.num low high=(m,r')/\r'.Ahd rest/\r'.bs=r.bs:=
 ⟨_,num_put h.1 h.2 h0 h1 (by omega) (by omega),⟨h.1,rem_step h.2⟩,rfl⟩
theorem Rd.Ahd.left {r:Rd} (h:r.Ahd []):r.bs.length - r.pos=0:=by have:=rem_len r;rw [h.2] at this;exact this.symm
theorem Rd.ahd_start (bs:List Nat):(⟨bs,0, .none⟩:Rd).Ahd bs:=⟨rfl,rfl⟩
structure Sp where
 epoch:Int
 from_:Int
 to_:Int
def Sp.b (s:Sp):List Nat:=putZ s.epoch++(putZ s.from_++putZ s.to_)
def spanB (l:List Sp):List Nat:=putZ (l.length:Nat)++l.flatMap Sp.b
def Sp.Ok (s:Sp):Prop:=1<=s.epoch/\s.epoch<=1073741824/\0<=s.from_/\s.from_<s.to_/\s.to_<=1099511627776
instance (s:Sp):Decidable s.Ok:=inferInstanceAs (Decidable (_/\_/\_/\_/\_))
def spansOk (l:List Sp):Prop:=l.length<=64/\(∀s∈l,s.Ok)/\l.Pairwise fun s t=>s.epoch<t.epoch/\s.to_<t.to_
def deadS (l:List Sp) (lsn epoch:Int):Bool:=l.any fun s=>decide (epoch<s.epoch/\s.from_<lsn/\lsn<=s.to_)
def redoB (r:Rc):List Nat:=putZ r.lsn++(putZ r.back++(putZ r.epoch++(putZ r.group++(putZ r.page++(putZ r.kind++(putZ r.slot++(putZ (hadZ r.last)++((putZ (r.key.length:Nat)++r.key)++(putZ (r.val.length:Nat)++r.val)))))))))
structure Stt where
 promise:Int:=0
 installed:Int:=0
 inc:Int:=0
 whole:Bool:=false
 floor:Int:=0
 spans:List Sp:= []
structure Cl where
 kind:Int
 s:Stt:={}
 recs:List Rc:= []
def Cl.b (c:Cl):List Nat:=putZ c.kind++(putZ c.s.promise++(putZ c.s.installed++(putZ c.s.inc++(putZ (hadZ c.s.whole)++(putZ c.s.floor++(spanB c.s.spans++(putZ (c.recs.length:Nat)++c.recs.flatMap redoB)))))))
structure Cl.Ok (c:Cl):Prop where
 kind:0<=c.kind/\c.kind<=5
 promise:0<=c.s.promise/\c.s.promise<=1073741824
 installed:0<=c.s.installed/\c.s.installed<=1073741824
 inc:0<=c.s.inc/\c.s.inc<=1073741824
 floor:0<=c.s.floor/\c.s.floor<=1099511627776
 spans:spansOk c.s.spans
 recs:c.recs.length<=16384/\ ∀r∈c.recs,validR r=true
structure Ht where
 group:Int
 l:List Rc:= []
 spans:List Sp:= []
 cuts:Int:=0
 scl:Int:=0
 known:Bool:=false
def plR (l:List Rc) (n:Int):Nat:=(l.takeWhile fun r=>decide (r.lsn<n)).length
def putR (l:List Rc) (r:Rc):List Rc:=l.take (plR l r.lsn)++r::l.drop (plR l r.lsn)
def RisesR (l:List Rc):Prop:=l.Pairwise fun a b=>a.lsn<b.lsn
theorem plR_le: ∀(l:List Rc) (n:Int),plR l n<=l.length:=fun l n=>by
 have:=(List.takeWhile_prefix (fun r:Rc=>decide (r.lsn<n)) (l:=l)).length_le;exact this
theorem tw_all {p:Rc->Bool}: ∀(l:List Rc),∀x∈l.takeWhile p,p x=true
 | [],x,h=>by simp at h
 |a::l,x,h=>by
  rw [List.takeWhile_cons] at h;split at h
  ·rename_i ha;rcases List.mem_cons.1 h with rfl|h
   ·exact ha
   exact tw_all l x h
  simp at h
theorem plR_lt {l:List Rc} {n:Int} {i:Nat} {r:Rc} (hi:i<plR l n) (hr:l[i]? =some r):r.lsn<n:=by
 have hp:l.takeWhile (fun r=>decide (r.lsn<n)) <+:l:=List.takeWhile_prefix _;have h1:(l.takeWhile fun r=>decide (r.lsn<n))[i]? =some r:=by obtain ⟨t,ht⟩:=hp;rw [<-ht,List.getElem?_append_left hi] at hr;exact hr
 have:=tw_all l r (List.mem_of_getElem? h1);simpa using this
theorem plR_at {l:List Rc} {n:Int} {r:Rc} (hr:l[plR l n]? =some r):n<=r.lsn:=by
 unfold plR at hr;induction l with
 |nil=>simp at hr
 |cons a l ih=>
  rw [List.takeWhile_cons] at hr;split at hr
  ·exact ih (by simpa using hr)
  rename_i h;have:a=r:=by simpa using hr
  subst this;simp at h;exact h
theorem plR_here {l:List Rc} {n:Int} {r:Rc} (hs:RisesR l) (hr:r∈l) (hn:r.lsn=n):l[plR l n]? =some r:=by
 obtain ⟨i,hi,he⟩:=List.getElem_of_mem hr;have h1:l[i]? =some r:=by rw [List.getElem?_eq_getElem hi,he]
 rcases Nat.lt_trichotomy i (plR l n) with q|q|q
 ·have:=plR_lt q h1;omega
 ·rw [<-q];exact h1
 have h0:l[plR l n]? =some l[plR l n]:=List.getElem?_eq_getElem (by omega);have h2:=plR_at h0;have h3:=List.pairwise_iff_getElem.1 hs _ _ (by omega) hi q;rw [he] at h3;omega
section
variable {P:Program} {ops:Array Oper} {Q:Exit->Act->World->Prop} {a:Act} {w0 w w':World} {D:Sto} {ss:List Seg} {rest:List Oper} {o:Oper} {N:Nat} {env:Env} {K:Act->World->Prop}
theorem o_clearM_ {t u:TypeId} {v:TypeId} {x:Operand} {b:Nat} {es:Array MapEntry} {clock:Nat} {ts:Array TypeId} (j:Nat) (Z:EnvOk N env a) (I:Inv w0 D ss w) (hd:o.dst=none)
    (ho:o.op= .call {callee:= .builtin .clear,args:= #[x],argTypes:=ts}) (hx:ev env x=some (.map (some b))) (hts:ts[0]? =some t) (ht:P.underlying t=some (.map u v)) (hj:ss[j]? =some [(b, .map es clock)])
    (k: ∀w',Inv w0 D (ss.set j [(b, .map #[] clock)]) w'->K a w'):o.wp P a w K Q:=by
  have hb:=I.seg j hj;have hrun:(execOp a.eval o).run P w= .ok (.value (.tuple #[])) {w with heap:=w.heap.setIfInBounds b (.map #[] clock)}:=by simp [execOp,ho,resolve,Z.eval hx,invoke,builtin,Builtin.clear_,hts,run_underlying ht,run_getObj hb rfl,run_setObj hb rfl]
  exact o_val hrun (by rw [hd];exact k _ (I.turn_at j hj))
theorem IntMap.none (clock:Nat):IntMap #[] clock []:=⟨rfl,by simp,by simp,by simp⟩
end
set_option maxRecDepth 20000
set_option maxHeartbeats 8000000
theorem newPg_ok (id:Int):POk (newPg id):=⟨by simp [newPg],by simp [newPg],by simp [newPg],by simp [newPg],by simp [newPg],by simp [newPg],by simp [newPg],by simp [newPg]⟩
theorem PNew_spec {w0 w:World} {D:Sto} {ss:List Seg} (I:Inv w0 D ss w) (id:Int) :
  Calls Tryz.prog 116 #[.int .i64 id] w (Ret fun r w'=>PgV D r (newPg id)/\Inv w0 D ss w'):=by
 refine enter (N:=5) Tryz.func116 rfl rfl rfl ?_;intro a Z;refine wsr ?_;refine l_step rfl (f_alloc (cs:= #[.int .i64 0, .int .i64 0, .int .i64 0, .int .i64 0, .slice none 0 0]) Z I rfl rfl rfl zer_30 rfl ?_);clear I Z a w;intro a b1 w Z I;refine go 3 Z I ?_;clear Z a;intro a Z;refine zs Z (f_build (vs:= [(0,_),(3,_)]) (l:= [_,_,_,_,_]) rfl built_30 rfl) ?_;clear Z a;intro a Z;refine l_step rfl (f_store (l:= [_,_,_,_,_]) (ss':=_::_) 0 Z I rfl rfl rfl rfl rfl sz_30 (by simp [Value.cells,Value.oneCell',pgCells,rcCells]) rfl rfl rfl ?_);clear I w;intro w I;refine gc 2 Z ?_;refine retc1 rfl Z rfl agg_30 (I.seg 0 rfl) rfl ?_;exact ⟨⟨_,rfl,DR.nil _ _ _,newPg_ok id⟩,I.drop⟩
section
variable {P:Program} {ops:Array Oper} {Q:Exit->Act->World->Prop} {a:Act} {w0 w w':World} {D:Sto} {ss:List Seg} {rest:List Oper} {o:Oper} {N:Nat} {env:Env} {K:Act->World->Prop}
end
theorem RB.lit {D:Sto} {b T:Nat} {fr:Nat×Nat} {bs:List Nat} (h: ∀x∈bs,x<256):RB (Sto.put D [(b, .cells (bytesV bs).toArray T fr)]) (.slice (some ⟨b,0,none⟩) bs.length bs.length) bs:=
 ⟨_,_,rfl,Nat.le_refl _,h,fun h=>(by cases h),fun _=>⟨b,0,_,T,fr,rfl,Sto.put_one _ _ _,fun i x hx=>by rw [Nat.zero_add,List.getElem?_toArray];exact bytesV_get hx⟩⟩
end Go.Proofs.YtefaghnlmmgpcaaGreatDoor.B
