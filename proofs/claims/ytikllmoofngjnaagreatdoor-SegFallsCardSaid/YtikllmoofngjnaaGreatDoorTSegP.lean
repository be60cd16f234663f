/- What functions of the program compute, each function once: steps over the model, and the plain law of it. -/
import Derived.Test.YtikllmoofngjnaaGreatDoorTUndoReadPure
import Derived.Test.YtikllmoofngjnaaGreatDoorTSee
import Derived.Test.YtikllmoofngjnaaGreatDoorTFacts
import Derived.Test.YtikllmoofngjnaaGreatDoorTWireMath
import Derived.Test.YtikllmoofngjnaaGreatDoorSLogB
import Derived.Test.YtikllmoofngjnaaGreatDoorSLaid
import Derived.Deep.Slices
namespace Go.Proofs.YtikllmoofngjnaaGreatDoor.B
open Go Go.Proofs
set_option linter.unusedVariables false
set_option linter.unusedSimpArgs false
set_option maxRecDepth 20000
set_option maxHeartbeats 8000000
theorem OB.data {w0 w:World} {D:Sto} {ss:List Seg} {r:Value} {bs:List Nat} (h: ∃s,OB r bs s/\Inv w0 D (s::ss) w) (hb: ∀x∈bs,x<256): ∃D',Le D D'/\Inv w0 D' ss w/\RB D' r bs:=by obtain ⟨s,h1,I⟩:=h;exact ⟨_,I.le_shut,I.shut,Row.shut_bytes h1 hb⟩
theorem Ret.imp {R R':Value->World->Prop} {e:Ending} {w:World} (h:Ret R e w) (hi: ∀r w,R r w->R' r w):Ret R' e w:=by obtain ⟨r,he,hr⟩:=h;exact ⟨r,he,hi _ _ hr⟩
theorem Clone_data {w0 w:World} {D:Sto} {ss:List Seg} (I:Inv w0 D ss w) {vb:Value} {bs:List Nat} (hb:RB D vb bs) (hm:bs.length<=140737488355328) :
  Calls Tryz.prog 103 #[vb] w (Ret fun r w'=> ∃D',Le D D'/\Inv w0 D' ss w'/\RB D' r bs):=
 (Clone_spec I hb hm).mono fun _ _ h=>h.imp fun _ _ h=>OB.data h hb.lt
theorem Put_data {w0 w:World} {D:Sto} {ss:List Seg} (I:Inv w0 D ss w) {vb:Value} {bs:List Nat} {m:Int} (hb:RB D vb bs) (hm:bs.length<=140737488355000) (h0: -9223372036854775808<=m) (h1:m<=9223372036854775807) :
  Calls Tryz.prog 160 #[vb, .int .i64 m] w (Ret fun r w'=> ∃D',Le D D'/\Inv w0 D' ss w'/\RB D' r (bs++putZ m)):=
 (Put_spec I hb hm h0 h1).mono fun _ _ h=>h.imp fun _ _ h=>OB.data h (fun x hx=>by rcases List.mem_append.1 hx with h|h;exact hb.lt x h;exact putZ_lt _ x h)
theorem PutBytes_data {w0 w:World} {D:Sto} {ss:List Seg} (I:Inv w0 D ss w) {vb vx:Value} {bs xs:List Nat} (hb:RB D vb bs) (hx:RB D vx xs) (hm:bs.length+xs.length<=140737488355000) :
  Calls Tryz.prog 199 #[vb,vx] w (Ret fun r w'=> ∃D',Le D D'/\Inv w0 D' ss w'/\RB D' r (bs++putZ (xs.length:Nat)++xs)):=
 (PutBytes_spec I hb hx hm).mono fun _ _ h=>h.imp fun _ _ h=>OB.data h (fun x hx'=>by
  simp only [List.mem_append] at hx';rcases hx' with (h|h)|h
  ·exact hb.lt x h
  ·exact putZ_lt _ x h
  exact hx.lt x h)
theorem Number_spec {w0 w:World} {D:Sto} {ss:List Seg} (I:Inv w0 D ss w) (n:Int) {m:Int} (hb:0<m) (hm:m<=4611686018427387904) :
  Calls Tryz.prog 9 #[.int .i64 n, .int .i64 m] w (Ret fun r w'=>(∃z,r= .int .i64 z/\0<=z/\z<m)/\Inv w0 D ss w'):=by
 refine enter (N:=15) Tryz.func9 rfl rfl rfl ?_;intro a Z;refine go 6 Z I ?_;clear Z a;intro a Z;refine zs Z (p_arith (z:=_) rfl rfl (rem_z rfl (by omega))) ?_;clear Z a;intro a Z;refine go 2 Z I ?_;clear Z a;intro a Z;refine wp_seq ?_;refine wp_seq ?_;have hr1:=Int.tmod_lt_of_pos n hb;have hr2:=Int.lt_tmod_of_pos n hb;generalize n.tmod m=r at Z hr1 hr2;refine go 2 Z I ?_;clear Z a;intro a Z;refine cmx Z ?_ ?_
 ·intro hneg;replace hneg:=lss_t hneg;clear Z a;intro a Z;refine go 5 Z I ?_;clear Z a;intro a Z;refine zs Z (p_arith (z:=_) rfl rfl (add_z rfl (by omega) (by omega))) ?_;clear Z a;intro a Z;refine go 7 Z I ?_;clear Z a;intro a Z;refine rt1 Z ?_;exact ⟨⟨_,rfl,by omega,by omega⟩,I⟩
 intro hneg;replace hneg:=lss_f hneg;clear Z a;intro a Z;refine go 9 Z I ?_;clear Z a;intro a Z;refine rt1 Z ?_;exact ⟨⟨_,rfl,by omega,by omega⟩,I⟩
open Go
def EOk (e:Bs×Bs):Prop:=e.1.length<=100000/\e.2.length<=100000
structure POk (p:Pg):Prop where
 l0: -4611686018427387904<=p.lsn
 l1:p.lsn<=4611686018427387904
 v0:0<=p.level
 v1:p.level<=16
 n0: -1<=p.next
 n1:p.next<=4611686018427387904
 len:p.ents.length<=8
 ents: ∀e∈p.ents,EOk e
structure ROk (r:Rc):Prop where
 l0: -4611686018427387904<=r.lsn
 l1:r.lsn<=4611686018427387904
 s0:0<=r.slot
 s1:r.slot<=4611686018427387904
 k:r.key.length<=100000
 v:r.val.length<=100000
def EnR (D:Sto) (vs:List Value) (e:Bs×Bs):Prop:= ∃k v,vs= [k,v]/\RB D k e.1/\RB D v e.2/\EOk e
theorem EnR.keeps:Keeps EnR:=fun D D' vs x hD ⟨k,v,h1,h2,h3,h4⟩=>⟨k,v,h1,h2.mono hD,h3.mono hD,h4⟩
abbrev EnD (D:Sto) (v:Value) (es:Ens):Prop:=DR 2 EnR D v es
def pgCells (p:Pg) (e:Value):List Value:= [.int .i64 p.id, .int .i64 p.lsn, .int .i64 p.level, .int .i64 p.next,e]
def PgV (D:Sto) (v:Value) (p:Pg):Prop:= ∃e,v= .agg (pgCells p e).toArray/\EnD D e p.ents/\POk p
def rcCells (r:Rc) (k v:Value):List Value:= [.int .i64 r.lsn, .int .i64 r.back, .int .i64 r.epoch, .int .i64 r.group, .int .i64 r.page, .int .i64 r.kind, .int .i64 r.slot,k,v, .bool r.last]
def RcR (D:Sto) (vs:List Value) (r:Rc):Prop:= ∃k v,vs=rcCells r k v/\RB D k r.key/\RB D v r.val/\ROk r
theorem RcR.keeps:Keeps RcR:=fun D D' vs x hD ⟨k,v,h1,h2,h3,h4⟩=>⟨k,v,h1,h2.mono hD,h3.mono hD,h4⟩
def RcV (D:Sto) (v:Value) (r:Rc):Prop:= ∃k u,v= .agg (rcCells r k u).toArray/\RB D k r.key/\RB D u r.val/\ROk r
open Go Go.Deep Go.ChangeShapes Go.WideShapes Go.ChangeAt Go.RowKit
def IntR (D:Sto) (vs:List Value) (x:Int):Prop:=vs= [.int .i64 x]
theorem IntR.keeps:Keeps IntR:=fun _ _ _ _ _ h=>h
section
variable {H:Type} {enc:TypeId×Value->H} {P:Program} {W:World}
theorem open_intsT {base:Nat} {spare:Nat->Bool} {held:Bool} {fuel:Nat} {t e:TypeId} {v:Value} {y:DataW H×List MemPlace} (ht:P.underlying t=some (.slice e)) (he:P.underlying e=some (.int .i64)) (ce:P.cellsOf e=1)
    (hf:DataW.trod enc P W base spare held fuel t [v]=some y): ∃l:List Int,DR 1 IntR (fun b=>W.heap[b]?) v l/\l.length<=maxLen:=by
  rcases open_slice1 ht ce hf with ⟨hcs,_⟩|⟨x,len,cap,m,n,V,D,Pl,hcs,_,hl,hm,hmm,_,hel⟩
  ·obtain rfl:v= .slice none 0 0:=by simpa using hcs
   exact ⟨[],DR.nil 1 IntR _,by simp [maxLen]⟩
  ·obtain rfl:v= .slice (some x) len cap:=by simpa using hcs
   have hlm:len<=m:=by rw [hmm];split<;>omega
   obtain ⟨f,hfv⟩: ∃f:Nat->Int,∀i,i<m->V i= .int .i64 (f i):=by
     have hz: ∀i,i<m-> ∃z:Int,V i= .int .i64 z:=fun i h=>by
       obtain ⟨z,hz,_⟩:=DataW.trod_int he (hel i h).2;exact ⟨z,by simpa using hz⟩
     refine ⟨fun i=>if h:i<m then (hz i h).choose else 0,fun i h=> ?_⟩;simp only [dif_pos h];exact (hz i h).choose_spec
   have hln:((List.range len).map f).length=len:=by simp
   refine ⟨(List.range len).map f,⟨some x,cap,by rw [hln],by rw [hln];exact hl,by simp,fun hne=> ?_⟩,by rw [hln];omega⟩;have hlen:0<len:=by
     rcases Nat.eq_zero_or_pos len with h0|h0
     ·subst h0;simp at hne
     ·exact h0
   have h0:=(hel 0 (by omega)).1;obtain ⟨b,off,sp⟩:=x;have hsp:sp=none:=by
     cases sp with
     |none=>rfl
     |some z=>
       simp only [World.cell?,Addr.add] at h0;split at h0<;>simp at h0
   subst hsp;rw [add_plain] at h0;simp only [World.cell?,Nat.add_zero] at h0;split at h0
   ·rename_i cs T fr hb;refine ⟨b,off,cs,T,fr,rfl,hb,fun i y hy=> ?_⟩;have hi:i<len:=by
      have:=(List.getElem?_eq_some_iff.1 hy).1;rw [hln] at this;exact this
    have hyf:y=f i:=by rw [List.getElem?_map,List.getElem?_range hi] at hy;simpa using hy.symm
    subst hyf;have h1:=(hel i (by omega)).1;rw [add_plain] at h1;simp only [World.cell?] at h1;rw [hb] at h1;have h2:cs[off+i]? =some (V i):=by simpa using h1
    refine ⟨[V i],rfl,by rw [hfv i (by omega)];rfl,fun j u hj=> ?_⟩;cases j with
    |zero=>simp at hj;subst hj;simpa using h2
    |succ j=>simp at hj
   ·cases h0
theorem open_ints {b0 base:Nat} {spare:Nat->Bool} {held:Bool} {t e:TypeId} {v:Value} {d:DataW H} {ps:List MemPlace} (ht:P.underlying t=some (.slice e)) (he:P.underlying e=some (.int .i64)) (ce:P.cellsOf e=1)
    (hv:Value.okWide P W .any b0 t v) (h:DataW.Trod enc P W base spare held t v d ps): ∃l:List Int,DR 1 IntR (fun b=>W.heap[b]?) v l/\l.length<=maxLen:=by
  obtain ⟨a,len,cap,rfl⟩:=okWide_slice ht hv;obtain ⟨fuel,hf⟩:=h;exact open_intsT ht he ce hf
end
def Rd.Ahd (r:Rd) (rest:List Nat):Prop:=r.err= .none/\r.rem=rest
theorem Rd.Ahd.num {r:Rd} {m low high:Int} {rest:List Nat} (h:r.Ahd (putZ m++rest)) (h0:low<=m) (h1:m<=high) (h2: -4611686018427387904<=m) (h3:m<=4611686018427387904): ∃r',r.num low high=(m,r')/\r'.Ahd rest/\r'.bs=r.bs:=
 ⟨_,num_put h.1 h.2 h0 h1 (by omega) (by omega),⟨h.1,rem_step h.2⟩,rfl⟩
theorem Rd.Ahd.bytes {r:Rd} {most:Int} {xs rest:List Nat} (h:r.Ahd ((putZ (xs.length:Nat)++xs)++rest)) (h1:(xs.length:Int)<=most) (h3:xs.length<=1000): ∃r',r.bytes most=(xs,r')/\r'.Ahd rest/\r'.bs=r.bs:=
 ⟨_,bytes_put h.1 (by rw [h.2,List.append_assoc]) h1 h3,⟨h.1,rem_step h.2⟩,rfl⟩
theorem Rd.Ahd.left {r:Rd} (h:r.Ahd []):r.bs.length - r.pos=0:=by have:=rem_len r;rw [h.2] at this;exact this.symm
theorem Rd.ahd_start (bs:List Nat):(⟨bs,0, .none⟩:Rd).Ahd bs:=⟨rfl,rfl⟩
structure Sp where
 epoch:Int
 from_:Int
 to_:Int
def Sp.b (s:Sp):List Nat:=putZ s.epoch++(putZ s.from_++putZ s.to_)
def spanB (l:List Sp):List Nat:=putZ (l.length:Nat)++l.flatMap Sp.b
def Sp.Ok (s:Sp):Prop:=1<=s.epoch/\s.epoch<=1073741824/\0<=s.from_/\s.from_<s.to_/\s.to_<=1099511627776
instance (s:Sp):Decidable s.Ok:=inferInstanceAs (Decidable (_/\_/\_/\_/\_))
def spansOk (l:List Sp):Prop:=l.length<=64/\(∀s∈l,s.Ok)/\l.Pairwise fun s t=>s.epoch<t.epoch/\s.to_<t.to_
def deadS (l:List Sp) (lsn epoch:Int):Bool:=l.any fun s=>decide (epoch<s.epoch/\s.from_<lsn/\lsn<=s.to_)
def redoB (r:Rc):List Nat:=putZ r.lsn++(putZ r.back++(putZ r.epoch++(putZ r.group++(putZ r.page++(putZ r.kind++(putZ r.slot++(putZ (hadZ r.last)++((putZ (r.key.length:Nat)++r.key)++(putZ (r.val.length:Nat)++r.val)))))))))
structure Stt where
 promise:Int:=0
 installed:Int:=0
 inc:Int:=0
 whole:Bool:=false
 floor:Int:=0
 spans:List Sp:= []
structure Cl where
 kind:Int
 s:Stt:={}
 recs:List Rc:= []
def Cl.b (c:Cl):List Nat:=putZ c.kind++(putZ c.s.promise++(putZ c.s.installed++(putZ c.s.inc++(putZ (hadZ c.s.whole)++(putZ c.s.floor++(spanB c.s.spans++(putZ (c.recs.length:Nat)++c.recs.flatMap redoB)))))))
structure Cl.Ok (c:Cl):Prop where
 kind:0<=c.kind/\c.kind<=5
 promise:0<=c.s.promise/\c.s.promise<=1073741824
 installed:0<=c.s.installed/\c.s.installed<=1073741824
 inc:0<=c.s.inc/\c.s.inc<=1073741824
 floor:0<=c.s.floor/\c.s.floor<=1099511627776
 spans:spansOk c.s.spans
 recs:c.recs.length<=16384/\ ∀r∈c.recs,validR r=true
end Go.Proofs.YtikllmoofngjnaaGreatDoor.B
