/- What functions of the program compute, each function once: steps over the model, and the plain law of it. -/
import Derived.Test.YtkknmpkcfpdllaaGreatDoorTWirePure
import Derived.Test.YtkknmpkcfpdllaaGreatDoorProg
import Derived.Test.YtkknmpkcfpdllaaGreatDoorTFacts
namespace Go.Proofs.YtkknmpkcfpdllaaGreatDoor.B
open Go Go.Proofs
set_option linter.unusedVariables false
set_option linter.unusedSimpArgs false
set_option maxRecDepth 20000
set_option maxHeartbeats 8000000
def Ans (p:Prop) (R:World->Prop) (r:Value) (w:World):Prop:=(r= .bool true/\p/\R w)\/(r= .bool false/\ ¬p/\R w)
def byteAt (tx:Int) (i:Nat):Nat:=(tx.fdiv (2^min (8*((7 - i:Nat):Int)).toNat 64) % 256).toNat
def be8 (tx:Int):List Nat:=(List.range 8).map (byteAt tx)
def pref (tx:Int) (n:Nat):List Value:=bytesV (117::(List.range n).map (byteAt tx))
def keyL (tx n:Int):List Nat:=117::be8 tx++ [(n % 256).toNat]
theorem pref_step (tx:Int) (i:Nat) (hi:i<8):pref tx i++(#[Value.int .u8 ((tx.fdiv (2^min (8*((7 - i:Nat):Int)).toNat 64) % 256).toNat:Nat)]:Array Value).toList=pref tx (i+1):=by simp [pref,bytesV,List.range_succ,byteAt]
theorem key_cast (tx n:Int):pref tx 8++(#[Value.int .u8 ((n % 256).toNat:Nat)]:Array Value).toList=bytesV (keyL tx n):=by simp [pref,keyL,be8,bytesV]
theorem byteAt_lt (tx:Int) (i:Nat):byteAt tx i<256:=by unfold byteAt;omega
theorem keyL_lt (tx n:Int): ∀x∈keyL tx n,x<256:=by
 intro x hx;simp only [keyL,be8,List.cons_append,List.mem_cons,List.mem_append,List.mem_map,List.not_mem_nil,or_false] at hx;rcases hx with rfl|⟨i,_,rfl⟩|rfl
 ·omega
 ·exact byteAt_lt tx i
 omega
def ltB:List Nat->List Nat->Bool
 |_, []=>false
 | [],_::_=>true
 |a::xs,b::ys=>if a=b then ltB xs ys else decide (a<b)
theorem prefix_spec {w0 w:World} {D:Sto} {ss:List Seg} (I:Inv w0 D ss w) (tx:Int) :
  Calls Tryz.prog 66 #[.int .i64 tx] w (Ret fun r w'=> ∃s,Row 5 1 r 9 (pref tx 8) s/\Inv w0 D (s::ss) w'):=by
 refine enter (N:=20) Tryz.func66 rfl rfl rfl ?_;intro a Z;refine go 4 Z I ?_;clear Z a;intro a Z;refine l_step rfl (f_lit (vs:= [(0,_)]) (l:= [_]) Z I rfl rfl rfl rfl Tryz.underlying33 zs_5 rfl rfl rfl ?_);clear I Z a w;intro a b1 w Z I;refine go 7 Z I ?_;clear Z a;intro a Z;refine c_loop (X:=Nat×Value×Seg) (fun x=> [(0, .int .i64 tx),(3,x.2.1),(6, .int .i64 (x.1:Nat))]) (fun x w=>x.1<=8/\Row 5 1 x.2.1 (x.1+1) (pref tx x.1) x.2.2/\Inv w0 D (x.2.2::ss) w) (fun x=>8 - x.1) (0,_,_) (Z.pick [0,3,6]) ⟨by show 0<=8;omega,(Row.lit (T:=5) (size:=1) (n:=1) rfl (by omega)).cast rfl rfl,I⟩ ?_;clear Z I a w;rintro ⟨i,v,s⟩ a w Z ⟨hi,hR,I⟩;(try dsimp only at Z);(try dsimp only at hi);(try dsimp only at hR);(try dsimp only at I);refine wsr ?_;refine cmx Z ?_ ?_
 ·intro hlt;replace hlt:=lss_t hlt;clear Z a;intro a Z;refine go 15 Z I ?_;clear Z a;intro a Z;refine zs Z (p_arith (z:=((7 - i:Nat):Int)) rfl rfl (sub_z (by have:=hi;omega) (by omega) (by omega))) ?_;clear Z a;intro a Z;refine zs Z (p_arith (z:=(8*((7 - i:Nat):Int))) rfl rfl (mul_z rfl (by omega) (by omega))) ?_;clear Z a;intro a Z;refine zs Z (p_shr (z:=_) rfl rfl (by omega) (rfl)) ?_;clear Z a;intro a Z;refine zs Z (p_int (z:=((tx.fdiv (2^min (8*((7 - i:Nat):Int)).toNat 64) % 256).toNat:Nat)) Tryz.underlying2 Tryz.underlying5 rfl (u8_z)) ?_;clear Z a;intro a Z;refine l_step rfl (f_lit (vs:= [(0,_)]) (l:= [_]) Z I rfl rfl rfl rfl Tryz.underlying33 zs_5 rfl rfl rfl ?_);clear I Z a w;intro a b2 w Z I;refine l_step rfl (o_append 1 Z I rfl rfl rfl rfl rfl Tryz.underlying33 zsb_5 rfl rfl rfl hR (by rfl) (lit_news (I.seg 0 rfl)) (by simp [Value.oneCell']) (by omega) (by omega) ?_);clear I Z a w;intro v3 s4 w hR5 I a Z;obtain ⟨A6,c7,rfl,_⟩:=hR5.slice;replace I:=I.erase 0;(try simp only [nrm,Value.cells] at I);refine za Z ?_;clear Z a;intro a Z;refine wpList_nil ?_;refine gc 3 Z ?_;refine zs Z (p_arith (z:=((i+1:Nat):Int)) rfl rfl (add_z (by omega) (by omega) (by omega))) ?_;clear Z a;intro a Z;refine go 2 Z I ?_;clear Z a;intro a Z;exact ⟨(i+1,_,_),Z.pick [0,3,6],⟨by show i+1<=8;omega,hR5.cast (pref_step tx i (by omega)) (by show _=i+1+1;omega),I⟩,by show 8 - (i+1)<8 - i;omega⟩
 intro hlt;replace hlt:=lss_f hlt;clear Z a;intro a Z;refine go 13 Z I ?_;clear Z a;intro a Z;refine rt1 Z ?_;obtain rfl:i=8:=by omega
 exact ⟨_,hR,I⟩
theorem Key_spec {w0 w:World} {D:Sto} {ss:List Seg} (I:Inv w0 D ss w) {ad:Nat->Addr} (g105:GlobIs D 0 (errV ad 105)) (tx n:Int) :
  Calls Tryz.prog 19 #[.int .i64 tx, .int .i64 n] w (Ret fun r w'=>(∃v D',(1<=tx/\tx<=2251799813685248/\0<=n/\n<12)/\r= .tuple #[v, .nilIface]/\Le D D'/\Inv w0 D' ss w'/\RB D' v (keyL tx n))\/(¬(1<=tx/\tx<=2251799813685248/\0<=n/\n<12)/\r= .tuple #[.slice none 0 0,(errV ad 105)]/\Inv w0 D ss w')):=by
 refine enter (N:=27) Tryz.func19 rfl rfl rfl ?_;intro a Z;refine go 7 Z I ?_;clear Z a;intro a Z;refine cmx Z ?_ ?_
 ·intro h1;replace h1:=lss_t h1;clear Z a;intro a Z;refine go 14 Z I ?_;clear Z a;intro a Z;refine wp_seq ?_;refine d_start [] [] (by kernel_rfl) I rfl rfl ?_;clear I w;intro w I;obtain ⟨T_1,fr_1,hg_1⟩:=g105;refine dl 0 Z rfl (fun w hS=>f_load rfl scal_38 (Inv.data hS _ _ (hg_1)) rfl) (I) (listed':= #[true,false,false]) ?_;clear Z a;intro a Z;refine dp 1 Z rfl (p_assign rfl) (fun _=>I) ?_;clear Z a;intro a Z;refine dp 2 Z rfl (p_assign rfl) (fun _=>I) ?_;clear Z a;intro a Z;refine dnx ?_;refine gc 3 Z ?_;refine ret2 rfl Z rfl rfl ?_;exact .inr ⟨by omega,rfl,I⟩
 intro h1;replace h1:=lss_f h1;clear Z a;intro a Z;refine go 2 Z I ?_;clear Z a;intro a Z;refine cgx Z ?_ ?_
 ·intro h2;replace h2:=gtr_t h2;clear Z a;intro a Z;refine go 11 Z I ?_;clear Z a;intro a Z;refine wp_seq ?_;refine d_start [] [] (by kernel_rfl) I rfl rfl ?_;clear I w;intro w I;obtain ⟨T_2,fr_2,hg_2⟩:=g105;refine dl 0 Z rfl (fun w hS=>f_load rfl scal_38 (Inv.data hS _ _ (hg_2)) rfl) (I) (listed':= #[true,false,false]) ?_;clear Z a;intro a Z;refine dp 1 Z rfl (p_assign rfl) (fun _=>I) ?_;clear Z a;intro a Z;refine dp 2 Z rfl (p_assign rfl) (fun _=>I) ?_;clear Z a;intro a Z;refine dnx ?_;refine gc 3 Z ?_;refine ret2 rfl Z rfl rfl ?_;exact .inr ⟨by omega,rfl,I⟩
 intro h2;replace h2:=gtr_f h2;clear Z a;intro a Z;refine go 3 Z I ?_;clear Z a;intro a Z;refine cgx Z ?_ ?_
 ·intro h3;replace h3:=lss_t h3;clear Z a;intro a Z;refine go 7 Z I ?_;clear Z a;intro a Z;refine wp_seq ?_;refine d_start [] [] (by kernel_rfl) I rfl rfl ?_;clear I w;intro w I;obtain ⟨T_3,fr_3,hg_3⟩:=g105;refine dl 0 Z rfl (fun w hS=>f_load rfl scal_38 (Inv.data hS _ _ (hg_3)) rfl) (I) (listed':= #[true,false,false]) ?_;clear Z a;intro a Z;refine dp 1 Z rfl (p_assign rfl) (fun _=>I) ?_;clear Z a;intro a Z;refine dp 2 Z rfl (p_assign rfl) (fun _=>I) ?_;clear Z a;intro a Z;refine dnx ?_;refine gc 3 Z ?_;refine ret2 rfl Z rfl rfl ?_;exact .inr ⟨by omega,rfl,I⟩
 intro h3;replace h3:=lss_f h3;clear Z a;intro a Z;refine go 3 Z I ?_;clear Z a;intro a Z;refine cgx Z ?_ ?_
 ·intro h4;replace h4:=geq_t h4;clear Z a;intro a Z;refine go 3 Z I ?_;clear Z a;intro a Z;refine wp_seq ?_;refine d_start [] [] (by kernel_rfl) I rfl rfl ?_;clear I w;intro w I;obtain ⟨T_4,fr_4,hg_4⟩:=g105;refine dl 0 Z rfl (fun w hS=>f_load rfl scal_38 (Inv.data hS _ _ (hg_4)) rfl) (I) (listed':= #[true,false,false]) ?_;clear Z a;intro a Z;refine dp 1 Z rfl (p_assign rfl) (fun _=>I) ?_;clear Z a;intro a Z;refine dp 2 Z rfl (p_assign rfl) (fun _=>I) ?_;clear Z a;intro a Z;refine dnx ?_;refine gc 3 Z ?_;refine ret2 rfl Z rfl rfl ?_;exact .inr ⟨by omega,rfl,I⟩
 intro h4;replace h4:=geq_f h4;clear Z a;intro a Z;refine go 7 Z I ?_;clear Z a;intro a Z;refine l_step rfl (o_call Z rfl rfl rfl rfl ent_66 (prefix_spec I tx) ?_);clear I Z a;rintro r w ⟨s,hR,I⟩ a Z;refine zm Z ?_;clear Z a;intro a Z;refine zs Z (p_int (z:=(n % 256).toNat) Tryz.underlying3 Tryz.underlying5 rfl (u8_z)) ?_;clear Z a;intro a Z;refine l_step rfl (f_lit (vs:= [(0,_)]) (l:= [_]) Z I rfl rfl rfl rfl Tryz.underlying33 zs_5 rfl rfl rfl ?_);clear I Z a w;intro a b5 w Z I;refine l_step rfl (o_append 1 Z I rfl rfl rfl rfl rfl Tryz.underlying33 zsb_5 rfl rfl rfl hR (by rfl) (lit_news (I.seg 0 rfl)) (by simp [Value.oneCell']) (by omega) (by omega) ?_);clear I Z a w;intro v6 s7 w hR8 I a Z;obtain ⟨A9,c10,rfl,_⟩:=hR8.slice;replace I:=I.erase 0;(try simp only [nrm,Value.cells] at I);refine go 4 Z I ?_;clear Z a;intro a Z;refine ret2 rfl Z rfl rfl ?_;obtain ⟨I,hle⟩:=I.shut_at 0 rfl;refine .inl ⟨_,_,by omega,rfl,hle,I, ?_⟩;exact Row.shut_bytes (hR8.cast (key_cast tx n) rfl) (keyL_lt tx n)
theorem UserKey_spec {w0 w:World} {D:Sto} {ss:List Seg} (I:Inv w0 D ss w) {ad:Nat->Addr} (g105:GlobIs D 0 (errV ad 105)) {vk:Value} {key:List Nat} (hk:RB D vk key) :
  Calls Tryz.prog 23 #[vk] w (Ret fun r w'=>(∃v D',1<=key.length/\key.length<=20/\r= .tuple #[v, .nilIface]/\Le D D'/\Inv w0 D' ss w'/\RB D' v (107::key))\/(¬(1<=key.length/\key.length<=20)/\r= .tuple #[.slice none 0 0,(errV ad 105)]/\Inv w0 D ss w')):=by
 obtain ⟨A1,c2,rfl,_⟩:=hk.slice;refine enter (N:=16) Tryz.func23 rfl rfl rfl ?_;intro a Z;refine go 7 Z I ?_;clear Z a;intro a Z;refine zs Z (p_len rfl rfl Tryz.underlying33) ?_;clear Z a;intro a Z;refine cmx Z ?_ ?_
 ·intro h1;replace h1:=lss_t h1;clear Z a;intro a Z;refine go 7 Z I ?_;clear Z a;intro a Z;refine wp_seq ?_;refine d_start [] [] (by kernel_rfl) I rfl rfl ?_;clear I w;intro w I;obtain ⟨T_3,fr_3,hg_3⟩:=g105;refine dl 0 Z rfl (fun w hS=>f_load rfl scal_38 (Inv.data hS _ _ (hg_3)) rfl) (I) (listed':= #[true,false,false]) ?_;clear Z a;intro a Z;refine dp 1 Z rfl (p_assign rfl) (fun _=>I) ?_;clear Z a;intro a Z;refine dp 2 Z rfl (p_assign rfl) (fun _=>I) ?_;clear Z a;intro a Z;refine dnx ?_;refine gc 3 Z ?_;refine ret2 rfl Z rfl rfl ?_;exact .inr ⟨by omega,rfl,I⟩
 intro h1;replace h1:=lss_f h1;clear Z a;intro a Z;refine go 2 Z I ?_;clear Z a;intro a Z;refine gs Z (p_len rfl rfl Tryz.underlying33) ?_;clear Z a;intro a Z;refine cgx Z ?_ ?_
 ·intro h2;replace h2:=gtr_t h2;clear Z a;intro a Z;refine go 3 Z I ?_;clear Z a;intro a Z;refine wp_seq ?_;refine d_start [] [] (by kernel_rfl) I rfl rfl ?_;clear I w;intro w I;obtain ⟨T_4,fr_4,hg_4⟩:=g105;refine dl 0 Z rfl (fun w hS=>f_load rfl scal_38 (Inv.data hS _ _ (hg_4)) rfl) (I) (listed':= #[true,false,false]) ?_;clear Z a;intro a Z;refine dp 1 Z rfl (p_assign rfl) (fun _=>I) ?_;clear Z a;intro a Z;refine dp 2 Z rfl (p_assign rfl) (fun _=>I) ?_;clear Z a;intro a Z;refine dnx ?_;refine gc 3 Z ?_;refine ret2 rfl Z rfl rfl ?_;exact .inr ⟨by omega,rfl,I⟩
 intro h2;replace h2:=gtr_f h2;clear Z a;intro a Z;refine go 6 Z I ?_;clear Z a;intro a Z;refine l_step rfl (f_lit (vs:= [(0,_)]) (l:= [_]) Z I rfl rfl rfl rfl Tryz.underlying33 zs_5 rfl rfl rfl ?_);clear I Z a w;intro a b5 w Z I;refine zm Z ?_;clear Z a;intro a Z;refine l_step rfl (o_appendRB 0 Z I rfl rfl rfl rfl rfl Tryz.underlying33 zsb_5 rfl (Row.lit (T:=5) (size:=1) (n:=1) rfl (by omega)) hk (by omega) ?_);clear I Z a w;intro v6 s7 w hR8 I a Z;obtain ⟨A9,c10,rfl,_⟩:=hR8.slice;(try simp only [nrm,Value.cells] at I);refine go 4 Z I ?_;clear Z a;intro a Z;refine ret2 rfl Z rfl rfl ?_;obtain ⟨I,hle⟩:=I.shut_at 0 rfl;refine .inl ⟨_,_,by omega,by omega,rfl,hle,I, ?_⟩;exact Row.shut_bytes (bs:=107::key) (hR8.cast rfl rfl) (fun x hx=>by rcases List.mem_cons.1 hx with rfl|hx;omega;exact hk.lt x hx)
open Go
abbrev Bs:=List Nat
abbrev Ens:=List (Bs×Bs)
structure Pg where
 id:Int
 lsn:Int
 level:Int
 next:Int
 ents:Ens
structure Rc where
 lsn:Int:=0
 back:Int:=0
 epoch:Int:=0
 group:Int:=0
 page:Int:=0
 kind:Int:=0
 slot:Int:=0
 key:Bs:= []
 val:Bs:= []
 last:Bool:=false
def newPg (id:Int):Pg:=⟨id,0,0, -1, []⟩
def effP (p:Pg) (r:Rc):Pg:=
 if r.kind=1 then {p with level:=min r.slot 16,next:= -1,ents:= []}
 else if r.kind=2 then (if p.ents.length<8 then {p with ents:=p.ents.insertIdx (min r.slot p.ents.length).toNat (r.key,r.val)} else p)
 else if r.kind=3 then (if r.slot<p.ents.length then {p with ents:=p.ents.eraseIdx r.slot.toNat} else p)
 else if r.kind=4 then (if r.slot<p.ents.length then {p with ents:=p.ents.modify r.slot.toNat fun e=>(e.1,r.val)} else p)
 else if r.kind=5 then {p with next:=if 256<=r.slot then -1 else r.slot}
 else if r.kind=6 then {p with ents:=p.ents.take (min r.slot p.ents.length).toNat}
 else p
def applyP (p:Pg) (r:Rc):Pg:=if r.page≠p.id\/r.lsn<=p.lsn then p else {effP p r with lsn:=r.lsn}
def findP:Ens->Bs->Nat×Bool
 | [],_=>(0,false)
 |e::r,key=>if ltB e.1 key then ((findP r key).1+1,(findP r key).2) else (0,decide (e.1=key))
structure Bt where
 pool:Int->Option Pg
 own:Int->Option Pg
 recs:List Rc
inductive Res (α:Type) where
 |ok (a:α)
 |fail (c:Nat) (o:Option Int)
def Bt.page (b:Bt) (id:Int):Res Pg:=match b.own id with
 |some x=> .ok x
 |none=>if id<0\/256<=id then .fail 103 none else match b.pool id with
  |some x=> .ok x
  |none=> .fail 113 (some id)
def doPg (x:Pg) (r:Rc):Pg:={(if x.lsn+1>1099511627776 then {applyP {x with lsn:=0} {r with lsn:=1} with lsn:=x.lsn} else {applyP x {r with lsn:=x.lsn+1} with lsn:=x.lsn}) with lsn:=x.lsn}
def Bt.doR (b:Bt) (r:Rc):Res Bt:=
 match ((if r.kind=1 then .ok (newPg r.page) else b.page r.page):Res Pg) with
 | .fail c o=> .fail c o
 | .ok x=> .ok {b with own:=fun k=>if k=r.page then some (doPg x r) else b.own k,recs:=b.recs++ [{r with lsn:=0}]}
def Bt.all (b:Bt):List Rc->Res Bt
 | []=> .ok b
 |r::l=>match b.doR r with
  | .fail c o=> .fail c o
  | .ok b=>b.all l
def childP (x:Pg) (key:Bs):Nat:=if (findP x.ents key).2 then (findP x.ents key).1 else (findP x.ents key).1 - 1
def numberP (v:Bs):Int:=(v.getD 0 0*256+v.getD 1 0:Nat)
def atP (x:Pg) (k:Int):Res Int:=if k<0\/(x.ents.length:Int)<=k then .fail 103 none else
 if ((x.ents.getD k.toNat ([], [])).2).length≠2 then .fail 103 none else .ok (numberP (x.ents.getD k.toNat ([], [])).2)
def Bt.downF (b:Bt) (key:Bs):Nat->Int->List Pg->List Nat->Res (List Pg×List Nat)
 |0,_,_,_=> .fail 103 none
 |n+1,id,l,ks=>match b.page id with
  | .fail c o=> .fail c o
  | .ok x=>if x.level=0 then .ok (l++ [x],ks) else match atP x (childP x key) with
   | .fail c o=> .fail c o
   | .ok id=>b.downF key n id (l++ [x]) (ks++ [childP x key])
def Bt.down (b:Bt) (key:Bs):Res (List Pg×List Nat):=b.downF key 17 0 [] []
def rightK (key:Bs):Bool:=decide (1<=key.length/\key.length<=32)
def lastPg (l:List Pg):Pg:=l.getLastD (newPg 0)
def Bt.get (b:Bt) (key:Bs):Res (Option Bs):=
 if rightK key=false then .fail 105 none else match b.down key with
 | .fail c o=> .fail c o
 | .ok (l,_)=>let x:=lastPg l
  if (findP x.ents key).2 then .ok (some (x.ents.getD (findP x.ents key).1 ([], [])).2) else .ok none
def Bt.fromF (b:Bt) (key:Bs) (above:Bool):Nat->Pg->Res (Option (Bs×Bs))
 |0,_=> .ok none
 |n+1,x=>
  let k:=if (findP x.ents key).2 && above then (findP x.ents key).1+1 else (findP x.ents key).1
  if k<x.ents.length then .ok (some (x.ents.getD k ([], []))) else if x.next= -1 then .ok none else match b.page x.next with
   | .fail c o=> .fail c o
   | .ok y=>b.fromF key above n y
def Bt.from_ (b:Bt) (key:Bs) (above:Bool):Res (Option (Bs×Bs)):=
 if 32<key.length then .fail 105 none else match b.down key with
 | .fail c o=> .fail c o
 | .ok (l,_)=>b.fromF key above 256 (lastPg l)
def Bt.pages (b:Bt):Res (Int×Int):=match b.page 1 with
 | .fail c o=> .fail c o
 | .ok x=>if x.ents.length≠1\/((x.ents.getD 0 ([], [])).2).length≠4 then .fail 103 none else .ok (numberP (x.ents.getD 0 ([], [])).2,numberP ((x.ents.getD 0 ([], [])).2.drop 2))
def twoB (n:Int):Bs:= [(n.fdiv 256 % 256).toNat,(n % 256).toNat]
def Bt.count (b:Bt) (used free:Int):Res Bt:=b.doR {page:=1,kind:=4,val:=twoB used++twoB free}
def Bt.take (b:Bt):Res (Int×Bt):=match b.pages with
 | .fail c o=> .fail c o
 | .ok (used,free)=>if free=0 then (if 256<=used then .fail 109 none else match b.count (used+1) 0 with
   | .fail c o=> .fail c o
   | .ok b=> .ok (used,b)) else match b.page free with
  | .fail c o=> .fail c o
  | .ok x=>match b.count used (max x.next 0) with
   | .fail c o=> .fail c o
   | .ok b=> .ok (free,b)
def Bt.free (b:Bt) (id:Int):Res Bt:=match b.pages with
 | .fail c o=> .fail c o
 | .ok (used,free)=>b.all [{page:=id,kind:=1},{page:=id,kind:=5,slot:=if free=0 then 256 else free},{page:=1,kind:=4,val:=twoB used++twoB id}]
def fillR (id level:Int):Nat->Ens->List Rc
 |_, []=> []
 |i,e::r=>{page:=id,kind:=2,slot:=i,key:=if 0<level/\i=0 then [] else e.1,val:=e.2}::fillR id level (i+1) r
def Bt.fill (b:Bt) (id level:Int) (l:Ens) (next:Int):Res Bt:=
 b.all ({page:=id,kind:=1,slot:=level}::fillR id level 0 l++if next= -1 then [] else [{page:=id,kind:=5,slot:=next}])
def Bt.splitRoot (b:Bt) (x:Pg):Res Bt:=match b.take with
 | .fail c o=> .fail c o
 | .ok (l,b)=>match b.take with
  | .fail c o=> .fail c o
  | .ok (r,b)=>match b.fill l x.level (x.ents.take 4) (if x.level=0 then r else -1) with
   | .fail c o=> .fail c o
   | .ok b=>match b.fill r x.level (x.ents.drop 4) (-1) with
    | .fail c o=> .fail c o
    | .ok b=>b.all [{page:=0,kind:=1,slot:=x.level+1},{page:=0,kind:=2,val:=twoB l},{page:=0,kind:=2,slot:=1,key:=(x.ents.getD 4 ([], [])).1,val:=twoB r}]
def Bt.split (b:Bt) (parent:Pg) (k:Int) (x:Pg):Res Bt:=match b.take with
 | .fail c o=> .fail c o
 | .ok (id,b)=>match b.fill id x.level (x.ents.drop 4) (if x.level=0 then x.next else -1) with
  | .fail c o=> .fail c o
  | .ok b=>match b.doR {page:=x.id,kind:=6,slot:=4} with
   | .fail c o=> .fail c o
   | .ok b=>match ((if x.level=0 then b.doR {page:=x.id,kind:=5,slot:=id} else .ok b):Res Bt) with
    | .fail c o=> .fail c o
    | .ok b=>b.doR {page:=parent.id,kind:=2,slot:=k+1,key:=(x.ents.getD 4 ([], [])).1,val:=twoB id}
def Bt.roomF (key:Bs):Nat->Bt->Pg->Res (Bt×Pg)
 |0,_,_=> .fail 103 none
 |n+1,b,x=>if x.level=0 then .ok (b,x) else match atP x (childP x key) with
  | .fail c o=> .fail c o
  | .ok id=>match b.page id with
   | .fail c o=> .fail c o
   | .ok y=>if 8<=y.ents.length then (match b.split x (childP x key) y with
    | .fail c o=> .fail c o
    | .ok b=>match b.page x.id with
     | .fail c o=> .fail c o
     | .ok x=>roomF key n b x) else roomF key n b y
def Bt.room (b:Bt) (key:Bs):Res (Bt×Pg):=match b.page 0 with
 | .fail c o=> .fail c o
 | .ok x=>match ((if 8<=x.ents.length then (match b.splitRoot x with
   | .fail c o=> .fail c o
   | .ok b=>match b.page 0 with
    | .fail c o=> .fail c o
    | .ok x=> .ok (b,x)) else .ok (b,x)):Res (Bt×Pg)) with
  | .fail c o=> .fail c o
  | .ok (b,x)=>Bt.roomF key 34 b x
def Bt.put (b:Bt) (key val:Bs):Res Bt:=
 if rightK key=false\/64<val.length then .fail 105 none else match b.down key with
 | .fail c o=> .fail c o
 | .ok (l,_)=>let x:=lastPg l
  if (findP x.ents key).2 then b.doR {page:=x.id,kind:=4,slot:=(findP x.ents key).1,val:=val} else match b.room key with
  | .fail c o=> .fail c o
  | .ok (b,y)=>b.doR {page:=y.id,kind:=2,slot:=(findP y.ents key).1,key:=key,val:=val}
def insR (id:Int):Nat->Ens->List Rc
 |_, []=> []
 |i,e::r=>{page:=id,kind:=2,slot:=i,key:=e.1,val:=e.2}::insR id (i+1) r
def Bt.join (b:Bt) (parent:Pg) (k0:Int):Res Bt:=
 if parent.ents.length<2 then .ok b else
  let k:=if k0+1=parent.ents.length then k0 - 1 else k0
  match atP parent k with
  | .fail c o=> .fail c o
  | .ok i=>match b.page i with
   | .fail c o=> .fail c o
   | .ok x=>match atP parent (k+1) with
    | .fail c o=> .fail c o
    | .ok j=>match b.page j with
     | .fail c o=> .fail c o
     | .ok y=>if 6<x.ents.length+y.ents.length then .ok b else
      match b.all (insR x.id x.ents.length y.ents) with
      | .fail c o=> .fail c o
      | .ok b=>match b.all [{page:=x.id,kind:=5,slot:=if y.next= -1 then 256 else y.next},{page:=parent.id,kind:=3,slot:=k+1}] with
       | .fail c o=> .fail c o
       | .ok b=>b.free y.id
def Bt.sinkF:Nat->Bt->Res Bt
 |0,b=> .ok b
 |n+1,b=>match b.page 0 with
  | .fail c o=> .fail c o
  | .ok x=>if x.level=0\/x.ents.length≠1 then .ok b else match atP x 0 with
   | .fail c o=> .fail c o
   | .ok id=>match b.page id with
    | .fail c o=> .fail c o
    | .ok y=>match b.fill 0 y.level y.ents (-1) with
     | .fail c o=> .fail c o
     | .ok b=>match b.free id with
      | .fail c o=> .fail c o
      | .ok b=>sinkF n b
def Bt.sink (b:Bt):Res Bt:=Bt.sinkF 17 b
def Bt.delete (b:Bt) (key:Bs):Res (Bool×Bt):=
 if rightK key=false then .fail 105 none else match b.down key with
 | .fail c o=> .fail c o
 | .ok (l,ks)=>let x:=lastPg l
  if (findP x.ents key).2=false then .ok (false,b) else match b.doR {page:=x.id,kind:=3,slot:=(findP x.ents key).1} with
  | .fail c o=> .fail c o
  | .ok b=>match ((if 1<l.length/\(x.ents.length:Int) - 1<=2 then b.join (l.getD (l.length - 2) (newPg 0)) (ks.getLastD 0:Nat) else .ok b):Res Bt) with
   | .fail c o=> .fail c o
   | .ok b=>match b.sink with
    | .fail c o=> .fail c o
    | .ok b=> .ok (true,b)
structure Pl where
 f:Int->Option Pg
 n:Nat
 wants:List Int
def validR (r:Rc):Bool:=decide (1<=r.lsn/\r.lsn<=1099511627776/\0<=r.epoch/\r.epoch<1073741825/\0<=r.group/\r.group<4/\0<=r.page/\r.page<256/\0<=r.back/\r.back<r.lsn/\0<=r.slot/\r.slot<32769/\1<=r.kind/\r.kind<=6/\r.key.length<=32/\r.val.length<=64)
def Pl.want (P:Pl) (id:Int):Pl:={P with wants:=if id∈P.wants then P.wants else P.wants++ [id]}
def Pl.after (P:Pl):Option Int->Pl
 |none=>P
 |some id=>P.want id
def Pl.empty:Pl:=⟨fun _=>none,0, []⟩
def Pl.apply (P:Pl) (r:Rc):Option Pl:=match P.f r.page with
 |some x=>some {P with f:=fun k=>if k=r.page then some (applyP x r) else P.f k}
 |none=>if r.kind=1/\validR r=true then some ⟨fun k=>if k=r.page then some (applyP (newPg r.page) r) else P.f k,P.n+1,P.wants.filter fun k=>decide (k≠r.page)⟩ else none
def newBt (P:Pl):Bt:=⟨P.f,fun _=>none, []⟩
def makeR:List Rc:= [{page:=0,kind:=1},{page:=1,kind:=1},{page:=1,kind:=2,key:= [110],val:= [0,2,0,0]}]
def laidP:Pl->List Rc->Int->Option (Pl×Int)
 |P, [],n=>some (P,n)
 |P,r::l,n=>if validR {r with lsn:=n}=false then none else match P.apply {r with lsn:=n} with
  |none=>none
  |some P=>laidP P l (n+1)
def OB (r:Value) (bs:List Nat) (s:Seg):Prop:=Row 5 1 r bs.length (bytesV bs) s
theorem RB.none_nil {D:Sto} {n c:Nat} {bs:List Nat} (h:RB D (.slice none n c) bs):bs= []:=by
 cases bs with
 |nil=>rfl
 |cons x r=>obtain ⟨b,o,cs,T,fr,h1,_⟩:=h.at_ (by simp);cases h1
theorem Inv.nilseg {w0 w:World} {D:Sto} {ss:List Seg} (h:Inv w0 D ss w):Inv w0 D ([]::ss) w:=h.perm (List.Perm.refl _)
theorem u64_wrap (n:Int):IntKind.u64.wrap n=n % 18446744073709551616:=by simp [IntKind.wrap,IntKind.bits,IntKind.signed]
theorem or8 {a b:Nat} (ha:a<256) (hb:b<256):arithZ .or .u8 ((a:Nat):Int) ((b:Nat):Int)=some (((a |||b) % 256:Nat):Int):=by
 show some (IntKind.u8.wrap ((BitVec.ofInt 8 (a:Int) |||BitVec.ofInt 8 (b:Int)).toNat:Int))=_;rw [BitVec.toNat_or,BitVec.toNat_ofInt,BitVec.toNat_ofInt,IntKind.wrap_u8];have e1:((a:Int) % ((2^8:Nat):Int)).toNat=a:=by omega
 have e2:((b:Int) % ((2^8:Nat):Int)).toNat=b:=by omega
 rw [e1,e2];congr 1
theorem zig_z {m:Int} (h0: -9223372036854775808<=m) (h1:m<=9223372036854775807) :
  arithZ .xor .u64 (IntKind.u64.wrap (IntKind.u64.wrap m*2^min (Int.toNat 1) IntKind.u64.bits)) (IntKind.u64.wrap (m.fdiv (2^min (Int.toNat 63) IntKind.i64.bits)))=some ((zig m:Nat):Int):=by
 have e1:(2:Int)^min (Int.toNat 1) IntKind.u64.bits=2:=by decide
 have e2:(2:Int)^min (Int.toNat 63) IntKind.i64.bits=9223372036854775808:=by decide
 rw [e1,e2];simp only [arithZ,Option.some.injEq];rw [u64_wrap,u64_wrap,u64_wrap,u64_wrap];by_cases hm:0<=m
 ·have e3:m.fdiv 9223372036854775808=0:=by
   rw [Int.fdiv_eq_ediv_of_nonneg _ (by omega)];omega
  rw [e3];have e4:m % 18446744073709551616*2 % 18446744073709551616=((zig m:Nat):Int):=by unfold zig;rw [if_pos hm];omega
  have e5:(0:Int) % 18446744073709551616=0:=by omega
  have hz:zig m<18446744073709551616:=zig_lt h0 h1;rw [e4,e5];have e6:(BitVec.ofInt IntKind.u64.bits ((zig m:Nat):Int)^^^BitVec.ofInt IntKind.u64.bits 0).toNat=zig m:=by
   rw [BitVec.toNat_xor];have:(BitVec.ofInt IntKind.u64.bits 0).toNat=0:=by rfl
   rw [this,Nat.xor_zero];simp only [BitVec.toNat_ofInt];show (((zig m:Nat):Int) % (2^64:Nat)).toNat=zig m;omega
  rw [e6];omega
 have e3:m.fdiv 9223372036854775808= -1:=by rw [Int.fdiv_eq_ediv_of_nonneg _ (by omega)];omega
 rw [e3];have hz:zig m<18446744073709551616:=zig_lt h0 h1;have e4:m % 18446744073709551616*2 % 18446744073709551616=((18446744073709551615 - zig m:Nat):Int):=by unfold zig at hz ⊢;rw [if_neg hm] at hz ⊢;omega
 have e5:(-1:Int) % 18446744073709551616=18446744073709551615:=by omega
 rw [e4,e5];have e6:(BitVec.ofInt IntKind.u64.bits ((18446744073709551615 - zig m:Nat):Int)^^^BitVec.ofInt IntKind.u64.bits 18446744073709551615).toNat=zig m:=by
  have h2:(BitVec.ofInt IntKind.u64.bits 18446744073709551615)=BitVec.allOnes 64:=by rfl
  rw [h2];show (BitVec.ofInt 64 _^^^BitVec.allOnes 64).toNat=_;rw [BitVec.xor_allOnes,BitVec.toNat_not];simp only [BitVec.toNat_ofInt];omega
 rw [e6];omega
theorem or128_all: ∀x:Fin 256,(x.val |||128) % 256=x.val % 128+128:=by decide+kernel
theorem or128 {z:Nat}:arithZ .or .u8 (IntKind.u8.wrap (z:Int)) 128=some ((z % 128+128:Nat):Int):=by
 have e:IntKind.u8.wrap (z:Int)=((z % 256:Nat):Int):=by rw [IntKind.wrap_u8];omega
 rw [e];have h:=or8 (a:=z % 256) (b:=128) (by omega) (by omega);have h2:=or128_all ⟨z % 256,by omega⟩;simp only at h2;rw [h2] at h;have h3:z % 256 % 128=z % 128:=by omega
 rw [h3] at h;exact h
theorem shr7 {z:Nat}:((z:Nat):Int).fdiv (2^min (Int.toNat 7) IntKind.u64.bits)=((z / 128:Nat):Int):=by
 have e1:(2:Int)^min (Int.toNat 7) IntKind.u64.bits=128:=by decide
 rw [e1,Int.fdiv_eq_ediv_of_nonneg _ (by omega)];omega
theorem put_step {xs:List Value} {out:List Nat} (z:Nat):(xs++bytesV out)++(#[Value.int .u8 ((z:Nat):Int)]:Array Value).toList=xs++bytesV (out++ [z]):=by simp [bytesV]
end Go.Proofs.YtkknmpkcfpdllaaGreatDoor.B
