/- What functions of the program compute, each function once: steps over the model, and the plain law of it. -/
import Derived.Test.YtkknmpkcfpdllaaGreatDoorTWirePure
import Derived.Test.YtkknmpkcfpdllaaGreatDoorProg
import Derived.Test.YtkknmpkcfpdllaaGreatDoorTFacts
namespace Go.Proofs.YtkknmpkcfpdllaaGreatDoor.B
open Go Go.Proofs
set_option linter.unusedVariables false
set_option linter.unusedSimpArgs false
set_option maxRecDepth 20000
set_option maxHeartbeats 8000000
def Ans (p:Prop) (R:World→Prop) (r:Value) (w:World):Prop:=(r= .bool true∧p∧R w)∨(r= .bool false∧ ¬p∧R w)
def ltB:List Nat→List Nat→Bool
 |_, []=>false
 | [],_::_=>true
 |a::xs,b::ys=>if a=b then ltB xs ys else decide (a<b)
theorem take_step {ka kb:List Nat} {i:Nat} (h1:i<ka.length) (h2:i<kb.length) (ht:ka.take i=kb.take i) (he0:((ka.getD ((i:Nat):Int).toNat 0:Nat):Int)=((kb.getD ((i:Nat):Int).toNat 0:Nat):Int)):ka.take (i+1)=kb.take (i+1):=by have he:ka.getD i 0=kb.getD i 0:=Int.ofNat.inj he0;simp only [List.getD_eq_getElem?_getD,List.getElem?_eq_getElem h1,List.getElem?_eq_getElem h2,Option.getD_some] at he;rw [List.take_succ_eq_append_getElem h1,List.take_succ_eq_append_getElem h2,ht,he]
theorem same_end {ka kb:List Nat} {i:Nat} (hl:ka.length=kb.length) (hi:ka.length≤i) (ht:ka.take i=kb.take i):ka=kb:=by rwa [List.take_of_length_le hi,List.take_of_length_le (by omega)] at ht
theorem SameBytes_spec {w0 w:World} {D:Sto} {ss:List Seg} (hI:Inv w0 D ss w) {va vb:Value} {ka kb:List Nat} (ha:RB D va ka) (hb:RB D vb kb) (hm:ka.length≤9223372036854775806) :
  Calls Tryz.prog 82 #[va,vb] w (Ret fun r w'=>Ans (ka=kb) (Inv w0 D ss) r w'):=by
 obtain ⟨A1,c2,rfl,_⟩:=ha.slice;obtain ⟨A3,c4,rfl,_⟩:=hb.slice;refine enter (N:=29) Tryz.func82 rfl rfl rfl ?_;intro a hE;refine go 6 hE hI ?_;clear hE a;intro a hE;refine zs hE (p_len rfl rfl Tryz.underlying33) ?_;clear hE a;intro a hE;refine zm hE ?_;clear hE a;intro a hE;refine zs hE (p_len rfl rfl Tryz.underlying33) ?_;clear hE a;intro a hE;refine l_step rfl (o_cmp hE rfl rfl rfl rfl rfl rfl ?_ ?_)
 ·intro hl;replace hl:=neq_t hl;clear hE a;intro a hE;refine go 7 hE hI ?_;clear hE a;intro a hE;refine ret1 rfl hE rfl ?_;refine .inr ⟨rfl,fun e=> ?_,hI⟩;subst e
  first|exact he rfl|omega
 intro hl;replace hl:=neq_f hl;clear hE a;intro a hE;refine go 9 hE hI ?_;clear hE a;intro a hE;refine c_loop (X:=Nat) (fun x=> [(0,_),(1,_),(5, .int .i64 (x:Nat))]) (fun x w=>x≤ka.length∧ka.take x=kb.take x∧Inv w0 D ss w) (fun x=>ka.length - x) 0 (hE.pick [0,1,5]) ⟨Nat.zero_le _,rfl,hI⟩ ?_;clear hE hI a w;rintro i a w hE ⟨hi,ht,hI⟩;(try dsimp only at hE);(try dsimp only at hi);(try dsimp only at ht);(try dsimp only at hI);refine go 4 hE hI ?_;clear hE a;intro a hE;refine zs hE (p_len rfl rfl Tryz.underlying33) ?_;clear hE a;intro a hE;refine l_step rfl (o_cmp hE rfl rfl rfl rfl rfl rfl ?_ ?_)
 ·intro hlt;replace hlt:=lss_t hlt;clear hE a;intro a hE;refine gc 6 hE ?_;refine wp_seq ?_;refine d_start [] [] (by kernel_rfl) hI rfl rfl ?_;clear hI w;intro w hI;refine dp 0 hE rfl (p_move rfl) (fun _=>hI) (listed':= #[true,false,false,false,false,false,false,false,false,false]) ?_;clear hE a;intro a hE;refine dp 1 hE rfl (p_move rfl) (fun _=>hI) ?_;clear hE a;intro a hE;obtain ⟨b_5,o_5,cs_5,T_5,fr_5,rfl,hb_5,hc_5⟩:=ha.at_ (List.ne_nil_of_length_pos (by omega));refine dp 2 hE rfl (p_indexAddr rfl rfl Tryz.underlying33 sz_5 (by omega) (by omega) rfl) (fun _=>hI) ?_;clear hE a;intro a hE;refine dl 3 hE rfl (fun w hS=>r_load rfl scal_5 (Inv.data hS _ _ (hb_5)) (RB.cell hc_5 (by omega) (by omega))) (hI) ?_;clear hE a;intro a hE;refine dp 4 hE rfl (p_move rfl) (fun _=>hI) ?_;clear hE a;intro a hE;refine dp 5 hE rfl (p_move rfl) (fun _=>hI) ?_;clear hE a;intro a hE;obtain ⟨b_6,o_6,cs_6,T_6,fr_6,rfl,hb_6,hc_6⟩:=hb.at_ (List.ne_nil_of_length_pos (by omega));refine dp 6 hE rfl (p_indexAddr rfl rfl Tryz.underlying33 sz_5 (by omega) (by omega) rfl) (fun _=>hI) ?_;clear hE a;intro a hE;refine dl 7 hE rfl (fun w hS=>r_load rfl scal_5 (Inv.data hS _ _ (hb_6)) (RB.cell hc_6 (by omega) (by omega))) (hI) ?_;clear hE a;intro a hE;refine d_cmp 8 hE rfl (by kernel_rfl) (by kernel_rfl) (by kernel_rfl) rfl (fun _ _ _ _ h=>h) rfl rfl rfl rfl rfl rfl rfl (fun _=>hI) (listed':= #[true,true,true,true,true,true,true,true,true,false]) rfl ?_ ?_
  ·intro he;replace he:=eql_t he;clear hE a;intro a hE;refine dp 9 hE rfl (p_assign rfl) (fun _=>hI) ?_;clear hE a;intro a hE;refine d_done (by kernel_rfl) ?_;refine go 3 hE hI ?_;clear hE a;intro a hE;refine zs hE (p_not rfl) ?_;clear hE a;intro a hE;refine go 7 hE hI ?_;clear hE a;intro a hE;refine zs hE (p_arith (z:=((i+1:Nat):Int)) rfl rfl (add_z (by omega) (by omega) (by omega))) ?_;clear hE a;intro a hE;refine go 2 hE hI ?_;clear hE a;intro a hE;exact ⟨i+1,hE.pick [0,1,5],⟨by omega,take_step (by omega) (by omega) ht he,hI⟩,by show ka.length - (i+1)<ka.length - i;omega⟩
  intro he;replace he:=eql_f he;clear hE a;intro a hE;refine dp 9 hE rfl (p_assign rfl) (fun _=>hI) ?_;clear hE a;intro a hE;refine d_done (by kernel_rfl) ?_;refine go 3 hE hI ?_;clear hE a;intro a hE;refine zs hE (p_not rfl) ?_;clear hE a;intro a hE;refine go 11 hE hI ?_;clear hE a;intro a hE;refine ret1 rfl hE rfl ?_;refine .inr ⟨rfl,fun e=> ?_,hI⟩;subst e
  first|exact he rfl|omega
 intro hlt;replace hlt:=lss_f hlt;clear hE a;intro a hE;refine go 11 hE hI ?_;clear hE a;intro a hE;refine ret1 rfl hE rfl ?_;exact .inl ⟨rfl,same_end (by omega) (by omega) ht,hI⟩
theorem in_spec {w0 w:World} {D:Sto} {ss:List Seg} (hI:Inv w0 D ss w) (n m:Int) :
  Calls Tryz.prog 93 #[.int .i64 n, .int .i64 m] w (Ret fun r w'=>Ans (0≤n∧n<m) (Inv w0 D ss) r w'):=by
 refine enter (N:=12) Tryz.func93 rfl rfl rfl ?_;intro a hE;refine go 5 hE hI ?_;clear hE a;intro a hE;refine l_step rfl (o_cmp hE rfl rfl rfl rfl rfl rfl ?_ ?_)
 ·intro h1;replace h1:=geq_t h1;clear hE a;intro a hE;refine go 3 hE hI ?_;clear hE a;intro a hE;refine l_go hE rfl (o_cmp hE rfl rfl rfl rfl rfl rfl ?_ ?_)
  ·intro h2;replace h2:=lss_t h2;clear hE a;intro a hE;refine go 4 hE hI ?_;clear hE a;intro a hE;refine ret1 rfl hE rfl ?_;exact .inl ⟨rfl,by omega,hI⟩
  intro h2;replace h2:=lss_f h2;clear hE a;intro a hE;refine go 4 hE hI ?_;clear hE a;intro a hE;refine ret1 rfl hE rfl ?_;exact .inr ⟨rfl,by omega,hI⟩
 intro h1;replace h1:=geq_f h1;clear hE a;intro a hE;refine go 8 hE hI ?_;clear hE a;intro a hE;refine ret1 rfl hE rfl ?_;exact .inr ⟨rfl,by omega,hI⟩
theorem Page_spec {w0 w:World} {D:Sto} {ss:List Seg} (hI:Inv w0 D ss w) (n:Int) :
  Calls Tryz.prog 37 #[.int .i64 n] w (Ret fun r w'=>Ans (0≤n∧n<256) (Inv w0 D ss) r w'):=by
 refine enter (N:=5) Tryz.func37 rfl rfl rfl ?_;intro a hE;refine go 5 hE hI ?_;clear hE a;intro a hE;refine l_step rfl (o_call hE rfl rfl rfl rfl ent_93 (in_spec hI n 256) ?_);clear hI hE a;rintro r w h a hE;rcases h with ⟨rfl,hx,hI⟩|⟨rfl,hx,hI⟩
 ·refine go 3 hE hI ?_;clear hE a;intro a hE;refine ret1 rfl hE rfl ?_;exact .inl ⟨rfl,hx,hI⟩
 refine go 3 hE hI ?_;clear hE a;intro a hE;refine ret1 rfl hE rfl ?_;exact .inr ⟨rfl,hx,hI⟩
open Go
abbrev Bs:=List Nat
abbrev Ens:=List (Bs×Bs)
structure Pg where
 id:Int
 lsn:Int
 level:Int
 next:Int
 ents:Ens
structure Rc where
 lsn:Int:=0
 back:Int:=0
 epoch:Int:=0
 group:Int:=0
 page:Int:=0
 kind:Int:=0
 slot:Int:=0
 key:Bs:= []
 val:Bs:= []
 last:Bool:=false
def newPg (id:Int):Pg:=⟨id,0,0, -1, []⟩
def effP (p:Pg) (r:Rc):Pg:=
 if r.kind=1 then {p with level:=min r.slot 16,next:= -1,ents:= []}
 else if r.kind=2 then (if p.ents.length<8 then {p with ents:=p.ents.insertIdx (min r.slot p.ents.length).toNat (r.key,r.val)} else p)
 else if r.kind=3 then (if r.slot<p.ents.length then {p with ents:=p.ents.eraseIdx r.slot.toNat} else p)
 else if r.kind=4 then (if r.slot<p.ents.length then {p with ents:=p.ents.modify r.slot.toNat fun e=>(e.1,r.val)} else p)
 else if r.kind=5 then {p with next:=if 256≤r.slot then -1 else r.slot}
 else if r.kind=6 then {p with ents:=p.ents.take (min r.slot p.ents.length).toNat}
 else p
def applyP (p:Pg) (r:Rc):Pg:=if r.page≠p.id∨r.lsn≤p.lsn then p else {effP p r with lsn:=r.lsn}
def findP:Ens→Bs→Nat×Bool
 | [],_=>(0,false)
 |e::r,key=>if ltB e.1 key then ((findP r key).1+1,(findP r key).2) else (0,decide (e.1=key))
structure Bt where
 pool:Int→Option Pg
 own:Int→Option Pg
 recs:List Rc
inductive Res (α:Type) where
 |ok (a:α)
 |fail (c:Nat) (o:Option Int)
def Bt.page (b:Bt) (id:Int):Res Pg:=match b.own id with
 |some x=> .ok x
 |none=>if id<0∨256≤id then .fail 103 none else match b.pool id with
  |some x=> .ok x
  |none=> .fail 113 (some id)
def doPg (x:Pg) (r:Rc):Pg:={(if x.lsn+1>1099511627776 then {applyP {x with lsn:=0} {r with lsn:=1} with lsn:=x.lsn} else {applyP x {r with lsn:=x.lsn+1} with lsn:=x.lsn}) with lsn:=x.lsn}
def Bt.doR (b:Bt) (r:Rc):Res Bt:=
 match ((if r.kind=1 then .ok (newPg r.page) else b.page r.page):Res Pg) with
 | .fail c o=> .fail c o
 | .ok x=> .ok {b with own:=fun k=>if k=r.page then some (doPg x r) else b.own k,recs:=b.recs++ [{r with lsn:=0}]}
def Bt.all (b:Bt):List Rc→Res Bt
 | []=> .ok b
 |r::l=>match b.doR r with
  | .fail c o=> .fail c o
  | .ok b=>b.all l
def childP (x:Pg) (key:Bs):Nat:=if (findP x.ents key).2 then (findP x.ents key).1 else (findP x.ents key).1 - 1
def numberP (v:Bs):Int:=(v.getD 0 0*256+v.getD 1 0:Nat)
def atP (x:Pg) (k:Int):Res Int:=if k<0∨(x.ents.length:Int)≤k then .fail 103 none else
 if ((x.ents.getD k.toNat ([], [])).2).length≠2 then .fail 103 none else .ok (numberP (x.ents.getD k.toNat ([], [])).2)
def Bt.downF (b:Bt) (key:Bs):Nat→Int→List Pg→List Nat→Res (List Pg×List Nat)
 |0,_,_,_=> .fail 103 none
 |n+1,id,l,ks=>match b.page id with
  | .fail c o=> .fail c o
  | .ok x=>if x.level=0 then .ok (l++ [x],ks) else match atP x (childP x key) with
   | .fail c o=> .fail c o
   | .ok id=>b.downF key n id (l++ [x]) (ks++ [childP x key])
def Bt.down (b:Bt) (key:Bs):Res (List Pg×List Nat):=b.downF key 17 0 [] []
def rightK (key:Bs):Bool:=decide (1≤key.length∧key.length≤32)
def lastPg (l:List Pg):Pg:=l.getLastD (newPg 0)
def Bt.get (b:Bt) (key:Bs):Res (Option Bs):=
 if rightK key=false then .fail 105 none else match b.down key with
 | .fail c o=> .fail c o
 | .ok (l,_)=>let x:=lastPg l
  if (findP x.ents key).2 then .ok (some (x.ents.getD (findP x.ents key).1 ([], [])).2) else .ok none
def Bt.fromF (b:Bt) (key:Bs) (above:Bool):Nat→Pg→Res (Option (Bs×Bs))
 |0,_=> .ok none
 |n+1,x=>
  let k:=if (findP x.ents key).2 && above then (findP x.ents key).1+1 else (findP x.ents key).1
  if k<x.ents.length then .ok (some (x.ents.getD k ([], []))) else if x.next= -1 then .ok none else match b.page x.next with
   | .fail c o=> .fail c o
   | .ok y=>b.fromF key above n y
def Bt.from_ (b:Bt) (key:Bs) (above:Bool):Res (Option (Bs×Bs)):=
 if 32<key.length then .fail 105 none else match b.down key with
 | .fail c o=> .fail c o
 | .ok (l,_)=>b.fromF key above 256 (lastPg l)
def Bt.pages (b:Bt):Res (Int×Int):=match b.page 1 with
 | .fail c o=> .fail c o
 | .ok x=>if x.ents.length≠1∨((x.ents.getD 0 ([], [])).2).length≠4 then .fail 103 none else .ok (numberP (x.ents.getD 0 ([], [])).2,numberP ((x.ents.getD 0 ([], [])).2.drop 2))
def twoB (n:Int):Bs:= [(n.fdiv 256 % 256).toNat,(n % 256).toNat]
def Bt.count (b:Bt) (used free:Int):Res Bt:=b.doR {page:=1,kind:=4,val:=twoB used++twoB free}
def Bt.take (b:Bt):Res (Int×Bt):=match b.pages with
 | .fail c o=> .fail c o
 | .ok (used,free)=>if free=0 then (if 256≤used then .fail 109 none else match b.count (used+1) 0 with
   | .fail c o=> .fail c o
   | .ok b=> .ok (used,b)) else match b.page free with
  | .fail c o=> .fail c o
  | .ok x=>match b.count used (max x.next 0) with
   | .fail c o=> .fail c o
   | .ok b=> .ok (free,b)
def Bt.free (b:Bt) (id:Int):Res Bt:=match b.pages with
 | .fail c o=> .fail c o
 | .ok (used,free)=>b.all [{page:=id,kind:=1},{page:=id,kind:=5,slot:=if free=0 then 256 else free},{page:=1,kind:=4,val:=twoB used++twoB id}]
def fillR (id level:Int):Nat→Ens→List Rc
 |_, []=> []
 |i,e::r=>{page:=id,kind:=2,slot:=i,key:=if 0<level∧i=0 then [] else e.1,val:=e.2}::fillR id level (i+1) r
def Bt.fill (b:Bt) (id level:Int) (l:Ens) (next:Int):Res Bt:=
 b.all ({page:=id,kind:=1,slot:=level}::fillR id level 0 l++if next= -1 then [] else [{page:=id,kind:=5,slot:=next}])
def Bt.splitRoot (b:Bt) (x:Pg):Res Bt:=match b.take with
 | .fail c o=> .fail c o
 | .ok (l,b)=>match b.take with
  | .fail c o=> .fail c o
  | .ok (r,b)=>match b.fill l x.level (x.ents.take 4) (if x.level=0 then r else -1) with
   | .fail c o=> .fail c o
   | .ok b=>match b.fill r x.level (x.ents.drop 4) (-1) with
    | .fail c o=> .fail c o
    | .ok b=>b.all [{page:=0,kind:=1,slot:=x.level+1},{page:=0,kind:=2,val:=twoB l},{page:=0,kind:=2,slot:=1,key:=(x.ents.getD 4 ([], [])).1,val:=twoB r}]
def Bt.split (b:Bt) (parent:Pg) (k:Int) (x:Pg):Res Bt:=match b.take with
 | .fail c o=> .fail c o
 | .ok (id,b)=>match b.fill id x.level (x.ents.drop 4) (if x.level=0 then x.next else -1) with
  | .fail c o=> .fail c o
  | .ok b=>match b.doR {page:=x.id,kind:=6,slot:=4} with
   | .fail c o=> .fail c o
   | .ok b=>match ((if x.level=0 then b.doR {page:=x.id,kind:=5,slot:=id} else .ok b):Res Bt) with
    | .fail c o=> .fail c o
    | .ok b=>b.doR {page:=parent.id,kind:=2,slot:=k+1,key:=(x.ents.getD 4 ([], [])).1,val:=twoB id}
def Bt.roomF (key:Bs):Nat→Bt→Pg→Res (Bt×Pg)
 |0,_,_=> .fail 103 none
 |n+1,b,x=>if x.level=0 then .ok (b,x) else match atP x (childP x key) with
  | .fail c o=> .fail c o
  | .ok id=>match b.page id with
   | .fail c o=> .fail c o
   | .ok y=>if 8≤y.ents.length then (match b.split x (childP x key) y with
    | .fail c o=> .fail c o
    | .ok b=>match b.page x.id with
     | .fail c o=> .fail c o
     | .ok x=>roomF key n b x) else roomF key n b y
def Bt.room (b:Bt) (key:Bs):Res (Bt×Pg):=match b.page 0 with
 | .fail c o=> .fail c o
 | .ok x=>match ((if 8≤x.ents.length then (match b.splitRoot x with
   | .fail c o=> .fail c o
   | .ok b=>match b.page 0 with
    | .fail c o=> .fail c o
    | .ok x=> .ok (b,x)) else .ok (b,x)):Res (Bt×Pg)) with
  | .fail c o=> .fail c o
  | .ok (b,x)=>Bt.roomF key 34 b x
def Bt.put (b:Bt) (key val:Bs):Res Bt:=
 if rightK key=false∨64<val.length then .fail 105 none else match b.down key with
 | .fail c o=> .fail c o
 | .ok (l,_)=>let x:=lastPg l
  if (findP x.ents key).2 then b.doR {page:=x.id,kind:=4,slot:=(findP x.ents key).1,val:=val} else match b.room key with
  | .fail c o=> .fail c o
  | .ok (b,y)=>b.doR {page:=y.id,kind:=2,slot:=(findP y.ents key).1,key:=key,val:=val}
def insR (id:Int):Nat→Ens→List Rc
 |_, []=> []
 |i,e::r=>{page:=id,kind:=2,slot:=i,key:=e.1,val:=e.2}::insR id (i+1) r
def Bt.join (b:Bt) (parent:Pg) (k0:Int):Res Bt:=
 if parent.ents.length<2 then .ok b else
  let k:=if k0+1=parent.ents.length then k0 - 1 else k0
  match atP parent k with
  | .fail c o=> .fail c o
  | .ok i=>match b.page i with
   | .fail c o=> .fail c o
   | .ok x=>match atP parent (k+1) with
    | .fail c o=> .fail c o
    | .ok j=>match b.page j with
     | .fail c o=> .fail c o
     | .ok y=>if 6<x.ents.length+y.ents.length then .ok b else
      match b.all (insR x.id x.ents.length y.ents) with
      | .fail c o=> .fail c o
      | .ok b=>match b.all [{page:=x.id,kind:=5,slot:=if y.next= -1 then 256 else y.next},{page:=parent.id,kind:=3,slot:=k+1}] with
       | .fail c o=> .fail c o
       | .ok b=>b.free y.id
def Bt.sinkF:Nat→Bt→Res Bt
 |0,b=> .ok b
 |n+1,b=>match b.page 0 with
  | .fail c o=> .fail c o
  | .ok x=>if x.level=0∨x.ents.length≠1 then .ok b else match atP x 0 with
   | .fail c o=> .fail c o
   | .ok id=>match b.page id with
    | .fail c o=> .fail c o
    | .ok y=>match b.fill 0 y.level y.ents (-1) with
     | .fail c o=> .fail c o
     | .ok b=>match b.free id with
      | .fail c o=> .fail c o
      | .ok b=>sinkF n b
def Bt.sink (b:Bt):Res Bt:=Bt.sinkF 17 b
def Bt.delete (b:Bt) (key:Bs):Res (Bool×Bt):=
 if rightK key=false then .fail 105 none else match b.down key with
 | .fail c o=> .fail c o
 | .ok (l,ks)=>let x:=lastPg l
  if (findP x.ents key).2=false then .ok (false,b) else match b.doR {page:=x.id,kind:=3,slot:=(findP x.ents key).1} with
  | .fail c o=> .fail c o
  | .ok b=>match ((if 1<l.length∧(x.ents.length:Int) - 1≤2 then b.join (l.getD (l.length - 2) (newPg 0)) (ks.getLastD 0:Nat) else .ok b):Res Bt) with
   | .fail c o=> .fail c o
   | .ok b=>match b.sink with
    | .fail c o=> .fail c o
    | .ok b=> .ok (true,b)
structure Pl where
 f:Int→Option Pg
 n:Nat
 wants:List Int
def validR (r:Rc):Bool:=decide (1≤r.lsn∧r.lsn≤1099511627776∧0≤r.epoch∧r.epoch<1073741825∧0≤r.group∧r.group<4∧0≤r.page∧r.page<256∧0≤r.back∧r.back<r.lsn∧0≤r.slot∧r.slot<32769∧1≤r.kind∧r.kind≤6∧r.key.length≤32∧r.val.length≤64)
def Pl.want (P:Pl) (id:Int):Pl:={P with wants:=if id∈P.wants then P.wants else P.wants++ [id]}
def Pl.after (P:Pl):Option Int→Pl
 |none=>P
 |some id=>P.want id
def Pl.empty:Pl:=⟨fun _=>none,0, []⟩
def Pl.apply (P:Pl) (r:Rc):Option Pl:=match P.f r.page with
 |some x=>some {P with f:=fun k=>if k=r.page then some (applyP x r) else P.f k}
 |none=>if r.kind=1∧validR r=true then some ⟨fun k=>if k=r.page then some (applyP (newPg r.page) r) else P.f k,P.n+1,P.wants.filter fun k=>decide (k≠r.page)⟩ else none
def newBt (P:Pl):Bt:=⟨P.f,fun _=>none, []⟩
def makeR:List Rc:= [{page:=0,kind:=1},{page:=1,kind:=1},{page:=1,kind:=2,key:= [110],val:= [0,2,0,0]}]
def laidP:Pl→List Rc→Int→Option (Pl×Int)
 |P, [],n=>some (P,n)
 |P,r::l,n=>if validR {r with lsn:=n}=false then none else match P.apply {r with lsn:=n} with
  |none=>none
  |some P=>laidP P l (n+1)
def OB (r:Value) (bs:List Nat) (s:Seg):Prop:=Row 5 1 r bs.length (bytesV bs) s
theorem RB.none_nil {D:Sto} {n c:Nat} {bs:List Nat} (h:RB D (.slice none n c) bs):bs= []:=by
 cases bs with
 |nil=>rfl
 |cons x r=>obtain ⟨b,o,cs,T,fr,h1,_⟩:=h.at_ (by simp);cases h1
theorem Inv.nilseg {w0 w:World} {D:Sto} {ss:List Seg} (h:Inv w0 D ss w):Inv w0 D ([]::ss) w:=h.perm (List.Perm.refl _)
end Go.Proofs.YtkknmpkcfpdllaaGreatDoor.B
