/- A program logic over the model: what is owned, what is written no more, and one lemma for each kind of step. -/
import Derived.Test.YtikllmoofngjnaaGreatDoorSLogB
import Derived.RangeFuncRecord
import Derived.OrdersIn
import Derived.TacticsIn
namespace Go.Proofs.YtikllmoofngjnaaGreatDoor.B
open Go
set_option linter.unusedVariables false
set_option linter.unusedSimpArgs false
def wideR (ρ:Option Nat):Fence:={fn:=fun _=>True,depth:=none,alive:=false,round:=ρ}
def lifts (ds:List Deferred) (a:Act):Act:={tmps:=a.tmps,defers:=a.defers++ds}
abbrev QX:=List Deferred->Exit->Act->World->Prop
def downX (Q:QX):Exit->Act->World->Prop:=fun e a w=> ∃ds a0,a=lifts ds a0/\Q ds e a0 w
def wpX (ρ:Option Nat) (P:Program) (ds:List Deferred) (c:Code) (Q:QX) (a:Act) (w:World):Prop:=c.wpIn (wideR ρ) 0 P (downX Q) (lifts ds a) w
theorem put_lifts (ds:List Deferred) (a:Act) (d:Option Tmp) (v:Value):(lifts ds a).put d v=lifts ds (a.put d v):=by cases d<;>rfl
def thenX (next:List Deferred->Act->World->Prop) (Q:QX):QX:=fun ds e a w=>match e with
  | .normal=>next ds a w
  |e=>Q ds e a w
def inBlockX (id:Nat) (Q:QX):QX:=fun ds e a w=>Exit.inBlock id (Q ds) e a w
def noDef (l:List Oper):Bool:=l.all fun o=>match o.op with
  | .defer _=>false
  |_=>true
theorem noDef_of {l:List Oper} (h:noDef l=true): ∀o∈l,∀c,o.op≠ .defer c:=fun o ho c hc=>by
  have:=List.all_eq_true.1 h o ho;rw [hc] at this;cases this
section
variable {ρ:Option Nat} {P:Program} {ds:List Deferred} {Q:QX} {a:Act} {w w' w0:World} {D:Sto} {ss:List Seg} {ops:Array Oper} {o:Oper} {rest:List Oper} {N:Nat} {env:Env} {K:Act->World->Prop}
theorem oper_in {Q0 Q':Exit->Act->World->Prop} {K':Act->World->Prop} (hnd: ∀c,o.op≠ .defer c) (hK: ∀a w,K a w->K' (lifts ds a) w)
    (hQ: ∀c a w,Q0 (.panic c) a w->Q' (.panic c) (lifts ds a) w) (hL:LetsOut Q0->LetsOut Q') (h:o.wp P a w K Q0):o.wpIn (wideR ρ) 0 P (lifts ds a) w K' Q':=by
  refine ⟨fun _ _=>trivial, ?_⟩;rw [Oper.semAt_eq _ _ _ hnd];unfold Oper.wp at h;have he:(lifts ds a).eval=a.eval:=rfl;rw [he];generalize (execOp a.eval o).run P w=r at*;cases r with
  |ok x w'=>
    cases x<;>simp only [Oper.upon] at h<;>simp only [Oper.uponIn]
    case value v=>rw [put_lifts];exact hK _ _ h
    case skip=>rw [put_lifts];exact hK _ _ h
    case defer d=>
      have:=hK _ _ h;rw [<-put_lifts] at this;exact this
    case enter f args=>
      refine ⟨fun h=>by simp [wideR] at h, ?_⟩;have h2:CallsIn (wideR ρ) (0 - 1) P f args w' _:=callsIn_wide.2 h;refine h2.mono fun e w'' he=> ?_;cases e with
      |returned v=>have h3:=hK _ _ he;rw [<-put_lifts] at h3;exact h3
      |panicked c=>exact hQ _ _ _ he
      |outgrown=>exact hL he
    case row row args=>
      refine ⟨fun h=>by simp [wideR] at h,fun c cs _=> ?_⟩;obtain ⟨v,w'',r,s⟩:=h c cs;exact ⟨v,w'',by have h3:=hK _ _ r;rw [<-put_lifts] at h3;exact h3,stepsIn_wide.2 s⟩
    all_goals exact h.elim
  |halt x w'=>
    cases x<;>simp only [Oper.upon] at h<;>simp only [Oper.uponIn]
    case panic v=>exact hQ _ _ _ h
    all_goals exact h.elim
theorem letsOut_no (hQ: ∀a w,Q ds .outgrown a w->False):LetsOut (Q ds)->False:=fun ⟨a,w,h⟩=>hQ a w h
theorem list_in (hQ: ∀a w,Q ds .outgrown a w->False): ∀(l:List Oper),(∀o∈l,∀c,o.op≠ .defer c)-> ∀a w,wpList P ops (Q ds) l a w->wpListIn (wideR ρ) 0 P ops (downX Q) l (lifts ds a) w
  | [],_,a,w,h=>⟨ds,a,rfl,h⟩
  |o::rest,hnd,a,w,h=>by
    unfold wpList at h;unfold wpListIn;have ht:(lifts ds a).tmps=a.tmps:=rfl;rw [ht];split at h
    ·rename_i hw;rw [if_pos hw];rcases h with h|h
     ·exact oper_in (hnd o (by simp)) (fun a w=>list_in hQ rest (fun o ho=>hnd o (by simp [ho])) a w) (fun c a w q=>⟨ds,a,rfl,q⟩) (fun q=>(letsOut_no hQ q).elim) h
     ·exact (letsOut_no hQ h.2).elim
    ·rename_i hw;rw [if_neg hw,put_lifts];exact ⟨fun _ _=>trivial,list_in hQ rest (fun o ho=>hnd o (by simp [ho])) _ w h⟩
theorem x_ret (h:Q ds .ret a w):wpX ρ P ds .ret Q a w:=wpIn_ret ⟨ds,a,rfl,h⟩
theorem x_seq {x y:Code} (h:wpX ρ P ds x (thenX (fun ds a w=>wpX ρ P ds y Q a w) Q) a w):wpX ρ P ds (.seq x y) Q a w:=
  wpIn_seq (wpIn_mono h fun e a w q=>by
    obtain ⟨ds',a0,rfl,q⟩:=q;cases e with
    |normal=>exact q
    |_=>exact ⟨ds',a0,rfl,q⟩)
theorem x_block {id:Nat} {c:Code} (h:wpX ρ P ds c (inBlockX id Q) a w):wpX ρ P ds (.block id c) Q a w:=
  wpIn_block (wpIn_mono h fun e a w q=>by
    obtain ⟨ds',a0,rfl,q⟩:=q;cases e with
    |exit i=>
      simp only [inBlockX,Exit.inBlock] at q ⊢;split at q
      ·rename_i hi;rw [if_pos hi];exact ⟨ds',a0,rfl,q⟩
      ·rename_i hi;rw [if_neg hi];exact ⟨ds',a0,rfl,q⟩
    |_=>exact ⟨ds',a0,rfl,q⟩)
theorem x_region_list {id:Nat} (hnd:noDef ops.toList=true) (hQ: ∀a w,Q ds .outgrown a w->False) (h:wpList P ops (Q ds) ops.toList a w):wpX ρ P ds (.region id ops false) Q a w:=
  wpIn_region_list (list_in hQ _ (noDef_of hnd) _ _ h)
theorem xrl {id:Nat} (h:wpList P ops (Q ds) ops.toList a w) (hnd:noDef ops.toList=true:=by kernel_rfl) (hQ: ∀a w,Q ds .outgrown a w->False:=by exact fun _ _ h=>h):wpX ρ P ds (.region id ops false) Q a w:=x_region_list hnd hQ h
theorem x_then_normal {next:List Deferred->Act->World->Prop} (h:next ds a w):thenX next Q ds .normal a w:=h
theorem x_blk_normal {id:Nat} (h:Q ds .normal a w):inBlockX id Q ds .normal a w:=h
def markX (k:Nat):Deferred:={target:= .collected k,args:= #[]}
def finX (P:Program) (fn:Func) (R:Ending->World->Prop):QX:=fun ds e a w=>match e with
  | .normal| .ret=>a.defers= []/\LeavesInM (wideR none) 0 P fn a.tmps R ds .returning w
  |_=>False
theorem enterX {f:FuncId} {fn:Func} {c:Code} {vs:Array Value} {R:Ending->World->Prop} (hf:P.funcs[f]? =some fn) (hb:fn.body=some c) (hn:fn.ntmps=N) (hs:Nat.ble vs.size N=true)
    (h: ∀a,EnvOk N (numbered 0 vs.toList) a->wpX none P [] c (finX P fn R) a w):Calls P f vs w R:=by
  have hle:=Nat.le_of_ble_eq_true hs;have h1:=h ⟨vs++Array.replicate (fn.ntmps - vs.size) undef, []⟩ ⟨rfl,by simp [hn];omega,fun t v ht=>by
    obtain ⟨_,h2⟩:=look_numbered _ 0 t v ht;have h3:vs[t]? =some v:=by simpa using h2
    show (vs++_)[t]? =some v;rw [Array.getElem?_append_left (Array.getElem?_eq_some_iff.1 h3).1];exact h3⟩
  refine callsIn_wide.1 (callsIn_of_wp_marks (F:=wideR none) (n:=0) hf hb trivial (wpIn_mono h1 fun e a w q=> ?_));obtain ⟨ds,a0,rfl,q⟩:=q;cases e with
  |normal=>
    obtain ⟨h0,q⟩:=q;have hd:(lifts ds a0).defers=ds:=by simp [lifts,h0]
    show LeavesInM _ _ _ _ _ _ (lifts ds a0).defers _ _;rw [hd];exact q
  |ret=>
    obtain ⟨h0,q⟩:=q;have hd:(lifts ds a0).defers=ds:=by simp [lifts,h0]
    show LeavesInM _ _ _ _ _ _ (lifts ds a0).defers _ _;rw [hd];exact q
  |_=>exact q.elim
theorem x_fin {fn:Func} {R:Ending->World->Prop} (h:bodyPost P fn R .ret a w):finX P fn R [] .ret a w:=h
theorem x_mark {fn:Func} {R:Ending->World->Prop} {k:Nat} (i:Nat) (I:Inv w0 D ss w) (hi:ss[i]? =some [(k, .deferred (some []))])
    (h: ∀w',Inv w0 D (ss.set i [(k, .deferred none)]) w'->finX P fn R ds .ret a w'):finX P fn R (markX k::ds) .ret a w:=by
  have h1:=h _ (I.turn_at i hi (o':= .deferred none));exact ⟨h1.1,by simp, .inl ⟨k,_,rfl,run_takeDeferred (I.seg i hi),h1.2⟩⟩
def loopR (fn:FuncId) (tmps:Array Value) (ps:Array Tmp) (assign body:Code) (k:Nat) (s:LoopState) (pe:Option Code):Loop:=
  {state:=s,pending:=pe,fn:=fn,tmps:=tmps,params:=ps,assign:=assign,body:=body,defers:=k}
def roundTmps (r:Loop) (vs:Array Value):Array Value:=(r.params.zip vs).foldl (fun tmps (t,a)=>tmps.setIfInBounds t a) r.tmps
def RoundAt (P:Program) (l:Nat) (r:Loop) (vs:Array Value) (w:World) (R:Ending->World->Prop):Prop:=RoundIn (wideR none) 0 P l r.fn (roundTmps r vs) r.assign r.body w R
theorem RoundAt.mono {l:Nat} {r:Loop} {vs:Array Value} {R R':Ending->World->Prop} (h:RoundAt P l r vs w R) (hr: ∀e w',R e w'->R' e w'):RoundAt P l r vs w R':=RoundIn.mono h hr
def rangeEnd (ρ:Option Nat) (P:Program) (l k:Nat) (r:Loop) (ds:List Deferred) (Q:QX) (a:Act):Ending->World->Prop:=fun e w=>(∃v,e= .returned v)/\
  ∃s pe,s≠ .busy/\w.heap[l]? =some (.loop {r with state:=s,pending:=pe})/\
    (match pe with
     |none=>Q (markX k::ds) .normal a {w with heap:=w.heap.setIfInBounds l (.loop {r with state:= .exhausted,pending:=none})}
     |some c=>wpX ρ P (markX k::ds) c Q a {w with heap:=w.heap.setIfInBounds l (.loop {r with state:= .exhausted,pending:=some c})})
theorem x_range {g:Operand} {ps:Array Tmp} {assign body:Code} {f:FuncId} {cap:Array Value} (Z:EnvOk N env a) (I:Inv w0 D ss w) (hg:ev env g=some (.func (.func f) #[] cap)) (hf:enters P f=true)
    (h: ∀fn l k tm r w',EnvOk N env ⟨tm, []⟩->r=loopR fn tm ps assign body k .ready none->Inv w0 D ([(l, .loop r)]:: [(k, .deferred (some []))]::ss) w'->
      Calls P f (#[.func (.yield l) #[] #[]]++cap) w' (rangeEnd none P l k r ds Q a)) :
    wpX none P ds (.rangeFunc g ps assign body) Q a w:=by
  refine wpIn_rangeFunc fun fn _=> ?_;obtain ⟨W1,hW1⟩: ∃W1,(w.alloc (.deferred (some []))).alloc (.loop (loopR fn a.tmps ps assign body w.heap.size .ready none))=W1:=⟨_,rfl⟩;have hI1:Inv w0 D ([(w.heap.size+1, .loop (loopR fn a.tmps ps assign body w.heap.size .ready none))]:: [(w.heap.size, .deferred (some []))]::ss) W1:=by subst hW1;have h2:=(I.new (.deferred (some []))).new (.loop (loopR fn a.tmps ps assign body w.heap.size .ready none));simp only [Array.size_push] at h2;exact h2
  have hev:(lifts ds a).eval g= .func (.func f) #[] cap:=Z.eval hg;have hcall:=h fn (w.heap.size+1) w.heap.size a.tmps _ W1 ⟨rfl,Z.size,Z.get⟩ rfl hI1;refine ⟨w.heap.size+1, [markX w.heap.size],W1,{target:= .fn (.func f) cap,args:= #[.func (.yield (w.heap.size+1)) #[] #[]]},W1,f, #[.func (.yield (w.heap.size+1)) #[] #[]]++cap,W1, ?_, ?_,fun _ _=>trivial, ?_,fun h=>by simp [wideR] at h, ?_⟩
  ·rw [<-hW1];exact run_enterLoop_outer _ _ _ _ _
  ·simp only [resolve,hev];simp [go_sem]
  ·simp [invoke,go_sem,callFunc_enters hf]
  ·refine CallsIn.mono (callsIn_wide.2 hcall:CallsIn (wideR none) (0 - 1) P f _ W1 _) fun e w3 he=> ?_;obtain ⟨⟨v,rfl⟩,s,pe,hs,hl,hq⟩:=he;refine ⟨pe,_,run_endLoop hl hs, ?_⟩;have hl2:({(lifts ds a) with defers:= [markX w.heap.size]++(lifts ds a).defers}:Act)=lifts (markX w.heap.size::ds) a:=by
     simp [lifts,Z.defers]
   cases pe with
   |none=>
     refine ⟨markX w.heap.size::ds,a,hl2,hq⟩
   |some c=>
     simp only at hq ⊢;rw [hl2];exact hq
theorem x_done {l k:Nat} {r:Loop} {s:LoopState} {v:Value} (i:Nat) (I:Inv w0 D ss w) (hi:ss[i]? =some [(l, .loop {r with state:=s,pending:=none})]) (hs:s≠ .busy)
    (h: ∀w',Inv w0 D (ss.eraseIdx i) w'->Q (markX k::ds) .normal a w'):rangeEnd ρ P l k r ds Q a (.returned v) w:=by
  refine ⟨⟨_,rfl⟩,s,none,hs,I.seg i hi,h _ ?_⟩;have h1:=I.turn_at i hi (o':= .loop {r with state:= .exhausted,pending:=none});have h2:=h1.erase i;rw [List.eraseIdx_set_eq] at h2;exact h2
def roundX (P:Program) (l:Nat) (R:Ending->World->Prop):QX:=fun _ e a w=>roundPost P l R e a w
def beginX (P:Program) (l:Nat) (body:Code) (R:Ending->World->Prop):QX:=thenX (fun ds a w=> ∃w',(Instr.beginRound l).run P w= .ok () w'/\wpX (some l) P ds body (roundX P l R) a w') (fun _ _ _ _=>False)
theorem round_tmps: ∀(ps:List (Tmp×Value)) (a:Act) (env:Env),EnvOk N env a->(ps.all fun p=>Nat.blt p.1 N)=true->EnvOk N (ps.foldl (fun e p=>p::e) env) ⟨ps.foldl (fun t p=>t.setIfInBounds p.1 p.2) a.tmps, []⟩
  | [],a,env,h,_=>⟨rfl,h.size,h.get⟩
  |(t,v)::r,a,env,h,hb=>by
    simp only [List.all_cons,Bool.and_eq_true] at hb;have h1:=h.put hb.1 v;exact round_tmps r (a.put (some t) v) _ h1 hb.2
theorem x_round {l:Nat} {r:Loop} {vs:Array Value} {R:Ending->World->Prop} {ps:List (Tmp×Value)} (Z:EnvOk N env a) (ht:r.tmps=a.tmps) (hp:(r.params.zip vs).toList=ps) (hb:(ps.all fun p=>Nat.blt p.1 N)=true)
    (h: ∀a',EnvOk N (ps.foldl (fun e p=>p::e) env) a'->wpX (some l) P [] r.assign (beginX P l r.body R) a' w):RoundAt P l r vs w R:=by
  have h1:=h _ (round_tmps ps a env Z hb);refine roundIn_of_wpIn trivial ?_;have ht2:roundTmps r vs=ps.foldl (fun t p=>t.setIfInBounds p.1 p.2) a.tmps:=by rw [roundTmps,<-Array.foldl_toList,hp,ht]
  rw [ht2];have e1:lifts [] ⟨ps.foldl (fun t p=>t.setIfInBounds p.1 p.2) a.tmps, []⟩=⟨ps.foldl (fun t p=>t.setIfInBounds p.1 p.2) a.tmps, []⟩:=by simp [lifts]
  unfold wpX at h1;rw [e1] at h1;refine wpIn_mono h1 fun e a' w' q=> ?_;obtain ⟨ds',a0,rfl,q⟩:=q;cases e with
  |normal=>
    obtain ⟨w2,hb2,q⟩:=q;refine ⟨w2,hb2,wpIn_mono q fun e a w q=> ?_⟩;obtain ⟨_,a1,rfl,q⟩:=q;cases e<;>exact q
  |_=>exact q.elim
theorem x_begin {l:Nat} {r:Loop} {body:Code} {R:Ending->World->Prop} (i:Nat) (I:Inv w0 D ss w) (hi:ss[i]? =some [(l, .loop r)]) (hr:r.state= .ready)
    (h: ∀w',Inv w0 D (ss.set i [(l, .loop {r with state:= .busy})]) w'->wpX (some l) P ds body (roundX P l R) a w'):beginX P l body R ds .normal a w:=
  ⟨_,run_beginRound (I.seg i hi) hr,h _ (I.turn_at i hi)⟩
theorem x_endN {l:Nat} {r:Loop} {R:Ending->World->Prop} (i:Nat) (I:Inv w0 D ss w) (hi:ss[i]? =some [(l, .loop r)])
    (h: ∀w',Inv w0 D (ss.set i [(l, .loop {r with state:= .ready,pending:=none})]) w'->R (.returned (.bool true)) w'):roundX P l R ds .normal a w:=
  ⟨_,_,run_endRound none (I.seg i hi),h _ (I.turn_at i hi)⟩
section
variable {Q:Exit->Act->World->Prop}
theorem y_region {id:Nat} (h:wpListIn (wideR none) 0 P ops Q ops.toList a w):(Code.region id ops false).wp P Q a w:=wpIn_wide.1 (wpIn_region_list h:(Code.region id ops false).wpIn (wideR none) 0 P Q a w)
theorem y_nil (h:Q .normal a w):wpListIn (wideR none) 0 P ops Q [] a w:=h
theorem lifts_nil (a:Act):lifts [] a=a:=by simp [lifts]
theorem y_step (hg:o.guard=none) (hnd: ∀c,o.op≠ .defer c) (h:o.wp P a w (wpListIn (wideR none) 0 P ops Q rest) Q):wpListIn (wideR none) 0 P ops Q (o::rest) a w:=by unfold wpListIn;rw [if_pos (by simp [Region.wanted,hg])];have h2:=oper_in (ρ:=none) (ds:= []) (K':=wpListIn (wideR none) 0 P ops Q rest) (Q':=Q) hnd (fun a w h=>by rw [lifts_nil];exact h) (fun c a w h=>by rw [lifts_nil];exact h) id h;rw [lifts_nil] at h2;exact h2
theorem y_yield {x:Operand} {xs:Array Operand} {ts:Array TypeId} {vs:Array Value} {l d:Nat} {r:Loop} (Z:EnvOk N env a) (hg:o.guard=none) (hd:o.dst=some d) (hN:Nat.blt d N=true)
    (ho:o.op= .call {callee:= .value x,args:=xs,argTypes:=ts}) (hx:ev env x=some (.func (.yield l) #[] #[])) (hv:xs.toList.map (ev env)=vs.toList.map some)
    (hl:w.heap[l]? =some (.loop r)) (hs:vs.size=r.params.size)
    (h:RoundAt P l r vs w fun e w'=> ∃v,e= .returned v/\ ∀a',EnvOk N ((d,v)::env) a'->wpListIn (wideR none) 0 P ops Q rest a' w'):wpListIn (wideR none) 0 P ops Q (o::rest) a w:=by
  unfold wpListIn;rw [if_pos (by simp [Region.wanted,hg])];refine ⟨fun _ _=>trivial, ?_⟩;rw [Oper.semAt_eq _ _ _ (by rw [ho];intro c h;cases h)];have hargs:=args_of Z hv;have hrun:(execOp a.eval o).run P w= .ok (.round l r.fn (roundTmps r vs) r.assign r.body) w:=by simp only [execOp,ho,resolve,Z.eval hx,Deferred.ofValue,Sem.run_bind,Sem.run_pure,Result.andThen,invoke,hargs];have h0:=run_yield (P:=P) hl hs;simp;exact h0
  rw [hrun,Oper.uponIn_round];refine ⟨fun h=>by simp [wideR] at h,RoundIn.mono h fun e w' he=> ?_⟩;obtain ⟨v,rfl,h⟩:=he;rw [hd];exact h _ (Z.put hN v)
end
end
end Go.Proofs.YtikllmoofngjnaaGreatDoor.B
