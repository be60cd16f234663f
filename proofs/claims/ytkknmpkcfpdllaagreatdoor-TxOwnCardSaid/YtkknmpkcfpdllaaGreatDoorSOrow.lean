/- A program logic over the model: what is owned, what is written no more, and one lemma for each kind of step. -/
import Derived.Test.YtkknmpkcfpdllaaGreatDoorSLogB
import Derived.RangeFuncRecord
import Derived.OrdersIn
import Derived.TacticsIn
import Derived.Test.YtkknmpkcfpdllaaGreatDoorTTreeLaid
import Derived.Test.YtkknmpkcfpdllaaGreatDoorTRow
namespace Go.Proofs.YtkknmpkcfpdllaaGreatDoor.B
open Go
set_option linter.unusedVariables false
set_option linter.unusedSimpArgs false
def wideR (ρ:Option Nat):Fence:={fn:=fun _=>True,depth:=none,alive:=false,round:=ρ}
def lifts (ds:List Deferred) (a:Act):Act:={tmps:=a.tmps,defers:=a.defers++ds}
abbrev QX:=List Deferred→Exit→Act→World→Prop
def downX (Q:QX):Exit→Act→World→Prop:=fun e a w=> ∃ds a0,a=lifts ds a0∧Q ds e a0 w
def wpX (ρ:Option Nat) (P:Program) (ds:List Deferred) (c:Code) (Q:QX) (a:Act) (w:World):Prop:=c.wpIn (wideR ρ) 0 P (downX Q) (lifts ds a) w
theorem put_lifts (ds:List Deferred) (a:Act) (d:Option Tmp) (v:Value):(lifts ds a).put d v=lifts ds (a.put d v):=by cases d<;>rfl
def thenX (next:List Deferred→Act→World→Prop) (Q:QX):QX:=fun ds e a w=>match e with
  | .normal=>next ds a w
  |e=>Q ds e a w
def inBlockX (id:Nat) (Q:QX):QX:=fun ds e a w=>Exit.inBlock id (Q ds) e a w
def noDef (l:List Oper):Bool:=l.all fun o=>match o.op with
  | .defer _=>false
  |_=>true
theorem noDef_of {l:List Oper} (h:noDef l=true): ∀o∈l,∀c,o.op≠ .defer c:=fun o ho c hc=>by
  have:=List.all_eq_true.1 h o ho;rw [hc] at this;cases this
section
variable {ρ:Option Nat} {P:Program} {ds:List Deferred} {Q:QX} {a:Act} {w w' w0:World} {D:Sto} {ss:List Seg} {ops:Array Oper} {o:Oper} {rest:List Oper} {N:Nat} {env:Env} {K:Act→World→Prop}
theorem oper_in {Q0 Q':Exit→Act→World→Prop} {K':Act→World→Prop} (hnd: ∀c,o.op≠ .defer c) (hK: ∀a w,K a w→K' (lifts ds a) w)
    (hQ: ∀c a w,Q0 (.panic c) a w→Q' (.panic c) (lifts ds a) w) (hL:LetsOut Q0→LetsOut Q') (h:o.wp P a w K Q0):o.wpIn (wideR ρ) 0 P (lifts ds a) w K' Q':=by
  refine ⟨fun _ _=>trivial, ?_⟩;rw [Oper.semAt_eq _ _ _ hnd];unfold Oper.wp at h;have he:(lifts ds a).eval=a.eval:=rfl;rw [he];generalize (execOp a.eval o).run P w=r at*;cases r with
  |ok x w'=>
    cases x<;>simp only [Oper.upon] at h<;>simp only [Oper.uponIn]
    case value v=>rw [put_lifts];exact hK _ _ h
    case skip=>rw [put_lifts];exact hK _ _ h
    case defer d=>
      have:=hK _ _ h;rw [←put_lifts] at this;exact this
    case enter f args=>
      refine ⟨fun h=>by simp [wideR] at h, ?_⟩;have h2:CallsIn (wideR ρ) (0 - 1) P f args w' _:=callsIn_wide.2 h;refine h2.mono fun e w'' he=> ?_;cases e with
      |returned v=>have h3:=hK _ _ he;rw [←put_lifts] at h3;exact h3
      |panicked c=>exact hQ _ _ _ he
      |outgrown=>exact hL he
    case row row args=>
      refine ⟨fun h=>by simp [wideR] at h,fun c cs _=> ?_⟩;obtain ⟨v,w'',r,s⟩:=h c cs;exact ⟨v,w'',by have h3:=hK _ _ r;rw [←put_lifts] at h3;exact h3,stepsIn_wide.2 s⟩
    all_goals exact h.elim
  |halt x w'=>
    cases x<;>simp only [Oper.upon] at h<;>simp only [Oper.uponIn]
    case panic v=>exact hQ _ _ _ h
    all_goals exact h.elim
theorem letsOut_no (hQ: ∀a w,Q ds .outgrown a w→False):LetsOut (Q ds)→False:=fun ⟨a,w,h⟩=>hQ a w h
theorem list_in (hQ: ∀a w,Q ds .outgrown a w→False): ∀(l:List Oper),(∀o∈l,∀c,o.op≠ .defer c)→ ∀a w,wpList P ops (Q ds) l a w→wpListIn (wideR ρ) 0 P ops (downX Q) l (lifts ds a) w
  | [],_,a,w,h=>⟨ds,a,rfl,h⟩
  |o::rest,hnd,a,w,h=>by
    unfold wpList at h;unfold wpListIn;have ht:(lifts ds a).tmps=a.tmps:=rfl;rw [ht];split at h
    ·rename_i hw;rw [if_pos hw];rcases h with h|h
     ·exact oper_in (hnd o (by simp)) (fun a w=>list_in hQ rest (fun o ho=>hnd o (by simp [ho])) a w) (fun c a w q=>⟨ds,a,rfl,q⟩) (fun q=>(letsOut_no hQ q).elim) h
     ·exact (letsOut_no hQ h.2).elim
    ·rename_i hw;rw [if_neg hw,put_lifts];exact ⟨fun _ _=>trivial,list_in hQ rest (fun o ho=>hnd o (by simp [ho])) _ w h⟩
theorem x_skip (h:Q ds .normal a w):wpX ρ P ds .skip Q a w:=wpIn_skip ⟨ds,a,rfl,h⟩
theorem x_ret (h:Q ds .ret a w):wpX ρ P ds .ret Q a w:=wpIn_ret ⟨ds,a,rfl,h⟩
theorem x_seq {x y:Code} (h:wpX ρ P ds x (thenX (fun ds a w=>wpX ρ P ds y Q a w) Q) a w):wpX ρ P ds (.seq x y) Q a w:=
  wpIn_seq (wpIn_mono h fun e a w q=>by
    obtain ⟨ds',a0,rfl,q⟩:=q;cases e with
    |normal=>exact q
    |_=>exact ⟨ds',a0,rfl,q⟩)
theorem x_block {id:Nat} {c:Code} (h:wpX ρ P ds c (inBlockX id Q) a w):wpX ρ P ds (.block id c) Q a w:=
  wpIn_block (wpIn_mono h fun e a w q=>by
    obtain ⟨ds',a0,rfl,q⟩:=q;cases e with
    |exit i=>
      simp only [inBlockX,Exit.inBlock] at q ⊢;split at q
      ·rename_i hi;rw [if_pos hi];exact ⟨ds',a0,rfl,q⟩
      ·rename_i hi;rw [if_neg hi];exact ⟨ds',a0,rfl,q⟩
    |_=>exact ⟨ds',a0,rfl,q⟩)
theorem x_true {c:Operand} {x y:Code} (hE:EnvOk N env a) (hc:ev env c=some (.bool true)) (h:wpX ρ P ds x Q a w):wpX ρ P ds (.cond c x y) Q a w:=wpIn_cond_true (hE.eval hc) h
theorem x_false {c:Operand} {x y:Code} (hE:EnvOk N env a) (hc:ev env c=some (.bool false)) (h:wpX ρ P ds y Q a w):wpX ρ P ds (.cond c x y) Q a w:=wpIn_cond_false (hE.eval hc) h
theorem x_region_list {id:Nat} (hnd:noDef ops.toList=true) (hQ: ∀a w,Q ds .outgrown a w→False) (h:wpList P ops (Q ds) ops.toList a w):wpX ρ P ds (.region id ops false) Q a w:=
  wpIn_region_list (list_in hQ _ (noDef_of hnd) _ _ h)
theorem x_then_normal {next:List Deferred→Act→World→Prop} (h:next ds a w):thenX next Q ds .normal a w:=h
theorem x_blk_normal {id:Nat} (h:Q ds .normal a w):inBlockX id Q ds .normal a w:=h
def markX (k:Nat):Deferred:={target:= .collected k,args:= #[]}
def finX (P:Program) (fn:Func) (R:Ending→World→Prop):QX:=fun ds e a w=>match e with
  | .normal| .ret=>a.defers= []∧LeavesInM (wideR none) 0 P fn a.tmps R ds .returning w
  |_=>False
theorem enterX {f:FuncId} {fn:Func} {c:Code} {vs:Array Value} {R:Ending→World→Prop} (hf:P.funcs[f]? =some fn) (hb:fn.body=some c) (hn:fn.ntmps=N) (hs:Nat.ble vs.size N=true)
    (h: ∀a,EnvOk N (numbered 0 vs.toList) a→wpX none P [] c (finX P fn R) a w):Calls P f vs w R:=by
  have hle:=Nat.le_of_ble_eq_true hs;have h1:=h ⟨vs++Array.replicate (fn.ntmps - vs.size) undef, []⟩ ⟨rfl,by simp [hn];omega,fun t v ht=>by
    obtain ⟨_,h2⟩:=look_numbered _ 0 t v ht;have h3:vs[t]? =some v:=by simpa using h2
    show (vs++_)[t]? =some v;rw [Array.getElem?_append_left (Array.getElem?_eq_some_iff.1 h3).1];exact h3⟩
  refine callsIn_wide.1 (callsIn_of_wp_marks (F:=wideR none) (n:=0) hf hb trivial (wpIn_mono h1 fun e a w q=> ?_));obtain ⟨ds,a0,rfl,q⟩:=q;cases e with
  |normal=>
    obtain ⟨h0,q⟩:=q;have hd:(lifts ds a0).defers=ds:=by simp [lifts,h0]
    show LeavesInM _ _ _ _ _ _ (lifts ds a0).defers _ _;rw [hd];exact q
  |ret=>
    obtain ⟨h0,q⟩:=q;have hd:(lifts ds a0).defers=ds:=by simp [lifts,h0]
    show LeavesInM _ _ _ _ _ _ (lifts ds a0).defers _ _;rw [hd];exact q
  |_=>exact q.elim
theorem x_fin {fn:Func} {R:Ending→World→Prop} (h:bodyPost P fn R .ret a w):finX P fn R [] .ret a w:=h
theorem x_mark {fn:Func} {R:Ending→World→Prop} {k:Nat} (i:Nat) (hI:Inv w0 D ss w) (hi:ss[i]? =some [(k, .deferred (some []))])
    (h: ∀w',Inv w0 D (ss.set i [(k, .deferred none)]) w'→finX P fn R ds .ret a w'):finX P fn R (markX k::ds) .ret a w:=by
  have h1:=h _ (hI.turn_at i hi (o':= .deferred none));exact ⟨h1.1,by simp, .inl ⟨k,_,rfl,run_takeDeferred (hI.seg i hi),h1.2⟩⟩
theorem run_loadVar_scal {t:TypeId} {b:Nat} {v:Value} {T:TypeId} {fr:Nat×Nat} (ht:isScal P t=true) (hc:w.heap[b]? =some (.cells #[v] T fr)):(loadVar t ⟨b,0,none⟩).run P w= .ok v w:=by have h2:(load ⟨b,0,none⟩).run P w= .ok v w:=run_load_at (by rw [cell_of hc];rfl);simp only [loadVar,Sem.run_bind,isAgg_scal ht w,Result.andThen_ok,Bool.false_eq_true,if_false,h2]
theorem retcc {fn:Func} {R:Value→World→Prop} {p u ty ty' b b':Nat} {v v':Value} {T T':TypeId} {fr fr':Nat×Nat} (hr:fn.results= #[.cell p ty, .cell u ty']) (hE:EnvOk N env a) (hp:look env p=some (.pointer (some ⟨b,0,none⟩))) (hu:look env u=some (.pointer (some ⟨b',0,none⟩)))
    (ht:isScal P ty=true) (ht':isScal P ty'=true) (hc:w.heap[b]? =some (.cells #[v] T fr)) (hc':w.heap[b']? =some (.cells #[v'] T' fr')) (h:R (.tuple #[v,v']) w):bodyPost P fn (Ret R) .ret a w:=by
  have h1:=run_loadVar_scal ht hc;have h2:=run_loadVar_scal ht' hc';exact ⟨hE.defers, .tuple #[v,v'],by simp [results,hr,look_at' hE hp,look_at' hE hu,asAddr,h1,h2],_,rfl,h⟩
theorem retcs {fn:Func} {R:Value→World→Prop} {p ty b:Nat} {v:Value} {T:TypeId} {fr:Nat×Nat} (hr:fn.results= #[.cell p ty]) (hE:EnvOk N env a) (hp:look env p=some (.pointer (some ⟨b,0,none⟩)))
    (ht:isScal P ty=true) (hc:w.heap[b]? =some (.cells #[v] T fr)) (h:R v w):bodyPost P fn (Ret R) .ret a w:=by
  have h1:=run_loadVar_scal ht hc;exact ⟨hE.defers,v,by simp [results,hr,look_at' hE hp,asAddr,h1],_,rfl,h⟩
def loopR (fn:FuncId) (tmps:Array Value) (ps:Array Tmp) (assign body:Code) (k:Nat) (s:LoopState) (pe:Option Code):Loop:=
  {state:=s,pending:=pe,fn:=fn,tmps:=tmps,params:=ps,assign:=assign,body:=body,defers:=k}
def roundTmps (r:Loop) (vs:Array Value):Array Value:=(r.params.zip vs).foldl (fun tmps (t,a)=>tmps.setIfInBounds t a) r.tmps
def RoundAt (P:Program) (l:Nat) (r:Loop) (vs:Array Value) (w:World) (R:Ending→World→Prop):Prop:=RoundIn (wideR none) 0 P l r.fn (roundTmps r vs) r.assign r.body w R
theorem RoundAt.mono {l:Nat} {r:Loop} {vs:Array Value} {R R':Ending→World→Prop} (h:RoundAt P l r vs w R) (hr: ∀e w',R e w'→R' e w'):RoundAt P l r vs w R':=RoundIn.mono h hr
def rangeEnd (ρ:Option Nat) (P:Program) (l k:Nat) (r:Loop) (ds:List Deferred) (Q:QX) (a:Act):Ending→World→Prop:=fun e w=>(∃v,e= .returned v)∧
  ∃s pe,s≠ .busy∧w.heap[l]? =some (.loop {r with state:=s,pending:=pe})∧
    (match pe with
     |none=>Q (markX k::ds) .normal a {w with heap:=w.heap.setIfInBounds l (.loop {r with state:= .exhausted,pending:=none})}
     |some c=>wpX ρ P (markX k::ds) c Q a {w with heap:=w.heap.setIfInBounds l (.loop {r with state:= .exhausted,pending:=some c})})
theorem x_range {g:Operand} {ps:Array Tmp} {assign body:Code} {f:FuncId} {cap:Array Value} (hE:EnvOk N env a) (hI:Inv w0 D ss w) (hg:ev env g=some (.func (.func f) #[] cap)) (hf:enters P f=true)
    (h: ∀fn l k tm r w',EnvOk N env ⟨tm, []⟩→r=loopR fn tm ps assign body k .ready none→Inv w0 D ([(l, .loop r)]:: [(k, .deferred (some []))]::ss) w'→
      Calls P f (#[.func (.yield l) #[] #[]]++cap) w' (rangeEnd none P l k r ds Q a)) :
    wpX none P ds (.rangeFunc g ps assign body) Q a w:=by
  refine wpIn_rangeFunc fun fn _=> ?_;obtain ⟨W1,hW1⟩: ∃W1,(w.alloc (.deferred (some []))).alloc (.loop (loopR fn a.tmps ps assign body w.heap.size .ready none))=W1:=⟨_,rfl⟩;have hI1:Inv w0 D ([(w.heap.size+1, .loop (loopR fn a.tmps ps assign body w.heap.size .ready none))]:: [(w.heap.size, .deferred (some []))]::ss) W1:=by subst hW1;have h2:=(hI.new (.deferred (some []))).new (.loop (loopR fn a.tmps ps assign body w.heap.size .ready none));simp only [Array.size_push] at h2;exact h2
  have hev:(lifts ds a).eval g= .func (.func f) #[] cap:=hE.eval hg;have hcall:=h fn (w.heap.size+1) w.heap.size a.tmps _ W1 ⟨rfl,hE.size,hE.get⟩ rfl hI1;refine ⟨w.heap.size+1, [markX w.heap.size],W1,{target:= .fn (.func f) cap,args:= #[.func (.yield (w.heap.size+1)) #[] #[]]},W1,f, #[.func (.yield (w.heap.size+1)) #[] #[]]++cap,W1, ?_, ?_,fun _ _=>trivial, ?_,fun h=>by simp [wideR] at h, ?_⟩
  ·rw [←hW1];exact run_enterLoop_outer _ _ _ _ _
  ·simp only [resolve,hev];simp [go_sem]
  ·simp [invoke,go_sem,callFunc_enters hf]
  ·refine CallsIn.mono (callsIn_wide.2 hcall:CallsIn (wideR none) (0 - 1) P f _ W1 _) fun e w3 he=> ?_;obtain ⟨⟨v,rfl⟩,s,pe,hs,hl,hq⟩:=he;refine ⟨pe,_,run_endLoop hl hs, ?_⟩;have hl2:({(lifts ds a) with defers:= [markX w.heap.size]++(lifts ds a).defers}:Act)=lifts (markX w.heap.size::ds) a:=by
     simp [lifts,hE.defers]
   cases pe with
   |none=>
     refine ⟨markX w.heap.size::ds,a,hl2,hq⟩
   |some c=>
     simp only at hq ⊢;rw [hl2];exact hq
theorem x_done {l k:Nat} {r:Loop} {s:LoopState} {v:Value} (i:Nat) (hI:Inv w0 D ss w) (hi:ss[i]? =some [(l, .loop {r with state:=s,pending:=none})]) (hs:s≠ .busy)
    (h: ∀w',Inv w0 D (ss.eraseIdx i) w'→Q (markX k::ds) .normal a w'):rangeEnd ρ P l k r ds Q a (.returned v) w:=by
  refine ⟨⟨_,rfl⟩,s,none,hs,hI.seg i hi,h _ ?_⟩;have h1:=hI.turn_at i hi (o':= .loop {r with state:= .exhausted,pending:=none});have h2:=h1.erase i;rw [List.eraseIdx_set_eq] at h2;exact h2
def roundX (P:Program) (l:Nat) (R:Ending→World→Prop):QX:=fun _ e a w=>roundPost P l R e a w
def beginX (P:Program) (l:Nat) (body:Code) (R:Ending→World→Prop):QX:=thenX (fun ds a w=> ∃w',(Instr.beginRound l).run P w= .ok () w'∧wpX (some l) P ds body (roundX P l R) a w') (fun _ _ _ _=>False)
theorem round_tmps: ∀(ps:List (Tmp×Value)) (a:Act) (env:Env),EnvOk N env a→(ps.all fun p=>Nat.blt p.1 N)=true→EnvOk N (ps.foldl (fun e p=>p::e) env) ⟨ps.foldl (fun t p=>t.setIfInBounds p.1 p.2) a.tmps, []⟩
  | [],a,env,h,_=>⟨rfl,h.size,h.get⟩
  |(t,v)::r,a,env,h,hb=>by
    simp only [List.all_cons,Bool.and_eq_true] at hb;have h1:=h.put hb.1 v;exact round_tmps r (a.put (some t) v) _ h1 hb.2
theorem x_round {l:Nat} {r:Loop} {vs:Array Value} {R:Ending→World→Prop} {ps:List (Tmp×Value)} (hE:EnvOk N env a) (ht:r.tmps=a.tmps) (hp:(r.params.zip vs).toList=ps) (hb:(ps.all fun p=>Nat.blt p.1 N)=true)
    (h: ∀a',EnvOk N (ps.foldl (fun e p=>p::e) env) a'→wpX (some l) P [] r.assign (beginX P l r.body R) a' w):RoundAt P l r vs w R:=by
  have h1:=h _ (round_tmps ps a env hE hb);refine roundIn_of_wpIn trivial ?_;have ht2:roundTmps r vs=ps.foldl (fun t p=>t.setIfInBounds p.1 p.2) a.tmps:=by rw [roundTmps,←Array.foldl_toList,hp,ht]
  rw [ht2];have e1:lifts [] ⟨ps.foldl (fun t p=>t.setIfInBounds p.1 p.2) a.tmps, []⟩=⟨ps.foldl (fun t p=>t.setIfInBounds p.1 p.2) a.tmps, []⟩:=by simp [lifts]
  unfold wpX at h1;rw [e1] at h1;refine wpIn_mono h1 fun e a' w' q=> ?_;obtain ⟨ds',a0,rfl,q⟩:=q;cases e with
  |normal=>
    obtain ⟨w2,hb2,q⟩:=q;refine ⟨w2,hb2,wpIn_mono q fun e a w q=> ?_⟩;obtain ⟨_,a1,rfl,q⟩:=q;cases e<;>exact q
  |_=>exact q.elim
theorem x_round2 {l:Nat} {r:Loop} {v1 v2:Value} {t1 t2:Tmp} {tm:Array Value} {R:Ending→World→Prop} (hE:EnvOk N env ⟨tm, []⟩) (ht:r.tmps=tm) (hp:r.params= #[t1,t2]) (h1:Nat.blt t1 N=true) (h2:Nat.blt t2 N=true)
    (h: ∀a',EnvOk N ((t2,v2)::(t1,v1)::env) a'→wpX (some l) P [] r.assign (beginX P l r.body R) a' w):RoundAt P l r #[v1,v2] w R:=
  x_round (ps:= [(t1,v1),(t2,v2)]) hE ht (by rw [hp];simp) (by simp [h1,h2]) h
theorem x_begin {l:Nat} {r:Loop} {body:Code} {R:Ending→World→Prop} (i:Nat) (hI:Inv w0 D ss w) (hi:ss[i]? =some [(l, .loop r)]) (hr:r.state= .ready)
    (h: ∀w',Inv w0 D (ss.set i [(l, .loop {r with state:= .busy})]) w'→wpX (some l) P ds body (roundX P l R) a w'):beginX P l body R ds .normal a w:=
  ⟨_,run_beginRound (hI.seg i hi) hr,h _ (hI.turn_at i hi)⟩
theorem x_endN {l:Nat} {r:Loop} {R:Ending→World→Prop} (i:Nat) (hI:Inv w0 D ss w) (hi:ss[i]? =some [(l, .loop r)])
    (h: ∀w',Inv w0 D (ss.set i [(l, .loop {r with state:= .ready,pending:=none})]) w'→R (.returned (.bool true)) w'):roundX P l R ds .normal a w:=
  ⟨_,_,run_endRound none (hI.seg i hi),h _ (hI.turn_at i hi)⟩
section
variable {Q:Exit→Act→World→Prop}
theorem y_region {id:Nat} (h:wpListIn (wideR none) 0 P ops Q ops.toList a w):(Code.region id ops false).wp P Q a w:=wpIn_wide.1 (wpIn_region_list h:(Code.region id ops false).wpIn (wideR none) 0 P Q a w)
theorem y_nil (h:Q .normal a w):wpListIn (wideR none) 0 P ops Q [] a w:=h
theorem lifts_nil (a:Act):lifts [] a=a:=by simp [lifts]
theorem y_step (hg:o.guard=none) (hnd: ∀c,o.op≠ .defer c) (h:o.wp P a w (wpListIn (wideR none) 0 P ops Q rest) Q):wpListIn (wideR none) 0 P ops Q (o::rest) a w:=by unfold wpListIn;rw [if_pos (by simp [Region.wanted,hg])];have h2:=oper_in (ρ:=none) (ds:= []) (K':=wpListIn (wideR none) 0 P ops Q rest) (Q':=Q) hnd (fun a w h=>by rw [lifts_nil];exact h) (fun c a w h=>by rw [lifts_nil];exact h) id h;rw [lifts_nil] at h2;exact h2
theorem y_yield {x:Operand} {xs:Array Operand} {ts:Array TypeId} {vs:Array Value} {l d:Nat} {r:Loop} (hE:EnvOk N env a) (hg:o.guard=none) (hd:o.dst=some d) (hN:Nat.blt d N=true)
    (ho:o.op= .call {callee:= .value x,args:=xs,argTypes:=ts}) (hx:ev env x=some (.func (.yield l) #[] #[])) (hv:xs.toList.map (ev env)=vs.toList.map some)
    (hl:w.heap[l]? =some (.loop r)) (hs:vs.size=r.params.size)
    (h:RoundAt P l r vs w fun e w'=> ∃v,e= .returned v∧ ∀a',EnvOk N ((d,v)::env) a'→wpListIn (wideR none) 0 P ops Q rest a' w'):wpListIn (wideR none) 0 P ops Q (o::rest) a w:=by
  unfold wpListIn;rw [if_pos (by simp [Region.wanted,hg])];refine ⟨fun _ _=>trivial, ?_⟩;rw [Oper.semAt_eq _ _ _ (by rw [ho];intro c h;cases h)];have hargs:=args_of hE hv;have hrun:(execOp a.eval o).run P w= .ok (.round l r.fn (roundTmps r vs) r.assign r.body) w:=by simp only [execOp,ho,resolve,hE.eval hx,Deferred.ofValue,Sem.run_bind,Sem.run_pure,Result.andThen,invoke,hargs];have h0:=run_yield (P:=P) hl hs;simp;exact h0
  rw [hrun,Oper.uponIn_round];refine ⟨fun h=>by simp [wideR] at h,RoundIn.mono h fun e w' he=> ?_⟩;obtain ⟨v,rfl,h⟩:=he;rw [hd];exact h _ (hE.put hN v)
end
end
set_option linter.unnecessarySimpa false
def Chn (V:Vw):Nat→Int→Int→Ens→Prop
 |0,fl,nx,kv=>fl=nx∧kv= []
 |m+1,fl,nx,kv=> ∃x kv2,V fl=some x∧kv=x.ents++kv2∧Chn V m x.next nx kv2
theorem Chn.append {V:Vw} {md nx:Int} {kv2:Ens} {m2:Nat} (h2:Chn V m2 md nx kv2): ∀(m:Nat) {fl:Int} {kv1:Ens},Chn V m fl md kv1→Chn V (m+m2) fl nx (kv1++kv2)
 |0,fl,kv1,h=>by obtain ⟨rfl,rfl⟩:=h;simpa using h2
 |m+1,fl,kv1,h=>by
  obtain ⟨x,k,h3,rfl,h4⟩:=h;rw [show m+1+m2=(m+m2)+1 by omega];exact ⟨x,k++kv2,h3,by rw [List.append_assoc],Chn.append h2 m h4⟩
theorem Chs.chain {C:CP} {V:Vw}: ∀(es:Ens) {lo hi fl nx ids kv},(∀id lo hi fl nx js kv,C id lo hi fl nx js kv→ ∃m,m≤js.length∧Chn V m fl nx kv)→Chs C es lo hi fl nx ids kv→ ∃m,m≤ids.length∧Chn V m fl nx kv
 | [],_,_,_,_,_,_,_,h=>h.elim
 | [e],_,_,_,_,_,_,hC,h=>hC _ _ _ _ _ _ _ h.2
 |e::e2::r,_,_,_,_,_,_,hC,h=>by
  obtain ⟨h0,h1,h2,md,i1,i2,k1,k2,rfl,rfl,h3,h4⟩:=h;obtain ⟨m1,l1,c1⟩:=hC _ _ _ _ _ _ _ h3;obtain ⟨m2,l2,c2⟩:=Chs.chain (e2::r) hC h4;exact ⟨m1+m2,by rw [List.length_append];omega,Chn.append c2 m1 c1⟩
theorem SubT.chain {V:Vw}: ∀(n:Nat) {id lo hi fl nx ids kv},SubT V n id lo hi fl nx ids kv→ ∃m,m≤ids.length∧Chn V m fl nx kv
 |0,id,_,_,_,_,_,_,h=>by
  obtain ⟨rfl,rfl,x,h3,h4,h5,h6,_⟩:=h;exact ⟨1,by simp,x, [],h3,by rw [h6];simp,by rw [h5];exact ⟨rfl,rfl⟩⟩
 |n+1,id,_,_,_,_,_,_,h=>by
  obtain ⟨js,rfl,x,_,_,_,_,_,h7⟩:=h;obtain ⟨m,l,c⟩:=Chs.chain _ (fun _ _ _ _ _ _ _ hs=>SubT.chain n hs) h7;exact ⟨m,by simp only [List.length_cons];omega,c⟩
theorem Chs.sides {C:CP} {V:Vw} (hK: ∀id lo hi fl nx js kv,C id lo hi fl nx js kv→KvOk lo hi kv) (hC: ∀id lo hi fl nx js kv,C id lo hi fl nx js kv→ ∃m,m≤js.length∧Chn V m fl nx kv) :
  ∀(es:Ens) (e:Bs×Bs) {lo hi fl nx ids kv} {key:Bs},Chs C (e::es) lo hi fl nx ids kv→InR lo hi key→
  ∃pre c post lo' hi' fl' nx' ids' kvL kv' kvR m mi,e::es=pre++c::post∧pre.length=cnt key es∧InR lo' hi' key∧c.2.length=2∧C (numberP c.2) lo' hi' fl' nx' ids' kv'∧kv=kvL++kv'++kvR∧
   (∀e∈kvL,ltB e.1 key=true)∧(∀e∈kvR,ltB key e.1=true)∧Chn V m nx' nx kvR∧m+ids'.length+mi=ids.length
 | [],e,lo,hi,fl,nx,ids,kv,key,h,hk=>⟨[],e, [],lo,hi,fl,nx,ids, [],kv, [],0,0,rfl,rfl,hk,h.1,h.2,by simp,by simp,by simp,⟨rfl,rfl⟩,by omega⟩
 |e2::r,e,lo,hi,fl,nx,ids,kv,key,h,hk=>by
  obtain ⟨h0,h1,h2,md,i1,i2,k1,k2,rfl,rfl,h3,h4⟩:=h;by_cases hlt:ltB key e2.1=true
  ·obtain ⟨m,lm,cm⟩:=Chs.chain (e2::r) hC h4;refine ⟨[],e,e2::r,lo,some e2.1,fl,md,i1, [],k1,k2,m,i2.length - m,rfl,by simp [cnt,hlt],⟨hk.1,hlt⟩,h0,h3,by simp,by simp,fun q hq=> ?_,cm,by rw [List.length_append];omega⟩;exact ltB_le_trans hlt ((Chs.kv hK (e2::r) h4).2 q hq).2.1
  have hge:ltB key e2.1=false:=by simpa using hlt
  obtain ⟨pre,c,post,lo',hi',fl',nx',ids',kvL,kv',kvR,m,mi,g1,g2,g3,g4,g5,rfl,g7,g8,g9,g10⟩:=Chs.sides hK hC r e2 h4 ⟨hge,hk.2⟩;refine ⟨e::pre,c,post,lo',hi',fl',nx',ids',k1++kvL,kv',kvR,m,mi+i1.length,by rw [g1];rfl,by simp [cnt,hlt,g2],g3,g4,g5,by simp,fun q hq=> ?_,g8,g9,by rw [List.length_append];omega⟩;rcases List.mem_append.1 hq with q1|q1
  ·have:=((hK _ _ _ _ _ _ _ h3).2 q q1).2.2;exact ltB_le_trans this hge
  exact g7 q q1
theorem down_sides {b:Bt} {key:Bs} (hi0:IdsOk b.view): ∀(n f:Nat) {id lo hi fl nx ids kv} (l:List Pg) (ks:List Nat),n+1≤f→SubT b.view n id lo hi fl nx ids kv→InR lo hi key→
  ∃l' ks' y kvL kvR m,b.downF key f id l ks= .ok (l++l'++ [y],ks++ks')∧kv=kvL++y.ents++kvR∧Sorted y.ents∧(∀e∈kvL,ltB e.1 key=true)∧(∀e∈kvR,ltB key e.1=true)∧Chn b.view m y.next nx kvR∧m+1≤ids.length
 |0,f,id,lo,hi,fl,nx,ids,kv,l,ks,hf,hs,hk=>by
  obtain ⟨f,rfl⟩: ∃g,f=g+1:=⟨f - 1,by omega⟩;obtain ⟨rfl,rfl,y,hy,h1,h2,h3,h4,h5,h6⟩:=hs;subst h3;exact ⟨[], [],y, [], [],0,by rw [Bt.downF,page_of_view hy];simp only [];rw [if_pos h1];simp,by simp,h5,by simp,by simp,⟨h2,rfl⟩,by simp⟩
 |n+1,f,id,lo,hi,fl,nx,ids,kv,l,ks,hf,hs,hk=>by
  obtain ⟨f,rfl⟩: ∃g,f=g+1:=⟨f - 1,by omega⟩;obtain ⟨js,rfl,x,hx,hlv,hxn,hlen,⟨v,r,hes⟩,hch⟩:=hs;rw [hes] at hch;obtain ⟨pre,c,post,lo',hi',fl',nx',ids',kvL,kv',kvR,m,mi,g1,g2,g3,g4,g5,rfl,g7,g8,g9,g10⟩:=Chs.sides (V:=b.view) (fun _ _ _ _ _ _ _ hs=>SubT.kv n hs) (fun _ _ _ _ _ _ _ hs=>SubT.chain n hs) r ([],v) hch hk;have hcp:childP x key=pre.length:=by rw [childP_cnt hes (Chs.rise _ _ hch),g2]
  have hget:x.ents[pre.length]? =some c:=by rw [hes,g1];simp
  have hlt:pre.length<x.ents.length:=by rw [hes,g1];simp
  have hat:atP x (childP x key:Nat)= .ok (numberP c.2):=by
   have hd:x.ents.getD ((pre.length:Int)).toNat ([], [])=c:=by simp [List.getD,hget]
   rw [atP,hcp,if_neg (by omega),hd,if_neg (by simp [g4])]
  obtain ⟨l',ks',z,kL,kR,m2,hr,rfl,w1,w2,w3,w4,w5⟩:=down_sides hi0 n f (l++ [x]) (ks++ [childP x key]) (by omega) g5 g3;refine ⟨x::l',childP x key::ks',z,kvL++kL,kR++kvR,m2+m, ?_,by simp,w1,fun q hq=> ?_,fun q hq=> ?_,Chn.append g9 m2 w4,by simp only [List.length_cons];omega⟩
  ·rw [Bt.downF,page_of_view hx];simp only [];rw [if_neg (by omega),hat];simp only [];rw [hr];simp
  ·rcases List.mem_append.1 hq with q1|q1
   ·exact g7 q q1
   exact w2 q q1
  rcases List.mem_append.1 hq with q1|q1
  ·exact w3 q q1
  exact g8 q q1
def fromKv (key:Bs) (above:Bool):Ens→Option (Bs×Bs)
 | []=>none
 |e::r=>if ltB e.1 key=true∨(above=true∧e.1=key) then fromKv key above r else some e
theorem fromKv_append (key:Bs) (above:Bool) (R:Ens): ∀l:Ens,fromKv key above (l++R)=match fromKv key above l with
  |some e=>some e
  |none=>fromKv key above R
 | []=>rfl
 |e::r=>by
  rw [List.cons_append,fromKv,fromKv];split
  ·exact fromKv_append key above R r
  rfl
theorem fromKv_left {key:Bs} {above:Bool} {l:Ens}: ∀L:Ens,(∀e∈L,ltB e.1 key=true)→fromKv key above (L++l)=fromKv key above l
 | [],_=>rfl
 |e::r,h=>by rw [List.cons_append,fromKv,if_pos (.inl (h e (by simp))),fromKv_left r (fun q hq=>h q (by simp [hq]))]
theorem fromKv_right {key:Bs} {above:Bool} {R:Ens} (h: ∀e∈R,ltB key e.1=true):fromKv key above R=R[0]? :=by
 cases R with
 |nil=>rfl
 |cons e r=>
  have h1:=h e (by simp);rw [fromKv,if_neg]
  ·rfl
  rintro (q|⟨_,q⟩)
  ·rw [ltB_asymm h1] at q;cases q
  rw [q,ltB_irrefl] at h1;cases h1
def fromK (key:Bs) (above:Bool) (l:Ens):Nat:=if (findP l key).2 && above then (findP l key).1+1 else (findP l key).1
theorem fromKv_at {key:Bs} {above:Bool}: ∀l:Ens,Sorted l→fromKv key above l=l[fromK key above l]?
 | [],_=>by simp [fromKv]
 |e::r,hs=>by
  have hs':=List.pairwise_cons.1 hs;have ih:=fromKv_at (key:=key) (above:=above) r hs'.2;rw [fromKv,fromK,findP];by_cases h1:ltB e.1 key=true
  ·rw [if_pos (.inl h1),if_pos h1,ih,fromK];simp only [];split<;>rfl
  rw [if_neg h1];by_cases h2:e.1=key
  ·cases above with
   |true=>
    rw [if_pos (.inr ⟨rfl,h2⟩),fromKv_right (fun q hq=>by rw [←h2];exact hs'.1 q hq)];simp [h2]
   |false=>
    rw [if_neg (by rintro (q|⟨q,_⟩);exact h1 q;cases q)];simp
  rw [if_neg (by rintro (q|⟨_,q⟩);exact h1 q;exact h2 q)];simp [h2]
theorem fromF_law {b:Bt} (ha:AllOk b) {key:Bs} {above:Bool}: ∀(m f:Nat) {x:Pg} {kvR:Ens},m+1≤f→Chn b.view m x.next (-1) kvR→Sorted x.ents→(∀e∈kvR,ltB key e.1=true)→Sorted kvR→
  b.fromF key above f x= .ok (fromKv key above (x.ents++kvR))
 |m,0,x,kvR,hf,_,_,_,_=>by omega
 |m,f+1,x,kvR,hf,hc,hs,hR,hsR=>by
  have hat:=fromKv_at (key:=key) (above:=above) x.ents hs;rw [fromKv_append,hat,Bt.fromF];have hk:(if ((findP x.ents key).2 && above)=true then (findP x.ents key).1+1 else (findP x.ents key).1)=fromK key above x.ents:=rfl;rw [hk];by_cases hlt:fromK key above x.ents<x.ents.length
  ·rw [if_pos hlt,List.getElem?_eq_getElem hlt];simp [List.getD,List.getElem?_eq_getElem hlt]
  rw [if_neg hlt,List.getElem?_eq_none (by omega)];simp only [];cases m with
  |zero=>
   obtain ⟨h1,rfl⟩:=hc;rw [if_pos h1];rfl
  |succ m=>
   obtain ⟨y,k2,hy,rfl,hc2⟩:=hc;have hp:=page_of_view hy;have hrg:=page_lt ha hp;rw [if_neg (by omega),hp];have hsy:=(List.pairwise_append.1 hsR);exact fromF_law ha m f (by omega) hc2 hsy.1 (fun e he=>hR e (by simp [he])) hsy.2.1
open Go Go.Proofs
theorem Next_ok {w0 w:World} {D:Sto} {ss:List Seg} {sb sp:Seg} {vb vp:Value} {b:Bt} {P:Pl} (hI:Inv w0 D (sb::sp::ss) w) {ad:Nat→Addr} (hS:TSents D ad) (hB:BatchS D vb vp b sb) (hP:PoolS D vp P sp) (hpool:b.pool=P.f) {vk:Value} {key:Bs} (hk:RB D vk key) {res:Option (Bs×Bs)} (hok:b.from_ key false= .ok res) :
  Calls Tryz.prog 127 #[vb,vk] w (Ret fun r w'=> ∃D' k v sb' sp',Le D D'∧r= .tuple #[.agg #[k,v], .bool res.isSome, .nilIface]∧RB D' k (res.getD ([], [])).1∧RB D' v (res.getD ([], [])).2∧PoolS D' vp P sp'∧Inv w0 D' (sb'::sp'::ss) w'):=by
 refine (Next_spec hI.merge hS (TreeS.join hB hP hpool) hk).mono fun e w' h=> ?_;obtain ⟨r,he,h⟩:=h;refine ⟨r,he, ?_⟩;rcases h with ⟨res',h1,D',k,v,hD,rfl,hk',hv',hT,hI'⟩|⟨c,o,h1,_⟩
 ·rw [hok] at h1;injection h1 with h1;subst h1
  obtain ⟨sb',sp',hs,hB',hP',_⟩:=hT;rw [hs] at hI';exact ⟨D',k,v,sb',sp',hD,rfl,hk',hv',hP',hI'.parted⟩
 rw [hok] at h1;cases h1
theorem Above_ok {w0 w:World} {D:Sto} {ss:List Seg} {sb sp:Seg} {vb vp:Value} {b:Bt} {P:Pl} (hI:Inv w0 D (sb::sp::ss) w) {ad:Nat→Addr} (hS:TSents D ad) (hB:BatchS D vb vp b sb) (hP:PoolS D vp P sp) (hpool:b.pool=P.f) {vk:Value} {key:Bs} (hk:RB D vk key) {res:Option (Bs×Bs)} (hok:b.from_ key true= .ok res) :
  Calls Tryz.prog 174 #[vb,vk] w (Ret fun r w'=> ∃D' k v sb' sp',Le D D'∧r= .tuple #[.agg #[k,v], .bool res.isSome, .nilIface]∧RB D' k (res.getD ([], [])).1∧RB D' v (res.getD ([], [])).2∧PoolS D' vp P sp'∧Inv w0 D' (sb'::sp'::ss) w'):=by
 refine (Above_spec hI.merge hS (TreeS.join hB hP hpool) hk).mono fun e w' h=> ?_;obtain ⟨r,he,h⟩:=h;refine ⟨r,he, ?_⟩;rcases h with ⟨res',h1,D',k,v,hD,rfl,hk',hv',hT,hI'⟩|⟨c,o,h1,_⟩
 ·rw [hok] at h1;injection h1 with h1;subst h1
  obtain ⟨sb',sp',hs,hB',hP',_⟩:=hT;rw [hs] at hI';exact ⟨D',k,v,sb',sp',hD,rfl,hk',hv',hP',hI'.parted⟩
 rw [hok] at h1;cases h1
def ToldOk (D:Sto) (vt:Value) (told:Bs→Bool):Prop:= ∃f cap,vt= .func (.func f) #[] cap∧enters Tryz.prog f=true∧
 ∀(w0 w:World) (D':Sto) (ss:List Seg) (vk:Value) (key:Bs),Le D D'→Inv w0 D' ss w→RB D' vk key→key.length≤100000→Calls Tryz.prog f (#[]++ #[vk]++cap) w (Ret fun r w'=>(r= .bool true∧told key=true∧Inv w0 D' ss w')∨(r= .bool false∧ ¬told key=true∧Inv w0 D' ss w'))
def YieldOk (l:Nat) (vs:Array Value) (w:World) (R:Ending→World→Prop):Prop:= ∃r,w.heap[l]? =some (.loop r)∧vs.size=r.params.size∧RoundAt Tryz.prog l r vs w R
structure Rounds (w0:World) (D0:Sto) (vp:Value) (P:Pl) (l:Nat) (kv:Ens) (s:Nat) (told:Bs→Bool) (J Jx:Nat→Sto→List Seg→Prop):Prop where
 mono: ∀i D D' ms,Le D D'→J i D ms→J i D' ms
 round: ∀i e D ms sp rest w vk vv,kv[s+i]? =some e→told e.1=true→Le D0 D→J i D ms→PoolS D vp P sp→RB D vk e.1→RB D vv e.2→Inv w0 D (sp::(ms++rest)) w→
  YieldOk l #[.agg #[vk,vv], .nilIface] w fun en w'=> ∃b D' ms' sp',en= .returned (.bool b)∧Le D D'∧(b=true→J (i+1) D' ms')∧(b=false→Jx (i+1) D' ms')∧PoolS D' vp P sp'∧Inv w0 D' (sp'::(ms'++rest)) w'
def Done (kv:Ens) (s:Nat) (told:Bs→Bool) (i:Nat):Prop:=(∀j,j<i→ ∃x,kv[s+j]? =some x∧told x.1=true)∧ ∀x,kv[s+i]? =some x→ ¬told x.1=true
def IterPost (w0:World) (D:Sto) (ss:List Seg) (vp:Value) (P:Pl) (kv:Ens) (s:Nat) (told:Bs→Bool) (J Jx:Nat→Sto→List Seg→Prop) (w':World):Prop:=
 ∃i D' ms' sp',Le D D'∧((J i D' ms'∧Done kv s told i)∨Jx i D' ms')∧PoolS D' vp P sp'∧Inv w0 D' (sp'::(ms'++ss)) w'
def SeqOk (D:Sto) (v vp:Value) (P:Pl) (kv:Ens) (s:Nat) (told:Bs→Bool):Prop:= ∃f cap,v= .func (.func f) #[] cap∧enters Tryz.prog f=true∧
 ∀(w0 w:World) (D':Sto) (ms ss:List Seg) (sp:Seg) (l:Nat) (J Jx:Nat→Sto→List Seg→Prop),Le D D'→Inv w0 D' (sp::(ms++ss)) w→PoolS D' vp P sp→Rounds w0 D' vp P l kv s told J Jx→J 0 D' ms→
  Calls Tryz.prog f (#[.func (.yield l) #[] #[]]++cap) w (Ret fun _ w'=>IterPost w0 D' ss vp P kv s told J Jx w')
theorem Inv.give {w0 w:World} {D:Sto} {ms ss:List Seg} {c sp:Seg} (h:Inv w0 D (c::sp::(ms++ss)) w):Inv w0 D (sp::(ms++(c::ss))) w:=
 h.perm ((List.Perm.trans (List.perm_middle.cons sp) (List.Perm.swap c sp _)).flatten)
theorem Inv.fetch {w0 w:World} {D:Sto} {ms ss:List Seg} {c sp:Seg} (h:Inv w0 D (sp::(ms++(c::ss))) w):Inv w0 D (c::sp::(ms++ss)) w:=
 h.perm ((List.Perm.trans (List.Perm.swap sp c _) (List.perm_middle.symm.cons sp)).flatten)
def curE (kv:Ens) (n:Nat):Bs×Bs:=(kv[n]?).getD ([], [])
theorem findP_at {kv:Ens} (hs:Sorted kv): ∀{j:Nat} {e:Bs×Bs},kv[j]? =some e→findP kv e.1=(j,true):=by
 induction kv with
 |nil=>intro j e h;simp at h
 |cons x r ih=>
  intro j e h;have hs':=List.pairwise_cons.1 hs;rw [findP];cases j with
  |zero=>
   obtain rfl:x=e:=by simpa using h
   rw [ltB_irrefl];simp
  |succ j=>
   have h2:r[j]? =some e:=by simpa using h
   have hlt:=hs'.1 e (List.mem_of_getElem? h2);rw [if_pos hlt,ih hs'.2 h2]
theorem from_next {kv:Ens} (hs:Sorted kv) {j:Nat} {e:Bs×Bs} (h:kv[j]? =some e):fromKv e.1 true kv=kv[j+1]? :=by rw [fromKv_at kv hs,fromK,findP_at hs h];rfl
theorem from_nil (kv:Ens):fromK [] false kv=0:=by
 cases kv with
 |nil=>rfl
 |cons e r=>
  rw [fromK,findP];have h:ltB e.1 []=false:=by cases e.1<;>rfl
  rw [h];simp
structure PoolOk (P:Pl) (kv:Ens):Prop where
 sorted:Sorted kv
 from9: ∀key above,key.length≤32→(newBt P).from_ key above= .ok (fromKv key above kv)
 len:kv.length≤2040
 keys: ∀e∈kv,e.1.length≤32
 vals: ∀e∈kv,e.2.length≤64
theorem PoolOk.next {P:Pl} {kv:Ens} (h:PoolOk P kv) {key:Bs} (hk:key.length≤32):(newBt P).from_ key false= .ok (kv[fromK key false kv]?):=by rw [h.from9 _ false hk,fromKv_at kv h.sorted]
theorem PoolOk.above {P:Pl} {kv:Ens} (h:PoolOk P kv) {j:Nat} {e:Bs×Bs} (he:kv[j]? =some e):(newBt P).from_ e.1 true= .ok (kv[j+1]?):=by rw [h.from9 _ true (h.keys e (List.mem_of_getElem? he)),from_next h.sorted he]
theorem all_len: ∀(rs:List Rc) {b b':Bt},b.all rs= .ok b'→b'.recs.length=b.recs.length+rs.length∧b'.pool=b.pool
 | [],b,b',h=>by rw [Bt.all] at h;injection h with h;subst h;exact ⟨rfl,rfl⟩
 |r::rs,b,b',h=>by
  rw [Bt.all] at h;split at h
  ·cases h
  rename_i b1 hb;have:=all_len rs h;rw [Bt.doR] at hb;split at hb
  ·cases hb
  injection hb with hb;subst hb
  simp only [List.length_append,List.length_cons,List.length_nil] at this ⊢;exact ⟨by omega,this.2⟩
theorem Runs.len {b b':Bt} {k:Nat} (h:Runs b b' k):b'.recs.length≤b.recs.length+k∧b'.pool=b.pool:=by obtain ⟨rs,h1,_,h3⟩:=h;have:=all_len rs h3;exact ⟨by omega,this.2⟩
structure Ck where
 seen:List Int
 leaves:List Pg
 keys:Int
section
variable {b:Bt} {f:Nat} {id level:Int} {low:Bs} {high:Option Bs} {c:Ck} {x:Pg}
end
theorem lookKv_same {kv:Ens} {k v:Bs} (hs:Sorted kv):lookKv (insKv kv k v) k=some v:=by rw [lookKv_ins kv hs,if_pos rfl]
section
variable {α:Type} {size:Nat} {R:Sto→List Value→α→Prop} {P:Program} {ops:Array Oper} {Q:Exit→Act→World→Prop} {a:Act} {w0 w w':World} {D:Sto} {ss:List Seg} {rest:List Oper} {o:Oper} {N:Nat} {env:Env} {K:Act→World→Prop}
theorem Inv.shutOR {T:Nat} {v:Value} {xs:List α} {s:Seg} (i:Nat) (hI:Inv w0 D ss w) (hi:ss[i]? =some s) (hR:Keeps R) (hO:OR size R D T v xs s): ∃D',Le D D'∧Inv w0 D' (ss.eraseIdx i) w∧DR size R D' v xs:=
  ⟨_,(hI.shut_at i hi).2,(hI.shut_at i hi).1,hO.shut hR (hI.shut_at i hi).2⟩
end
end Go.Proofs.YtkknmpkcfpdllaaGreatDoor.B
