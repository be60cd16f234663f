/- A program logic over the model: what is owned, what is written no more, and one lemma for each kind of step. -/
import Derived.Test.YtikllmoofngjnaaGreatDoorSLogA
import Derived.ProofKit
import Derived.OpenShut
import Derived.Below
import Derived.Carry
import Derived.LaidLaws
import Derived.LaidMore
import Derived.LaidHandle
import Derived.SizedLaws
import Derived.Deep.DeepHandedRow
import Derived.Stop.Joined
import Derived.Stop.ErrReads
import Derived.Lib.SmallJoins
namespace Go.Proofs.YtikllmoofngjnaaGreatDoor.B
open Go Go.ChangeShapes Go.WideShapes Go.ChangeAt Go.RowKit
set_option linter.unusedVariables false
def sentD (text:List UInt8):DataW Unit:= .iface "*errors.errorString" (.ptr (.agg [.lit (.string text)]))
structure SentAt (P:Program) (W:World) (ti tp:TypeId) (n:String) (a:Addr):Prop where
  glob: ∃g T fr,P.globalNamed n=some g/\W.heap[g]? =some (.cells #[.iface tp (.pointer (some a))] T fr)
  cell: ∃c T,W.heap[a.block]? =some (.cells c T (0,0))
theorem var?_heap {P:Program} {w:World} {n:String} {g:Nat} {cs:Array Value} (hg:P.globalNamed n=some g) (h:w.var? P n=some cs): ∃T fr,w.heap[g]? =some (.cells cs T fr):=by
  simp only [World.var?,hg,Option.bind_some] at h;split at h
  ·rename_i cs' T fr he;obtain rfl:=Option.some.inj h;exact ⟨T,fr,he⟩
  ·cases h
theorem sents_of_vars {P:Program} {W:World} {ti tp te ts:TypeId} {ms:Array (String×TypeId)} {f:Field}
    (hi:P.underlying ti=some (.interface ms)) (hrow: ∀u,P.typeName? 3 u=some "*errors.errorString" ->u=tp)
    (hp:P.underlying tp=some (.pointer te)) (he:P.underlying te=some (.struct #[f])) (hft:f.type=ts) (hfo:f.offset=0) (hs:P.underlying ts=some .string) (hc:P.cellsOf te=1) (hcs:P.cellsOf ts=1) :
    ∀(L:List (String×DataW Unit)) (ps:List MemPlace),DataW.LaidVars P W L ps->
      (∀x∈L,(∃text,x.2=sentD text)/\((P.globalNamed x.1).bind fun g=>(P.globals[g]?).map (·.type))=some ti)->
      (∀b off,MemPlace.cell b off∈ps->(∃c t,W.heap[b]? =some (.cells c t (0,0)))/\ ∀u v,W.cell? ⟨b,off,none⟩=some (.iface u v)->Value.okWide P W .any 0 u v)->
      ∃as:List Addr,as.length=L.length/\(as.map fun a=>MemPlace.cell a.block a.off).Sublist ps/\ ∀i n d,L[i]? =some (n,d)->SentAt P W ti tp n (as.getD i default)
  | [],ps,h,_,_=>⟨[],rfl,by simp,by simp⟩
  |(n,d)::L,ps,h,hL,hrows=>by
    obtain ⟨g,t,cs,fuel,p,q,hg,ht,hv,hd,hq,rfl⟩:=h;obtain ⟨⟨text,hx⟩,hty⟩:=hL _ (List.mem_cons_self ..);simp only at hx hty;rw [hg,Option.bind_some,ht] at hty;obtain rfl:=Option.some.inj hty;subst hx;obtain ⟨as,hl,hsub,hall⟩:=sents_of_vars hi hrow hp he hft hfo hs hc hcs L q hq (fun x hx=>hL x (List.mem_cons_of_mem _ hx)) (fun b off hm=>hrows b off (by simp [hm]));have ok: ∀u v,cs.toList= [.iface u v]->Value.okWide P W .any 0 u v:=fun u v e=>by
      have e':cs= #[.iface u v]:=Array.eq_one_of_toList e;subst e';exact (hrows g 0 (by simp [MemPlace.row])).2 u v (by simpa using World.var?_cell hg hv 0)
    obtain ⟨a,s,hcs',_,_,_,hp'⟩:=errorString_of_trod hi hrow hp he hft hfo hs hc hcs hd ok;have hcs'':=Array.eq_one_of_toList hcs';subst hcs'';subst hp';obtain ⟨T,fr,hheap⟩:=var?_heap hg hv;refine ⟨a::as,by simp [hl], ?_,fun i m e hi'=> ?_⟩
    ·simp only [List.map_cons];have h1: [MemPlace.cell a.block a.off].Sublist (MemPlace.row ⟨g,0,none⟩ (#[Value.iface tp (.pointer (some a))]:Array Value).size++MemPlace.row a 1):=by simp [MemPlace.row]
     exact h1.append hsub
    ·cases i with
     |zero=>
       obtain ⟨rfl,rfl⟩:=by simpa using hi'
       exact ⟨⟨g,T,fr,hg,hheap⟩,(hrows a.block a.off (by simp [MemPlace.row])).1⟩
     |succ i=>exact hall i m e (by simpa using hi')
theorem sents_of_laid {P:Program} {W:World} {ti tp te ts:TypeId} {ms:Array (String×TypeId)} {f:Field}
    (hi:P.underlying ti=some (.interface ms)) (hrow: ∀u,P.typeName? 3 u=some "*errors.errorString" ->u=tp)
    (hp:P.underlying tp=some (.pointer te)) (he:P.underlying te=some (.struct #[f])) (hft:f.type=ts) (hfo:f.offset=0) (hs:P.underlying ts=some .string) (hc:P.cellsOf te=1) (hcs:P.cellsOf ts=1)
    {L:List (String×DataW Unit)} (h:laidMet P L W)
    (hL: ∀x∈L,(∃text,x.2=sentD text)/\((P.globalNamed x.1).bind fun g=>(P.globals[g]?).map (·.type))=some ti) :
    ∃as:List Addr,as.length=L.length/\(∀i j,i<j->j<L.length->as.getD i default≠as.getD j default)/\ ∀i n d,L[i]? =some (n,d)->SentAt P W ti tp n (as.getD i default):=by
  obtain ⟨ps,hv,hnd,hrows⟩:=h;obtain ⟨as,hl,hsub,hall⟩:=sents_of_vars hi hrow hp he hft hfo hs hc hcs L ps hv hL hrows;refine ⟨as,hl,fun i j hij hj e=> ?_,hall⟩;have hn:(as.map fun a=>MemPlace.cell a.block a.off).Nodup:=hnd.sublist hsub;rw [List.Nodup,List.pairwise_iff_getElem] at hn;have hi':i<as.length:=by omega
  have hj':j<as.length:=by omega
  have:=hn i j (by simpa using hi') (by simpa using hj') hij;simp only [List.getElem_map] at this;rw [List.getD_eq_getElem?_getD,List.getD_eq_getElem?_getD,List.getElem?_eq_getElem hi',List.getElem?_eq_getElem hj'] at e;simp only [Option.getD_some] at e;rw [e] at this;exact this rfl
section
variable {H:Type} {enc:TypeId×Value->H} {P:Program} {W:World}
theorem below_of {w0 w:World} {D':Sto} {ss:List Seg} (h:Inv w0 D' ss w) (hD:Le (fun b=>w0.heap[b]?) D'):Below w0.heap.size w0 w:=
  ⟨h.os,h.tape,h.output,h.size,fun k hk=>by
    have:w0.heap[k]? =some w0.heap[k]:=Array.getElem?_eq_getElem hk;rw [this];exact h.data k _ (hD k _ this)⟩
end
theorem ans_true {w0:World} {D:Sto} {e:Ending} {w:World} (h:Ret (fun r w'=>r= .bool true/\ ∃D',Le D D'/\Inv w0 D' [] w') e w): ∃r,e= .returned r/\r= .bool true/\ ∃D',Le D D'/\Inv w0 D' [] w:=by obtain ⟨r,he,hr,hx⟩:=h;exact ⟨r,he,hr,hx⟩
theorem witness_row_shaped {H:Type} {enc:TypeId×Value->H} {C:Checked} {os:Os} {f:FuncId} {fn:Func} {s:OpenSpec} {conds:List PathCond} {apart:Bool} {laid:List (String×DataW Unit)} (w0:World) (args:Array Value) (hos:w0.os=os)
    (hsh:(w0.forCall (fun _ _=>0) ⟨#[],args, []⟩).Shaped C.prog)
    (hok:Input.okWideB C.prog (w0.forCall (fun _ _=>0) ⟨#[],args, []⟩) f ⟨#[],args, []⟩=true)
    (hrow:s.preRow enc C.prog fn conds apart laid (w0.forCall (fun _ _=>0) ⟨#[],args, []⟩).memory args) :
    ∃(w:World) (tape:Tape) (i:Input),w.os=os/\(w.forCall tape i).Shaped C.prog/\i.vars= []/\Input.okWide C.prog (w.forCall tape i) .any w.heap.size f i/\
      s.preRow enc C.prog fn conds apart laid (w.forCall tape i).memory i.args/\({}:Assume).holds C.prog (lone (Frame.enter C.prog f i.args .normal) [] (w.forCall tape i)):=
  ⟨w0,fun _ _=>0,⟨#[],args, []⟩,hos,hsh,(Input.okWide_of_okWideB (base:=0) hok).1,(Input.okWide_of_okWideB hok).2,hrow,by
    simp only [Assume.holds];exact ⟨by simp,fun h=>by simp at h,by simp,by simp,by simp⟩⟩
end Go.Proofs.YtikllmoofngjnaaGreatDoor.B
