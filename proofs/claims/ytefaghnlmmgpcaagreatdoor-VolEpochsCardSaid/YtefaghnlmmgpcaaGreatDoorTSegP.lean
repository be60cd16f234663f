/- What functions of the program compute, each function once: steps over the model, and the plain law of it. -/
import Derived.Test.YtefaghnlmmgpcaaGreatDoorTTreeRel
import Derived.Test.YtefaghnlmmgpcaaGreatDoorTUndoReadPure
namespace Go.Proofs.YtefaghnlmmgpcaaGreatDoor.B
open Go Go.Proofs
set_option linter.unusedVariables false
set_option linter.unusedSimpArgs false
def Rd.Ahd (r:Rd) (rest:List Nat):Prop:=r.err= .none/\r.rem=rest
theorem Rd.Ahd.num {r:Rd} {m low high:Int} {rest:List Nat} (h:r.Ahd (putZ m++rest)) (h0:low<=m) (h1:m<=high) (h2: -4611686018427387904<=m) (h3:m<=4611686018427387904): ∃r',r.num low high=(m,r')/\r'.Ahd rest/\r'.bs=r.bs:=
 ⟨_,num_put h.1 h.2 h0 h1 (by omega) (by omega),⟨h.1,rem_step h.2⟩,rfl⟩
theorem Rd.Ahd.left {r:Rd} (h:r.Ahd []):r.bs.length - r.pos=0:=by have:=rem_len r;rw [h.2] at this;exact this.symm
theorem Rd.ahd_start (bs:List Nat):(⟨bs,0, .none⟩:Rd).Ahd bs:=⟨rfl,rfl⟩
structure Sp where
 epoch:Int
 from_:Int
 to_:Int
def Sp.b (s:Sp):List Nat:=putZ s.epoch++(putZ s.from_++putZ s.to_)
def spanB (l:List Sp):List Nat:=putZ (l.length:Nat)++l.flatMap Sp.b
def Sp.Ok (s:Sp):Prop:=1<=s.epoch/\s.epoch<=1073741824/\0<=s.from_/\s.from_<s.to_/\s.to_<=1099511627776
instance (s:Sp):Decidable s.Ok:=inferInstanceAs (Decidable (_/\_/\_/\_/\_))
def spansOk (l:List Sp):Prop:=l.length<=64/\(∀s∈l,s.Ok)/\l.Pairwise fun s t=>s.epoch<t.epoch/\s.to_<t.to_
def redoB (r:Rc):List Nat:=putZ r.lsn++(putZ r.back++(putZ r.epoch++(putZ r.group++(putZ r.page++(putZ r.kind++(putZ r.slot++(putZ (hadZ r.last)++((putZ (r.key.length:Nat)++r.key)++(putZ (r.val.length:Nat)++r.val)))))))))
structure Stt where
 promise:Int:=0
 installed:Int:=0
 inc:Int:=0
 whole:Bool:=false
 floor:Int:=0
 spans:List Sp:= []
structure Cl where
 kind:Int
 s:Stt:={}
 recs:List Rc:= []
def Cl.b (c:Cl):List Nat:=putZ c.kind++(putZ c.s.promise++(putZ c.s.installed++(putZ c.s.inc++(putZ (hadZ c.s.whole)++(putZ c.s.floor++(spanB c.s.spans++(putZ (c.recs.length:Nat)++c.recs.flatMap redoB)))))))
structure Cl.Ok (c:Cl):Prop where
 kind:0<=c.kind/\c.kind<=5
 promise:0<=c.s.promise/\c.s.promise<=1073741824
 installed:0<=c.s.installed/\c.s.installed<=1073741824
 inc:0<=c.s.inc/\c.s.inc<=1073741824
 floor:0<=c.s.floor/\c.s.floor<=1099511627776
 spans:spansOk c.s.spans
 recs:c.recs.length<=16384/\ ∀r∈c.recs,validR r=true
end Go.Proofs.YtefaghnlmmgpcaaGreatDoor.B
