/- What functions of the program compute, each function once: steps over the model, and the plain law of it. -/
import Derived.Test.YtefaghnlmmgpcaaGreatDoorTHot3
import Derived.Test.YtefaghnlmmgpcaaGreatDoorTFacts
namespace Go.Proofs.YtefaghnlmmgpcaaGreatDoor.B
open Go Go.Proofs
set_option linter.unusedVariables false
set_option linter.unusedSimpArgs false
set_option maxRecDepth 20000
set_option maxHeartbeats 8000000
def HtS (D:Sto) (vh:Value) (h:Ht) (s:Seg):Prop:= ∃bh vl vs sl,vh= .pointer (some ⟨bh,0,none⟩)/\s=(bh, .cells #[.int .i64 h.group,vl,vs, .int .i64 h.cuts, .int .i64 h.scl, .bool h.known] 114 (0,0))::sl/\OR 10 RcR D 34 vl h.l sl/\DR 3 SpR D vs h.spans
theorem HtS.mono {D D':Sto} {vh:Value} {h:Ht} {s:Seg} (hh:HtS D vh h s) (hD:Le D D'):HtS D' vh h s:=by obtain ⟨bh,vl,vs,sl,h1,h2,h3,h4⟩:=hh;exact ⟨bh,vl,vs,sl,h1,h2,OR.mono RcR.keeps h3 hD,DR.mono SpR.keeps h4 hD⟩
theorem HtS.new (D:Sto) (b:Nat) (gr:Int):HtS D (.pointer (some ⟨b,0,none⟩)) {group:=gr} [(b, .cells #[.int .i64 gr, .slice none 0 0, .slice none 0 0, .int .i64 0, .int .i64 0, .bool false] 114 (0,0))]:=⟨b,_,_, [],rfl,rfl,OR.nil _ _ _ _,DR.nil _ _ _⟩
theorem HLen_spec {w0 w:World} {D:Sto} {ss:List Seg} {s:Seg} {vh:Value} {h:Ht} (I:Inv w0 D (s::ss) w) (hh:HtS D vh h s) :
  Calls Tryz.prog 23 #[vh] w (Ret fun r w'=>r= .int .i64 (h.l.length:Nat)/\Inv w0 D (s::ss) w'):=by
 obtain ⟨bh,vl,vs,sl,rfl,rfl,hrow,hsp⟩:=hh;replace I:Inv w0 D ([(bh, .cells #[.int .i64 h.group,vl,vs, .int .i64 h.cuts, .int .i64 h.scl, .bool h.known] 114 (0,0))]::sl::ss) w:=I.perm (List.Perm.refl _);obtain ⟨Al,cl,rfl,hclA⟩:=hrow.slice;obtain ⟨A1,c2,rfl,_⟩:=hsp.slice;refine enter (N:=8) Tryz.func23 rfl rfl rfl ?_;intro a Z;refine go 5 Z I ?_;clear Z a;intro a Z;refine zs Z (p_nilCheck rfl) ?_;clear Z a;intro a Z;refine go 2 Z I ?_;clear Z a;intro a Z;refine zs Z (p_len rfl rfl Tryz.underlying40) ?_;clear Z a;intro a Z;refine go 3 Z I ?_;clear Z a;intro a Z;refine rt1 Z ?_;exact ⟨rfl,I.perm (List.Perm.refl _)⟩
end Go.Proofs.YtefaghnlmmgpcaaGreatDoor.B
