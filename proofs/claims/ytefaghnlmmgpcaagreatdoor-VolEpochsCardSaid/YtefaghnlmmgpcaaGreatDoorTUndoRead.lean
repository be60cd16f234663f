/- What functions of the program compute, each function once: steps over the model, and the plain law of it. -/
import Derived.Test.YtefaghnlmmgpcaaGreatDoorTUndoReadPure
import Derived.Test.YtefaghnlmmgpcaaGreatDoorTSee
import Derived.Test.YtefaghnlmmgpcaaGreatDoorTFacts
namespace Go.Proofs.YtefaghnlmmgpcaaGreatDoor.B
open Go Go.Proofs
set_option linter.unusedVariables false
set_option linter.unusedSimpArgs false
set_option maxRecDepth 20000
set_option maxHeartbeats 8000000
theorem OB.data {w0 w:World} {D:Sto} {ss:List Seg} {r:Value} {bs:List Nat} (h: ∃s,OB r bs s/\Inv w0 D (s::ss) w) (hb: ∀x∈bs,x<256): ∃D',Le D D'/\Inv w0 D' ss w/\RB D' r bs:=by obtain ⟨s,h1,I⟩:=h;exact ⟨_,I.le_shut,I.shut,Row.shut_bytes h1 hb⟩
theorem Ret.imp {R R':Value->World->Prop} {e:Ending} {w:World} (h:Ret R e w) (hi: ∀r w,R r w->R' r w):Ret R' e w:=by obtain ⟨r,he,hr⟩:=h;exact ⟨r,he,hi _ _ hr⟩
theorem Clone_data {w0 w:World} {D:Sto} {ss:List Seg} (I:Inv w0 D ss w) {vb:Value} {bs:List Nat} (hb:RB D vb bs) (hm:bs.length<=140737488355328) :
  Calls Tryz.prog 86 #[vb] w (Ret fun r w'=> ∃D',Le D D'/\Inv w0 D' ss w'/\RB D' r bs):=
 (Clone_spec I hb hm).mono fun _ _ h=>h.imp fun _ _ h=>OB.data h hb.lt
theorem Put_data {w0 w:World} {D:Sto} {ss:List Seg} (I:Inv w0 D ss w) {vb:Value} {bs:List Nat} {m:Int} (hb:RB D vb bs) (hm:bs.length<=140737488355000) (h0: -9223372036854775808<=m) (h1:m<=9223372036854775807) :
  Calls Tryz.prog 134 #[vb, .int .i64 m] w (Ret fun r w'=> ∃D',Le D D'/\Inv w0 D' ss w'/\RB D' r (bs++putZ m)):=
 (Put_spec I hb hm h0 h1).mono fun _ _ h=>h.imp fun _ _ h=>OB.data h (fun x hx=>by rcases List.mem_append.1 hx with h|h;exact hb.lt x h;exact putZ_lt _ x h)
theorem PutBytes_data {w0 w:World} {D:Sto} {ss:List Seg} (I:Inv w0 D ss w) {vb vx:Value} {bs xs:List Nat} (hb:RB D vb bs) (hx:RB D vx xs) (hm:bs.length+xs.length<=140737488355000) :
  Calls Tryz.prog 169 #[vb,vx] w (Ret fun r w'=> ∃D',Le D D'/\Inv w0 D' ss w'/\RB D' r (bs++putZ (xs.length:Nat)++xs)):=
 (PutBytes_spec I hb hx hm).mono fun _ _ h=>h.imp fun _ _ h=>OB.data h (fun x hx'=>by
  simp only [List.mem_append] at hx';rcases hx' with (h|h)|h
  ·exact hb.lt x h
  ·exact putZ_lt _ x h
  exact hx.lt x h)
theorem Number_spec {w0 w:World} {D:Sto} {ss:List Seg} (I:Inv w0 D ss w) (n:Int) {m:Int} (hb:0<m) (hm:m<=4611686018427387904) :
  Calls Tryz.prog 9 #[.int .i64 n, .int .i64 m] w (Ret fun r w'=>(∃z,r= .int .i64 z/\0<=z/\z<m)/\Inv w0 D ss w'):=by
 refine enter (N:=15) Tryz.func9 rfl rfl rfl ?_;intro a Z;refine go 6 Z I ?_;clear Z a;intro a Z;refine zs Z (p_arith (z:=_) rfl rfl (rem_z rfl (by omega))) ?_;clear Z a;intro a Z;refine go 2 Z I ?_;clear Z a;intro a Z;refine wp_seq ?_;refine wp_seq ?_;have hr1:=Int.tmod_lt_of_pos n hb;have hr2:=Int.lt_tmod_of_pos n hb;generalize n.tmod m=r at Z hr1 hr2;refine go 2 Z I ?_;clear Z a;intro a Z;refine cmx Z ?_ ?_
 ·intro hneg;replace hneg:=lss_t hneg;clear Z a;intro a Z;refine go 5 Z I ?_;clear Z a;intro a Z;refine zs Z (p_arith (z:=_) rfl rfl (add_z rfl (by omega) (by omega))) ?_;clear Z a;intro a Z;refine go 7 Z I ?_;clear Z a;intro a Z;refine rt1 Z ?_;exact ⟨⟨_,rfl,by omega,by omega⟩,I⟩
 intro hneg;replace hneg:=lss_f hneg;clear Z a;intro a Z;refine go 9 Z I ?_;clear Z a;intro a Z;refine rt1 Z ?_;exact ⟨⟨_,rfl,by omega,by omega⟩,I⟩
end Go.Proofs.YtefaghnlmmgpcaaGreatDoor.B
