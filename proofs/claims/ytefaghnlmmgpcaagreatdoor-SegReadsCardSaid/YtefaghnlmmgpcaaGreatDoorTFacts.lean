/- What functions of the program compute, each function once: steps over the model, and the plain law of it. -/
import Derived.Test.YtefaghnlmmgpcaaGreatDoorSLogB
import Derived.Test.YtefaghnlmmgpcaaGreatDoorProg
namespace Go.Proofs.YtefaghnlmmgpcaaGreatDoor.B
open Go Go.Proofs
set_option maxRecDepth 20000
set_option maxHeartbeats 8000000
theorem ptr_312:ptrRow Tryz.prog 312=true:=by kernel_rfl
theorem scal_37:isScal Tryz.prog 37=true:=by kernel_rfl
instance:CSc Tryz.prog 37:=⟨scal_37⟩
theorem scal_3:isScal Tryz.prog 3=true:=by kernel_rfl
instance:CSc Tryz.prog 3:=⟨scal_3⟩
theorem scal_4:isScal Tryz.prog 4=true:=by kernel_rfl
instance:CSc Tryz.prog 4:=⟨scal_4⟩
theorem sz_37:(Tryz.prog.info? 37).map (·.size)=some 1:=by kernel_rfl
theorem built_98: ∀vs,Tryz.prog.built 98 vs=Instr.fill (([(0,1),(1,1),(2,1),(3,1),(4,1),(5,1)]:List (Nat×Nat)).toArray[·]?) ([.int .i64 0, .map none, .map none, .int .i64 0, .int .i64 0, .bool false]:List Value).toArray vs:=fun _=>by kernel_rfl
theorem ent_132:enters Tryz.prog 132=true:=by kernel_rfl
theorem ent_133:enters Tryz.prog 133=true:=by kernel_rfl
theorem ent_86:enters Tryz.prog 86=true:=by kernel_rfl
instance:CFo Tryz.prog 98 0 0:=⟨by kernel_rfl⟩
theorem fo_98_1:fieldOff Tryz.prog 98 1=some 1:=by kernel_rfl
instance:CFo Tryz.prog 98 1 1:=⟨fo_98_1⟩
theorem fo_98_2:fieldOff Tryz.prog 98 2=some 2:=by kernel_rfl
instance:CFo Tryz.prog 98 2 2:=⟨fo_98_2⟩
theorem fo_98_3:fieldOff Tryz.prog 98 3=some 3:=by kernel_rfl
instance:CFo Tryz.prog 98 3 3:=⟨fo_98_3⟩
instance:CFo Tryz.prog 98 4 4:=⟨by kernel_rfl⟩
instance:CFo Tryz.prog 98 5 5:=⟨by kernel_rfl⟩
theorem ik_96:intKeyed Tryz.prog 96=some 32:=by kernel_rfl
theorem scal_96:isScal Tryz.prog 96=true:=by kernel_rfl
instance:CSc Tryz.prog 96:=⟨scal_96⟩
theorem sz_3:(Tryz.prog.info? 3).map (·.size)=some 1:=by kernel_rfl
theorem sz_96:(Tryz.prog.info? 96).map (·.size)=some 1:=by kernel_rfl
theorem zer_32:(Tryz.prog.info? 32).bind (·.zero)=some (.slice none 0 0):=by kernel_rfl
theorem zs_96:(Tryz.prog.info? 96).map (fun i=>(i.zero,i.size))=some (some (.map none),1):=by kernel_rfl
theorem sz_34:(Tryz.prog.info? 34).map (·.size)=some 10:=by kernel_rfl
theorem zsb_34:(Tryz.prog.info? 34).map (fun i=>(i.zero,i.size,i.bytes))=some (some (.agg #[.int .i64 0, .int .i64 0, .int .i64 0, .int .i64 0, .int .i64 0, .int .i64 0, .int .i64 0, .slice none 0 0, .slice none 0 0, .bool false]),10,112):=by kernel_rfl
theorem agg_66:aggSize Tryz.prog 66=some 3:=by kernel_rfl
theorem ent_160:enters Tryz.prog 160=true:=by kernel_rfl
theorem ent_161:enters Tryz.prog 161=true:=by kernel_rfl
theorem ent_162:enters Tryz.prog 162=true:=by kernel_rfl
theorem ent_165:enters Tryz.prog 165=true:=by kernel_rfl
theorem ent_185:enters Tryz.prog 185=true:=by kernel_rfl
theorem fo_34_0:fieldOff Tryz.prog 34 0=some 0:=by kernel_rfl
instance:CFo Tryz.prog 34 0 0:=⟨fo_34_0⟩
instance:CFo Tryz.prog 34 1 1:=⟨by kernel_rfl⟩
theorem fo_34_2:fieldOff Tryz.prog 34 2=some 2:=by kernel_rfl
instance:CFo Tryz.prog 34 2 2:=⟨fo_34_2⟩
theorem fo_34_3:fieldOff Tryz.prog 34 3=some 3:=by kernel_rfl
instance:CFo Tryz.prog 34 3 3:=⟨fo_34_3⟩
instance:CFo Tryz.prog 34 4 4:=⟨by kernel_rfl⟩
instance:CFo Tryz.prog 34 5 5:=⟨by kernel_rfl⟩
theorem fo_34_6:fieldOff Tryz.prog 34 6=some 6:=by kernel_rfl
instance:CFo Tryz.prog 34 6 6:=⟨fo_34_6⟩
theorem fo_34_7:fieldOff Tryz.prog 34 7=some 7:=by kernel_rfl
instance:CFo Tryz.prog 34 7 7:=⟨fo_34_7⟩
theorem fo_34_8:fieldOff Tryz.prog 34 8=some 8:=by kernel_rfl
instance:CFo Tryz.prog 34 8 8:=⟨fo_34_8⟩
instance:CFo Tryz.prog 34 9 9:=⟨by kernel_rfl⟩
theorem fo_66_0:fieldOff Tryz.prog 66 0=some 0:=by kernel_rfl
instance:CFo Tryz.prog 66 0 0:=⟨fo_66_0⟩
theorem fo_66_1:fieldOff Tryz.prog 66 1=some 1:=by kernel_rfl
instance:CFo Tryz.prog 66 1 1:=⟨fo_66_1⟩
theorem fo_66_2:fieldOff Tryz.prog 66 2=some 2:=by kernel_rfl
instance:CFo Tryz.prog 66 2 2:=⟨fo_66_2⟩
theorem scal_2:isScal Tryz.prog 2=true:=by kernel_rfl
instance:CSc Tryz.prog 2:=⟨scal_2⟩
theorem scal_32:isScal Tryz.prog 32=true:=by kernel_rfl
instance:CSc Tryz.prog 32:=⟨scal_32⟩
theorem sz_66:(Tryz.prog.info? 66).map (·.size)=some 3:=by kernel_rfl
theorem agg_34:aggSize Tryz.prog 34=some 10:=by kernel_rfl
theorem ent_164:enters Tryz.prog 164=true:=by kernel_rfl
theorem agg_114:aggSize Tryz.prog 114=some 6:=by kernel_rfl
theorem ent_140:enters Tryz.prog 140=true:=by kernel_rfl
theorem ent_163:enters Tryz.prog 163=true:=by kernel_rfl
theorem ent_68:enters Tryz.prog 68=true:=by kernel_rfl
theorem fo_114_1:fieldOff Tryz.prog 114 1=some 1:=by kernel_rfl
instance:CFo Tryz.prog 114 1 1:=⟨fo_114_1⟩
theorem fo_114_2:fieldOff Tryz.prog 114 2=some 2:=by kernel_rfl
theorem scal_40:isScal Tryz.prog 40=true:=by kernel_rfl
instance:CSc Tryz.prog 40:=⟨scal_40⟩
theorem scal_41:isScal Tryz.prog 41=true:=by kernel_rfl
instance:CSc Tryz.prog 41:=⟨scal_41⟩
theorem sz_114:(Tryz.prog.info? 114).map (·.size)=some 6:=by kernel_rfl
theorem sz_40:(Tryz.prog.info? 40).map (·.size)=some 1:=by kernel_rfl
theorem sz_41:(Tryz.prog.info? 41).map (·.size)=some 1:=by kernel_rfl
theorem zer_114:(Tryz.prog.info? 114).bind (·.zero)=some (.agg #[.int .i64 0, .slice none 0 0, .slice none 0 0, .int .i64 0, .int .i64 0, .bool false]):=by kernel_rfl
theorem zs_34:(Tryz.prog.info? 34).map (fun i=>(i.zero,i.size))=some (some (.agg #[.int .i64 0, .int .i64 0, .int .i64 0, .int .i64 0, .int .i64 0, .int .i64 0, .int .i64 0, .slice none 0 0, .slice none 0 0, .bool false]),10):=by kernel_rfl
theorem ent_111:enters Tryz.prog 111=true:=by kernel_rfl
theorem ent_128:enters Tryz.prog 128=true:=by kernel_rfl
theorem ent_129:enters Tryz.prog 129=true:=by kernel_rfl
theorem ent_130:enters Tryz.prog 130=true:=by kernel_rfl
theorem ent_131:enters Tryz.prog 131=true:=by kernel_rfl
theorem ent_64:enters Tryz.prog 64=true:=by kernel_rfl
theorem fo_114_0:fieldOff Tryz.prog 114 0=some 0:=by kernel_rfl
theorem fo_114_5:fieldOff Tryz.prog 114 5=some 5:=by kernel_rfl
instance:CFo Tryz.prog 114 5 5:=⟨fo_114_5⟩
theorem sz_4:(Tryz.prog.info? 4).map (·.size)=some 1:=by kernel_rfl
theorem ent_52:enters Tryz.prog 52=true:=by kernel_rfl
theorem fo_114_4:fieldOff Tryz.prog 114 4=some 4:=by kernel_rfl
instance:CFo Tryz.prog 114 4 4:=⟨fo_114_4⟩
theorem ik_168:intKeyed Tryz.prog 168=some 3:=by kernel_rfl
theorem sz_2:(Tryz.prog.info? 2).map (·.size)=some 1:=by kernel_rfl
theorem zer_3:(Tryz.prog.info? 3).bind (·.zero)=some (.int .i64 0):=by kernel_rfl
theorem zer_34:(Tryz.prog.info? 34).bind (·.zero)=some (.agg #[.int .i64 0, .int .i64 0, .int .i64 0, .int .i64 0, .int .i64 0, .int .i64 0, .int .i64 0, .slice none 0 0, .slice none 0 0, .bool false]):=by kernel_rfl
theorem sz_32:(Tryz.prog.info? 32).map (·.size)=some 1:=by kernel_rfl
theorem agg_93:aggSize Tryz.prog 93=some 2:=by kernel_rfl
theorem agg_30:aggSize Tryz.prog 30=some 5:=by kernel_rfl
instance:CAg Tryz.prog 30 5:=⟨agg_30⟩
theorem built_30: ∀vs,Tryz.prog.built 30 vs=Instr.fill (([(0,1),(1,1),(2,1),(3,1),(4,1)]:List (Nat×Nat)).toArray[·]?) ([.int .i64 0, .int .i64 0, .int .i64 0, .int .i64 0, .slice none 0 0]:List Value).toArray vs:=fun _=>by kernel_rfl
theorem fo_93_0:fieldOff Tryz.prog 93 0=some 0:=by kernel_rfl
instance:CFo Tryz.prog 93 0 0:=⟨fo_93_0⟩
theorem fo_30_4:fieldOff Tryz.prog 30 4=some 4:=by kernel_rfl
instance:CFo Tryz.prog 30 4 4:=⟨fo_30_4⟩
theorem scal_28:isScal Tryz.prog 28=true:=by kernel_rfl
instance:CSc Tryz.prog 28:=⟨scal_28⟩
theorem sz_93:(Tryz.prog.info? 93).map (·.size)=some 2:=by kernel_rfl
theorem sz_30:(Tryz.prog.info? 30).map (·.size)=some 5:=by kernel_rfl
theorem zer_93:(Tryz.prog.info? 93).bind (·.zero)=some (.agg #[.slice none 0 0, .slice none 0 0]):=by kernel_rfl
theorem zer_30:(Tryz.prog.info? 30).bind (·.zero)=some (.agg #[.int .i64 0, .int .i64 0, .int .i64 0, .int .i64 0, .slice none 0 0]):=by kernel_rfl
theorem ent_110:enters Tryz.prog 110=true:=by kernel_rfl
theorem agg_135:aggSize Tryz.prog 135=some 3:=by kernel_rfl
theorem agg_43:aggSize Tryz.prog 43=some 18:=by kernel_rfl
theorem built_135: ∀vs,Tryz.prog.built 135 vs=Instr.fill (([(0,1),(1,1),(2,1)]:List (Nat×Nat)).toArray[·]?) ([.int .i64 0, .int .i64 0, .int .i64 0]:List Value).toArray vs:=fun _=>by kernel_rfl
theorem ent_63:enters Tryz.prog 63=true:=by kernel_rfl
theorem ent_65:enters Tryz.prog 65=true:=by kernel_rfl
theorem ent_66:enters Tryz.prog 66=true:=by kernel_rfl
theorem ent_67:enters Tryz.prog 67=true:=by kernel_rfl
theorem ent_69:enters Tryz.prog 69=true:=by kernel_rfl
instance:CFo Tryz.prog 135 0 0:=⟨by kernel_rfl⟩
instance:CFo Tryz.prog 135 1 1:=⟨by kernel_rfl⟩
instance:CFo Tryz.prog 135 2 2:=⟨by kernel_rfl⟩
theorem fo_30_0:fieldOff Tryz.prog 30 0=some 0:=by kernel_rfl
instance:CFo Tryz.prog 30 0 0:=⟨fo_30_0⟩
theorem fo_30_1:fieldOff Tryz.prog 30 1=some 1:=by kernel_rfl
instance:CFo Tryz.prog 30 1 1:=⟨fo_30_1⟩
theorem fo_30_2:fieldOff Tryz.prog 30 2=some 2:=by kernel_rfl
instance:CFo Tryz.prog 30 2 2:=⟨fo_30_2⟩
theorem fo_30_3:fieldOff Tryz.prog 30 3=some 3:=by kernel_rfl
instance:CFo Tryz.prog 30 3 3:=⟨fo_30_3⟩
theorem fo_43_0:fieldOff Tryz.prog 43 0=some 0:=by kernel_rfl
instance:CFo Tryz.prog 43 0 0:=⟨fo_43_0⟩
theorem fo_43_1:fieldOff Tryz.prog 43 1=some 1:=by kernel_rfl
instance:CFo Tryz.prog 43 1 1:=⟨fo_43_1⟩
instance:CFo Tryz.prog 43 10 10:=⟨by kernel_rfl⟩
theorem fo_43_11:fieldOff Tryz.prog 43 11=some 11:=by kernel_rfl
instance:CFo Tryz.prog 43 11 11:=⟨fo_43_11⟩
theorem fo_43_12:fieldOff Tryz.prog 43 12=some 12:=by kernel_rfl
instance:CFo Tryz.prog 43 12 12:=⟨fo_43_12⟩
theorem fo_43_13:fieldOff Tryz.prog 43 13=some 13:=by kernel_rfl
instance:CFo Tryz.prog 43 13 13:=⟨fo_43_13⟩
theorem fo_43_2:fieldOff Tryz.prog 43 2=some 2:=by kernel_rfl
instance:CFo Tryz.prog 43 2 2:=⟨fo_43_2⟩
theorem fo_43_3:fieldOff Tryz.prog 43 3=some 3:=by kernel_rfl
instance:CFo Tryz.prog 43 3 3:=⟨fo_43_3⟩
theorem fo_43_4:fieldOff Tryz.prog 43 4=some 4:=by kernel_rfl
instance:CFo Tryz.prog 43 4 4:=⟨fo_43_4⟩
theorem fo_43_5:fieldOff Tryz.prog 43 5=some 5:=by kernel_rfl
instance:CFo Tryz.prog 43 5 5:=⟨fo_43_5⟩
theorem fo_43_6:fieldOff Tryz.prog 43 6=some 6:=by kernel_rfl
instance:CFo Tryz.prog 43 6 6:=⟨fo_43_6⟩
theorem fo_43_7:fieldOff Tryz.prog 43 7=some 7:=by kernel_rfl
instance:CFo Tryz.prog 43 7 7:=⟨fo_43_7⟩
theorem fo_43_8:fieldOff Tryz.prog 43 8=some 8:=by kernel_rfl
instance:CFo Tryz.prog 43 8 8:=⟨fo_43_8⟩
theorem fo_43_9:fieldOff Tryz.prog 43 9=some 9:=by kernel_rfl
instance:CFo Tryz.prog 43 9 9:=⟨fo_43_9⟩
theorem fo_93_1:fieldOff Tryz.prog 93 1=some 1:=by kernel_rfl
instance:CFo Tryz.prog 93 1 1:=⟨fo_93_1⟩
theorem sz_135:(Tryz.prog.info? 135).map (·.size)=some 3:=by kernel_rfl
theorem sz_43:(Tryz.prog.info? 43).map (·.size)=some 18:=by kernel_rfl
theorem zer_135:(Tryz.prog.info? 135).bind (·.zero)=some (.agg #[.int .i64 0, .int .i64 0, .int .i64 0]):=by kernel_rfl
theorem zer_43:(Tryz.prog.info? 43).bind (·.zero)=some (.agg #[.int .i64 0, .int .i64 0, .int .i64 0, .int .i64 0, .int .i64 0, .int .i64 0, .int .i64 0, .int .i64 0, .int .i64 0, .int .i64 0, .int .i64 0, .slice none 0 0, .slice none 0 0, .int .i64 0, .int .i64 0, .int .i64 0, .int .i64 0, .slice none 0 0]):=by kernel_rfl
theorem zs_135:(Tryz.prog.info? 135).map (fun i=>(i.zero,i.size))=some (some (.agg #[.int .i64 0, .int .i64 0, .int .i64 0]),3):=by kernel_rfl
theorem agg_103:aggSize Tryz.prog 103=some 9:=by kernel_rfl
theorem built_103: ∀vs,Tryz.prog.built 103 vs=Instr.fill (([(0,1),(1,6),(7,1),(8,1)]:List (Nat×Nat)).toArray[·]?) ([.int .i64 0, .int .i64 0, .int .i64 0, .int .i64 0, .bool false, .int .i64 0, .slice none 0 0, .slice none 0 0, .bool false]:List Value).toArray vs:=fun _=>by kernel_rfl
theorem ent_101:enters Tryz.prog 101=true:=by kernel_rfl
theorem ent_47:enters Tryz.prog 47=true:=by kernel_rfl
theorem ent_51:enters Tryz.prog 51=true:=by kernel_rfl
theorem ent_89:enters Tryz.prog 89=true:=by kernel_rfl
theorem fo_101_2:fieldOff Tryz.prog 101 2=some 7:=by kernel_rfl
instance:CFo Tryz.prog 101 2 7:=⟨fo_101_2⟩
theorem fo_103_2:fieldOff Tryz.prog 103 2=some 7:=by kernel_rfl
instance:CFo Tryz.prog 103 2 7:=⟨fo_103_2⟩
theorem fo_82_2:fieldOff Tryz.prog 82 2=some 2:=by kernel_rfl
instance:CFo Tryz.prog 82 2 2:=⟨fo_82_2⟩
theorem scal_49:isScal Tryz.prog 49=true:=by kernel_rfl
instance:CSc Tryz.prog 49:=⟨scal_49⟩
theorem scal_56:isScal Tryz.prog 56=true:=by kernel_rfl
instance:CSc Tryz.prog 56:=⟨scal_56⟩
theorem sz_103:(Tryz.prog.info? 103).map (·.size)=some 9:=by kernel_rfl
theorem zer_103:(Tryz.prog.info? 103).bind (·.zero)=some (.agg #[.int .i64 0, .int .i64 0, .int .i64 0, .int .i64 0, .bool false, .int .i64 0, .slice none 0 0, .slice none 0 0, .bool false]):=by kernel_rfl
theorem built_43: ∀vs,Tryz.prog.built 43 vs=Instr.fill (([(0,1),(1,1),(2,1),(3,1),(4,1),(5,1),(6,1),(7,1),(8,1),(9,1),(10,1),(11,1),(12,1),(13,5)]:List (Nat×Nat)).toArray[·]?) ([.int .i64 0, .int .i64 0, .int .i64 0, .int .i64 0, .int .i64 0, .int .i64 0, .int .i64 0, .int .i64 0, .int .i64 0, .int .i64 0, .int .i64 0, .slice none 0 0, .slice none 0 0, .int .i64 0, .int .i64 0, .int .i64 0, .int .i64 0, .slice none 0 0]:List Value).toArray vs:=fun _=>by kernel_rfl
theorem ent_117:enters Tryz.prog 117=true:=by kernel_rfl
theorem ent_118:enters Tryz.prog 118=true:=by kernel_rfl
theorem ent_70:enters Tryz.prog 70=true:=by kernel_rfl
theorem fo_82_1:fieldOff Tryz.prog 82 1=some 1:=by kernel_rfl
theorem scal_24:isScal Tryz.prog 24=true:=by kernel_rfl
instance:CSc Tryz.prog 24:=⟨scal_24⟩
theorem agg_87:aggSize Tryz.prog 87=some 6:=by kernel_rfl
theorem ent_112:enters Tryz.prog 112=true:=by kernel_rfl
theorem ent_21:enters Tryz.prog 21=true:=by kernel_rfl
theorem ent_35:enters Tryz.prog 35=true:=by kernel_rfl
theorem ent_73:enters Tryz.prog 73=true:=by kernel_rfl
theorem ent_75:enters Tryz.prog 75=true:=by kernel_rfl
theorem ent_80:enters Tryz.prog 80=true:=by kernel_rfl
instance:CFo Tryz.prog 87 0 0:=⟨by kernel_rfl⟩
theorem fo_87_1:fieldOff Tryz.prog 87 1=some 1:=by kernel_rfl
instance:CFo Tryz.prog 87 1 1:=⟨fo_87_1⟩
theorem fo_87_2:fieldOff Tryz.prog 87 2=some 2:=by kernel_rfl
instance:CFo Tryz.prog 87 2 2:=⟨fo_87_2⟩
theorem ent_33:enters Tryz.prog 33=true:=by kernel_rfl
theorem ent_34:enters Tryz.prog 34=true:=by kernel_rfl
theorem ent_36:enters Tryz.prog 36=true:=by kernel_rfl
theorem ent_37:enters Tryz.prog 37=true:=by kernel_rfl
theorem ent_38:enters Tryz.prog 38=true:=by kernel_rfl
theorem fo_82_0:fieldOff Tryz.prog 82 0=some 0:=by kernel_rfl
theorem fo_87_3:fieldOff Tryz.prog 87 3=some 3:=by kernel_rfl
instance:CFo Tryz.prog 87 3 3:=⟨fo_87_3⟩
theorem sz_87:(Tryz.prog.info? 87).map (·.size)=some 6:=by kernel_rfl
theorem zer_87:(Tryz.prog.info? 87).bind (·.zero)=some (.agg #[.int .i64 0, .int .i64 0, .int .i64 0, .bool false, .int .i64 0, .slice none 0 0]):=by kernel_rfl
theorem zs_43:(Tryz.prog.info? 43).map (fun i=>(i.zero,i.size))=some (some (.agg #[.int .i64 0, .int .i64 0, .int .i64 0, .int .i64 0, .int .i64 0, .int .i64 0, .int .i64 0, .int .i64 0, .int .i64 0, .int .i64 0, .int .i64 0, .slice none 0 0, .slice none 0 0, .int .i64 0, .int .i64 0, .int .i64 0, .int .i64 0, .slice none 0 0]),18):=by kernel_rfl
theorem built_82: ∀vs,Tryz.prog.built 82 vs=Instr.fill (([(0,1),(1,1),(2,1),(3,1)]:List (Nat×Nat)).toArray[·]?) ([.int .i64 0, .int .i64 0, .pointer none, .map none]:List Value).toArray vs:=fun _=>by kernel_rfl
theorem built_87: ∀vs,Tryz.prog.built 87 vs=Instr.fill (([(0,1),(1,1),(2,1),(3,1),(4,1),(5,1)]:List (Nat×Nat)).toArray[·]?) ([.int .i64 0, .int .i64 0, .int .i64 0, .bool false, .int .i64 0, .slice none 0 0]:List Value).toArray vs:=fun _=>by kernel_rfl
theorem ent_16:enters Tryz.prog 16=true:=by kernel_rfl
theorem ent_23:enters Tryz.prog 23=true:=by kernel_rfl
theorem ent_46:enters Tryz.prog 46=true:=by kernel_rfl
theorem ent_48:enters Tryz.prog 48=true:=by kernel_rfl
theorem fo_101_1:fieldOff Tryz.prog 101 1=some 1:=by kernel_rfl
instance:CFo Tryz.prog 101 1 1:=⟨fo_101_1⟩
theorem built_34: ∀vs,Tryz.prog.built 34 vs=Instr.fill (([(0,1),(1,1),(2,1),(3,1),(4,1),(5,1),(6,1),(7,1),(8,1),(9,1)]:List (Nat×Nat)).toArray[·]?) ([.int .i64 0, .int .i64 0, .int .i64 0, .int .i64 0, .int .i64 0, .int .i64 0, .int .i64 0, .slice none 0 0, .slice none 0 0, .bool false]:List Value).toArray vs:=fun _=>by kernel_rfl
theorem ent_10:enters Tryz.prog 10=true:=by kernel_rfl
theorem ent_12:enters Tryz.prog 12=true:=by kernel_rfl
theorem ent_15:enters Tryz.prog 15=true:=by kernel_rfl
theorem ent_17:enters Tryz.prog 17=true:=by kernel_rfl
theorem ent_18:enters Tryz.prog 18=true:=by kernel_rfl
theorem sz_5:(Tryz.prog.info? 5).map (·.size)=some 1:=by kernel_rfl
theorem scal_5:isScal Tryz.prog 5=true:=by kernel_rfl
theorem zs_5:(Tryz.prog.info? 5).map (fun i=>(i.zero,i.size))=some (some (.int .u8 0),1):=by kernel_rfl
theorem zsb_5:(Tryz.prog.info? 5).map (fun i=>(i.zero,i.size,i.bytes))=some (some (.int .u8 0),1,1):=by kernel_rfl
theorem built_139: ∀vs,Tryz.prog.built 139 vs=Instr.fill (([(0,1),(1,1)]:List (Nat×Nat)).toArray[·]?) ([.int .i64 0, .nilIface]:List Value).toArray vs:=fun _=>by kernel_rfl
theorem built_232: ∀vs,Tryz.prog.built 232 vs=Instr.fill (([(0,1),(1,1),(2,1)]:List (Nat×Nat)).toArray[·]?) ([.slice none 0 0, .int .i64 0, .nilIface]:List Value).toArray vs:=fun _=>by kernel_rfl
theorem ent_168:enters Tryz.prog 168=true:=by kernel_rfl
theorem fo_232_0:fieldOff Tryz.prog 232 0=some 0:=by kernel_rfl
theorem fo_232_1:fieldOff Tryz.prog 232 1=some 1:=by kernel_rfl
instance:CFo Tryz.prog 232 1 1:=⟨fo_232_1⟩
theorem fo_232_2:fieldOff Tryz.prog 232 2=some 2:=by kernel_rfl
instance:CFo Tryz.prog 232 2 2:=⟨fo_232_2⟩
theorem ent_116:enters Tryz.prog 116=true:=by kernel_rfl
theorem ent_184:enters Tryz.prog 184=true:=by kernel_rfl
theorem ent_83:enters Tryz.prog 83=true:=by kernel_rfl
theorem built_93: ∀vs,Tryz.prog.built 93 vs=Instr.fill (([(0,1),(1,1)]:List (Nat×Nat)).toArray[·]?) ([.slice none 0 0, .slice none 0 0]:List Value).toArray vs:=fun _=>by kernel_rfl
theorem sz_28:(Tryz.prog.info? 28).map (·.size)=some 1:=by kernel_rfl
theorem zs_93:(Tryz.prog.info? 93).map (fun i=>(i.zero,i.size))=some (some (.agg #[.slice none 0 0, .slice none 0 0]),2):=by kernel_rfl
theorem zsb_93:(Tryz.prog.info? 93).map (fun i=>(i.zero,i.size,i.bytes))=some (some (.agg #[.slice none 0 0, .slice none 0 0]),2,48):=by kernel_rfl
theorem ent_200:enters Tryz.prog 200=true:=by kernel_rfl
theorem ent_201:enters Tryz.prog 201=true:=by kernel_rfl
instance:CFo Tryz.prog 103 0 0:=⟨by kernel_rfl⟩
theorem fo_103_1:fieldOff Tryz.prog 103 1=some 1:=by kernel_rfl
instance:CFo Tryz.prog 103 1 1:=⟨fo_103_1⟩
theorem fo_87_4:fieldOff Tryz.prog 87 4=some 4:=by kernel_rfl
instance:CFo Tryz.prog 87 4 4:=⟨fo_87_4⟩
theorem fo_87_5:fieldOff Tryz.prog 87 5=some 5:=by kernel_rfl
instance:CFo Tryz.prog 87 5 5:=⟨fo_87_5⟩
theorem ent_72:enters Tryz.prog 72=true:=by kernel_rfl
theorem ent_81:enters Tryz.prog 81=true:=by kernel_rfl
theorem ent_197:enters Tryz.prog 197=true:=by kernel_rfl
theorem ent_198:enters Tryz.prog 198=true:=by kernel_rfl
theorem ent_199:enters Tryz.prog 199=true:=by kernel_rfl
theorem ent_216:enters Tryz.prog 216=true:=by kernel_rfl
theorem ent_217:enters Tryz.prog 217=true:=by kernel_rfl
theorem zs_3:(Tryz.prog.info? 3).map (fun i=>(i.zero,i.size))=some (some (.int .i64 0),1):=by kernel_rfl
theorem ent_195:enters Tryz.prog 195=true:=by kernel_rfl
theorem ent_196:enters Tryz.prog 196=true:=by kernel_rfl
theorem ent_215:enters Tryz.prog 215=true:=by kernel_rfl
theorem ent_225:enters Tryz.prog 225=true:=by kernel_rfl
theorem ent_183:enters Tryz.prog 183=true:=by kernel_rfl
theorem ent_155:enters Tryz.prog 155=true:=by kernel_rfl
theorem ent_156:enters Tryz.prog 156=true:=by kernel_rfl
theorem ent_115:enters Tryz.prog 115=true:=by kernel_rfl
theorem ent_78:enters Tryz.prog 78=true:=by kernel_rfl
theorem built_114: ∀vs,Tryz.prog.built 114 vs=Instr.fill (([(0,1),(1,1),(2,1),(3,1),(4,1),(5,1)]:List (Nat×Nat)).toArray[·]?) ([.int .i64 0, .slice none 0 0, .slice none 0 0, .int .i64 0, .int .i64 0, .bool false]:List Value).toArray vs:=fun _=>by kernel_rfl
theorem zs_66:(Tryz.prog.info? 66).map (fun i=>(i.zero,i.size))=some (some (.agg #[.int .i64 0, .int .i64 0, .int .i64 0]),3):=by kernel_rfl
theorem zsb_66:(Tryz.prog.info? 66).map (fun i=>(i.zero,i.size,i.bytes))=some (some (.agg #[.int .i64 0, .int .i64 0, .int .i64 0]),3,24):=by kernel_rfl
theorem ent_134:enters Tryz.prog 134=true:=by kernel_rfl
theorem zer_66:(Tryz.prog.info? 66).bind (·.zero)=some (.agg #[.int .i64 0, .int .i64 0, .int .i64 0]):=by kernel_rfl
theorem ent_135:enters Tryz.prog 135=true:=by kernel_rfl
theorem ent_136:enters Tryz.prog 136=true:=by kernel_rfl
theorem ent_169:enters Tryz.prog 169=true:=by kernel_rfl
theorem zs_2:(Tryz.prog.info? 2).map (fun i=>(i.zero,i.size))=some (some (.int .i64 0),1):=by kernel_rfl
theorem ent_121:enters Tryz.prog 121=true:=by kernel_rfl
theorem ent_122:enters Tryz.prog 122=true:=by kernel_rfl
theorem ent_123:enters Tryz.prog 123=true:=by kernel_rfl
theorem ent_124:enters Tryz.prog 124=true:=by kernel_rfl
theorem ent_125:enters Tryz.prog 125=true:=by kernel_rfl
theorem ent_127:enters Tryz.prog 127=true:=by kernel_rfl
instance:CSc Tryz.prog 198:=⟨by kernel_rfl⟩
theorem sz_198:(Tryz.prog.info? 198).map (·.size)=some 1:=by kernel_rfl
theorem zs_198:(Tryz.prog.info? 198).map (fun i=>(i.zero,i.size))=some (some (.pointer none),1):=by kernel_rfl
theorem ent_120:enters Tryz.prog 120=true:=by kernel_rfl
theorem ent_71:enters Tryz.prog 71=true:=by kernel_rfl
theorem ent_91:enters Tryz.prog 91=true:=by kernel_rfl
theorem fo_101_0:fieldOff Tryz.prog 101 0=some 0:=by kernel_rfl
instance:CFo Tryz.prog 101 0 0:=⟨fo_101_0⟩
theorem fo_101_3:fieldOff Tryz.prog 101 3=some 8:=by kernel_rfl
instance:CFo Tryz.prog 101 3 8:=⟨fo_101_3⟩
theorem fo_101_4:fieldOff Tryz.prog 101 4=some 9:=by kernel_rfl
instance:CFo Tryz.prog 101 4 9:=⟨fo_101_4⟩
theorem scal_25:isScal Tryz.prog 25=true:=by kernel_rfl
instance:CSc Tryz.prog 25:=⟨scal_25⟩
theorem built_101: ∀vs,Tryz.prog.built 101 vs=Instr.fill (([(0,1),(1,6),(7,1),(8,1),(9,1)]:List (Nat×Nat)).toArray[·]?) ([.pointer none, .int .i64 0, .int .i64 0, .int .i64 0, .bool false, .int .i64 0, .slice none 0 0, .pointer none, .int .i64 0, .int .i64 0]:List Value).toArray vs:=fun _=>by kernel_rfl
theorem ent_42:enters Tryz.prog 42=true:=by kernel_rfl
theorem ent_43:enters Tryz.prog 43=true:=by kernel_rfl
theorem ent_44:enters Tryz.prog 44=true:=by kernel_rfl
theorem ent_45:enters Tryz.prog 45=true:=by kernel_rfl
theorem ent_85:enters Tryz.prog 85=true:=by kernel_rfl
theorem ent_87:enters Tryz.prog 87=true:=by kernel_rfl
theorem ent_90:enters Tryz.prog 90=true:=by kernel_rfl
theorem ent_93:enters Tryz.prog 93=true:=by kernel_rfl
theorem ent_92:enters Tryz.prog 92=true:=by kernel_rfl
theorem ent_94:enters Tryz.prog 94=true:=by kernel_rfl
theorem ent_95:enters Tryz.prog 95=true:=by kernel_rfl
theorem ent_96:enters Tryz.prog 96=true:=by kernel_rfl
theorem ent_97:enters Tryz.prog 97=true:=by kernel_rfl
theorem ent_98:enters Tryz.prog 98=true:=by kernel_rfl
theorem ent_158:enters Tryz.prog 158=true:=by kernel_rfl
theorem ent_157:enters Tryz.prog 157=true:=by kernel_rfl
theorem ent_119:enters Tryz.prog 119=true:=by kernel_rfl
theorem ent_39:enters Tryz.prog 39=true:=by kernel_rfl
theorem ent_40:enters Tryz.prog 40=true:=by kernel_rfl
theorem ent_41:enters Tryz.prog 41=true:=by kernel_rfl
theorem ent_82:enters Tryz.prog 82=true:=by kernel_rfl
theorem ent_84:enters Tryz.prog 84=true:=by kernel_rfl
theorem ent_8:enters Tryz.prog 8=true:=by kernel_rfl
theorem ent_9:enters Tryz.prog 9=true:=by kernel_rfl
theorem ent_11:enters Tryz.prog 11=true:=by kernel_rfl
theorem ent_13:enters Tryz.prog 13=true:=by kernel_rfl
theorem ent_14:enters Tryz.prog 14=true:=by kernel_rfl
instance:CIf Tryz.prog 37:=⟨_,Tryz.underlying37⟩
end Go.Proofs.YtefaghnlmmgpcaaGreatDoor.B
