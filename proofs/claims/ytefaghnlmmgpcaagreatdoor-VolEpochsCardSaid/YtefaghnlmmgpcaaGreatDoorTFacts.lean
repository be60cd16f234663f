/- What functions of the program compute, each function once: steps over the model, and the plain law of it. -/
import Derived.Test.YtefaghnlmmgpcaaGreatDoorSLogB
import Derived.Test.YtefaghnlmmgpcaaGreatDoorProg
namespace Go.Proofs.YtefaghnlmmgpcaaGreatDoor.B
open Go Go.Proofs
set_option maxRecDepth 20000
set_option maxHeartbeats 8000000
theorem agg_111:aggSize Tryz.prog 111=some 3:=by kernel_rfl
theorem built_111: ∀vs,Tryz.prog.built 111 vs=Instr.fill (([(0,1),(1,1),(2,1)]:List (Nat×Nat)).toArray[·]?) ([.int .i64 0, .bool false, .int .i64 0]:List Value).toArray vs:=fun _=>by kernel_rfl
theorem ent_138:enters Tryz.prog 138=true:=by kernel_rfl
theorem ent_170:enters Tryz.prog 170=true:=by kernel_rfl
theorem ent_171:enters Tryz.prog 171=true:=by kernel_rfl
theorem ent_49:enters Tryz.prog 49=true:=by kernel_rfl
theorem ent_139:enters Tryz.prog 139=true:=by kernel_rfl
theorem ent_50:enters Tryz.prog 50=true:=by kernel_rfl
theorem ent_99:enters Tryz.prog 99=true:=by kernel_rfl
theorem ent_100:enters Tryz.prog 100=true:=by kernel_rfl
theorem ent_137:enters Tryz.prog 137=true:=by kernel_rfl
theorem fo_139_0:fieldOff Tryz.prog 139 0=some 0:=by kernel_rfl
theorem fo_139_1:fieldOff Tryz.prog 139 1=some 1:=by kernel_rfl
instance:CFo Tryz.prog 139 1 1:=⟨fo_139_1⟩
instance:CFo Tryz.prog 111 0 0:=⟨by kernel_rfl⟩
instance:CFo Tryz.prog 111 1 1:=⟨by kernel_rfl⟩
instance:CFo Tryz.prog 111 2 2:=⟨by kernel_rfl⟩
theorem ptr_312:ptrRow Tryz.prog 312=true:=by kernel_rfl
theorem scal_37:isScal Tryz.prog 37=true:=by kernel_rfl
instance:CSc Tryz.prog 37:=⟨scal_37⟩
theorem scal_3:isScal Tryz.prog 3=true:=by kernel_rfl
instance:CSc Tryz.prog 3:=⟨scal_3⟩
theorem scal_4:isScal Tryz.prog 4=true:=by kernel_rfl
instance:CSc Tryz.prog 4:=⟨scal_4⟩
theorem sz_37:(Tryz.prog.info? 37).map (·.size)=some 1:=by kernel_rfl
theorem sz_111:(Tryz.prog.info? 111).map (·.size)=some 3:=by kernel_rfl
theorem zer_137:(Tryz.prog.info? 137).bind (·.zero)=some (.pointer none):=by kernel_rfl
theorem zer_111:(Tryz.prog.info? 111).bind (·.zero)=some (.agg #[.int .i64 0, .bool false, .int .i64 0]):=by kernel_rfl
theorem zs_37:(Tryz.prog.info? 37).map (fun i=>(i.zero,i.size))=some (some (.nilIface),1):=by kernel_rfl
theorem built_98: ∀vs,Tryz.prog.built 98 vs=Instr.fill (([(0,1),(1,1),(2,1),(3,1),(4,1),(5,1)]:List (Nat×Nat)).toArray[·]?) ([.int .i64 0, .map none, .map none, .int .i64 0, .int .i64 0, .bool false]:List Value).toArray vs:=fun _=>by kernel_rfl
theorem ent_132:enters Tryz.prog 132=true:=by kernel_rfl
theorem ent_133:enters Tryz.prog 133=true:=by kernel_rfl
theorem ent_86:enters Tryz.prog 86=true:=by kernel_rfl
instance:CFo Tryz.prog 98 0 0:=⟨by kernel_rfl⟩
theorem fo_98_1:fieldOff Tryz.prog 98 1=some 1:=by kernel_rfl
instance:CFo Tryz.prog 98 1 1:=⟨fo_98_1⟩
theorem fo_98_2:fieldOff Tryz.prog 98 2=some 2:=by kernel_rfl
instance:CFo Tryz.prog 98 2 2:=⟨fo_98_2⟩
theorem fo_98_3:fieldOff Tryz.prog 98 3=some 3:=by kernel_rfl
instance:CFo Tryz.prog 98 3 3:=⟨fo_98_3⟩
instance:CFo Tryz.prog 98 4 4:=⟨by kernel_rfl⟩
instance:CFo Tryz.prog 98 5 5:=⟨by kernel_rfl⟩
theorem ik_96:intKeyed Tryz.prog 96=some 32:=by kernel_rfl
theorem scal_96:isScal Tryz.prog 96=true:=by kernel_rfl
instance:CSc Tryz.prog 96:=⟨scal_96⟩
theorem sz_3:(Tryz.prog.info? 3).map (·.size)=some 1:=by kernel_rfl
theorem sz_96:(Tryz.prog.info? 96).map (·.size)=some 1:=by kernel_rfl
theorem zer_32:(Tryz.prog.info? 32).bind (·.zero)=some (.slice none 0 0):=by kernel_rfl
theorem zs_96:(Tryz.prog.info? 96).map (fun i=>(i.zero,i.size))=some (some (.map none),1):=by kernel_rfl
theorem sz_34:(Tryz.prog.info? 34).map (·.size)=some 10:=by kernel_rfl
theorem agg_66:aggSize Tryz.prog 66=some 3:=by kernel_rfl
instance:CFo Tryz.prog 34 0 0:=⟨by kernel_rfl⟩
instance:CFo Tryz.prog 34 1 1:=⟨by kernel_rfl⟩
instance:CFo Tryz.prog 34 2 2:=⟨by kernel_rfl⟩
instance:CFo Tryz.prog 34 3 3:=⟨by kernel_rfl⟩
instance:CFo Tryz.prog 34 4 4:=⟨by kernel_rfl⟩
instance:CFo Tryz.prog 34 5 5:=⟨by kernel_rfl⟩
instance:CFo Tryz.prog 34 6 6:=⟨by kernel_rfl⟩
theorem fo_34_7:fieldOff Tryz.prog 34 7=some 7:=by kernel_rfl
instance:CFo Tryz.prog 34 7 7:=⟨fo_34_7⟩
theorem fo_34_8:fieldOff Tryz.prog 34 8=some 8:=by kernel_rfl
instance:CFo Tryz.prog 34 8 8:=⟨fo_34_8⟩
instance:CFo Tryz.prog 34 9 9:=⟨by kernel_rfl⟩
theorem fo_66_0:fieldOff Tryz.prog 66 0=some 0:=by kernel_rfl
instance:CFo Tryz.prog 66 0 0:=⟨fo_66_0⟩
theorem fo_66_1:fieldOff Tryz.prog 66 1=some 1:=by kernel_rfl
instance:CFo Tryz.prog 66 1 1:=⟨fo_66_1⟩
theorem fo_66_2:fieldOff Tryz.prog 66 2=some 2:=by kernel_rfl
instance:CFo Tryz.prog 66 2 2:=⟨fo_66_2⟩
theorem scal_2:isScal Tryz.prog 2=true:=by kernel_rfl
instance:CSc Tryz.prog 2:=⟨scal_2⟩
theorem scal_32:isScal Tryz.prog 32=true:=by kernel_rfl
instance:CSc Tryz.prog 32:=⟨scal_32⟩
theorem sz_66:(Tryz.prog.info? 66).map (·.size)=some 3:=by kernel_rfl
theorem agg_34:aggSize Tryz.prog 34=some 10:=by kernel_rfl
instance:CFo Tryz.prog 114 1 1:=⟨by kernel_rfl⟩
instance:CSc Tryz.prog 40:=⟨by kernel_rfl⟩
instance:CSc Tryz.prog 41:=⟨by kernel_rfl⟩
theorem sz_41:(Tryz.prog.info? 41).map (·.size)=some 1:=by kernel_rfl
theorem ent_64:enters Tryz.prog 64=true:=by kernel_rfl
theorem sz_4:(Tryz.prog.info? 4).map (·.size)=some 1:=by kernel_rfl
theorem sz_2:(Tryz.prog.info? 2).map (·.size)=some 1:=by kernel_rfl
theorem zer_34:(Tryz.prog.info? 34).bind (·.zero)=some (.agg #[.int .i64 0, .int .i64 0, .int .i64 0, .int .i64 0, .int .i64 0, .int .i64 0, .int .i64 0, .slice none 0 0, .slice none 0 0, .bool false]):=by kernel_rfl
theorem ent_110:enters Tryz.prog 110=true:=by kernel_rfl
theorem ent_65:enters Tryz.prog 65=true:=by kernel_rfl
theorem agg_103:aggSize Tryz.prog 103=some 9:=by kernel_rfl
theorem built_103: ∀vs,Tryz.prog.built 103 vs=Instr.fill (([(0,1),(1,6),(7,1),(8,1)]:List (Nat×Nat)).toArray[·]?) ([.int .i64 0, .int .i64 0, .int .i64 0, .int .i64 0, .bool false, .int .i64 0, .slice none 0 0, .slice none 0 0, .bool false]:List Value).toArray vs:=fun _=>by kernel_rfl
theorem ent_47:enters Tryz.prog 47=true:=by kernel_rfl
instance:CFo Tryz.prog 101 2 7:=⟨by kernel_rfl⟩
instance:CFo Tryz.prog 103 2 7:=⟨by kernel_rfl⟩
instance:CSc Tryz.prog 56:=⟨by kernel_rfl⟩
theorem sz_103:(Tryz.prog.info? 103).map (·.size)=some 9:=by kernel_rfl
theorem zer_103:(Tryz.prog.info? 103).bind (·.zero)=some (.agg #[.int .i64 0, .int .i64 0, .int .i64 0, .int .i64 0, .bool false, .int .i64 0, .slice none 0 0, .slice none 0 0, .bool false]):=by kernel_rfl
theorem agg_87:aggSize Tryz.prog 87=some 6:=by kernel_rfl
instance:CFo Tryz.prog 87 0 0:=⟨by kernel_rfl⟩
instance:CFo Tryz.prog 87 1 1:=⟨by kernel_rfl⟩
theorem fo_87_2:fieldOff Tryz.prog 87 2=some 2:=by kernel_rfl
instance:CFo Tryz.prog 87 2 2:=⟨fo_87_2⟩
theorem fo_87_3:fieldOff Tryz.prog 87 3=some 3:=by kernel_rfl
instance:CFo Tryz.prog 87 3 3:=⟨fo_87_3⟩
theorem built_82: ∀vs,Tryz.prog.built 82 vs=Instr.fill (([(0,1),(1,1),(2,1),(3,1)]:List (Nat×Nat)).toArray[·]?) ([.int .i64 0, .int .i64 0, .pointer none, .map none]:List Value).toArray vs:=fun _=>by kernel_rfl
theorem built_87: ∀vs,Tryz.prog.built 87 vs=Instr.fill (([(0,1),(1,1),(2,1),(3,1),(4,1),(5,1)]:List (Nat×Nat)).toArray[·]?) ([.int .i64 0, .int .i64 0, .int .i64 0, .bool false, .int .i64 0, .slice none 0 0]:List Value).toArray vs:=fun _=>by kernel_rfl
theorem ent_16:enters Tryz.prog 16=true:=by kernel_rfl
theorem ent_23:enters Tryz.prog 23=true:=by kernel_rfl
theorem ent_46:enters Tryz.prog 46=true:=by kernel_rfl
theorem ent_48:enters Tryz.prog 48=true:=by kernel_rfl
theorem fo_101_1:fieldOff Tryz.prog 101 1=some 1:=by kernel_rfl
instance:CFo Tryz.prog 101 1 1:=⟨fo_101_1⟩
theorem ent_15:enters Tryz.prog 15=true:=by kernel_rfl
theorem ent_17:enters Tryz.prog 17=true:=by kernel_rfl
theorem ent_18:enters Tryz.prog 18=true:=by kernel_rfl
theorem sz_5:(Tryz.prog.info? 5).map (·.size)=some 1:=by kernel_rfl
theorem scal_5:isScal Tryz.prog 5=true:=by kernel_rfl
theorem zs_5:(Tryz.prog.info? 5).map (fun i=>(i.zero,i.size))=some (some (.int .u8 0),1):=by kernel_rfl
theorem zsb_5:(Tryz.prog.info? 5).map (fun i=>(i.zero,i.size,i.bytes))=some (some (.int .u8 0),1,1):=by kernel_rfl
theorem built_131: ∀vs,Tryz.prog.built 131 vs=Instr.fill (([(0,1),(1,1),(2,1),(3,1),(4,1),(5,1),(6,1),(7,1),(8,1),(9,1),(10,1),(11,1),(12,1),(13,1)]:List (Nat×Nat)).toArray[·]?) ([.int .i64 0, .int .i64 0, .pointer none, .pointer none, .bool false, .bool false, .pointer none, .pointer none, .slice none 0 0, .slice none 0 0, .slice none 0 0, .slice none 0 0, .slice none 0 0, .int .i64 0]:List Value).toArray vs:=fun _=>by kernel_rfl
theorem ent_109:enters Tryz.prog 109=true:=by kernel_rfl
theorem ent_55:enters Tryz.prog 55=true:=by kernel_rfl
theorem ent_58:enters Tryz.prog 58=true:=by kernel_rfl
theorem ent_59:enters Tryz.prog 59=true:=by kernel_rfl
theorem ent_62:enters Tryz.prog 62=true:=by kernel_rfl
theorem ent_9:enters Tryz.prog 9=true:=by kernel_rfl
theorem fo_131_1:fieldOff Tryz.prog 131 1=some 1:=by kernel_rfl
instance:CFo Tryz.prog 131 1 1:=⟨fo_131_1⟩
theorem fo_131_12:fieldOff Tryz.prog 131 12=some 12:=by kernel_rfl
instance:CFo Tryz.prog 131 12 12:=⟨fo_131_12⟩
theorem fo_131_2:fieldOff Tryz.prog 131 2=some 2:=by kernel_rfl
instance:CFo Tryz.prog 131 4 4:=⟨by kernel_rfl⟩
theorem fo_131_5:fieldOff Tryz.prog 131 5=some 5:=by kernel_rfl
instance:CFo Tryz.prog 131 5 5:=⟨fo_131_5⟩
theorem scal_73:isScal Tryz.prog 73=true:=by kernel_rfl
instance:CSc Tryz.prog 73:=⟨scal_73⟩
instance:CSc Tryz.prog 77:=⟨by kernel_rfl⟩
theorem sz_77:(Tryz.prog.info? 77).map (·.size)=some 1:=by kernel_rfl
theorem built_117: ∀vs,Tryz.prog.built 117 vs=Instr.fill (([(0,1),(1,1),(2,1)]:List (Nat×Nat)).toArray[·]?) ([.int .i64 0, .slice none 0 0, .slice none 0 0]:List Value).toArray vs:=fun _=>by kernel_rfl
theorem built_76: ∀vs,Tryz.prog.built 76 vs=Instr.fill (([(0,1),(1,1),(2,1),(3,1),(4,1)]:List (Nat×Nat)).toArray[·]?) ([.pointer none, .slice none 0 0, .slice none 0 0, .slice none 0 0, .int .i64 0]:List Value).toArray vs:=fun _=>by kernel_rfl
theorem ent_56:enters Tryz.prog 56=true:=by kernel_rfl
theorem ent_57:enters Tryz.prog 57=true:=by kernel_rfl
theorem fo_76_0:fieldOff Tryz.prog 76 0=some 0:=by kernel_rfl
instance:CFo Tryz.prog 76 0 0:=⟨fo_76_0⟩
theorem fo_76_1:fieldOff Tryz.prog 76 1=some 1:=by kernel_rfl
instance:CFo Tryz.prog 76 1 1:=⟨fo_76_1⟩
theorem fo_76_2:fieldOff Tryz.prog 76 2=some 2:=by kernel_rfl
instance:CFo Tryz.prog 76 2 2:=⟨fo_76_2⟩
instance:CSc Tryz.prog 61:=⟨by kernel_rfl⟩
instance:CSc Tryz.prog 74:=⟨by kernel_rfl⟩
theorem sz_61:(Tryz.prog.info? 61).map (·.size)=some 1:=by kernel_rfl
theorem sz_73:(Tryz.prog.info? 73).map (·.size)=some 1:=by kernel_rfl
theorem sz_74:(Tryz.prog.info? 74).map (·.size)=some 1:=by kernel_rfl
theorem zs_117:(Tryz.prog.info? 117).map (fun i=>(i.zero,i.size))=some (some (.agg #[.int .i64 0, .slice none 0 0, .slice none 0 0]),3):=by kernel_rfl
theorem zs_24:(Tryz.prog.info? 24).map (fun i=>(i.zero,i.size))=some (some (.pointer none),1):=by kernel_rfl
theorem zs_3:(Tryz.prog.info? 3).map (fun i=>(i.zero,i.size))=some (some (.int .i64 0),1):=by kernel_rfl
theorem zs_4:(Tryz.prog.info? 4).map (fun i=>(i.zero,i.size))=some (some (.bool false),1):=by kernel_rfl
theorem zsb_117:(Tryz.prog.info? 117).map (fun i=>(i.zero,i.size,i.bytes))=some (some (.agg #[.int .i64 0, .slice none 0 0, .slice none 0 0]),3,56):=by kernel_rfl
theorem zsb_24:(Tryz.prog.info? 24).map (fun i=>(i.zero,i.size,i.bytes))=some (some (.pointer none),1,8):=by kernel_rfl
theorem zsb_4:(Tryz.prog.info? 4).map (fun i=>(i.zero,i.size,i.bytes))=some (some (.bool false),1,1):=by kernel_rfl
theorem built_139: ∀vs,Tryz.prog.built 139 vs=Instr.fill (([(0,1),(1,1)]:List (Nat×Nat)).toArray[·]?) ([.int .i64 0, .nilIface]:List Value).toArray vs:=fun _=>by kernel_rfl
theorem built_232: ∀vs,Tryz.prog.built 232 vs=Instr.fill (([(0,1),(1,1),(2,1)]:List (Nat×Nat)).toArray[·]?) ([.slice none 0 0, .int .i64 0, .nilIface]:List Value).toArray vs:=fun _=>by kernel_rfl
theorem ent_168:enters Tryz.prog 168=true:=by kernel_rfl
theorem fo_232_0:fieldOff Tryz.prog 232 0=some 0:=by kernel_rfl
theorem fo_232_1:fieldOff Tryz.prog 232 1=some 1:=by kernel_rfl
instance:CFo Tryz.prog 232 1 1:=⟨fo_232_1⟩
theorem fo_232_2:fieldOff Tryz.prog 232 2=some 2:=by kernel_rfl
instance:CFo Tryz.prog 232 2 2:=⟨fo_232_2⟩
theorem ent_105:enters Tryz.prog 105=true:=by kernel_rfl
theorem ent_142:enters Tryz.prog 142=true:=by kernel_rfl
theorem ent_172:enters Tryz.prog 172=true:=by kernel_rfl
theorem ent_204:enters Tryz.prog 204=true:=by kernel_rfl
theorem ent_210:enters Tryz.prog 210=true:=by kernel_rfl
theorem ent_217:enters Tryz.prog 217=true:=by kernel_rfl
theorem ent_191:enters Tryz.prog 191=true:=by kernel_rfl
theorem ent_192:enters Tryz.prog 192=true:=by kernel_rfl
theorem ent_214:enters Tryz.prog 214=true:=by kernel_rfl
theorem scal_60:isScal Tryz.prog 60=true:=by kernel_rfl
instance:CSc Tryz.prog 60:=⟨scal_60⟩
theorem ent_188:enters Tryz.prog 188=true:=by kernel_rfl
theorem sz_60:(Tryz.prog.info? 60).map (·.size)=some 1:=by kernel_rfl
theorem zsb_3:(Tryz.prog.info? 3).map (fun i=>(i.zero,i.size,i.bytes))=some (some (.int .i64 0),1,8):=by kernel_rfl
theorem agg_117:aggSize Tryz.prog 117=some 3:=by kernel_rfl
theorem ent_141:enters Tryz.prog 141=true:=by kernel_rfl
theorem ent_143:enters Tryz.prog 143=true:=by kernel_rfl
theorem ent_146:enters Tryz.prog 146=true:=by kernel_rfl
theorem ent_173:enters Tryz.prog 173=true:=by kernel_rfl
theorem ent_174:enters Tryz.prog 174=true:=by kernel_rfl
theorem ent_175:enters Tryz.prog 175=true:=by kernel_rfl
theorem ent_178:enters Tryz.prog 178=true:=by kernel_rfl
theorem ent_187:enters Tryz.prog 187=true:=by kernel_rfl
theorem ent_203:enters Tryz.prog 203=true:=by kernel_rfl
instance:CFo Tryz.prog 117 0 0:=⟨by kernel_rfl⟩
theorem fo_117_1:fieldOff Tryz.prog 117 1=some 1:=by kernel_rfl
instance:CFo Tryz.prog 117 1 1:=⟨fo_117_1⟩
theorem fo_117_2:fieldOff Tryz.prog 117 2=some 2:=by kernel_rfl
instance:CFo Tryz.prog 117 2 2:=⟨fo_117_2⟩
theorem sz_117:(Tryz.prog.info? 117).map (·.size)=some 3:=by kernel_rfl
theorem zer_117:(Tryz.prog.info? 117).bind (·.zero)=some (.agg #[.int .i64 0, .slice none 0 0, .slice none 0 0]):=by kernel_rfl
theorem zs_60:(Tryz.prog.info? 60).map (fun i=>(i.zero,i.size))=some (some (.slice none 0 0),1):=by kernel_rfl
theorem ent_104:enters Tryz.prog 104=true:=by kernel_rfl
theorem fo_172_0:fieldOff Tryz.prog 172 0=some 0:=by kernel_rfl
instance:CFo Tryz.prog 172 0 0:=⟨fo_172_0⟩
theorem fo_172_1:fieldOff Tryz.prog 172 1=some 1:=by kernel_rfl
instance:CFo Tryz.prog 172 1 1:=⟨fo_172_1⟩
theorem fo_172_2:fieldOff Tryz.prog 172 2=some 2:=by kernel_rfl
instance:CFo Tryz.prog 172 2 2:=⟨fo_172_2⟩
theorem scal_115:isScal Tryz.prog 115=true:=by kernel_rfl
instance:CSc Tryz.prog 115:=⟨scal_115⟩
theorem sz_64:(Tryz.prog.info? 64).map (·.size)=some 1:=by kernel_rfl
theorem built_172: ∀vs,Tryz.prog.built 172 vs=Instr.fill (([(0,1),(1,1),(2,64)]:List (Nat×Nat)).toArray[·]?) ([.slice none 0 0, .int .i64 0, .int .i64 0, .int .i64 0, .int .i64 0, .int .i64 0, .int .i64 0, .int .i64 0, .int .i64 0, .int .i64 0, .int .i64 0, .int .i64 0, .int .i64 0, .int .i64 0, .int .i64 0, .int .i64 0, .int .i64 0, .int .i64 0, .int .i64 0, .int .i64 0, .int .i64 0, .int .i64 0, .int .i64 0, .int .i64 0, .int .i64 0, .int .i64 0, .int .i64 0, .int .i64 0, .int .i64 0, .int .i64 0, .int .i64 0, .int .i64 0, .int .i64 0, .int .i64 0, .int .i64 0, .int .i64 0, .int .i64 0, .int .i64 0, .int .i64 0, .int .i64 0, .int .i64 0, .int .i64 0, .int .i64 0, .int .i64 0, .int .i64 0, .int .i64 0, .int .i64 0, .int .i64 0, .int .i64 0, .int .i64 0, .int .i64 0, .int .i64 0, .int .i64 0, .int .i64 0, .int .i64 0, .int .i64 0, .int .i64 0, .int .i64 0, .int .i64 0, .int .i64 0, .int .i64 0, .int .i64 0, .int .i64 0, .int .i64 0, .int .i64 0, .int .i64 0]:List Value).toArray vs:=fun _=>by kernel_rfl
theorem ent_102:enters Tryz.prog 102=true:=by kernel_rfl
theorem ent_103:enters Tryz.prog 103=true:=by kernel_rfl
theorem sz_115:(Tryz.prog.info? 115).map (·.size)=some 1:=by kernel_rfl
instance:CFo Tryz.prog 103 0 0:=⟨by kernel_rfl⟩
theorem fo_103_1:fieldOff Tryz.prog 103 1=some 1:=by kernel_rfl
instance:CFo Tryz.prog 103 1 1:=⟨fo_103_1⟩
theorem fo_87_4:fieldOff Tryz.prog 87 4=some 4:=by kernel_rfl
instance:CFo Tryz.prog 87 4 4:=⟨fo_87_4⟩
instance:CFo Tryz.prog 87 5 5:=⟨by kernel_rfl⟩
theorem built_114: ∀vs,Tryz.prog.built 114 vs=Instr.fill (([(0,1),(1,1),(2,1),(3,1),(4,1),(5,1)]:List (Nat×Nat)).toArray[·]?) ([.int .i64 0, .slice none 0 0, .slice none 0 0, .int .i64 0, .int .i64 0, .bool false]:List Value).toArray vs:=fun _=>by kernel_rfl
theorem ent_134:enters Tryz.prog 134=true:=by kernel_rfl
theorem zer_66:(Tryz.prog.info? 66).bind (·.zero)=some (.agg #[.int .i64 0, .int .i64 0, .int .i64 0]):=by kernel_rfl
theorem ent_135:enters Tryz.prog 135=true:=by kernel_rfl
theorem ent_136:enters Tryz.prog 136=true:=by kernel_rfl
theorem ent_169:enters Tryz.prog 169=true:=by kernel_rfl
theorem zs_2:(Tryz.prog.info? 2).map (fun i=>(i.zero,i.size))=some (some (.int .i64 0),1):=by kernel_rfl
theorem ent_121:enters Tryz.prog 121=true:=by kernel_rfl
theorem ent_122:enters Tryz.prog 122=true:=by kernel_rfl
theorem ent_123:enters Tryz.prog 123=true:=by kernel_rfl
theorem ent_124:enters Tryz.prog 124=true:=by kernel_rfl
theorem ent_125:enters Tryz.prog 125=true:=by kernel_rfl
theorem ent_127:enters Tryz.prog 127=true:=by kernel_rfl
instance:CSc Tryz.prog 198:=⟨by kernel_rfl⟩
theorem sz_198:(Tryz.prog.info? 198).map (·.size)=some 1:=by kernel_rfl
theorem zs_198:(Tryz.prog.info? 198).map (fun i=>(i.zero,i.size))=some (some (.pointer none),1):=by kernel_rfl
theorem ent_120:enters Tryz.prog 120=true:=by kernel_rfl
theorem ent_91:enters Tryz.prog 91=true:=by kernel_rfl
theorem fo_101_0:fieldOff Tryz.prog 101 0=some 0:=by kernel_rfl
instance:CFo Tryz.prog 101 0 0:=⟨fo_101_0⟩
theorem fo_101_3:fieldOff Tryz.prog 101 3=some 8:=by kernel_rfl
instance:CFo Tryz.prog 101 3 8:=⟨fo_101_3⟩
theorem fo_101_4:fieldOff Tryz.prog 101 4=some 9:=by kernel_rfl
instance:CFo Tryz.prog 101 4 9:=⟨fo_101_4⟩
theorem scal_25:isScal Tryz.prog 25=true:=by kernel_rfl
instance:CSc Tryz.prog 25:=⟨scal_25⟩
theorem built_101: ∀vs,Tryz.prog.built 101 vs=Instr.fill (([(0,1),(1,6),(7,1),(8,1),(9,1)]:List (Nat×Nat)).toArray[·]?) ([.pointer none, .int .i64 0, .int .i64 0, .int .i64 0, .bool false, .int .i64 0, .slice none 0 0, .pointer none, .int .i64 0, .int .i64 0]:List Value).toArray vs:=fun _=>by kernel_rfl
theorem ent_42:enters Tryz.prog 42=true:=by kernel_rfl
theorem ent_43:enters Tryz.prog 43=true:=by kernel_rfl
theorem ent_44:enters Tryz.prog 44=true:=by kernel_rfl
theorem ent_45:enters Tryz.prog 45=true:=by kernel_rfl
theorem ent_85:enters Tryz.prog 85=true:=by kernel_rfl
theorem ent_87:enters Tryz.prog 87=true:=by kernel_rfl
theorem ent_90:enters Tryz.prog 90=true:=by kernel_rfl
theorem ent_93:enters Tryz.prog 93=true:=by kernel_rfl
theorem ent_92:enters Tryz.prog 92=true:=by kernel_rfl
theorem ent_94:enters Tryz.prog 94=true:=by kernel_rfl
theorem ent_95:enters Tryz.prog 95=true:=by kernel_rfl
theorem ent_96:enters Tryz.prog 96=true:=by kernel_rfl
theorem ent_97:enters Tryz.prog 97=true:=by kernel_rfl
theorem ent_98:enters Tryz.prog 98=true:=by kernel_rfl
theorem ent_158:enters Tryz.prog 158=true:=by kernel_rfl
theorem ent_157:enters Tryz.prog 157=true:=by kernel_rfl
theorem built_181: ∀vs,Tryz.prog.built 181 vs=Instr.fill (([(0,1),(1,1),(2,1),(3,1),(4,1),(5,1),(6,1),(7,1),(8,1),(9,1),(10,1),(11,1),(12,1),(13,1)]:List (Nat×Nat)).toArray[·]?) ([.int .i64 0, .int .i64 0, .pointer none, .slice none 0 0, .slice none 0 0, .int .i64 0, .slice none 0 0, .int .i64 0, .map none, .slice none 0 0, .int .i64 0, .slice none 0 0, .int .i64 0, .bool false]:List Value).toArray vs:=fun _=>by kernel_rfl
theorem ent_106:enters Tryz.prog 106=true:=by kernel_rfl
theorem ent_147:enters Tryz.prog 147=true:=by kernel_rfl
theorem ent_148:enters Tryz.prog 148=true:=by kernel_rfl
instance:CFo Tryz.prog 181 2 2:=⟨by kernel_rfl⟩
theorem fo_181_3:fieldOff Tryz.prog 181 3=some 3:=by kernel_rfl
instance:CFo Tryz.prog 181 3 3:=⟨fo_181_3⟩
theorem fo_181_4:fieldOff Tryz.prog 181 4=some 4:=by kernel_rfl
instance:CFo Tryz.prog 181 4 4:=⟨fo_181_4⟩
instance:CSc Tryz.prog 178:=⟨by kernel_rfl⟩
theorem sz_178:(Tryz.prog.info? 178).map (·.size)=some 1:=by kernel_rfl
theorem zs_182:(Tryz.prog.info? 182).map (fun i=>(i.zero,i.size))=some (some (.map none),1):=by kernel_rfl
theorem zsb_182:(Tryz.prog.info? 182).map (fun i=>(i.zero,i.size,i.bytes))=some (some (.map none),1,8):=by kernel_rfl
theorem ent_19:enters Tryz.prog 19=true:=by kernel_rfl
theorem ent_24:enters Tryz.prog 24=true:=by kernel_rfl
theorem ent_25:enters Tryz.prog 25=true:=by kernel_rfl
theorem ent_26:enters Tryz.prog 26=true:=by kernel_rfl
theorem ent_27:enters Tryz.prog 27=true:=by kernel_rfl
theorem ent_28:enters Tryz.prog 28=true:=by kernel_rfl
theorem ent_29:enters Tryz.prog 29=true:=by kernel_rfl
theorem ent_30:enters Tryz.prog 30=true:=by kernel_rfl
theorem ent_31:enters Tryz.prog 31=true:=by kernel_rfl
theorem ent_32:enters Tryz.prog 32=true:=by kernel_rfl
instance:CIf Tryz.prog 37:=⟨_,Tryz.underlying37⟩
end Go.Proofs.YtefaghnlmmgpcaaGreatDoor.B
