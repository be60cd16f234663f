/- What functions of the program compute, each function once: steps over the model, and the plain law of it. -/
import Derived.Test.YtkknmpkcfpdllaaGreatDoorSLogB
import Derived.Test.YtkknmpkcfpdllaaGreatDoorProg
namespace Go.Proofs.YtkknmpkcfpdllaaGreatDoor.B
open Go Go.Proofs
set_option maxRecDepth 20000
set_option maxHeartbeats 8000000
theorem agg_154:aggSize Tryz.prog 154=some 3:=by kernel_rfl
theorem built_154: ∀vs,Tryz.prog.built 154 vs=Instr.fill (([(0,1),(1,1),(2,1)]:List (Nat×Nat)).toArray[·]?) ([.int .i64 0, .bool false, .int .i64 0]:List Value).toArray vs:=fun _=>by kernel_rfl
theorem ent_178:enters Tryz.prog 178=true:=by kernel_rfl
theorem ent_195:enters Tryz.prog 195=true:=by kernel_rfl
theorem ent_196:enters Tryz.prog 196=true:=by kernel_rfl
theorem ent_80:enters Tryz.prog 80=true:=by kernel_rfl
theorem ent_179:enters Tryz.prog 179=true:=by kernel_rfl
theorem ent_81:enters Tryz.prog 81=true:=by kernel_rfl
theorem ent_140:enters Tryz.prog 140=true:=by kernel_rfl
theorem ent_141:enters Tryz.prog 141=true:=by kernel_rfl
theorem ent_177:enters Tryz.prog 177=true:=by kernel_rfl
theorem fo_213_0:fieldOff Tryz.prog 213 0=some 0:=by kernel_rfl
theorem fo_213_1:fieldOff Tryz.prog 213 1=some 1:=by kernel_rfl
instance:CFo Tryz.prog 213 1 1:=⟨fo_213_1⟩
instance:CFo Tryz.prog 154 0 0:=⟨by kernel_rfl⟩
instance:CFo Tryz.prog 154 1 1:=⟨by kernel_rfl⟩
instance:CFo Tryz.prog 154 2 2:=⟨by kernel_rfl⟩
theorem ptr_316:ptrRow Tryz.prog 316=true:=by kernel_rfl
theorem scal_38:isScal Tryz.prog 38=true:=by kernel_rfl
theorem scal_3:isScal Tryz.prog 3=true:=by kernel_rfl
instance:CSc Tryz.prog 3:=⟨scal_3⟩
theorem scal_4:isScal Tryz.prog 4=true:=by kernel_rfl
instance:CSc Tryz.prog 4:=⟨scal_4⟩
theorem sz_38:(Tryz.prog.info? 38).map (·.size)=some 1:=by kernel_rfl
theorem sz_154:(Tryz.prog.info? 154).map (·.size)=some 3:=by kernel_rfl
theorem zer_211:(Tryz.prog.info? 211).bind (·.zero)=some (.pointer none):=by kernel_rfl
theorem zer_154:(Tryz.prog.info? 154).bind (·.zero)=some (.agg #[.int .i64 0, .bool false, .int .i64 0]):=by kernel_rfl
theorem zs_38:(Tryz.prog.info? 38).map (fun i=>(i.zero,i.size))=some (some (.nilIface),1):=by kernel_rfl
theorem built_175: ∀vs,Tryz.prog.built 175 vs=Instr.fill (([(0,1),(1,1),(2,1),(3,1),(4,1)]:List (Nat×Nat)).toArray[·]?) ([.int .i64 0, .pointer none, .int .i64 0, .map none, .int .i64 0]:List Value).toArray vs:=fun _=>by kernel_rfl
theorem built_179: ∀vs,Tryz.prog.built 179 vs=Instr.fill (([(0,1),(1,1)]:List (Nat×Nat)).toArray[·]?) ([.int .i64 0, .map none]:List Value).toArray vs:=fun _=>by kernel_rfl
theorem fo_175_0:fieldOff Tryz.prog 175 0=some 0:=by kernel_rfl
theorem fo_175_2:fieldOff Tryz.prog 175 2=some 2:=by kernel_rfl
instance:CFo Tryz.prog 175 2 2:=⟨fo_175_2⟩
theorem fo_175_3:fieldOff Tryz.prog 175 3=some 3:=by kernel_rfl
instance:CFo Tryz.prog 175 3 3:=⟨fo_175_3⟩
theorem fo_175_4:fieldOff Tryz.prog 175 4=some 4:=by kernel_rfl
instance:CFo Tryz.prog 175 4 4:=⟨fo_175_4⟩
theorem ik_173:intKeyed Tryz.prog 173=some 176:=by kernel_rfl
theorem scal_173:isScal Tryz.prog 173=true:=by kernel_rfl
instance:CSc Tryz.prog 173:=⟨scal_173⟩
theorem sz_3:(Tryz.prog.info? 3).map (·.size)=some 1:=by kernel_rfl
theorem agg_35:aggSize Tryz.prog 35=some 5:=by kernel_rfl
instance:CAg Tryz.prog 35 5:=⟨agg_35⟩
theorem built_35: ∀vs,Tryz.prog.built 35 vs=Instr.fill (([(0,1),(1,1),(2,1),(3,1),(4,1)]:List (Nat×Nat)).toArray[·]?) ([.int .i64 0, .int .i64 0, .slice none 0 0, .bool false, .slice none 0 0]:List Value).toArray vs:=fun _=>by kernel_rfl
theorem fo_179_1:fieldOff Tryz.prog 179 1=some 1:=by kernel_rfl
instance:CFo Tryz.prog 179 1 1:=⟨fo_179_1⟩
theorem scal_177:isScal Tryz.prog 177=true:=by kernel_rfl
instance:CSc Tryz.prog 177:=⟨scal_177⟩
theorem sz_35:(Tryz.prog.info? 35).map (·.size)=some 5:=by kernel_rfl
theorem zer_35:(Tryz.prog.info? 35).bind (·.zero)=some (.agg #[.int .i64 0, .int .i64 0, .slice none 0 0, .bool false, .slice none 0 0]):=by kernel_rfl
theorem fo_179_0:fieldOff Tryz.prog 179 0=some 0:=by kernel_rfl
instance:CFo Tryz.prog 179 0 0:=⟨fo_179_0⟩
theorem scal_176:isScal Tryz.prog 176=true:=by kernel_rfl
instance:CSc Tryz.prog 176:=⟨scal_176⟩
theorem scal_33:isScal Tryz.prog 33=true:=by kernel_rfl
instance:CSc Tryz.prog 33:=⟨scal_33⟩
theorem agg_93:aggSize Tryz.prog 93=some 3:=by kernel_rfl
theorem built_93: ∀vs,Tryz.prog.built 93 vs=Instr.fill (([(0,1),(1,1),(2,1)]:List (Nat×Nat)).toArray[·]?) ([.slice none 0 0, .int .i64 0, .nilFunc]:List Value).toArray vs:=fun _=>by kernel_rfl
theorem ent_19:enters Tryz.prog 19=true:=by kernel_rfl
theorem ent_20:enters Tryz.prog 20=true:=by kernel_rfl
theorem ent_21:enters Tryz.prog 21=true:=by kernel_rfl
theorem ent_24:enters Tryz.prog 24=true:=by kernel_rfl
instance:CFo Tryz.prog 35 0 0:=⟨by kernel_rfl⟩
instance:CFo Tryz.prog 35 1 1:=⟨by kernel_rfl⟩
theorem scal_2:isScal Tryz.prog 2=true:=by kernel_rfl
instance:CSc Tryz.prog 2:=⟨scal_2⟩
theorem sz_93:(Tryz.prog.info? 93).map (·.size)=some 3:=by kernel_rfl
theorem zer_93:(Tryz.prog.info? 93).bind (·.zero)=some (.agg #[.slice none 0 0, .int .i64 0, .nilFunc]):=by kernel_rfl
theorem ent_107:enters Tryz.prog 107=true:=by kernel_rfl
theorem ent_156:enters Tryz.prog 156=true:=by kernel_rfl
theorem ent_157:enters Tryz.prog 157=true:=by kernel_rfl
theorem ent_17:enters Tryz.prog 17=true:=by kernel_rfl
theorem ent_23:enters Tryz.prog 23=true:=by kernel_rfl
theorem ent_73:enters Tryz.prog 73=true:=by kernel_rfl
theorem ent_94:enters Tryz.prog 94=true:=by kernel_rfl
theorem fo_175_1:fieldOff Tryz.prog 175 1=some 1:=by kernel_rfl
instance:CFo Tryz.prog 175 1 1:=⟨fo_175_1⟩
theorem scal_26:isScal Tryz.prog 26=true:=by kernel_rfl
instance:CSc Tryz.prog 26:=⟨scal_26⟩
theorem sz_176:(Tryz.prog.info? 176).map (·.size)=some 1:=by kernel_rfl
theorem sz_4:(Tryz.prog.info? 4).map (·.size)=some 1:=by kernel_rfl
theorem zer_176:(Tryz.prog.info? 176).bind (·.zero)=some (.pointer none):=by kernel_rfl
theorem zer_4:(Tryz.prog.info? 4).bind (·.zero)=some (.bool false):=by kernel_rfl
theorem ent_102:enters Tryz.prog 102=true:=by kernel_rfl
theorem ent_103:enters Tryz.prog 103=true:=by kernel_rfl
theorem ent_158:enters Tryz.prog 158=true:=by kernel_rfl
theorem ent_41:enters Tryz.prog 41=true:=by kernel_rfl
theorem agg_124:aggSize Tryz.prog 124=some 10:=by kernel_rfl
theorem ent_160:enters Tryz.prog 160=true:=by kernel_rfl
theorem ent_161:enters Tryz.prog 161=true:=by kernel_rfl
theorem ent_35:enters Tryz.prog 35=true:=by kernel_rfl
theorem ent_76:enters Tryz.prog 76=true:=by kernel_rfl
theorem fo_122_0:fieldOff Tryz.prog 122 0=some 0:=by kernel_rfl
instance:CFo Tryz.prog 122 0 0:=⟨fo_122_0⟩
theorem fo_124_0:fieldOff Tryz.prog 124 0=some 0:=by kernel_rfl
instance:CFo Tryz.prog 124 0 0:=⟨fo_124_0⟩
theorem fo_124_4:fieldOff Tryz.prog 124 4=some 4:=by kernel_rfl
instance:CFo Tryz.prog 124 4 4:=⟨fo_124_4⟩
theorem fo_124_5:fieldOff Tryz.prog 124 5=some 5:=by kernel_rfl
instance:CFo Tryz.prog 124 5 5:=⟨fo_124_5⟩
theorem fo_124_6:fieldOff Tryz.prog 124 6=some 6:=by kernel_rfl
instance:CFo Tryz.prog 124 6 6:=⟨fo_124_6⟩
theorem fo_124_7:fieldOff Tryz.prog 124 7=some 7:=by kernel_rfl
instance:CFo Tryz.prog 124 7 7:=⟨fo_124_7⟩
theorem fo_124_8:fieldOff Tryz.prog 124 8=some 8:=by kernel_rfl
instance:CFo Tryz.prog 124 8 8:=⟨fo_124_8⟩
instance:CFo Tryz.prog 65 1 1:=⟨by kernel_rfl⟩
theorem fo_93_0:fieldOff Tryz.prog 93 0=some 0:=by kernel_rfl
instance:CFo Tryz.prog 93 0 0:=⟨fo_93_0⟩
theorem ik_119:intKeyed Tryz.prog 119=some 65:=by kernel_rfl
theorem ik_120:intKeyed Tryz.prog 120=some 4:=by kernel_rfl
theorem scal_119:isScal Tryz.prog 119=true:=by kernel_rfl
instance:CSc Tryz.prog 119:=⟨scal_119⟩
theorem scal_29:isScal Tryz.prog 29=true:=by kernel_rfl
instance:CSc Tryz.prog 29:=⟨scal_29⟩
theorem sz_124:(Tryz.prog.info? 124).map (·.size)=some 10:=by kernel_rfl
theorem sz_65:(Tryz.prog.info? 65).map (·.size)=some 5:=by kernel_rfl
theorem zer_124:(Tryz.prog.info? 124).bind (·.zero)=some (.agg #[.int .i64 0, .int .i64 0, .int .i64 0, .int .i64 0, .int .i64 0, .int .i64 0, .int .i64 0, .slice none 0 0, .slice none 0 0, .bool false]):=by kernel_rfl
theorem zer_65:(Tryz.prog.info? 65).bind (·.zero)=some (.agg #[.int .i64 0, .int .i64 0, .int .i64 0, .int .i64 0, .slice none 0 0]):=by kernel_rfl
theorem ent_104:enters Tryz.prog 104=true:=by kernel_rfl
theorem ent_105:enters Tryz.prog 105=true:=by kernel_rfl
theorem ent_106:enters Tryz.prog 106=true:=by kernel_rfl
theorem ent_63:enters Tryz.prog 63=true:=by kernel_rfl
theorem fo_93_1:fieldOff Tryz.prog 93 1=some 1:=by kernel_rfl
theorem fo_93_2:fieldOff Tryz.prog 93 2=some 2:=by kernel_rfl
instance:CFo Tryz.prog 93 2 2:=⟨fo_93_2⟩
theorem scal_1:isScal Tryz.prog 1=true:=by kernel_rfl
instance:CSc Tryz.prog 1:=⟨scal_1⟩
theorem ent_14:enters Tryz.prog 14=true:=by kernel_rfl
theorem ent_16:enters Tryz.prog 16=true:=by kernel_rfl
theorem ent_50:enters Tryz.prog 50=true:=by kernel_rfl
theorem ent_62:enters Tryz.prog 62=true:=by kernel_rfl
theorem ent_99:enters Tryz.prog 99=true:=by kernel_rfl
theorem sz_2:(Tryz.prog.info? 2).map (·.size)=some 1:=by kernel_rfl
theorem zs_124:(Tryz.prog.info? 124).map (fun i=>(i.zero,i.size))=some (some (.agg #[.int .i64 0, .int .i64 0, .int .i64 0, .int .i64 0, .int .i64 0, .int .i64 0, .int .i64 0, .slice none 0 0, .slice none 0 0, .bool false]),10):=by kernel_rfl
theorem zsb_124:(Tryz.prog.info? 124).map (fun i=>(i.zero,i.size,i.bytes))=some (some (.agg #[.int .i64 0, .int .i64 0, .int .i64 0, .int .i64 0, .int .i64 0, .int .i64 0, .int .i64 0, .slice none 0 0, .slice none 0 0, .bool false]),10,112):=by kernel_rfl
theorem sz_33:(Tryz.prog.info? 33).map (·.size)=some 1:=by kernel_rfl
theorem agg_115:aggSize Tryz.prog 115=some 2:=by kernel_rfl
theorem built_115: ∀vs,Tryz.prog.built 115 vs=Instr.fill (([(0,1),(1,1)]:List (Nat×Nat)).toArray[·]?) ([.slice none 0 0, .slice none 0 0]:List Value).toArray vs:=fun _=>by kernel_rfl
theorem ent_114:enters Tryz.prog 114=true:=by kernel_rfl
theorem fo_115_0:fieldOff Tryz.prog 115 0=some 0:=by kernel_rfl
instance:CFo Tryz.prog 115 0 0:=⟨fo_115_0⟩
theorem fo_115_1:fieldOff Tryz.prog 115 1=some 1:=by kernel_rfl
theorem sz_115:(Tryz.prog.info? 115).map (·.size)=some 2:=by kernel_rfl
theorem zer_115:(Tryz.prog.info? 115).bind (·.zero)=some (.agg #[.slice none 0 0, .slice none 0 0]):=by kernel_rfl
theorem agg_65:aggSize Tryz.prog 65=some 5:=by kernel_rfl
instance:CAg Tryz.prog 65 5:=⟨agg_65⟩
theorem built_65: ∀vs,Tryz.prog.built 65 vs=Instr.fill (([(0,1),(1,1),(2,1),(3,1),(4,1)]:List (Nat×Nat)).toArray[·]?) ([.int .i64 0, .int .i64 0, .int .i64 0, .int .i64 0, .slice none 0 0]:List Value).toArray vs:=fun _=>by kernel_rfl
theorem ent_113:enters Tryz.prog 113=true:=by kernel_rfl
theorem fo_65_4:fieldOff Tryz.prog 65 4=some 4:=by kernel_rfl
instance:CFo Tryz.prog 65 4 4:=⟨fo_65_4⟩
theorem scal_57:isScal Tryz.prog 57=true:=by kernel_rfl
instance:CSc Tryz.prog 57:=⟨scal_57⟩
theorem built_122: ∀vs,Tryz.prog.built 122 vs=Instr.fill (([(0,1),(1,1)]:List (Nat×Nat)).toArray[·]?) ([.map none, .map none]:List Value).toArray vs:=fun _=>by kernel_rfl
theorem ent_126:enters Tryz.prog 126=true:=by kernel_rfl
theorem ent_159:enters Tryz.prog 159=true:=by kernel_rfl
theorem fo_124_1:fieldOff Tryz.prog 124 1=some 1:=by kernel_rfl
instance:CFo Tryz.prog 124 1 1:=⟨fo_124_1⟩
theorem fo_124_2:fieldOff Tryz.prog 124 2=some 2:=by kernel_rfl
instance:CFo Tryz.prog 124 2 2:=⟨fo_124_2⟩
theorem fo_124_3:fieldOff Tryz.prog 124 3=some 3:=by kernel_rfl
instance:CFo Tryz.prog 124 3 3:=⟨fo_124_3⟩
theorem ent_174:enters Tryz.prog 174=true:=by kernel_rfl
theorem ent_86:enters Tryz.prog 86=true:=by kernel_rfl
theorem ent_127:enters Tryz.prog 127=true:=by kernel_rfl
theorem ent_142:enters Tryz.prog 142=true:=by kernel_rfl
theorem ent_131:enters Tryz.prog 131=true:=by kernel_rfl
theorem ent_143:enters Tryz.prog 143=true:=by kernel_rfl
theorem zer_38:(Tryz.prog.info? 38).bind (·.zero)=some (.nilIface):=by kernel_rfl
theorem zer_3:(Tryz.prog.info? 3).bind (·.zero)=some (.int .i64 0):=by kernel_rfl
theorem built_124: ∀vs,Tryz.prog.built 124 vs=Instr.fill (([(0,1),(1,1),(2,1),(3,1),(4,1),(5,1),(6,1),(7,1),(8,1),(9,1)]:List (Nat×Nat)).toArray[·]?) ([.int .i64 0, .int .i64 0, .int .i64 0, .int .i64 0, .int .i64 0, .int .i64 0, .int .i64 0, .slice none 0 0, .slice none 0 0, .bool false]:List Value).toArray vs:=fun _=>by kernel_rfl
theorem ent_170:enters Tryz.prog 170=true:=by kernel_rfl
theorem ent_72:enters Tryz.prog 72=true:=by kernel_rfl
theorem ent_119:enters Tryz.prog 119=true:=by kernel_rfl
theorem ent_65:enters Tryz.prog 65=true:=by kernel_rfl
theorem sz_5:(Tryz.prog.info? 5).map (·.size)=some 1:=by kernel_rfl
theorem ent_28:enters Tryz.prog 28=true:=by kernel_rfl
theorem ent_46:enters Tryz.prog 46=true:=by kernel_rfl
theorem ent_47:enters Tryz.prog 47=true:=by kernel_rfl
theorem ent_49:enters Tryz.prog 49=true:=by kernel_rfl
theorem ent_51:enters Tryz.prog 51=true:=by kernel_rfl
theorem ent_52:enters Tryz.prog 52=true:=by kernel_rfl
theorem zs_5:(Tryz.prog.info? 5).map (fun i=>(i.zero,i.size))=some (some (.int .u8 0),1):=by kernel_rfl
theorem ent_188:enters Tryz.prog 188=true:=by kernel_rfl
theorem ent_219:enters Tryz.prog 219=true:=by kernel_rfl
theorem ent_239:enters Tryz.prog 239=true:=by kernel_rfl
theorem scal_22:isScal Tryz.prog 22=true:=by kernel_rfl
instance:CSc Tryz.prog 22:=⟨scal_22⟩
theorem sz_22:(Tryz.prog.info? 22).map (·.size)=some 1:=by kernel_rfl
theorem zs_35:(Tryz.prog.info? 35).map (fun i=>(i.zero,i.size))=some (some (.agg #[.int .i64 0, .int .i64 0, .slice none 0 0, .bool false, .slice none 0 0]),5):=by kernel_rfl
theorem zsb_35:(Tryz.prog.info? 35).map (fun i=>(i.zero,i.size,i.bytes))=some (some (.agg #[.int .i64 0, .int .i64 0, .slice none 0 0, .bool false, .slice none 0 0]),5,72):=by kernel_rfl
theorem ent_182:enters Tryz.prog 182=true:=by kernel_rfl
theorem ent_240:enters Tryz.prog 240=true:=by kernel_rfl
theorem ent_247:enters Tryz.prog 247=true:=by kernel_rfl
theorem ent_186:enters Tryz.prog 186=true:=by kernel_rfl
theorem ent_187:enters Tryz.prog 187=true:=by kernel_rfl
theorem ent_217:enters Tryz.prog 217=true:=by kernel_rfl
theorem ent_218:enters Tryz.prog 218=true:=by kernel_rfl
theorem ent_110:enters Tryz.prog 110=true:=by kernel_rfl
theorem ent_164:enters Tryz.prog 164=true:=by kernel_rfl
theorem ent_189:enters Tryz.prog 189=true:=by kernel_rfl
theorem fo_35_2:fieldOff Tryz.prog 35 2=some 2:=by kernel_rfl
instance:CFo Tryz.prog 35 2 2:=⟨fo_35_2⟩
theorem fo_35_3:fieldOff Tryz.prog 35 3=some 3:=by kernel_rfl
instance:CFo Tryz.prog 35 3 3:=⟨fo_35_3⟩
theorem fo_35_4:fieldOff Tryz.prog 35 4=some 4:=by kernel_rfl
instance:CFo Tryz.prog 35 4 4:=⟨fo_35_4⟩
theorem scal_31:isScal Tryz.prog 31=true:=by kernel_rfl
instance:CSc Tryz.prog 31:=⟨scal_31⟩
theorem ent_162:enters Tryz.prog 162=true:=by kernel_rfl
theorem ent_163:enters Tryz.prog 163=true:=by kernel_rfl
theorem scal_84:isScal Tryz.prog 84=true:=by kernel_rfl
instance:CSc Tryz.prog 84:=⟨scal_84⟩
theorem built_103: ∀vs,Tryz.prog.built 103 vs=Instr.fill (([(0,1),(1,1),(2,1)]:List (Nat×Nat)).toArray[·]?) ([.pointer none, .pointer none, .int .i64 0]:List Value).toArray vs:=fun _=>by kernel_rfl
theorem ent_109:enters Tryz.prog 109=true:=by kernel_rfl
theorem ent_111:enters Tryz.prog 111=true:=by kernel_rfl
theorem fo_103_0:fieldOff Tryz.prog 103 0=some 0:=by kernel_rfl
instance:CFo Tryz.prog 103 0 0:=⟨fo_103_0⟩
theorem fo_103_2:fieldOff Tryz.prog 103 2=some 2:=by kernel_rfl
instance:CFo Tryz.prog 103 2 2:=⟨fo_103_2⟩
theorem ent_165:enters Tryz.prog 165=true:=by kernel_rfl
theorem ent_190:enters Tryz.prog 190=true:=by kernel_rfl
theorem ent_220:enters Tryz.prog 220=true:=by kernel_rfl
theorem ent_112:enters Tryz.prog 112=true:=by kernel_rfl
theorem sz_57:(Tryz.prog.info? 57).map (·.size)=some 1:=by kernel_rfl
theorem zer_57:(Tryz.prog.info? 57).bind (·.zero)=some (.slice none 0 0):=by kernel_rfl
theorem zs_115:(Tryz.prog.info? 115).map (fun i=>(i.zero,i.size))=some (some (.agg #[.slice none 0 0, .slice none 0 0]),2):=by kernel_rfl
theorem zsb_115:(Tryz.prog.info? 115).map (fun i=>(i.zero,i.size,i.bytes))=some (some (.agg #[.slice none 0 0, .slice none 0 0]),2,48):=by kernel_rfl
theorem zsb_5:(Tryz.prog.info? 5).map (fun i=>(i.zero,i.size,i.bytes))=some (some (.int .u8 0),1,1):=by kernel_rfl
theorem ent_66:enters Tryz.prog 66=true:=by kernel_rfl
theorem scal_5:isScal Tryz.prog 5=true:=by kernel_rfl
theorem fo_65_2:fieldOff Tryz.prog 65 2=some 2:=by kernel_rfl
instance:CFo Tryz.prog 65 2 2:=⟨fo_65_2⟩
theorem scal_120:isScal Tryz.prog 120=true:=by kernel_rfl
instance:CSc Tryz.prog 120:=⟨scal_120⟩
theorem zs_65:(Tryz.prog.info? 65).map (fun i=>(i.zero,i.size))=some (some (.agg #[.int .i64 0, .int .i64 0, .int .i64 0, .int .i64 0, .slice none 0 0]),5):=by kernel_rfl
theorem zsb_65:(Tryz.prog.info? 65).map (fun i=>(i.zero,i.size,i.bytes))=some (some (.agg #[.int .i64 0, .int .i64 0, .int .i64 0, .int .i64 0, .slice none 0 0]),5,56):=by kernel_rfl
theorem ent_118:enters Tryz.prog 118=true:=by kernel_rfl
theorem built_130: ∀vs,Tryz.prog.built 130 vs=Instr.fill (([(0,1),(1,1),(2,1)]:List (Nat×Nat)).toArray[·]?) ([.pointer none, .map none, .slice none 0 0]:List Value).toArray vs:=fun _=>by kernel_rfl
theorem ent_115:enters Tryz.prog 115=true:=by kernel_rfl
theorem ent_116:enters Tryz.prog 116=true:=by kernel_rfl
instance:CFo Tryz.prog 130 0 0:=⟨by kernel_rfl⟩
theorem fo_130_1:fieldOff Tryz.prog 130 1=some 1:=by kernel_rfl
instance:CFo Tryz.prog 130 1 1:=⟨fo_130_1⟩
theorem fo_130_2:fieldOff Tryz.prog 130 2=some 2:=by kernel_rfl
instance:CFo Tryz.prog 130 2 2:=⟨fo_130_2⟩
theorem sz_119:(Tryz.prog.info? 119).map (·.size)=some 1:=by kernel_rfl
theorem sz_29:(Tryz.prog.info? 29).map (·.size)=some 1:=by kernel_rfl
theorem zer_119:(Tryz.prog.info? 119).bind (·.zero)=some (.map none):=by kernel_rfl
theorem ent_121:enters Tryz.prog 121=true:=by kernel_rfl
theorem fo_65_3:fieldOff Tryz.prog 65 3=some 3:=by kernel_rfl
instance:CFo Tryz.prog 65 3 3:=⟨fo_65_3⟩
theorem ent_183:enters Tryz.prog 183=true:=by kernel_rfl
theorem ent_64:enters Tryz.prog 64=true:=by kernel_rfl
theorem fo_124_9:fieldOff Tryz.prog 124 9=some 9:=by kernel_rfl
theorem ent_117:enters Tryz.prog 117=true:=by kernel_rfl
theorem ent_71:enters Tryz.prog 71=true:=by kernel_rfl
theorem ent_168:enters Tryz.prog 168=true:=by kernel_rfl
theorem ent_169:enters Tryz.prog 169=true:=by kernel_rfl
theorem ent_91:enters Tryz.prog 91=true:=by kernel_rfl
theorem fo_65_0:fieldOff Tryz.prog 65 0=some 0:=by kernel_rfl
instance:CFo Tryz.prog 65 0 0:=⟨fo_65_0⟩
theorem fo_122_1:fieldOff Tryz.prog 122 1=some 1:=by kernel_rfl
instance:CFo Tryz.prog 122 1 1:=⟨fo_122_1⟩
theorem ent_147:enters Tryz.prog 147=true:=by kernel_rfl
theorem ent_193:enters Tryz.prog 193=true:=by kernel_rfl
theorem ent_149:enters Tryz.prog 149=true:=by kernel_rfl
theorem ent_171:enters Tryz.prog 171=true:=by kernel_rfl
theorem ent_120:enters Tryz.prog 120=true:=by kernel_rfl
theorem ent_123:enters Tryz.prog 123=true:=by kernel_rfl
theorem ent_124:enters Tryz.prog 124=true:=by kernel_rfl
theorem ent_125:enters Tryz.prog 125=true:=by kernel_rfl
theorem ent_148:enters Tryz.prog 148=true:=by kernel_rfl
theorem zs_3:(Tryz.prog.info? 3).map (fun i=>(i.zero,i.size))=some (some (.int .i64 0),1):=by kernel_rfl
theorem zsb_3:(Tryz.prog.info? 3).map (fun i=>(i.zero,i.size,i.bytes))=some (some (.int .i64 0),1,8):=by kernel_rfl
theorem ent_122:enters Tryz.prog 122=true:=by kernel_rfl
theorem ent_69:enters Tryz.prog 69=true:=by kernel_rfl
theorem ent_70:enters Tryz.prog 70=true:=by kernel_rfl
theorem ent_74:enters Tryz.prog 74=true:=by kernel_rfl
theorem ent_75:enters Tryz.prog 75=true:=by kernel_rfl
theorem ent_172:enters Tryz.prog 172=true:=by kernel_rfl
theorem ent_96:enters Tryz.prog 96=true:=by kernel_rfl
theorem ent_95:enters Tryz.prog 95=true:=by kernel_rfl
theorem ent_207:enters Tryz.prog 207=true:=by kernel_rfl
theorem ent_100:enters Tryz.prog 100=true:=by kernel_rfl
theorem ent_101:enters Tryz.prog 101=true:=by kernel_rfl
theorem ent_153:enters Tryz.prog 153=true:=by kernel_rfl
theorem ent_154:enters Tryz.prog 154=true:=by kernel_rfl
theorem ent_155:enters Tryz.prog 155=true:=by kernel_rfl
theorem ent_184:enters Tryz.prog 184=true:=by kernel_rfl
instance:CSc Tryz.prog 47:=⟨by kernel_rfl⟩
theorem sz_47:(Tryz.prog.info? 47).map (·.size)=some 1:=by kernel_rfl
theorem zs_2:(Tryz.prog.info? 2).map (fun i=>(i.zero,i.size))=some (some (.int .i64 0),1):=by kernel_rfl
theorem zsb_2:(Tryz.prog.info? 2).map (fun i=>(i.zero,i.size,i.bytes))=some (some (.int .i64 0),1,8):=by kernel_rfl
theorem ent_45:enters Tryz.prog 45=true:=by kernel_rfl
theorem ent_44:enters Tryz.prog 44=true:=by kernel_rfl
theorem ent_48:enters Tryz.prog 48=true:=by kernel_rfl
theorem ent_53:enters Tryz.prog 53=true:=by kernel_rfl
theorem ent_54:enters Tryz.prog 54=true:=by kernel_rfl
theorem ent_56:enters Tryz.prog 56=true:=by kernel_rfl
theorem ent_57:enters Tryz.prog 57=true:=by kernel_rfl
theorem ent_58:enters Tryz.prog 58=true:=by kernel_rfl
theorem ent_60:enters Tryz.prog 60=true:=by kernel_rfl
theorem ent_61:enters Tryz.prog 61=true:=by kernel_rfl
theorem ent_67:enters Tryz.prog 67=true:=by kernel_rfl
theorem ent_68:enters Tryz.prog 68=true:=by kernel_rfl
instance:CIf Tryz.prog 38:=⟨_,Tryz.underlying38⟩
end Go.Proofs.YtkknmpkcfpdllaaGreatDoor.B
