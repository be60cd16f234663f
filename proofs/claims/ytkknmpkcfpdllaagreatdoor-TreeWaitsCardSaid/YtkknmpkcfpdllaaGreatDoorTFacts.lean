/- What functions of the program compute, each function once: steps over the model, and the plain law of it. -/
import Derived.Test.YtkknmpkcfpdllaaGreatDoorSLogB
import Derived.Test.YtkknmpkcfpdllaaGreatDoorProg
namespace Go.Proofs.YtkknmpkcfpdllaaGreatDoor.B
open Go Go.Proofs
set_option maxRecDepth 20000
set_option maxHeartbeats 8000000
theorem agg_65:aggSize Tryz.prog 65=some 5:=by kernel_rfl
instance:CAg Tryz.prog 65 5:=⟨agg_65⟩
theorem agg_124:aggSize Tryz.prog 124=some 10:=by kernel_rfl
theorem built_130: ∀vs,Tryz.prog.built 130 vs=Instr.fill (([(0,1),(1,1),(2,1)]:List (Nat×Nat)).toArray[·]?) ([.pointer none, .map none, .slice none 0 0]:List Value).toArray vs:=fun _=>by kernel_rfl
theorem built_65: ∀vs,Tryz.prog.built 65 vs=Instr.fill (([(0,1),(1,1),(2,1),(3,1),(4,1)]:List (Nat×Nat)).toArray[·]?) ([.int .i64 0, .int .i64 0, .int .i64 0, .int .i64 0, .slice none 0 0]:List Value).toArray vs:=fun _=>by kernel_rfl
theorem ent_126:enters Tryz.prog 126=true:=by kernel_rfl
theorem ent_35:enters Tryz.prog 35=true:=by kernel_rfl
theorem ent_76:enters Tryz.prog 76=true:=by kernel_rfl
theorem ent_119:enters Tryz.prog 119=true:=by kernel_rfl
theorem ent_115:enters Tryz.prog 115=true:=by kernel_rfl
theorem ent_116:enters Tryz.prog 116=true:=by kernel_rfl
instance:CFo Tryz.prog 130 0 0:=⟨by kernel_rfl⟩
theorem fo_130_1:fieldOff Tryz.prog 130 1=some 1:=by kernel_rfl
instance:CFo Tryz.prog 130 1 1:=⟨fo_130_1⟩
theorem fo_130_2:fieldOff Tryz.prog 130 2=some 2:=by kernel_rfl
instance:CFo Tryz.prog 130 2 2:=⟨fo_130_2⟩
instance:CFo Tryz.prog 65 1 1:=⟨by kernel_rfl⟩
theorem fo_124_0:fieldOff Tryz.prog 124 0=some 0:=by kernel_rfl
instance:CFo Tryz.prog 124 0 0:=⟨fo_124_0⟩
theorem fo_124_4:fieldOff Tryz.prog 124 4=some 4:=by kernel_rfl
instance:CFo Tryz.prog 124 4 4:=⟨fo_124_4⟩
theorem fo_124_5:fieldOff Tryz.prog 124 5=some 5:=by kernel_rfl
instance:CFo Tryz.prog 124 5 5:=⟨fo_124_5⟩
theorem ik_119:intKeyed Tryz.prog 119=some 65:=by kernel_rfl
theorem scal_119:isScal Tryz.prog 119=true:=by kernel_rfl
instance:CSc Tryz.prog 119:=⟨scal_119⟩
theorem scal_2:isScal Tryz.prog 2=true:=by kernel_rfl
instance:CSc Tryz.prog 2:=⟨scal_2⟩
theorem scal_38:isScal Tryz.prog 38=true:=by kernel_rfl
theorem scal_3:isScal Tryz.prog 3=true:=by kernel_rfl
instance:CSc Tryz.prog 3:=⟨scal_3⟩
instance:CSc Tryz.prog 26:=⟨by kernel_rfl⟩
theorem scal_31:isScal Tryz.prog 31=true:=by kernel_rfl
instance:CSc Tryz.prog 31:=⟨scal_31⟩
theorem scal_29:isScal Tryz.prog 29=true:=by kernel_rfl
instance:CSc Tryz.prog 29:=⟨scal_29⟩
theorem sz_119:(Tryz.prog.info? 119).map (·.size)=some 1:=by kernel_rfl
theorem sz_2:(Tryz.prog.info? 2).map (·.size)=some 1:=by kernel_rfl
theorem sz_3:(Tryz.prog.info? 3).map (·.size)=some 1:=by kernel_rfl
theorem sz_29:(Tryz.prog.info? 29).map (·.size)=some 1:=by kernel_rfl
theorem sz_65:(Tryz.prog.info? 65).map (·.size)=some 5:=by kernel_rfl
theorem sz_124:(Tryz.prog.info? 124).map (·.size)=some 10:=by kernel_rfl
theorem zer_119:(Tryz.prog.info? 119).bind (·.zero)=some (.map none):=by kernel_rfl
theorem zer_3:(Tryz.prog.info? 3).bind (·.zero)=some (.int .i64 0):=by kernel_rfl
theorem zer_65:(Tryz.prog.info? 65).bind (·.zero)=some (.agg #[.int .i64 0, .int .i64 0, .int .i64 0, .int .i64 0, .slice none 0 0]):=by kernel_rfl
theorem zer_124:(Tryz.prog.info? 124).bind (·.zero)=some (.agg #[.int .i64 0, .int .i64 0, .int .i64 0, .int .i64 0, .int .i64 0, .int .i64 0, .int .i64 0, .slice none 0 0, .slice none 0 0, .bool false]):=by kernel_rfl
theorem zs_124:(Tryz.prog.info? 124).map (fun i=>(i.zero,i.size))=some (some (.agg #[.int .i64 0, .int .i64 0, .int .i64 0, .int .i64 0, .int .i64 0, .int .i64 0, .int .i64 0, .slice none 0 0, .slice none 0 0, .bool false]),10):=by kernel_rfl
theorem zsb_124:(Tryz.prog.info? 124).map (fun i=>(i.zero,i.size,i.bytes))=some (some (.agg #[.int .i64 0, .int .i64 0, .int .i64 0, .int .i64 0, .int .i64 0, .int .i64 0, .int .i64 0, .slice none 0 0, .slice none 0 0, .bool false]),10,112):=by kernel_rfl
theorem agg_115:aggSize Tryz.prog 115=some 2:=by kernel_rfl
theorem ent_121:enters Tryz.prog 121=true:=by kernel_rfl
theorem fo_115_0:fieldOff Tryz.prog 115 0=some 0:=by kernel_rfl
instance:CFo Tryz.prog 115 0 0:=⟨fo_115_0⟩
theorem fo_65_2:fieldOff Tryz.prog 65 2=some 2:=by kernel_rfl
instance:CFo Tryz.prog 65 2 2:=⟨fo_65_2⟩
theorem fo_65_3:fieldOff Tryz.prog 65 3=some 3:=by kernel_rfl
instance:CFo Tryz.prog 65 3 3:=⟨fo_65_3⟩
theorem fo_65_4:fieldOff Tryz.prog 65 4=some 4:=by kernel_rfl
instance:CFo Tryz.prog 65 4 4:=⟨fo_65_4⟩
theorem scal_33:isScal Tryz.prog 33=true:=by kernel_rfl
instance:CSc Tryz.prog 33:=⟨scal_33⟩
theorem scal_57:isScal Tryz.prog 57=true:=by kernel_rfl
instance:CSc Tryz.prog 57:=⟨scal_57⟩
theorem sz_115:(Tryz.prog.info? 115).map (·.size)=some 2:=by kernel_rfl
theorem zer_115:(Tryz.prog.info? 115).bind (·.zero)=some (.agg #[.slice none 0 0, .slice none 0 0]):=by kernel_rfl
theorem ent_183:enters Tryz.prog 183=true:=by kernel_rfl
theorem ent_17:enters Tryz.prog 17=true:=by kernel_rfl
theorem ent_64:enters Tryz.prog 64=true:=by kernel_rfl
theorem ik_120:intKeyed Tryz.prog 120=some 4:=by kernel_rfl
theorem scal_120:isScal Tryz.prog 120=true:=by kernel_rfl
instance:CSc Tryz.prog 120:=⟨scal_120⟩
theorem zs_65:(Tryz.prog.info? 65).map (fun i=>(i.zero,i.size))=some (some (.agg #[.int .i64 0, .int .i64 0, .int .i64 0, .int .i64 0, .slice none 0 0]),5):=by kernel_rfl
theorem zsb_65:(Tryz.prog.info? 65).map (fun i=>(i.zero,i.size,i.bytes))=some (some (.agg #[.int .i64 0, .int .i64 0, .int .i64 0, .int .i64 0, .slice none 0 0]),5,56):=by kernel_rfl
theorem fo_65_0:fieldOff Tryz.prog 65 0=some 0:=by kernel_rfl
instance:CFo Tryz.prog 65 0 0:=⟨fo_65_0⟩
theorem scal_4:isScal Tryz.prog 4=true:=by kernel_rfl
instance:CSc Tryz.prog 4:=⟨scal_4⟩
theorem sz_38:(Tryz.prog.info? 38).map (·.size)=some 1:=by kernel_rfl
theorem ent_40:enters Tryz.prog 40=true:=by kernel_rfl
theorem ent_21:enters Tryz.prog 21=true:=by kernel_rfl
theorem ent_94:enters Tryz.prog 94=true:=by kernel_rfl
theorem ent_42:enters Tryz.prog 42=true:=by kernel_rfl
theorem ent_16:enters Tryz.prog 16=true:=by kernel_rfl
theorem ent_14:enters Tryz.prog 14=true:=by kernel_rfl
theorem scal_5:isScal Tryz.prog 5=true:=by kernel_rfl
theorem sz_5:(Tryz.prog.info? 5).map (·.size)=some 1:=by kernel_rfl
theorem zs_5:(Tryz.prog.info? 5).map (fun i=>(i.zero,i.size))=some (some (.int .u8 0),1):=by kernel_rfl
theorem sz_33:(Tryz.prog.info? 33).map (·.size)=some 1:=by kernel_rfl
theorem built_124: ∀vs,Tryz.prog.built 124 vs=Instr.fill (([(0,1),(1,1),(2,1),(3,1),(4,1),(5,1),(6,1),(7,1),(8,1),(9,1)]:List (Nat×Nat)).toArray[·]?) ([.int .i64 0, .int .i64 0, .int .i64 0, .int .i64 0, .int .i64 0, .int .i64 0, .int .i64 0, .slice none 0 0, .slice none 0 0, .bool false]:List Value).toArray vs:=fun _=>by kernel_rfl
theorem ent_150:enters Tryz.prog 150=true:=by kernel_rfl
theorem ent_151:enters Tryz.prog 151=true:=by kernel_rfl
theorem ent_152:enters Tryz.prog 152=true:=by kernel_rfl
theorem ent_37:enters Tryz.prog 37=true:=by kernel_rfl
theorem ent_114:enters Tryz.prog 114=true:=by kernel_rfl
theorem ent_63:enters Tryz.prog 63=true:=by kernel_rfl
theorem ent_93:enters Tryz.prog 93=true:=by kernel_rfl
theorem ent_62:enters Tryz.prog 62=true:=by kernel_rfl
theorem ent_97:enters Tryz.prog 97=true:=by kernel_rfl
theorem ent_65:enters Tryz.prog 65=true:=by kernel_rfl
theorem fo_124_1:fieldOff Tryz.prog 124 1=some 1:=by kernel_rfl
instance:CFo Tryz.prog 124 1 1:=⟨fo_124_1⟩
theorem fo_124_2:fieldOff Tryz.prog 124 2=some 2:=by kernel_rfl
instance:CFo Tryz.prog 124 2 2:=⟨fo_124_2⟩
theorem fo_124_3:fieldOff Tryz.prog 124 3=some 3:=by kernel_rfl
instance:CFo Tryz.prog 124 3 3:=⟨fo_124_3⟩
theorem fo_124_6:fieldOff Tryz.prog 124 6=some 6:=by kernel_rfl
instance:CFo Tryz.prog 124 6 6:=⟨fo_124_6⟩
theorem fo_124_7:fieldOff Tryz.prog 124 7=some 7:=by kernel_rfl
instance:CFo Tryz.prog 124 7 7:=⟨fo_124_7⟩
theorem fo_124_8:fieldOff Tryz.prog 124 8=some 8:=by kernel_rfl
instance:CFo Tryz.prog 124 8 8:=⟨fo_124_8⟩
theorem fo_124_9:fieldOff Tryz.prog 124 9=some 9:=by kernel_rfl
instance:CFo Tryz.prog 124 9 9:=⟨fo_124_9⟩
theorem built_115: ∀vs,Tryz.prog.built 115 vs=Instr.fill (([(0,1),(1,1)]:List (Nat×Nat)).toArray[·]?) ([.slice none 0 0, .slice none 0 0]:List Value).toArray vs:=fun _=>by kernel_rfl
theorem fo_115_1:fieldOff Tryz.prog 115 1=some 1:=by kernel_rfl
instance:CFo Tryz.prog 115 1 1:=⟨fo_115_1⟩
theorem ent_82:enters Tryz.prog 82=true:=by kernel_rfl
theorem ent_24:enters Tryz.prog 24=true:=by kernel_rfl
theorem zs_115:(Tryz.prog.info? 115).map (fun i=>(i.zero,i.size))=some (some (.agg #[.slice none 0 0, .slice none 0 0]),2):=by kernel_rfl
theorem zsb_115:(Tryz.prog.info? 115).map (fun i=>(i.zero,i.size,i.bytes))=some (some (.agg #[.slice none 0 0, .slice none 0 0]),2,48):=by kernel_rfl
theorem ent_113:enters Tryz.prog 113=true:=by kernel_rfl
theorem ent_117:enters Tryz.prog 117=true:=by kernel_rfl
theorem ent_170:enters Tryz.prog 170=true:=by kernel_rfl
theorem ent_71:enters Tryz.prog 71=true:=by kernel_rfl
theorem zsb_5:(Tryz.prog.info? 5).map (fun i=>(i.zero,i.size,i.bytes))=some (some (.int .u8 0),1,1):=by kernel_rfl
theorem ent_73:enters Tryz.prog 73=true:=by kernel_rfl
theorem sz_57:(Tryz.prog.info? 57).map (·.size)=some 1:=by kernel_rfl
theorem ent_168:enters Tryz.prog 168=true:=by kernel_rfl
theorem ent_169:enters Tryz.prog 169=true:=by kernel_rfl
theorem ent_91:enters Tryz.prog 91=true:=by kernel_rfl
theorem fo_76_1:fieldOff Tryz.prog 76 1=some 1:=by kernel_rfl
theorem fo_76_2:fieldOff Tryz.prog 76 2=some 2:=by kernel_rfl
theorem sz_76:(Tryz.prog.info? 76).map (·.size)=some 3:=by kernel_rfl
theorem built_122: ∀vs,Tryz.prog.built 122 vs=Instr.fill (([(0,1),(1,1)]:List (Nat×Nat)).toArray[·]?) ([.map none, .map none]:List Value).toArray vs:=fun _=>by kernel_rfl
theorem ent_159:enters Tryz.prog 159=true:=by kernel_rfl
theorem fo_122_0:fieldOff Tryz.prog 122 0=some 0:=by kernel_rfl
instance:CFo Tryz.prog 122 0 0:=⟨fo_122_0⟩
theorem ent_104:enters Tryz.prog 104=true:=by kernel_rfl
theorem fo_122_1:fieldOff Tryz.prog 122 1=some 1:=by kernel_rfl
instance:CFo Tryz.prog 122 1 1:=⟨fo_122_1⟩
theorem ent_92:enters Tryz.prog 92=true:=by kernel_rfl
theorem ent_98:enters Tryz.prog 98=true:=by kernel_rfl
theorem ent_28:enters Tryz.prog 28=true:=by kernel_rfl
theorem ent_34:enters Tryz.prog 34=true:=by kernel_rfl
theorem ent_36:enters Tryz.prog 36=true:=by kernel_rfl
theorem agg_154:aggSize Tryz.prog 154=some 3:=by kernel_rfl
theorem built_154: ∀vs,Tryz.prog.built 154 vs=Instr.fill (([(0,1),(1,1),(2,1)]:List (Nat×Nat)).toArray[·]?) ([.int .i64 0, .bool false, .int .i64 0]:List Value).toArray vs:=fun _=>by kernel_rfl
theorem ent_178:enters Tryz.prog 178=true:=by kernel_rfl
theorem ent_195:enters Tryz.prog 195=true:=by kernel_rfl
theorem ent_196:enters Tryz.prog 196=true:=by kernel_rfl
theorem ent_80:enters Tryz.prog 80=true:=by kernel_rfl
theorem ent_179:enters Tryz.prog 179=true:=by kernel_rfl
theorem ent_81:enters Tryz.prog 81=true:=by kernel_rfl
theorem ent_140:enters Tryz.prog 140=true:=by kernel_rfl
theorem ent_141:enters Tryz.prog 141=true:=by kernel_rfl
theorem ent_177:enters Tryz.prog 177=true:=by kernel_rfl
theorem fo_213_0:fieldOff Tryz.prog 213 0=some 0:=by kernel_rfl
theorem fo_213_1:fieldOff Tryz.prog 213 1=some 1:=by kernel_rfl
instance:CFo Tryz.prog 213 1 1:=⟨fo_213_1⟩
instance:CFo Tryz.prog 154 0 0:=⟨by kernel_rfl⟩
instance:CFo Tryz.prog 154 1 1:=⟨by kernel_rfl⟩
instance:CFo Tryz.prog 154 2 2:=⟨by kernel_rfl⟩
theorem ptr_316:ptrRow Tryz.prog 316=true:=by kernel_rfl
theorem sz_154:(Tryz.prog.info? 154).map (·.size)=some 3:=by kernel_rfl
theorem zer_211:(Tryz.prog.info? 211).bind (·.zero)=some (.pointer none):=by kernel_rfl
theorem zer_154:(Tryz.prog.info? 154).bind (·.zero)=some (.agg #[.int .i64 0, .bool false, .int .i64 0]):=by kernel_rfl
theorem zs_38:(Tryz.prog.info? 38).map (fun i=>(i.zero,i.size))=some (some (.nilIface),1):=by kernel_rfl
theorem ent_72:enters Tryz.prog 72=true:=by kernel_rfl
theorem ent_147:enters Tryz.prog 147=true:=by kernel_rfl
theorem ent_193:enters Tryz.prog 193=true:=by kernel_rfl
theorem ent_149:enters Tryz.prog 149=true:=by kernel_rfl
theorem ent_171:enters Tryz.prog 171=true:=by kernel_rfl
theorem ent_120:enters Tryz.prog 120=true:=by kernel_rfl
theorem ent_123:enters Tryz.prog 123=true:=by kernel_rfl
theorem ent_124:enters Tryz.prog 124=true:=by kernel_rfl
theorem ent_125:enters Tryz.prog 125=true:=by kernel_rfl
theorem ent_148:enters Tryz.prog 148=true:=by kernel_rfl
theorem zs_3:(Tryz.prog.info? 3).map (fun i=>(i.zero,i.size))=some (some (.int .i64 0),1):=by kernel_rfl
theorem zsb_3:(Tryz.prog.info? 3).map (fun i=>(i.zero,i.size,i.bytes))=some (some (.int .i64 0),1,8):=by kernel_rfl
theorem ent_122:enters Tryz.prog 122=true:=by kernel_rfl
theorem ent_69:enters Tryz.prog 69=true:=by kernel_rfl
theorem ent_70:enters Tryz.prog 70=true:=by kernel_rfl
theorem ent_74:enters Tryz.prog 74=true:=by kernel_rfl
theorem ent_75:enters Tryz.prog 75=true:=by kernel_rfl
theorem ent_96:enters Tryz.prog 96=true:=by kernel_rfl
theorem ent_95:enters Tryz.prog 95=true:=by kernel_rfl
theorem ent_38:enters Tryz.prog 38=true:=by kernel_rfl
theorem ent_39:enters Tryz.prog 39=true:=by kernel_rfl
theorem ent_41:enters Tryz.prog 41=true:=by kernel_rfl
theorem ent_43:enters Tryz.prog 43=true:=by kernel_rfl
theorem fo_76_0:fieldOff Tryz.prog 76 0=some 0:=by kernel_rfl
theorem ent_144:enters Tryz.prog 144=true:=by kernel_rfl
theorem ent_145:enters Tryz.prog 145=true:=by kernel_rfl
theorem ent_146:enters Tryz.prog 146=true:=by kernel_rfl
theorem ent_180:enters Tryz.prog 180=true:=by kernel_rfl
theorem ent_181:enters Tryz.prog 181=true:=by kernel_rfl
theorem ent_182:enters Tryz.prog 182=true:=by kernel_rfl
theorem ent_197:enters Tryz.prog 197=true:=by kernel_rfl
theorem ent_207:enters Tryz.prog 207=true:=by kernel_rfl
theorem ent_89:enters Tryz.prog 89=true:=by kernel_rfl
theorem ent_90:enters Tryz.prog 90=true:=by kernel_rfl
instance:CSc Tryz.prog 62:=⟨by kernel_rfl⟩
theorem sz_62:(Tryz.prog.info? 62).map (·.size)=some 1:=by kernel_rfl
instance:CIf Tryz.prog 38:=⟨_,Tryz.underlying38⟩
end Go.Proofs.YtkknmpkcfpdllaaGreatDoor.B
