/- What functions of the program compute, each function once: steps over the model, and the plain law of it. -/
import Derived.Test.YtikllmoofngjnaaGreatDoorSLogB
import Derived.Test.YtikllmoofngjnaaGreatDoorProg
namespace Go.Proofs.YtikllmoofngjnaaGreatDoor.B
open Go Go.Proofs
set_option maxRecDepth 20000
set_option maxHeartbeats 8000000
theorem agg_42:aggSize Tryz.prog 42=some 10:=by kernel_rfl
theorem ent_185:enters Tryz.prog 185=true:=by kernel_rfl
theorem ent_186:enters Tryz.prog 186=true:=by kernel_rfl
theorem ent_187:enters Tryz.prog 187=true:=by kernel_rfl
theorem ent_188:enters Tryz.prog 188=true:=by kernel_rfl
theorem ent_189:enters Tryz.prog 189=true:=by kernel_rfl
theorem ent_209:enters Tryz.prog 209=true:=by kernel_rfl
theorem ent_215:enters Tryz.prog 215=true:=by kernel_rfl
theorem ent_51:enters Tryz.prog 51=true:=by kernel_rfl
theorem ent_67:enters Tryz.prog 67=true:=by kernel_rfl
theorem fo_42_0:fieldOff Tryz.prog 42 0=some 0:=by kernel_rfl
instance:CFo Tryz.prog 42 0 0:=⟨fo_42_0⟩
theorem fo_42_2:fieldOff Tryz.prog 42 2=some 2:=by kernel_rfl
instance:CFo Tryz.prog 42 2 2:=⟨fo_42_2⟩
theorem scal_2:isScal Tryz.prog 2=true:=by kernel_rfl
instance:CSc Tryz.prog 2:=⟨scal_2⟩
theorem scal_3:isScal Tryz.prog 3=true:=by kernel_rfl
instance:CSc Tryz.prog 3:=⟨scal_3⟩
theorem sz_3:(Tryz.prog.info? 3).map (·.size)=some 1:=by kernel_rfl
theorem sz_42:(Tryz.prog.info? 42).map (·.size)=some 10:=by kernel_rfl
theorem zer_42:(Tryz.prog.info? 42).bind (·.zero)=some (.agg #[.int .i64 0, .int .i64 0, .int .i64 0, .int .i64 0, .int .i64 0, .int .i64 0, .int .i64 0, .slice none 0 0, .slice none 0 0, .bool false]):=by kernel_rfl
theorem zs_3:(Tryz.prog.info? 3).map (fun i=>(i.zero,i.size))=some (some (.int .i64 0),1):=by kernel_rfl
theorem zs_42:(Tryz.prog.info? 42).map (fun i=>(i.zero,i.size))=some (some (.agg #[.int .i64 0, .int .i64 0, .int .i64 0, .int .i64 0, .int .i64 0, .int .i64 0, .int .i64 0, .slice none 0 0, .slice none 0 0, .bool false]),10):=by kernel_rfl
theorem zsb_42:(Tryz.prog.info? 42).map (fun i=>(i.zero,i.size,i.bytes))=some (some (.agg #[.int .i64 0, .int .i64 0, .int .i64 0, .int .i64 0, .int .i64 0, .int .i64 0, .int .i64 0, .slice none 0 0, .slice none 0 0, .bool false]),10,112):=by kernel_rfl
theorem ent_190:enters Tryz.prog 190=true:=by kernel_rfl
theorem ent_191:enters Tryz.prog 191=true:=by kernel_rfl
theorem scal_197:isScal Tryz.prog 197=true:=by kernel_rfl
theorem scal_30:isScal Tryz.prog 30=true:=by kernel_rfl
instance:CSc Tryz.prog 30:=⟨scal_30⟩
theorem sz_30:(Tryz.prog.info? 30).map (·.size)=some 1:=by kernel_rfl
theorem ent_137:enters Tryz.prog 137=true:=by kernel_rfl
theorem ent_84:enters Tryz.prog 84=true:=by kernel_rfl
theorem ent_95:enters Tryz.prog 95=true:=by kernel_rfl
theorem ent_96:enters Tryz.prog 96=true:=by kernel_rfl
theorem fo_242_0:fieldOff Tryz.prog 242 0=some 0:=by kernel_rfl
instance:CFo Tryz.prog 242 0 0:=⟨fo_242_0⟩
theorem fo_242_1:fieldOff Tryz.prog 242 1=some 1:=by kernel_rfl
instance:CFo Tryz.prog 242 1 1:=⟨fo_242_1⟩
theorem fo_242_2:fieldOff Tryz.prog 242 2=some 2:=by kernel_rfl
instance:CFo Tryz.prog 242 2 2:=⟨fo_242_2⟩
theorem fo_61_1:fieldOff Tryz.prog 61 1=some 1:=by kernel_rfl
instance:CFo Tryz.prog 61 1 1:=⟨fo_61_1⟩
theorem fo_61_2:fieldOff Tryz.prog 61 2=some 2:=by kernel_rfl
instance:CFo Tryz.prog 61 2 2:=⟨fo_61_2⟩
theorem scal_22:isScal Tryz.prog 22=true:=by kernel_rfl
instance:CSc Tryz.prog 22:=⟨scal_22⟩
theorem sz_22:(Tryz.prog.info? 22).map (·.size)=some 1:=by kernel_rfl
theorem zs_22:(Tryz.prog.info? 22).map (fun i=>(i.zero,i.size))=some (some (.slice none 0 0),1):=by kernel_rfl
theorem zsb_3:(Tryz.prog.info? 3).map (fun i=>(i.zero,i.size,i.bytes))=some (some (.int .i64 0),1,8):=by kernel_rfl
theorem agg_154:aggSize Tryz.prog 154=some 3:=by kernel_rfl
theorem agg_61:aggSize Tryz.prog 61=some 3:=by kernel_rfl
theorem built_154: ∀vs,Tryz.prog.built 154 vs=Instr.fill (([(0,1),(1,1),(2,1)]:List (Nat×Nat)).toArray[·]?) ([.pointer none, .slice none 0 0, .int .i64 0]:List Value).toArray vs:=fun _=>by kernel_rfl
theorem built_242: ∀vs,Tryz.prog.built 242 vs=Instr.fill (([(0,1),(1,1),(2,1),(3,1),(4,1)]:List (Nat×Nat)).toArray[·]?) ([.int .i64 0, .int .i64 0, .slice none 0 0, .pointer none, .pointer none]:List Value).toArray vs:=fun _=>by kernel_rfl
theorem ent_135:enters Tryz.prog 135=true:=by kernel_rfl
theorem ent_138:enters Tryz.prog 138=true:=by kernel_rfl
theorem ent_139:enters Tryz.prog 139=true:=by kernel_rfl
theorem ent_140:enters Tryz.prog 140=true:=by kernel_rfl
theorem ent_180:enters Tryz.prog 180=true:=by kernel_rfl
theorem ent_37:enters Tryz.prog 37=true:=by kernel_rfl
theorem ent_46:enters Tryz.prog 46=true:=by kernel_rfl
theorem fo_154_0:fieldOff Tryz.prog 154 0=some 0:=by kernel_rfl
theorem scal_152:isScal Tryz.prog 152=true:=by kernel_rfl
theorem sz_154:(Tryz.prog.info? 154).map (·.size)=some 3:=by kernel_rfl
theorem zer_154:(Tryz.prog.info? 154).bind (·.zero)=some (.agg #[.pointer none, .slice none 0 0, .int .i64 0]):=by kernel_rfl
theorem agg_36:aggSize Tryz.prog 36=some 18:=by kernel_rfl
theorem agg_53:aggSize Tryz.prog 53=some 6:=by kernel_rfl
theorem ent_141:enters Tryz.prog 141=true:=by kernel_rfl
theorem ent_142:enters Tryz.prog 142=true:=by kernel_rfl
theorem ent_143:enters Tryz.prog 143=true:=by kernel_rfl
theorem ent_144:enters Tryz.prog 144=true:=by kernel_rfl
theorem fo_36_11:fieldOff Tryz.prog 36 11=some 11:=by kernel_rfl
instance:CFo Tryz.prog 36 11 11:=⟨fo_36_11⟩
theorem fo_36_12:fieldOff Tryz.prog 36 12=some 12:=by kernel_rfl
instance:CFo Tryz.prog 36 12 12:=⟨fo_36_12⟩
theorem fo_36_3:fieldOff Tryz.prog 36 3=some 3:=by kernel_rfl
instance:CFo Tryz.prog 36 3 3:=⟨fo_36_3⟩
theorem fo_36_7:fieldOff Tryz.prog 36 7=some 7:=by kernel_rfl
instance:CFo Tryz.prog 36 7 7:=⟨fo_36_7⟩
theorem fo_36_8:fieldOff Tryz.prog 36 8=some 8:=by kernel_rfl
instance:CFo Tryz.prog 36 8 8:=⟨fo_36_8⟩
theorem fo_53_0:fieldOff Tryz.prog 53 0=some 0:=by kernel_rfl
instance:CFo Tryz.prog 53 0 0:=⟨fo_53_0⟩
theorem fo_53_1:fieldOff Tryz.prog 53 1=some 1:=by kernel_rfl
instance:CFo Tryz.prog 53 1 1:=⟨fo_53_1⟩
theorem fo_53_4:fieldOff Tryz.prog 53 4=some 4:=by kernel_rfl
instance:CFo Tryz.prog 53 4 4:=⟨fo_53_4⟩
theorem fo_53_5:fieldOff Tryz.prog 53 5=some 5:=by kernel_rfl
instance:CFo Tryz.prog 53 5 5:=⟨fo_53_5⟩
theorem ik_197:intKeyed Tryz.prog 197=some 42:=by kernel_rfl
theorem scal_31:isScal Tryz.prog 31=true:=by kernel_rfl
instance:CSc Tryz.prog 31:=⟨scal_31⟩
theorem sz_2:(Tryz.prog.info? 2).map (·.size)=some 1:=by kernel_rfl
theorem sz_31:(Tryz.prog.info? 31).map (·.size)=some 1:=by kernel_rfl
theorem sz_36:(Tryz.prog.info? 36).map (·.size)=some 18:=by kernel_rfl
theorem sz_53:(Tryz.prog.info? 53).map (·.size)=some 6:=by kernel_rfl
theorem zer_36:(Tryz.prog.info? 36).bind (·.zero)=some (.agg #[.int .i64 0, .int .i64 0, .int .i64 0, .int .i64 0, .int .i64 0, .int .i64 0, .int .i64 0, .int .i64 0, .int .i64 0, .int .i64 0, .int .i64 0, .slice none 0 0, .slice none 0 0, .int .i64 0, .int .i64 0, .int .i64 0, .int .i64 0, .slice none 0 0]):=by kernel_rfl
theorem zer_53:(Tryz.prog.info? 53).bind (·.zero)=some (.agg #[.int .i64 0, .int .i64 0, .int .i64 0, .bool false, .int .i64 0, .slice none 0 0]):=by kernel_rfl
theorem built_114: ∀vs,Tryz.prog.built 114 vs=Instr.fill (([(0,1),(1,6),(7,1),(8,1)]:List (Nat×Nat)).toArray[·]?) ([.int .i64 0, .int .i64 0, .int .i64 0, .int .i64 0, .bool false, .int .i64 0, .slice none 0 0, .slice none 0 0, .bool false]:List Value).toArray vs:=fun _=>by kernel_rfl
theorem ent_107:enters Tryz.prog 107=true:=by kernel_rfl
theorem ent_108:enters Tryz.prog 108=true:=by kernel_rfl
theorem ent_120:enters Tryz.prog 120=true:=by kernel_rfl
theorem ent_145:enters Tryz.prog 145=true:=by kernel_rfl
theorem ent_146:enters Tryz.prog 146=true:=by kernel_rfl
theorem ent_147:enters Tryz.prog 147=true:=by kernel_rfl
theorem ent_61:enters Tryz.prog 61=true:=by kernel_rfl
theorem ent_71:enters Tryz.prog 71=true:=by kernel_rfl
theorem fo_112_1:fieldOff Tryz.prog 112 1=some 1:=by kernel_rfl
instance:CFo Tryz.prog 112 1 1:=⟨fo_112_1⟩
theorem fo_112_2:fieldOff Tryz.prog 112 2=some 7:=by kernel_rfl
instance:CFo Tryz.prog 112 2 7:=⟨fo_112_2⟩
instance:CFo Tryz.prog 114 0 0:=⟨by kernel_rfl⟩
theorem fo_114_1:fieldOff Tryz.prog 114 1=some 1:=by kernel_rfl
instance:CFo Tryz.prog 114 1 1:=⟨fo_114_1⟩
theorem fo_114_2:fieldOff Tryz.prog 114 2=some 7:=by kernel_rfl
instance:CFo Tryz.prog 114 2 7:=⟨fo_114_2⟩
theorem fo_53_2:fieldOff Tryz.prog 53 2=some 2:=by kernel_rfl
instance:CFo Tryz.prog 53 2 2:=⟨fo_53_2⟩
theorem fo_53_3:fieldOff Tryz.prog 53 3=some 3:=by kernel_rfl
instance:CFo Tryz.prog 53 3 3:=⟨fo_53_3⟩
theorem scal_37:isScal Tryz.prog 37=true:=by kernel_rfl
instance:CSc Tryz.prog 37:=⟨scal_37⟩
theorem scal_4:isScal Tryz.prog 4=true:=by kernel_rfl
instance:CSc Tryz.prog 4:=⟨scal_4⟩
theorem sz_4:(Tryz.prog.info? 4).map (·.size)=some 1:=by kernel_rfl
theorem ent_100:enters Tryz.prog 100=true:=by kernel_rfl
theorem ent_97:enters Tryz.prog 97=true:=by kernel_rfl
theorem ent_98:enters Tryz.prog 98=true:=by kernel_rfl
theorem ent_99:enters Tryz.prog 99=true:=by kernel_rfl
theorem fo_80_2:fieldOff Tryz.prog 80 2=some 2:=by kernel_rfl
instance:CFo Tryz.prog 80 2 2:=⟨fo_80_2⟩
theorem fo_80_3:fieldOff Tryz.prog 80 3=some 3:=by kernel_rfl
instance:CFo Tryz.prog 80 3 3:=⟨fo_80_3⟩
theorem ik_78:intKeyed Tryz.prog 78=some 36:=by kernel_rfl
theorem scal_71:isScal Tryz.prog 71=true:=by kernel_rfl
instance:CSc Tryz.prog 71:=⟨scal_71⟩
theorem scal_78:isScal Tryz.prog 78=true:=by kernel_rfl
instance:CSc Tryz.prog 78:=⟨scal_78⟩
theorem sz_78:(Tryz.prog.info? 78).map (·.size)=some 1:=by kernel_rfl
theorem zs_36:(Tryz.prog.info? 36).map (fun i=>(i.zero,i.size))=some (some (.agg #[.int .i64 0, .int .i64 0, .int .i64 0, .int .i64 0, .int .i64 0, .int .i64 0, .int .i64 0, .int .i64 0, .int .i64 0, .int .i64 0, .int .i64 0, .slice none 0 0, .slice none 0 0, .int .i64 0, .int .i64 0, .int .i64 0, .int .i64 0, .slice none 0 0]),18):=by kernel_rfl
theorem zsb_36:(Tryz.prog.info? 36).map (fun i=>(i.zero,i.size,i.bytes))=some (some (.agg #[.int .i64 0, .int .i64 0, .int .i64 0, .int .i64 0, .int .i64 0, .int .i64 0, .int .i64 0, .int .i64 0, .int .i64 0, .int .i64 0, .int .i64 0, .slice none 0 0, .slice none 0 0, .int .i64 0, .int .i64 0, .int .i64 0, .int .i64 0, .slice none 0 0]),18,192):=by kernel_rfl
theorem built_36: ∀vs,Tryz.prog.built 36 vs=Instr.fill (([(0,1),(1,1),(2,1),(3,1),(4,1),(5,1),(6,1),(7,1),(8,1),(9,1),(10,1),(11,1),(12,1),(13,5)]:List (Nat×Nat)).toArray[·]?) ([.int .i64 0, .int .i64 0, .int .i64 0, .int .i64 0, .int .i64 0, .int .i64 0, .int .i64 0, .int .i64 0, .int .i64 0, .int .i64 0, .int .i64 0, .slice none 0 0, .slice none 0 0, .int .i64 0, .int .i64 0, .int .i64 0, .int .i64 0, .slice none 0 0]:List Value).toArray vs:=fun _=>by kernel_rfl
theorem ent_18:enters Tryz.prog 18=true:=by kernel_rfl
theorem ent_33:enters Tryz.prog 33=true:=by kernel_rfl
theorem ent_47:enters Tryz.prog 47=true:=by kernel_rfl
theorem ent_48:enters Tryz.prog 48=true:=by kernel_rfl
theorem ent_49:enters Tryz.prog 49=true:=by kernel_rfl
theorem fo_80_0:fieldOff Tryz.prog 80 0=some 0:=by kernel_rfl
instance:CFo Tryz.prog 80 0 0:=⟨fo_80_0⟩
theorem fo_80_1:fieldOff Tryz.prog 80 1=some 1:=by kernel_rfl
theorem ent_29:enters Tryz.prog 29=true:=by kernel_rfl
theorem ent_30:enters Tryz.prog 30=true:=by kernel_rfl
theorem ent_31:enters Tryz.prog 31=true:=by kernel_rfl
theorem ent_32:enters Tryz.prog 32=true:=by kernel_rfl
theorem ent_72:enters Tryz.prog 72=true:=by kernel_rfl
theorem ent_75:enters Tryz.prog 75=true:=by kernel_rfl
theorem ent_78:enters Tryz.prog 78=true:=by kernel_rfl
theorem ent_79:enters Tryz.prog 79=true:=by kernel_rfl
theorem fo_36_0:fieldOff Tryz.prog 36 0=some 0:=by kernel_rfl
instance:CFo Tryz.prog 36 0 0:=⟨fo_36_0⟩
theorem fo_36_1:fieldOff Tryz.prog 36 1=some 1:=by kernel_rfl
instance:CFo Tryz.prog 36 1 1:=⟨fo_36_1⟩
theorem fo_36_2:fieldOff Tryz.prog 36 2=some 2:=by kernel_rfl
instance:CFo Tryz.prog 36 2 2:=⟨fo_36_2⟩
theorem fo_36_5:fieldOff Tryz.prog 36 5=some 5:=by kernel_rfl
instance:CFo Tryz.prog 36 5 5:=⟨fo_36_5⟩
theorem fo_36_9:fieldOff Tryz.prog 36 9=some 9:=by kernel_rfl
instance:CFo Tryz.prog 36 9 9:=⟨fo_36_9⟩
theorem fo_82_1:fieldOff Tryz.prog 82 1=some 1:=by kernel_rfl
instance:CFo Tryz.prog 82 1 1:=⟨fo_82_1⟩
theorem scal_24:isScal Tryz.prog 24=true:=by kernel_rfl
instance:CSc Tryz.prog 24:=⟨scal_24⟩
theorem ptr_283:ptrRow Tryz.prog 283=true:=by kernel_rfl
theorem scal_45:isScal Tryz.prog 45=true:=by kernel_rfl
instance:CSc Tryz.prog 45:=⟨scal_45⟩
theorem sz_45:(Tryz.prog.info? 45).map (·.size)=some 1:=by kernel_rfl
theorem built_77: ∀vs,Tryz.prog.built 77 vs=Instr.fill (([(0,1),(1,1),(2,1),(3,1),(4,1),(5,1)]:List (Nat×Nat)).toArray[·]?) ([.int .i64 0, .map none, .map none, .int .i64 0, .int .i64 0, .bool false]:List Value).toArray vs:=fun _=>by kernel_rfl
theorem ent_103:enters Tryz.prog 103=true:=by kernel_rfl
theorem ent_158:enters Tryz.prog 158=true:=by kernel_rfl
theorem ent_159:enters Tryz.prog 159=true:=by kernel_rfl
instance:CFo Tryz.prog 77 0 0:=⟨by kernel_rfl⟩
theorem fo_77_1:fieldOff Tryz.prog 77 1=some 1:=by kernel_rfl
instance:CFo Tryz.prog 77 1 1:=⟨fo_77_1⟩
theorem fo_77_2:fieldOff Tryz.prog 77 2=some 2:=by kernel_rfl
instance:CFo Tryz.prog 77 2 2:=⟨fo_77_2⟩
theorem fo_77_3:fieldOff Tryz.prog 77 3=some 3:=by kernel_rfl
instance:CFo Tryz.prog 77 3 3:=⟨fo_77_3⟩
theorem fo_77_4:fieldOff Tryz.prog 77 4=some 4:=by kernel_rfl
instance:CFo Tryz.prog 77 4 4:=⟨fo_77_4⟩
theorem fo_77_5:fieldOff Tryz.prog 77 5=some 5:=by kernel_rfl
instance:CFo Tryz.prog 77 5 5:=⟨fo_77_5⟩
theorem ik_75:intKeyed Tryz.prog 75=some 40:=by kernel_rfl
theorem scal_75:isScal Tryz.prog 75=true:=by kernel_rfl
instance:CSc Tryz.prog 75:=⟨scal_75⟩
theorem sz_75:(Tryz.prog.info? 75).map (·.size)=some 1:=by kernel_rfl
theorem zer_40:(Tryz.prog.info? 40).bind (·.zero)=some (.slice none 0 0):=by kernel_rfl
theorem zs_75:(Tryz.prog.info? 75).map (fun i=>(i.zero,i.size))=some (some (.map none),1):=by kernel_rfl
theorem agg_131:aggSize Tryz.prog 131=some 3:=by kernel_rfl
theorem ent_182:enters Tryz.prog 182=true:=by kernel_rfl
theorem ent_183:enters Tryz.prog 183=true:=by kernel_rfl
theorem ent_184:enters Tryz.prog 184=true:=by kernel_rfl
theorem ent_195:enters Tryz.prog 195=true:=by kernel_rfl
theorem ent_208:enters Tryz.prog 208=true:=by kernel_rfl
theorem fo_131_0:fieldOff Tryz.prog 131 0=some 0:=by kernel_rfl
instance:CFo Tryz.prog 131 0 0:=⟨fo_131_0⟩
theorem fo_131_1:fieldOff Tryz.prog 131 1=some 1:=by kernel_rfl
instance:CFo Tryz.prog 131 1 1:=⟨fo_131_1⟩
theorem fo_131_2:fieldOff Tryz.prog 131 2=some 2:=by kernel_rfl
instance:CFo Tryz.prog 131 2 2:=⟨fo_131_2⟩
instance:CFo Tryz.prog 42 1 1:=⟨by kernel_rfl⟩
theorem fo_42_3:fieldOff Tryz.prog 42 3=some 3:=by kernel_rfl
instance:CFo Tryz.prog 42 3 3:=⟨fo_42_3⟩
instance:CFo Tryz.prog 42 4 4:=⟨by kernel_rfl⟩
instance:CFo Tryz.prog 42 5 5:=⟨by kernel_rfl⟩
instance:CFo Tryz.prog 42 6 6:=⟨by kernel_rfl⟩
theorem fo_42_7:fieldOff Tryz.prog 42 7=some 7:=by kernel_rfl
instance:CFo Tryz.prog 42 7 7:=⟨fo_42_7⟩
theorem fo_42_8:fieldOff Tryz.prog 42 8=some 8:=by kernel_rfl
instance:CFo Tryz.prog 42 8 8:=⟨fo_42_8⟩
instance:CFo Tryz.prog 42 9 9:=⟨by kernel_rfl⟩
theorem scal_40:isScal Tryz.prog 40=true:=by kernel_rfl
instance:CSc Tryz.prog 40:=⟨scal_40⟩
theorem sz_131:(Tryz.prog.info? 131).map (·.size)=some 3:=by kernel_rfl
theorem ent_102:enters Tryz.prog 102=true:=by kernel_rfl
theorem agg_82:aggSize Tryz.prog 82=some 6:=by kernel_rfl
theorem ent_101:enters Tryz.prog 101=true:=by kernel_rfl
theorem ent_117:enters Tryz.prog 117=true:=by kernel_rfl
theorem ent_68:enters Tryz.prog 68=true:=by kernel_rfl
theorem fo_82_2:fieldOff Tryz.prog 82 2=some 2:=by kernel_rfl
instance:CFo Tryz.prog 82 2 2:=⟨fo_82_2⟩
theorem sz_82:(Tryz.prog.info? 82).map (·.size)=some 6:=by kernel_rfl
theorem zer_82:(Tryz.prog.info? 82).bind (·.zero)=some (.agg #[.int .i64 0, .slice none 0 0, .slice none 0 0, .int .i64 0, .int .i64 0, .bool false]):=by kernel_rfl
theorem ent_156:enters Tryz.prog 156=true:=by kernel_rfl
theorem ent_157:enters Tryz.prog 157=true:=by kernel_rfl
theorem ent_50:enters Tryz.prog 50=true:=by kernel_rfl
theorem ent_64:enters Tryz.prog 64=true:=by kernel_rfl
theorem fo_82_0:fieldOff Tryz.prog 82 0=some 0:=by kernel_rfl
instance:CFo Tryz.prog 82 0 0:=⟨fo_82_0⟩
theorem fo_82_5:fieldOff Tryz.prog 82 5=some 5:=by kernel_rfl
instance:CFo Tryz.prog 82 5 5:=⟨fo_82_5⟩
theorem ent_40:enters Tryz.prog 40=true:=by kernel_rfl
theorem fo_82_4:fieldOff Tryz.prog 82 4=some 4:=by kernel_rfl
instance:CFo Tryz.prog 82 4 4:=⟨fo_82_4⟩
theorem ik_142:intKeyed Tryz.prog 142=some 3:=by kernel_rfl
theorem zer_3:(Tryz.prog.info? 3).bind (·.zero)=some (.int .i64 0):=by kernel_rfl
theorem built_42: ∀vs,Tryz.prog.built 42 vs=Instr.fill (([(0,1),(1,1),(2,1),(3,1),(4,1),(5,1),(6,1),(7,1),(8,1),(9,1)]:List (Nat×Nat)).toArray[·]?) ([.int .i64 0, .int .i64 0, .int .i64 0, .int .i64 0, .int .i64 0, .int .i64 0, .int .i64 0, .slice none 0 0, .slice none 0 0, .bool false]:List Value).toArray vs:=fun _=>by kernel_rfl
theorem built_80: ∀vs,Tryz.prog.built 80 vs=Instr.fill (([(0,1),(1,1),(2,1),(3,1)]:List (Nat×Nat)).toArray[·]?) ([.int .i64 0, .int .i64 0, .pointer none, .map none]:List Value).toArray vs:=fun _=>by kernel_rfl
theorem ent_104:enters Tryz.prog 104=true:=by kernel_rfl
theorem ent_16:enters Tryz.prog 16=true:=by kernel_rfl
theorem ent_25:enters Tryz.prog 25=true:=by kernel_rfl
theorem ent_26:enters Tryz.prog 26=true:=by kernel_rfl
theorem ent_27:enters Tryz.prog 27=true:=by kernel_rfl
theorem ent_39:enters Tryz.prog 39=true:=by kernel_rfl
theorem ent_52:enters Tryz.prog 52=true:=by kernel_rfl
theorem ent_53:enters Tryz.prog 53=true:=by kernel_rfl
theorem ent_54:enters Tryz.prog 54=true:=by kernel_rfl
theorem ent_55:enters Tryz.prog 55=true:=by kernel_rfl
instance:CFo Tryz.prog 61 0 0:=⟨by kernel_rfl⟩
theorem sz_40:(Tryz.prog.info? 40).map (·.size)=some 1:=by kernel_rfl
theorem agg_146:aggSize Tryz.prog 146=some 2:=by kernel_rfl
theorem agg_34:aggSize Tryz.prog 34=some 5:=by kernel_rfl
instance:CAg Tryz.prog 34 5:=⟨agg_34⟩
theorem fo_146_0:fieldOff Tryz.prog 146 0=some 0:=by kernel_rfl
instance:CFo Tryz.prog 146 0 0:=⟨fo_146_0⟩
instance:CFo Tryz.prog 34 4 4:=⟨by kernel_rfl⟩
instance:CSc Tryz.prog 32:=⟨by kernel_rfl⟩
theorem sz_146:(Tryz.prog.info? 146).map (·.size)=some 2:=by kernel_rfl
theorem sz_34:(Tryz.prog.info? 34).map (·.size)=some 5:=by kernel_rfl
theorem zer_146:(Tryz.prog.info? 146).bind (·.zero)=some (.agg #[.slice none 0 0, .slice none 0 0]):=by kernel_rfl
theorem zer_34:(Tryz.prog.info? 34).bind (·.zero)=some (.agg #[.int .i64 0, .int .i64 0, .int .i64 0, .int .i64 0, .slice none 0 0]):=by kernel_rfl
theorem ent_118:enters Tryz.prog 118=true:=by kernel_rfl
theorem agg_123:aggSize Tryz.prog 123=some 3:=by kernel_rfl
theorem built_123: ∀vs,Tryz.prog.built 123 vs=Instr.fill (([(0,1),(1,1),(2,1)]:List (Nat×Nat)).toArray[·]?) ([.int .i64 0, .int .i64 0, .int .i64 0]:List Value).toArray vs:=fun _=>by kernel_rfl
theorem ent_63:enters Tryz.prog 63=true:=by kernel_rfl
theorem ent_65:enters Tryz.prog 65=true:=by kernel_rfl
theorem ent_66:enters Tryz.prog 66=true:=by kernel_rfl
theorem ent_69:enters Tryz.prog 69=true:=by kernel_rfl
instance:CFo Tryz.prog 123 0 0:=⟨by kernel_rfl⟩
instance:CFo Tryz.prog 123 1 1:=⟨by kernel_rfl⟩
instance:CFo Tryz.prog 123 2 2:=⟨by kernel_rfl⟩
theorem fo_146_1:fieldOff Tryz.prog 146 1=some 1:=by kernel_rfl
instance:CFo Tryz.prog 146 1 1:=⟨fo_146_1⟩
instance:CFo Tryz.prog 34 0 0:=⟨by kernel_rfl⟩
instance:CFo Tryz.prog 34 1 1:=⟨by kernel_rfl⟩
instance:CFo Tryz.prog 34 2 2:=⟨by kernel_rfl⟩
instance:CFo Tryz.prog 34 3 3:=⟨by kernel_rfl⟩
instance:CFo Tryz.prog 36 10 10:=⟨by kernel_rfl⟩
theorem fo_36_13:fieldOff Tryz.prog 36 13=some 13:=by kernel_rfl
instance:CFo Tryz.prog 36 13 13:=⟨fo_36_13⟩
theorem fo_36_4:fieldOff Tryz.prog 36 4=some 4:=by kernel_rfl
instance:CFo Tryz.prog 36 4 4:=⟨fo_36_4⟩
instance:CFo Tryz.prog 36 6 6:=⟨by kernel_rfl⟩
theorem sz_123:(Tryz.prog.info? 123).map (·.size)=some 3:=by kernel_rfl
theorem zer_123:(Tryz.prog.info? 123).bind (·.zero)=some (.agg #[.int .i64 0, .int .i64 0, .int .i64 0]):=by kernel_rfl
theorem zs_123:(Tryz.prog.info? 123).map (fun i=>(i.zero,i.size))=some (some (.agg #[.int .i64 0, .int .i64 0, .int .i64 0]),3):=by kernel_rfl
theorem agg_114:aggSize Tryz.prog 114=some 9:=by kernel_rfl
theorem ent_28:enters Tryz.prog 28=true:=by kernel_rfl
theorem ent_62:enters Tryz.prog 62=true:=by kernel_rfl
theorem sz_114:(Tryz.prog.info? 114).map (·.size)=some 9:=by kernel_rfl
theorem zer_114:(Tryz.prog.info? 114).bind (·.zero)=some (.agg #[.int .i64 0, .int .i64 0, .int .i64 0, .int .i64 0, .bool false, .int .i64 0, .slice none 0 0, .slice none 0 0, .bool false]):=by kernel_rfl
theorem ent_124:enters Tryz.prog 124=true:=by kernel_rfl
theorem ent_125:enters Tryz.prog 125=true:=by kernel_rfl
theorem ent_70:enters Tryz.prog 70=true:=by kernel_rfl
theorem ent_119:enters Tryz.prog 119=true:=by kernel_rfl
theorem ent_73:enters Tryz.prog 73=true:=by kernel_rfl
theorem ent_34:enters Tryz.prog 34=true:=by kernel_rfl
theorem built_53: ∀vs,Tryz.prog.built 53 vs=Instr.fill (([(0,1),(1,1),(2,1),(3,1),(4,1),(5,1)]:List (Nat×Nat)).toArray[·]?) ([.int .i64 0, .int .i64 0, .int .i64 0, .bool false, .int .i64 0, .slice none 0 0]:List Value).toArray vs:=fun _=>by kernel_rfl
theorem ent_21:enters Tryz.prog 21=true:=by kernel_rfl
theorem ent_60:enters Tryz.prog 60=true:=by kernel_rfl
theorem ent_12:enters Tryz.prog 12=true:=by kernel_rfl
theorem ent_7:enters Tryz.prog 7=true:=by kernel_rfl
theorem fo_82_3:fieldOff Tryz.prog 82 3=some 3:=by kernel_rfl
instance:CFo Tryz.prog 82 3 3:=⟨fo_82_3⟩
theorem sz_5:(Tryz.prog.info? 5).map (·.size)=some 1:=by kernel_rfl
theorem scal_5:isScal Tryz.prog 5=true:=by kernel_rfl
theorem zs_5:(Tryz.prog.info? 5).map (fun i=>(i.zero,i.size))=some (some (.int .u8 0),1):=by kernel_rfl
theorem zsb_5:(Tryz.prog.info? 5).map (fun i=>(i.zero,i.size,i.bytes))=some (some (.int .u8 0),1,1):=by kernel_rfl
theorem built_127: ∀vs,Tryz.prog.built 127 vs=Instr.fill (([(0,1),(1,1)]:List (Nat×Nat)).toArray[·]?) ([.int .i64 0, .nilIface]:List Value).toArray vs:=fun _=>by kernel_rfl
theorem built_252: ∀vs,Tryz.prog.built 252 vs=Instr.fill (([(0,1),(1,1),(2,1)]:List (Nat×Nat)).toArray[·]?) ([.slice none 0 0, .int .i64 0, .nilIface]:List Value).toArray vs:=fun _=>by kernel_rfl
theorem ent_198:enters Tryz.prog 198=true:=by kernel_rfl
theorem fo_252_0:fieldOff Tryz.prog 252 0=some 0:=by kernel_rfl
theorem fo_252_1:fieldOff Tryz.prog 252 1=some 1:=by kernel_rfl
instance:CFo Tryz.prog 252 1 1:=⟨fo_252_1⟩
theorem fo_252_2:fieldOff Tryz.prog 252 2=some 2:=by kernel_rfl
instance:CFo Tryz.prog 252 2 2:=⟨fo_252_2⟩
theorem ent_134:enters Tryz.prog 134=true:=by kernel_rfl
theorem ent_167:enters Tryz.prog 167=true:=by kernel_rfl
theorem ent_173:enters Tryz.prog 173=true:=by kernel_rfl
theorem ent_206:enters Tryz.prog 206=true:=by kernel_rfl
theorem ent_91:enters Tryz.prog 91=true:=by kernel_rfl
theorem ent_92:enters Tryz.prog 92=true:=by kernel_rfl
theorem ent_130:enters Tryz.prog 130=true:=by kernel_rfl
theorem ent_131:enters Tryz.prog 131=true:=by kernel_rfl
theorem ent_177:enters Tryz.prog 177=true:=by kernel_rfl
theorem ent_178:enters Tryz.prog 178=true:=by kernel_rfl
theorem ent_129:enters Tryz.prog 129=true:=by kernel_rfl
theorem ent_83:enters Tryz.prog 83=true:=by kernel_rfl
theorem ent_90:enters Tryz.prog 90=true:=by kernel_rfl
theorem ent_93:enters Tryz.prog 93=true:=by kernel_rfl
theorem built_146: ∀vs,Tryz.prog.built 146 vs=Instr.fill (([(0,1),(1,1)]:List (Nat×Nat)).toArray[·]?) ([.slice none 0 0, .slice none 0 0]:List Value).toArray vs:=fun _=>by kernel_rfl
theorem sz_32:(Tryz.prog.info? 32).map (·.size)=some 1:=by kernel_rfl
theorem zs_146:(Tryz.prog.info? 146).map (fun i=>(i.zero,i.size))=some (some (.agg #[.slice none 0 0, .slice none 0 0]),2):=by kernel_rfl
theorem zsb_146:(Tryz.prog.info? 146).map (fun i=>(i.zero,i.size,i.bytes))=some (some (.agg #[.slice none 0 0, .slice none 0 0]),2,48):=by kernel_rfl
theorem ent_210:enters Tryz.prog 210=true:=by kernel_rfl
theorem built_82: ∀vs,Tryz.prog.built 82 vs=Instr.fill (([(0,1),(1,1),(2,1),(3,1),(4,1),(5,1)]:List (Nat×Nat)).toArray[·]?) ([.int .i64 0, .slice none 0 0, .slice none 0 0, .int .i64 0, .int .i64 0, .bool false]:List Value).toArray vs:=fun _=>by kernel_rfl
theorem zs_131:(Tryz.prog.info? 131).map (fun i=>(i.zero,i.size))=some (some (.agg #[.int .i64 0, .int .i64 0, .int .i64 0]),3):=by kernel_rfl
theorem zsb_131:(Tryz.prog.info? 131).map (fun i=>(i.zero,i.size,i.bytes))=some (some (.agg #[.int .i64 0, .int .i64 0, .int .i64 0]),3,24):=by kernel_rfl
theorem ent_160:enters Tryz.prog 160=true:=by kernel_rfl
theorem zer_131:(Tryz.prog.info? 131).bind (·.zero)=some (.agg #[.int .i64 0, .int .i64 0, .int .i64 0]):=by kernel_rfl
theorem ent_161:enters Tryz.prog 161=true:=by kernel_rfl
theorem ent_162:enters Tryz.prog 162=true:=by kernel_rfl
theorem ent_199:enters Tryz.prog 199=true:=by kernel_rfl
theorem zs_2:(Tryz.prog.info? 2).map (fun i=>(i.zero,i.size))=some (some (.int .i64 0),1):=by kernel_rfl
theorem ent_149:enters Tryz.prog 149=true:=by kernel_rfl
theorem ent_150:enters Tryz.prog 150=true:=by kernel_rfl
theorem ent_151:enters Tryz.prog 151=true:=by kernel_rfl
theorem ent_152:enters Tryz.prog 152=true:=by kernel_rfl
theorem ent_153:enters Tryz.prog 153=true:=by kernel_rfl
theorem ent_155:enters Tryz.prog 155=true:=by kernel_rfl
instance:CSc Tryz.prog 209:=⟨by kernel_rfl⟩
theorem sz_209:(Tryz.prog.info? 209).map (·.size)=some 1:=by kernel_rfl
theorem zs_209:(Tryz.prog.info? 209).map (fun i=>(i.zero,i.size))=some (some (.pointer none),1):=by kernel_rfl
theorem ent_110:enters Tryz.prog 110=true:=by kernel_rfl
theorem ent_148:enters Tryz.prog 148=true:=by kernel_rfl
theorem fo_112_0:fieldOff Tryz.prog 112 0=some 0:=by kernel_rfl
instance:CFo Tryz.prog 112 0 0:=⟨fo_112_0⟩
theorem fo_112_3:fieldOff Tryz.prog 112 3=some 8:=by kernel_rfl
instance:CFo Tryz.prog 112 3 8:=⟨fo_112_3⟩
theorem fo_112_4:fieldOff Tryz.prog 112 4=some 9:=by kernel_rfl
instance:CFo Tryz.prog 112 4 9:=⟨fo_112_4⟩
theorem scal_25:isScal Tryz.prog 25=true:=by kernel_rfl
instance:CSc Tryz.prog 25:=⟨scal_25⟩
theorem built_112: ∀vs,Tryz.prog.built 112 vs=Instr.fill (([(0,1),(1,6),(7,1),(8,1),(9,1)]:List (Nat×Nat)).toArray[·]?) ([.pointer none, .int .i64 0, .int .i64 0, .int .i64 0, .bool false, .int .i64 0, .slice none 0 0, .pointer none, .int .i64 0, .int .i64 0]:List Value).toArray vs:=fun _=>by kernel_rfl
theorem ent_105:enters Tryz.prog 105=true:=by kernel_rfl
theorem ent_106:enters Tryz.prog 106=true:=by kernel_rfl
theorem ent_109:enters Tryz.prog 109=true:=by kernel_rfl
theorem ent_112:enters Tryz.prog 112=true:=by kernel_rfl
theorem ent_56:enters Tryz.prog 56=true:=by kernel_rfl
theorem ent_57:enters Tryz.prog 57=true:=by kernel_rfl
theorem ent_58:enters Tryz.prog 58=true:=by kernel_rfl
theorem ent_59:enters Tryz.prog 59=true:=by kernel_rfl
theorem ent_111:enters Tryz.prog 111=true:=by kernel_rfl
theorem ent_113:enters Tryz.prog 113=true:=by kernel_rfl
theorem ent_114:enters Tryz.prog 114=true:=by kernel_rfl
theorem ent_115:enters Tryz.prog 115=true:=by kernel_rfl
theorem ent_116:enters Tryz.prog 116=true:=by kernel_rfl
theorem ent_14:enters Tryz.prog 14=true:=by kernel_rfl
theorem ent_193:enters Tryz.prog 193=true:=by kernel_rfl
theorem ent_192:enters Tryz.prog 192=true:=by kernel_rfl
theorem built_61: ∀vs,Tryz.prog.built 61 vs=Instr.fill (([(0,1),(1,1),(2,1)]:List (Nat×Nat)).toArray[·]?) ([.int .i64 0, .slice none 0 0, .slice none 0 0]:List Value).toArray vs:=fun _=>by kernel_rfl
theorem ent_10:enters Tryz.prog 10=true:=by kernel_rfl
theorem ent_17:enters Tryz.prog 17=true:=by kernel_rfl
theorem ent_22:enters Tryz.prog 22=true:=by kernel_rfl
theorem ent_23:enters Tryz.prog 23=true:=by kernel_rfl
theorem ent_24:enters Tryz.prog 24=true:=by kernel_rfl
theorem ent_6:enters Tryz.prog 6=true:=by kernel_rfl
theorem ent_9:enters Tryz.prog 9=true:=by kernel_rfl
theorem sz_24:(Tryz.prog.info? 24).map (·.size)=some 1:=by kernel_rfl
theorem sz_61:(Tryz.prog.info? 61).map (·.size)=some 3:=by kernel_rfl
theorem zer_61:(Tryz.prog.info? 61).bind (·.zero)=some (.agg #[.int .i64 0, .slice none 0 0, .slice none 0 0]):=by kernel_rfl
theorem zs_24:(Tryz.prog.info? 24).map (fun i=>(i.zero,i.size))=some (some (.pointer none),1):=by kernel_rfl
theorem zsb_24:(Tryz.prog.info? 24).map (fun i=>(i.zero,i.size,i.bytes))=some (some (.pointer none),1,8):=by kernel_rfl
instance:CIf Tryz.prog 45:=⟨_,Tryz.underlying45⟩
end Go.Proofs.YtikllmoofngjnaaGreatDoor.B
