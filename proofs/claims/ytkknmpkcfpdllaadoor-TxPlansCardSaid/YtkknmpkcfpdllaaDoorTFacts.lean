/- What functions of the program compute, each function once: steps over the model, and the plain law of it. -/
import Derived.Test.YtkknmpkcfpdllaaDoorSLogB
import Derived.Test.YtkknmpkcfpdllaaDoorProg
namespace Go.Proofs.YtkknmpkcfpdllaaDoor.B
open Go Go.Proofs
set_option maxRecDepth 20000
set_option maxHeartbeats 8000000
theorem agg_93:aggSize Tryd.prog 93=some 3:=by kernel_rfl
theorem built_93: ∀vs,Tryd.prog.built 93 vs=Instr.fill (([(0,1),(1,1),(2,1)]:List (Nat×Nat)).toArray[·]?) ([.int .i64 0, .bool false, .int .i64 0]:List Value).toArray vs:=fun _=>by kernel_rfl
theorem ent_109:enters Tryd.prog 109=true:=by kernel_rfl
theorem ent_118:enters Tryd.prog 118=true:=by kernel_rfl
theorem ent_119:enters Tryd.prog 119=true:=by kernel_rfl
theorem ent_42:enters Tryd.prog 42=true:=by kernel_rfl
theorem ent_110:enters Tryd.prog 110=true:=by kernel_rfl
theorem ent_43:enters Tryd.prog 43=true:=by kernel_rfl
theorem ent_78:enters Tryd.prog 78=true:=by kernel_rfl
theorem ent_79:enters Tryd.prog 79=true:=by kernel_rfl
theorem ent_108:enters Tryd.prog 108=true:=by kernel_rfl
theorem fo_175_0:fieldOff Tryd.prog 175 0=some 0:=by kernel_rfl
theorem fo_175_1:fieldOff Tryd.prog 175 1=some 1:=by kernel_rfl
instance:CFo Tryd.prog 175 1 1:=⟨fo_175_1⟩
instance:CFo Tryd.prog 93 0 0:=⟨by kernel_rfl⟩
instance:CFo Tryd.prog 93 1 1:=⟨by kernel_rfl⟩
instance:CFo Tryd.prog 93 2 2:=⟨by kernel_rfl⟩
theorem ptr_190:ptrRow Tryd.prog 190=true:=by kernel_rfl
theorem scal_31:isScal Tryd.prog 31=true:=by kernel_rfl
theorem scal_3:isScal Tryd.prog 3=true:=by kernel_rfl
instance:CSc Tryd.prog 3:=⟨scal_3⟩
theorem scal_4:isScal Tryd.prog 4=true:=by kernel_rfl
instance:CSc Tryd.prog 4:=⟨scal_4⟩
theorem sz_31:(Tryd.prog.info? 31).map (·.size)=some 1:=by kernel_rfl
theorem sz_93:(Tryd.prog.info? 93).map (·.size)=some 3:=by kernel_rfl
theorem zer_171:(Tryd.prog.info? 171).bind (·.zero)=some (.pointer none):=by kernel_rfl
theorem zer_93:(Tryd.prog.info? 93).bind (·.zero)=some (.agg #[.int .i64 0, .bool false, .int .i64 0]):=by kernel_rfl
theorem zs_31:(Tryd.prog.info? 31).map (fun i=>(i.zero,i.size))=some (some (.nilIface),1):=by kernel_rfl
theorem built_119: ∀vs,Tryd.prog.built 119 vs=Instr.fill (([(0,1),(1,1),(2,1),(3,1),(4,1)]:List (Nat×Nat)).toArray[·]?) ([.int .i64 0, .pointer none, .int .i64 0, .map none, .int .i64 0]:List Value).toArray vs:=fun _=>by kernel_rfl
theorem built_123: ∀vs,Tryd.prog.built 123 vs=Instr.fill (([(0,1),(1,1)]:List (Nat×Nat)).toArray[·]?) ([.int .i64 0, .map none]:List Value).toArray vs:=fun _=>by kernel_rfl
theorem fo_119_0:fieldOff Tryd.prog 119 0=some 0:=by kernel_rfl
theorem fo_119_2:fieldOff Tryd.prog 119 2=some 2:=by kernel_rfl
instance:CFo Tryd.prog 119 2 2:=⟨fo_119_2⟩
instance:CFo Tryd.prog 119 3 3:=⟨by kernel_rfl⟩
theorem fo_119_4:fieldOff Tryd.prog 119 4=some 4:=by kernel_rfl
instance:CFo Tryd.prog 119 4 4:=⟨fo_119_4⟩
theorem ik_117:intKeyed Tryd.prog 117=some 120:=by kernel_rfl
instance:CSc Tryd.prog 117:=⟨by kernel_rfl⟩
theorem sz_3:(Tryd.prog.info? 3).map (·.size)=some 1:=by kernel_rfl
theorem agg_132:aggSize Tryd.prog 132=some 5:=by kernel_rfl
instance:CAg Tryd.prog 132 5:=⟨agg_132⟩
theorem built_132: ∀vs,Tryd.prog.built 132 vs=Instr.fill (([(0,1),(1,1),(2,1),(3,1),(4,1)]:List (Nat×Nat)).toArray[·]?) ([.int .i64 0, .int .i64 0, .slice none 0 0, .bool false, .slice none 0 0]:List Value).toArray vs:=fun _=>by kernel_rfl
theorem fo_123_1:fieldOff Tryd.prog 123 1=some 1:=by kernel_rfl
theorem scal_121:isScal Tryd.prog 121=true:=by kernel_rfl
theorem sz_132:(Tryd.prog.info? 132).map (·.size)=some 5:=by kernel_rfl
theorem zer_132:(Tryd.prog.info? 132).bind (·.zero)=some (.agg #[.int .i64 0, .int .i64 0, .slice none 0 0, .bool false, .slice none 0 0]):=by kernel_rfl
theorem fo_123_0:fieldOff Tryd.prog 123 0=some 0:=by kernel_rfl
instance:CFo Tryd.prog 123 0 0:=⟨fo_123_0⟩
theorem scal_120:isScal Tryd.prog 120=true:=by kernel_rfl
instance:CSc Tryd.prog 120:=⟨scal_120⟩
theorem scal_34:isScal Tryd.prog 34=true:=by kernel_rfl
instance:CSc Tryd.prog 34:=⟨scal_34⟩
theorem agg_62:aggSize Tryd.prog 62=some 3:=by kernel_rfl
theorem built_62: ∀vs,Tryd.prog.built 62 vs=Instr.fill (([(0,1),(1,1),(2,1)]:List (Nat×Nat)).toArray[·]?) ([.slice none 0 0, .int .i64 0, .nilFunc]:List Value).toArray vs:=fun _=>by kernel_rfl
theorem ent_112:enters Tryd.prog 112=true:=by kernel_rfl
theorem ent_113:enters Tryd.prog 113=true:=by kernel_rfl
theorem ent_10:enters Tryd.prog 10=true:=by kernel_rfl
theorem ent_12:enters Tryd.prog 12=true:=by kernel_rfl
instance:CFo Tryd.prog 132 0 0:=⟨by kernel_rfl⟩
instance:CFo Tryd.prog 132 1 1:=⟨by kernel_rfl⟩
theorem scal_2:isScal Tryd.prog 2=true:=by kernel_rfl
instance:CSc Tryd.prog 2:=⟨scal_2⟩
theorem sz_62:(Tryd.prog.info? 62).map (·.size)=some 3:=by kernel_rfl
theorem zer_62:(Tryd.prog.info? 62).bind (·.zero)=some (.agg #[.slice none 0 0, .int .i64 0, .nilFunc]):=by kernel_rfl
theorem ent_63:enters Tryd.prog 63=true:=by kernel_rfl
theorem ent_93:enters Tryd.prog 93=true:=by kernel_rfl
theorem ent_94:enters Tryd.prog 94=true:=by kernel_rfl
theorem ent_9:enters Tryd.prog 9=true:=by kernel_rfl
theorem ent_59:enters Tryd.prog 59=true:=by kernel_rfl
theorem ent_39:enters Tryd.prog 39=true:=by kernel_rfl
theorem ent_32:enters Tryd.prog 32=true:=by kernel_rfl
theorem fo_119_1:fieldOff Tryd.prog 119 1=some 1:=by kernel_rfl
instance:CFo Tryd.prog 119 1 1:=⟨fo_119_1⟩
theorem scal_25:isScal Tryd.prog 25=true:=by kernel_rfl
instance:CSc Tryd.prog 25:=⟨scal_25⟩
theorem sz_120:(Tryd.prog.info? 120).map (·.size)=some 1:=by kernel_rfl
theorem sz_4:(Tryd.prog.info? 4).map (·.size)=some 1:=by kernel_rfl
theorem zer_120:(Tryd.prog.info? 120).bind (·.zero)=some (.pointer none):=by kernel_rfl
theorem zer_4:(Tryd.prog.info? 4).bind (·.zero)=some (.bool false):=by kernel_rfl
theorem ent_60:enters Tryd.prog 60=true:=by kernel_rfl
theorem ent_61:enters Tryd.prog 61=true:=by kernel_rfl
theorem ent_95:enters Tryd.prog 95=true:=by kernel_rfl
theorem agg_68:aggSize Tryd.prog 68=some 10:=by kernel_rfl
theorem ent_88:enters Tryd.prog 88=true:=by kernel_rfl
theorem ent_100:enters Tryd.prog 100=true:=by kernel_rfl
theorem ent_85:enters Tryd.prog 85=true:=by kernel_rfl
theorem ent_44:enters Tryd.prog 44=true:=by kernel_rfl
theorem fo_107_0:fieldOff Tryd.prog 107 0=some 0:=by kernel_rfl
instance:CFo Tryd.prog 107 0 0:=⟨fo_107_0⟩
theorem fo_68_0:fieldOff Tryd.prog 68 0=some 0:=by kernel_rfl
instance:CFo Tryd.prog 68 0 0:=⟨fo_68_0⟩
theorem fo_68_4:fieldOff Tryd.prog 68 4=some 4:=by kernel_rfl
instance:CFo Tryd.prog 68 4 4:=⟨fo_68_4⟩
theorem fo_68_5:fieldOff Tryd.prog 68 5=some 5:=by kernel_rfl
instance:CFo Tryd.prog 68 5 5:=⟨fo_68_5⟩
theorem fo_68_6:fieldOff Tryd.prog 68 6=some 6:=by kernel_rfl
instance:CFo Tryd.prog 68 6 6:=⟨fo_68_6⟩
theorem fo_68_7:fieldOff Tryd.prog 68 7=some 7:=by kernel_rfl
instance:CFo Tryd.prog 68 7 7:=⟨fo_68_7⟩
theorem fo_68_8:fieldOff Tryd.prog 68 8=some 8:=by kernel_rfl
instance:CFo Tryd.prog 68 8 8:=⟨fo_68_8⟩
instance:CFo Tryd.prog 84 1 1:=⟨by kernel_rfl⟩
theorem fo_62_0:fieldOff Tryd.prog 62 0=some 0:=by kernel_rfl
instance:CFo Tryd.prog 62 0 0:=⟨fo_62_0⟩
theorem ik_76:intKeyed Tryd.prog 76=some 84:=by kernel_rfl
theorem ik_100:intKeyed Tryd.prog 100=some 4:=by kernel_rfl
theorem scal_76:isScal Tryd.prog 76=true:=by kernel_rfl
instance:CSc Tryd.prog 76:=⟨scal_76⟩
theorem scal_36:isScal Tryd.prog 36=true:=by kernel_rfl
instance:CSc Tryd.prog 36:=⟨scal_36⟩
theorem sz_68:(Tryd.prog.info? 68).map (·.size)=some 10:=by kernel_rfl
theorem sz_84:(Tryd.prog.info? 84).map (·.size)=some 5:=by kernel_rfl
theorem zer_68:(Tryd.prog.info? 68).bind (·.zero)=some (.agg #[.int .i64 0, .int .i64 0, .int .i64 0, .int .i64 0, .int .i64 0, .int .i64 0, .int .i64 0, .slice none 0 0, .slice none 0 0, .bool false]):=by kernel_rfl
theorem zer_84:(Tryd.prog.info? 84).bind (·.zero)=some (.agg #[.int .i64 0, .int .i64 0, .int .i64 0, .int .i64 0, .slice none 0 0]):=by kernel_rfl
theorem ent_64:enters Tryd.prog 64=true:=by kernel_rfl
theorem ent_65:enters Tryd.prog 65=true:=by kernel_rfl
theorem ent_66:enters Tryd.prog 66=true:=by kernel_rfl
theorem ent_47:enters Tryd.prog 47=true:=by kernel_rfl
theorem fo_62_1:fieldOff Tryd.prog 62 1=some 1:=by kernel_rfl
theorem fo_62_2:fieldOff Tryd.prog 62 2=some 2:=by kernel_rfl
instance:CFo Tryd.prog 62 2 2:=⟨fo_62_2⟩
theorem scal_1:isScal Tryd.prog 1=true:=by kernel_rfl
instance:CSc Tryd.prog 1:=⟨scal_1⟩
theorem ent_33:enters Tryd.prog 33=true:=by kernel_rfl
theorem ent_34:enters Tryd.prog 34=true:=by kernel_rfl
theorem ent_26:enters Tryd.prog 26=true:=by kernel_rfl
theorem ent_45:enters Tryd.prog 45=true:=by kernel_rfl
theorem ent_58:enters Tryd.prog 58=true:=by kernel_rfl
theorem sz_2:(Tryd.prog.info? 2).map (·.size)=some 1:=by kernel_rfl
theorem zs_68:(Tryd.prog.info? 68).map (fun i=>(i.zero,i.size))=some (some (.agg #[.int .i64 0, .int .i64 0, .int .i64 0, .int .i64 0, .int .i64 0, .int .i64 0, .int .i64 0, .slice none 0 0, .slice none 0 0, .bool false]),10):=by kernel_rfl
theorem zsb_68:(Tryd.prog.info? 68).map (fun i=>(i.zero,i.size,i.bytes))=some (some (.agg #[.int .i64 0, .int .i64 0, .int .i64 0, .int .i64 0, .int .i64 0, .int .i64 0, .int .i64 0, .slice none 0 0, .slice none 0 0, .bool false]),10,112):=by kernel_rfl
theorem sz_34:(Tryd.prog.info? 34).map (·.size)=some 1:=by kernel_rfl
theorem agg_110:aggSize Tryd.prog 110=some 2:=by kernel_rfl
theorem built_110: ∀vs,Tryd.prog.built 110 vs=Instr.fill (([(0,1),(1,1)]:List (Nat×Nat)).toArray[·]?) ([.slice none 0 0, .slice none 0 0]:List Value).toArray vs:=fun _=>by kernel_rfl
theorem ent_55:enters Tryd.prog 55=true:=by kernel_rfl
theorem fo_110_0:fieldOff Tryd.prog 110 0=some 0:=by kernel_rfl
instance:CFo Tryd.prog 110 0 0:=⟨fo_110_0⟩
theorem fo_110_1:fieldOff Tryd.prog 110 1=some 1:=by kernel_rfl
theorem sz_110:(Tryd.prog.info? 110).map (·.size)=some 2:=by kernel_rfl
theorem zer_110:(Tryd.prog.info? 110).bind (·.zero)=some (.agg #[.slice none 0 0, .slice none 0 0]):=by kernel_rfl
theorem agg_84:aggSize Tryd.prog 84=some 5:=by kernel_rfl
instance:CAg Tryd.prog 84 5:=⟨agg_84⟩
theorem built_84: ∀vs,Tryd.prog.built 84 vs=Instr.fill (([(0,1),(1,1),(2,1),(3,1),(4,1)]:List (Nat×Nat)).toArray[·]?) ([.int .i64 0, .int .i64 0, .int .i64 0, .int .i64 0, .slice none 0 0]:List Value).toArray vs:=fun _=>by kernel_rfl
theorem ent_71:enters Tryd.prog 71=true:=by kernel_rfl
theorem fo_84_4:fieldOff Tryd.prog 84 4=some 4:=by kernel_rfl
instance:CFo Tryd.prog 84 4 4:=⟨fo_84_4⟩
theorem scal_48:isScal Tryd.prog 48=true:=by kernel_rfl
instance:CSc Tryd.prog 48:=⟨scal_48⟩
theorem built_107: ∀vs,Tryd.prog.built 107 vs=Instr.fill (([(0,1),(1,1)]:List (Nat×Nat)).toArray[·]?) ([.map none, .map none]:List Value).toArray vs:=fun _=>by kernel_rfl
theorem ent_80:enters Tryd.prog 80=true:=by kernel_rfl
theorem ent_99:enters Tryd.prog 99=true:=by kernel_rfl
theorem fo_68_1:fieldOff Tryd.prog 68 1=some 1:=by kernel_rfl
instance:CFo Tryd.prog 68 1 1:=⟨fo_68_1⟩
theorem fo_68_2:fieldOff Tryd.prog 68 2=some 2:=by kernel_rfl
instance:CFo Tryd.prog 68 2 2:=⟨fo_68_2⟩
theorem fo_68_3:fieldOff Tryd.prog 68 3=some 3:=by kernel_rfl
instance:CFo Tryd.prog 68 3 3:=⟨fo_68_3⟩
theorem ent_114:enters Tryd.prog 114=true:=by kernel_rfl
theorem ent_62:enters Tryd.prog 62=true:=by kernel_rfl
theorem ent_56:enters Tryd.prog 56=true:=by kernel_rfl
theorem ent_96:enters Tryd.prog 96=true:=by kernel_rfl
theorem ent_97:enters Tryd.prog 97=true:=by kernel_rfl
theorem ent_98:enters Tryd.prog 98=true:=by kernel_rfl
theorem zer_31:(Tryd.prog.info? 31).bind (·.zero)=some (.nilIface):=by kernel_rfl
theorem zer_3:(Tryd.prog.info? 3).bind (·.zero)=some (.int .i64 0):=by kernel_rfl
theorem built_68: ∀vs,Tryd.prog.built 68 vs=Instr.fill (([(0,1),(1,1),(2,1),(3,1),(4,1),(5,1),(6,1),(7,1),(8,1),(9,1)]:List (Nat×Nat)).toArray[·]?) ([.int .i64 0, .int .i64 0, .int .i64 0, .int .i64 0, .int .i64 0, .int .i64 0, .int .i64 0, .slice none 0 0, .slice none 0 0, .bool false]:List Value).toArray vs:=fun _=>by kernel_rfl
theorem ent_102:enters Tryd.prog 102=true:=by kernel_rfl
theorem ent_38:enters Tryd.prog 38=true:=by kernel_rfl
theorem ent_48:enters Tryd.prog 48=true:=by kernel_rfl
theorem ent_68:enters Tryd.prog 68=true:=by kernel_rfl
theorem sz_5:(Tryd.prog.info? 5).map (·.size)=some 1:=by kernel_rfl
theorem ent_11:enters Tryd.prog 11=true:=by kernel_rfl
theorem ent_23:enters Tryd.prog 23=true:=by kernel_rfl
theorem ent_24:enters Tryd.prog 24=true:=by kernel_rfl
theorem ent_25:enters Tryd.prog 25=true:=by kernel_rfl
theorem ent_27:enters Tryd.prog 27=true:=by kernel_rfl
theorem ent_30:enters Tryd.prog 30=true:=by kernel_rfl
theorem zs_5:(Tryd.prog.info? 5).map (fun i=>(i.zero,i.size))=some (some (.int .u8 0),1):=by kernel_rfl
theorem fo_132_2:fieldOff Tryd.prog 132 2=some 2:=by kernel_rfl
instance:CFo Tryd.prog 132 2 2:=⟨fo_132_2⟩
theorem fo_132_3:fieldOff Tryd.prog 132 3=some 3:=by kernel_rfl
instance:CFo Tryd.prog 132 3 3:=⟨fo_132_3⟩
theorem fo_132_4:fieldOff Tryd.prog 132 4=some 4:=by kernel_rfl
instance:CFo Tryd.prog 132 4 4:=⟨fo_132_4⟩
theorem scal_28:isScal Tryd.prog 28=true:=by kernel_rfl
instance:CSc Tryd.prog 28:=⟨scal_28⟩
theorem ent_120:enters Tryd.prog 120=true:=by kernel_rfl
theorem scal_5:isScal Tryd.prog 5=true:=by kernel_rfl
theorem zsb_5:(Tryd.prog.info? 5).map (fun i=>(i.zero,i.size,i.bytes))=some (some (.int .u8 0),1,1):=by kernel_rfl
theorem fo_84_2:fieldOff Tryd.prog 84 2=some 2:=by kernel_rfl
instance:CFo Tryd.prog 84 2 2:=⟨fo_84_2⟩
theorem scal_100:isScal Tryd.prog 100=true:=by kernel_rfl
instance:CSc Tryd.prog 100:=⟨scal_100⟩
theorem zs_84:(Tryd.prog.info? 84).map (fun i=>(i.zero,i.size))=some (some (.agg #[.int .i64 0, .int .i64 0, .int .i64 0, .int .i64 0, .slice none 0 0]),5):=by kernel_rfl
theorem zsb_84:(Tryd.prog.info? 84).map (fun i=>(i.zero,i.size,i.bytes))=some (some (.agg #[.int .i64 0, .int .i64 0, .int .i64 0, .int .i64 0, .slice none 0 0]),5,56):=by kernel_rfl
theorem ent_124:enters Tryd.prog 124=true:=by kernel_rfl
theorem built_78: ∀vs,Tryd.prog.built 78 vs=Instr.fill (([(0,1),(1,1),(2,1)]:List (Nat×Nat)).toArray[·]?) ([.pointer none, .map none, .slice none 0 0]:List Value).toArray vs:=fun _=>by kernel_rfl
theorem ent_72:enters Tryd.prog 72=true:=by kernel_rfl
theorem ent_73:enters Tryd.prog 73=true:=by kernel_rfl
instance:CFo Tryd.prog 78 0 0:=⟨by kernel_rfl⟩
theorem fo_78_1:fieldOff Tryd.prog 78 1=some 1:=by kernel_rfl
instance:CFo Tryd.prog 78 1 1:=⟨fo_78_1⟩
theorem fo_78_2:fieldOff Tryd.prog 78 2=some 2:=by kernel_rfl
instance:CFo Tryd.prog 78 2 2:=⟨fo_78_2⟩
theorem sz_76:(Tryd.prog.info? 76).map (·.size)=some 1:=by kernel_rfl
theorem sz_36:(Tryd.prog.info? 36).map (·.size)=some 1:=by kernel_rfl
theorem zer_76:(Tryd.prog.info? 76).bind (·.zero)=some (.map none):=by kernel_rfl
theorem ent_70:enters Tryd.prog 70=true:=by kernel_rfl
theorem fo_84_3:fieldOff Tryd.prog 84 3=some 3:=by kernel_rfl
instance:CFo Tryd.prog 84 3 3:=⟨fo_84_3⟩
theorem ent_87:enters Tryd.prog 87=true:=by kernel_rfl
theorem ent_67:enters Tryd.prog 67=true:=by kernel_rfl
theorem fo_68_9:fieldOff Tryd.prog 68 9=some 9:=by kernel_rfl
theorem ent_31:enters Tryd.prog 31=true:=by kernel_rfl
theorem zs_110:(Tryd.prog.info? 110).map (fun i=>(i.zero,i.size))=some (some (.agg #[.slice none 0 0, .slice none 0 0]),2):=by kernel_rfl
theorem zsb_110:(Tryd.prog.info? 110).map (fun i=>(i.zero,i.size,i.bytes))=some (some (.agg #[.slice none 0 0, .slice none 0 0]),2,48):=by kernel_rfl
theorem ent_101:enters Tryd.prog 101=true:=by kernel_rfl
theorem ent_37:enters Tryd.prog 37=true:=by kernel_rfl
theorem sz_48:(Tryd.prog.info? 48).map (·.size)=some 1:=by kernel_rfl
theorem ent_105:enters Tryd.prog 105=true:=by kernel_rfl
theorem ent_106:enters Tryd.prog 106=true:=by kernel_rfl
theorem ent_104:enters Tryd.prog 104=true:=by kernel_rfl
theorem fo_84_0:fieldOff Tryd.prog 84 0=some 0:=by kernel_rfl
instance:CFo Tryd.prog 84 0 0:=⟨fo_84_0⟩
theorem fo_107_1:fieldOff Tryd.prog 107 1=some 1:=by kernel_rfl
instance:CFo Tryd.prog 107 1 1:=⟨fo_107_1⟩
theorem ent_89:enters Tryd.prog 89=true:=by kernel_rfl
theorem ent_117:enters Tryd.prog 117=true:=by kernel_rfl
theorem ent_91:enters Tryd.prog 91=true:=by kernel_rfl
theorem ent_107:enters Tryd.prog 107=true:=by kernel_rfl
theorem ent_69:enters Tryd.prog 69=true:=by kernel_rfl
theorem ent_75:enters Tryd.prog 75=true:=by kernel_rfl
theorem ent_76:enters Tryd.prog 76=true:=by kernel_rfl
theorem ent_77:enters Tryd.prog 77=true:=by kernel_rfl
theorem zs_3:(Tryd.prog.info? 3).map (fun i=>(i.zero,i.size))=some (some (.int .i64 0),1):=by kernel_rfl
theorem zsb_3:(Tryd.prog.info? 3).map (fun i=>(i.zero,i.size,i.bytes))=some (some (.int .i64 0),1,8):=by kernel_rfl
theorem ent_74:enters Tryd.prog 74=true:=by kernel_rfl
theorem ent_35:enters Tryd.prog 35=true:=by kernel_rfl
theorem ent_36:enters Tryd.prog 36=true:=by kernel_rfl
theorem ent_40:enters Tryd.prog 40=true:=by kernel_rfl
theorem ent_41:enters Tryd.prog 41=true:=by kernel_rfl
theorem ent_92:enters Tryd.prog 92=true:=by kernel_rfl
theorem ent_7:enters Tryd.prog 7=true:=by kernel_rfl
theorem ent_22:enters Tryd.prog 22=true:=by kernel_rfl
theorem ent_28:enters Tryd.prog 28=true:=by kernel_rfl
theorem ent_29:enters Tryd.prog 29=true:=by kernel_rfl
theorem ent_121:enters Tryd.prog 121=true:=by kernel_rfl
theorem ent_122:enters Tryd.prog 122=true:=by kernel_rfl
instance:CIf Tryd.prog 31:=⟨_,Tryd.underlying31⟩
end Go.Proofs.YtkknmpkcfpdllaaDoor.B
