/-
  The table of the types of this seat, held against the program by computation. MADE BY A PROGRAM OF THIS CLAIM.
-/
import Derived.Test.YtkkbmikoifnnbaaGreatKAB
import Derived.Test.YtkkbmikoifnnbaaGreatKAD
import Derived.Test.YtkkbmikoifnnbaaGreatProg
import Derived.KernelRfl
set_option linter.unusedVariables false
set_option linter.unusedSimpArgs false
namespace Go.Proofs.YtkkbmikoifnnbaaGreat
open Go.Eng
set_option maxRecDepth 100000
def ti_1:TI:=⟨.other,1,8,[.d (.val .nilFunc)]⟩
def ti_2:TI:=⟨.int .i64,1,8,[.d (.val (.int .i64 0))]⟩
def ti_3:TI:=⟨.int .i64,1,8,[.d (.val (.int .i64 0))]⟩
def ti_4:TI:=⟨.bool,1,1,[.d (.val (.bool false))]⟩
def ti_5:TI:=⟨.int .u8,1,1,[.d (.val (.int .u8 0))]⟩
def ti_6:TI:=⟨.int .u8,1,1,[.d (.val (.int .u8 0))]⟩
def ti_7:TI:=⟨.struct [(2,0,1),(3,1,1),(4,2,1),(6,3,1)],4,24,[.d (.val (.int .i64 0)),.d (.val (.int .i64 0)),.d (.val (.bool false)),.d (.val (.int .u8 0))]⟩
def ti_8:TI:=⟨.struct [(2,0,1),(3,1,1),(4,2,1),(6,3,1)],4,24,[.d (.val (.int .i64 0)),.d (.val (.int .i64 0)),.d (.val (.bool false)),.d (.val (.int .u8 0))]⟩
def ti_9:TI:=⟨.str,1,16,[.d (.str [])]⟩
def ti_10:TI:=⟨.str,1,16,[.d (.str [])]⟩
def ti_11:TI:=⟨.str,1,16,[.d (.str [])]⟩
def ti_12:TI:=⟨.int .u64,1,8,[.d (.val (.int .u64 0))]⟩
def ti_13:TI:=⟨.struct [(9,0,1),(12,1,1)],2,24,[.d (.str []),.d (.val (.int .u64 0))]⟩
def ti_14:TI:=⟨.struct [(9,0,1),(12,1,1)],2,24,[.d (.str []),.d (.val (.int .u64 0))]⟩
def ti_15:TI:=⟨.ptr 192,1,8,[.d (.val (.pointer none))]⟩
def ti_16:TI:=⟨.ptr 195,1,8,[.d (.val (.pointer none))]⟩
def ti_17:TI:=⟨.ptr 203,1,8,[.d (.val (.pointer none))]⟩
def ti_18:TI:=⟨.struct [(17,0,1)],1,8,[.d (.val (.pointer none))]⟩
def ti_19:TI:=⟨.struct [(17,0,1)],1,8,[.d (.val (.pointer none))]⟩
def ti_20:TI:=⟨.other,1,16,[.d (.val .nilIface)]⟩
def ti_21:TI:=⟨.int .i32,1,4,[.d (.val (.int .i32 0))]⟩
def ti_22:TI:=⟨.slice 5,1,24,[.nilS]⟩
def ti_23:TI:=⟨.slice 49,1,24,[.nilS]⟩
def ti_24:TI:=⟨.slice 4,1,24,[.nilS]⟩
def ti_26:TI:=⟨.other,1,8,[.d (.val .nilFunc)]⟩
def ti_27:TI:=⟨.slice 43,1,24,[.nilS]⟩
def ti_28:TI:=⟨.struct [(3,0,1),(27,1,1)],2,32,[.d (.val (.int .i64 0)),.nilS]⟩
def ti_29:TI:=⟨.struct [(3,0,1),(27,1,1)],2,32,[.d (.val (.int .i64 0)),.nilS]⟩
def ti_30:TI:=⟨.other,1,8,[.d (.val .nilFunc)]⟩
def ti_31:TI:=⟨.slice 45,1,24,[.nilS]⟩
def ti_32:TI:=⟨.other,1,8,[.d (.val .nilFunc)]⟩
def ti_33:TI:=⟨.other,1,8,[.d (.val .nilFunc)]⟩
def ti_34:TI:=⟨.other,1,8,[.d (.val .nilFunc)]⟩
def ti_35:TI:=⟨.other,1,8,[.d (.val .nilFunc)]⟩
def ti_36:TI:=⟨.other,1,8,[.d (.val .nilFunc)]⟩
def ti_37:TI:=⟨.other,1,8,[.d (.val .nilFunc)]⟩
def ti_38:TI:=⟨.other,1,8,[.d (.val .nilFunc)]⟩
def ti_39:TI:=⟨.other,1,8,[.d (.val .nilFunc)]⟩
def ti_40:TI:=⟨.slice 42,1,24,[.nilS]⟩
def ti_41:TI:=⟨.struct [(9,0,1),(40,1,1)],2,40,[.d (.str []),.nilS]⟩
def ti_42:TI:=⟨.struct [(9,0,1),(40,1,1)],2,40,[.d (.str []),.nilS]⟩
def ti_43:TI:=⟨.slice 3,1,24,[.nilS]⟩
def ti_44:TI:=⟨.struct [(3,0,1),(42,1,2),(42,3,2),(40,5,1),(43,6,1),(3,7,1),(4,8,1)],9,152,[.d (.val (.int .i64 0)),.d (.str []),.nilS,.d (.str []),.nilS,.nilS,.nilS,.d (.val (.int .i64 0)),.d (.val (.bool false))]⟩
def ti_45:TI:=⟨.struct [(3,0,1),(42,1,2),(42,3,2),(40,5,1),(43,6,1),(3,7,1),(4,8,1)],9,152,[.d (.val (.int .i64 0)),.d (.str []),.nilS,.d (.str []),.nilS,.nilS,.nilS,.d (.val (.int .i64 0)),.d (.val (.bool false))]⟩
def ti_46:TI:=⟨.struct [(45,0,9),(4,9,1)],10,160,[.d (.val (.int .i64 0)),.d (.str []),.nilS,.d (.str []),.nilS,.nilS,.nilS,.d (.val (.int .i64 0)),.d (.val (.bool false)),.d (.val (.bool false))]⟩
def ti_47:TI:=⟨.struct [(45,0,9),(4,9,1)],10,160,[.d (.val (.int .i64 0)),.d (.str []),.nilS,.d (.str []),.nilS,.nilS,.nilS,.d (.val (.int .i64 0)),.d (.val (.bool false)),.d (.val (.bool false))]⟩
def ti_48:TI:=⟨.struct [(3,0,1),(47,1,10),(23,11,1)],12,192,[.d (.val (.int .i64 0)),.d (.val (.int .i64 0)),.d (.str []),.nilS,.d (.str []),.nilS,.nilS,.nilS,.d (.val (.int .i64 0)),.d (.val (.bool false)),.d (.val (.bool false)),.nilS]⟩
def ti_49:TI:=⟨.struct [(3,0,1),(47,1,10),(23,11,1)],12,192,[.d (.val (.int .i64 0)),.d (.val (.int .i64 0)),.d (.str []),.nilS,.d (.str []),.nilS,.nilS,.nilS,.d (.val (.int .i64 0)),.d (.val (.bool false)),.d (.val (.bool false)),.nilS]⟩
def ti_50:TI:=⟨.other,1,8,[.d (.val .nilFunc)]⟩
def ti_52:TI:=⟨.other,1,8,[.d (.val .nilFunc)]⟩
def ti_53:TI:=⟨.ptr 89,1,8,[.d (.val (.pointer none))]⟩
def ti_54:TI:=⟨.other,1,8,[.d (.val .nilFunc)]⟩
def ti_55:TI:=⟨.slice 120,1,24,[.nilS]⟩
def ti_56:TI:=⟨.struct [(55,0,1)],1,24,[.nilS]⟩
def ti_57:TI:=⟨.struct [(55,0,1)],1,24,[.nilS]⟩
def ti_59:TI:=⟨.other,1,8,[.d (.val .nilFunc)]⟩
def ti_60:TI:=⟨.other,1,8,[.d (.val .nilFunc)]⟩
def ti_61:TI:=⟨.ptr 65,1,8,[.d (.val (.pointer none))]⟩
def ti_63:TI:=⟨.other,1,8,[.d (.val .nilFunc)]⟩
def ti_64:TI:=⟨.struct [(29,0,2),(31,2,1),(23,3,1)],4,80,[.d (.val (.int .i64 0)),.nilS,.nilS,.nilS]⟩
def ti_65:TI:=⟨.struct [(29,0,2),(31,2,1),(23,3,1)],4,80,[.d (.val (.int .i64 0)),.nilS,.nilS,.nilS]⟩
def ti_67:TI:=⟨.other,1,8,[.d (.val .nilFunc)]⟩
def ti_68:TI:=⟨.other,1,8,[.d (.val .nilFunc)]⟩
def ti_69:TI:=⟨.other,1,8,[.d (.val .nilFunc)]⟩
def ti_70:TI:=⟨.other,1,8,[.d (.val .nilFunc)]⟩
def ti_72:TI:=⟨.other,1,8,[.d (.val .nilFunc)]⟩
def ti_73:TI:=⟨.other,1,8,[.d (.val .nilFunc)]⟩
def ti_74:TI:=⟨.other,1,8,[.d (.val .nilFunc)]⟩
def ti_75:TI:=⟨.other,1,8,[.d (.val .nilFunc)]⟩
def ti_76:TI:=⟨.other,1,8,[.d (.val .nilFunc)]⟩
def ti_77:TI:=⟨.other,1,8,[.d (.val .nilFunc)]⟩
def ti_78:TI:=⟨.other,1,8,[.d (.val .nilFunc)]⟩
def ti_79:TI:=⟨.other,1,8,[.d (.val .nilFunc)]⟩
def ti_80:TI:=⟨.other,1,8,[.d (.val .nilFunc)]⟩
def ti_81:TI:=⟨.other,1,8,[.d (.val .nilFunc)]⟩
def ti_82:TI:=⟨.other,1,8,[.d (.val .nilFunc)]⟩
def ti_83:TI:=⟨.other,1,8,[.d (.val .nilFunc)]⟩
def ti_84:TI:=⟨.other,1,8,[.d (.val .nilFunc)]⟩
def ti_85:TI:=⟨.other,1,8,[.d (.val .nilFunc)]⟩
def ti_86:TI:=⟨.other,1,8,[.d (.val .nilFunc)]⟩
def ti_87:TI:=⟨.other,1,8,[.d (.val .nilFunc)]⟩
def ti_88:TI:=⟨.struct [(22,0,1),(3,1,1)],2,32,[.nilS,.d (.val (.int .i64 0))]⟩
def ti_89:TI:=⟨.struct [(22,0,1),(3,1,1)],2,32,[.nilS,.d (.val (.int .i64 0))]⟩
def ti_90:TI:=⟨.other,1,8,[.d (.val .nilFunc)]⟩
def ti_91:TI:=⟨.other,1,8,[.d (.val .nilFunc)]⟩
def ti_92:TI:=⟨.other,1,8,[.d (.val .nilFunc)]⟩
def ti_93:TI:=⟨.other,1,8,[.d (.val .nilFunc)]⟩
def ti_94:TI:=⟨.other,1,8,[.d (.val .nilFunc)]⟩
def ti_96:TI:=⟨.other,1,8,[.d (.val .nilFunc)]⟩
def ti_97:TI:=⟨.other,1,8,[.d (.val .nilFunc)]⟩
def ti_98:TI:=⟨.other,1,8,[.d (.val .nilFunc)]⟩
def ti_99:TI:=⟨.other,1,8,[.d (.val .nilFunc)]⟩
def ti_100:TI:=⟨.other,1,8,[.d (.val .nilFunc)]⟩
def ti_102:TI:=⟨.other,1,8,[.d (.val .nilFunc)]⟩
def ti_103:TI:=⟨.arr 2 4,2,2,[.d (.val (.bool false)),.d (.val (.bool false))]⟩
def ti_104:TI:=⟨.other,1,8,[.d (.val .nilFunc)]⟩
def ti_105:TI:=⟨.other,1,8,[.d (.val .nilFunc)]⟩
def ti_106:TI:=⟨.other,1,8,[.d (.val .nilFunc)]⟩
def ti_107:TI:=⟨.other,1,8,[.d (.val .nilFunc)]⟩
def ti_108:TI:=⟨.other,1,8,[.d (.val .nilFunc)]⟩
def ti_109:TI:=⟨.other,1,8,[.d (.val .nilFunc)]⟩
def ti_110:TI:=⟨.other,1,8,[.d (.val .nilFunc)]⟩
def ti_111:TI:=⟨.other,1,8,[.d (.val .nilFunc)]⟩
def ti_112:TI:=⟨.other,1,8,[.d (.val .nilFunc)]⟩
def ti_113:TI:=⟨.other,1,8,[.d (.val .nilFunc)]⟩
def ti_114:TI:=⟨.other,1,8,[.d (.val .nilFunc)]⟩
def ti_115:TI:=⟨.other,1,8,[.d (.val .nilFunc)]⟩
def ti_116:TI:=⟨.slice 47,1,24,[.nilS]⟩
def ti_117:TI:=⟨.other,1,8,[.d (.val .nilFunc)]⟩
def ti_118:TI:=⟨.other,1,8,[.d (.val .nilFunc)]⟩
def ti_119:TI:=⟨.struct [(9,0,1),(43,1,1),(3,2,1)],3,48,[.d (.str []),.nilS,.d (.val (.int .i64 0))]⟩
def ti_120:TI:=⟨.struct [(9,0,1),(43,1,1),(3,2,1)],3,48,[.d (.str []),.nilS,.d (.val (.int .i64 0))]⟩
def ti_121:TI:=⟨.other,1,8,[.d (.val .nilFunc)]⟩
def ti_122:TI:=⟨.slice 9,1,24,[.nilS]⟩
def ti_123:TI:=⟨.other,1,8,[.d (.val .nilFunc)]⟩
def ti_124:TI:=⟨.other,1,8,[.d (.val .nilFunc)]⟩
def ti_125:TI:=⟨.other,1,8,[.d (.val .nilFunc)]⟩
def ti_126:TI:=⟨.other,1,8,[.d (.val .nilFunc)]⟩
def ti_127:TI:=⟨.other,1,8,[.d (.val .nilFunc)]⟩
def ti_128:TI:=⟨.other,1,8,[.d (.val .nilFunc)]⟩
def ti_129:TI:=⟨.other,1,8,[.d (.val .nilFunc)]⟩
def ti_130:TI:=⟨.other,1,8,[.d (.val .nilFunc)]⟩
def ti_131:TI:=⟨.other,1,8,[.d (.val .nilFunc)]⟩
def ti_132:TI:=⟨.other,1,8,[.d (.val .nilFunc)]⟩
def ti_133:TI:=⟨.other,1,8,[.d (.val .nilFunc)]⟩
def ti_134:TI:=⟨.other,1,8,[.d (.val .nilFunc)]⟩
def ti_135:TI:=⟨.other,1,8,[.d (.val .nilFunc)]⟩
def ti_136:TI:=⟨.other,1,8,[.d (.val .nilFunc)]⟩
def ti_137:TI:=⟨.other,1,8,[.d (.val .nilFunc)]⟩
def ti_138:TI:=⟨.other,1,8,[.d (.val .nilFunc)]⟩
def ti_139:TI:=⟨.other,1,8,[.d (.val .nilFunc)]⟩
def ti_140:TI:=⟨.other,1,8,[.d (.val .nilFunc)]⟩
def ti_141:TI:=⟨.other,1,8,[.d (.val .nilFunc)]⟩
def ti_142:TI:=⟨.other,1,8,[.d (.val .nilFunc)]⟩
def ti_143:TI:=⟨.other,1,8,[.d (.val .nilFunc)]⟩
def ti_144:TI:=⟨.other,1,8,[.d (.val .nilFunc)]⟩
def ti_145:TI:=⟨.other,1,8,[.d (.val .nilFunc)]⟩
def ti_146:TI:=⟨.int .u64,1,8,[.d (.val (.int .u64 0))]⟩
def ti_147:TI:=⟨.other,1,8,[.d (.val .nilFunc)]⟩
def ti_148:TI:=⟨.other,1,8,[.d (.val .nilFunc)]⟩
def ti_149:TI:=⟨.other,1,8,[.d (.val .nilFunc)]⟩
def ti_150:TI:=⟨.other,1,8,[.d (.val .nilFunc)]⟩
def ti_151:TI:=⟨.other,1,8,[.d (.val .nilFunc)]⟩
def ti_152:TI:=⟨.other,1,8,[.d (.val .nilFunc)]⟩
def ti_153:TI:=⟨.other,1,8,[.d (.val .nilFunc)]⟩
def ti_154:TI:=⟨.int .i64,1,8,[.d (.val (.int .i64 0))]⟩
def ti_156:TI:=⟨.other,1,8,[.d (.val .nilFunc)]⟩
def ti_157:TI:=⟨.other,1,8,[.d (.val .nilFunc)]⟩
def ti_158:TI:=⟨.other,1,8,[.d (.val .nilFunc)]⟩
def ti_160:TI:=⟨.other,1,8,[.d (.val .nilFunc)]⟩
def ti_161:TI:=⟨.other,1,8,[.d (.val .nilFunc)]⟩
def ti_162:TI:=⟨.int .u32,1,4,[.d (.val (.int .u32 0))]⟩
def ti_163:TI:=⟨.other,1,8,[.d (.val .nilFunc)]⟩
def ti_164:TI:=⟨.int .u64,1,8,[.d (.val (.int .u64 0))]⟩
def ti_165:TI:=⟨.other,1,8,[.d (.val .nilFunc)]⟩
def ti_166:TI:=⟨.ptr 168,1,8,[.d (.val (.pointer none))]⟩
def ti_167:TI:=⟨.struct [(166,0,1),(22,1,1)],2,32,[.d (.val (.pointer none)),.nilS]⟩
def ti_168:TI:=⟨.struct [(166,0,1),(22,1,1)],2,32,[.d (.val (.pointer none)),.nilS]⟩
def ti_169:TI:=⟨.other,1,8,[.d (.val .nilFunc)]⟩
def ti_170:TI:=⟨.other,1,16,[.d (.val .nilIface)]⟩
def ti_171:TI:=⟨.other,1,16,[.d (.val .nilIface)]⟩
def ti_173:TI:=⟨.other,1,8,[.d (.val .nilFunc)]⟩
def ti_174:TI:=⟨.other,1,8,[.d (.val .nilFunc)]⟩
def ti_176:TI:=⟨.other,1,8,[.d (.val .nilFunc)]⟩
def ti_177:TI:=⟨.other,1,8,[.d (.val .nilFunc)]⟩
def ti_178:TI:=⟨.int .u64,1,8,[.d (.val (.int .u64 0))]⟩
def ti_179:TI:=⟨.other,1,8,[.d (.val .nilFunc)]⟩
def ti_180:TI:=⟨.other,1,8,[.d (.val .nilFunc)]⟩
def ti_181:TI:=⟨.other,1,8,[.d (.val .nilFunc)]⟩
def ti_182:TI:=⟨.ptr 3,1,8,[.d (.val (.pointer none))]⟩
def ti_183:TI:=⟨.other,1,8,[.d (.val .nilFunc)]⟩
def ti_184:TI:=⟨.ptr 5,1,8,[.d (.val (.pointer none))]⟩
def ti_185:TI:=⟨.ptr 178,1,8,[.d (.val (.pointer none))]⟩
def ti_187:TI:=⟨.other,1,8,[.d (.val .nilFunc)]⟩
def ti_189:TI:=⟨.other,1,8,[.d (.val .nilFunc)]⟩
def ti_190:TI:=⟨.other,1,8,[.d (.val .nilFunc)]⟩
def ti_191:TI:=⟨.struct [(17,0,1),(17,1,1),(17,2,1),(9,3,1)],4,40,[.d (.val (.pointer none)),.d (.val (.pointer none)),.d (.val (.pointer none)),.d (.str [])]⟩
def ti_192:TI:=⟨.struct [(17,0,1),(17,1,1),(17,2,1),(9,3,1)],4,40,[.d (.val (.pointer none)),.d (.val (.pointer none)),.d (.val (.pointer none)),.d (.str [])]⟩
def ti_196:TI:=⟨.other,1,8,[.d (.val .nilFunc)]⟩
def ti_197:TI:=⟨.int .u8,1,1,[.d (.val (.int .u8 0))]⟩
def ti_198:TI:=⟨.int .u8,1,1,[.d (.val (.int .u8 0))]⟩
def ti_199:TI:=⟨.other,1,8,[.d (.val .nilFunc)]⟩
def ti_200:TI:=⟨.int .i32,1,4,[.d (.val (.int .i32 0))]⟩
def ti_201:TI:=⟨.int .i32,1,4,[.d (.val (.int .i32 0))]⟩
def ti_202:TI:=⟨.struct [(12,0,1),(12,1,1),(162,2,1),(197,3,1),(5,4,1),(5,5,1),(198,6,1),(199,7,1),(184,8,1),(200,9,1),(201,10,1)],11,48,[.d (.val (.int .u64 0)),.d (.val (.int .u64 0)),.d (.val (.int .u32 0)),.d (.val (.int .u8 0)),.d (.val (.int .u8 0)),.d (.val (.int .u8 0)),.d (.val (.int .u8 0)),.d (.val .nilFunc),.d (.val (.pointer none)),.d (.val (.int .i32 0)),.d (.val (.int .i32 0))]⟩
def ti_203:TI:=⟨.struct [(12,0,1),(12,1,1),(162,2,1),(197,3,1),(5,4,1),(5,5,1),(198,6,1),(199,7,1),(184,8,1),(200,9,1),(201,10,1)],11,48,[.d (.val (.int .u64 0)),.d (.val (.int .u64 0)),.d (.val (.int .u32 0)),.d (.val (.int .u8 0)),.d (.val (.int .u8 0)),.d (.val (.int .u8 0)),.d (.val (.int .u8 0)),.d (.val .nilFunc),.d (.val (.pointer none)),.d (.val (.int .i32 0)),.d (.val (.int .i32 0))]⟩
def ti_204:TI:=⟨.other,1,8,[.d (.val .nilFunc)]⟩
def ti_205:TI:=⟨.other,1,8,[.d (.val .nilFunc)]⟩
def tis:List (Option TI):=[none,some ti_1,some ti_2,some ti_3,some ti_4,some ti_5,some ti_6,some ti_7,some ti_8,some ti_9,some ti_10,some ti_11,some ti_12,some ti_13,some ti_14,some ti_15,some ti_16,some ti_17,some ti_18,some ti_19,some ti_20,some ti_21,some ti_22,some ti_23,some ti_24,none,some ti_26,some ti_27,some ti_28,some ti_29,some ti_30,some ti_31,some ti_32,some ti_33,some ti_34,some ti_35,some ti_36,some ti_37,some ti_38,some ti_39,some ti_40,some ti_41,some ti_42,some ti_43,some ti_44,some ti_45,some ti_46,some ti_47,some ti_48,some ti_49,some ti_50,none,some ti_52,some ti_53,some ti_54,some ti_55,some ti_56,some ti_57,none,some ti_59,some ti_60,some ti_61,none,some ti_63,some ti_64,some ti_65,none,some ti_67,some ti_68,some ti_69,some ti_70,none,some ti_72,some ti_73,some ti_74,some ti_75,some ti_76,some ti_77,some ti_78,some ti_79,some ti_80,some ti_81,some ti_82,some ti_83,some ti_84,some ti_85,some ti_86,some ti_87,some ti_88,some ti_89,some ti_90,some ti_91,some ti_92,some ti_93,some ti_94,none,some ti_96,some ti_97,some ti_98,some ti_99,some ti_100,none,some ti_102,some ti_103,some ti_104,some ti_105,some ti_106,some ti_107,some ti_108,some ti_109,some ti_110,some ti_111,some ti_112,some ti_113,some ti_114,some ti_115,some ti_116,some ti_117,some ti_118,some ti_119,some ti_120,some ti_121,some ti_122,some ti_123,some ti_124,some ti_125,some ti_126,some ti_127,some ti_128,some ti_129,some ti_130,some ti_131,some ti_132,some ti_133,some ti_134,some ti_135,some ti_136,some ti_137,some ti_138,some ti_139,some ti_140,some ti_141,some ti_142,some ti_143,some ti_144,some ti_145,some ti_146,some ti_147,some ti_148,some ti_149,some ti_150,some ti_151,some ti_152,some ti_153,some ti_154,none,some ti_156,some ti_157,some ti_158,none,some ti_160,some ti_161,some ti_162,some ti_163,some ti_164,some ti_165,some ti_166,some ti_167,some ti_168,some ti_169,some ti_170,some ti_171,none,some ti_173,some ti_174,none,some ti_176,some ti_177,some ti_178,some ti_179,some ti_180,some ti_181,some ti_182,some ti_183,some ti_184,some ti_185,none,some ti_187,none,some ti_189,some ti_190,some ti_191,some ti_192,none,none,none,some ti_196,some ti_197,some ti_198,some ti_199,some ti_200,some ti_201,some ti_202,some ti_203,some ti_204,some ti_205]
theorem tok_1:TI.Ok Tryz.prog 1 ti_1:=.of_check (by kernel_rfl) (by kernel_rfl)
theorem tok_2:TI.Ok Tryz.prog 2 ti_2:=.of_check (by kernel_rfl) (by kernel_rfl)
theorem tok_3:TI.Ok Tryz.prog 3 ti_3:=.of_check (by kernel_rfl) (by kernel_rfl)
theorem tok_4:TI.Ok Tryz.prog 4 ti_4:=.of_check (by kernel_rfl) (by kernel_rfl)
theorem tok_5:TI.Ok Tryz.prog 5 ti_5:=.of_check (by kernel_rfl) (by kernel_rfl)
theorem tok_6:TI.Ok Tryz.prog 6 ti_6:=.of_check (by kernel_rfl) (by kernel_rfl)
theorem tok_7:TI.Ok Tryz.prog 7 ti_7:=.of_check (by kernel_rfl) (by kernel_rfl)
theorem tok_8:TI.Ok Tryz.prog 8 ti_8:=.of_check (by kernel_rfl) (by kernel_rfl)
theorem tok_9:TI.Ok Tryz.prog 9 ti_9:=.of_check (by kernel_rfl) (by kernel_rfl)
theorem tok_10:TI.Ok Tryz.prog 10 ti_10:=.of_check (by kernel_rfl) (by kernel_rfl)
theorem tok_11:TI.Ok Tryz.prog 11 ti_11:=.of_check (by kernel_rfl) (by kernel_rfl)
theorem tok_12:TI.Ok Tryz.prog 12 ti_12:=.of_check (by kernel_rfl) (by kernel_rfl)
theorem tok_13:TI.Ok Tryz.prog 13 ti_13:=.of_check (by kernel_rfl) (by kernel_rfl)
theorem tok_14:TI.Ok Tryz.prog 14 ti_14:=.of_check (by kernel_rfl) (by kernel_rfl)
theorem tok_15:TI.Ok Tryz.prog 15 ti_15:=.of_check (by kernel_rfl) (by kernel_rfl)
theorem tok_16:TI.Ok Tryz.prog 16 ti_16:=.of_check (by kernel_rfl) (by kernel_rfl)
theorem tok_17:TI.Ok Tryz.prog 17 ti_17:=.of_check (by kernel_rfl) (by kernel_rfl)
theorem tok_18:TI.Ok Tryz.prog 18 ti_18:=.of_check (by kernel_rfl) (by kernel_rfl)
theorem tok_19:TI.Ok Tryz.prog 19 ti_19:=.of_check (by kernel_rfl) (by kernel_rfl)
theorem tok_20:TI.Ok Tryz.prog 20 ti_20:=.of_check (by kernel_rfl) (by kernel_rfl)
theorem tok_21:TI.Ok Tryz.prog 21 ti_21:=.of_check (by kernel_rfl) (by kernel_rfl)
theorem tok_22:TI.Ok Tryz.prog 22 ti_22:=.of_check (by kernel_rfl) (by kernel_rfl)
theorem tok_23:TI.Ok Tryz.prog 23 ti_23:=.of_check (by kernel_rfl) (by kernel_rfl)
theorem tok_24:TI.Ok Tryz.prog 24 ti_24:=.of_check (by kernel_rfl) (by kernel_rfl)
theorem tok_26:TI.Ok Tryz.prog 26 ti_26:=.of_check (by kernel_rfl) (by kernel_rfl)
theorem tok_27:TI.Ok Tryz.prog 27 ti_27:=.of_check (by kernel_rfl) (by kernel_rfl)
theorem tok_28:TI.Ok Tryz.prog 28 ti_28:=.of_check (by kernel_rfl) (by kernel_rfl)
theorem tok_29:TI.Ok Tryz.prog 29 ti_29:=.of_check (by kernel_rfl) (by kernel_rfl)
theorem tok_30:TI.Ok Tryz.prog 30 ti_30:=.of_check (by kernel_rfl) (by kernel_rfl)
theorem tok_31:TI.Ok Tryz.prog 31 ti_31:=.of_check (by kernel_rfl) (by kernel_rfl)
theorem tok_32:TI.Ok Tryz.prog 32 ti_32:=.of_check (by kernel_rfl) (by kernel_rfl)
theorem tok_33:TI.Ok Tryz.prog 33 ti_33:=.of_check (by kernel_rfl) (by kernel_rfl)
theorem tok_34:TI.Ok Tryz.prog 34 ti_34:=.of_check (by kernel_rfl) (by kernel_rfl)
theorem tok_35:TI.Ok Tryz.prog 35 ti_35:=.of_check (by kernel_rfl) (by kernel_rfl)
theorem tok_36:TI.Ok Tryz.prog 36 ti_36:=.of_check (by kernel_rfl) (by kernel_rfl)
theorem tok_37:TI.Ok Tryz.prog 37 ti_37:=.of_check (by kernel_rfl) (by kernel_rfl)
theorem tok_38:TI.Ok Tryz.prog 38 ti_38:=.of_check (by kernel_rfl) (by kernel_rfl)
theorem tok_39:TI.Ok Tryz.prog 39 ti_39:=.of_check (by kernel_rfl) (by kernel_rfl)
theorem tok_40:TI.Ok Tryz.prog 40 ti_40:=.of_check (by kernel_rfl) (by kernel_rfl)
theorem tok_41:TI.Ok Tryz.prog 41 ti_41:=.of_check (by kernel_rfl) (by kernel_rfl)
theorem tok_42:TI.Ok Tryz.prog 42 ti_42:=.of_check (by kernel_rfl) (by kernel_rfl)
theorem tok_43:TI.Ok Tryz.prog 43 ti_43:=.of_check (by kernel_rfl) (by kernel_rfl)
theorem tok_44:TI.Ok Tryz.prog 44 ti_44:=.of_check (by kernel_rfl) (by kernel_rfl)
theorem tok_45:TI.Ok Tryz.prog 45 ti_45:=.of_check (by kernel_rfl) (by kernel_rfl)
theorem tok_46:TI.Ok Tryz.prog 46 ti_46:=.of_check (by kernel_rfl) (by kernel_rfl)
theorem tok_47:TI.Ok Tryz.prog 47 ti_47:=.of_check (by kernel_rfl) (by kernel_rfl)
theorem tok_48:TI.Ok Tryz.prog 48 ti_48:=.of_check (by kernel_rfl) (by kernel_rfl)
theorem tok_49:TI.Ok Tryz.prog 49 ti_49:=.of_check (by kernel_rfl) (by kernel_rfl)
theorem tok_50:TI.Ok Tryz.prog 50 ti_50:=.of_check (by kernel_rfl) (by kernel_rfl)
theorem tok_52:TI.Ok Tryz.prog 52 ti_52:=.of_check (by kernel_rfl) (by kernel_rfl)
theorem tok_53:TI.Ok Tryz.prog 53 ti_53:=.of_check (by kernel_rfl) (by kernel_rfl)
theorem tok_54:TI.Ok Tryz.prog 54 ti_54:=.of_check (by kernel_rfl) (by kernel_rfl)
theorem tok_55:TI.Ok Tryz.prog 55 ti_55:=.of_check (by kernel_rfl) (by kernel_rfl)
theorem tok_56:TI.Ok Tryz.prog 56 ti_56:=.of_check (by kernel_rfl) (by kernel_rfl)
theorem tok_57:TI.Ok Tryz.prog 57 ti_57:=.of_check (by kernel_rfl) (by kernel_rfl)
theorem tok_59:TI.Ok Tryz.prog 59 ti_59:=.of_check (by kernel_rfl) (by kernel_rfl)
theorem tok_60:TI.Ok Tryz.prog 60 ti_60:=.of_check (by kernel_rfl) (by kernel_rfl)
theorem tok_61:TI.Ok Tryz.prog 61 ti_61:=.of_check (by kernel_rfl) (by kernel_rfl)
theorem tok_63:TI.Ok Tryz.prog 63 ti_63:=.of_check (by kernel_rfl) (by kernel_rfl)
theorem tok_64:TI.Ok Tryz.prog 64 ti_64:=.of_check (by kernel_rfl) (by kernel_rfl)
theorem tok_65:TI.Ok Tryz.prog 65 ti_65:=.of_check (by kernel_rfl) (by kernel_rfl)
theorem tok_67:TI.Ok Tryz.prog 67 ti_67:=.of_check (by kernel_rfl) (by kernel_rfl)
theorem tok_68:TI.Ok Tryz.prog 68 ti_68:=.of_check (by kernel_rfl) (by kernel_rfl)
theorem tok_69:TI.Ok Tryz.prog 69 ti_69:=.of_check (by kernel_rfl) (by kernel_rfl)
theorem tok_70:TI.Ok Tryz.prog 70 ti_70:=.of_check (by kernel_rfl) (by kernel_rfl)
theorem tok_72:TI.Ok Tryz.prog 72 ti_72:=.of_check (by kernel_rfl) (by kernel_rfl)
theorem tok_73:TI.Ok Tryz.prog 73 ti_73:=.of_check (by kernel_rfl) (by kernel_rfl)
theorem tok_74:TI.Ok Tryz.prog 74 ti_74:=.of_check (by kernel_rfl) (by kernel_rfl)
theorem tok_75:TI.Ok Tryz.prog 75 ti_75:=.of_check (by kernel_rfl) (by kernel_rfl)
theorem tok_76:TI.Ok Tryz.prog 76 ti_76:=.of_check (by kernel_rfl) (by kernel_rfl)
theorem tok_77:TI.Ok Tryz.prog 77 ti_77:=.of_check (by kernel_rfl) (by kernel_rfl)
theorem tok_78:TI.Ok Tryz.prog 78 ti_78:=.of_check (by kernel_rfl) (by kernel_rfl)
theorem tok_79:TI.Ok Tryz.prog 79 ti_79:=.of_check (by kernel_rfl) (by kernel_rfl)
theorem tok_80:TI.Ok Tryz.prog 80 ti_80:=.of_check (by kernel_rfl) (by kernel_rfl)
theorem tok_81:TI.Ok Tryz.prog 81 ti_81:=.of_check (by kernel_rfl) (by kernel_rfl)
theorem tok_82:TI.Ok Tryz.prog 82 ti_82:=.of_check (by kernel_rfl) (by kernel_rfl)
theorem tok_83:TI.Ok Tryz.prog 83 ti_83:=.of_check (by kernel_rfl) (by kernel_rfl)
theorem tok_84:TI.Ok Tryz.prog 84 ti_84:=.of_check (by kernel_rfl) (by kernel_rfl)
theorem tok_85:TI.Ok Tryz.prog 85 ti_85:=.of_check (by kernel_rfl) (by kernel_rfl)
theorem tok_86:TI.Ok Tryz.prog 86 ti_86:=.of_check (by kernel_rfl) (by kernel_rfl)
theorem tok_87:TI.Ok Tryz.prog 87 ti_87:=.of_check (by kernel_rfl) (by kernel_rfl)
theorem tok_88:TI.Ok Tryz.prog 88 ti_88:=.of_check (by kernel_rfl) (by kernel_rfl)
theorem tok_89:TI.Ok Tryz.prog 89 ti_89:=.of_check (by kernel_rfl) (by kernel_rfl)
theorem tok_90:TI.Ok Tryz.prog 90 ti_90:=.of_check (by kernel_rfl) (by kernel_rfl)
theorem tok_91:TI.Ok Tryz.prog 91 ti_91:=.of_check (by kernel_rfl) (by kernel_rfl)
theorem tok_92:TI.Ok Tryz.prog 92 ti_92:=.of_check (by kernel_rfl) (by kernel_rfl)
theorem tok_93:TI.Ok Tryz.prog 93 ti_93:=.of_check (by kernel_rfl) (by kernel_rfl)
theorem tok_94:TI.Ok Tryz.prog 94 ti_94:=.of_check (by kernel_rfl) (by kernel_rfl)
theorem tok_96:TI.Ok Tryz.prog 96 ti_96:=.of_check (by kernel_rfl) (by kernel_rfl)
theorem tok_97:TI.Ok Tryz.prog 97 ti_97:=.of_check (by kernel_rfl) (by kernel_rfl)
theorem tok_98:TI.Ok Tryz.prog 98 ti_98:=.of_check (by kernel_rfl) (by kernel_rfl)
theorem tok_99:TI.Ok Tryz.prog 99 ti_99:=.of_check (by kernel_rfl) (by kernel_rfl)
theorem tok_100:TI.Ok Tryz.prog 100 ti_100:=.of_check (by kernel_rfl) (by kernel_rfl)
theorem tok_102:TI.Ok Tryz.prog 102 ti_102:=.of_check (by kernel_rfl) (by kernel_rfl)
theorem tok_103:TI.Ok Tryz.prog 103 ti_103:=.of_check (by kernel_rfl) (by kernel_rfl)
theorem tok_104:TI.Ok Tryz.prog 104 ti_104:=.of_check (by kernel_rfl) (by kernel_rfl)
theorem tok_105:TI.Ok Tryz.prog 105 ti_105:=.of_check (by kernel_rfl) (by kernel_rfl)
theorem tok_106:TI.Ok Tryz.prog 106 ti_106:=.of_check (by kernel_rfl) (by kernel_rfl)
theorem tok_107:TI.Ok Tryz.prog 107 ti_107:=.of_check (by kernel_rfl) (by kernel_rfl)
theorem tok_108:TI.Ok Tryz.prog 108 ti_108:=.of_check (by kernel_rfl) (by kernel_rfl)
theorem tok_109:TI.Ok Tryz.prog 109 ti_109:=.of_check (by kernel_rfl) (by kernel_rfl)
theorem tok_110:TI.Ok Tryz.prog 110 ti_110:=.of_check (by kernel_rfl) (by kernel_rfl)
theorem tok_111:TI.Ok Tryz.prog 111 ti_111:=.of_check (by kernel_rfl) (by kernel_rfl)
theorem tok_112:TI.Ok Tryz.prog 112 ti_112:=.of_check (by kernel_rfl) (by kernel_rfl)
theorem tok_113:TI.Ok Tryz.prog 113 ti_113:=.of_check (by kernel_rfl) (by kernel_rfl)
theorem tok_114:TI.Ok Tryz.prog 114 ti_114:=.of_check (by kernel_rfl) (by kernel_rfl)
theorem tok_115:TI.Ok Tryz.prog 115 ti_115:=.of_check (by kernel_rfl) (by kernel_rfl)
theorem tok_116:TI.Ok Tryz.prog 116 ti_116:=.of_check (by kernel_rfl) (by kernel_rfl)
theorem tok_117:TI.Ok Tryz.prog 117 ti_117:=.of_check (by kernel_rfl) (by kernel_rfl)
theorem tok_118:TI.Ok Tryz.prog 118 ti_118:=.of_check (by kernel_rfl) (by kernel_rfl)
theorem tok_119:TI.Ok Tryz.prog 119 ti_119:=.of_check (by kernel_rfl) (by kernel_rfl)
theorem tok_120:TI.Ok Tryz.prog 120 ti_120:=.of_check (by kernel_rfl) (by kernel_rfl)
theorem tok_121:TI.Ok Tryz.prog 121 ti_121:=.of_check (by kernel_rfl) (by kernel_rfl)
theorem tok_122:TI.Ok Tryz.prog 122 ti_122:=.of_check (by kernel_rfl) (by kernel_rfl)
theorem tok_123:TI.Ok Tryz.prog 123 ti_123:=.of_check (by kernel_rfl) (by kernel_rfl)
theorem tok_124:TI.Ok Tryz.prog 124 ti_124:=.of_check (by kernel_rfl) (by kernel_rfl)
theorem tok_125:TI.Ok Tryz.prog 125 ti_125:=.of_check (by kernel_rfl) (by kernel_rfl)
theorem tok_126:TI.Ok Tryz.prog 126 ti_126:=.of_check (by kernel_rfl) (by kernel_rfl)
theorem tok_127:TI.Ok Tryz.prog 127 ti_127:=.of_check (by kernel_rfl) (by kernel_rfl)
theorem tok_128:TI.Ok Tryz.prog 128 ti_128:=.of_check (by kernel_rfl) (by kernel_rfl)
theorem tok_129:TI.Ok Tryz.prog 129 ti_129:=.of_check (by kernel_rfl) (by kernel_rfl)
theorem tok_130:TI.Ok Tryz.prog 130 ti_130:=.of_check (by kernel_rfl) (by kernel_rfl)
theorem tok_131:TI.Ok Tryz.prog 131 ti_131:=.of_check (by kernel_rfl) (by kernel_rfl)
theorem tok_132:TI.Ok Tryz.prog 132 ti_132:=.of_check (by kernel_rfl) (by kernel_rfl)
theorem tok_133:TI.Ok Tryz.prog 133 ti_133:=.of_check (by kernel_rfl) (by kernel_rfl)
theorem tok_134:TI.Ok Tryz.prog 134 ti_134:=.of_check (by kernel_rfl) (by kernel_rfl)
theorem tok_135:TI.Ok Tryz.prog 135 ti_135:=.of_check (by kernel_rfl) (by kernel_rfl)
theorem tok_136:TI.Ok Tryz.prog 136 ti_136:=.of_check (by kernel_rfl) (by kernel_rfl)
theorem tok_137:TI.Ok Tryz.prog 137 ti_137:=.of_check (by kernel_rfl) (by kernel_rfl)
theorem tok_138:TI.Ok Tryz.prog 138 ti_138:=.of_check (by kernel_rfl) (by kernel_rfl)
theorem tok_139:TI.Ok Tryz.prog 139 ti_139:=.of_check (by kernel_rfl) (by kernel_rfl)
theorem tok_140:TI.Ok Tryz.prog 140 ti_140:=.of_check (by kernel_rfl) (by kernel_rfl)
theorem tok_141:TI.Ok Tryz.prog 141 ti_141:=.of_check (by kernel_rfl) (by kernel_rfl)
theorem tok_142:TI.Ok Tryz.prog 142 ti_142:=.of_check (by kernel_rfl) (by kernel_rfl)
theorem tok_143:TI.Ok Tryz.prog 143 ti_143:=.of_check (by kernel_rfl) (by kernel_rfl)
theorem tok_144:TI.Ok Tryz.prog 144 ti_144:=.of_check (by kernel_rfl) (by kernel_rfl)
theorem tok_145:TI.Ok Tryz.prog 145 ti_145:=.of_check (by kernel_rfl) (by kernel_rfl)
theorem tok_146:TI.Ok Tryz.prog 146 ti_146:=.of_check (by kernel_rfl) (by kernel_rfl)
theorem tok_147:TI.Ok Tryz.prog 147 ti_147:=.of_check (by kernel_rfl) (by kernel_rfl)
theorem tok_148:TI.Ok Tryz.prog 148 ti_148:=.of_check (by kernel_rfl) (by kernel_rfl)
theorem tok_149:TI.Ok Tryz.prog 149 ti_149:=.of_check (by kernel_rfl) (by kernel_rfl)
theorem tok_150:TI.Ok Tryz.prog 150 ti_150:=.of_check (by kernel_rfl) (by kernel_rfl)
theorem tok_151:TI.Ok Tryz.prog 151 ti_151:=.of_check (by kernel_rfl) (by kernel_rfl)
theorem tok_152:TI.Ok Tryz.prog 152 ti_152:=.of_check (by kernel_rfl) (by kernel_rfl)
theorem tok_153:TI.Ok Tryz.prog 153 ti_153:=.of_check (by kernel_rfl) (by kernel_rfl)
theorem tok_154:TI.Ok Tryz.prog 154 ti_154:=.of_check (by kernel_rfl) (by kernel_rfl)
theorem tok_156:TI.Ok Tryz.prog 156 ti_156:=.of_check (by kernel_rfl) (by kernel_rfl)
theorem tok_157:TI.Ok Tryz.prog 157 ti_157:=.of_check (by kernel_rfl) (by kernel_rfl)
theorem tok_158:TI.Ok Tryz.prog 158 ti_158:=.of_check (by kernel_rfl) (by kernel_rfl)
theorem tok_160:TI.Ok Tryz.prog 160 ti_160:=.of_check (by kernel_rfl) (by kernel_rfl)
theorem tok_161:TI.Ok Tryz.prog 161 ti_161:=.of_check (by kernel_rfl) (by kernel_rfl)
theorem tok_162:TI.Ok Tryz.prog 162 ti_162:=.of_check (by kernel_rfl) (by kernel_rfl)
theorem tok_163:TI.Ok Tryz.prog 163 ti_163:=.of_check (by kernel_rfl) (by kernel_rfl)
theorem tok_164:TI.Ok Tryz.prog 164 ti_164:=.of_check (by kernel_rfl) (by kernel_rfl)
theorem tok_165:TI.Ok Tryz.prog 165 ti_165:=.of_check (by kernel_rfl) (by kernel_rfl)
theorem tok_166:TI.Ok Tryz.prog 166 ti_166:=.of_check (by kernel_rfl) (by kernel_rfl)
theorem tok_167:TI.Ok Tryz.prog 167 ti_167:=.of_check (by kernel_rfl) (by kernel_rfl)
theorem tok_168:TI.Ok Tryz.prog 168 ti_168:=.of_check (by kernel_rfl) (by kernel_rfl)
theorem tok_169:TI.Ok Tryz.prog 169 ti_169:=.of_check (by kernel_rfl) (by kernel_rfl)
theorem tok_170:TI.Ok Tryz.prog 170 ti_170:=.of_check (by kernel_rfl) (by kernel_rfl)
theorem tok_171:TI.Ok Tryz.prog 171 ti_171:=.of_check (by kernel_rfl) (by kernel_rfl)
theorem tok_173:TI.Ok Tryz.prog 173 ti_173:=.of_check (by kernel_rfl) (by kernel_rfl)
theorem tok_174:TI.Ok Tryz.prog 174 ti_174:=.of_check (by kernel_rfl) (by kernel_rfl)
theorem tok_176:TI.Ok Tryz.prog 176 ti_176:=.of_check (by kernel_rfl) (by kernel_rfl)
theorem tok_177:TI.Ok Tryz.prog 177 ti_177:=.of_check (by kernel_rfl) (by kernel_rfl)
theorem tok_178:TI.Ok Tryz.prog 178 ti_178:=.of_check (by kernel_rfl) (by kernel_rfl)
theorem tok_179:TI.Ok Tryz.prog 179 ti_179:=.of_check (by kernel_rfl) (by kernel_rfl)
theorem tok_180:TI.Ok Tryz.prog 180 ti_180:=.of_check (by kernel_rfl) (by kernel_rfl)
theorem tok_181:TI.Ok Tryz.prog 181 ti_181:=.of_check (by kernel_rfl) (by kernel_rfl)
theorem tok_182:TI.Ok Tryz.prog 182 ti_182:=.of_check (by kernel_rfl) (by kernel_rfl)
theorem tok_183:TI.Ok Tryz.prog 183 ti_183:=.of_check (by kernel_rfl) (by kernel_rfl)
theorem tok_184:TI.Ok Tryz.prog 184 ti_184:=.of_check (by kernel_rfl) (by kernel_rfl)
theorem tok_185:TI.Ok Tryz.prog 185 ti_185:=.of_check (by kernel_rfl) (by kernel_rfl)
theorem tok_187:TI.Ok Tryz.prog 187 ti_187:=.of_check (by kernel_rfl) (by kernel_rfl)
theorem tok_189:TI.Ok Tryz.prog 189 ti_189:=.of_check (by kernel_rfl) (by kernel_rfl)
theorem tok_190:TI.Ok Tryz.prog 190 ti_190:=.of_check (by kernel_rfl) (by kernel_rfl)
theorem tok_191:TI.Ok Tryz.prog 191 ti_191:=.of_check (by kernel_rfl) (by kernel_rfl)
theorem tok_192:TI.Ok Tryz.prog 192 ti_192:=.of_check (by kernel_rfl) (by kernel_rfl)
theorem tok_196:TI.Ok Tryz.prog 196 ti_196:=.of_check (by kernel_rfl) (by kernel_rfl)
theorem tok_197:TI.Ok Tryz.prog 197 ti_197:=.of_check (by kernel_rfl) (by kernel_rfl)
theorem tok_198:TI.Ok Tryz.prog 198 ti_198:=.of_check (by kernel_rfl) (by kernel_rfl)
theorem tok_199:TI.Ok Tryz.prog 199 ti_199:=.of_check (by kernel_rfl) (by kernel_rfl)
theorem tok_200:TI.Ok Tryz.prog 200 ti_200:=.of_check (by kernel_rfl) (by kernel_rfl)
theorem tok_201:TI.Ok Tryz.prog 201 ti_201:=.of_check (by kernel_rfl) (by kernel_rfl)
theorem tok_202:TI.Ok Tryz.prog 202 ti_202:=.of_check (by kernel_rfl) (by kernel_rfl)
theorem tok_203:TI.Ok Tryz.prog 203 ti_203:=.of_check (by kernel_rfl) (by kernel_rfl)
theorem tok_204:TI.Ok Tryz.prog 204 ti_204:=.of_check (by kernel_rfl) (by kernel_rfl)
theorem tok_205:TI.Ok Tryz.prog 205 ti_205:=.of_check (by kernel_rfl) (by kernel_rfl)
theorem tis_ok:AllOk Tryz.prog 0 tis:=⟨tok_1,tok_2,tok_3,tok_4,tok_5,tok_6,tok_7,tok_8,tok_9,tok_10,tok_11,tok_12,tok_13,tok_14,tok_15,tok_16,tok_17,tok_18,tok_19,tok_20,tok_21,tok_22,tok_23,tok_24,tok_26,tok_27,tok_28,tok_29,tok_30,tok_31,tok_32,tok_33,tok_34,tok_35,tok_36,tok_37,tok_38,tok_39,tok_40,tok_41,tok_42,tok_43,tok_44,tok_45,tok_46,tok_47,tok_48,tok_49,tok_50,tok_52,tok_53,tok_54,tok_55,tok_56,tok_57,tok_59,tok_60,tok_61,tok_63,tok_64,tok_65,tok_67,tok_68,tok_69,tok_70,tok_72,tok_73,tok_74,tok_75,tok_76,tok_77,tok_78,tok_79,tok_80,tok_81,tok_82,tok_83,tok_84,tok_85,tok_86,tok_87,tok_88,tok_89,tok_90,tok_91,tok_92,tok_93,tok_94,tok_96,tok_97,tok_98,tok_99,tok_100,tok_102,tok_103,tok_104,tok_105,tok_106,tok_107,tok_108,tok_109,tok_110,tok_111,tok_112,tok_113,tok_114,tok_115,tok_116,tok_117,tok_118,tok_119,tok_120,tok_121,tok_122,tok_123,tok_124,tok_125,tok_126,tok_127,tok_128,tok_129,tok_130,tok_131,tok_132,tok_133,tok_134,tok_135,tok_136,tok_137,tok_138,tok_139,tok_140,tok_141,tok_142,tok_143,tok_144,tok_145,tok_146,tok_147,tok_148,tok_149,tok_150,tok_151,tok_152,tok_153,tok_154,tok_156,tok_157,tok_158,tok_160,tok_161,tok_162,tok_163,tok_164,tok_165,tok_166,tok_167,tok_168,tok_169,tok_170,tok_171,tok_173,tok_174,tok_176,tok_177,tok_178,tok_179,tok_180,tok_181,tok_182,tok_183,tok_184,tok_185,tok_187,tok_189,tok_190,tok_191,tok_192,tok_196,tok_197,tok_198,tok_199,tok_200,tok_201,tok_202,tok_203,tok_204,tok_205,trivial⟩
noncomputable def E:Env:=⟨Tryz.prog,tget tis,tis_ok.all⟩
theorem E_ti_3:E.ti 3 = some ti_3:=rfl
theorem E_ti_4:E.ti 4 = some ti_4:=rfl
theorem E_ti_5:E.ti 5 = some ti_5:=rfl
theorem E_ti_9:E.ti 9 = some ti_9:=rfl
theorem E_ti_22:E.ti 22 = some ti_22:=rfl
theorem E_ti_23:E.ti 23 = some ti_23:=rfl
theorem E_ti_24:E.ti 24 = some ti_24:=rfl
theorem E_ti_27:E.ti 27 = some ti_27:=rfl
theorem E_ti_29:E.ti 29 = some ti_29:=rfl
theorem E_ti_31:E.ti 31 = some ti_31:=rfl
theorem E_ti_40:E.ti 40 = some ti_40:=rfl
theorem E_ti_42:E.ti 42 = some ti_42:=rfl
theorem E_ti_43:E.ti 43 = some ti_43:=rfl
theorem E_ti_45:E.ti 45 = some ti_45:=rfl
theorem E_ti_47:E.ti 47 = some ti_47:=rfl
theorem E_ti_49:E.ti 49 = some ti_49:=rfl
theorem E_ti_55:E.ti 55 = some ti_55:=rfl
theorem E_ti_57:E.ti 57 = some ti_57:=rfl
theorem E_ti_61:E.ti 61 = some ti_61:=rfl
theorem E_ti_65:E.ti 65 = some ti_65:=rfl
theorem E_ti_89:E.ti 89 = some ti_89:=rfl
theorem E_ti_103:E.ti 103 = some ti_103:=rfl
theorem E_ti_116:E.ti 116 = some ti_116:=rfl
theorem E_ti_120:E.ti 120 = some ti_120:=rfl
theorem E_ti_122:E.ti 122 = some ti_122:=rfl
theorem E_ti_146:E.ti 146 = some ti_146:=rfl
attribute [go_sem] ti_1 ti_2 E_ti_3 ti_3 E_ti_4 ti_4 E_ti_5 ti_5 ti_6 ti_7 ti_8 E_ti_9 ti_9 ti_10 ti_11 ti_12 ti_13 ti_14 ti_15 ti_16 ti_17 ti_18 ti_19 ti_20
attribute [go_sem] ti_21 E_ti_22 ti_22 E_ti_23 ti_23 E_ti_24 ti_24 ti_26 E_ti_27 ti_27 ti_28 E_ti_29 ti_29 ti_30 E_ti_31 ti_31 ti_32 ti_33 ti_34 ti_35 ti_36 ti_37 ti_38 ti_39 E_ti_40 ti_40 ti_41
attribute [go_sem] E_ti_42 ti_42 E_ti_43 ti_43 ti_44 E_ti_45 ti_45 ti_46 E_ti_47 ti_47 ti_48 E_ti_49 ti_49 ti_50 ti_52 ti_53 ti_54 E_ti_55 ti_55 ti_56 E_ti_57 ti_57 ti_59 ti_60 E_ti_61 ti_61 ti_63 ti_64
attribute [go_sem] E_ti_65 ti_65 ti_67 ti_68 ti_69 ti_70 ti_72 ti_73 ti_74 ti_75 ti_76 ti_77 ti_78 ti_79 ti_80 ti_81 ti_82 ti_83 ti_84 ti_85 ti_86
attribute [go_sem] ti_87 ti_88 E_ti_89 ti_89 ti_90 ti_91 ti_92 ti_93 ti_94 ti_96 ti_97 ti_98 ti_99 ti_100 ti_102 E_ti_103 ti_103 ti_104 ti_105 ti_106 ti_107 ti_108
attribute [go_sem] ti_109 ti_110 ti_111 ti_112 ti_113 ti_114 ti_115 E_ti_116 ti_116 ti_117 ti_118 ti_119 E_ti_120 ti_120 ti_121 E_ti_122 ti_122 ti_123 ti_124 ti_125 ti_126 ti_127 ti_128
attribute [go_sem] ti_129 ti_130 ti_131 ti_132 ti_133 ti_134 ti_135 ti_136 ti_137 ti_138 ti_139 ti_140 ti_141 ti_142 ti_143 ti_144 ti_145 E_ti_146 ti_146 ti_147 ti_148
attribute [go_sem] ti_149 ti_150 ti_151 ti_152 ti_153 ti_154 ti_156 ti_157 ti_158 ti_160 ti_161 ti_162 ti_163 ti_164 ti_165 ti_166 ti_167 ti_168 ti_169 ti_170
attribute [go_sem] ti_171 ti_173 ti_174 ti_176 ti_177 ti_178 ti_179 ti_180 ti_181 ti_182 ti_183 ti_184 ti_185 ti_187 ti_189 ti_190 ti_191 ti_192 ti_196 ti_197
attribute [go_sem] ti_198 ti_199 ti_200 ti_201 ti_202 ti_203 ti_204 ti_205
theorem hm:E.P.follows .mixedOrders = true:=by kernel_rfl
end Go.Proofs.YtkkbmikoifnnbaaGreat
