/-
  The table of the types of this seat, held against the program by computation. MADE BY A PROGRAM OF THIS CLAIM.
-/
import Derived.Test.YtpidddienjoleaaGreatKAB
import Derived.Test.YtpidddienjoleaaGreatKAD
import Derived.Test.YtpidddienjoleaaGreatProg
import Derived.KernelRfl
set_option linter.unusedVariables false
set_option linter.unusedSimpArgs false
namespace Go.Proofs.YtpidddienjoleaaGreat
open Go.Eng
set_option maxRecDepth 100000
def ti_1:TI:=⟨.other,1,8,[.d (.val .nilFunc)]⟩
def ti_2:TI:=⟨.int .i64,1,8,[.d (.val (.int .i64 0))]⟩
def ti_3:TI:=⟨.int .i64,1,8,[.d (.val (.int .i64 0))]⟩
def ti_4:TI:=⟨.bool,1,1,[.d (.val (.bool false))]⟩
def ti_5:TI:=⟨.int .u8,1,1,[.d (.val (.int .u8 0))]⟩
def ti_6:TI:=⟨.int .u8,1,1,[.d (.val (.int .u8 0))]⟩
def ti_7:TI:=⟨.struct [(2,0,1),(3,1,1),(4,2,1),(6,3,1)],4,24,[.d (.val (.int .i64 0)),.d (.val (.int .i64 0)),.d (.val (.bool false)),.d (.val (.int .u8 0))]⟩
def ti_8:TI:=⟨.struct [(2,0,1),(3,1,1),(4,2,1),(6,3,1)],4,24,[.d (.val (.int .i64 0)),.d (.val (.int .i64 0)),.d (.val (.bool false)),.d (.val (.int .u8 0))]⟩
def ti_9:TI:=⟨.str,1,16,[.d (.str [])]⟩
def ti_10:TI:=⟨.str,1,16,[.d (.str [])]⟩
def ti_11:TI:=⟨.str,1,16,[.d (.str [])]⟩
def ti_12:TI:=⟨.int .u64,1,8,[.d (.val (.int .u64 0))]⟩
def ti_13:TI:=⟨.struct [(9,0,1),(12,1,1)],2,24,[.d (.str []),.d (.val (.int .u64 0))]⟩
def ti_14:TI:=⟨.struct [(9,0,1),(12,1,1)],2,24,[.d (.str []),.d (.val (.int .u64 0))]⟩
def ti_15:TI:=⟨.ptr 346,1,8,[.d (.val (.pointer none))]⟩
def ti_16:TI:=⟨.ptr 349,1,8,[.d (.val (.pointer none))]⟩
def ti_17:TI:=⟨.ptr 357,1,8,[.d (.val (.pointer none))]⟩
def ti_18:TI:=⟨.struct [(17,0,1)],1,8,[.d (.val (.pointer none))]⟩
def ti_19:TI:=⟨.struct [(17,0,1)],1,8,[.d (.val (.pointer none))]⟩
def ti_20:TI:=⟨.other,1,16,[.d (.val .nilIface)]⟩
def ti_21:TI:=⟨.int .i32,1,4,[.d (.val (.int .i32 0))]⟩
def ti_22:TI:=⟨.slice 5,1,24,[.nilS]⟩
def ti_23:TI:=⟨.slice 117,1,24,[.nilS]⟩
def ti_24:TI:=⟨.struct [(23,0,1)],1,24,[.nilS]⟩
def ti_25:TI:=⟨.struct [(23,0,1)],1,24,[.nilS]⟩
def ti_26:TI:=⟨.slice 48,1,24,[.nilS]⟩
def ti_28:TI:=⟨.other,1,8,[.d (.val .nilFunc)]⟩
def ti_29:TI:=⟨.other,1,8,[.d (.val .nilFunc)]⟩
def ti_30:TI:=⟨.slice 167,1,24,[.nilS]⟩
def ti_31:TI:=⟨.struct [(30,0,1)],1,24,[.nilS]⟩
def ti_32:TI:=⟨.struct [(30,0,1)],1,24,[.nilS]⟩
def ti_33:TI:=⟨.slice 35,1,24,[.nilS]⟩
def ti_34:TI:=⟨.struct [(9,0,1),(33,1,1)],2,40,[.d (.str []),.nilS]⟩
def ti_35:TI:=⟨.struct [(9,0,1),(33,1,1)],2,40,[.d (.str []),.nilS]⟩
def ti_36:TI:=⟨.slice 38,1,24,[.nilS]⟩
def ti_37:TI:=⟨.struct [(3,0,1),(3,1,1),(35,2,2),(36,4,1)],5,80,[.d (.val (.int .i64 0)),.d (.val (.int .i64 0)),.d (.str []),.nilS,.nilS]⟩
def ti_38:TI:=⟨.struct [(3,0,1),(3,1,1),(35,2,2),(36,4,1)],5,80,[.d (.val (.int .i64 0)),.d (.val (.int .i64 0)),.d (.str []),.nilS,.nilS]⟩
def ti_39:TI:=⟨.slice 3,1,24,[.nilS]⟩
def ti_40:TI:=⟨.slice 42,1,24,[.nilS]⟩
def ti_41:TI:=⟨.struct [(3,0,1),(3,1,1),(38,2,5),(39,7,1),(35,8,2),(35,10,2),(40,12,1)],13,224,[.d (.val (.int .i64 0)),.d (.val (.int .i64 0)),.d (.val (.int .i64 0)),.d (.val (.int .i64 0)),.d (.str []),.nilS,.nilS,.nilS,.d (.str []),.nilS,.d (.str []),.nilS,.nilS]⟩
def ti_42:TI:=⟨.struct [(3,0,1),(3,1,1),(38,2,5),(39,7,1),(35,8,2),(35,10,2),(40,12,1)],13,224,[.d (.val (.int .i64 0)),.d (.val (.int .i64 0)),.d (.val (.int .i64 0)),.d (.val (.int .i64 0)),.d (.str []),.nilS,.nilS,.nilS,.d (.str []),.nilS,.d (.str []),.nilS,.nilS]⟩
def ti_44:TI:=⟨.other,1,8,[.d (.val .nilFunc)]⟩
def ti_45:TI:=⟨.struct [(3,0,1),(35,1,2),(35,3,2),(33,5,1),(39,6,1),(3,7,1),(4,8,1)],9,152,[.d (.val (.int .i64 0)),.d (.str []),.nilS,.d (.str []),.nilS,.nilS,.nilS,.d (.val (.int .i64 0)),.d (.val (.bool false))]⟩
def ti_46:TI:=⟨.struct [(3,0,1),(35,1,2),(35,3,2),(33,5,1),(39,6,1),(3,7,1),(4,8,1)],9,152,[.d (.val (.int .i64 0)),.d (.str []),.nilS,.d (.str []),.nilS,.nilS,.nilS,.d (.val (.int .i64 0)),.d (.val (.bool false))]⟩
def ti_47:TI:=⟨.struct [(46,0,9),(4,9,1)],10,160,[.d (.val (.int .i64 0)),.d (.str []),.nilS,.d (.str []),.nilS,.nilS,.nilS,.d (.val (.int .i64 0)),.d (.val (.bool false)),.d (.val (.bool false))]⟩
def ti_48:TI:=⟨.struct [(46,0,9),(4,9,1)],10,160,[.d (.val (.int .i64 0)),.d (.str []),.nilS,.d (.str []),.nilS,.nilS,.nilS,.d (.val (.int .i64 0)),.d (.val (.bool false)),.d (.val (.bool false))]⟩
def ti_49:TI:=⟨.other,1,8,[.d (.val .nilFunc)]⟩
def ti_50:TI:=⟨.other,1,8,[.d (.val .nilFunc)]⟩
def ti_51:TI:=⟨.slice 55,1,24,[.nilS]⟩
def ti_52:TI:=⟨.other,1,8,[.d (.val .nilFunc)]⟩
def ti_53:TI:=⟨.other,1,8,[.d (.val .nilFunc)]⟩
def ti_54:TI:=⟨.struct [(35,0,2),(35,2,2)],4,80,[.d (.str []),.nilS,.d (.str []),.nilS]⟩
def ti_55:TI:=⟨.struct [(35,0,2),(35,2,2)],4,80,[.d (.str []),.nilS,.d (.str []),.nilS]⟩
def ti_56:TI:=⟨.struct [(3,0,1),(3,1,1)],2,16,[.d (.val (.int .i64 0)),.d (.val (.int .i64 0))]⟩
def ti_57:TI:=⟨.struct [(3,0,1),(3,1,1)],2,16,[.d (.val (.int .i64 0)),.d (.val (.int .i64 0))]⟩
def ti_59:TI:=⟨.other,1,8,[.d (.val .nilFunc)]⟩
def ti_60:TI:=⟨.other,1,8,[.d (.val .nilFunc)]⟩
def ti_61:TI:=⟨.slice 66,1,24,[.nilS]⟩
def ti_62:TI:=⟨.other,1,8,[.d (.val .nilFunc)]⟩
def ti_63:TI:=⟨.other,1,8,[.d (.val .nilFunc)]⟩
def ti_64:TI:=⟨.other,1,8,[.d (.val .nilFunc)]⟩
def ti_65:TI:=⟨.struct [(39,0,1),(3,1,1),(4,2,1)],3,40,[.nilS,.d (.val (.int .i64 0)),.d (.val (.bool false))]⟩
def ti_66:TI:=⟨.struct [(39,0,1),(3,1,1),(4,2,1)],3,40,[.nilS,.d (.val (.int .i64 0)),.d (.val (.bool false))]⟩
def ti_67:TI:=⟨.slice 57,1,24,[.nilS]⟩
def ti_68:TI:=⟨.other,1,8,[.d (.val .nilFunc)]⟩
def ti_69:TI:=⟨.other,1,8,[.d (.val .nilFunc)]⟩
def ti_70:TI:=⟨.slice 79,1,24,[.nilS]⟩
def ti_71:TI:=⟨.struct [(25,0,1),(70,1,1)],2,48,[.nilS,.nilS]⟩
def ti_72:TI:=⟨.struct [(25,0,1),(70,1,1)],2,48,[.nilS,.nilS]⟩
def ti_73:TI:=⟨.other,1,8,[.d (.val .nilFunc)]⟩
def ti_74:TI:=⟨.other,1,8,[.d (.val .nilFunc)]⟩
def ti_75:TI:=⟨.other,1,8,[.d (.val .nilFunc)]⟩
def ti_77:TI:=⟨.other,1,8,[.d (.val .nilFunc)]⟩
def ti_78:TI:=⟨.other,1,8,[.d (.val .nilFunc)]⟩
def ti_79:TI:=⟨.slice 112,1,24,[.nilS]⟩
def ti_80:TI:=⟨.other,1,8,[.d (.val .nilFunc)]⟩
def ti_81:TI:=⟨.other,1,8,[.d (.val .nilFunc)]⟩
def ti_82:TI:=⟨.other,1,8,[.d (.val .nilFunc)]⟩
def ti_83:TI:=⟨.other,1,8,[.d (.val .nilFunc)]⟩
def ti_84:TI:=⟨.other,1,8,[.d (.val .nilFunc)]⟩
def ti_85:TI:=⟨.ptr 87,1,8,[.d (.val (.pointer none))]⟩
def ti_86:TI:=⟨.struct [(25,0,1),(33,1,1),(33,2,1)],3,72,[.nilS,.nilS,.nilS]⟩
def ti_87:TI:=⟨.struct [(25,0,1),(33,1,1),(33,2,1)],3,72,[.nilS,.nilS,.nilS]⟩
def ti_88:TI:=⟨.other,1,8,[.d (.val .nilFunc)]⟩
def ti_89:TI:=⟨.other,1,8,[.d (.val .nilFunc)]⟩
def ti_90:TI:=⟨.other,1,8,[.d (.val .nilFunc)]⟩
def ti_91:TI:=⟨.other,1,8,[.d (.val .nilFunc)]⟩
def ti_92:TI:=⟨.other,1,8,[.d (.val .nilFunc)]⟩
def ti_93:TI:=⟨.other,1,8,[.d (.val .nilFunc)]⟩
def ti_95:TI:=⟨.other,1,8,[.d (.val .nilFunc)]⟩
def ti_96:TI:=⟨.other,1,8,[.d (.val .nilFunc)]⟩
def ti_97:TI:=⟨.other,1,8,[.d (.val .nilFunc)]⟩
def ti_98:TI:=⟨.ptr 150,1,8,[.d (.val (.pointer none))]⟩
def ti_100:TI:=⟨.other,1,8,[.d (.val .nilFunc)]⟩
def ti_101:TI:=⟨.other,1,8,[.d (.val .nilFunc)]⟩
def ti_102:TI:=⟨.other,1,8,[.d (.val .nilFunc)]⟩
def ti_103:TI:=⟨.other,1,8,[.d (.val .nilFunc)]⟩
def ti_104:TI:=⟨.other,1,8,[.d (.val .nilFunc)]⟩
def ti_105:TI:=⟨.other,1,8,[.d (.val .nilFunc)]⟩
def ti_107:TI:=⟨.other,1,8,[.d (.val .nilFunc)]⟩
def ti_108:TI:=⟨.other,1,8,[.d (.val .nilFunc)]⟩
def ti_109:TI:=⟨.other,1,8,[.d (.val .nilFunc)]⟩
def ti_110:TI:=⟨.other,1,8,[.d (.val .nilFunc)]⟩
def ti_111:TI:=⟨.struct [(3,0,1),(48,1,10),(79,11,1)],12,192,[.d (.val (.int .i64 0)),.d (.val (.int .i64 0)),.d (.str []),.nilS,.d (.str []),.nilS,.nilS,.nilS,.d (.val (.int .i64 0)),.d (.val (.bool false)),.d (.val (.bool false)),.nilS]⟩
def ti_112:TI:=⟨.struct [(3,0,1),(48,1,10),(79,11,1)],12,192,[.d (.val (.int .i64 0)),.d (.val (.int .i64 0)),.d (.str []),.nilS,.d (.str []),.nilS,.nilS,.nilS,.d (.val (.int .i64 0)),.d (.val (.bool false)),.d (.val (.bool false)),.nilS]⟩
def ti_113:TI:=⟨.other,1,8,[.d (.val .nilFunc)]⟩
def ti_114:TI:=⟨.other,1,8,[.d (.val .nilFunc)]⟩
def ti_115:TI:=⟨.other,1,8,[.d (.val .nilFunc)]⟩
def ti_116:TI:=⟨.struct [(9,0,1),(39,1,1),(3,2,1)],3,48,[.d (.str []),.nilS,.d (.val (.int .i64 0))]⟩
def ti_117:TI:=⟨.struct [(9,0,1),(39,1,1),(3,2,1)],3,48,[.d (.str []),.nilS,.d (.val (.int .i64 0))]⟩
def ti_118:TI:=⟨.other,1,8,[.d (.val .nilFunc)]⟩
def ti_119:TI:=⟨.other,1,8,[.d (.val .nilFunc)]⟩
def ti_120:TI:=⟨.other,1,8,[.d (.val .nilFunc)]⟩
def ti_121:TI:=⟨.other,1,8,[.d (.val .nilFunc)]⟩
def ti_122:TI:=⟨.other,1,8,[.d (.val .nilFunc)]⟩
def ti_123:TI:=⟨.other,1,8,[.d (.val .nilFunc)]⟩
def ti_124:TI:=⟨.other,1,8,[.d (.val .nilFunc)]⟩
def ti_125:TI:=⟨.slice 206,1,24,[.nilS]⟩
def ti_126:TI:=⟨.slice 39,1,24,[.nilS]⟩
def ti_127:TI:=⟨.struct [(125,0,1),(126,1,1)],2,48,[.nilS,.nilS]⟩
def ti_128:TI:=⟨.struct [(125,0,1),(126,1,1)],2,48,[.nilS,.nilS]⟩
def ti_130:TI:=⟨.other,1,8,[.d (.val .nilFunc)]⟩
def ti_131:TI:=⟨.other,1,8,[.d (.val .nilFunc)]⟩
def ti_132:TI:=⟨.other,1,8,[.d (.val .nilFunc)]⟩
def ti_133:TI:=⟨.other,1,8,[.d (.val .nilFunc)]⟩
def ti_134:TI:=⟨.ptr 213,1,8,[.d (.val (.pointer none))]⟩
def ti_135:TI:=⟨.other,1,8,[.d (.val .nilFunc)]⟩
def ti_136:TI:=⟨.other,1,8,[.d (.val .nilFunc)]⟩
def ti_137:TI:=⟨.other,1,8,[.d (.val .nilFunc)]⟩
def ti_138:TI:=⟨.other,1,8,[.d (.val .nilFunc)]⟩
def ti_139:TI:=⟨.other,1,8,[.d (.val .nilFunc)]⟩
def ti_140:TI:=⟨.other,1,8,[.d (.val .nilFunc)]⟩
def ti_141:TI:=⟨.other,1,8,[.d (.val .nilFunc)]⟩
def ti_142:TI:=⟨.other,1,8,[.d (.val .nilFunc)]⟩
def ti_144:TI:=⟨.other,1,8,[.d (.val .nilFunc)]⟩
def ti_146:TI:=⟨.other,1,8,[.d (.val .nilFunc)]⟩
def ti_147:TI:=⟨.other,1,8,[.d (.val .nilFunc)]⟩
def ti_148:TI:=⟨.slice 273,1,24,[.nilS]⟩
def ti_149:TI:=⟨.struct [(33,0,1),(39,1,1),(148,2,1)],3,72,[.nilS,.nilS,.nilS]⟩
def ti_150:TI:=⟨.struct [(33,0,1),(39,1,1),(148,2,1)],3,72,[.nilS,.nilS,.nilS]⟩
def ti_151:TI:=⟨.other,1,8,[.d (.val .nilFunc)]⟩
def ti_152:TI:=⟨.other,1,8,[.d (.val .nilFunc)]⟩
def ti_154:TI:=⟨.other,1,8,[.d (.val .nilFunc)]⟩
def ti_155:TI:=⟨.other,1,8,[.d (.val .nilFunc)]⟩
def ti_156:TI:=⟨.other,1,8,[.d (.val .nilFunc)]⟩
def ti_157:TI:=⟨.other,1,8,[.d (.val .nilFunc)]⟩
def ti_158:TI:=⟨.other,1,8,[.d (.val .nilFunc)]⟩
def ti_159:TI:=⟨.other,1,8,[.d (.val .nilFunc)]⟩
def ti_160:TI:=⟨.other,1,8,[.d (.val .nilFunc)]⟩
def ti_161:TI:=⟨.other,1,8,[.d (.val .nilFunc)]⟩
def ti_162:TI:=⟨.other,1,8,[.d (.val .nilFunc)]⟩
def ti_163:TI:=⟨.other,1,8,[.d (.val .nilFunc)]⟩
def ti_164:TI:=⟨.other,1,8,[.d (.val .nilFunc)]⟩
def ti_165:TI:=⟨.other,1,8,[.d (.val .nilFunc)]⟩
def ti_166:TI:=⟨.struct [(9,0,1),(67,1,1),(57,2,2)],4,56,[.d (.str []),.nilS,.d (.val (.int .i64 0)),.d (.val (.int .i64 0))]⟩
def ti_167:TI:=⟨.struct [(9,0,1),(67,1,1),(57,2,2)],4,56,[.d (.str []),.nilS,.d (.val (.int .i64 0)),.d (.val (.int .i64 0))]⟩
def ti_169:TI:=⟨.other,1,8,[.d (.val .nilFunc)]⟩
def ti_170:TI:=⟨.other,1,8,[.d (.val .nilFunc)]⟩
def ti_171:TI:=⟨.other,1,8,[.d (.val .nilFunc)]⟩
def ti_172:TI:=⟨.other,1,8,[.d (.val .nilFunc)]⟩
def ti_173:TI:=⟨.other,1,8,[.d (.val .nilFunc)]⟩
def ti_174:TI:=⟨.other,1,8,[.d (.val .nilFunc)]⟩
def ti_175:TI:=⟨.other,1,8,[.d (.val .nilFunc)]⟩
def ti_176:TI:=⟨.other,1,8,[.d (.val .nilFunc)]⟩
def ti_177:TI:=⟨.other,1,8,[.d (.val .nilFunc)]⟩
def ti_178:TI:=⟨.other,1,8,[.d (.val .nilFunc)]⟩
def ti_179:TI:=⟨.other,1,8,[.d (.val .nilFunc)]⟩
def ti_180:TI:=⟨.other,1,8,[.d (.val .nilFunc)]⟩
def ti_181:TI:=⟨.other,1,8,[.d (.val .nilFunc)]⟩
def ti_182:TI:=⟨.other,1,8,[.d (.val .nilFunc)]⟩
def ti_183:TI:=⟨.other,1,8,[.d (.val .nilFunc)]⟩
def ti_184:TI:=⟨.other,1,8,[.d (.val .nilFunc)]⟩
def ti_185:TI:=⟨.other,1,8,[.d (.val .nilFunc)]⟩
def ti_186:TI:=⟨.other,1,8,[.d (.val .nilFunc)]⟩
def ti_187:TI:=⟨.other,1,8,[.d (.val .nilFunc)]⟩
def ti_188:TI:=⟨.other,1,8,[.d (.val .nilFunc)]⟩
def ti_189:TI:=⟨.other,1,8,[.d (.val .nilFunc)]⟩
def ti_190:TI:=⟨.other,1,8,[.d (.val .nilFunc)]⟩
def ti_191:TI:=⟨.other,1,8,[.d (.val .nilFunc)]⟩
def ti_192:TI:=⟨.slice 46,1,24,[.nilS]⟩
def ti_194:TI:=⟨.other,1,8,[.d (.val .nilFunc)]⟩
def ti_195:TI:=⟨.other,1,8,[.d (.val .nilFunc)]⟩
def ti_196:TI:=⟨.other,1,8,[.d (.val .nilFunc)]⟩
def ti_197:TI:=⟨.struct [(3,0,1),(126,1,1)],2,32,[.d (.val (.int .i64 0)),.nilS]⟩
def ti_198:TI:=⟨.struct [(3,0,1),(126,1,1)],2,32,[.d (.val (.int .i64 0)),.nilS]⟩
def ti_200:TI:=⟨.other,1,8,[.d (.val .nilFunc)]⟩
def ti_201:TI:=⟨.slice 4,1,24,[.nilS]⟩
def ti_203:TI:=⟨.other,1,8,[.d (.val .nilFunc)]⟩
def ti_204:TI:=⟨.other,1,8,[.d (.val .nilFunc)]⟩
def ti_205:TI:=⟨.struct [(39,0,1),(42,1,13)],14,248,[.nilS,.d (.val (.int .i64 0)),.d (.val (.int .i64 0)),.d (.val (.int .i64 0)),.d (.val (.int .i64 0)),.d (.str []),.nilS,.nilS,.nilS,.d (.str []),.nilS,.d (.str []),.nilS,.nilS]⟩
def ti_206:TI:=⟨.struct [(39,0,1),(42,1,13)],14,248,[.nilS,.d (.val (.int .i64 0)),.d (.val (.int .i64 0)),.d (.val (.int .i64 0)),.d (.val (.int .i64 0)),.d (.str []),.nilS,.nilS,.nilS,.d (.str []),.nilS,.d (.str []),.nilS,.nilS]⟩
def ti_207:TI:=⟨.other,1,8,[.d (.val .nilFunc)]⟩
def ti_208:TI:=⟨.other,1,8,[.d (.val .nilFunc)]⟩
def ti_209:TI:=⟨.other,1,8,[.d (.val .nilFunc)]⟩
def ti_210:TI:=⟨.other,1,8,[.d (.val .nilFunc)]⟩
def ti_211:TI:=⟨.other,1,8,[.d (.val .nilFunc)]⟩
def ti_212:TI:=⟨.struct [(22,0,1),(3,1,1)],2,32,[.nilS,.d (.val (.int .i64 0))]⟩
def ti_213:TI:=⟨.struct [(22,0,1),(3,1,1)],2,32,[.nilS,.d (.val (.int .i64 0))]⟩
def ti_214:TI:=⟨.other,1,8,[.d (.val .nilFunc)]⟩
def ti_215:TI:=⟨.other,1,8,[.d (.val .nilFunc)]⟩
def ti_216:TI:=⟨.other,1,8,[.d (.val .nilFunc)]⟩
def ti_217:TI:=⟨.other,1,8,[.d (.val .nilFunc)]⟩
def ti_218:TI:=⟨.other,1,8,[.d (.val .nilFunc)]⟩
def ti_219:TI:=⟨.slice 225,1,24,[.nilS]⟩
def ti_220:TI:=⟨.other,1,8,[.d (.val .nilFunc)]⟩
def ti_221:TI:=⟨.arr 4 219,4,96,[.nilS,.nilS,.nilS,.nilS]⟩
def ti_223:TI:=⟨.other,1,8,[.d (.val .nilFunc)]⟩
def ti_224:TI:=⟨.struct [(66,0,3),(39,3,1)],4,64,[.nilS,.d (.val (.int .i64 0)),.d (.val (.bool false)),.nilS]⟩
def ti_225:TI:=⟨.struct [(66,0,3),(39,3,1)],4,64,[.nilS,.d (.val (.int .i64 0)),.d (.val (.bool false)),.nilS]⟩
def ti_226:TI:=⟨.other,1,8,[.d (.val .nilFunc)]⟩
def ti_227:TI:=⟨.other,1,8,[.d (.val .nilFunc)]⟩
def ti_228:TI:=⟨.other,1,8,[.d (.val .nilFunc)]⟩
def ti_229:TI:=⟨.other,1,8,[.d (.val .nilFunc)]⟩
def ti_230:TI:=⟨.other,1,8,[.d (.val .nilFunc)]⟩
def ti_231:TI:=⟨.other,1,8,[.d (.val .nilFunc)]⟩
def ti_232:TI:=⟨.other,1,8,[.d (.val .nilFunc)]⟩
def ti_233:TI:=⟨.other,1,8,[.d (.val .nilFunc)]⟩
def ti_234:TI:=⟨.other,1,8,[.d (.val .nilFunc)]⟩
def ti_235:TI:=⟨.slice 9,1,24,[.nilS]⟩
def ti_236:TI:=⟨.other,1,8,[.d (.val .nilFunc)]⟩
def ti_237:TI:=⟨.int .u64,1,8,[.d (.val (.int .u64 0))]⟩
def ti_238:TI:=⟨.other,1,8,[.d (.val .nilFunc)]⟩
def ti_239:TI:=⟨.other,1,8,[.d (.val .nilFunc)]⟩
def ti_240:TI:=⟨.other,1,8,[.d (.val .nilFunc)]⟩
def ti_241:TI:=⟨.other,1,8,[.d (.val .nilFunc)]⟩
def ti_242:TI:=⟨.other,1,8,[.d (.val .nilFunc)]⟩
def ti_243:TI:=⟨.other,1,8,[.d (.val .nilFunc)]⟩
def ti_244:TI:=⟨.other,1,8,[.d (.val .nilFunc)]⟩
def ti_245:TI:=⟨.other,1,8,[.d (.val .nilFunc)]⟩
def ti_246:TI:=⟨.other,1,8,[.d (.val .nilFunc)]⟩
def ti_247:TI:=⟨.other,1,8,[.d (.val .nilFunc)]⟩
def ti_248:TI:=⟨.other,1,8,[.d (.val .nilFunc)]⟩
def ti_249:TI:=⟨.other,1,8,[.d (.val .nilFunc)]⟩
def ti_250:TI:=⟨.other,1,8,[.d (.val .nilFunc)]⟩
def ti_251:TI:=⟨.other,1,8,[.d (.val .nilFunc)]⟩
def ti_252:TI:=⟨.other,1,8,[.d (.val .nilFunc)]⟩
def ti_253:TI:=⟨.other,1,8,[.d (.val .nilFunc)]⟩
def ti_254:TI:=⟨.other,1,8,[.d (.val .nilFunc)]⟩
def ti_255:TI:=⟨.ptr 260,1,8,[.d (.val (.pointer none))]⟩
def ti_257:TI:=⟨.other,1,8,[.d (.val .nilFunc)]⟩
def ti_258:TI:=⟨.other,1,8,[.d (.val .nilFunc)]⟩
def ti_259:TI:=⟨.struct [(198,0,2),(192,2,1),(79,3,1)],4,80,[.d (.val (.int .i64 0)),.nilS,.nilS,.nilS]⟩
def ti_260:TI:=⟨.struct [(198,0,2),(192,2,1),(79,3,1)],4,80,[.d (.val (.int .i64 0)),.nilS,.nilS,.nilS]⟩
def ti_261:TI:=⟨.other,1,8,[.d (.val .nilFunc)]⟩
def ti_262:TI:=⟨.other,1,8,[.d (.val .nilFunc)]⟩
def ti_263:TI:=⟨.ptr 265,1,8,[.d (.val (.pointer none))]⟩
def ti_264:TI:=⟨.struct [(198,0,2),(3,2,1),(126,3,1),(4,4,1)],5,72,[.d (.val (.int .i64 0)),.nilS,.d (.val (.int .i64 0)),.nilS,.d (.val (.bool false))]⟩
def ti_265:TI:=⟨.struct [(198,0,2),(3,2,1),(126,3,1),(4,4,1)],5,72,[.d (.val (.int .i64 0)),.nilS,.d (.val (.int .i64 0)),.nilS,.d (.val (.bool false))]⟩
def ti_267:TI:=⟨.other,1,8,[.d (.val .nilFunc)]⟩
def ti_268:TI:=⟨.other,1,8,[.d (.val .nilFunc)]⟩
def ti_269:TI:=⟨.other,1,8,[.d (.val .nilFunc)]⟩
def ti_270:TI:=⟨.other,1,8,[.d (.val .nilFunc)]⟩
def ti_271:TI:=⟨.other,1,8,[.d (.val .nilFunc)]⟩
def ti_272:TI:=⟨.struct [(3,0,1),(3,1,1),(3,2,1)],3,24,[.d (.val (.int .i64 0)),.d (.val (.int .i64 0)),.d (.val (.int .i64 0))]⟩
def ti_273:TI:=⟨.struct [(3,0,1),(3,1,1),(3,2,1)],3,24,[.d (.val (.int .i64 0)),.d (.val (.int .i64 0)),.d (.val (.int .i64 0))]⟩
def ti_275:TI:=⟨.other,1,8,[.d (.val .nilFunc)]⟩
def ti_277:TI:=⟨.other,1,8,[.d (.val .nilFunc)]⟩
def ti_278:TI:=⟨.other,1,8,[.d (.val .nilFunc)]⟩
def ti_279:TI:=⟨.slice 283,1,24,[.nilS]⟩
def ti_280:TI:=⟨.other,1,8,[.d (.val .nilFunc)]⟩
def ti_281:TI:=⟨.other,1,8,[.d (.val .nilFunc)]⟩
def ti_282:TI:=⟨.struct [(3,0,1),(4,1,1)],2,16,[.d (.val (.int .i64 0)),.d (.val (.bool false))]⟩
def ti_283:TI:=⟨.struct [(3,0,1),(4,1,1)],2,16,[.d (.val (.int .i64 0)),.d (.val (.bool false))]⟩
def ti_284:TI:=⟨.other,1,8,[.d (.val .nilFunc)]⟩
def ti_285:TI:=⟨.other,1,8,[.d (.val .nilFunc)]⟩
def ti_286:TI:=⟨.other,1,8,[.d (.val .nilFunc)]⟩
def ti_287:TI:=⟨.other,1,8,[.d (.val .nilFunc)]⟩
def ti_288:TI:=⟨.ptr 290,1,8,[.d (.val (.pointer none))]⟩
def ti_289:TI:=⟨.struct [(288,0,1),(22,1,1)],2,32,[.d (.val (.pointer none)),.nilS]⟩
def ti_290:TI:=⟨.struct [(288,0,1),(22,1,1)],2,32,[.d (.val (.pointer none)),.nilS]⟩
def ti_291:TI:=⟨.other,1,8,[.d (.val .nilFunc)]⟩
def ti_292:TI:=⟨.other,1,16,[.d (.val .nilIface)]⟩
def ti_293:TI:=⟨.other,1,16,[.d (.val .nilIface)]⟩
def ti_295:TI:=⟨.other,1,8,[.d (.val .nilFunc)]⟩
def ti_296:TI:=⟨.other,1,8,[.d (.val .nilFunc)]⟩
def ti_297:TI:=⟨.other,1,8,[.d (.val .nilFunc)]⟩
def ti_298:TI:=⟨.other,1,8,[.d (.val .nilFunc)]⟩
def ti_299:TI:=⟨.other,1,8,[.d (.val .nilFunc)]⟩
def ti_300:TI:=⟨.other,1,8,[.d (.val .nilFunc)]⟩
def ti_301:TI:=⟨.other,1,8,[.d (.val .nilFunc)]⟩
def ti_303:TI:=⟨.other,1,8,[.d (.val .nilFunc)]⟩
def ti_304:TI:=⟨.other,1,8,[.d (.val .nilFunc)]⟩
def ti_305:TI:=⟨.other,1,8,[.d (.val .nilFunc)]⟩
def ti_306:TI:=⟨.other,1,8,[.d (.val .nilFunc)]⟩
def ti_307:TI:=⟨.other,1,8,[.d (.val .nilFunc)]⟩
def ti_308:TI:=⟨.other,1,8,[.d (.val .nilFunc)]⟩
def ti_309:TI:=⟨.other,1,8,[.d (.val .nilFunc)]⟩
def ti_310:TI:=⟨.other,1,8,[.d (.val (.map none))]⟩
def ti_311:TI:=⟨.other,1,8,[.d (.val (.map none))]⟩
def ti_312:TI:=⟨.other,1,8,[.d (.val .nilFunc)]⟩
def ti_313:TI:=⟨.ptr 5,1,8,[.d (.val (.pointer none))]⟩
def ti_314:TI:=⟨.other,1,8,[.d (.val .nilFunc)]⟩
def ti_315:TI:=⟨.other,1,8,[.d (.val .nilFunc)]⟩
def ti_316:TI:=⟨.other,1,8,[.d (.val .nilFunc)]⟩
def ti_317:TI:=⟨.other,1,8,[.d (.val .nilFunc)]⟩
def ti_318:TI:=⟨.other,1,8,[.d (.val .nilFunc)]⟩
def ti_319:TI:=⟨.other,1,8,[.d (.val .nilFunc)]⟩
def ti_321:TI:=⟨.other,1,8,[.d (.val .nilFunc)]⟩
def ti_322:TI:=⟨.other,1,8,[.d (.val .nilFunc)]⟩
def ti_323:TI:=⟨.other,1,8,[.d (.val .nilFunc)]⟩
def ti_324:TI:=⟨.other,1,8,[.d (.val .nilFunc)]⟩
def ti_325:TI:=⟨.other,1,8,[.d (.val .nilFunc)]⟩
def ti_326:TI:=⟨.int .i64,1,8,[.d (.val (.int .i64 0))]⟩
def ti_328:TI:=⟨.other,1,8,[.d (.val .nilFunc)]⟩
def ti_329:TI:=⟨.other,1,8,[.d (.val .nilFunc)]⟩
def ti_330:TI:=⟨.other,1,8,[.d (.val .nilFunc)]⟩
def ti_331:TI:=⟨.other,1,8,[.d (.val .nilFunc)]⟩
def ti_332:TI:=⟨.other,1,8,[.d (.val .nilFunc)]⟩
def ti_333:TI:=⟨.int .u32,1,4,[.d (.val (.int .u32 0))]⟩
def ti_334:TI:=⟨.other,1,8,[.d (.val .nilFunc)]⟩
def ti_335:TI:=⟨.int .u64,1,8,[.d (.val (.int .u64 0))]⟩
def ti_336:TI:=⟨.int .u64,1,8,[.d (.val (.int .u64 0))]⟩
def ti_337:TI:=⟨.other,1,8,[.d (.val .nilFunc)]⟩
def ti_338:TI:=⟨.other,1,8,[.d (.val .nilFunc)]⟩
def ti_339:TI:=⟨.other,1,8,[.d (.val .nilFunc)]⟩
def ti_340:TI:=⟨.ptr 3,1,8,[.d (.val (.pointer none))]⟩
def ti_341:TI:=⟨.other,1,8,[.d (.val .nilFunc)]⟩
def ti_342:TI:=⟨.ptr 336,1,8,[.d (.val (.pointer none))]⟩
def ti_344:TI:=⟨.other,1,8,[.d (.val .nilFunc)]⟩
def ti_345:TI:=⟨.struct [(17,0,1),(17,1,1),(17,2,1),(9,3,1)],4,40,[.d (.val (.pointer none)),.d (.val (.pointer none)),.d (.val (.pointer none)),.d (.str [])]⟩
def ti_346:TI:=⟨.struct [(17,0,1),(17,1,1),(17,2,1),(9,3,1)],4,40,[.d (.val (.pointer none)),.d (.val (.pointer none)),.d (.val (.pointer none)),.d (.str [])]⟩
def ti_350:TI:=⟨.other,1,8,[.d (.val .nilFunc)]⟩
def ti_351:TI:=⟨.int .u8,1,1,[.d (.val (.int .u8 0))]⟩
def ti_352:TI:=⟨.int .u8,1,1,[.d (.val (.int .u8 0))]⟩
def ti_353:TI:=⟨.other,1,8,[.d (.val .nilFunc)]⟩
def ti_354:TI:=⟨.int .i32,1,4,[.d (.val (.int .i32 0))]⟩
def ti_355:TI:=⟨.int .i32,1,4,[.d (.val (.int .i32 0))]⟩
def ti_356:TI:=⟨.struct [(12,0,1),(12,1,1),(333,2,1),(351,3,1),(5,4,1),(5,5,1),(352,6,1),(353,7,1),(313,8,1),(354,9,1),(355,10,1)],11,48,[.d (.val (.int .u64 0)),.d (.val (.int .u64 0)),.d (.val (.int .u32 0)),.d (.val (.int .u8 0)),.d (.val (.int .u8 0)),.d (.val (.int .u8 0)),.d (.val (.int .u8 0)),.d (.val .nilFunc),.d (.val (.pointer none)),.d (.val (.int .i32 0)),.d (.val (.int .i32 0))]⟩
def ti_357:TI:=⟨.struct [(12,0,1),(12,1,1),(333,2,1),(351,3,1),(5,4,1),(5,5,1),(352,6,1),(353,7,1),(313,8,1),(354,9,1),(355,10,1)],11,48,[.d (.val (.int .u64 0)),.d (.val (.int .u64 0)),.d (.val (.int .u32 0)),.d (.val (.int .u8 0)),.d (.val (.int .u8 0)),.d (.val (.int .u8 0)),.d (.val (.int .u8 0)),.d (.val .nilFunc),.d (.val (.pointer none)),.d (.val (.int .i32 0)),.d (.val (.int .i32 0))]⟩
def ti_358:TI:=⟨.other,1,8,[.d (.val .nilFunc)]⟩
def ti_359:TI:=⟨.other,1,8,[.d (.val .nilFunc)]⟩
def tis:List (Option TI):=[none,some ti_1,some ti_2,some ti_3,some ti_4,some ti_5,some ti_6,some ti_7,some ti_8,some ti_9,some ti_10,some ti_11,some ti_12,some ti_13,some ti_14,some ti_15,some ti_16,some ti_17,some ti_18,some ti_19,some ti_20,some ti_21,some ti_22,some ti_23,some ti_24,some ti_25,some ti_26,none,some ti_28,some ti_29,some ti_30,some ti_31,some ti_32,some ti_33,some ti_34,some ti_35,some ti_36,some ti_37,some ti_38,some ti_39,some ti_40,some ti_41,some ti_42,none,some ti_44,some ti_45,some ti_46,some ti_47,some ti_48,some ti_49,some ti_50,some ti_51,some ti_52,some ti_53,some ti_54,some ti_55,some ti_56,some ti_57,none,some ti_59,some ti_60,some ti_61,some ti_62,some ti_63,some ti_64,some ti_65,some ti_66,some ti_67,some ti_68,some ti_69,some ti_70,some ti_71,some ti_72,some ti_73,some ti_74,some ti_75,none,some ti_77,some ti_78,some ti_79,some ti_80,some ti_81,some ti_82,some ti_83,some ti_84,some ti_85,some ti_86,some ti_87,some ti_88,some ti_89,some ti_90,some ti_91,some ti_92,some ti_93,none,some ti_95,some ti_96,some ti_97,some ti_98,none,some ti_100,some ti_101,some ti_102,some ti_103,some ti_104,some ti_105,none,some ti_107,some ti_108,some ti_109,some ti_110,some ti_111,some ti_112,some ti_113,some ti_114,some ti_115,some ti_116,some ti_117,some ti_118,some ti_119,some ti_120,some ti_121,some ti_122,some ti_123,some ti_124,some ti_125,some ti_126,some ti_127,some ti_128,none,some ti_130,some ti_131,some ti_132,some ti_133,some ti_134,some ti_135,some ti_136,some ti_137,some ti_138,some ti_139,some ti_140,some ti_141,some ti_142,none,some ti_144,none,some ti_146,some ti_147,some ti_148,some ti_149,some ti_150,some ti_151,some ti_152,none,some ti_154,some ti_155,some ti_156,some ti_157,some ti_158,some ti_159,some ti_160,some ti_161,some ti_162,some ti_163,some ti_164,some ti_165,some ti_166,some ti_167,none,some ti_169,some ti_170,some ti_171,some ti_172,some ti_173,some ti_174,some ti_175,some ti_176,some ti_177,some ti_178,some ti_179,some ti_180,some ti_181,some ti_182,some ti_183,some ti_184,some ti_185,some ti_186,some ti_187,some ti_188,some ti_189,some ti_190,some ti_191,some ti_192,none,some ti_194,some ti_195,some ti_196,some ti_197,some ti_198,none,some ti_200,some ti_201,none,some ti_203,some ti_204,some ti_205,some ti_206,some ti_207,some ti_208,some ti_209,some ti_210,some ti_211,some ti_212,some ti_213,some ti_214,some ti_215,some ti_216,some ti_217,some ti_218,some ti_219,some ti_220,some ti_221,none,some ti_223,some ti_224,some ti_225,some ti_226,some ti_227,some ti_228,some ti_229,some ti_230,some ti_231,some ti_232,some ti_233,some ti_234,some ti_235,some ti_236,some ti_237,some ti_238,some ti_239,some ti_240,some ti_241,some ti_242,some ti_243,some ti_244,some ti_245,some ti_246,some ti_247,some ti_248,some ti_249,some ti_250,some ti_251,some ti_252,some ti_253,some ti_254,some ti_255,none,some ti_257,some ti_258,some ti_259,some ti_260,some ti_261,some ti_262,some ti_263,some ti_264,some ti_265,none,some ti_267,some ti_268,some ti_269,some ti_270,some ti_271,some ti_272,some ti_273,none,some ti_275,none,some ti_277,some ti_278,some ti_279,some ti_280,some ti_281,some ti_282,some ti_283,some ti_284,some ti_285,some ti_286,some ti_287,some ti_288,some ti_289,some ti_290,some ti_291,some ti_292,some ti_293,none,some ti_295,some ti_296,some ti_297,some ti_298,some ti_299,some ti_300,some ti_301,none,some ti_303,some ti_304,some ti_305,some ti_306,some ti_307,some ti_308,some ti_309,some ti_310,some ti_311,some ti_312,some ti_313,some ti_314,some ti_315,some ti_316,some ti_317,some ti_318,some ti_319,none,some ti_321,some ti_322,some ti_323,some ti_324,some ti_325,some ti_326,none,some ti_328,some ti_329,some ti_330,some ti_331,some ti_332,some ti_333,some ti_334,some ti_335,some ti_336,some ti_337,some ti_338,some ti_339,some ti_340,some ti_341,some ti_342,none,some ti_344,some ti_345,some ti_346,none,none,none,some ti_350,some ti_351,some ti_352,some ti_353,some ti_354,some ti_355,some ti_356,some ti_357,some ti_358,some ti_359]
theorem tok_1:TI.Ok Tryz.prog 1 ti_1:=.of_check (by kernel_rfl) (by kernel_rfl)
theorem tok_2:TI.Ok Tryz.prog 2 ti_2:=.of_check (by kernel_rfl) (by kernel_rfl)
theorem tok_3:TI.Ok Tryz.prog 3 ti_3:=.of_check (by kernel_rfl) (by kernel_rfl)
theorem tok_4:TI.Ok Tryz.prog 4 ti_4:=.of_check (by kernel_rfl) (by kernel_rfl)
theorem tok_5:TI.Ok Tryz.prog 5 ti_5:=.of_check (by kernel_rfl) (by kernel_rfl)
theorem tok_6:TI.Ok Tryz.prog 6 ti_6:=.of_check (by kernel_rfl) (by kernel_rfl)
theorem tok_7:TI.Ok Tryz.prog 7 ti_7:=.of_check (by kernel_rfl) (by kernel_rfl)
theorem tok_8:TI.Ok Tryz.prog 8 ti_8:=.of_check (by kernel_rfl) (by kernel_rfl)
theorem tok_9:TI.Ok Tryz.prog 9 ti_9:=.of_check (by kernel_rfl) (by kernel_rfl)
theorem tok_10:TI.Ok Tryz.prog 10 ti_10:=.of_check (by kernel_rfl) (by kernel_rfl)
theorem tok_11:TI.Ok Tryz.prog 11 ti_11:=.of_check (by kernel_rfl) (by kernel_rfl)
theorem tok_12:TI.Ok Tryz.prog 12 ti_12:=.of_check (by kernel_rfl) (by kernel_rfl)
theorem tok_13:TI.Ok Tryz.prog 13 ti_13:=.of_check (by kernel_rfl) (by kernel_rfl)
theorem tok_14:TI.Ok Tryz.prog 14 ti_14:=.of_check (by kernel_rfl) (by kernel_rfl)
theorem tok_15:TI.Ok Tryz.prog 15 ti_15:=.of_check (by kernel_rfl) (by kernel_rfl)
theorem tok_16:TI.Ok Tryz.prog 16 ti_16:=.of_check (by kernel_rfl) (by kernel_rfl)
theorem tok_17:TI.Ok Tryz.prog 17 ti_17:=.of_check (by kernel_rfl) (by kernel_rfl)
theorem tok_18:TI.Ok Tryz.prog 18 ti_18:=.of_check (by kernel_rfl) (by kernel_rfl)
theorem tok_19:TI.Ok Tryz.prog 19 ti_19:=.of_check (by kernel_rfl) (by kernel_rfl)
theorem tok_20:TI.Ok Tryz.prog 20 ti_20:=.of_check (by kernel_rfl) (by kernel_rfl)
theorem tok_21:TI.Ok Tryz.prog 21 ti_21:=.of_check (by kernel_rfl) (by kernel_rfl)
theorem tok_22:TI.Ok Tryz.prog 22 ti_22:=.of_check (by kernel_rfl) (by kernel_rfl)
theorem tok_23:TI.Ok Tryz.prog 23 ti_23:=.of_check (by kernel_rfl) (by kernel_rfl)
theorem tok_24:TI.Ok Tryz.prog 24 ti_24:=.of_check (by kernel_rfl) (by kernel_rfl)
theorem tok_25:TI.Ok Tryz.prog 25 ti_25:=.of_check (by kernel_rfl) (by kernel_rfl)
theorem tok_26:TI.Ok Tryz.prog 26 ti_26:=.of_check (by kernel_rfl) (by kernel_rfl)
theorem tok_28:TI.Ok Tryz.prog 28 ti_28:=.of_check (by kernel_rfl) (by kernel_rfl)
theorem tok_29:TI.Ok Tryz.prog 29 ti_29:=.of_check (by kernel_rfl) (by kernel_rfl)
theorem tok_30:TI.Ok Tryz.prog 30 ti_30:=.of_check (by kernel_rfl) (by kernel_rfl)
theorem tok_31:TI.Ok Tryz.prog 31 ti_31:=.of_check (by kernel_rfl) (by kernel_rfl)
theorem tok_32:TI.Ok Tryz.prog 32 ti_32:=.of_check (by kernel_rfl) (by kernel_rfl)
theorem tok_33:TI.Ok Tryz.prog 33 ti_33:=.of_check (by kernel_rfl) (by kernel_rfl)
theorem tok_34:TI.Ok Tryz.prog 34 ti_34:=.of_check (by kernel_rfl) (by kernel_rfl)
theorem tok_35:TI.Ok Tryz.prog 35 ti_35:=.of_check (by kernel_rfl) (by kernel_rfl)
theorem tok_36:TI.Ok Tryz.prog 36 ti_36:=.of_check (by kernel_rfl) (by kernel_rfl)
theorem tok_37:TI.Ok Tryz.prog 37 ti_37:=.of_check (by kernel_rfl) (by kernel_rfl)
theorem tok_38:TI.Ok Tryz.prog 38 ti_38:=.of_check (by kernel_rfl) (by kernel_rfl)
theorem tok_39:TI.Ok Tryz.prog 39 ti_39:=.of_check (by kernel_rfl) (by kernel_rfl)
theorem tok_40:TI.Ok Tryz.prog 40 ti_40:=.of_check (by kernel_rfl) (by kernel_rfl)
theorem tok_41:TI.Ok Tryz.prog 41 ti_41:=.of_check (by kernel_rfl) (by kernel_rfl)
theorem tok_42:TI.Ok Tryz.prog 42 ti_42:=.of_check (by kernel_rfl) (by kernel_rfl)
theorem tok_44:TI.Ok Tryz.prog 44 ti_44:=.of_check (by kernel_rfl) (by kernel_rfl)
theorem tok_45:TI.Ok Tryz.prog 45 ti_45:=.of_check (by kernel_rfl) (by kernel_rfl)
theorem tok_46:TI.Ok Tryz.prog 46 ti_46:=.of_check (by kernel_rfl) (by kernel_rfl)
theorem tok_47:TI.Ok Tryz.prog 47 ti_47:=.of_check (by kernel_rfl) (by kernel_rfl)
theorem tok_48:TI.Ok Tryz.prog 48 ti_48:=.of_check (by kernel_rfl) (by kernel_rfl)
theorem tok_49:TI.Ok Tryz.prog 49 ti_49:=.of_check (by kernel_rfl) (by kernel_rfl)
theorem tok_50:TI.Ok Tryz.prog 50 ti_50:=.of_check (by kernel_rfl) (by kernel_rfl)
theorem tok_51:TI.Ok Tryz.prog 51 ti_51:=.of_check (by kernel_rfl) (by kernel_rfl)
theorem tok_52:TI.Ok Tryz.prog 52 ti_52:=.of_check (by kernel_rfl) (by kernel_rfl)
theorem tok_53:TI.Ok Tryz.prog 53 ti_53:=.of_check (by kernel_rfl) (by kernel_rfl)
theorem tok_54:TI.Ok Tryz.prog 54 ti_54:=.of_check (by kernel_rfl) (by kernel_rfl)
theorem tok_55:TI.Ok Tryz.prog 55 ti_55:=.of_check (by kernel_rfl) (by kernel_rfl)
theorem tok_56:TI.Ok Tryz.prog 56 ti_56:=.of_check (by kernel_rfl) (by kernel_rfl)
theorem tok_57:TI.Ok Tryz.prog 57 ti_57:=.of_check (by kernel_rfl) (by kernel_rfl)
theorem tok_59:TI.Ok Tryz.prog 59 ti_59:=.of_check (by kernel_rfl) (by kernel_rfl)
theorem tok_60:TI.Ok Tryz.prog 60 ti_60:=.of_check (by kernel_rfl) (by kernel_rfl)
theorem tok_61:TI.Ok Tryz.prog 61 ti_61:=.of_check (by kernel_rfl) (by kernel_rfl)
theorem tok_62:TI.Ok Tryz.prog 62 ti_62:=.of_check (by kernel_rfl) (by kernel_rfl)
theorem tok_63:TI.Ok Tryz.prog 63 ti_63:=.of_check (by kernel_rfl) (by kernel_rfl)
theorem tok_64:TI.Ok Tryz.prog 64 ti_64:=.of_check (by kernel_rfl) (by kernel_rfl)
theorem tok_65:TI.Ok Tryz.prog 65 ti_65:=.of_check (by kernel_rfl) (by kernel_rfl)
theorem tok_66:TI.Ok Tryz.prog 66 ti_66:=.of_check (by kernel_rfl) (by kernel_rfl)
theorem tok_67:TI.Ok Tryz.prog 67 ti_67:=.of_check (by kernel_rfl) (by kernel_rfl)
theorem tok_68:TI.Ok Tryz.prog 68 ti_68:=.of_check (by kernel_rfl) (by kernel_rfl)
theorem tok_69:TI.Ok Tryz.prog 69 ti_69:=.of_check (by kernel_rfl) (by kernel_rfl)
theorem tok_70:TI.Ok Tryz.prog 70 ti_70:=.of_check (by kernel_rfl) (by kernel_rfl)
theorem tok_71:TI.Ok Tryz.prog 71 ti_71:=.of_check (by kernel_rfl) (by kernel_rfl)
theorem tok_72:TI.Ok Tryz.prog 72 ti_72:=.of_check (by kernel_rfl) (by kernel_rfl)
theorem tok_73:TI.Ok Tryz.prog 73 ti_73:=.of_check (by kernel_rfl) (by kernel_rfl)
theorem tok_74:TI.Ok Tryz.prog 74 ti_74:=.of_check (by kernel_rfl) (by kernel_rfl)
theorem tok_75:TI.Ok Tryz.prog 75 ti_75:=.of_check (by kernel_rfl) (by kernel_rfl)
theorem tok_77:TI.Ok Tryz.prog 77 ti_77:=.of_check (by kernel_rfl) (by kernel_rfl)
theorem tok_78:TI.Ok Tryz.prog 78 ti_78:=.of_check (by kernel_rfl) (by kernel_rfl)
theorem tok_79:TI.Ok Tryz.prog 79 ti_79:=.of_check (by kernel_rfl) (by kernel_rfl)
theorem tok_80:TI.Ok Tryz.prog 80 ti_80:=.of_check (by kernel_rfl) (by kernel_rfl)
theorem tok_81:TI.Ok Tryz.prog 81 ti_81:=.of_check (by kernel_rfl) (by kernel_rfl)
theorem tok_82:TI.Ok Tryz.prog 82 ti_82:=.of_check (by kernel_rfl) (by kernel_rfl)
theorem tok_83:TI.Ok Tryz.prog 83 ti_83:=.of_check (by kernel_rfl) (by kernel_rfl)
theorem tok_84:TI.Ok Tryz.prog 84 ti_84:=.of_check (by kernel_rfl) (by kernel_rfl)
theorem tok_85:TI.Ok Tryz.prog 85 ti_85:=.of_check (by kernel_rfl) (by kernel_rfl)
theorem tok_86:TI.Ok Tryz.prog 86 ti_86:=.of_check (by kernel_rfl) (by kernel_rfl)
theorem tok_87:TI.Ok Tryz.prog 87 ti_87:=.of_check (by kernel_rfl) (by kernel_rfl)
theorem tok_88:TI.Ok Tryz.prog 88 ti_88:=.of_check (by kernel_rfl) (by kernel_rfl)
theorem tok_89:TI.Ok Tryz.prog 89 ti_89:=.of_check (by kernel_rfl) (by kernel_rfl)
theorem tok_90:TI.Ok Tryz.prog 90 ti_90:=.of_check (by kernel_rfl) (by kernel_rfl)
theorem tok_91:TI.Ok Tryz.prog 91 ti_91:=.of_check (by kernel_rfl) (by kernel_rfl)
theorem tok_92:TI.Ok Tryz.prog 92 ti_92:=.of_check (by kernel_rfl) (by kernel_rfl)
theorem tok_93:TI.Ok Tryz.prog 93 ti_93:=.of_check (by kernel_rfl) (by kernel_rfl)
theorem tok_95:TI.Ok Tryz.prog 95 ti_95:=.of_check (by kernel_rfl) (by kernel_rfl)
theorem tok_96:TI.Ok Tryz.prog 96 ti_96:=.of_check (by kernel_rfl) (by kernel_rfl)
theorem tok_97:TI.Ok Tryz.prog 97 ti_97:=.of_check (by kernel_rfl) (by kernel_rfl)
theorem tok_98:TI.Ok Tryz.prog 98 ti_98:=.of_check (by kernel_rfl) (by kernel_rfl)
theorem tok_100:TI.Ok Tryz.prog 100 ti_100:=.of_check (by kernel_rfl) (by kernel_rfl)
theorem tok_101:TI.Ok Tryz.prog 101 ti_101:=.of_check (by kernel_rfl) (by kernel_rfl)
theorem tok_102:TI.Ok Tryz.prog 102 ti_102:=.of_check (by kernel_rfl) (by kernel_rfl)
theorem tok_103:TI.Ok Tryz.prog 103 ti_103:=.of_check (by kernel_rfl) (by kernel_rfl)
theorem tok_104:TI.Ok Tryz.prog 104 ti_104:=.of_check (by kernel_rfl) (by kernel_rfl)
theorem tok_105:TI.Ok Tryz.prog 105 ti_105:=.of_check (by kernel_rfl) (by kernel_rfl)
theorem tok_107:TI.Ok Tryz.prog 107 ti_107:=.of_check (by kernel_rfl) (by kernel_rfl)
theorem tok_108:TI.Ok Tryz.prog 108 ti_108:=.of_check (by kernel_rfl) (by kernel_rfl)
theorem tok_109:TI.Ok Tryz.prog 109 ti_109:=.of_check (by kernel_rfl) (by kernel_rfl)
theorem tok_110:TI.Ok Tryz.prog 110 ti_110:=.of_check (by kernel_rfl) (by kernel_rfl)
theorem tok_111:TI.Ok Tryz.prog 111 ti_111:=.of_check (by kernel_rfl) (by kernel_rfl)
theorem tok_112:TI.Ok Tryz.prog 112 ti_112:=.of_check (by kernel_rfl) (by kernel_rfl)
theorem tok_113:TI.Ok Tryz.prog 113 ti_113:=.of_check (by kernel_rfl) (by kernel_rfl)
theorem tok_114:TI.Ok Tryz.prog 114 ti_114:=.of_check (by kernel_rfl) (by kernel_rfl)
theorem tok_115:TI.Ok Tryz.prog 115 ti_115:=.of_check (by kernel_rfl) (by kernel_rfl)
theorem tok_116:TI.Ok Tryz.prog 116 ti_116:=.of_check (by kernel_rfl) (by kernel_rfl)
theorem tok_117:TI.Ok Tryz.prog 117 ti_117:=.of_check (by kernel_rfl) (by kernel_rfl)
theorem tok_118:TI.Ok Tryz.prog 118 ti_118:=.of_check (by kernel_rfl) (by kernel_rfl)
theorem tok_119:TI.Ok Tryz.prog 119 ti_119:=.of_check (by kernel_rfl) (by kernel_rfl)
theorem tok_120:TI.Ok Tryz.prog 120 ti_120:=.of_check (by kernel_rfl) (by kernel_rfl)
theorem tok_121:TI.Ok Tryz.prog 121 ti_121:=.of_check (by kernel_rfl) (by kernel_rfl)
theorem tok_122:TI.Ok Tryz.prog 122 ti_122:=.of_check (by kernel_rfl) (by kernel_rfl)
theorem tok_123:TI.Ok Tryz.prog 123 ti_123:=.of_check (by kernel_rfl) (by kernel_rfl)
theorem tok_124:TI.Ok Tryz.prog 124 ti_124:=.of_check (by kernel_rfl) (by kernel_rfl)
theorem tok_125:TI.Ok Tryz.prog 125 ti_125:=.of_check (by kernel_rfl) (by kernel_rfl)
theorem tok_126:TI.Ok Tryz.prog 126 ti_126:=.of_check (by kernel_rfl) (by kernel_rfl)
theorem tok_127:TI.Ok Tryz.prog 127 ti_127:=.of_check (by kernel_rfl) (by kernel_rfl)
theorem tok_128:TI.Ok Tryz.prog 128 ti_128:=.of_check (by kernel_rfl) (by kernel_rfl)
theorem tok_130:TI.Ok Tryz.prog 130 ti_130:=.of_check (by kernel_rfl) (by kernel_rfl)
theorem tok_131:TI.Ok Tryz.prog 131 ti_131:=.of_check (by kernel_rfl) (by kernel_rfl)
theorem tok_132:TI.Ok Tryz.prog 132 ti_132:=.of_check (by kernel_rfl) (by kernel_rfl)
theorem tok_133:TI.Ok Tryz.prog 133 ti_133:=.of_check (by kernel_rfl) (by kernel_rfl)
theorem tok_134:TI.Ok Tryz.prog 134 ti_134:=.of_check (by kernel_rfl) (by kernel_rfl)
theorem tok_135:TI.Ok Tryz.prog 135 ti_135:=.of_check (by kernel_rfl) (by kernel_rfl)
theorem tok_136:TI.Ok Tryz.prog 136 ti_136:=.of_check (by kernel_rfl) (by kernel_rfl)
theorem tok_137:TI.Ok Tryz.prog 137 ti_137:=.of_check (by kernel_rfl) (by kernel_rfl)
theorem tok_138:TI.Ok Tryz.prog 138 ti_138:=.of_check (by kernel_rfl) (by kernel_rfl)
theorem tok_139:TI.Ok Tryz.prog 139 ti_139:=.of_check (by kernel_rfl) (by kernel_rfl)
theorem tok_140:TI.Ok Tryz.prog 140 ti_140:=.of_check (by kernel_rfl) (by kernel_rfl)
theorem tok_141:TI.Ok Tryz.prog 141 ti_141:=.of_check (by kernel_rfl) (by kernel_rfl)
theorem tok_142:TI.Ok Tryz.prog 142 ti_142:=.of_check (by kernel_rfl) (by kernel_rfl)
theorem tok_144:TI.Ok Tryz.prog 144 ti_144:=.of_check (by kernel_rfl) (by kernel_rfl)
theorem tok_146:TI.Ok Tryz.prog 146 ti_146:=.of_check (by kernel_rfl) (by kernel_rfl)
theorem tok_147:TI.Ok Tryz.prog 147 ti_147:=.of_check (by kernel_rfl) (by kernel_rfl)
theorem tok_148:TI.Ok Tryz.prog 148 ti_148:=.of_check (by kernel_rfl) (by kernel_rfl)
theorem tok_149:TI.Ok Tryz.prog 149 ti_149:=.of_check (by kernel_rfl) (by kernel_rfl)
theorem tok_150:TI.Ok Tryz.prog 150 ti_150:=.of_check (by kernel_rfl) (by kernel_rfl)
theorem tok_151:TI.Ok Tryz.prog 151 ti_151:=.of_check (by kernel_rfl) (by kernel_rfl)
theorem tok_152:TI.Ok Tryz.prog 152 ti_152:=.of_check (by kernel_rfl) (by kernel_rfl)
theorem tok_154:TI.Ok Tryz.prog 154 ti_154:=.of_check (by kernel_rfl) (by kernel_rfl)
theorem tok_155:TI.Ok Tryz.prog 155 ti_155:=.of_check (by kernel_rfl) (by kernel_rfl)
theorem tok_156:TI.Ok Tryz.prog 156 ti_156:=.of_check (by kernel_rfl) (by kernel_rfl)
theorem tok_157:TI.Ok Tryz.prog 157 ti_157:=.of_check (by kernel_rfl) (by kernel_rfl)
theorem tok_158:TI.Ok Tryz.prog 158 ti_158:=.of_check (by kernel_rfl) (by kernel_rfl)
theorem tok_159:TI.Ok Tryz.prog 159 ti_159:=.of_check (by kernel_rfl) (by kernel_rfl)
theorem tok_160:TI.Ok Tryz.prog 160 ti_160:=.of_check (by kernel_rfl) (by kernel_rfl)
theorem tok_161:TI.Ok Tryz.prog 161 ti_161:=.of_check (by kernel_rfl) (by kernel_rfl)
theorem tok_162:TI.Ok Tryz.prog 162 ti_162:=.of_check (by kernel_rfl) (by kernel_rfl)
theorem tok_163:TI.Ok Tryz.prog 163 ti_163:=.of_check (by kernel_rfl) (by kernel_rfl)
theorem tok_164:TI.Ok Tryz.prog 164 ti_164:=.of_check (by kernel_rfl) (by kernel_rfl)
theorem tok_165:TI.Ok Tryz.prog 165 ti_165:=.of_check (by kernel_rfl) (by kernel_rfl)
theorem tok_166:TI.Ok Tryz.prog 166 ti_166:=.of_check (by kernel_rfl) (by kernel_rfl)
theorem tok_167:TI.Ok Tryz.prog 167 ti_167:=.of_check (by kernel_rfl) (by kernel_rfl)
theorem tok_169:TI.Ok Tryz.prog 169 ti_169:=.of_check (by kernel_rfl) (by kernel_rfl)
theorem tok_170:TI.Ok Tryz.prog 170 ti_170:=.of_check (by kernel_rfl) (by kernel_rfl)
theorem tok_171:TI.Ok Tryz.prog 171 ti_171:=.of_check (by kernel_rfl) (by kernel_rfl)
theorem tok_172:TI.Ok Tryz.prog 172 ti_172:=.of_check (by kernel_rfl) (by kernel_rfl)
theorem tok_173:TI.Ok Tryz.prog 173 ti_173:=.of_check (by kernel_rfl) (by kernel_rfl)
theorem tok_174:TI.Ok Tryz.prog 174 ti_174:=.of_check (by kernel_rfl) (by kernel_rfl)
theorem tok_175:TI.Ok Tryz.prog 175 ti_175:=.of_check (by kernel_rfl) (by kernel_rfl)
theorem tok_176:TI.Ok Tryz.prog 176 ti_176:=.of_check (by kernel_rfl) (by kernel_rfl)
theorem tok_177:TI.Ok Tryz.prog 177 ti_177:=.of_check (by kernel_rfl) (by kernel_rfl)
theorem tok_178:TI.Ok Tryz.prog 178 ti_178:=.of_check (by kernel_rfl) (by kernel_rfl)
theorem tok_179:TI.Ok Tryz.prog 179 ti_179:=.of_check (by kernel_rfl) (by kernel_rfl)
theorem tok_180:TI.Ok Tryz.prog 180 ti_180:=.of_check (by kernel_rfl) (by kernel_rfl)
theorem tok_181:TI.Ok Tryz.prog 181 ti_181:=.of_check (by kernel_rfl) (by kernel_rfl)
theorem tok_182:TI.Ok Tryz.prog 182 ti_182:=.of_check (by kernel_rfl) (by kernel_rfl)
theorem tok_183:TI.Ok Tryz.prog 183 ti_183:=.of_check (by kernel_rfl) (by kernel_rfl)
theorem tok_184:TI.Ok Tryz.prog 184 ti_184:=.of_check (by kernel_rfl) (by kernel_rfl)
theorem tok_185:TI.Ok Tryz.prog 185 ti_185:=.of_check (by kernel_rfl) (by kernel_rfl)
theorem tok_186:TI.Ok Tryz.prog 186 ti_186:=.of_check (by kernel_rfl) (by kernel_rfl)
theorem tok_187:TI.Ok Tryz.prog 187 ti_187:=.of_check (by kernel_rfl) (by kernel_rfl)
theorem tok_188:TI.Ok Tryz.prog 188 ti_188:=.of_check (by kernel_rfl) (by kernel_rfl)
theorem tok_189:TI.Ok Tryz.prog 189 ti_189:=.of_check (by kernel_rfl) (by kernel_rfl)
theorem tok_190:TI.Ok Tryz.prog 190 ti_190:=.of_check (by kernel_rfl) (by kernel_rfl)
theorem tok_191:TI.Ok Tryz.prog 191 ti_191:=.of_check (by kernel_rfl) (by kernel_rfl)
theorem tok_192:TI.Ok Tryz.prog 192 ti_192:=.of_check (by kernel_rfl) (by kernel_rfl)
theorem tok_194:TI.Ok Tryz.prog 194 ti_194:=.of_check (by kernel_rfl) (by kernel_rfl)
theorem tok_195:TI.Ok Tryz.prog 195 ti_195:=.of_check (by kernel_rfl) (by kernel_rfl)
theorem tok_196:TI.Ok Tryz.prog 196 ti_196:=.of_check (by kernel_rfl) (by kernel_rfl)
theorem tok_197:TI.Ok Tryz.prog 197 ti_197:=.of_check (by kernel_rfl) (by kernel_rfl)
theorem tok_198:TI.Ok Tryz.prog 198 ti_198:=.of_check (by kernel_rfl) (by kernel_rfl)
theorem tok_200:TI.Ok Tryz.prog 200 ti_200:=.of_check (by kernel_rfl) (by kernel_rfl)
theorem tok_201:TI.Ok Tryz.prog 201 ti_201:=.of_check (by kernel_rfl) (by kernel_rfl)
theorem tok_203:TI.Ok Tryz.prog 203 ti_203:=.of_check (by kernel_rfl) (by kernel_rfl)
theorem tok_204:TI.Ok Tryz.prog 204 ti_204:=.of_check (by kernel_rfl) (by kernel_rfl)
theorem tok_205:TI.Ok Tryz.prog 205 ti_205:=.of_check (by kernel_rfl) (by kernel_rfl)
theorem tok_206:TI.Ok Tryz.prog 206 ti_206:=.of_check (by kernel_rfl) (by kernel_rfl)
theorem tok_207:TI.Ok Tryz.prog 207 ti_207:=.of_check (by kernel_rfl) (by kernel_rfl)
theorem tok_208:TI.Ok Tryz.prog 208 ti_208:=.of_check (by kernel_rfl) (by kernel_rfl)
theorem tok_209:TI.Ok Tryz.prog 209 ti_209:=.of_check (by kernel_rfl) (by kernel_rfl)
theorem tok_210:TI.Ok Tryz.prog 210 ti_210:=.of_check (by kernel_rfl) (by kernel_rfl)
theorem tok_211:TI.Ok Tryz.prog 211 ti_211:=.of_check (by kernel_rfl) (by kernel_rfl)
theorem tok_212:TI.Ok Tryz.prog 212 ti_212:=.of_check (by kernel_rfl) (by kernel_rfl)
theorem tok_213:TI.Ok Tryz.prog 213 ti_213:=.of_check (by kernel_rfl) (by kernel_rfl)
theorem tok_214:TI.Ok Tryz.prog 214 ti_214:=.of_check (by kernel_rfl) (by kernel_rfl)
theorem tok_215:TI.Ok Tryz.prog 215 ti_215:=.of_check (by kernel_rfl) (by kernel_rfl)
theorem tok_216:TI.Ok Tryz.prog 216 ti_216:=.of_check (by kernel_rfl) (by kernel_rfl)
theorem tok_217:TI.Ok Tryz.prog 217 ti_217:=.of_check (by kernel_rfl) (by kernel_rfl)
theorem tok_218:TI.Ok Tryz.prog 218 ti_218:=.of_check (by kernel_rfl) (by kernel_rfl)
theorem tok_219:TI.Ok Tryz.prog 219 ti_219:=.of_check (by kernel_rfl) (by kernel_rfl)
theorem tok_220:TI.Ok Tryz.prog 220 ti_220:=.of_check (by kernel_rfl) (by kernel_rfl)
theorem tok_221:TI.Ok Tryz.prog 221 ti_221:=.of_check (by kernel_rfl) (by kernel_rfl)
theorem tok_223:TI.Ok Tryz.prog 223 ti_223:=.of_check (by kernel_rfl) (by kernel_rfl)
theorem tok_224:TI.Ok Tryz.prog 224 ti_224:=.of_check (by kernel_rfl) (by kernel_rfl)
theorem tok_225:TI.Ok Tryz.prog 225 ti_225:=.of_check (by kernel_rfl) (by kernel_rfl)
theorem tok_226:TI.Ok Tryz.prog 226 ti_226:=.of_check (by kernel_rfl) (by kernel_rfl)
theorem tok_227:TI.Ok Tryz.prog 227 ti_227:=.of_check (by kernel_rfl) (by kernel_rfl)
theorem tok_228:TI.Ok Tryz.prog 228 ti_228:=.of_check (by kernel_rfl) (by kernel_rfl)
theorem tok_229:TI.Ok Tryz.prog 229 ti_229:=.of_check (by kernel_rfl) (by kernel_rfl)
theorem tok_230:TI.Ok Tryz.prog 230 ti_230:=.of_check (by kernel_rfl) (by kernel_rfl)
theorem tok_231:TI.Ok Tryz.prog 231 ti_231:=.of_check (by kernel_rfl) (by kernel_rfl)
theorem tok_232:TI.Ok Tryz.prog 232 ti_232:=.of_check (by kernel_rfl) (by kernel_rfl)
theorem tok_233:TI.Ok Tryz.prog 233 ti_233:=.of_check (by kernel_rfl) (by kernel_rfl)
theorem tok_234:TI.Ok Tryz.prog 234 ti_234:=.of_check (by kernel_rfl) (by kernel_rfl)
theorem tok_235:TI.Ok Tryz.prog 235 ti_235:=.of_check (by kernel_rfl) (by kernel_rfl)
theorem tok_236:TI.Ok Tryz.prog 236 ti_236:=.of_check (by kernel_rfl) (by kernel_rfl)
theorem tok_237:TI.Ok Tryz.prog 237 ti_237:=.of_check (by kernel_rfl) (by kernel_rfl)
theorem tok_238:TI.Ok Tryz.prog 238 ti_238:=.of_check (by kernel_rfl) (by kernel_rfl)
theorem tok_239:TI.Ok Tryz.prog 239 ti_239:=.of_check (by kernel_rfl) (by kernel_rfl)
theorem tok_240:TI.Ok Tryz.prog 240 ti_240:=.of_check (by kernel_rfl) (by kernel_rfl)
theorem tok_241:TI.Ok Tryz.prog 241 ti_241:=.of_check (by kernel_rfl) (by kernel_rfl)
theorem tok_242:TI.Ok Tryz.prog 242 ti_242:=.of_check (by kernel_rfl) (by kernel_rfl)
theorem tok_243:TI.Ok Tryz.prog 243 ti_243:=.of_check (by kernel_rfl) (by kernel_rfl)
theorem tok_244:TI.Ok Tryz.prog 244 ti_244:=.of_check (by kernel_rfl) (by kernel_rfl)
theorem tok_245:TI.Ok Tryz.prog 245 ti_245:=.of_check (by kernel_rfl) (by kernel_rfl)
theorem tok_246:TI.Ok Tryz.prog 246 ti_246:=.of_check (by kernel_rfl) (by kernel_rfl)
theorem tok_247:TI.Ok Tryz.prog 247 ti_247:=.of_check (by kernel_rfl) (by kernel_rfl)
theorem tok_248:TI.Ok Tryz.prog 248 ti_248:=.of_check (by kernel_rfl) (by kernel_rfl)
theorem tok_249:TI.Ok Tryz.prog 249 ti_249:=.of_check (by kernel_rfl) (by kernel_rfl)
theorem tok_250:TI.Ok Tryz.prog 250 ti_250:=.of_check (by kernel_rfl) (by kernel_rfl)
theorem tok_251:TI.Ok Tryz.prog 251 ti_251:=.of_check (by kernel_rfl) (by kernel_rfl)
theorem tok_252:TI.Ok Tryz.prog 252 ti_252:=.of_check (by kernel_rfl) (by kernel_rfl)
theorem tok_253:TI.Ok Tryz.prog 253 ti_253:=.of_check (by kernel_rfl) (by kernel_rfl)
theorem tok_254:TI.Ok Tryz.prog 254 ti_254:=.of_check (by kernel_rfl) (by kernel_rfl)
theorem tok_255:TI.Ok Tryz.prog 255 ti_255:=.of_check (by kernel_rfl) (by kernel_rfl)
theorem tok_257:TI.Ok Tryz.prog 257 ti_257:=.of_check (by kernel_rfl) (by kernel_rfl)
theorem tok_258:TI.Ok Tryz.prog 258 ti_258:=.of_check (by kernel_rfl) (by kernel_rfl)
theorem tok_259:TI.Ok Tryz.prog 259 ti_259:=.of_check (by kernel_rfl) (by kernel_rfl)
theorem tok_260:TI.Ok Tryz.prog 260 ti_260:=.of_check (by kernel_rfl) (by kernel_rfl)
theorem tok_261:TI.Ok Tryz.prog 261 ti_261:=.of_check (by kernel_rfl) (by kernel_rfl)
theorem tok_262:TI.Ok Tryz.prog 262 ti_262:=.of_check (by kernel_rfl) (by kernel_rfl)
theorem tok_263:TI.Ok Tryz.prog 263 ti_263:=.of_check (by kernel_rfl) (by kernel_rfl)
theorem tok_264:TI.Ok Tryz.prog 264 ti_264:=.of_check (by kernel_rfl) (by kernel_rfl)
theorem tok_265:TI.Ok Tryz.prog 265 ti_265:=.of_check (by kernel_rfl) (by kernel_rfl)
theorem tok_267:TI.Ok Tryz.prog 267 ti_267:=.of_check (by kernel_rfl) (by kernel_rfl)
theorem tok_268:TI.Ok Tryz.prog 268 ti_268:=.of_check (by kernel_rfl) (by kernel_rfl)
theorem tok_269:TI.Ok Tryz.prog 269 ti_269:=.of_check (by kernel_rfl) (by kernel_rfl)
theorem tok_270:TI.Ok Tryz.prog 270 ti_270:=.of_check (by kernel_rfl) (by kernel_rfl)
theorem tok_271:TI.Ok Tryz.prog 271 ti_271:=.of_check (by kernel_rfl) (by kernel_rfl)
theorem tok_272:TI.Ok Tryz.prog 272 ti_272:=.of_check (by kernel_rfl) (by kernel_rfl)
theorem tok_273:TI.Ok Tryz.prog 273 ti_273:=.of_check (by kernel_rfl) (by kernel_rfl)
theorem tok_275:TI.Ok Tryz.prog 275 ti_275:=.of_check (by kernel_rfl) (by kernel_rfl)
theorem tok_277:TI.Ok Tryz.prog 277 ti_277:=.of_check (by kernel_rfl) (by kernel_rfl)
theorem tok_278:TI.Ok Tryz.prog 278 ti_278:=.of_check (by kernel_rfl) (by kernel_rfl)
theorem tok_279:TI.Ok Tryz.prog 279 ti_279:=.of_check (by kernel_rfl) (by kernel_rfl)
theorem tok_280:TI.Ok Tryz.prog 280 ti_280:=.of_check (by kernel_rfl) (by kernel_rfl)
theorem tok_281:TI.Ok Tryz.prog 281 ti_281:=.of_check (by kernel_rfl) (by kernel_rfl)
theorem tok_282:TI.Ok Tryz.prog 282 ti_282:=.of_check (by kernel_rfl) (by kernel_rfl)
theorem tok_283:TI.Ok Tryz.prog 283 ti_283:=.of_check (by kernel_rfl) (by kernel_rfl)
theorem tok_284:TI.Ok Tryz.prog 284 ti_284:=.of_check (by kernel_rfl) (by kernel_rfl)
theorem tok_285:TI.Ok Tryz.prog 285 ti_285:=.of_check (by kernel_rfl) (by kernel_rfl)
theorem tok_286:TI.Ok Tryz.prog 286 ti_286:=.of_check (by kernel_rfl) (by kernel_rfl)
theorem tok_287:TI.Ok Tryz.prog 287 ti_287:=.of_check (by kernel_rfl) (by kernel_rfl)
theorem tok_288:TI.Ok Tryz.prog 288 ti_288:=.of_check (by kernel_rfl) (by kernel_rfl)
theorem tok_289:TI.Ok Tryz.prog 289 ti_289:=.of_check (by kernel_rfl) (by kernel_rfl)
theorem tok_290:TI.Ok Tryz.prog 290 ti_290:=.of_check (by kernel_rfl) (by kernel_rfl)
theorem tok_291:TI.Ok Tryz.prog 291 ti_291:=.of_check (by kernel_rfl) (by kernel_rfl)
theorem tok_292:TI.Ok Tryz.prog 292 ti_292:=.of_check (by kernel_rfl) (by kernel_rfl)
theorem tok_293:TI.Ok Tryz.prog 293 ti_293:=.of_check (by kernel_rfl) (by kernel_rfl)
theorem tok_295:TI.Ok Tryz.prog 295 ti_295:=.of_check (by kernel_rfl) (by kernel_rfl)
theorem tok_296:TI.Ok Tryz.prog 296 ti_296:=.of_check (by kernel_rfl) (by kernel_rfl)
theorem tok_297:TI.Ok Tryz.prog 297 ti_297:=.of_check (by kernel_rfl) (by kernel_rfl)
theorem tok_298:TI.Ok Tryz.prog 298 ti_298:=.of_check (by kernel_rfl) (by kernel_rfl)
theorem tok_299:TI.Ok Tryz.prog 299 ti_299:=.of_check (by kernel_rfl) (by kernel_rfl)
theorem tok_300:TI.Ok Tryz.prog 300 ti_300:=.of_check (by kernel_rfl) (by kernel_rfl)
theorem tok_301:TI.Ok Tryz.prog 301 ti_301:=.of_check (by kernel_rfl) (by kernel_rfl)
theorem tok_303:TI.Ok Tryz.prog 303 ti_303:=.of_check (by kernel_rfl) (by kernel_rfl)
theorem tok_304:TI.Ok Tryz.prog 304 ti_304:=.of_check (by kernel_rfl) (by kernel_rfl)
theorem tok_305:TI.Ok Tryz.prog 305 ti_305:=.of_check (by kernel_rfl) (by kernel_rfl)
theorem tok_306:TI.Ok Tryz.prog 306 ti_306:=.of_check (by kernel_rfl) (by kernel_rfl)
theorem tok_307:TI.Ok Tryz.prog 307 ti_307:=.of_check (by kernel_rfl) (by kernel_rfl)
theorem tok_308:TI.Ok Tryz.prog 308 ti_308:=.of_check (by kernel_rfl) (by kernel_rfl)
theorem tok_309:TI.Ok Tryz.prog 309 ti_309:=.of_check (by kernel_rfl) (by kernel_rfl)
theorem tok_310:TI.Ok Tryz.prog 310 ti_310:=.of_check (by kernel_rfl) (by kernel_rfl)
theorem tok_311:TI.Ok Tryz.prog 311 ti_311:=.of_check (by kernel_rfl) (by kernel_rfl)
theorem tok_312:TI.Ok Tryz.prog 312 ti_312:=.of_check (by kernel_rfl) (by kernel_rfl)
theorem tok_313:TI.Ok Tryz.prog 313 ti_313:=.of_check (by kernel_rfl) (by kernel_rfl)
theorem tok_314:TI.Ok Tryz.prog 314 ti_314:=.of_check (by kernel_rfl) (by kernel_rfl)
theorem tok_315:TI.Ok Tryz.prog 315 ti_315:=.of_check (by kernel_rfl) (by kernel_rfl)
theorem tok_316:TI.Ok Tryz.prog 316 ti_316:=.of_check (by kernel_rfl) (by kernel_rfl)
theorem tok_317:TI.Ok Tryz.prog 317 ti_317:=.of_check (by kernel_rfl) (by kernel_rfl)
theorem tok_318:TI.Ok Tryz.prog 318 ti_318:=.of_check (by kernel_rfl) (by kernel_rfl)
theorem tok_319:TI.Ok Tryz.prog 319 ti_319:=.of_check (by kernel_rfl) (by kernel_rfl)
theorem tok_321:TI.Ok Tryz.prog 321 ti_321:=.of_check (by kernel_rfl) (by kernel_rfl)
theorem tok_322:TI.Ok Tryz.prog 322 ti_322:=.of_check (by kernel_rfl) (by kernel_rfl)
theorem tok_323:TI.Ok Tryz.prog 323 ti_323:=.of_check (by kernel_rfl) (by kernel_rfl)
theorem tok_324:TI.Ok Tryz.prog 324 ti_324:=.of_check (by kernel_rfl) (by kernel_rfl)
theorem tok_325:TI.Ok Tryz.prog 325 ti_325:=.of_check (by kernel_rfl) (by kernel_rfl)
theorem tok_326:TI.Ok Tryz.prog 326 ti_326:=.of_check (by kernel_rfl) (by kernel_rfl)
theorem tok_328:TI.Ok Tryz.prog 328 ti_328:=.of_check (by kernel_rfl) (by kernel_rfl)
theorem tok_329:TI.Ok Tryz.prog 329 ti_329:=.of_check (by kernel_rfl) (by kernel_rfl)
theorem tok_330:TI.Ok Tryz.prog 330 ti_330:=.of_check (by kernel_rfl) (by kernel_rfl)
theorem tok_331:TI.Ok Tryz.prog 331 ti_331:=.of_check (by kernel_rfl) (by kernel_rfl)
theorem tok_332:TI.Ok Tryz.prog 332 ti_332:=.of_check (by kernel_rfl) (by kernel_rfl)
theorem tok_333:TI.Ok Tryz.prog 333 ti_333:=.of_check (by kernel_rfl) (by kernel_rfl)
theorem tok_334:TI.Ok Tryz.prog 334 ti_334:=.of_check (by kernel_rfl) (by kernel_rfl)
theorem tok_335:TI.Ok Tryz.prog 335 ti_335:=.of_check (by kernel_rfl) (by kernel_rfl)
theorem tok_336:TI.Ok Tryz.prog 336 ti_336:=.of_check (by kernel_rfl) (by kernel_rfl)
theorem tok_337:TI.Ok Tryz.prog 337 ti_337:=.of_check (by kernel_rfl) (by kernel_rfl)
theorem tok_338:TI.Ok Tryz.prog 338 ti_338:=.of_check (by kernel_rfl) (by kernel_rfl)
theorem tok_339:TI.Ok Tryz.prog 339 ti_339:=.of_check (by kernel_rfl) (by kernel_rfl)
theorem tok_340:TI.Ok Tryz.prog 340 ti_340:=.of_check (by kernel_rfl) (by kernel_rfl)
theorem tok_341:TI.Ok Tryz.prog 341 ti_341:=.of_check (by kernel_rfl) (by kernel_rfl)
theorem tok_342:TI.Ok Tryz.prog 342 ti_342:=.of_check (by kernel_rfl) (by kernel_rfl)
theorem tok_344:TI.Ok Tryz.prog 344 ti_344:=.of_check (by kernel_rfl) (by kernel_rfl)
theorem tok_345:TI.Ok Tryz.prog 345 ti_345:=.of_check (by kernel_rfl) (by kernel_rfl)
theorem tok_346:TI.Ok Tryz.prog 346 ti_346:=.of_check (by kernel_rfl) (by kernel_rfl)
theorem tok_350:TI.Ok Tryz.prog 350 ti_350:=.of_check (by kernel_rfl) (by kernel_rfl)
theorem tok_351:TI.Ok Tryz.prog 351 ti_351:=.of_check (by kernel_rfl) (by kernel_rfl)
theorem tok_352:TI.Ok Tryz.prog 352 ti_352:=.of_check (by kernel_rfl) (by kernel_rfl)
theorem tok_353:TI.Ok Tryz.prog 353 ti_353:=.of_check (by kernel_rfl) (by kernel_rfl)
theorem tok_354:TI.Ok Tryz.prog 354 ti_354:=.of_check (by kernel_rfl) (by kernel_rfl)
theorem tok_355:TI.Ok Tryz.prog 355 ti_355:=.of_check (by kernel_rfl) (by kernel_rfl)
theorem tok_356:TI.Ok Tryz.prog 356 ti_356:=.of_check (by kernel_rfl) (by kernel_rfl)
theorem tok_357:TI.Ok Tryz.prog 357 ti_357:=.of_check (by kernel_rfl) (by kernel_rfl)
theorem tok_358:TI.Ok Tryz.prog 358 ti_358:=.of_check (by kernel_rfl) (by kernel_rfl)
theorem tok_359:TI.Ok Tryz.prog 359 ti_359:=.of_check (by kernel_rfl) (by kernel_rfl)
theorem tis_ok:AllOk Tryz.prog 0 tis:=⟨tok_1,tok_2,tok_3,tok_4,tok_5,tok_6,tok_7,tok_8,tok_9,tok_10,tok_11,tok_12,tok_13,tok_14,tok_15,tok_16,tok_17,tok_18,tok_19,tok_20,tok_21,tok_22,tok_23,tok_24,tok_25,tok_26,tok_28,tok_29,tok_30,tok_31,tok_32,tok_33,tok_34,tok_35,tok_36,tok_37,tok_38,tok_39,tok_40,tok_41,tok_42,tok_44,tok_45,tok_46,tok_47,tok_48,tok_49,tok_50,tok_51,tok_52,tok_53,tok_54,tok_55,tok_56,tok_57,tok_59,tok_60,tok_61,tok_62,tok_63,tok_64,tok_65,tok_66,tok_67,tok_68,tok_69,tok_70,tok_71,tok_72,tok_73,tok_74,tok_75,tok_77,tok_78,tok_79,tok_80,tok_81,tok_82,tok_83,tok_84,tok_85,tok_86,tok_87,tok_88,tok_89,tok_90,tok_91,tok_92,tok_93,tok_95,tok_96,tok_97,tok_98,tok_100,tok_101,tok_102,tok_103,tok_104,tok_105,tok_107,tok_108,tok_109,tok_110,tok_111,tok_112,tok_113,tok_114,tok_115,tok_116,tok_117,tok_118,tok_119,tok_120,tok_121,tok_122,tok_123,tok_124,tok_125,tok_126,tok_127,tok_128,tok_130,tok_131,tok_132,tok_133,tok_134,tok_135,tok_136,tok_137,tok_138,tok_139,tok_140,tok_141,tok_142,tok_144,tok_146,tok_147,tok_148,tok_149,tok_150,tok_151,tok_152,tok_154,tok_155,tok_156,tok_157,tok_158,tok_159,tok_160,tok_161,tok_162,tok_163,tok_164,tok_165,tok_166,tok_167,tok_169,tok_170,tok_171,tok_172,tok_173,tok_174,tok_175,tok_176,tok_177,tok_178,tok_179,tok_180,tok_181,tok_182,tok_183,tok_184,tok_185,tok_186,tok_187,tok_188,tok_189,tok_190,tok_191,tok_192,tok_194,tok_195,tok_196,tok_197,tok_198,tok_200,tok_201,tok_203,tok_204,tok_205,tok_206,tok_207,tok_208,tok_209,tok_210,tok_211,tok_212,tok_213,tok_214,tok_215,tok_216,tok_217,tok_218,tok_219,tok_220,tok_221,tok_223,tok_224,tok_225,tok_226,tok_227,tok_228,tok_229,tok_230,tok_231,tok_232,tok_233,tok_234,tok_235,tok_236,tok_237,tok_238,tok_239,tok_240,tok_241,tok_242,tok_243,tok_244,tok_245,tok_246,tok_247,tok_248,tok_249,tok_250,tok_251,tok_252,tok_253,tok_254,tok_255,tok_257,tok_258,tok_259,tok_260,tok_261,tok_262,tok_263,tok_264,tok_265,tok_267,tok_268,tok_269,tok_270,tok_271,tok_272,tok_273,tok_275,tok_277,tok_278,tok_279,tok_280,tok_281,tok_282,tok_283,tok_284,tok_285,tok_286,tok_287,tok_288,tok_289,tok_290,tok_291,tok_292,tok_293,tok_295,tok_296,tok_297,tok_298,tok_299,tok_300,tok_301,tok_303,tok_304,tok_305,tok_306,tok_307,tok_308,tok_309,tok_310,tok_311,tok_312,tok_313,tok_314,tok_315,tok_316,tok_317,tok_318,tok_319,tok_321,tok_322,tok_323,tok_324,tok_325,tok_326,tok_328,tok_329,tok_330,tok_331,tok_332,tok_333,tok_334,tok_335,tok_336,tok_337,tok_338,tok_339,tok_340,tok_341,tok_342,tok_344,tok_345,tok_346,tok_350,tok_351,tok_352,tok_353,tok_354,tok_355,tok_356,tok_357,tok_358,tok_359,trivial⟩
noncomputable def E:Env:=⟨Tryz.prog,tget tis,tis_ok.all⟩
theorem E_ti_3:E.ti 3 = some ti_3:=rfl
theorem E_ti_4:E.ti 4 = some ti_4:=rfl
theorem E_ti_5:E.ti 5 = some ti_5:=rfl
theorem E_ti_9:E.ti 9 = some ti_9:=rfl
theorem E_ti_22:E.ti 22 = some ti_22:=rfl
theorem E_ti_23:E.ti 23 = some ti_23:=rfl
theorem E_ti_25:E.ti 25 = some ti_25:=rfl
theorem E_ti_26:E.ti 26 = some ti_26:=rfl
theorem E_ti_30:E.ti 30 = some ti_30:=rfl
theorem E_ti_32:E.ti 32 = some ti_32:=rfl
theorem E_ti_33:E.ti 33 = some ti_33:=rfl
theorem E_ti_35:E.ti 35 = some ti_35:=rfl
theorem E_ti_36:E.ti 36 = some ti_36:=rfl
theorem E_ti_38:E.ti 38 = some ti_38:=rfl
theorem E_ti_39:E.ti 39 = some ti_39:=rfl
theorem E_ti_40:E.ti 40 = some ti_40:=rfl
theorem E_ti_42:E.ti 42 = some ti_42:=rfl
theorem E_ti_46:E.ti 46 = some ti_46:=rfl
theorem E_ti_48:E.ti 48 = some ti_48:=rfl
theorem E_ti_51:E.ti 51 = some ti_51:=rfl
theorem E_ti_55:E.ti 55 = some ti_55:=rfl
theorem E_ti_57:E.ti 57 = some ti_57:=rfl
theorem E_ti_61:E.ti 61 = some ti_61:=rfl
theorem E_ti_66:E.ti 66 = some ti_66:=rfl
theorem E_ti_67:E.ti 67 = some ti_67:=rfl
theorem E_ti_85:E.ti 85 = some ti_85:=rfl
theorem E_ti_87:E.ti 87 = some ti_87:=rfl
theorem E_ti_98:E.ti 98 = some ti_98:=rfl
theorem E_ti_117:E.ti 117 = some ti_117:=rfl
theorem E_ti_148:E.ti 148 = some ti_148:=rfl
theorem E_ti_150:E.ti 150 = some ti_150:=rfl
theorem E_ti_152:E.ti 152 = some ti_152:=rfl
theorem E_ti_167:E.ti 167 = some ti_167:=rfl
theorem E_ti_213:E.ti 213 = some ti_213:=rfl
theorem E_ti_219:E.ti 219 = some ti_219:=rfl
theorem E_ti_221:E.ti 221 = some ti_221:=rfl
theorem E_ti_225:E.ti 225 = some ti_225:=rfl
theorem E_ti_235:E.ti 235 = some ti_235:=rfl
theorem E_ti_237:E.ti 237 = some ti_237:=rfl
theorem E_ti_273:E.ti 273 = some ti_273:=rfl
theorem E_ti_279:E.ti 279 = some ti_279:=rfl
theorem E_ti_283:E.ti 283 = some ti_283:=rfl
attribute [go_sem] ti_1 ti_2 E_ti_3 ti_3 E_ti_4 ti_4 E_ti_5 ti_5 ti_6 ti_7 ti_8 E_ti_9 ti_9 ti_10 ti_11 ti_12 ti_13 ti_14 ti_15 ti_16 ti_17 ti_18 ti_19 ti_20
attribute [go_sem] ti_21 E_ti_22 ti_22 E_ti_23 ti_23 ti_24 E_ti_25 ti_25 E_ti_26 ti_26 ti_28 ti_29 E_ti_30 ti_30 ti_31 E_ti_32 ti_32 E_ti_33 ti_33 ti_34 E_ti_35 ti_35 E_ti_36 ti_36 ti_37 E_ti_38 ti_38 E_ti_39 ti_39 E_ti_40 ti_40 ti_41
attribute [go_sem] E_ti_42 ti_42 ti_44 ti_45 E_ti_46 ti_46 ti_47 E_ti_48 ti_48 ti_49 ti_50 E_ti_51 ti_51 ti_52 ti_53 ti_54 E_ti_55 ti_55 ti_56 E_ti_57 ti_57 ti_59 ti_60 E_ti_61 ti_61 ti_62 ti_63
attribute [go_sem] ti_64 ti_65 E_ti_66 ti_66 E_ti_67 ti_67 ti_68 ti_69 ti_70 ti_71 ti_72 ti_73 ti_74 ti_75 ti_77 ti_78 ti_79 ti_80 ti_81 ti_82 ti_83 ti_84
attribute [go_sem] E_ti_85 ti_85 ti_86 E_ti_87 ti_87 ti_88 ti_89 ti_90 ti_91 ti_92 ti_93 ti_95 ti_96 ti_97 E_ti_98 ti_98 ti_100 ti_101 ti_102 ti_103 ti_104 ti_105 ti_107
attribute [go_sem] ti_108 ti_109 ti_110 ti_111 ti_112 ti_113 ti_114 ti_115 ti_116 E_ti_117 ti_117 ti_118 ti_119 ti_120 ti_121 ti_122 ti_123 ti_124 ti_125 ti_126 ti_127
attribute [go_sem] ti_128 ti_130 ti_131 ti_132 ti_133 ti_134 ti_135 ti_136 ti_137 ti_138 ti_139 ti_140 ti_141 ti_142 ti_144 ti_146 ti_147 E_ti_148 ti_148 ti_149 E_ti_150 ti_150
attribute [go_sem] ti_151 E_ti_152 ti_152 ti_154 ti_155 ti_156 ti_157 ti_158 ti_159 ti_160 ti_161 ti_162 ti_163 ti_164 ti_165 ti_166 E_ti_167 ti_167 ti_169 ti_170 ti_171 ti_172
attribute [go_sem] ti_173 ti_174 ti_175 ti_176 ti_177 ti_178 ti_179 ti_180 ti_181 ti_182 ti_183 ti_184 ti_185 ti_186 ti_187 ti_188 ti_189 ti_190 ti_191 ti_192
attribute [go_sem] ti_194 ti_195 ti_196 ti_197 ti_198 ti_200 ti_201 ti_203 ti_204 ti_205 ti_206 ti_207 ti_208 ti_209 ti_210 ti_211 ti_212 E_ti_213 ti_213 ti_214 ti_215
attribute [go_sem] ti_216 ti_217 ti_218 E_ti_219 ti_219 ti_220 E_ti_221 ti_221 ti_223 ti_224 E_ti_225 ti_225 ti_226 ti_227 ti_228 ti_229 ti_230 ti_231 ti_232 ti_233 ti_234 E_ti_235 ti_235 ti_236
attribute [go_sem] E_ti_237 ti_237 ti_238 ti_239 ti_240 ti_241 ti_242 ti_243 ti_244 ti_245 ti_246 ti_247 ti_248 ti_249 ti_250 ti_251 ti_252 ti_253 ti_254 ti_255 ti_257
attribute [go_sem] ti_258 ti_259 ti_260 ti_261 ti_262 ti_263 ti_264 ti_265 ti_267 ti_268 ti_269 ti_270 ti_271 ti_272 E_ti_273 ti_273 ti_275 ti_277 ti_278 E_ti_279 ti_279 ti_280
attribute [go_sem] ti_281 ti_282 E_ti_283 ti_283 ti_284 ti_285 ti_286 ti_287 ti_288 ti_289 ti_290 ti_291 ti_292 ti_293 ti_295 ti_296 ti_297 ti_298 ti_299 ti_300 ti_301
attribute [go_sem] ti_303 ti_304 ti_305 ti_306 ti_307 ti_308 ti_309 ti_310 ti_311 ti_312 ti_313 ti_314 ti_315 ti_316 ti_317 ti_318 ti_319 ti_321 ti_322 ti_323
attribute [go_sem] ti_324 ti_325 ti_326 ti_328 ti_329 ti_330 ti_331 ti_332 ti_333 ti_334 ti_335 ti_336 ti_337 ti_338 ti_339 ti_340 ti_341 ti_342 ti_344 ti_345
attribute [go_sem] ti_346 ti_350 ti_351 ti_352 ti_353 ti_354 ti_355 ti_356 ti_357 ti_358 ti_359
theorem hm:E.P.follows .mixedOrders = true:=by kernel_rfl
theorem E_P:E.P = Tryz.prog:=rfl
end Go.Proofs.YtpidddienjoleaaGreat
