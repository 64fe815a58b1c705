/-
  The table of the types of this seat, held against the program by computation. MADE BY A PROGRAM OF THIS CLAIM.
-/
import Derived.Test.YtnhdminpjihbnaaGreatKAE
import Derived.Test.YtnhdminpjihbnaaGreatProg
import Derived.KernelRfl
set_option linter.unusedVariables false
set_option linter.unusedSimpArgs false
namespace Go.Proofs.YtnhdminpjihbnaaGreat
open Go.Eng
set_option maxRecDepth 100000
def ahs:TI:=⟨.other,1,8,[.d (.val .nilFunc)]⟩
def ahR:TI:=⟨.int .i64,1,8,[.d (.val (.int .i64 0))]⟩
def ah2:TI:=⟨.int .i64,1,8,[.d (.val (.int .i64 0))]⟩
def ahM:TI:=⟨.bool,1,1,[.d (.val (.bool false))]⟩
def ahh:TI:=⟨.int .u8,1,1,[.d (.val (.int .u8 0))]⟩
def ahx:TI:=⟨.str,1,16,[.d (.str [])]⟩
def aa3:TI:=⟨.str,1,16,[.d (.str [])]⟩
def adH:TI:=⟨.str,1,16,[.d (.str [])]⟩
def abS:TI:=⟨.bK 339,1,8,[.d (.val (.pointer none))]⟩
def abv:TI:=⟨.slice 5,1,24,[.bE]⟩
def acA:TI:=⟨.slice 116,1,24,[.bE]⟩
def aed:TI:=⟨.struct [(23,0,1)],1,24,[.bE]⟩
def adq:TI:=⟨.slice 37,1,24,[.bE]⟩
def acN:TI:=⟨.struct [(25,0,1),(26,1,1)],2,48,[.bE,.bE]⟩
def aei:TI:=⟨.slice 31,1,24,[.bE]⟩
def ac4:TI:=⟨.struct [(9,0,1),(29,1,1)],2,40,[.d (.str []),.bE]⟩
def abX:TI:=⟨.slice 3,1,24,[.bE]⟩
def aen:TI:=⟨.struct [(3,0,1),(31,1,2),(31,3,2),(29,5,1),(32,6,1),(3,7,1),(4,8,1)],9,152,[.d (.val (.int .i64 0)),.d (.str []),.bE,.d (.str []),.bE,.bE,.bE,.d (.val (.int .i64 0)),.d (.val (.bool false))]⟩
def aba:TI:=⟨.struct [(34,0,9),(4,9,1)],10,160,[.d (.val (.int .i64 0)),.d (.str []),.bE,.d (.str []),.bE,.bE,.bE,.d (.val (.int .i64 0)),.d (.val (.bool false)),.d (.val (.bool false))]⟩
def acs:TI:=⟨.slice 39,1,24,[.bE]⟩
def abp:TI:=⟨.struct [(3,0,1),(36,1,10),(37,11,1)],12,192,[.d (.val (.int .i64 0)),.d (.val (.int .i64 0)),.d (.str []),.bE,.d (.str []),.bE,.bE,.bE,.d (.val (.int .i64 0)),.d (.val (.bool false)),.d (.val (.bool false)),.bE]⟩
def adI:TI:=⟨.slice 34,1,24,[.bE]⟩
def aeB:TI:=⟨.slice 242,1,24,[.bE]⟩
def abG:TI:=⟨.struct [(61,0,1)],1,24,[.bE]⟩
def abk:TI:=⟨.slice 106,1,24,[.bE]⟩
def ab9:TI:=⟨.slice 32,1,24,[.bE]⟩
def acD:TI:=⟨.struct [(64,0,1),(65,1,1)],2,48,[.bE,.bE]⟩
def acT:TI:=⟨.struct [(64,0,1),(65,1,1)],2,48,[.bE,.bE]⟩
def ab2:TI:=⟨.struct [(22,0,1),(3,1,1)],2,32,[.bE,.d (.val (.int .i64 0))]⟩
def ad4:TI:=⟨.other,1,8,[.d (.val .nilFunc)]⟩
def ac8:TI:=⟨.struct [(3,0,1),(65,1,1)],2,32,[.d (.val (.int .i64 0)),.bE]⟩
def adg:TI:=⟨.slice 4,1,24,[.bE]⟩
def abF:TI:=⟨.slice 97,1,24,[.bE]⟩
def ac1:TI:=⟨.struct [(3,0,1),(3,1,1),(31,2,2),(95,4,1)],5,80,[.d (.val (.int .i64 0)),.d (.val (.int .i64 0)),.d (.str []),.bE,.bE]⟩
def abN:TI:=⟨.slice 100,1,24,[.bE]⟩
def Wg:TI:=⟨.struct [(3,0,1),(3,1,1),(97,2,5),(32,7,1),(31,8,2),(31,10,2),(98,12,1)],13,224,[.d (.val (.int .i64 0)),.d (.val (.int .i64 0)),.d (.val (.int .i64 0)),.d (.val (.int .i64 0)),.d (.str []),.bE,.bE,.bE,.d (.str []),.bE,.d (.str []),.bE,.bE]⟩
def VI:TI:=⟨.slice 36,1,24,[.bE]⟩
def XR:TI:=⟨.struct [(32,0,1),(100,1,13)],14,248,[.bE,.d (.val (.int .i64 0)),.d (.val (.int .i64 0)),.d (.val (.int .i64 0)),.d (.val (.int .i64 0)),.d (.str []),.bE,.bE,.bE,.d (.str []),.bE,.d (.str []),.bE,.bE]⟩
def WN:TI:=⟨.struct [(9,0,1),(32,1,1),(3,2,1)],3,48,[.d (.str []),.bE,.d (.val (.int .i64 0))]⟩
def VC:TI:=⟨.slice 9,1,24,[.bE]⟩
def Wc:TI:=⟨.struct [(89,0,2),(48,2,1),(37,3,1)],4,80,[.d (.val (.int .i64 0)),.bE,.bE,.bE]⟩
def Vz:TI:=⟨.struct [(89,0,2),(3,2,1),(65,3,1),(4,4,1)],5,72,[.d (.val (.int .i64 0)),.bE,.d (.val (.int .i64 0)),.bE,.d (.val (.bool false))]⟩
def W9:TI:=⟨.bK 143,1,8,[.d (.val (.pointer none))]⟩
def Xf:TI:=⟨.struct [(25,0,1),(29,1,1),(29,2,1)],3,72,[.bE,.bE,.bE]⟩
def Vs:TI:=⟨.other,1,8,[.d (.val .nilFunc)]⟩
def WR:TI:=⟨.slice 199,1,24,[.bE]⟩
def Xi:TI:=⟨.bK 181,1,8,[.d (.val (.pointer none))]⟩
def VD:TI:=⟨.slice 229,1,24,[.bE]⟩
def Wn:TI:=⟨.slice 223,1,24,[.bE]⟩
def WC:TI:=⟨.slice 260,1,24,[.bE]⟩
def WU:TI:=⟨.struct [(29,0,1),(32,1,1),(179,2,1)],3,72,[.bE,.bE,.bE]⟩
def XP:TI:=⟨.struct [(31,0,2),(31,2,2)],4,80,[.d (.str []),.bE,.d (.str []),.bE]⟩
def Xn:TI:=⟨.slice 225,1,24,[.bE]⟩
def Vy:TI:=⟨.arr 4 217,4,96,[.bE,.bE,.bE,.bE]⟩
def Xy:TI:=⟨.struct [(32,0,1),(3,1,1),(4,2,1)],3,40,[.bE,.d (.val (.int .i64 0)),.d (.val (.bool false))]⟩
def Vf:TI:=⟨.struct [(223,0,3),(32,3,1)],4,64,[.bE,.d (.val (.int .i64 0)),.d (.val (.bool false)),.bE]⟩
def XF:TI:=⟨.struct [(3,0,1),(3,1,1)],2,16,[.d (.val (.int .i64 0)),.d (.val (.int .i64 0))]⟩
def Xp:TI:=⟨.struct [(9,0,1),(173,1,1),(229,2,2)],4,56,[.d (.str []),.bE,.d (.val (.int .i64 0)),.d (.val (.int .i64 0))]⟩
def WE:TI:=⟨.int .u64,1,8,[.d (.val (.int .u64 0))]⟩
def Wb:TI:=⟨.struct [(3,0,1),(3,1,1),(3,2,1)],3,24,[.d (.val (.int .i64 0)),.d (.val (.int .i64 0)),.d (.val (.int .i64 0))]⟩
def XL:TI:=⟨.slice 275,1,24,[.bE]⟩
def VV:TI:=⟨.struct [(3,0,1),(4,1,1)],2,16,[.d (.val (.int .i64 0)),.d (.val (.bool false))]⟩
def We:TI:=⟨.other,1,8,[.d (.val (.map none))]⟩
def W5:TI:=⟨.other,1,8,[.d (.val (.map none))]⟩
def tis:List (Option TI):=[none,some ahs,some ahR,some ah2,some ahM,some ahh,none,none,none,some ahx,some aa3,some adH,none,none,none,none,some abS,none,none,none,none,none,some abv,some acA,none,some aed,some adq,none,some acN,some aei,none,some ac4,some abX,none,some aen,none,some aba,some acs,none,some abp,none,none,none,none,none,none,none,none,some adI,none,none,none,none,none,none,none,none,none,none,none,none,some aeB,none,some abG,some abk,some ab9,some acD,some acT,none,none,none,none,some ab2,none,none,none,none,none,none,none,none,none,none,none,none,none,none,some ad4,none,some ac8,none,none,some adg,none,none,some abF,none,some ac1,some abN,none,some Wg,none,none,some VI,none,none,some XR,none,none,none,none,none,none,none,none,none,some WN,none,some VC,none,none,none,none,none,none,none,none,none,none,none,none,some Wc,none,none,none,none,some Vz,none,none,some W9,none,none,none,some Xf,none,none,none,none,none,none,none,none,none,none,none,some Vs,none,none,none,none,none,none,none,none,none,none,none,some WR,none,some Xi,none,none,none,some VD,none,none,some Wn,none,none,some WC,none,some WU,none,none,none,none,none,none,none,none,none,none,none,none,none,none,none,none,none,some XP,none,none,none,none,none,none,none,none,none,none,none,none,none,none,none,none,none,some Xn,none,some Vy,none,none,none,some Xy,none,some Vf,none,none,none,some XF,none,none,none,none,none,none,none,none,none,none,none,none,some Xp,none,none,none,none,none,none,none,none,none,none,none,none,none,some WE,none,none,none,some Wb,none,none,none,none,none,none,none,none,none,none,some XL,none,none,none,some VV,none,none,none,none,none,none,none,none,none,none,none,none,none,none,none,none,none,none,none,none,none,none,none,none,none,none,none,none,none,none,none,some We,some W5,none,none,none,none,none,none,none,none,none,none,none,none,none,none,none,none,none,none,none,none,none,none,none,none,none,none,none,none,none,none,none,none,none,none,none,none,none,none,none,none,none]
theorem aip:wU Tryz.prog 0 tis:=.Hm (by kernel_rfl) (by kernel_rfl)
noncomputable def E:Env:=⟨Tryz.prog,Vv tis,aip.all⟩
theorem ahZ:E.ti 1=some ahs:=rfl
theorem ahk:E.ti 2=some ahR:=rfl
theorem ahu:E.ti 3=some ah2:=rfl
theorem ahy:E.ti 4=some ahM:=rfl
theorem aiu:E.ti 5=some ahh:=rfl
theorem ahH:E.ti 9=some ahx:=rfl
theorem afg:E.ti 10=some aa3:=rfl
theorem agL:E.ti 11=some adH:=rfl
theorem afM:E.ti 16=some abS:=rfl
theorem af0:E.ti 22=some abv:=rfl
theorem afC:E.ti 23=some acA:=rfl
theorem afS:E.ti 25=some aed:=rfl
theorem aeK:E.ti 26=some adq:=rfl
theorem agl:E.ti 28=some acN:=rfl
theorem ae9:E.ti 29=some aei:=rfl
theorem af4:E.ti 31=some ac4:=rfl
theorem af1:E.ti 32=some abX:=rfl
theorem agi:E.ti 34=some aen:=rfl
theorem af8:E.ti 36=some aba:=rfl
theorem aeQ:E.ti 37=some acs:=rfl
theorem ae3:E.ti 39=some abp:=rfl
theorem afk:E.ti 48=some adI:=rfl
theorem ags:E.ti 61=some aeB:=rfl
theorem agv:E.ti 63=some abG:=rfl
theorem agu:E.ti 64=some abk:=rfl
theorem afJ:E.ti 65=some ab9:=rfl
theorem aeY:E.ti 66=some acD:=rfl
theorem afv:E.ti 67=some acT:=rfl
theorem afD:E.ti 72=some ab2:=rfl
theorem af6:E.ti 87=some ad4:=rfl
theorem afZ:E.ti 89=some ac8:=rfl
theorem afy:E.ti 92=some adg:=rfl
theorem afE:E.ti 95=some abF:=rfl
theorem afb:E.ti 97=some ac1:=rfl
theorem afe:E.ti 98=some abN:=rfl
theorem aeq:E.ti 100=some Wg:=rfl
theorem aa5:E.ti 103=some VI:=rfl
theorem ab4:E.ti 106=some XR:=rfl
theorem abI:E.ti 116=some WN:=rfl
theorem acY:E.ti 118=some VC:=rfl
theorem ac9:E.ti 131=some Wc:=rfl
theorem adA:E.ti 136=some Vz:=rfl
theorem adt:E.ti 139=some W9:=rfl
theorem aee:E.ti 143=some Xf:=rfl
theorem acV:E.ti 155=some Vs:=rfl
theorem adP:E.ti 167=some WR:=rfl
theorem ac7:E.ti 169=some Xi:=rfl
theorem abc:E.ti 173=some VD:=rfl
theorem adK:E.ti 176=some Wn:=rfl
theorem adL:E.ti 179=some WC:=rfl
theorem acC:E.ti 181=some WU:=rfl
theorem aci:E.ti 199=some XP:=rfl
theorem adU:E.ti 217=some Xn:=rfl
theorem abU:E.ti 219=some Vy:=rfl
theorem adX:E.ti 223=some Xy:=rfl
theorem ad3:E.ti 225=some Vf:=rfl
theorem abE:E.ti 229=some XF:=rfl
theorem acy:E.ti 242=some Xp:=rfl
theorem adN:E.ti 256=some WE:=rfl
theorem acJ:E.ti 260=some Wb:=rfl
theorem adb:E.ti 271=some XL:=rfl
theorem acQ:E.ti 275=some VV:=rfl
theorem acK:E.ti 307=some We:=rfl
theorem acr:E.ti 308=some W5:=rfl
attribute [go_sem] ahZ ahs ahk ahR ahu ah2 ahy ahM aiu ahh ahH ahx afg aa3 agL adH afM abS af0 abv afC acA afS aed aeK adq agl acN ae9 aei af4 ac4 af1 abX agi aen af8 aba aeQ acs
attribute [go_sem] ae3 abp afk adI ags aeB agv abG agu abk afJ ab9 aeY acD afv acT afD ab2 af6 ad4 afZ ac8 afy adg afE abF afb ac1 afe abN aeq Wg aa5 VI ab4 XR abI WN acY VC
attribute [go_sem] ac9 Wc adA Vz adt W9 aee Xf acV Vs adP WR ac7 Xi abc VD adK Wn adL WC acC WU aci XP adU Xn abU Vy adX Xy ad3 Vf abE XF acy Xp adN WE acJ Wb
attribute [go_sem] adb XL acQ VV acK We acr W5
theorem hm:E.P.follows .mixedOrders=true:=by kernel_rfl
abbrev CN(f:FuncId)(a:List PV)(r:PV):Prop:=C E.P f a [] (gR r [])
abbrev CP(f:FuncId)(a:List PV)(s:List (Option En))(r:PV):Prop:=C E.P f a s (gR r s)
theorem E_P:E.P=Tryz.prog:=rfl
end Go.Proofs.YtnhdminpjihbnaaGreat
