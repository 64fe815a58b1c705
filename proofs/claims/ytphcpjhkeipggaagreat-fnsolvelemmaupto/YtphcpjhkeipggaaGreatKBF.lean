/-
  The table of the types of this seat, held against the program by computation. MADE BY A PROGRAM OF THIS CLAIM.
-/
import Derived.Test.YtphcpjhkeipggaaGreatKBE
import Derived.Test.YtphcpjhkeipggaaGreatProg
import Derived.KernelRfl
set_option linter.unusedVariables false
set_option linter.unusedSimpArgs false
namespace Go.Proofs.YtphcpjhkeipggaaGreat
open Go.Eng
set_option maxRecDepth 100000
def afx:TI:=⟨.other,1,8,[.d (.val .nilFunc)]⟩
def afb:TI:=⟨.int .i64,1,8,[.d (.val (.int .i64 0))]⟩
def agf:TI:=⟨.int .i64,1,8,[.d (.val (.int .i64 0))]⟩
def afX:TI:=⟨.bool,1,1,[.d (.val (.bool false))]⟩
def afI:TI:=⟨.int .u8,1,1,[.d (.val (.int .u8 0))]⟩
def ae3:TI:=⟨.str,1,16,[.d (.str [])]⟩
def Zo:TI:=⟨.str,1,16,[.d (.str [])]⟩
def ab0:TI:=⟨.str,1,16,[.d (.str [])]⟩
def ab6:TI:=⟨.bA 416,1,8,[.d (.val (.pointer none))]⟩
def aca:TI:=⟨.slice 5,1,24,[.bW]⟩
def abn:TI:=⟨.slice 155,1,24,[.bW]⟩
def acA:TI:=⟨.struct [(23,0,1)],1,24,[.bW]⟩
def abP:TI:=⟨.slice 63,1,24,[.bW]⟩
def aaW:TI:=⟨.slice 3,1,24,[.bW]⟩
def abw:TI:=⟨.slice 32,1,24,[.bW]⟩
def acx:TI:=⟨.struct [(9,0,1),(30,1,1)],2,40,[.d (.str []),.bW]⟩
def ZE:TI:=⟨.slice 35,1,24,[.bW]⟩
def aag:TI:=⟨.struct [(3,0,1),(3,1,1),(32,2,2),(33,4,1)],5,80,[.d (.val (.int .i64 0)),.d (.val (.int .i64 0)),.d (.str []),.bW,.bW]⟩
def acC:TI:=⟨.slice 38,1,24,[.bW]⟩
def abG:TI:=⟨.struct [(3,0,1),(3,1,1),(35,2,5),(27,7,1),(32,8,2),(32,10,2),(36,12,1)],13,224,[.d (.val (.int .i64 0)),.d (.val (.int .i64 0)),.d (.val (.int .i64 0)),.d (.val (.int .i64 0)),.d (.str []),.bW,.bW,.bW,.d (.str []),.bW,.d (.str []),.bW,.bW]⟩
def Zp:TI:=⟨.struct [(27,0,1),(38,1,13)],14,248,[.bW,.d (.val (.int .i64 0)),.d (.val (.int .i64 0)),.d (.val (.int .i64 0)),.d (.val (.int .i64 0)),.d (.str []),.bW,.bW,.bW,.d (.str []),.bW,.d (.str []),.bW,.bW]⟩
def ZB:TI:=⟨.struct [(27,0,1),(38,1,13)],14,248,[.bW,.d (.val (.int .i64 0)),.d (.val (.int .i64 0)),.d (.val (.int .i64 0)),.d (.val (.int .i64 0)),.d (.str []),.bW,.bW,.bW,.d (.str []),.bW,.d (.str []),.bW,.bW]⟩
def aaz:TI:=⟨.other,1,8,[.d (.val .nilFunc)]⟩
def abc:TI:=⟨.slice 153,1,24,[.bW]⟩
def ZU:TI:=⟨.struct [(49,0,1)],1,24,[.bW]⟩
def Z8:TI:=⟨.struct [(3,0,1),(32,1,2),(32,3,2),(30,5,1),(27,6,1),(3,7,1),(4,8,1)],9,152,[.d (.val (.int .i64 0)),.d (.str []),.bW,.d (.str []),.bW,.bW,.bW,.d (.val (.int .i64 0)),.d (.val (.bool false))]⟩
def acn:TI:=⟨.struct [(59,0,9),(4,9,1)],10,160,[.d (.val (.int .i64 0)),.d (.str []),.bW,.d (.str []),.bW,.bW,.bW,.d (.val (.int .i64 0)),.d (.val (.bool false)),.d (.val (.bool false))]⟩
def Zw:TI:=⟨.struct [(3,0,1),(61,1,10),(26,11,1)],12,192,[.d (.val (.int .i64 0)),.d (.val (.int .i64 0)),.d (.str []),.bW,.d (.str []),.bW,.bW,.bW,.d (.val (.int .i64 0)),.d (.val (.bool false)),.d (.val (.bool false)),.bW]⟩
def abi:TI:=⟨.bA 104,1,8,[.d (.val (.pointer none))]⟩
def aah:TI:=⟨.other,1,8,[.d (.val .nilFunc)]⟩
def abT:TI:=⟨.slice 4,1,24,[.bW]⟩
def aa9:TI:=⟨.slice 59,1,24,[.bW]⟩
def abA:TI:=⟨.slice 61,1,24,[.bW]⟩
def aaT:TI:=⟨.other,1,8,[.d (.val .nilFunc)]⟩
def aaQ:TI:=⟨.other,1,8,[.d (.val .nilFunc)]⟩
def T5:TI:=⟨.struct [(22,0,1),(3,1,1)],2,32,[.bW,.d (.val (.int .i64 0))]⟩
def VA:TI:=⟨.other,1,8,[.d (.val .nilFunc)]⟩
def VF:TI:=⟨.bA 115,1,8,[.d (.val (.pointer none))]⟩
def T4:TI:=⟨.struct [(25,0,1),(30,1,1),(30,2,1)],3,72,[.bW,.bW,.bW]⟩
def Vg:TI:=⟨.struct [(25,0,1),(30,1,1)],2,48,[.bW,.bW]⟩
def UO:TI:=⟨.slice 151,1,24,[.bW]⟩
def Vv:TI:=⟨.struct [(3,0,1),(3,1,1)],2,16,[.d (.val (.int .i64 0)),.d (.val (.int .i64 0))]⟩
def UR:TI:=⟨.struct [(9,0,1),(149,1,1),(151,2,2)],4,56,[.d (.str []),.bW,.d (.val (.int .i64 0)),.d (.val (.int .i64 0))]⟩
def UX:TI:=⟨.struct [(9,0,1),(27,1,1),(3,2,1)],3,48,[.d (.str []),.bW,.d (.val (.int .i64 0))]⟩
def Vk:TI:=⟨.slice 217,1,24,[.bW]⟩
def VN:TI:=⟨.bA 192,1,8,[.d (.val (.pointer none))]⟩
def VW:TI:=⟨.slice 256,1,24,[.bW]⟩
def UC:TI:=⟨.slice 321,1,24,[.bW]⟩
def VP:TI:=⟨.struct [(30,0,1),(27,1,1),(190,2,1)],3,72,[.bW,.bW,.bW]⟩
def Ug:TI:=⟨.struct [(30,0,1),(30,1,1),(179,2,1),(27,3,1)],4,96,[.bW,.bW,.bW,.bW]⟩
def Wi:TI:=⟨.struct [(32,0,2),(32,2,2)],4,80,[.d (.str []),.bW,.d (.str []),.bW]⟩
def VT:TI:=⟨.slice 9,1,24,[.bW]⟩
def Wh:TI:=⟨.slice 258,1,24,[.bW]⟩
def Vc:TI:=⟨.arr 4 250,4,96,[.bW,.bW,.bW,.bW]⟩
def V1:TI:=⟨.struct [(27,0,1),(3,1,1),(4,2,1)],3,40,[.bW,.d (.val (.int .i64 0)),.d (.val (.bool false))]⟩
def Wm:TI:=⟨.struct [(256,0,3),(27,3,1)],4,64,[.bW,.d (.val (.int .i64 0)),.d (.val (.bool false)),.bW]⟩
def Uq:TI:=⟨.slice 280,1,24,[.bW]⟩
def VD:TI:=⟨.slice 346,1,24,[.bW]⟩
def Uo:TI:=⟨.struct [(3,0,1),(3,1,1),(3,2,1)],3,24,[.d (.val (.int .i64 0)),.d (.val (.int .i64 0)),.d (.val (.int .i64 0))]⟩
def Vf:TI:=⟨.slice 334,1,24,[.bW]⟩
def Vy:TI:=⟨.struct [(3,0,1),(4,1,1)],2,16,[.d (.val (.int .i64 0)),.d (.val (.bool false))]⟩
def U7:TI:=⟨.int .u64,1,8,[.d (.val (.int .u64 0))]⟩
def VU:TI:=⟨.struct [(256,0,3),(27,3,1)],4,64,[.bW,.d (.val (.int .i64 0)),.d (.val (.bool false)),.bW]⟩
def VH:TI:=⟨.struct [(151,0,2),(151,2,2),(4,4,1),(4,5,1)],6,40,[.d (.val (.int .i64 0)),.d (.val (.int .i64 0)),.d (.val (.int .i64 0)),.d (.val (.int .i64 0)),.d (.val (.bool false)),.d (.val (.bool false))]⟩
def VY:TI:=⟨.other,1,8,[.d (.val (.map none))]⟩
def Vp:TI:=⟨.other,1,8,[.d (.val (.map none))]⟩
def tis:List (Option TI):=[none,some afx,some afb,some agf,some afX,some afI,none,none,none,some ae3,some Zo,some ab0,none,none,none,none,some ab6,none,none,none,none,none,some aca,some abn,none,some acA,some abP,some aaW,none,none,some abw,none,some acx,some ZE,none,some aag,some acC,none,some abG,some Zp,some ZB,none,none,none,none,none,some aaz,none,none,some abc,none,some ZU,none,none,none,none,none,none,none,some Z8,none,some acn,none,some Zw,none,none,some abi,some aah,none,none,some abT,none,some aa9,none,none,none,none,none,none,none,none,none,some abA,none,none,none,some aaT,some aaQ,none,none,none,none,none,none,none,none,none,none,none,none,none,none,none,none,some T5,none,none,none,none,none,some VA,some VF,none,none,none,some T4,none,none,none,none,none,none,none,none,none,none,some Vg,none,none,none,none,none,none,none,none,none,none,none,none,none,none,none,none,none,none,none,none,none,none,some UO,none,some Vv,none,some UR,none,some UX,none,none,none,none,none,none,none,none,none,none,none,none,none,none,none,none,none,none,none,none,none,none,none,some Vk,none,some VN,none,none,none,none,none,some VW,none,none,some UC,none,some VP,none,none,none,none,none,none,none,none,none,none,none,none,none,none,none,some Ug,none,none,none,none,none,none,none,none,some Wi,none,none,none,none,none,none,none,none,none,none,none,none,none,none,none,none,none,none,none,some VT,none,none,none,none,none,none,none,none,none,none,none,none,some Wh,none,some Vc,none,none,none,some V1,none,some Wm,none,none,none,none,none,none,none,none,none,none,none,none,none,none,none,none,none,none,none,none,some Uq,some VD,none,none,none,none,none,none,none,none,none,none,none,none,none,none,none,none,none,none,none,none,none,none,none,none,none,none,none,none,none,none,none,none,none,none,none,none,none,none,none,none,some Uo,none,none,none,none,none,none,none,none,some Vf,none,none,none,some Vy,none,some U7,none,none,none,none,none,none,none,none,none,some VU,none,none,none,some VH,none,none,none,none,none,none,none,none,none,none,none,none,none,none,none,none,none,none,none,none,some VY,some Vp,none,none,none,none,none,none,none,none,none,none,none,none,none,none,none,none,none,none,none,none,none,none,none,none,none,none,none,none,none,none,none,none,none,none,none,none,none,none,none,none,none,none,none,none,none,none,none,none,none,none,none,none,none,none,none]
theorem age:w6 Tryz.prog 0 tis:=.GA (by kernel_rfl) (by kernel_rfl)
noncomputable def E:Env:=⟨Tryz.prog,Va tis,age.all⟩
theorem agi:E.ti 1=some afx:=rfl
theorem afN:E.ti 2=some afb:=rfl
theorem afm:E.ti 3=some agf:=rfl
theorem afH:E.ti 4=some afX:=rfl
theorem afr:E.ti 5=some afI:=rfl
theorem afY:E.ti 9=some ae3:=rfl
theorem adP:E.ti 10=some Zo:=rfl
theorem adF:E.ti 11=some ab0:=rfl
theorem acO:E.ti 16=some ab6:=rfl
theorem aeb:E.ti 22=some aca:=rfl
theorem adr:E.ti 23=some abn:=rfl
theorem ad6:E.ti 25=some acA:=rfl
theorem ac3:E.ti 26=some abP:=rfl
theorem aer:E.ti 27=some aaW:=rfl
theorem adM:E.ti 30=some abw:=rfl
theorem aed:E.ti 32=some acx:=rfl
theorem adv:E.ti 33=some ZE:=rfl
theorem ad1:E.ti 35=some aag:=rfl
theorem aeq:E.ti 36=some acC:=rfl
theorem adg:E.ti 38=some abG:=rfl
theorem adR:E.ti 39=some Zp:=rfl
theorem ad5:E.ti 40=some ZB:=rfl
theorem acR:E.ti 46=some aaz:=rfl
theorem aeh:E.ti 49=some abc:=rfl
theorem adV:E.ti 51=some ZU:=rfl
theorem acZ:E.ti 59=some Z8:=rfl
theorem ad9:E.ti 61=some acn:=rfl
theorem acX:E.ti 63=some Zw:=rfl
theorem adz:E.ti 66=some abi:=rfl
theorem aec:E.ti 67=some aah:=rfl
theorem aeg:E.ti 70=some abT:=rfl
theorem adB:E.ti 72=some aa9:=rfl
theorem adC:E.ti 82=some abA:=rfl
theorem adO:E.ti 86=some aaT:=rfl
theorem ada:E.ti 87=some aaQ:=rfl
theorem ZZ:E.ti 104=some T5:=rfl
theorem abE:E.ti 110=some VA:=rfl
theorem aad:E.ti 111=some VF:=rfl
theorem abl:E.ti 115=some T4:=rfl
theorem Z7:E.ti 126=some Vg:=rfl
theorem acy:E.ti 149=some UO:=rfl
theorem Zu:E.ti 151=some Vv:=rfl
theorem aa6:E.ti 153=some UR:=rfl
theorem ZW:E.ti 155=some UX:=rfl
theorem abM:E.ti 179=some Vk:=rfl
theorem aac:E.ti 181=some VN:=rfl
theorem acJ:E.ti 187=some VW:=rfl
theorem abd:E.ti 190=some UC:=rfl
theorem acE:E.ti 192=some VP:=rfl
theorem abJ:E.ti 208=some Ug:=rfl
theorem acj:E.ti 217=some Wi:=rfl
theorem ab8:E.ti 237=some VT:=rfl
theorem abL:E.ti 250=some Wh:=rfl
theorem acm:E.ti 252=some Vc:=rfl
theorem abv:E.ti 256=some V1:=rfl
theorem Zq:E.ti 258=some Wm:=rfl
theorem aaj:E.ti 279=some Uq:=rfl
theorem abW:E.ti 280=some VD:=rfl
theorem aas:E.ti 321=some Uo:=rfl
theorem aaN:E.ti 330=some Vf:=rfl
theorem Z0:E.ti 334=some Vy:=rfl
theorem abO:E.ti 336=some U7:=rfl
theorem aar:E.ti 346=some VU:=rfl
theorem aaO:E.ti 350=some VH:=rfl
theorem abF:E.ti 371=some VY:=rfl
theorem ZC:E.ti 372=some Vp:=rfl
attribute [go_sem] agi afx afN afb afm agf afH afX afr afI afY ae3 adP Zo adF ab0 acO ab6 aeb aca adr abn ad6 acA ac3 abP aer aaW adM abw aed acx adv ZE ad1 aag aeq acC adg abG
attribute [go_sem] adR Zp ad5 ZB acR aaz aeh abc adV ZU acZ Z8 ad9 acn acX Zw adz abi aec aah aeg abT adB aa9 adC abA adO aaT ada aaQ ZZ T5 abE VA aad VF abl T4 Z7 Vg
attribute [go_sem] acy UO Zu Vv aa6 UR ZW UX abM Vk aac VN acJ VW abd UC acE VP abJ Ug acj Wi ab8 VT abL Wh acm Vc abv V1 Zq Wm aaj Uq abW VD aas Uo aaN Vf
attribute [go_sem] Z0 Vy abO U7 aar VU aaO VH abF VY ZC Vp
theorem hm:E.P.follows .mixedOrders=true:=by kernel_rfl
abbrev CN(f:FuncId)(a:List PV)(r:PV):Prop:=C E.P f a [] (jF r [])
abbrev CP(f:FuncId)(a:List PV)(s:List (Option En))(r:PV):Prop:=C E.P f a s (jF r s)
theorem E_P:E.P=Tryz.prog:=rfl
end Go.Proofs.YtphcpjhkeipggaaGreat
