/-
  The table of the types of this seat, held against the program by computation. MADE BY A PROGRAM OF THIS CLAIM.
-/
import Derived.Test.YtabembjmeobhoaaGreatKBE
import Derived.Test.YtabembjmeobhoaaGreatProg
import Derived.KernelRfl
set_option linter.unusedVariables false
set_option linter.unusedSimpArgs false
namespace Go.Proofs.YtabembjmeobhoaaGreat
open Go.Eng
set_option maxRecDepth 100000
def Zh:TI:=⟨.other,1,8,[.d (.val .nilFunc)]⟩
def Zr:TI:=⟨.int .i64,1,8,[.d (.val (.int .i64 0))]⟩
def Y9:TI:=⟨.int .i64,1,8,[.d (.val (.int .i64 0))]⟩
def Y0:TI:=⟨.bool,1,1,[.d (.val (.bool false))]⟩
def Zt:TI:=⟨.int .u8,1,1,[.d (.val (.int .u8 0))]⟩
def Yv:TI:=⟨.str,1,16,[.d (.str [])]⟩
def Vl:TI:=⟨.str,1,16,[.d (.str [])]⟩
def TO:TI:=⟨.str,1,16,[.d (.str [])]⟩
def VZ:TI:=⟨.ptr 302,1,8,[.d (.val (.pointer none))]⟩
def TG:TI:=⟨.slice 5,1,24,[.bZ]⟩
def UI:TI:=⟨.slice 126,1,24,[.bZ]⟩
def T6:TI:=⟨.struct [(23,0,1)],1,24,[.bZ]⟩
def Vm:TI:=⟨.slice 49,1,24,[.bZ]⟩
def Tj:TI:=⟨.slice 73,1,24,[.bZ]⟩
def VH:TI:=⟨.struct [(29,0,1)],1,24,[.bZ]⟩
def VV:TI:=⟨.slice 34,1,24,[.bZ]⟩
def UA:TI:=⟨.struct [(9,0,1),(32,1,1)],2,40,[.d (.str []),.bZ]⟩
def Vk:TI:=⟨.slice 37,1,24,[.bZ]⟩
def VS:TI:=⟨.struct [(3,0,1),(3,1,1),(34,2,2),(35,4,1)],5,80,[.d (.val (.int .i64 0)),.d (.val (.int .i64 0)),.d (.str []),.bZ,.bZ]⟩
def TF:TI:=⟨.slice 3,1,24,[.bZ]⟩
def Uq:TI:=⟨.slice 41,1,24,[.bZ]⟩
def Tb:TI:=⟨.struct [(3,0,1),(3,1,1),(37,2,5),(38,7,1),(34,8,2),(34,10,2),(39,12,1)],13,224,[.d (.val (.int .i64 0)),.d (.val (.int .i64 0)),.d (.val (.int .i64 0)),.d (.val (.int .i64 0)),.d (.str []),.bZ,.bZ,.bZ,.d (.str []),.bZ,.d (.str []),.bZ,.bZ]⟩
def T7:TI:=⟨.struct [(3,0,1),(3,1,1),(37,2,5),(38,7,1),(34,8,2),(34,10,2),(39,12,1)],13,224,[.d (.val (.int .i64 0)),.d (.val (.int .i64 0)),.d (.val (.int .i64 0)),.d (.val (.int .i64 0)),.d (.str []),.bZ,.bZ,.bZ,.d (.str []),.bZ,.d (.str []),.bZ,.bZ]⟩
def V6:TI:=⟨.struct [(3,0,1),(34,1,2),(34,3,2),(32,5,1),(38,6,1),(3,7,1),(4,8,1)],9,152,[.d (.val (.int .i64 0)),.d (.str []),.bZ,.d (.str []),.bZ,.bZ,.bZ,.d (.val (.int .i64 0)),.d (.val (.bool false))]⟩
def VE:TI:=⟨.struct [(47,0,9),(4,9,1)],10,160,[.d (.val (.int .i64 0)),.d (.str []),.bZ,.d (.str []),.bZ,.bZ,.bZ,.d (.val (.int .i64 0)),.d (.val (.bool false)),.d (.val (.bool false))]⟩
def T5:TI:=⟨.ptr 59,1,8,[.d (.val (.pointer none))]⟩
def Vu:TI:=⟨.struct [(25,0,1),(32,1,1),(32,2,1)],3,72,[.bZ,.bZ,.bZ]⟩
def Ug:TI:=⟨.struct [(25,0,1),(32,1,1)],2,48,[.bZ,.bZ]⟩
def T4:TI:=⟨.other,1,8,[.d (.val .nilFunc)]⟩
def U4:TI:=⟨.slice 71,1,24,[.bZ]⟩
def Tr:TI:=⟨.struct [(3,0,1),(3,1,1)],2,16,[.d (.val (.int .i64 0)),.d (.val (.int .i64 0))]⟩
def Uy:TI:=⟨.struct [(9,0,1),(69,1,1),(71,2,2)],4,56,[.d (.str []),.bZ,.d (.val (.int .i64 0)),.d (.val (.int .i64 0))]⟩
def UL:TI:=⟨.other,1,8,[.d (.val .nilFunc)]⟩
def Vh:TI:=⟨.other,1,8,[.d (.val .nilFunc)]⟩
def UT:TI:=⟨.slice 134,1,24,[.bZ]⟩
def TQ:TI:=⟨.ptr 103,1,8,[.d (.val (.pointer none))]⟩
def Uk:TI:=⟨.slice 162,1,24,[.bZ]⟩
def Oy:TI:=⟨.slice 220,1,24,[.bZ]⟩
def OJ:TI:=⟨.struct [(32,0,1),(38,1,1),(101,2,1)],3,72,[.bZ,.bZ,.bZ]⟩
def OC:TI:=⟨.other,1,8,[.d (.val .nilFunc)]⟩
def PN:TI:=⟨.struct [(32,0,1),(32,1,1),(90,2,1),(38,3,1)],4,96,[.bZ,.bZ,.bZ,.bZ]⟩
def Oi:TI:=⟨.struct [(9,0,1),(38,1,1),(3,2,1)],3,48,[.d (.str []),.bZ,.d (.val (.int .i64 0))]⟩
def P1:TI:=⟨.struct [(34,0,2),(34,2,2)],4,80,[.d (.str []),.bZ,.d (.str []),.bZ]⟩
def PH:TI:=⟨.struct [(22,0,1),(3,1,1)],2,32,[.bZ,.d (.val (.int .i64 0))]⟩
def Pk:TI:=⟨.slice 164,1,24,[.bZ]⟩
def Pj:TI:=⟨.arr 4 156,4,96,[.bZ,.bZ,.bZ,.bZ]⟩
def O2:TI:=⟨.struct [(38,0,1),(3,1,1),(4,2,1)],3,40,[.bZ,.d (.val (.int .i64 0)),.d (.val (.bool false))]⟩
def Og:TI:=⟨.struct [(162,0,3),(38,3,1)],4,64,[.bZ,.d (.val (.int .i64 0)),.d (.val (.bool false)),.bZ]⟩
def Om:TI:=⟨.slice 190,1,24,[.bZ]⟩
def Pr:TI:=⟨.slice 252,1,24,[.bZ]⟩
def O3:TI:=⟨.slice 9,1,24,[.bZ]⟩
def PG:TI:=⟨.struct [(3,0,1),(3,1,1),(3,2,1)],3,24,[.d (.val (.int .i64 0)),.d (.val (.int .i64 0)),.d (.val (.int .i64 0))]⟩
def N4:TI:=⟨.slice 233,1,24,[.bZ]⟩
def Qd:TI:=⟨.struct [(3,0,1),(4,1,1)],2,16,[.d (.val (.int .i64 0)),.d (.val (.bool false))]⟩
def NY:TI:=⟨.int .u64,1,8,[.d (.val (.int .u64 0))]⟩
def N0:TI:=⟨.struct [(162,0,3),(38,3,1)],4,64,[.bZ,.d (.val (.int .i64 0)),.d (.val (.bool false)),.bZ]⟩
def Ov:TI:=⟨.struct [(71,0,2),(71,2,2),(4,4,1),(4,5,1)],6,40,[.d (.val (.int .i64 0)),.d (.val (.int .i64 0)),.d (.val (.int .i64 0)),.d (.val (.int .i64 0)),.d (.val (.bool false)),.d (.val (.bool false))]⟩
def N6:TI:=⟨.other,1,8,[.d (.val (.map none))]⟩
def Qk:TI:=⟨.other,1,8,[.d (.val (.map none))]⟩
def tis:List (Option TI):=[none,some Zh,some Zr,some Y9,some Y0,some Zt,none,none,none,some Yv,some Vl,some TO,none,none,none,none,some VZ,none,none,none,none,none,some TG,some UI,none,some T6,some Vm,none,none,some Tj,none,some VH,some VV,none,some UA,some Vk,none,some VS,some TF,some Uq,some Tb,some T7,none,none,none,none,none,some V6,none,some VE,none,none,none,none,none,some T5,none,none,none,some Vu,none,none,none,none,none,none,some Ug,some T4,none,some U4,none,some Tr,none,some Uy,none,none,none,none,none,none,none,none,none,none,none,none,some UL,some Vh,none,none,some UT,none,some TQ,none,none,none,none,none,some Uk,none,none,some Oy,none,some OJ,none,some OC,none,none,none,none,none,none,none,none,none,none,none,some PN,none,none,none,none,none,none,none,none,some Oi,none,none,none,none,none,none,none,some P1,none,none,none,none,none,none,none,none,none,none,none,none,none,some PH,none,none,none,none,none,none,none,some Pk,none,some Pj,none,none,none,some O2,none,some Og,none,none,none,none,none,none,none,none,none,none,none,none,none,none,none,none,none,none,none,none,none,none,none,none,some Om,some Pr,none,none,none,none,none,none,none,none,none,none,none,none,none,none,none,none,none,none,none,none,none,none,none,none,none,some O3,none,none,none,some PG,none,none,none,none,none,none,none,none,some N4,none,none,none,some Qd,none,some NY,none,none,none,none,none,none,none,none,none,none,none,none,none,none,none,none,some N0,none,none,none,some Ov,none,none,none,none,none,none,none,none,none,none,none,none,none,none,none,none,some N6,some Qk,none,none,none,none,none,none,none,none,none,none,none,none,none,none,none,none,none,none,none,none,none,none,none,none,none,none,none,none,none,none,none,none,none,none,none,none,none,none,none,none,none]
theorem YV:tf Tryz.prog 0 tis:=.BV (by kernel_rfl) (by kernel_rfl)
noncomputable def E:Env:=⟨Tryz.prog,OU tis,YV.all⟩
theorem YY:E.ti 1=some Zh:=rfl
theorem Zf:E.ti 2=some Zr:=rfl
theorem YU:E.ti 3=some Y9:=rfl
theorem ZI:E.ti 4=some Y0:=rfl
theorem YP:E.ti 5=some Zt:=rfl
theorem Zn:E.ti 9=some Yv:=rfl
theorem WA:E.ti 10=some Vl:=rfl
theorem Xp:E.ti 11=some TO:=rfl
theorem Ww:E.ti 16=some VZ:=rfl
theorem XT:E.ti 22=some TG:=rfl
theorem XL:E.ti 23=some UI:=rfl
theorem Ws:E.ti 25=some T6:=rfl
theorem Xx:E.ti 26=some Vm:=rfl
theorem XA:E.ti 29=some Tj:=rfl
theorem X4:E.ti 31=some VH:=rfl
theorem Xn:E.ti 32=some VV:=rfl
theorem W7:E.ti 34=some UA:=rfl
theorem Xw:E.ti 35=some Vk:=rfl
theorem Xa:E.ti 37=some VS:=rfl
theorem Xj:E.ti 38=some TF:=rfl
theorem Xh:E.ti 39=some Uq:=rfl
theorem WC:E.ti 40=some Tb:=rfl
theorem XE:E.ti 41=some T7:=rfl
theorem WH:E.ti 47=some V6:=rfl
theorem XI:E.ti 49=some VE:=rfl
theorem XK:E.ti 55=some T5:=rfl
theorem WB:E.ti 59=some Vu:=rfl
theorem Xv:E.ti 66=some Ug:=rfl
theorem Wf:E.ti 67=some T4:=rfl
theorem WN:E.ti 69=some U4:=rfl
theorem Wv:E.ti 71=some Tr:=rfl
theorem Xk:E.ti 73=some Uy:=rfl
theorem XQ:E.ti 86=some UL:=rfl
theorem Wt:E.ti 87=some Vh:=rfl
theorem Xe:E.ti 90=some UT:=rfl
theorem Xy:E.ti 92=some TQ:=rfl
theorem X3:E.ti 98=some Uk:=rfl
theorem Te:E.ti 101=some Oy:=rfl
theorem VL:E.ti 103=some OJ:=rfl
theorem Up:E.ti 105=some OC:=rfl
theorem Tq:E.ti 117=some PN:=rfl
theorem TP:E.ti 126=some Oi:=rfl
theorem UR:E.ti 134=some P1:=rfl
theorem Tn:E.ti 148=some PH:=rfl
theorem UM:E.ti 156=some Pk:=rfl
theorem VF:E.ti 158=some Pj:=rfl
theorem T8:E.ti 162=some O2:=rfl
theorem S4:E.ti 164=some Og:=rfl
theorem TV:E.ti 189=some Om:=rfl
theorem U2:E.ti 190=some Pr:=rfl
theorem S6:E.ti 216=some O3:=rfl
theorem Um:E.ti 220=some PG:=rfl
theorem Ue:E.ti 229=some N4:=rfl
theorem V5:E.ti 233=some Qd:=rfl
theorem S7:E.ti 235=some NY:=rfl
theorem VJ:E.ti 252=some N0:=rfl
theorem TA:E.ti 256=some Ov:=rfl
theorem T9:E.ti 273=some N6:=rfl
theorem Vb:E.ti 274=some Qk:=rfl
attribute [go_sem] YY Zh Zf Zr YU Y9 ZI Y0 YP Zt Zn Yv WA Vl Xp TO Ww VZ XT TG XL UI Ws T6 Xx Vm XA Tj X4 VH Xn VV W7 UA Xw Vk Xa VS Xj TF
attribute [go_sem] Xh Uq WC Tb XE T7 WH V6 XI VE XK T5 WB Vu Xv Ug Wf T4 WN U4 Wv Tr Xk Uy XQ UL Wt Vh Xe UT Xy TQ X3 Uk Te Oy VL OJ Up OC
attribute [go_sem] Tq PN TP Oi UR P1 Tn PH UM Pk VF Pj T8 O2 S4 Og TV Om U2 Pr S6 O3 Um PG Ue N4 V5 Qd S7 NY VJ N0 TA Ov T9 N6 Vb Qk
theorem hm:E.P.follows .mixedOrders=true:=by kernel_rfl
theorem E_P:E.P=Tryz.prog:=rfl
end Go.Proofs.YtabembjmeobhoaaGreat
