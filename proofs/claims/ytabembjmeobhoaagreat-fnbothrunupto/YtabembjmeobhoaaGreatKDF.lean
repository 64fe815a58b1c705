/-
  The table of the types of this seat, held against the program by computation. MADE BY A PROGRAM OF THIS CLAIM.
-/
import Derived.Test.YtabembjmeobhoaaGreatKDE
import Derived.Test.YtabembjmeobhoaaGreatProg
import Derived.KernelRfl
set_option linter.unusedVariables false
set_option linter.unusedSimpArgs false
namespace Go.Proofs.YtabembjmeobhoaaGreat
open Go.Eng
set_option maxRecDepth 100000
def ZB:TI:=⟨.other,1,8,[.d (.val .nilFunc)]⟩
def Ze:TI:=⟨.int .i64,1,8,[.d (.val (.int .i64 0))]⟩
def ZW:TI:=⟨.int .i64,1,8,[.d (.val (.int .i64 0))]⟩
def aas:TI:=⟨.bool,1,1,[.d (.val (.bool false))]⟩
def aay:TI:=⟨.int .u8,1,1,[.d (.val (.int .u8 0))]⟩
def aam:TI:=⟨.str,1,16,[.d (.str [])]⟩
def Wa:TI:=⟨.str,1,16,[.d (.str [])]⟩
def Vd:TI:=⟨.str,1,16,[.d (.str [])]⟩
def Up:TI:=⟨.ptr 302,1,8,[.d (.val (.pointer none))]⟩
def Uw:TI:=⟨.slice 5,1,24,[.b8]⟩
def T9:TI:=⟨.slice 126,1,24,[.b8]⟩
def TW:TI:=⟨.struct [(23,0,1)],1,24,[.b8]⟩
def WQ:TI:=⟨.slice 49,1,24,[.b8]⟩
def UC:TI:=⟨.slice 73,1,24,[.b8]⟩
def VL:TI:=⟨.struct [(29,0,1)],1,24,[.b8]⟩
def VW:TI:=⟨.slice 34,1,24,[.b8]⟩
def WC:TI:=⟨.struct [(9,0,1),(32,1,1)],2,40,[.d (.str []),.b8]⟩
def Wl:TI:=⟨.slice 37,1,24,[.b8]⟩
def Ue:TI:=⟨.struct [(3,0,1),(3,1,1),(34,2,2),(35,4,1)],5,80,[.d (.val (.int .i64 0)),.d (.val (.int .i64 0)),.d (.str []),.b8,.b8]⟩
def VX:TI:=⟨.slice 3,1,24,[.b8]⟩
def T3:TI:=⟨.slice 41,1,24,[.b8]⟩
def U3:TI:=⟨.struct [(3,0,1),(3,1,1),(37,2,5),(38,7,1),(34,8,2),(34,10,2),(39,12,1)],13,224,[.d (.val (.int .i64 0)),.d (.val (.int .i64 0)),.d (.val (.int .i64 0)),.d (.val (.int .i64 0)),.d (.str []),.b8,.b8,.b8,.d (.str []),.b8,.d (.str []),.b8,.b8]⟩
def Vj:TI:=⟨.struct [(3,0,1),(3,1,1),(37,2,5),(38,7,1),(34,8,2),(34,10,2),(39,12,1)],13,224,[.d (.val (.int .i64 0)),.d (.val (.int .i64 0)),.d (.val (.int .i64 0)),.d (.val (.int .i64 0)),.d (.str []),.b8,.b8,.b8,.d (.str []),.b8,.d (.str []),.b8,.b8]⟩
def VD:TI:=⟨.struct [(3,0,1),(34,1,2),(34,3,2),(32,5,1),(38,6,1),(3,7,1),(4,8,1)],9,152,[.d (.val (.int .i64 0)),.d (.str []),.b8,.d (.str []),.b8,.b8,.b8,.d (.val (.int .i64 0)),.d (.val (.bool false))]⟩
def Vr:TI:=⟨.struct [(47,0,9),(4,9,1)],10,160,[.d (.val (.int .i64 0)),.d (.str []),.b8,.d (.str []),.b8,.b8,.b8,.d (.val (.int .i64 0)),.d (.val (.bool false)),.d (.val (.bool false))]⟩
def WU:TI:=⟨.ptr 59,1,8,[.d (.val (.pointer none))]⟩
def Vi:TI:=⟨.struct [(25,0,1),(32,1,1),(32,2,1)],3,72,[.b8,.b8,.b8]⟩
def Uu:TI:=⟨.struct [(25,0,1),(32,1,1)],2,48,[.b8,.b8]⟩
def U8:TI:=⟨.other,1,8,[.d (.val .nilFunc)]⟩
def U2:TI:=⟨.slice 71,1,24,[.b8]⟩
def VV:TI:=⟨.struct [(3,0,1),(3,1,1)],2,16,[.d (.val (.int .i64 0)),.d (.val (.int .i64 0))]⟩
def TR:TI:=⟨.struct [(9,0,1),(69,1,1),(71,2,2)],4,56,[.d (.str []),.b8,.d (.val (.int .i64 0)),.d (.val (.int .i64 0))]⟩
def Uz:TI:=⟨.other,1,8,[.d (.val .nilFunc)]⟩
def Vo:TI:=⟨.other,1,8,[.d (.val .nilFunc)]⟩
def T7:TI:=⟨.slice 134,1,24,[.b8]⟩
def VF:TI:=⟨.ptr 103,1,8,[.d (.val (.pointer none))]⟩
def VZ:TI:=⟨.slice 162,1,24,[.b8]⟩
def OY:TI:=⟨.slice 220,1,24,[.b8]⟩
def P5:TI:=⟨.struct [(32,0,1),(38,1,1),(101,2,1)],3,72,[.b8,.b8,.b8]⟩
def QR:TI:=⟨.other,1,8,[.d (.val .nilFunc)]⟩
def QX:TI:=⟨.struct [(32,0,1),(32,1,1),(90,2,1),(38,3,1)],4,96,[.b8,.b8,.b8,.b8]⟩
def Qu:TI:=⟨.struct [(9,0,1),(38,1,1),(3,2,1)],3,48,[.d (.str []),.b8,.d (.val (.int .i64 0))]⟩
def QO:TI:=⟨.struct [(34,0,2),(34,2,2)],4,80,[.d (.str []),.b8,.d (.str []),.b8]⟩
def P7:TI:=⟨.struct [(22,0,1),(3,1,1)],2,32,[.b8,.d (.val (.int .i64 0))]⟩
def Pw:TI:=⟨.slice 164,1,24,[.b8]⟩
def O7:TI:=⟨.arr 4 156,4,96,[.b8,.b8,.b8,.b8]⟩
def Qw:TI:=⟨.struct [(38,0,1),(3,1,1),(4,2,1)],3,40,[.b8,.d (.val (.int .i64 0)),.d (.val (.bool false))]⟩
def OZ:TI:=⟨.struct [(162,0,3),(38,3,1)],4,64,[.b8,.d (.val (.int .i64 0)),.d (.val (.bool false)),.b8]⟩
def ON:TI:=⟨.slice 190,1,24,[.b8]⟩
def QF:TI:=⟨.slice 252,1,24,[.b8]⟩
def QM:TI:=⟨.slice 9,1,24,[.b8]⟩
def PQ:TI:=⟨.struct [(3,0,1),(3,1,1),(3,2,1)],3,24,[.d (.val (.int .i64 0)),.d (.val (.int .i64 0)),.d (.val (.int .i64 0))]⟩
def QP:TI:=⟨.slice 233,1,24,[.b8]⟩
def Q2:TI:=⟨.struct [(3,0,1),(4,1,1)],2,16,[.d (.val (.int .i64 0)),.d (.val (.bool false))]⟩
def PT:TI:=⟨.int .u64,1,8,[.d (.val (.int .u64 0))]⟩
def PD:TI:=⟨.struct [(162,0,3),(38,3,1)],4,64,[.b8,.d (.val (.int .i64 0)),.d (.val (.bool false)),.b8]⟩
def Pc:TI:=⟨.struct [(71,0,2),(71,2,2),(4,4,1),(4,5,1)],6,40,[.d (.val (.int .i64 0)),.d (.val (.int .i64 0)),.d (.val (.int .i64 0)),.d (.val (.int .i64 0)),.d (.val (.bool false)),.d (.val (.bool false))]⟩
def Pr:TI:=⟨.other,1,8,[.d (.val (.map none))]⟩
def PL:TI:=⟨.other,1,8,[.d (.val (.map none))]⟩
def tis:List (Option TI):=[none,some ZB,some Ze,some ZW,some aas,some aay,none,none,none,some aam,some Wa,some Vd,none,none,none,none,some Up,none,none,none,none,none,some Uw,some T9,none,some TW,some WQ,none,none,some UC,none,some VL,some VW,none,some WC,some Wl,none,some Ue,some VX,some T3,some U3,some Vj,none,none,none,none,none,some VD,none,some Vr,none,none,none,none,none,some WU,none,none,none,some Vi,none,none,none,none,none,none,some Uu,some U8,none,some U2,none,some VV,none,some TR,none,none,none,none,none,none,none,none,none,none,none,none,some Uz,some Vo,none,none,some T7,none,some VF,none,none,none,none,none,some VZ,none,none,some OY,none,some P5,none,some QR,none,none,none,none,none,none,none,none,none,none,none,some QX,none,none,none,none,none,none,none,none,some Qu,none,none,none,none,none,none,none,some QO,none,none,none,none,none,none,none,none,none,none,none,none,none,some P7,none,none,none,none,none,none,none,some Pw,none,some O7,none,none,none,some Qw,none,some OZ,none,none,none,none,none,none,none,none,none,none,none,none,none,none,none,none,none,none,none,none,none,none,none,none,some ON,some QF,none,none,none,none,none,none,none,none,none,none,none,none,none,none,none,none,none,none,none,none,none,none,none,none,none,some QM,none,none,none,some PQ,none,none,none,none,none,none,none,none,some QP,none,none,none,some Q2,none,some PT,none,none,none,none,none,none,none,none,none,none,none,none,none,none,none,none,some PD,none,none,none,some Pc,none,none,none,none,none,none,none,none,none,none,none,none,none,none,none,none,some Pr,some PL,none,none,none,none,none,none,none,none,none,none,none,none,none,none,none,none,none,none,none,none,none,none,none,none,none,none,none,none,none,none,none,none,none,none,none,none,none,none,none,none,none]
theorem aaA:tu Tryz.prog 0 tis:=.CF (by kernel_rfl) (by kernel_rfl)
noncomputable def E:Env:=⟨Tryz.prog,QD tis,aaA.all⟩
theorem aaf:E.ti 1=some ZB:=rfl
theorem ZF:E.ti 2=some Ze:=rfl
theorem ZL:E.ti 3=some ZW:=rfl
theorem Zo:E.ti 4=some aas:=rfl
theorem Zm:E.ti 5=some aay:=rfl
theorem ZQ:E.ti 9=some aam:=rfl
theorem Xt:E.ti 10=some Wa:=rfl
theorem Xv:E.ti 11=some Vd:=rfl
theorem Yz:E.ti 16=some Up:=rfl
theorem Xm:E.ti 22=some Uw:=rfl
theorem XR:E.ti 23=some T9:=rfl
theorem Yn:E.ti 25=some TW:=rfl
theorem Ya:E.ti 26=some WQ:=rfl
theorem Xo:E.ti 29=some UC:=rfl
theorem XV:E.ti 31=some VL:=rfl
theorem Yq:E.ti 32=some VW:=rfl
theorem X5:E.ti 34=some WC:=rfl
theorem XJ:E.ti 35=some Wl:=rfl
theorem Yy:E.ti 37=some Ue:=rfl
theorem X6:E.ti 38=some VX:=rfl
theorem Yo:E.ti 39=some T3:=rfl
theorem YL:E.ti 40=some U3:=rfl
theorem Yl:E.ti 41=some Vj:=rfl
theorem Xl:E.ti 47=some VD:=rfl
theorem XT:E.ti 49=some Vr:=rfl
theorem Yh:E.ti 55=some WU:=rfl
theorem Xg:E.ti 59=some Vi:=rfl
theorem XI:E.ti 66=some Uu:=rfl
theorem YE:E.ti 67=some U8:=rfl
theorem XZ:E.ti 69=some U2:=rfl
theorem YO:E.ti 71=some VV:=rfl
theorem Xi:E.ti 73=some TR:=rfl
theorem YK:E.ti 86=some Uz:=rfl
theorem X1:E.ti 87=some Vo:=rfl
theorem YF:E.ti 90=some T7:=rfl
theorem X2:E.ti 92=some VF:=rfl
theorem XK:E.ti 98=some VZ:=rfl
theorem Uq:E.ti 101=some OY:=rfl
theorem Ub:E.ti 103=some P5:=rfl
theorem VU:E.ti 105=some QR:=rfl
theorem UT:E.ti 117=some QX:=rfl
theorem Va:E.ti 126=some Qu:=rfl
theorem WL:E.ti 134=some QO:=rfl
theorem Ws:E.ti 148=some P7:=rfl
theorem Vs:E.ti 156=some Pw:=rfl
theorem WT:E.ti 158=some O7:=rfl
theorem Wv:E.ti 162=some Qw:=rfl
theorem Vg:E.ti 164=some OZ:=rfl
theorem Vz:E.ti 189=some ON:=rfl
theorem WG:E.ti 190=some QF:=rfl
theorem Wq:E.ti 216=some QM:=rfl
theorem WY:E.ti 220=some PQ:=rfl
theorem UI:E.ti 229=some QP:=rfl
theorem Wb:E.ti 233=some Q2:=rfl
theorem VJ:E.ti 235=some PT:=rfl
theorem T0:E.ti 252=some PD:=rfl
theorem TS:E.ti 256=some Pc:=rfl
theorem Vv:E.ti 273=some Pr:=rfl
theorem U1:E.ti 274=some PL:=rfl
attribute [go_sem] aaf ZB ZF Ze ZL ZW Zo aas Zm aay ZQ aam Xt Wa Xv Vd Yz Up Xm Uw XR T9 Yn TW Ya WQ Xo UC XV VL Yq VW X5 WC XJ Wl Yy Ue X6 VX
attribute [go_sem] Yo T3 YL U3 Yl Vj Xl VD XT Vr Yh WU Xg Vi XI Uu YE U8 XZ U2 YO VV Xi TR YK Uz X1 Vo YF T7 X2 VF XK VZ Uq OY Ub P5 VU QR
attribute [go_sem] UT QX Va Qu WL QO Ws P7 Vs Pw WT O7 Wv Qw Vg OZ Vz ON WG QF Wq QM WY PQ UI QP Wb Q2 VJ PT T0 PD TS Pc Vv Pr U1 PL
theorem hm:E.P.follows .mixedOrders=true:=by kernel_rfl
theorem E_P:E.P=Tryz.prog:=rfl
end Go.Proofs.YtabembjmeobhoaaGreat
