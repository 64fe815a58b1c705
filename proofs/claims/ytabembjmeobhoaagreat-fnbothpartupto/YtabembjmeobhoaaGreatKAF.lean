/-
  The table of the types of this seat, held against the program by computation. MADE BY A PROGRAM OF THIS CLAIM.
-/
import Derived.Test.YtabembjmeobhoaaGreatKAE
import Derived.Test.YtabembjmeobhoaaGreatProg
import Derived.KernelRfl
set_option linter.unusedVariables false
set_option linter.unusedSimpArgs false
namespace Go.Proofs.YtabembjmeobhoaaGreat
open Go.Eng
set_option maxRecDepth 100000
def YC:TI:=⟨.other,1,8,[.d (.val .nilFunc)]⟩
def YS:TI:=⟨.int .i64,1,8,[.d (.val (.int .i64 0))]⟩
def ZH:TI:=⟨.int .i64,1,8,[.d (.val (.int .i64 0))]⟩
def ZI:TI:=⟨.bool,1,1,[.d (.val (.bool false))]⟩
def Zq:TI:=⟨.int .u8,1,1,[.d (.val (.int .u8 0))]⟩
def Y1:TI:=⟨.str,1,16,[.d (.str [])]⟩
def Ur:TI:=⟨.str,1,16,[.d (.str [])]⟩
def TU:TI:=⟨.str,1,16,[.d (.str [])]⟩
def TQ:TI:=⟨.ptr 302,1,8,[.d (.val (.pointer none))]⟩
def Uh:TI:=⟨.slice 5,1,24,[.bZ]⟩
def Ux:TI:=⟨.slice 126,1,24,[.bZ]⟩
def TL:TI:=⟨.struct [(23,0,1)],1,24,[.bZ]⟩
def Un:TI:=⟨.slice 49,1,24,[.bZ]⟩
def T9:TI:=⟨.slice 73,1,24,[.bZ]⟩
def Vp:TI:=⟨.struct [(29,0,1)],1,24,[.bZ]⟩
def Tt:TI:=⟨.slice 34,1,24,[.bZ]⟩
def TP:TI:=⟨.struct [(9,0,1),(32,1,1)],2,40,[.d (.str []),.bZ]⟩
def UR:TI:=⟨.slice 37,1,24,[.bZ]⟩
def Uk:TI:=⟨.struct [(3,0,1),(3,1,1),(34,2,2),(35,4,1)],5,80,[.d (.val (.int .i64 0)),.d (.val (.int .i64 0)),.d (.str []),.bZ,.bZ]⟩
def VX:TI:=⟨.slice 3,1,24,[.bZ]⟩
def UQ:TI:=⟨.slice 41,1,24,[.bZ]⟩
def Uo:TI:=⟨.struct [(3,0,1),(3,1,1),(37,2,5),(38,7,1),(34,8,2),(34,10,2),(39,12,1)],13,224,[.d (.val (.int .i64 0)),.d (.val (.int .i64 0)),.d (.val (.int .i64 0)),.d (.val (.int .i64 0)),.d (.str []),.bZ,.bZ,.bZ,.d (.str []),.bZ,.d (.str []),.bZ,.bZ]⟩
def Uq:TI:=⟨.struct [(3,0,1),(3,1,1),(37,2,5),(38,7,1),(34,8,2),(34,10,2),(39,12,1)],13,224,[.d (.val (.int .i64 0)),.d (.val (.int .i64 0)),.d (.val (.int .i64 0)),.d (.val (.int .i64 0)),.d (.str []),.bZ,.bZ,.bZ,.d (.str []),.bZ,.d (.str []),.bZ,.bZ]⟩
def U1:TI:=⟨.struct [(3,0,1),(34,1,2),(34,3,2),(32,5,1),(38,6,1),(3,7,1),(4,8,1)],9,152,[.d (.val (.int .i64 0)),.d (.str []),.bZ,.d (.str []),.bZ,.bZ,.bZ,.d (.val (.int .i64 0)),.d (.val (.bool false))]⟩
def UP:TI:=⟨.struct [(47,0,9),(4,9,1)],10,160,[.d (.val (.int .i64 0)),.d (.str []),.bZ,.d (.str []),.bZ,.bZ,.bZ,.d (.val (.int .i64 0)),.d (.val (.bool false)),.d (.val (.bool false))]⟩
def V8:TI:=⟨.ptr 59,1,8,[.d (.val (.pointer none))]⟩
def Uw:TI:=⟨.struct [(25,0,1),(32,1,1),(32,2,1)],3,72,[.bZ,.bZ,.bZ]⟩
def T1:TI:=⟨.struct [(25,0,1),(32,1,1)],2,48,[.bZ,.bZ]⟩
def Uv:TI:=⟨.other,1,8,[.d (.val .nilFunc)]⟩
def V7:TI:=⟨.slice 71,1,24,[.bZ]⟩
def Vd:TI:=⟨.struct [(3,0,1),(3,1,1)],2,16,[.d (.val (.int .i64 0)),.d (.val (.int .i64 0))]⟩
def V3:TI:=⟨.struct [(9,0,1),(69,1,1),(71,2,2)],4,56,[.d (.str []),.bZ,.d (.val (.int .i64 0)),.d (.val (.int .i64 0))]⟩
def Vn:TI:=⟨.other,1,8,[.d (.val .nilFunc)]⟩
def Vq:TI:=⟨.other,1,8,[.d (.val .nilFunc)]⟩
def Ts:TI:=⟨.slice 134,1,24,[.bZ]⟩
def Vf:TI:=⟨.ptr 103,1,8,[.d (.val (.pointer none))]⟩
def T0:TI:=⟨.slice 162,1,24,[.bZ]⟩
def Pm:TI:=⟨.slice 220,1,24,[.bZ]⟩
def PW:TI:=⟨.struct [(32,0,1),(38,1,1),(101,2,1)],3,72,[.bZ,.bZ,.bZ]⟩
def OB:TI:=⟨.other,1,8,[.d (.val .nilFunc)]⟩
def Pr:TI:=⟨.struct [(32,0,1),(32,1,1),(90,2,1),(38,3,1)],4,96,[.bZ,.bZ,.bZ,.bZ]⟩
def P6:TI:=⟨.struct [(9,0,1),(38,1,1),(3,2,1)],3,48,[.d (.str []),.bZ,.d (.val (.int .i64 0))]⟩
def Pj:TI:=⟨.struct [(34,0,2),(34,2,2)],4,80,[.d (.str []),.bZ,.d (.str []),.bZ]⟩
def P5:TI:=⟨.struct [(22,0,1),(3,1,1)],2,32,[.bZ,.d (.val (.int .i64 0))]⟩
def Pb:TI:=⟨.slice 164,1,24,[.bZ]⟩
def Qg:TI:=⟨.arr 4 156,4,96,[.bZ,.bZ,.bZ,.bZ]⟩
def Pl:TI:=⟨.struct [(38,0,1),(3,1,1),(4,2,1)],3,40,[.bZ,.d (.val (.int .i64 0)),.d (.val (.bool false))]⟩
def NV:TI:=⟨.struct [(162,0,3),(38,3,1)],4,64,[.bZ,.d (.val (.int .i64 0)),.d (.val (.bool false)),.bZ]⟩
def Oa:TI:=⟨.slice 190,1,24,[.bZ]⟩
def OX:TI:=⟨.slice 252,1,24,[.bZ]⟩
def O1:TI:=⟨.slice 9,1,24,[.bZ]⟩
def PU:TI:=⟨.struct [(3,0,1),(3,1,1),(3,2,1)],3,24,[.d (.val (.int .i64 0)),.d (.val (.int .i64 0)),.d (.val (.int .i64 0))]⟩
def OC:TI:=⟨.slice 233,1,24,[.bZ]⟩
def Qe:TI:=⟨.struct [(3,0,1),(4,1,1)],2,16,[.d (.val (.int .i64 0)),.d (.val (.bool false))]⟩
def PR:TI:=⟨.int .u64,1,8,[.d (.val (.int .u64 0))]⟩
def PY:TI:=⟨.struct [(162,0,3),(38,3,1)],4,64,[.bZ,.d (.val (.int .i64 0)),.d (.val (.bool false)),.bZ]⟩
def Oy:TI:=⟨.struct [(71,0,2),(71,2,2),(4,4,1),(4,5,1)],6,40,[.d (.val (.int .i64 0)),.d (.val (.int .i64 0)),.d (.val (.int .i64 0)),.d (.val (.int .i64 0)),.d (.val (.bool false)),.d (.val (.bool false))]⟩
def PL:TI:=⟨.other,1,8,[.d (.val (.map none))]⟩
def Pq:TI:=⟨.other,1,8,[.d (.val (.map none))]⟩
def tis:List (Option TI):=[none,some YC,some YS,some ZH,some ZI,some Zq,none,none,none,some Y1,some Ur,some TU,none,none,none,none,some TQ,none,none,none,none,none,some Uh,some Ux,none,some TL,some Un,none,none,some T9,none,some Vp,some Tt,none,some TP,some UR,none,some Uk,some VX,some UQ,some Uo,some Uq,none,none,none,none,none,some U1,none,some UP,none,none,none,none,none,some V8,none,none,none,some Uw,none,none,none,none,none,none,some T1,some Uv,none,some V7,none,some Vd,none,some V3,none,none,none,none,none,none,none,none,none,none,none,none,some Vn,some Vq,none,none,some Ts,none,some Vf,none,none,none,none,none,some T0,none,none,some Pm,none,some PW,none,some OB,none,none,none,none,none,none,none,none,none,none,none,some Pr,none,none,none,none,none,none,none,none,some P6,none,none,none,none,none,none,none,some Pj,none,none,none,none,none,none,none,none,none,none,none,none,none,some P5,none,none,none,none,none,none,none,some Pb,none,some Qg,none,none,none,some Pl,none,some NV,none,none,none,none,none,none,none,none,none,none,none,none,none,none,none,none,none,none,none,none,none,none,none,none,some Oa,some OX,none,none,none,none,none,none,none,none,none,none,none,none,none,none,none,none,none,none,none,none,none,none,none,none,none,some O1,none,none,none,some PU,none,none,none,none,none,none,none,none,some OC,none,none,none,some Qe,none,some PR,none,none,none,none,none,none,none,none,none,none,none,none,none,none,none,none,some PY,none,none,none,some Oy,none,none,none,none,none,none,none,none,none,none,none,none,none,none,none,none,some PL,some Pq,none,none,none,none,none,none,none,none,none,none,none,none,none,none,none,none,none,none,none,none,none,none,none,none,none,none,none,none,none,none,none,none,none,none,none,none,none,none,none,none,none]
theorem YG:sn Tryz.prog 0 tis:=.BV (by kernel_rfl) (by kernel_rfl)
noncomputable def E:Env:=⟨Tryz.prog,Pn tis,YG.all⟩
theorem YE:E.ti 1=some YC:=rfl
theorem Zk:E.ti 2=some YS:=rfl
theorem YL:E.ti 3=some ZH:=rfl
theorem Y2:E.ti 4=some ZI:=rfl
theorem YI:E.ti 5=some Zq:=rfl
theorem YM:E.ti 9=some Y1:=rfl
theorem XW:E.ti 10=some Ur:=rfl
theorem Xi:E.ti 11=some TU:=rfl
theorem XX:E.ti 16=some TQ:=rfl
theorem XB:E.ti 22=some Uh:=rfl
theorem WL:E.ti 23=some Ux:=rfl
theorem XH:E.ti 25=some TL:=rfl
theorem WS:E.ti 26=some Un:=rfl
theorem Wv:E.ti 29=some T9:=rfl
theorem W9:E.ti 31=some Vp:=rfl
theorem WR:E.ti 32=some Tt:=rfl
theorem W6:E.ti 34=some TP:=rfl
theorem Wh:E.ti 35=some UR:=rfl
theorem XF:E.ti 37=some Uk:=rfl
theorem Xb:E.ti 38=some VX:=rfl
theorem WA:E.ti 39=some UQ:=rfl
theorem Xe:E.ti 40=some Uo:=rfl
theorem Wf:E.ti 41=some Uq:=rfl
theorem WB:E.ti 47=some U1:=rfl
theorem XA:E.ti 49=some UP:=rfl
theorem Wy:E.ti 55=some V8:=rfl
theorem XG:E.ti 59=some Uw:=rfl
theorem XE:E.ti 66=some T1:=rfl
theorem X1:E.ti 67=some Uv:=rfl
theorem WN:E.ti 69=some V7:=rfl
theorem Wg:E.ti 71=some Vd:=rfl
theorem Wi:E.ti 73=some V3:=rfl
theorem WZ:E.ti 86=some Vn:=rfl
theorem XK:E.ti 87=some Vq:=rfl
theorem Xx:E.ti 90=some Ts:=rfl
theorem XD:E.ti 92=some Vf:=rfl
theorem Xg:E.ti 98=some T0:=rfl
theorem UN:E.ti 101=some Pm:=rfl
theorem U9:E.ti 103=some PW:=rfl
theorem UX:E.ti 105=some OB:=rfl
theorem UF:E.ti 117=some Pr:=rfl
theorem Vj:E.ti 126=some P6:=rfl
theorem Tx:E.ti 134=some Pj:=rfl
theorem Tv:E.ti 148=some P5:=rfl
theorem VQ:E.ti 156=some Pb:=rfl
theorem To:E.ti 158=some Qg:=rfl
theorem Tm:E.ti 162=some Pl:=rfl
theorem V6:E.ti 164=some NV:=rfl
theorem Tc:E.ti 189=some Oa:=rfl
theorem Uj:E.ti 190=some OX:=rfl
theorem TN:E.ti 216=some O1:=rfl
theorem Vt:E.ti 220=some PU:=rfl
theorem VL:E.ti 229=some OC:=rfl
theorem Ta:E.ti 233=some Qe:=rfl
theorem T3:E.ti 235=some PR:=rfl
theorem Vk:E.ti 252=some PY:=rfl
theorem U4:E.ti 256=some Oy:=rfl
theorem Tw:E.ti 273=some PL:=rfl
theorem U7:E.ti 274=some Pq:=rfl
attribute [go_sem] YE YC Zk YS YL ZH Y2 ZI YI Zq YM Y1 XW Ur Xi TU XX TQ XB Uh WL Ux XH TL WS Un Wv T9 W9 Vp WR Tt W6 TP Wh UR XF Uk Xb VX
attribute [go_sem] WA UQ Xe Uo Wf Uq WB U1 XA UP Wy V8 XG Uw XE T1 X1 Uv WN V7 Wg Vd Wi V3 WZ Vn XK Vq Xx Ts XD Vf Xg T0 UN Pm U9 PW UX OB
attribute [go_sem] UF Pr Vj P6 Tx Pj Tv P5 VQ Pb To Qg Tm Pl V6 NV Tc Oa Uj OX TN O1 Vt PU VL OC Ta Qe T3 PR Vk PY U4 Oy Tw PL U7 Pq
theorem hm:E.P.follows .mixedOrders=true:=by kernel_rfl
theorem E_P:E.P=Tryz.prog:=rfl
end Go.Proofs.YtabembjmeobhoaaGreat
