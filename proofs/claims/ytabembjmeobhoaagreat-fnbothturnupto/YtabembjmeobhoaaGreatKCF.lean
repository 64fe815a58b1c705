/-
  The table of the types of this seat, held against the program by computation. MADE BY A PROGRAM OF THIS CLAIM.
-/
import Derived.Test.YtabembjmeobhoaaGreatKCE
import Derived.Test.YtabembjmeobhoaaGreatProg
import Derived.KernelRfl
set_option linter.unusedVariables false
set_option linter.unusedSimpArgs false
namespace Go.Proofs.YtabembjmeobhoaaGreat
open Go.Eng
set_option maxRecDepth 100000
def Z0:TI:=⟨.other,1,8,[.d (.val .nilFunc)]⟩
def ZV:TI:=⟨.int .i64,1,8,[.d (.val (.int .i64 0))]⟩
def aaz:TI:=⟨.int .i64,1,8,[.d (.val (.int .i64 0))]⟩
def aaS:TI:=⟨.bool,1,1,[.d (.val (.bool false))]⟩
def ZZ:TI:=⟨.int .u8,1,1,[.d (.val (.int .u8 0))]⟩
def aa0:TI:=⟨.str,1,16,[.d (.str [])]⟩
def Vv:TI:=⟨.str,1,16,[.d (.str [])]⟩
def V1:TI:=⟨.str,1,16,[.d (.str [])]⟩
def UB:TI:=⟨.ptr 302,1,8,[.d (.val (.pointer none))]⟩
def WS:TI:=⟨.slice 5,1,24,[.b6]⟩
def Vp:TI:=⟨.slice 126,1,24,[.b6]⟩
def U7:TI:=⟨.struct [(23,0,1)],1,24,[.b6]⟩
def Uv:TI:=⟨.slice 49,1,24,[.b6]⟩
def VN:TI:=⟨.slice 73,1,24,[.b6]⟩
def W9:TI:=⟨.struct [(29,0,1)],1,24,[.b6]⟩
def Uz:TI:=⟨.slice 34,1,24,[.b6]⟩
def VL:TI:=⟨.struct [(9,0,1),(32,1,1)],2,40,[.d (.str []),.b6]⟩
def V9:TI:=⟨.slice 37,1,24,[.b6]⟩
def UP:TI:=⟨.struct [(3,0,1),(3,1,1),(34,2,2),(35,4,1)],5,80,[.d (.val (.int .i64 0)),.d (.val (.int .i64 0)),.d (.str []),.b6,.b6]⟩
def Wp:TI:=⟨.slice 3,1,24,[.b6]⟩
def Vj:TI:=⟨.slice 41,1,24,[.b6]⟩
def Vq:TI:=⟨.struct [(3,0,1),(3,1,1),(37,2,5),(38,7,1),(34,8,2),(34,10,2),(39,12,1)],13,224,[.d (.val (.int .i64 0)),.d (.val (.int .i64 0)),.d (.val (.int .i64 0)),.d (.val (.int .i64 0)),.d (.str []),.b6,.b6,.b6,.d (.str []),.b6,.d (.str []),.b6,.b6]⟩
def WL:TI:=⟨.struct [(3,0,1),(3,1,1),(37,2,5),(38,7,1),(34,8,2),(34,10,2),(39,12,1)],13,224,[.d (.val (.int .i64 0)),.d (.val (.int .i64 0)),.d (.val (.int .i64 0)),.d (.val (.int .i64 0)),.d (.str []),.b6,.b6,.b6,.d (.str []),.b6,.d (.str []),.b6,.b6]⟩
def VW:TI:=⟨.struct [(3,0,1),(34,1,2),(34,3,2),(32,5,1),(38,6,1),(3,7,1),(4,8,1)],9,152,[.d (.val (.int .i64 0)),.d (.str []),.b6,.d (.str []),.b6,.b6,.b6,.d (.val (.int .i64 0)),.d (.val (.bool false))]⟩
def Vm:TI:=⟨.struct [(47,0,9),(4,9,1)],10,160,[.d (.val (.int .i64 0)),.d (.str []),.b6,.d (.str []),.b6,.b6,.b6,.d (.val (.int .i64 0)),.d (.val (.bool false)),.d (.val (.bool false))]⟩
def WC:TI:=⟨.ptr 59,1,8,[.d (.val (.pointer none))]⟩
def Vt:TI:=⟨.struct [(25,0,1),(32,1,1),(32,2,1)],3,72,[.b6,.b6,.b6]⟩
def Va:TI:=⟨.struct [(25,0,1),(32,1,1)],2,48,[.b6,.b6]⟩
def WV:TI:=⟨.other,1,8,[.d (.val .nilFunc)]⟩
def Wu:TI:=⟨.slice 71,1,24,[.b6]⟩
def Xu:TI:=⟨.struct [(3,0,1),(3,1,1)],2,16,[.d (.val (.int .i64 0)),.d (.val (.int .i64 0))]⟩
def Xh:TI:=⟨.struct [(9,0,1),(69,1,1),(71,2,2)],4,56,[.d (.str []),.b6,.d (.val (.int .i64 0)),.d (.val (.int .i64 0))]⟩
def VT:TI:=⟨.other,1,8,[.d (.val .nilFunc)]⟩
def Ve:TI:=⟨.other,1,8,[.d (.val .nilFunc)]⟩
def We:TI:=⟨.slice 134,1,24,[.b6]⟩
def Xq:TI:=⟨.ptr 103,1,8,[.d (.val (.pointer none))]⟩
def Xa:TI:=⟨.slice 162,1,24,[.b6]⟩
def Rv:TI:=⟨.slice 220,1,24,[.b6]⟩
def Qo:TI:=⟨.struct [(32,0,1),(38,1,1),(101,2,1)],3,72,[.b6,.b6,.b6]⟩
def PZ:TI:=⟨.other,1,8,[.d (.val .nilFunc)]⟩
def Qn:TI:=⟨.struct [(32,0,1),(32,1,1),(90,2,1),(38,3,1)],4,96,[.b6,.b6,.b6,.b6]⟩
def QM:TI:=⟨.struct [(9,0,1),(38,1,1),(3,2,1)],3,48,[.d (.str []),.b6,.d (.val (.int .i64 0))]⟩
def Rg:TI:=⟨.struct [(34,0,2),(34,2,2)],4,80,[.d (.str []),.b6,.d (.str []),.b6]⟩
def Pr:TI:=⟨.struct [(22,0,1),(3,1,1)],2,32,[.b6,.d (.val (.int .i64 0))]⟩
def Py:TI:=⟨.slice 164,1,24,[.b6]⟩
def QY:TI:=⟨.arr 4 156,4,96,[.b6,.b6,.b6,.b6]⟩
def P9:TI:=⟨.struct [(38,0,1),(3,1,1),(4,2,1)],3,40,[.b6,.d (.val (.int .i64 0)),.d (.val (.bool false))]⟩
def PE:TI:=⟨.struct [(162,0,3),(38,3,1)],4,64,[.b6,.d (.val (.int .i64 0)),.d (.val (.bool false)),.b6]⟩
def Pv:TI:=⟨.slice 190,1,24,[.b6]⟩
def PC:TI:=⟨.slice 252,1,24,[.b6]⟩
def Px:TI:=⟨.slice 9,1,24,[.b6]⟩
def PR:TI:=⟨.struct [(3,0,1),(3,1,1),(3,2,1)],3,24,[.d (.val (.int .i64 0)),.d (.val (.int .i64 0)),.d (.val (.int .i64 0))]⟩
def QA:TI:=⟨.slice 233,1,24,[.b6]⟩
def Pp:TI:=⟨.struct [(3,0,1),(4,1,1)],2,16,[.d (.val (.int .i64 0)),.d (.val (.bool false))]⟩
def Q8:TI:=⟨.int .u64,1,8,[.d (.val (.int .u64 0))]⟩
def QL:TI:=⟨.struct [(162,0,3),(38,3,1)],4,64,[.b6,.d (.val (.int .i64 0)),.d (.val (.bool false)),.b6]⟩
def Pj:TI:=⟨.struct [(71,0,2),(71,2,2),(4,4,1),(4,5,1)],6,40,[.d (.val (.int .i64 0)),.d (.val (.int .i64 0)),.d (.val (.int .i64 0)),.d (.val (.int .i64 0)),.d (.val (.bool false)),.d (.val (.bool false))]⟩
def QU:TI:=⟨.other,1,8,[.d (.val (.map none))]⟩
def PH:TI:=⟨.other,1,8,[.d (.val (.map none))]⟩
def tis:List (Option TI):=[none,some Z0,some ZV,some aaz,some aaS,some ZZ,none,none,none,some aa0,some Vv,some V1,none,none,none,none,some UB,none,none,none,none,none,some WS,some Vp,none,some U7,some Uv,none,none,some VN,none,some W9,some Uz,none,some VL,some V9,none,some UP,some Wp,some Vj,some Vq,some WL,none,none,none,none,none,some VW,none,some Vm,none,none,none,none,none,some WC,none,none,none,some Vt,none,none,none,none,none,none,some Va,some WV,none,some Wu,none,some Xu,none,some Xh,none,none,none,none,none,none,none,none,none,none,none,none,some VT,some Ve,none,none,some We,none,some Xq,none,none,none,none,none,some Xa,none,none,some Rv,none,some Qo,none,some PZ,none,none,none,none,none,none,none,none,none,none,none,some Qn,none,none,none,none,none,none,none,none,some QM,none,none,none,none,none,none,none,some Rg,none,none,none,none,none,none,none,none,none,none,none,none,none,some Pr,none,none,none,none,none,none,none,some Py,none,some QY,none,none,none,some P9,none,some PE,none,none,none,none,none,none,none,none,none,none,none,none,none,none,none,none,none,none,none,none,none,none,none,none,some Pv,some PC,none,none,none,none,none,none,none,none,none,none,none,none,none,none,none,none,none,none,none,none,none,none,none,none,none,some Px,none,none,none,some PR,none,none,none,none,none,none,none,none,some QA,none,none,none,some Pp,none,some Q8,none,none,none,none,none,none,none,none,none,none,none,none,none,none,none,none,some QL,none,none,none,some Pj,none,none,none,none,none,none,none,none,none,none,none,none,none,none,none,none,some QU,some PH,none,none,none,none,none,none,none,none,none,none,none,none,none,none,none,none,none,none,none,none,none,none,none,none,none,none,none,none,none,none,none,none,none,none,none,none,none,none,none,none,none]
theorem aae:tH Tryz.prog 0 tis:=.Dp (by kernel_rfl) (by kernel_rfl)
noncomputable def E:Env:=⟨Tryz.prog,Q5 tis,aae.all⟩
theorem aaq:E.ti 1=some Z0:=rfl
theorem aal:E.ti 2=some ZV:=rfl
theorem aaV:E.ti 3=some aaz:=rfl
theorem aad:E.ti 4=some aaS:=rfl
theorem aaF:E.ti 5=some ZZ:=rfl
theorem aaW:E.ti 9=some aa0:=rfl
theorem XW:E.ti 10=some Vv:=rfl
theorem XX:E.ti 11=some V1:=rfl
theorem Yo:E.ti 16=some UB:=rfl
theorem X3:E.ti 22=some WS:=rfl
theorem YK:E.ti 23=some Vp:=rfl
theorem Ym:E.ti 25=some U7:=rfl
theorem Y5:E.ti 26=some Uv:=rfl
theorem Y0:E.ti 29=some VN:=rfl
theorem Yv:E.ti 31=some W9:=rfl
theorem Yp:E.ti 32=some Uz:=rfl
theorem Yl:E.ti 34=some VL:=rfl
theorem YV:E.ti 35=some V9:=rfl
theorem Y1:E.ti 37=some UP:=rfl
theorem Y2:E.ti 38=some Wp:=rfl
theorem Zc:E.ti 39=some Vj:=rfl
theorem X1:E.ti 40=some Vq:=rfl
theorem Yy:E.ti 41=some WL:=rfl
theorem XI:E.ti 47=some VW:=rfl
theorem Yh:E.ti 49=some Vm:=rfl
theorem Yj:E.ti 55=some WC:=rfl
theorem Yn:E.ti 59=some Vt:=rfl
theorem X6:E.ti 66=some Va:=rfl
theorem Y6:E.ti 67=some WV:=rfl
theorem Zg:E.ti 69=some Wu:=rfl
theorem YP:E.ti 71=some Xu:=rfl
theorem YH:E.ti 73=some Xh:=rfl
theorem Yx:E.ti 86=some VT:=rfl
theorem X4:E.ti 87=some Ve:=rfl
theorem YC:E.ti 90=some We:=rfl
theorem Zk:E.ti 92=some Xq:=rfl
theorem Zd:E.ti 98=some Xa:=rfl
theorem Vd:E.ti 101=some Rv:=rfl
theorem Xw:E.ti 103=some Qo:=rfl
theorem Un:E.ti 105=some PZ:=rfl
theorem VB:E.ti 117=some Qn:=rfl
theorem Xi:E.ti 126=some QM:=rfl
theorem UR:E.ti 134=some Rg:=rfl
theorem Xx:E.ti 148=some Pr:=rfl
theorem U4:E.ti 156=some Py:=rfl
theorem WE:E.ti 158=some QY:=rfl
theorem Uq:E.ti 162=some P9:=rfl
theorem Vh:E.ti 164=some PE:=rfl
theorem Xt:E.ti 189=some Pv:=rfl
theorem Xf:E.ti 190=some PC:=rfl
theorem Wv:E.ti 216=some Px:=rfl
theorem WI:E.ti 220=some PR:=rfl
theorem WB:E.ti 229=some QA:=rfl
theorem UF:E.ti 233=some Pp:=rfl
theorem VP:E.ti 235=some Q8:=rfl
theorem V3:E.ti 252=some QL:=rfl
theorem Um:E.ti 256=some Pj:=rfl
theorem VO:E.ti 273=some QU:=rfl
theorem Vb:E.ti 274=some PH:=rfl
attribute [go_sem] aaq Z0 aal ZV aaV aaz aad aaS aaF ZZ aaW aa0 XW Vv XX V1 Yo UB X3 WS YK Vp Ym U7 Y5 Uv Y0 VN Yv W9 Yp Uz Yl VL YV V9 Y1 UP Y2 Wp
attribute [go_sem] Zc Vj X1 Vq Yy WL XI VW Yh Vm Yj WC Yn Vt X6 Va Y6 WV Zg Wu YP Xu YH Xh Yx VT X4 Ve YC We Zk Xq Zd Xa Vd Rv Xw Qo Un PZ
attribute [go_sem] VB Qn Xi QM UR Rg Xx Pr U4 Py WE QY Uq P9 Vh PE Xt Pv Xf PC Wv Px WI PR WB QA UF Pp VP Q8 V3 QL Um Pj VO QU Vb PH
theorem hm:E.P.follows .mixedOrders=true:=by kernel_rfl
theorem E_P:E.P=Tryz.prog:=rfl
end Go.Proofs.YtabembjmeobhoaaGreat
