/-
  The table of the types of this seat, held against the program by computation. MADE BY A PROGRAM OF THIS CLAIM.
-/
import Derived.Test.YtgpjhjalfakpoaaGreatKAE
import Derived.Test.YtgpjhjalfakpoaaGreatProg
import Derived.KernelRfl
set_option linter.unusedVariables false
set_option linter.unusedSimpArgs false
namespace Go.Proofs.YtgpjhjalfakpoaaGreat
open Go.Eng
set_option maxRecDepth 100000
def LP:TI:=⟨.int .i64,1,8,[.d (.val (.int .i64 0))]⟩
def Mq:TI:=⟨.bool,1,1,[.d (.val (.bool false))]⟩
def LF:TI:=⟨.int .u8,1,1,[.d (.val (.int .u8 0))]⟩
def LX:TI:=⟨.str,1,16,[.d (.str [])]⟩
def I6:TI:=⟨.int .u64,1,8,[.d (.val (.int .u64 0))]⟩
def IQ:TI:=⟨.ptr 325,1,8,[.d (.val (.pointer none))]⟩
def HO:TI:=⟨.slice 5,1,24,[.aY]⟩
def I5:TI:=⟨.slice 129,1,24,[.aY]⟩
def Ib:TI:=⟨.struct [(23,0,1)],1,24,[.aY]⟩
def IJ:TI:=⟨.slice 28,1,24,[.aY]⟩
def HI:TI:=⟨.struct [(9,0,1),(26,1,1)],2,40,[.d (.str []),.aY]⟩
def Jk:TI:=⟨.slice 3,1,24,[.aY]⟩
def Hz:TI:=⟨.struct [(3,0,1),(28,1,2),(28,3,2),(26,5,1),(29,6,1),(3,7,1),(4,8,1)],9,152,[.d (.val (.int .i64 0)),.d (.str []),.aY,.d (.str []),.aY,.aY,.aY,.d (.val (.int .i64 0)),.d (.val (.bool false))]⟩
def GY:TI:=⟨.struct [(31,0,9),(4,9,1)],10,160,[.d (.val (.int .i64 0)),.d (.str []),.aY,.d (.str []),.aY,.aY,.aY,.d (.val (.int .i64 0)),.d (.val (.bool false)),.d (.val (.bool false))]⟩
def IA:TI:=⟨.slice 36,1,24,[.aY]⟩
def HT:TI:=⟨.struct [(3,0,1),(33,1,10),(34,11,1)],12,192,[.d (.val (.int .i64 0)),.d (.val (.int .i64 0)),.d (.str []),.aY,.d (.str []),.aY,.aY,.aY,.d (.val (.int .i64 0)),.d (.val (.bool false)),.d (.val (.bool false)),.aY]⟩
def Io:TI:=⟨.other,1,8,[.d (.val .nilFunc)]⟩
def Hj:TI:=⟨.slice 233,1,24,[.aY]⟩
def Ix:TI:=⟨.struct [(40,0,1)],1,24,[.aY]⟩
def I9:TI:=⟨.slice 83,1,24,[.aY]⟩
def Jd:TI:=⟨.slice 29,1,24,[.aY]⟩
def GK:TI:=⟨.struct [(43,0,1),(44,1,1)],2,48,[.aY,.aY]⟩
def I4:TI:=⟨.slice 33,1,24,[.aY]⟩
def IL:TI:=⟨.slice 31,1,24,[.aY]⟩
def Jg:TI:=⟨.struct [(3,0,1),(44,1,1)],2,32,[.d (.val (.int .i64 0)),.aY]⟩
def IM:TI:=⟨.slice 4,1,24,[.aY]⟩
def ID:TI:=⟨.slice 75,1,24,[.aY]⟩
def H7:TI:=⟨.struct [(3,0,1),(3,1,1),(28,2,2),(73,4,1)],5,80,[.d (.val (.int .i64 0)),.d (.val (.int .i64 0)),.d (.str []),.aY,.aY]⟩
def HG:TI:=⟨.slice 78,1,24,[.aY]⟩
def Jh:TI:=⟨.struct [(3,0,1),(3,1,1),(75,2,5),(29,7,1),(28,8,2),(28,10,2),(76,12,1)],13,224,[.d (.val (.int .i64 0)),.d (.val (.int .i64 0)),.d (.val (.int .i64 0)),.d (.val (.int .i64 0)),.d (.str []),.aY,.aY,.aY,.d (.str []),.aY,.d (.str []),.aY,.aY]⟩
def HE:TI:=⟨.struct [(29,0,1),(78,1,13)],14,248,[.aY,.d (.val (.int .i64 0)),.d (.val (.int .i64 0)),.d (.val (.int .i64 0)),.d (.val (.int .i64 0)),.d (.str []),.aY,.aY,.aY,.d (.str []),.aY,.d (.str []),.aY,.aY]⟩
def Ik:TI:=⟨.struct [(22,0,1),(3,1,1)],2,32,[.aY,.d (.val (.int .i64 0))]⟩
def El:TI:=⟨.struct [(67,0,2),(62,2,1),(34,3,1)],4,80,[.d (.val (.int .i64 0)),.aY,.aY,.aY]⟩
def Da:TI:=⟨.struct [(67,0,2),(3,2,1),(44,3,1),(4,4,1)],5,72,[.d (.val (.int .i64 0)),.aY,.d (.val (.int .i64 0)),.aY,.d (.val (.bool false))]⟩
def Dh:TI:=⟨.struct [(9,0,1),(29,1,1),(3,2,1)],3,48,[.d (.str []),.aY,.d (.val (.int .i64 0))]⟩
def Ed:TI:=⟨.slice 9,1,24,[.aY]⟩
def DM:TI:=⟨.struct [(28,0,2),(28,2,2)],4,80,[.d (.str []),.aY,.d (.str []),.aY]⟩
def Ef:TI:=⟨.slice 220,1,24,[.aY]⟩
def C2:TI:=⟨.struct [(29,0,1),(3,1,1),(4,2,1)],3,40,[.aY,.d (.val (.int .i64 0)),.d (.val (.bool false))]⟩
def CY:TI:=⟨.struct [(3,0,1),(3,1,1)],2,16,[.d (.val (.int .i64 0)),.d (.val (.int .i64 0))]⟩
def D0:TI:=⟨.struct [(9,0,1),(166,1,1),(220,2,2)],4,56,[.d (.str []),.aY,.d (.val (.int .i64 0)),.d (.val (.int .i64 0))]⟩
def Eb:TI:=⟨.int .u64,1,8,[.d (.val (.int .u64 0))]⟩
def Oy:List (Option TI):=[none,none,none,some LP,some Mq,some LF,none,none,none,some LX,none,none,some I6,none,none,none,some IQ,none,none,none,none,none,some HO,some I5,none,some Ib,some IJ,none,some HI,some Jk,none,some Hz,none,some GY,some IA,none,some HT,none,none,some Io,some Hj,none,some Ix,some I9,some Jd,none,some GK,none,none,none,none,none,none,none,none,none,none,none,none,none,some I4,none,some IL,none,none,none,none,some Jg,none,none,some IM,none,none,some ID,none,some H7,some HG,none,some Jh,none,none,none,none,some HE,none,none,none,none,none,none,none,none,none,none,none,some Ik,none,none,none,none,none,none,none,none,none,none,none,none,none,some El,none,none,none,none,none,none,some Da,none,none,none,none,none,none,none,none,none,none,none,none,some Dh,none,none,none,none,none,none,none,some Ed,none,none,some DM,none,none,none,none,none,none,none,none,none,none,none,none,none,none,none,none,none,none,none,none,none,none,none,none,none,some Ef,none,none,none,none,none,none,none,none,none,none,none,none,none,none,none,none,none,none,none,none,none,none,none,none,none,none,none,none,none,none,none,none,none,none,none,none,none,none,none,none,none,none,none,none,none,none,none,some C2,none,none,none,none,none,some CY,none,none,none,none,none,none,none,none,none,none,none,none,some D0,none,none,none,none,none,none,none,none,none,none,none,none,none,none,some Eb,none,none,none,none,none,none,none,none,none,none,none,none,none,none,none,none,none,none,none,none,none,none,none,none,none,none,none,none,none,none,none,none,none,none,none,none,none,none,none,none,none,none,none,none,none,none,none,none,none,none,none,none,none,none,none,none,none,none,none,none,none,none,none,none,none,none,none,none,none,none,none,none,none,none,none,none,none,none,none,none,none,none,none,none,none,none,none,none,none]
theorem Mv:mb Tryz.prog 0 Oy:=.tt (by kernel_rfl) (by kernel_rfl)
noncomputable def E:Env:=⟨Tryz.prog,DI Oy,Mv.all⟩
theorem Lw:E.ti 3=some LP:=rfl
theorem Mn:E.ti 4=some Mq:=rfl
theorem MG:E.ti 5=some LF:=rfl
theorem Lz:E.ti 9=some LX:=rfl
theorem J2:E.ti 12=some I6:=rfl
theorem K2:E.ti 16=some IQ:=rfl
theorem JB:E.ti 22=some HO:=rfl
theorem KG:E.ti 23=some I5:=rfl
theorem KT:E.ti 25=some Ib:=rfl
theorem JZ:E.ti 26=some IJ:=rfl
theorem KF:E.ti 28=some HI:=rfl
theorem KN:E.ti 29=some Jk:=rfl
theorem JO:E.ti 31=some Hz:=rfl
theorem JW:E.ti 33=some GY:=rfl
theorem Kk:E.ti 34=some IA:=rfl
theorem KR:E.ti 36=some HT:=rfl
theorem Kq:E.ti 39=some Io:=rfl
theorem KD:E.ti 40=some Hj:=rfl
theorem Kx:E.ti 42=some Ix:=rfl
theorem K1:E.ti 43=some I9:=rfl
theorem JV:E.ti 44=some Jd:=rfl
theorem KU:E.ti 46=some GK:=rfl
theorem Kp:E.ti 60=some I4:=rfl
theorem Jw:E.ti 62=some IL:=rfl
theorem Ku:E.ti 67=some Jg:=rfl
theorem Kb:E.ti 70=some IM:=rfl
theorem Ki:E.ti 73=some ID:=rfl
theorem Jr:E.ti 75=some H7:=rfl
theorem Km:E.ti 76=some HG:=rfl
theorem JN:E.ti 78=some Jh:=rfl
theorem J8:E.ti 83=some HE:=rfl
theorem J9:E.ti 95=some Ik:=rfl
theorem Hp:E.ti 109=some El:=rfl
theorem IV:E.ti 116=some Da:=rfl
theorem Ig:E.ti 129=some Dh:=rfl
theorem Hn:E.ti 137=some Ed:=rfl
theorem HD:E.ti 140=some DM:=rfl
theorem Iz:E.ti 166=some Ef:=rfl
theorem H0:E.ti 214=some C2:=rfl
theorem GC:E.ti 220=some CY:=rfl
theorem G8:E.ti 233=some D0:=rfl
theorem Jc:E.ti 248=some Eb:=rfl
attribute [go_sem] Lw LP Mn Mq MG LF Lz LX J2 I6 K2 IQ JB HO KG I5 KT Ib JZ IJ KF HI KN Jk JO Hz JW GY Kk IA KR HT Kq Io KD Hj Kx Ix K1 I9
attribute [go_sem] JV Jd KU GK Kp I4 Jw IL Ku Jg Kb IM Ki ID Jr H7 Km HG JN Jh J8 HE J9 Ik Hp El IV Da Ig Dh Hn Ed HD DM Iz Ef H0 C2 GC CY
attribute [go_sem] G8 D0 Jc Eb
theorem hm:E.P.follows .mixedOrders=true:=by kernel_rfl
theorem OP:E.P=Tryz.prog:=rfl
end Go.Proofs.YtgpjhjalfakpoaaGreat
