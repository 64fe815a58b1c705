/-
  The table of the types of this seat, held against the program by computation. MADE BY A PROGRAM OF THIS CLAIM.
-/
import Derived.Test.YtpidddienjoleaaGreatKCB
import Derived.Test.YtpidddienjoleaaGreatKCD
import Derived.Test.YtpidddienjoleaaGreatKCE
import Derived.Test.YtpidddienjoleaaGreatProg
import Derived.KernelRfl
set_option linter.unusedVariables false
set_option linter.unusedSimpArgs false
namespace Go.Proofs.YtpidddienjoleaaGreat
open Go.Eng
set_option maxRecDepth 100000
def O9:TI:=⟨.other,1,8,[.d (.val .nilFunc)]⟩
def Ps:TI:=⟨.int .i64,1,8,[.d (.val (.int .i64 0))]⟩
def PB:TI:=⟨.int .i64,1,8,[.d (.val (.int .i64 0))]⟩
def PH:TI:=⟨.bool,1,1,[.d (.val (.bool false))]⟩
def OS:TI:=⟨.int .u8,1,1,[.d (.val (.int .u8 0))]⟩
def Pf:TI:=⟨.str,1,16,[.d (.str [])]⟩
def KV:TI:=⟨.str,1,16,[.d (.str [])]⟩
def JK:TI:=⟨.str,1,16,[.d (.str [])]⟩
def KG:TI:=⟨.ptr 349,1,8,[.d (.val (.pointer none))]⟩
def JI:TI:=⟨.slice 5,1,24,[.aJ]⟩
def Ku:TI:=⟨.slice 117,1,24,[.aJ]⟩
def KC:TI:=⟨.struct [(23,0,1)],1,24,[.aJ]⟩
def JX:TI:=⟨.slice 48,1,24,[.aJ]⟩
def JC:TI:=⟨.slice 167,1,24,[.aJ]⟩
def Kv:TI:=⟨.struct [(30,0,1)],1,24,[.aJ]⟩
def Mb:TI:=⟨.slice 35,1,24,[.aJ]⟩
def Ka:TI:=⟨.struct [(9,0,1),(33,1,1)],2,40,[.d (.str []),.aJ]⟩
def La:TI:=⟨.slice 38,1,24,[.aJ]⟩
def K0:TI:=⟨.struct [(3,0,1),(3,1,1),(35,2,2),(36,4,1)],5,80,[.d (.val (.int .i64 0)),.d (.val (.int .i64 0)),.d (.str []),.aJ,.aJ]⟩
def KA:TI:=⟨.slice 3,1,24,[.aJ]⟩
def LN:TI:=⟨.slice 42,1,24,[.aJ]⟩
def KO:TI:=⟨.struct [(3,0,1),(3,1,1),(38,2,5),(39,7,1),(35,8,2),(35,10,2),(40,12,1)],13,224,[.d (.val (.int .i64 0)),.d (.val (.int .i64 0)),.d (.val (.int .i64 0)),.d (.val (.int .i64 0)),.d (.str []),.aJ,.aJ,.aJ,.d (.str []),.aJ,.d (.str []),.aJ,.aJ]⟩
def L6:TI:=⟨.struct [(3,0,1),(35,1,2),(35,3,2),(33,5,1),(39,6,1),(3,7,1),(4,8,1)],9,152,[.d (.val (.int .i64 0)),.d (.str []),.aJ,.d (.str []),.aJ,.aJ,.aJ,.d (.val (.int .i64 0)),.d (.val (.bool false))]⟩
def L7:TI:=⟨.struct [(46,0,9),(4,9,1)],10,160,[.d (.val (.int .i64 0)),.d (.str []),.aJ,.d (.str []),.aJ,.aJ,.aJ,.d (.val (.int .i64 0)),.d (.val (.bool false)),.d (.val (.bool false))]⟩
def Jy:TI:=⟨.slice 55,1,24,[.aJ]⟩
def JB:TI:=⟨.struct [(35,0,2),(35,2,2)],4,80,[.d (.str []),.aJ,.d (.str []),.aJ]⟩
def KF:TI:=⟨.struct [(3,0,1),(3,1,1)],2,16,[.d (.val (.int .i64 0)),.d (.val (.int .i64 0))]⟩
def KZ:TI:=⟨.slice 66,1,24,[.aJ]⟩
def KQ:TI:=⟨.struct [(39,0,1),(3,1,1),(4,2,1)],3,40,[.aJ,.d (.val (.int .i64 0)),.d (.val (.bool false))]⟩
def KW:TI:=⟨.slice 57,1,24,[.aJ]⟩
def Lc:TI:=⟨.slice 112,1,24,[.aJ]⟩
def Kd:TI:=⟨.ptr 87,1,8,[.d (.val (.pointer none))]⟩
def Mu:TI:=⟨.struct [(25,0,1),(33,1,1),(33,2,1)],3,72,[.aJ,.aJ,.aJ]⟩
def Kf:TI:=⟨.struct [(25,0,1),(33,1,1),(33,2,1)],3,72,[.aJ,.aJ,.aJ]⟩
def Ki:TI:=⟨.ptr 150,1,8,[.d (.val (.pointer none))]⟩
def Gq:TI:=⟨.struct [(3,0,1),(48,1,10),(79,11,1)],12,192,[.d (.val (.int .i64 0)),.d (.val (.int .i64 0)),.d (.str []),.aJ,.d (.str []),.aJ,.aJ,.aJ,.d (.val (.int .i64 0)),.d (.val (.bool false)),.d (.val (.bool false)),.aJ]⟩
def Hc:TI:=⟨.struct [(9,0,1),(39,1,1),(3,2,1)],3,48,[.d (.str []),.aJ,.d (.val (.int .i64 0))]⟩
def Gl:TI:=⟨.slice 273,1,24,[.aJ]⟩
def FQ:TI:=⟨.struct [(33,0,1),(39,1,1),(148,2,1)],3,72,[.aJ,.aJ,.aJ]⟩
def Fv:TI:=⟨.other,1,8,[.d (.val .nilFunc)]⟩
def FG:TI:=⟨.struct [(9,0,1),(67,1,1),(57,2,2)],4,56,[.d (.str []),.aJ,.d (.val (.int .i64 0)),.d (.val (.int .i64 0))]⟩
def Fo:TI:=⟨.struct [(22,0,1),(3,1,1)],2,32,[.aJ,.d (.val (.int .i64 0))]⟩
def Gv:TI:=⟨.slice 225,1,24,[.aJ]⟩
def GC:TI:=⟨.arr 4 219,4,96,[.aJ,.aJ,.aJ,.aJ]⟩
def Gn:TI:=⟨.struct [(66,0,3),(39,3,1)],4,64,[.aJ,.d (.val (.int .i64 0)),.d (.val (.bool false)),.aJ]⟩
def Fl:TI:=⟨.slice 9,1,24,[.aJ]⟩
def GG:TI:=⟨.int .u64,1,8,[.d (.val (.int .u64 0))]⟩
def Fs:TI:=⟨.struct [(3,0,1),(3,1,1),(3,2,1)],3,24,[.d (.val (.int .i64 0)),.d (.val (.int .i64 0)),.d (.val (.int .i64 0))]⟩
def E4:TI:=⟨.slice 283,1,24,[.aJ]⟩
def GB:TI:=⟨.struct [(3,0,1),(4,1,1)],2,16,[.d (.val (.int .i64 0)),.d (.val (.bool false))]⟩
def GZ:TI:=⟨.other,1,8,[.d (.val (.map none))]⟩
def F8:TI:=⟨.other,1,8,[.d (.val (.map none))]⟩
def RC:List (Option TI):=[none,some O9,some Ps,some PB,some PH,some OS,none,none,none,some Pf,some KV,some JK,none,none,none,none,some KG,none,none,none,none,none,some JI,some Ku,none,some KC,some JX,none,none,none,some JC,none,some Kv,some Mb,none,some Ka,some La,none,some K0,some KA,some LN,none,some KO,none,none,none,some L6,none,some L7,none,none,some Jy,none,none,none,some JB,none,some KF,none,none,none,some KZ,none,none,none,none,some KQ,some KW,none,none,none,none,none,none,none,none,none,none,none,some Lc,none,none,none,none,none,some Kd,some Mu,some Kf,none,none,none,none,none,none,none,none,none,none,some Ki,none,none,none,none,none,none,none,none,none,none,none,none,none,some Gq,none,none,none,none,some Hc,none,none,none,none,none,none,none,none,none,none,none,none,none,none,none,none,none,none,none,none,none,none,none,none,none,none,none,none,none,none,some Gl,none,some FQ,none,some Fv,none,none,none,none,none,none,none,none,none,none,none,none,none,none,some FG,none,none,none,none,none,none,none,none,none,none,none,none,none,none,none,none,none,none,none,none,none,none,none,none,none,none,none,none,none,none,none,none,none,none,none,none,none,none,none,none,none,none,none,none,none,some Fo,none,none,none,none,none,some Gv,none,some GC,none,none,none,some Gn,none,none,none,none,none,none,none,none,none,some Fl,none,some GG,none,none,none,none,none,none,none,none,none,none,none,none,none,none,none,none,none,none,none,none,none,none,none,none,none,none,none,none,none,none,none,none,none,none,none,some Fs,none,none,none,none,none,some E4,none,none,none,some GB,none,none,none,none,none,none,none,none,none,none,none,none,none,none,none,none,none,none,none,none,none,none,none,none,none,none,some GZ,some F8,none,none,none,none,none,none,none,none,none,none,none,none,none,none,none,none,none,none,none,none,none,none,none,none,none,none,none,none,none,none,none,none,none,none,none,none,none,none,none,none,none,none,none,none,none,none,none,none]
theorem P3:kY Tryz.prog 0 RC:=.uu (by kernel_rfl) (by kernel_rfl)
noncomputable def E:Env:=⟨Tryz.prog,GU RC,P3.all⟩
theorem OJ:E.ti 1=some O9:=rfl
theorem Pt:E.ti 2=some Ps:=rfl
theorem PJ:E.ti 3=some PB:=rfl
theorem PG:E.ti 4=some PH:=rfl
theorem Pe:E.ti 5=some OS:=rfl
theorem Px:E.ti 9=some Pf:=rfl
theorem N4:E.ti 10=some KV:=rfl
theorem N7:E.ti 11=some JK:=rfl
theorem NY:E.ti 16=some KG:=rfl
theorem MY:E.ti 22=some JI:=rfl
theorem ND:E.ti 23=some Ku:=rfl
theorem Oc:E.ti 25=some KC:=rfl
theorem NR:E.ti 26=some JX:=rfl
theorem MV:E.ti 30=some JC:=rfl
theorem NO:E.ti 32=some Kv:=rfl
theorem Nh:E.ti 33=some Mb:=rfl
theorem NS:E.ti 35=some Ka:=rfl
theorem Nf:E.ti 36=some La:=rfl
theorem NA:E.ti 38=some K0:=rfl
theorem M7:E.ti 39=some KA:=rfl
theorem M1:E.ti 40=some LN:=rfl
theorem MN:E.ti 42=some KO:=rfl
theorem MI:E.ti 46=some L6:=rfl
theorem NN:E.ti 48=some L7:=rfl
theorem Ns:E.ti 51=some Jy:=rfl
theorem Nl:E.ti 55=some JB:=rfl
theorem Ny:E.ti 57=some KF:=rfl
theorem NL:E.ti 61=some KZ:=rfl
theorem NZ:E.ti 66=some KQ:=rfl
theorem Nr:E.ti 67=some KW:=rfl
theorem Nn:E.ti 79=some Lc:=rfl
theorem MW:E.ti 85=some Kd:=rfl
theorem M3:E.ti 86=some Mu:=rfl
theorem NB:E.ti 87=some Kf:=rfl
theorem MF:E.ti 98=some Ki:=rfl
theorem Lh:E.ti 112=some Gq:=rfl
theorem Kl:E.ti 117=some Hc:=rfl
theorem K4:E.ti 148=some Gl:=rfl
theorem Mq:E.ti 150=some FQ:=rfl
theorem JU:E.ti 152=some Fv:=rfl
theorem Lo:E.ti 167=some FG:=rfl
theorem J2:E.ti 213=some Fo:=rfl
theorem Mg:E.ti 219=some Gv:=rfl
theorem LK:E.ti 221=some GC:=rfl
theorem JF:E.ti 225=some Gn:=rfl
theorem J3:E.ti 235=some Fl:=rfl
theorem Km:E.ti 237=some GG:=rfl
theorem Ma:E.ti 273=some Fs:=rfl
theorem KR:E.ti 279=some E4:=rfl
theorem Kx:E.ti 283=some GB:=rfl
theorem JQ:E.ti 310=some GZ:=rfl
theorem Mr:E.ti 311=some F8:=rfl
attribute [go_sem] OJ O9 Pt Ps PJ PB PG PH Pe OS Px Pf N4 KV N7 JK NY KG MY JI ND Ku Oc KC NR JX MV JC NO Kv Nh Mb NS Ka Nf La NA K0 M7 KA
attribute [go_sem] M1 LN MN KO MI L6 NN L7 Ns Jy Nl JB Ny KF NL KZ NZ KQ Nr KW Nn Lc MW Kd M3 Mu NB Kf MF Ki Lh Gq Kl Hc K4 Gl Mq FQ JU Fv
attribute [go_sem] Lo FG J2 Fo Mg Gv LK GC JF Gn J3 Fl Km GG Ma Fs KR E4 Kx GB JQ GZ Mr F8
theorem hm:E.P.follows .mixedOrders=true:=by kernel_rfl
theorem Rj:E.P=Tryz.prog:=rfl
end Go.Proofs.YtpidddienjoleaaGreat
