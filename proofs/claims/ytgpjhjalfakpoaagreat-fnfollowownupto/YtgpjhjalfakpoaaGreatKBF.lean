/-
  The table of the types of this seat, held against the program by computation. MADE BY A PROGRAM OF THIS CLAIM.
-/
import Derived.Test.YtgpjhjalfakpoaaGreatKBE
import Derived.Test.YtgpjhjalfakpoaaGreatProg
import Derived.KernelRfl
set_option linter.unusedVariables false
set_option linter.unusedSimpArgs false
namespace Go.Proofs.YtgpjhjalfakpoaaGreat
open Go.Eng
set_option maxRecDepth 100000
def Mq:TI:=⟨.other,1,8,[.d (.val .nilFunc)]⟩
def Nb:TI:=⟨.int .i64,1,8,[.d (.val (.int .i64 0))]⟩
def M7:TI:=⟨.int .i64,1,8,[.d (.val (.int .i64 0))]⟩
def Ni:TI:=⟨.bool,1,1,[.d (.val (.bool false))]⟩
def Mr:TI:=⟨.int .u8,1,1,[.d (.val (.int .u8 0))]⟩
def MO:TI:=⟨.str,1,16,[.d (.str [])]⟩
def Iv:TI:=⟨.str,1,16,[.d (.str [])]⟩
def Jv:TI:=⟨.str,1,16,[.d (.str [])]⟩
def Hn:TI:=⟨.int .u64,1,8,[.d (.val (.int .u64 0))]⟩
def HF:TI:=⟨.ptr 325,1,8,[.d (.val (.pointer none))]⟩
def Il:TI:=⟨.slice 5,1,24,[.aV]⟩
def Js:TI:=⟨.slice 129,1,24,[.aV]⟩
def HG:TI:=⟨.struct [(23,0,1)],1,24,[.aV]⟩
def JQ:TI:=⟨.slice 28,1,24,[.aV]⟩
def JF:TI:=⟨.struct [(9,0,1),(26,1,1)],2,40,[.d (.str []),.aV]⟩
def Jc:TI:=⟨.slice 3,1,24,[.aV]⟩
def Je:TI:=⟨.struct [(3,0,1),(28,1,2),(28,3,2),(26,5,1),(29,6,1),(3,7,1),(4,8,1)],9,152,[.d (.val (.int .i64 0)),.d (.str []),.aV,.d (.str []),.aV,.aV,.aV,.d (.val (.int .i64 0)),.d (.val (.bool false))]⟩
def Jh:TI:=⟨.struct [(31,0,9),(4,9,1)],10,160,[.d (.val (.int .i64 0)),.d (.str []),.aV,.d (.str []),.aV,.aV,.aV,.d (.val (.int .i64 0)),.d (.val (.bool false)),.d (.val (.bool false))]⟩
def JB:TI:=⟨.slice 36,1,24,[.aV]⟩
def JE:TI:=⟨.struct [(3,0,1),(33,1,10),(34,11,1)],12,192,[.d (.val (.int .i64 0)),.d (.val (.int .i64 0)),.d (.str []),.aV,.d (.str []),.aV,.aV,.aV,.d (.val (.int .i64 0)),.d (.val (.bool false)),.d (.val (.bool false)),.aV]⟩
def Io:TI:=⟨.other,1,8,[.d (.val .nilFunc)]⟩
def Jg:TI:=⟨.slice 233,1,24,[.aV]⟩
def Jz:TI:=⟨.struct [(40,0,1)],1,24,[.aV]⟩
def IG:TI:=⟨.slice 83,1,24,[.aV]⟩
def JX:TI:=⟨.slice 29,1,24,[.aV]⟩
def Jt:TI:=⟨.struct [(43,0,1),(44,1,1)],2,48,[.aV,.aV]⟩
def Ii:TI:=⟨.slice 33,1,24,[.aV]⟩
def HO:TI:=⟨.slice 31,1,24,[.aV]⟩
def Jy:TI:=⟨.struct [(3,0,1),(44,1,1)],2,32,[.d (.val (.int .i64 0)),.aV]⟩
def Hy:TI:=⟨.struct [(3,0,1),(44,1,1)],2,32,[.d (.val (.int .i64 0)),.aV]⟩
def HP:TI:=⟨.slice 4,1,24,[.aV]⟩
def It:TI:=⟨.slice 75,1,24,[.aV]⟩
def Hr:TI:=⟨.struct [(3,0,1),(3,1,1),(28,2,2),(73,4,1)],5,80,[.d (.val (.int .i64 0)),.d (.val (.int .i64 0)),.d (.str []),.aV,.aV]⟩
def Iq:TI:=⟨.slice 78,1,24,[.aV]⟩
def Jb:TI:=⟨.struct [(3,0,1),(3,1,1),(75,2,5),(29,7,1),(28,8,2),(28,10,2),(76,12,1)],13,224,[.d (.val (.int .i64 0)),.d (.val (.int .i64 0)),.d (.val (.int .i64 0)),.d (.val (.int .i64 0)),.d (.str []),.aV,.aV,.aV,.d (.str []),.aV,.d (.str []),.aV,.aV]⟩
def JH:TI:=⟨.struct [(29,0,1),(78,1,13)],14,248,[.aV,.d (.val (.int .i64 0)),.d (.val (.int .i64 0)),.d (.val (.int .i64 0)),.d (.val (.int .i64 0)),.d (.str []),.aV,.aV,.aV,.d (.str []),.aV,.d (.str []),.aV,.aV]⟩
def HQ:TI:=⟨.other,1,8,[.d (.val .nilFunc)]⟩
def JD:TI:=⟨.other,1,8,[.d (.val .nilFunc)]⟩
def H9:TI:=⟨.struct [(22,0,1),(3,1,1)],2,32,[.aV,.d (.val (.int .i64 0))]⟩
def DD:TI:=⟨.struct [(67,0,2),(62,2,1),(34,3,1)],4,80,[.d (.val (.int .i64 0)),.aV,.aV,.aV]⟩
def DE:TI:=⟨.struct [(67,0,2),(3,2,1),(44,3,1),(4,4,1)],5,72,[.d (.val (.int .i64 0)),.aV,.d (.val (.int .i64 0)),.aV,.d (.val (.bool false))]⟩
def Ej:TI:=⟨.struct [(9,0,1),(29,1,1),(3,2,1)],3,48,[.d (.str []),.aV,.d (.val (.int .i64 0))]⟩
def Dn:TI:=⟨.slice 9,1,24,[.aV]⟩
def DS:TI:=⟨.struct [(28,0,2),(28,2,2)],4,80,[.d (.str []),.aV,.d (.str []),.aV]⟩
def DR:TI:=⟨.slice 220,1,24,[.aV]⟩
def Ef:TI:=⟨.struct [(29,0,1),(3,1,1),(4,2,1)],3,40,[.aV,.d (.val (.int .i64 0)),.d (.val (.bool false))]⟩
def Dk:TI:=⟨.struct [(214,0,3),(29,3,1)],4,64,[.aV,.d (.val (.int .i64 0)),.d (.val (.bool false)),.aV]⟩
def DP:TI:=⟨.struct [(3,0,1),(3,1,1)],2,16,[.d (.val (.int .i64 0)),.d (.val (.int .i64 0))]⟩
def Eu:TI:=⟨.struct [(9,0,1),(166,1,1),(220,2,2)],4,56,[.d (.str []),.aV,.d (.val (.int .i64 0)),.d (.val (.int .i64 0))]⟩
def Dv:TI:=⟨.int .u64,1,8,[.d (.val (.int .u64 0))]⟩
def EF:TI:=⟨.struct [(3,0,1),(3,1,1),(3,2,1)],3,24,[.d (.val (.int .i64 0)),.d (.val (.int .i64 0)),.d (.val (.int .i64 0))]⟩
def DV:TI:=⟨.struct [(3,0,1),(4,1,1)],2,16,[.d (.val (.int .i64 0)),.d (.val (.bool false))]⟩
def EA:TI:=⟨.other,1,8,[.d (.val (.map none))]⟩
def D3:TI:=⟨.other,1,8,[.d (.val (.map none))]⟩
def Pr:List (Option TI):=[none,some Mq,some Nb,some M7,some Ni,some Mr,none,none,none,some MO,some Iv,some Jv,some Hn,none,none,none,some HF,none,none,none,none,none,some Il,some Js,none,some HG,some JQ,none,some JF,some Jc,none,some Je,none,some Jh,some JB,none,some JE,none,none,some Io,some Jg,none,some Jz,some IG,some JX,none,some Jt,none,none,none,none,none,none,none,none,none,none,none,none,none,some Ii,none,some HO,none,none,none,some Jy,some Hy,none,none,some HP,none,none,some It,none,some Hr,some Iq,none,some Jb,none,none,none,none,some JH,none,none,some HQ,some JD,none,none,none,none,none,none,none,some H9,none,none,none,none,none,none,none,none,none,none,none,none,none,some DD,none,none,none,none,none,none,some DE,none,none,none,none,none,none,none,none,none,none,none,none,some Ej,none,none,none,none,none,none,none,some Dn,none,none,some DS,none,none,none,none,none,none,none,none,none,none,none,none,none,none,none,none,none,none,none,none,none,none,none,none,none,some DR,none,none,none,none,none,none,none,none,none,none,none,none,none,none,none,none,none,none,none,none,none,none,none,none,none,none,none,none,none,none,none,none,none,none,none,none,none,none,none,none,none,none,none,none,none,none,none,some Ef,none,some Dk,none,none,none,some DP,none,none,none,none,none,none,none,none,none,none,none,none,some Eu,none,none,none,none,none,none,none,none,none,none,none,none,none,none,some Dv,none,some EF,none,none,none,none,none,none,none,none,none,none,none,none,none,none,some DV,none,none,none,none,none,none,none,none,none,none,none,none,none,none,none,none,none,none,none,none,none,none,none,none,none,none,none,none,none,none,none,none,none,none,none,none,none,some EA,some D3,none,none,none,none,none,none,none,none,none,none,none,none,none,none,none,none,none,none,none,none,none,none,none,none,none,none,none,none,none,none,none,none,none]
theorem Nv:mz Tryz.prog 0 Pr:=.tn (by kernel_rfl) (by kernel_rfl)
noncomputable def E:Env:=⟨Tryz.prog,Ey Pr,Nv.all⟩
theorem MJ:E.ti 1=some Mq:=rfl
theorem Ml:E.ti 2=some Nb:=rfl
theorem Nc:E.ti 3=some M7:=rfl
theorem Nq:E.ti 4=some Ni:=rfl
theorem Mn:E.ti 5=some Mr:=rfl
theorem NA:E.ti 9=some MO:=rfl
theorem LO:E.ti 10=some Iv:=rfl
theorem KN:E.ti 11=some Jv:=rfl
theorem KR:E.ti 12=some Hn:=rfl
theorem Lm:E.ti 16=some HF:=rfl
theorem Ks:E.ti 22=some Il:=rfl
theorem Lk:E.ti 23=some Js:=rfl
theorem KV:E.ti 25=some HG:=rfl
theorem Kg:E.ti 26=some JQ:=rfl
theorem LS:E.ti 28=some JF:=rfl
theorem Ll:E.ti 29=some Jc:=rfl
theorem LM:E.ti 31=some Je:=rfl
theorem Kx:E.ti 33=some Jh:=rfl
theorem KH:E.ti 34=some JB:=rfl
theorem LP:E.ti 36=some JE:=rfl
theorem KD:E.ti 39=some Io:=rfl
theorem LN:E.ti 40=some Jg:=rfl
theorem Lp:E.ti 42=some Jz:=rfl
theorem K6:E.ti 43=some IG:=rfl
theorem Kj:E.ti 44=some JX:=rfl
theorem K0:E.ti 46=some Jt:=rfl
theorem LR:E.ti 60=some Ii:=rfl
theorem K2:E.ti 62=some HO:=rfl
theorem Lt:E.ti 66=some Jy:=rfl
theorem K4:E.ti 67=some Hy:=rfl
theorem J9:E.ti 70=some HP:=rfl
theorem K3:E.ti 73=some It:=rfl
theorem KA:E.ti 75=some Hr:=rfl
theorem Ku:E.ti 76=some Iq:=rfl
theorem Lb:E.ti 78=some Jb:=rfl
theorem LK:E.ti 83=some JH:=rfl
theorem Kc:E.ti 86=some HQ:=rfl
theorem La:E.ti 87=some JD:=rfl
theorem Ke:E.ti 95=some H9:=rfl
theorem JU:E.ti 109=some DD:=rfl
theorem IW:E.ti 116=some DE:=rfl
theorem IK:E.ti 129=some Ej:=rfl
theorem JA:E.ti 137=some Dn:=rfl
theorem HN:E.ti 140=some DS:=rfl
theorem Iz:E.ti 166=some DR:=rfl
theorem IM:E.ti 214=some Ef:=rfl
theorem IY:E.ti 216=some Dk:=rfl
theorem Jm:E.ti 220=some DP:=rfl
theorem Hk:E.ti 233=some Eu:=rfl
theorem IQ:E.ti 248=some Dv:=rfl
theorem HC:E.ti 250=some EF:=rfl
theorem Ih:E.ti 265=some DV:=rfl
theorem JR:E.ti 303=some EA:=rfl
theorem I7:E.ti 304=some D3:=rfl
attribute [go_sem] MJ Mq Ml Nb Nc M7 Nq Ni Mn Mr NA MO LO Iv KN Jv KR Hn Lm HF Ks Il Lk Js KV HG Kg JQ LS JF Ll Jc LM Je Kx Jh KH JB LP JE
attribute [go_sem] KD Io LN Jg Lp Jz K6 IG Kj JX K0 Jt LR Ii K2 HO Lt Jy K4 Hy J9 HP K3 It KA Hr Ku Iq Lb Jb LK JH Kc HQ La JD Ke H9 JU DD
attribute [go_sem] IW DE IK Ej JA Dn HN DS Iz DR IM Ef IY Dk Jm DP Hk Eu IQ Dv HC EF Ih DV JR EA I7 D3
theorem hm:E.P.follows .mixedOrders=true:=by kernel_rfl
theorem PH:E.P=Tryz.prog:=rfl
end Go.Proofs.YtgpjhjalfakpoaaGreat
