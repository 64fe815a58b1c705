/-
  The table of the types of this seat, held against the program by computation. MADE BY A PROGRAM OF THIS CLAIM.
-/
import Derived.Test.YtpidddienjoleaaGreatKDB
import Derived.Test.YtpidddienjoleaaGreatKDD
import Derived.Test.YtpidddienjoleaaGreatKDE
import Derived.Test.YtpidddienjoleaaGreatProg
import Derived.KernelRfl
set_option linter.unusedVariables false
set_option linter.unusedSimpArgs false
namespace Go.Proofs.YtpidddienjoleaaGreat
open Go.Eng
set_option maxRecDepth 100000
def QH:TI:=⟨.other,1,8,[.d (.val .nilFunc)]⟩
def QN:TI:=⟨.int .i64,1,8,[.d (.val (.int .i64 0))]⟩
def Qn:TI:=⟨.int .i64,1,8,[.d (.val (.int .i64 0))]⟩
def Qs:TI:=⟨.bool,1,1,[.d (.val (.bool false))]⟩
def Rj:TI:=⟨.int .u8,1,1,[.d (.val (.int .u8 0))]⟩
def QB:TI:=⟨.str,1,16,[.d (.str [])]⟩
def KV:TI:=⟨.str,1,16,[.d (.str [])]⟩
def KW:TI:=⟨.str,1,16,[.d (.str [])]⟩
def LQ:TI:=⟨.ptr 349,1,8,[.d (.val (.pointer none))]⟩
def LY:TI:=⟨.slice 5,1,24,[.aK]⟩
def Nx:TI:=⟨.slice 117,1,24,[.aK]⟩
def Md:TI:=⟨.struct [(23,0,1)],1,24,[.aK]⟩
def NB:TI:=⟨.slice 48,1,24,[.aK]⟩
def L5:TI:=⟨.slice 167,1,24,[.aK]⟩
def Ny:TI:=⟨.struct [(30,0,1)],1,24,[.aK]⟩
def M6:TI:=⟨.slice 35,1,24,[.aK]⟩
def LL:TI:=⟨.struct [(9,0,1),(33,1,1)],2,40,[.d (.str []),.aK]⟩
def KZ:TI:=⟨.slice 38,1,24,[.aK]⟩
def K2:TI:=⟨.struct [(3,0,1),(3,1,1),(35,2,2),(36,4,1)],5,80,[.d (.val (.int .i64 0)),.d (.val (.int .i64 0)),.d (.str []),.aK,.aK]⟩
def Li:TI:=⟨.slice 3,1,24,[.aK]⟩
def MJ:TI:=⟨.slice 42,1,24,[.aK]⟩
def MY:TI:=⟨.struct [(3,0,1),(3,1,1),(38,2,5),(39,7,1),(35,8,2),(35,10,2),(40,12,1)],13,224,[.d (.val (.int .i64 0)),.d (.val (.int .i64 0)),.d (.val (.int .i64 0)),.d (.val (.int .i64 0)),.d (.str []),.aK,.aK,.aK,.d (.str []),.aK,.d (.str []),.aK,.aK]⟩
def ML:TI:=⟨.struct [(3,0,1),(35,1,2),(35,3,2),(33,5,1),(39,6,1),(3,7,1),(4,8,1)],9,152,[.d (.val (.int .i64 0)),.d (.str []),.aK,.d (.str []),.aK,.aK,.aK,.d (.val (.int .i64 0)),.d (.val (.bool false))]⟩
def ME:TI:=⟨.struct [(46,0,9),(4,9,1)],10,160,[.d (.val (.int .i64 0)),.d (.str []),.aK,.d (.str []),.aK,.aK,.aK,.d (.val (.int .i64 0)),.d (.val (.bool false)),.d (.val (.bool false))]⟩
def MX:TI:=⟨.slice 55,1,24,[.aK]⟩
def L1:TI:=⟨.struct [(35,0,2),(35,2,2)],4,80,[.d (.str []),.aK,.d (.str []),.aK]⟩
def My:TI:=⟨.struct [(3,0,1),(3,1,1)],2,16,[.d (.val (.int .i64 0)),.d (.val (.int .i64 0))]⟩
def Mc:TI:=⟨.slice 66,1,24,[.aK]⟩
def LZ:TI:=⟨.struct [(39,0,1),(3,1,1),(4,2,1)],3,40,[.aK,.d (.val (.int .i64 0)),.d (.val (.bool false))]⟩
def Mg:TI:=⟨.slice 57,1,24,[.aK]⟩
def LP:TI:=⟨.slice 112,1,24,[.aK]⟩
def Mb:TI:=⟨.ptr 87,1,8,[.d (.val (.pointer none))]⟩
def LD:TI:=⟨.struct [(25,0,1),(33,1,1),(33,2,1)],3,72,[.aK,.aK,.aK]⟩
def MM:TI:=⟨.struct [(25,0,1),(33,1,1),(33,2,1)],3,72,[.aK,.aK,.aK]⟩
def Nz:TI:=⟨.ptr 150,1,8,[.d (.val (.pointer none))]⟩
def Hy:TI:=⟨.struct [(3,0,1),(48,1,10),(79,11,1)],12,192,[.d (.val (.int .i64 0)),.d (.val (.int .i64 0)),.d (.str []),.aK,.d (.str []),.aK,.aK,.aK,.d (.val (.int .i64 0)),.d (.val (.bool false)),.d (.val (.bool false)),.aK]⟩
def F0:TI:=⟨.struct [(9,0,1),(39,1,1),(3,2,1)],3,48,[.d (.str []),.aK,.d (.val (.int .i64 0))]⟩
def GY:TI:=⟨.slice 273,1,24,[.aK]⟩
def Gn:TI:=⟨.struct [(33,0,1),(39,1,1),(148,2,1)],3,72,[.aK,.aK,.aK]⟩
def FZ:TI:=⟨.other,1,8,[.d (.val .nilFunc)]⟩
def GD:TI:=⟨.struct [(9,0,1),(67,1,1),(57,2,2)],4,56,[.d (.str []),.aK,.d (.val (.int .i64 0)),.d (.val (.int .i64 0))]⟩
def GO:TI:=⟨.struct [(22,0,1),(3,1,1)],2,32,[.aK,.d (.val (.int .i64 0))]⟩
def HN:TI:=⟨.slice 225,1,24,[.aK]⟩
def Gy:TI:=⟨.arr 4 219,4,96,[.aK,.aK,.aK,.aK]⟩
def F9:TI:=⟨.struct [(66,0,3),(39,3,1)],4,64,[.aK,.d (.val (.int .i64 0)),.d (.val (.bool false)),.aK]⟩
def GP:TI:=⟨.slice 9,1,24,[.aK]⟩
def HG:TI:=⟨.int .u64,1,8,[.d (.val (.int .u64 0))]⟩
def F7:TI:=⟨.struct [(3,0,1),(3,1,1),(3,2,1)],3,24,[.d (.val (.int .i64 0)),.d (.val (.int .i64 0)),.d (.val (.int .i64 0))]⟩
def HI:TI:=⟨.slice 283,1,24,[.aK]⟩
def G9:TI:=⟨.struct [(3,0,1),(4,1,1)],2,16,[.d (.val (.int .i64 0)),.d (.val (.bool false))]⟩
def G7:TI:=⟨.other,1,8,[.d (.val (.map none))]⟩
def HH:TI:=⟨.other,1,8,[.d (.val (.map none))]⟩
def Td:List (Option TI):=[none,some QH,some QN,some Qn,some Qs,some Rj,none,none,none,some QB,some KV,some KW,none,none,none,none,some LQ,none,none,none,none,none,some LY,some Nx,none,some Md,some NB,none,none,none,some L5,none,some Ny,some M6,none,some LL,some KZ,none,some K2,some Li,some MJ,none,some MY,none,none,none,some ML,none,some ME,none,none,some MX,none,none,none,some L1,none,some My,none,none,none,some Mc,none,none,none,none,some LZ,some Mg,none,none,none,none,none,none,none,none,none,none,none,some LP,none,none,none,none,none,some Mb,some LD,some MM,none,none,none,none,none,none,none,none,none,none,some Nz,none,none,none,none,none,none,none,none,none,none,none,none,none,some Hy,none,none,none,none,some F0,none,none,none,none,none,none,none,none,none,none,none,none,none,none,none,none,none,none,none,none,none,none,none,none,none,none,none,none,none,none,some GY,none,some Gn,none,some FZ,none,none,none,none,none,none,none,none,none,none,none,none,none,none,some GD,none,none,none,none,none,none,none,none,none,none,none,none,none,none,none,none,none,none,none,none,none,none,none,none,none,none,none,none,none,none,none,none,none,none,none,none,none,none,none,none,none,none,none,none,none,some GO,none,none,none,none,none,some HN,none,some Gy,none,none,none,some F9,none,none,none,none,none,none,none,none,none,some GP,none,some HG,none,none,none,none,none,none,none,none,none,none,none,none,none,none,none,none,none,none,none,none,none,none,none,none,none,none,none,none,none,none,none,none,none,none,none,some F7,none,none,none,none,none,some HI,none,none,none,some G9,none,none,none,none,none,none,none,none,none,none,none,none,none,none,none,none,none,none,none,none,none,none,none,none,none,none,some G7,some HH,none,none,none,none,none,none,none,none,none,none,none,none,none,none,none,none,none,none,none,none,none,none,none,none,none,none,none,none,none,none,none,none,none,none,none,none,none,none,none,none,none,none,none,none,none,none,none,none]
theorem Qx:lS Tryz.prog 0 Td:=.vi (by kernel_rfl) (by kernel_rfl)
noncomputable def E:Env:=⟨Tryz.prog,Gl Td,Qx.all⟩
theorem P8:E.ti 1=some QH:=rfl
theorem QW:E.ti 2=some QN:=rfl
theorem Qv:E.ti 3=some Qn:=rfl
theorem QK:E.ti 4=some Qs:=rfl
theorem Qu:E.ti 5=some Rj:=rfl
theorem P6:E.ti 9=some QB:=rfl
theorem Ob:E.ti 10=some KV:=rfl
theorem OV:E.ti 11=some KW:=rfl
theorem OL:E.ti 16=some LQ:=rfl
theorem Pc:E.ti 22=some LY:=rfl
theorem Pg:E.ti 23=some Nx:=rfl
theorem Pq:E.ti 25=some Md:=rfl
theorem Oq:E.ti 26=some NB:=rfl
theorem O5:E.ti 30=some L5:=rfl
theorem OE:E.ti 32=some Ny:=rfl
theorem O6:E.ti 33=some M6:=rfl
theorem Pj:E.ti 35=some LL:=rfl
theorem OW:E.ti 36=some KZ:=rfl
theorem Oc:E.ti 38=some K2:=rfl
theorem OO:E.ti 39=some Li:=rfl
theorem OS:E.ti 40=some MJ:=rfl
theorem NV:E.ti 42=some MY:=rfl
theorem PB:E.ti 46=some ML:=rfl
theorem Pm:E.ti 48=some ME:=rfl
theorem Ol:E.ti 51=some MX:=rfl
theorem N0:E.ti 55=some L1:=rfl
theorem O9:E.ti 57=some My:=rfl
theorem OP:E.ti 61=some Mc:=rfl
theorem Oo:E.ti 66=some LZ:=rfl
theorem Oh:E.ti 67=some Mg:=rfl
theorem Ot:E.ti 79=some LP:=rfl
theorem OB:E.ti 85=some Mb:=rfl
theorem PG:E.ti 86=some LD:=rfl
theorem PA:E.ti 87=some MM:=rfl
theorem Og:E.ti 98=some Nz:=rfl
theorem M9:E.ti 112=some Hy:=rfl
theorem LX:E.ti 117=some F0:=rfl
theorem L3:E.ti 148=some GY:=rfl
theorem Nn:E.ti 150=some Gn:=rfl
theorem Mf:E.ti 152=some FZ:=rfl
theorem KH:E.ti 167=some GD:=rfl
theorem MB:E.ti 213=some GO:=rfl
theorem MR:E.ti 219=some HN:=rfl
theorem Nw:E.ti 221=some Gy:=rfl
theorem Lv:E.ti 225=some F9:=rfl
theorem ND:E.ti 235=some GP:=rfl
theorem NO:E.ti 237=some HG:=rfl
theorem Ll:E.ti 273=some F7:=rfl
theorem KT:E.ti 279=some HI:=rfl
theorem NL:E.ti 283=some G9:=rfl
theorem LV:E.ti 310=some G7:=rfl
theorem Mr:E.ti 311=some HH:=rfl
attribute [go_sem] P8 QH QW QN Qv Qn QK Qs Qu Rj P6 QB Ob KV OV KW OL LQ Pc LY Pg Nx Pq Md Oq NB O5 L5 OE Ny O6 M6 Pj LL OW KZ Oc K2 OO Li
attribute [go_sem] OS MJ NV MY PB ML Pm ME Ol MX N0 L1 O9 My OP Mc Oo LZ Oh Mg Ot LP OB Mb PG LD PA MM Og Nz M9 Hy LX F0 L3 GY Nn Gn Mf FZ
attribute [go_sem] KH GD MB GO MR HN Nw Gy Lv F9 ND GP NO HG Ll F7 KT HI NL G9 LV G7 Mr HH
theorem hm:E.P.follows .mixedOrders=true:=by kernel_rfl
theorem SI:E.P=Tryz.prog:=rfl
end Go.Proofs.YtpidddienjoleaaGreat
