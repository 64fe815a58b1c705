/-
  The data of the program as plain Lean types, and how they lie in memory, cell by cell. No program is walked here.
-/
import Derived.Test.YtpidddienjoleaaGreatKDD
set_option linter.unusedVariables false
set_option linter.unusedSimpArgs false
namespace Go.Mod
open Go.Eng
abbrev gR:=List UInt8
def aJ(ns:List Int):List (List D):=ns.map fun n=>[.val (.int .i64 n)]
def PJ(ns:List Bool):List (List D):=ns.map fun n=>[.val (.bool n)]
def fF(ns:List gR):List (List D):=ns.map fun n=>[.str n]
def Cq(ns:List (List Int)):List (List D):=ns.map fun n=>[.bx (aJ n)]
theorem Bs(ns:List Int):(aJ ns).length=ns.length:=by simp[aJ]
theorem uO{ns:List Int}{i:Nat}(h:i<ns.length):row (aJ ns) i=[.val (.int .i64 ns[i])]:=by simp[aJ,row,List.getD,List.getElem?_eq_getElem h]
theorem uC(ns:List Int):∀y∈aJ ns,y.length=1:=by
 intro y hy
 rw[show aJ ns=ns.map _ from rfl] at hy
 obtain⟨t,_,rfl⟩:=List.mem_map.1 hy
 rfl
theorem cm(ns ms:List Int):aJ ns++aJ ms=aJ (ns++ms):=by simp[aJ]
theorem mN:aJ []=[]:=rfl
theorem kW(n:Int)(ns:List Int):aJ (n::ns)=[.val (.int .i64 n)]::aJ ns:=rfl
theorem Kk(ns:List Bool):∀y∈PJ ns,y.length=1:=by
 intro y hy
 rw[show PJ ns=ns.map _ from rfl] at hy
 obtain⟨t,_,rfl⟩:=List.mem_map.1 hy
 rfl
theorem Bx(ns:List gR):(fF ns).length=ns.length:=by simp[fF]
theorem Bp{ns:List gR}{i:Nat}(h:i<ns.length):row (fF ns) i=[.str ns[i]]:=by simp[fF,row,List.getD,List.getElem?_eq_getElem h]
theorem JL(ns ms:List gR):fF ns++fF ms=fF (ns++ms):=by simp[fF]
theorem Kj:fF []=[]:=rfl
theorem Gv(ns:List (List Int)):∀y∈Cq ns,y.length=1:=by
 intro y hy
 rw[show Cq ns=ns.map _ from rfl] at hy
 obtain⟨t,_,rfl⟩:=List.mem_map.1 hy
 rfl
inductive Term where
 | mk(name:gR)(kids:List Term)
def Term.name:Term→gR
 | .mk x _=>x
def Term.kids:Term→List Term
 | .mk _ x=>x
theorem Term.ind{P:Term→Prop}(h:∀name kids,(∀k∈kids,P k)→P (.mk name kids)):∀t,P t:=by
 intro t
 refine Term.rec (motive_1:=P) (motive_2:=fun ks=>∀k∈ks,P k) (fun name kids ih=>h name kids ih) (by simp) (fun t ts h1 h2=>?_) t
 intro k hk
 rcases List.mem_cons.1 hk with rfl|hk
 ·exact h1
 ·exact h2 k hk
mutual
def R9:Term→List D
 | .mk name kids=>[.str name,.bx (aj kids)]
def aj:List Term→List (List D)
 | []=>[]
 | t::ts=>R9 t::aj ts
end
def cT(t:Term):List D:=[.str t.name,.bx (aj t.kids)]
theorem NW(t:Term):R9 t=cT t:=by cases t;rfl
theorem gf:∀(ts:List Term),aj ts=ts.map cT
 | []=>rfl
 | t::ts=>by simp[aj,NW,gf ts]
theorem kp(ns:List Term):(aj ns).length=ns.length:=by simp[gf]
theorem uN{ns:List Term}{i:Nat}(h:i<ns.length):row (aj ns) i=cT ns[i]:=by simp[gf,row,List.getD,List.getElem?_eq_getElem h]
theorem J3(ns:List Term):∀y∈aj ns,y.length=2:=by
 intro y hy
 rw[show aj ns=ns.map _ from gf ns] at hy
 obtain⟨t,_,rfl⟩:=List.mem_map.1 hy
 rfl
theorem HP(ns:List Term)(i:Nat):(aj ns).take i=aj (ns.take i):=by simp[gf]
theorem fq(ns ms:List Term):aj ns++aj ms=aj (ns++ms):=by simp[gf]
theorem fx:aj []=[]:=rfl
theorem bT(n:Term)(ns:List Term):aj (n::ns)=cT n::aj ns:=by simp[gf]
theorem n7{ns:List Term}{i:Nat}(h:i<ns.length):aj (ns.take i)++[cT ns[i]]=aj (ns.take (i+1)):=by
 have e:ns.take (i+1)=ns.take i++[ns[i]]:=by rw[List.take_add_one,List.getElem?_eq_getElem h];rfl
 rw[e,←fq,bT,fx]
mutual
def M7:Term→Term→Bool
 | .mk name1 kids1,.mk name2 kids2=>decide (name1=name2)&&rz kids1 kids2
def rz:List Term→List Term→Bool
 | [],[]=>true
 | x::xs,y::ys=>M7 x y&&rz xs ys
 | _,_=>false
end
mutual
theorem AJ:∀(a b:Term),M7 a b=true↔a=b
 | .mk name1 kids1,.mk name2 kids2=>by simp[M7,yf]
theorem yf:∀(a b:List Term),rz a b=true↔a=b
 | [],[]=>by simp[rz]
 | [],_::_=>by simp[rz]
 | _::_,[]=>by simp[rz]
 | x::xs,y::ys=>by simp[rz,AJ x y,yf xs ys]
end
instance:DecidableEq Term:=fun a b=>decidable_of_iff _ (AJ a b)
structure Sym where
 name:gR
 args:List Int
 sort:Int
 deriving DecidableEq
def oV(t:Sym):List D:=[.str t.name,.bx (aJ t.args),.val (.int .i64 t.sort)]
def cQ(l:List Sym):List (List D):=l.map oV
theorem DS(ns:List Sym):(cQ ns).length=ns.length:=by simp[cQ]
theorem vR{ns:List Sym}{i:Nat}(h:i<ns.length):row (cQ ns) i=oV ns[i]:=by simp[cQ,row,List.getD,List.getElem?_eq_getElem h]
theorem l6(ns ms:List Sym):cQ ns++cQ ms=cQ (ns++ms):=by simp[cQ]
structure bA where
 syms:List Sym
 deriving DecidableEq
def bF(t:bA):List D:=[.bx (cQ t.syms)]
structure Atom where
 kind:Int
 A:Term
 B:Term
 nums:List Term
 times:List Int
 bound:Int
 strict:Bool
 deriving DecidableEq
def gr(t:Atom):List D:=[.val (.int .i64 t.kind),.str t.A.name,.bx (aj t.A.kids),.str t.B.name,.bx (aj t.B.kids),.bx (aj t.nums),.bx (aJ t.times),.val (.int .i64 t.bound),.val (.bool t.strict)]
def Fv(l:List Atom):List (List D):=l.map gr
theorem DD(ns:List Atom):∀y∈Fv ns,y.length=9:=by
 intro y hy
 rw[show Fv ns=ns.map _ from rfl] at hy
 obtain⟨t,_,rfl⟩:=List.mem_map.1 hy
 rfl
structure aE where
 atom:Atom
 no:Bool
 deriving DecidableEq
def kh(t:aE):List D:=[.val (.int .i64 t.atom.kind),.str t.atom.A.name,.bx (aj t.atom.A.kids),.str t.atom.B.name,.bx (aj t.atom.B.kids),.bx (aj t.atom.nums),.bx (aJ t.atom.times),.val (.int .i64 t.atom.bound),.val (.bool t.atom.strict),.val (.bool t.no)]
def ay(l:List aE):List (List D):=l.map kh
theorem wm(ns:List aE):(ay ns).length=ns.length:=by simp[ay]
theorem Eo{ns:List aE}{i:Nat}(h:i<ns.length):row (ay ns) i=kh ns[i]:=by simp[ay,row,List.getD,List.getElem?_eq_getElem h]
theorem wo(ns:List aE):∀y∈ay ns,y.length=10:=by
 intro y hy
 rw[show ay ns=ns.map _ from rfl] at hy
 obtain⟨t,_,rfl⟩:=List.mem_map.1 hy
 rfl
theorem Fh(ns ms:List aE):ay ns++ay ms=ay (ns++ms):=by simp[ay]
theorem pd:ay []=[]:=rfl
theorem iy(n:aE)(ns:List aE):ay (n::ns)=kh n::ay ns:=rfl
inductive ja where
 | mk(ml:Int)(n:Int)(t:Term)(kids:List ja)
def ja.ml:ja→Int
 | .mk x _ _ _=>x
def ja.n:ja→Int
 | .mk _ x _ _=>x
def ja.t:ja→Term
 | .mk _ _ x _=>x
def ja.kids:ja→List ja
 | .mk _ _ _ x=>x
theorem ja.ind{P:ja→Prop}(h:∀ml n t kids,(∀k∈kids,P k)→P (.mk ml n t kids)):∀t,P t:=by
 intro t
 refine ja.rec (motive_1:=P) (motive_2:=fun ks=>∀k∈ks,P k) (fun ml n t kids ih=>h ml n t kids ih) (by simp) (fun t ts h1 h2=>?_) t
 intro k hk
 rcases List.mem_cons.1 hk with rfl|hk
 ·exact h1
 ·exact h2 k hk
mutual
def NF:ja→List D
 | .mk ml n t kids=>[.val (.int .i64 ml),.val (.int .i64 n),.str t.name,.bx (aj t.kids),.bx (dE kids)]
def dE:List ja→List (List D)
 | []=>[]
 | t::ts=>NF t::dE ts
end
def rP(t:ja):List D:=[.val (.int .i64 t.ml),.val (.int .i64 t.n),.str t.t.name,.bx (aj t.t.kids),.bx (dE t.kids)]
theorem J1(t:ja):NF t=rP t:=by cases t;rfl
theorem lU:∀(ts:List ja),dE ts=ts.map rP
 | []=>rfl
 | t::ts=>by simp[dE,J1,lU ts]
theorem FC(ns:List ja):(dE ns).length=ns.length:=by simp[lU]
theorem EN(ns ms:List ja):dE ns++dE ms=dE (ns++ms):=by simp[lU]
theorem jw:dE []=[]:=rfl
theorem km(n:ja)(ns:List ja):dE (n::ns)=rP n::dE ns:=by simp[lU]
mutual
def C9:ja→ja→Bool
 | .mk rule1 n1 t1 kids1,.mk rule2 n2 t2 kids2=>decide (rule1=rule2)&&decide (n1=n2)&&decide (t1=t2)&&k8 kids1 kids2
def k8:List ja→List ja→Bool
 | [],[]=>true
 | x::xs,y::ys=>C9 x y&&k8 xs ys
 | _,_=>false
end
mutual
theorem vx:∀(a b:ja),C9 a b=true↔a=b
 | .mk rule1 n1 t1 kids1,.mk rule2 n2 t2 kids2=>by simp[C9,s8,and_assoc]
theorem s8:∀(a b:List ja),k8 a b=true↔a=b
 | [],[]=>by simp[k8]
 | [],_::_=>by simp[k8]
 | _::_,[]=>by simp[k8]
 | x::xs,y::ys=>by simp[k8,vx x y,s8 xs ys]
end
instance:DecidableEq ja:=fun a b=>decidable_of_iff _ (vx a b)
inductive Case where
 | mk(kind:Int)(n:Int)(qR:ja)(times:List Int)(A:Term)(B:Term)(kids:List Case)
def Case.kind:Case→Int
 | .mk x _ _ _ _ _ _=>x
def Case.n:Case→Int
 | .mk _ x _ _ _ _ _=>x
def Case.qR:Case→ja
 | .mk _ _ x _ _ _ _=>x
def Case.times:Case→List Int
 | .mk _ _ _ x _ _ _=>x
def Case.A:Case→Term
 | .mk _ _ _ _ x _ _=>x
def Case.B:Case→Term
 | .mk _ _ _ _ _ x _=>x
def Case.kids:Case→List Case
 | .mk _ _ _ _ _ _ x=>x
theorem Case.ind{P:Case→Prop}(h:∀kind n qR times A B kids,(∀k∈kids,P k)→P (.mk kind n qR times A B kids)):∀t,P t:=by
 intro t
 refine Case.rec (motive_1:=P) (motive_2:=fun ks=>∀k∈ks,P k) (fun kind n qR times A B kids ih=>h kind n qR times A B kids ih) (by simp) (fun t ts h1 h2=>?_) t
 intro k hk
 rcases List.mem_cons.1 hk with rfl|hk
 ·exact h1
 ·exact h2 k hk
mutual
def Jg:Case→List D
 | .mk kind n qR times A B kids=>[.val (.int .i64 kind),.val (.int .i64 n),.val (.int .i64 qR.ml),.val (.int .i64 qR.n),.str qR.t.name,.bx (aj qR.t.kids),.bx (dE qR.kids),.bx (aJ times),.str A.name,.bx (aj A.kids),.str B.name,.bx (aj B.kids),.bx (dD kids)]
def dD:List Case→List (List D)
 | []=>[]
 | t::ts=>Jg t::dD ts
end
def tm(t:Case):List D:=[.val (.int .i64 t.kind),.val (.int .i64 t.n),.val (.int .i64 t.qR.ml),.val (.int .i64 t.qR.n),.str t.qR.t.name,.bx (aj t.qR.t.kids),.bx (dE t.qR.kids),.bx (aJ t.times),.str t.A.name,.bx (aj t.A.kids),.str t.B.name,.bx (aj t.B.kids),.bx (dD t.kids)]
theorem Hi(t:Case):Jg t=tm t:=by cases t;rfl
theorem kj:∀(ts:List Case),dD ts=ts.map tm
 | []=>rfl
 | t::ts=>by simp[dD,Hi,kj ts]
theorem B8(ns:List Case):(dD ns).length=ns.length:=by simp[kj]
theorem Cl(ns ms:List Case):dD ns++dD ms=dD (ns++ms):=by simp[kj]
theorem nw:dD []=[]:=rfl
theorem qS(n:Case)(ns:List Case):dD (n::ns)=tm n::dD ns:=by simp[kj]
mutual
def yZ:Case→Case→Bool
 | .mk kind1 n1 why1 times1 A1 B1 kids1,.mk kind2 n2 why2 times2 A2 B2 kids2=>decide (kind1=kind2)&&decide (n1=n2)&&decide (why1=why2)&&decide (times1=times2)&&decide (A1=A2)&&decide (B1=B2)&&iQ kids1 kids2
def iQ:List Case→List Case→Bool
 | [],[]=>true
 | x::xs,y::ys=>yZ x y&&iQ xs ys
 | _,_=>false
end
mutual
theorem sS:∀(a b:Case),yZ a b=true↔a=b
 | .mk kind1 n1 why1 times1 A1 B1 kids1,.mk kind2 n2 why2 times2 A2 B2 kids2=>by simp[yZ,qZ,and_assoc]
theorem qZ:∀(a b:List Case),iQ a b=true↔a=b
 | [],[]=>by simp[iQ]
 | [],_::_=>by simp[iQ]
 | _::_,[]=>by simp[iQ]
 | x::xs,y::ys=>by simp[iQ,sS x y,qZ xs ys]
end
instance:DecidableEq Case:=fun a b=>decidable_of_iff _ (sS a b)
inductive Form where
 | mk(kind:Int)(lit:aE)(kids:List Form)
def Form.kind:Form→Int
 | .mk x _ _=>x
def Form.lit:Form→aE
 | .mk _ x _=>x
def Form.kids:Form→List Form
 | .mk _ _ x=>x
theorem Form.ind{P:Form→Prop}(h:∀kind lit kids,(∀k∈kids,P k)→P (.mk kind lit kids)):∀t,P t:=by
 intro t
 refine Form.rec (motive_1:=P) (motive_2:=fun ks=>∀k∈ks,P k) (fun kind lit kids ih=>h kind lit kids ih) (by simp) (fun t ts h1 h2=>?_) t
 intro k hk
 rcases List.mem_cons.1 hk with rfl|hk
 ·exact h1
 ·exact h2 k hk
mutual
def IG:Form→List D
 | .mk kind lit kids=>[.val (.int .i64 kind),.val (.int .i64 lit.atom.kind),.str lit.atom.A.name,.bx (aj lit.atom.A.kids),.str lit.atom.B.name,.bx (aj lit.atom.B.kids),.bx (aj lit.atom.nums),.bx (aJ lit.atom.times),.val (.int .i64 lit.atom.bound),.val (.bool lit.atom.strict),.val (.bool lit.no),.bx (jy kids)]
def jy:List Form→List (List D)
 | []=>[]
 | t::ts=>IG t::jy ts
end
def LM(t:Form):List D:=[.val (.int .i64 t.kind),.val (.int .i64 t.lit.atom.kind),.str t.lit.atom.A.name,.bx (aj t.lit.atom.A.kids),.str t.lit.atom.B.name,.bx (aj t.lit.atom.B.kids),.bx (aj t.lit.atom.nums),.bx (aJ t.lit.atom.times),.val (.int .i64 t.lit.atom.bound),.val (.bool t.lit.atom.strict),.val (.bool t.lit.no),.bx (jy t.kids)]
theorem HV(t:Form):IG t=LM t:=by cases t;rfl
theorem tG:∀(ts:List Form),jy ts=ts.map LM
 | []=>rfl
 | t::ts=>by simp[jy,HV,tG ts]
theorem C8(ns:List Form):∀y∈jy ns,y.length=12:=by
 intro y hy
 rw[show jy ns=ns.map _ from tG ns] at hy
 obtain⟨t,_,rfl⟩:=List.mem_map.1 hy
 rfl
mutual
def yO:Form→Form→Bool
 | .mk kind1 lit1 kids1,.mk kind2 lit2 kids2=>decide (kind1=kind2)&&decide (lit1=lit2)&&iW kids1 kids2
def iW:List Form→List Form→Bool
 | [],[]=>true
 | x::xs,y::ys=>yO x y&&iW xs ys
 | _,_=>false
end
mutual
theorem sM:∀(a b:Form),yO a b=true↔a=b
 | .mk kind1 lit1 kids1,.mk kind2 lit2 kids2=>by simp[yO,qG,and_assoc]
theorem qG:∀(a b:List Form),iW a b=true↔a=b
 | [],[]=>by simp[iW]
 | [],_::_=>by simp[iW]
 | _::_,[]=>by simp[iW]
 | x::xs,y::ys=>by simp[iW,sM x y,qG xs ys]
end
instance:DecidableEq Form:=fun a b=>decidable_of_iff _ (sM a b)
def Q8(ns:List (List Form)):List (List D):=ns.map fun n=>[.bx (jy n)]
structure Rat where
 N:Int
 D:Int
 deriving DecidableEq
def dp(t:Rat):List D:=[.val (.int .i64 t.N),.val (.int .i64 t.D)]
def aM(l:List Rat):List (List D):=l.map dp
theorem wj(ns:List Rat):(aM ns).length=ns.length:=by simp[aM]
theorem vT{ns:List Rat}{i:Nat}(h:i<ns.length):row (aM ns) i=dp ns[i]:=by simp[aM,row,List.getD,List.getElem?_eq_getElem h]
theorem Fc(ns:List Rat):∀y∈aM ns,y.length=2:=by
 intro y hy
 rw[show aM ns=ns.map _ from rfl] at hy
 obtain⟨t,_,rfl⟩:=List.mem_map.1 hy
 rfl
theorem pS(ns ms:List Rat):aM ns++aM ms=aM (ns++ms):=by simp[aM]
theorem wv:aM []=[]:=rfl
theorem B5(n:Rat)(ns:List Rat):aM (n::ns)=dp n::aM ns:=rfl
structure Row where
 name:gR
 args:List Rat
 val:Rat
 deriving DecidableEq
def pG(t:Row):List D:=[.str t.name,.bx (aM t.args),.val (.int .i64 t.val.N),.val (.int .i64 t.val.D)]
def bm(l:List Row):List (List D):=l.map pG
theorem Fp(ns:List Row):(bm ns).length=ns.length:=by simp[bm]
theorem D4{ns:List Row}{i:Nat}(h:i<ns.length):row (bm ns) i=pG ns[i]:=by simp[bm,row,List.getD,List.getElem?_eq_getElem h]
theorem D0:bm []=[]:=rfl
structure Model where
 rows:List Row
 deriving DecidableEq
def eO(t:Model):List D:=[.bx (bm t.rows)]
structure eQ where
 an:List Int
 bound:Int
 strict:Bool
 deriving DecidableEq
def cX(t:eQ):List D:=[.bx (aJ t.an),.val (.int .i64 t.bound),.val (.bool t.strict)]
def bh(l:List eQ):List (List D):=l.map cX
theorem Fu(ns:List eQ):(bh ns).length=ns.length:=by simp[bh]
theorem FH{ns:List eQ}{i:Nat}(h:i<ns.length):row (bh ns) i=cX ns[i]:=by simp[bh,row,List.getD,List.getElem?_eq_getElem h]
theorem Ez(ns:List eQ):∀y∈bh ns,y.length=3:=by
 intro y hy
 rw[show bh ns=ns.map _ from rfl] at hy
 obtain⟨t,_,rfl⟩:=List.mem_map.1 hy
 rfl
theorem fZ(ns ms:List eQ):bh ns++bh ms=bh (ns++ms):=by simp[bh]
theorem eV:bh []=[]:=rfl
theorem cY(n:eQ)(ns:List eQ):bh (n::ns)=cX n::bh ns:=rfl
structure gk where
 A:Term
 B:Term
 deriving DecidableEq
def R0(t:gk):List D:=[.str t.A.name,.bx (aj t.A.kids),.str t.B.name,.bx (aj t.B.kids)]
def dz(l:List gk):List (List D):=l.map R0
theorem HX(ns:List gk):(dz ns).length=ns.length:=by simp[dz]
theorem Gr{ns:List gk}{i:Nat}(h:i<ns.length):row (dz ns) i=R0 ns[i]:=by simp[dz,row,List.getD,List.getElem?_eq_getElem h]
theorem FW(ns:List gk):∀y∈dz ns,y.length=4:=by
 intro y hy
 rw[show dz ns=ns.map _ from rfl] at hy
 obtain⟨t,_,rfl⟩:=List.mem_map.1 hy
 rfl
theorem Gw(ns ms:List gk):dz ns++dz ms=dz (ns++ms):=by simp[dz]
theorem rB:dz []=[]:=rfl
theorem DX(n:gk)(ns:List gk):dz (n::ns)=R0 n::dz ns:=rfl
structure Step where
 A:Int
 B:Int
 given:Int
 deriving DecidableEq
def IL(t:Step):List D:=[.val (.int .i64 t.A),.val (.int .i64 t.B),.val (.int .i64 t.given)]
def ax(l:List Step):List (List D):=l.map IL
theorem Cf(ns:List Step):(ax ns).length=ns.length:=by simp[ax]
theorem Du{ns:List Step}{i:Nat}(h:i<ns.length):row (ax ns) i=IL ns[i]:=by simp[ax,row,List.getD,List.getElem?_eq_getElem h]
theorem B3(ns:List Step):∀y∈ax ns,y.length=3:=by
 intro y hy
 rw[show ax ns=ns.map _ from rfl] at hy
 obtain⟨t,_,rfl⟩:=List.mem_map.1 hy
 rfl
theorem C3(ns ms:List Step):ax ns++ax ms=ax (ns++ms):=by simp[ax]
theorem tl:ax []=[]:=rfl
theorem AE(n:Step)(ns:List Step):ax (n::ns)=IL n::ax ns:=rfl
structure Tg where
 many:Int
 list:List (List Int)
 deriving DecidableEq
def SJ(t:Tg):List D:=[.val (.int .i64 t.many),.bx (Cq t.list)]
structure IQ where
 marks:List Int
 case:Case
 deriving DecidableEq
def Ns(t:IQ):List D:=[.bx (aJ t.marks),.val (.int .i64 t.case.kind),.val (.int .i64 t.case.n),.val (.int .i64 t.case.qR.ml),.val (.int .i64 t.case.qR.n),.str t.case.qR.t.name,.bx (aj t.case.qR.t.kids),.bx (dE t.case.qR.kids),.bx (aJ t.case.times),.str t.case.A.name,.bx (aj t.case.A.kids),.str t.case.B.name,.bx (aj t.case.B.kids),.bx (dD t.case.kids)]
def Jx(l:List IQ):List (List D):=l.map Ns
structure R6 where
 lemmas:List IQ
 log:List (List Int)
 deriving DecidableEq
def Qm(t:R6):List D:=[.bx (Jx t.lemmas),.bx (Cq t.log)]
structure Stack where
 sig:bA
 levels:List (List Form)
 deriving DecidableEq
def QM(t:Stack):List D:=[.bx (cQ t.sig.syms),.bx (Q8 t.levels)]
def av(cs:List D):PV:=.agg (bn cs)
theorem RI(cs:List D):(av cs).lt 0=true:=by simp only[av,PV.lt];exact MI 0 cs
attribute [go_sem] Bs Bx kp DS wm FC B8 wj Fp Fu HX Cf
attribute [go_sem] uO Bp uN vR Eo vT D4 FH Gr Du
attribute [go_sem] mN Kj fx pd jw nw wv D0 eV rB tl
attribute [go_sem] av cT oV bF gr kh rP tm LM dp pG eO cX R0 IL SJ Ns Qm QM Int.toNat_natCast
end Go.Mod
namespace Go.Eng
open Go.Mod
theorem sA{p q:Prop}(k:q)(h:p=q:=by simp -implicitDefEqProofs only[go_sem];exact rfl):p:=h▸k
theorem sB{p q:Prop}(k:q)(h:p=q:=by simp -implicitDefEqProofs only[go_sem,Int.reduceEq,Int.reduceLT,Int.reduceLE,Int.reduceToNat];exact rfl):p:=h▸k
theorem sC{p:Prop}(h:p:=by simp -implicitDefEqProofs only[go_sem]):p:=h
theorem sD{p:Prop}(h:p:=by simp -implicitDefEqProofs only[go_sem,Int.reduceEq,Int.reduceLT,Int.reduceLE,Int.reduceToNat]):p:=h
theorem iK{os:List Oper}{L:List Ky}{p:Prop}(hp:p)(h:GN os L=true:=by kernel_rfl):indep os L=true∧p:=⟨AN h,hp⟩
theorem aC{m:Option (List Ky)}{gs:Option Nat}{d:Nat}{ty:TypeId}{pos:String}{aft:Array Edge}{gd:Option (Nat×Bool)}{E:Env}{g:G}{rest:jZ→Option (List Ky)→G→Prop}{fop:Operand}{xs:List Operand}{tys:Array TypeId}{f:FuncId}(cap:List PV){cargs:List PV}{res:PV}{q:Prop}
 (hC:C E.P f cargs [] (aO res [])) (k:q) (h:g.ev fop= .fn f cap∧yE (JZ g xs++cap) cargs∧mi 0 cargs=true∧res.lt 0=true:=by simp -implicitDefEqProofs only[go_sem])
 (hr:rest .on (gl m (hY (n6 gs ⟨ba fop++uQ xs,[]⟩) ⟨some (d,res),[]⟩)) (g.app ⟨some (d,res),[]⟩)=q:=by simp -implicitDefEqProofs only[go_sem];exact rfl):mj E m gs ⟨some d,.call ⟨.value fop,⟨xs⟩,tys⟩,ty,pos,aft,gd⟩ g rest:=
 cL cap hC h (hr▸k)
theorem aD{m:Option (List Ky)}{gs:Option Nat}{d:Nat}{ty:TypeId}{pos:String}{aft:Array Edge}{gd:Option (Nat×Bool)}{E:Env}{g:G}{rest:jZ→Option (List Ky)→G→Prop}{fop:Operand}{xs:List Operand}{tys:Array TypeId}{f:FuncId}(cap:List PV){cargs:List PV}{res:PV}{q:Prop}
 (hC:C E.P f cargs [] (aO res [])) (k:q) (h:g.ev fop= .fn f cap∧yE (JZ g xs++cap) cargs∧mi 0 cargs=true∧res.lt 0=true:=by simp -implicitDefEqProofs only[go_sem,Int.reduceEq,Int.reduceLT,Int.reduceLE,Int.reduceToNat])
 (hr:rest .on (gl m (hY (n6 gs ⟨ba fop++uQ xs,[]⟩) ⟨some (d,res),[]⟩)) (g.app ⟨some (d,res),[]⟩)=q:=by simp -implicitDefEqProofs only[go_sem,Int.reduceEq,Int.reduceLT,Int.reduceLE,Int.reduceToNat];exact rfl):mj E m gs ⟨some d,.call ⟨.value fop,⟨xs⟩,tys⟩,ty,pos,aft,gd⟩ g rest:=
 cL cap hC h (hr▸k)
theorem oC{m:Option (List Ky)}{gs:Option Nat}{d:Nat}{ty:TypeId}{pos:String}{aft:Array Edge}{gd:Option (Nat×Bool)}{E:Env}{g:G}{rest:jZ→Option (List Ky)→G→Prop}{fop:Operand}{xs:List Operand}{tys:Array TypeId}{f:FuncId}(cap:List PV)(M:List Nat){cargs:List PV}{cst st':List (Option En)}{res:PV}{q:Prop}
 (hC:C E.P f cargs cst (aO res st')) (k:q) (h:g.ev fop= .fn f cap∧yE (JZ g xs++cap) (jN M cargs)∧mi (ff cst) cargs=true∧FQ M=true∧qc (ff cst) (yr M)=true∧qc (ff cst) (ff st')=true∧qc (ff st') (yr M)=true∧gZ g M (ff cst) M cst∧cZ g (ff cst) M:=by simp -implicitDefEqProofs only[go_sem])
 (hr:rest .on (gl m (hY (n6 gs ⟨ba fop++uQ xs,M⟩) ⟨some (d,res.fB M),eG M M st'⟩)) (g.app ⟨some (d,res.fB M),eG M M st'⟩)=q:=by simp -implicitDefEqProofs only[go_sem];exact rfl):mj E m gs ⟨some d,.call ⟨.value fop,⟨xs⟩,tys⟩,ty,pos,aft,gd⟩ g rest:=
 cz cap M hC h (hr▸k)
theorem oD{m:Option (List Ky)}{gs:Option Nat}{d:Nat}{ty:TypeId}{pos:String}{aft:Array Edge}{gd:Option (Nat×Bool)}{E:Env}{g:G}{rest:jZ→Option (List Ky)→G→Prop}{fop:Operand}{xs:List Operand}{tys:Array TypeId}{f:FuncId}(cap:List PV)(M:List Nat){cargs:List PV}{cst st':List (Option En)}{res:PV}{q:Prop}
 (hC:C E.P f cargs cst (aO res st')) (k:q) (h:g.ev fop= .fn f cap∧yE (JZ g xs++cap) (jN M cargs)∧mi (ff cst) cargs=true∧FQ M=true∧qc (ff cst) (yr M)=true∧qc (ff cst) (ff st')=true∧qc (ff st') (yr M)=true∧gZ g M (ff cst) M cst∧cZ g (ff cst) M:=by simp -implicitDefEqProofs only[go_sem,Int.reduceEq,Int.reduceLT,Int.reduceLE,Int.reduceToNat])
 (hr:rest .on (gl m (hY (n6 gs ⟨ba fop++uQ xs,M⟩) ⟨some (d,res.fB M),eG M M st'⟩)) (g.app ⟨some (d,res.fB M),eG M M st'⟩)=q:=by simp -implicitDefEqProofs only[go_sem,Int.reduceEq,Int.reduceLT,Int.reduceLE,Int.reduceToNat];exact rfl):mj E m gs ⟨some d,.call ⟨.value fop,⟨xs⟩,tys⟩,ty,pos,aft,gd⟩ g rest:=
 cz cap M hC h (hr▸k)
theorem gS{E:Env}(hm:E.P.follows .mixedOrders=true){f:FuncId}{fn:Func}{c:Code}{args:List PV}{cst:List (Option En)}{R:PV→List (Option En)→Prop}{nt:Nat}{rs:List ResultVar}{L q:Prop}(hf:E.P.funcs[f]?=some fn)(k:L→tU cst→LB=1099511627776→q)
 (hb : fn.body = some c := by rfl) (hname : (fn.name == "runtime.NumGoroutine") = false := by rfl) (hnt : fn.ntmps = nt := by rfl) (hrs : fn.results.toList = rs := by rfl) (hn : qc (oG args) nt = true := by rfl)
 (e1:jR args=L:=by simp -implicitDefEqProofs only[go_sem];exact rfl) (e2:DJ E (ff cst) c .on ⟨b9 nt .undef (Mt 0 args),cst⟩ (fun _=>Ge (rE E rs (ff cst) R))=q:=by simp -implicitDefEqProofs only[go_sem];exact rfl):C E.P f args cst R:=
 Ik hm hf hb hname hnt hrs hn fun h1 h2=>e2▸k (e1▸h1) h2 rfl
theorem gT{E:Env}(hm:E.P.follows .mixedOrders=true){f:FuncId}{fn:Func}{c:Code}{args:List PV}{cst:List (Option En)}{R:PV→List (Option En)→Prop}{nt:Nat}{rs:List ResultVar}{L q:Prop}(hf:E.P.funcs[f]?=some fn)(k:L→tU cst→LB=1099511627776→q)
 (hb : fn.body = some c := by rfl) (hname : (fn.name == "runtime.NumGoroutine") = false := by rfl) (hnt : fn.ntmps = nt := by rfl) (hrs : fn.results.toList = rs := by rfl) (hn : qc (oG args) nt = true := by rfl)
 (e1:jR args=L:=by simp -implicitDefEqProofs only[go_sem,Int.reduceEq,Int.reduceLT,Int.reduceLE,Int.reduceToNat];exact rfl) (e2:DJ E (ff cst) c .on ⟨b9 nt .undef (Mt 0 args),cst⟩ (fun _=>Ge (rE E rs (ff cst) R))=q:=by simp -implicitDefEqProofs only[go_sem,Int.reduceEq,Int.reduceLT,Int.reduceLE,Int.reduceToNat];exact rfl):C E.P f args cst R:=
 Ik hm hf hb hname hnt hrs hn fun h1 h2=>e2▸k (e1▸h1) h2 rfl
theorem sO{p:Prop}(h:p:=by first|(with_reducible exact AN (by kernel_rfl))|omega|assumption|exact⟨J3 _,by omega⟩|exact⟨uC _,by omega⟩|exact⟨wo _,by omega⟩|exact⟨Ez _,by omega⟩|exact⟨FW _,by omega⟩|rfl|(simp[*];done)|(simp;omega)|exact⟨Fc _,by omega⟩|exact⟨DD _,by omega⟩|exact⟨Kk _,by omega⟩|exact⟨C8 _,by omega⟩|exact⟨Gv _,by omega⟩):p:=h
theorem sV{p:Prop}(h:p:=by(simp -implicitDefEqProofs only[go_sem,Int.reduceEq,Int.reduceLT,Int.reduceLE,Int.reduceToNat];repeat'(first|exact lR.nil|apply lR.cons|exact Vw.same (by first|rfl|simp -implicitDefEqProofs only[go_sem,Int.reduceEq,Int.reduceLT,Int.reduceLE,Int.reduceToNat])|exact Vw.acc rfl rfl|exact Vw.bM rfl rfl (by simp -implicitDefEqProofs only[go_sem,Int.reduceEq,Int.reduceLT,Int.reduceLE,Int.reduceToNat])|exact Vw.nil|apply Vw.agg|apply Vw.fn|refine Vw.box rfl rfl ?_))):p:=h
end Go.Eng
namespace Go.Mod
open Go.Eng
def within(n lo hi:Int):Bool:=decide (lo≤n)&&decide (n≤hi)
theorem bu{n lo hi:Int}:within n lo hi=true↔lo≤n∧n≤hi:=by simp[within]
def bZ{α:Type}(p:α→Bool):List α→Int→Int
 | [],_=>-1
 | x::xs,i=>if p x then i else bZ p xs (i+1)
def idxOf{α:Type}(p:α→Bool)(xs:List α):Int:=bZ p xs 0
def aS(a:Rat):Bool:=within a.N (-1000000000) 1000000000&&(within a.D 1 1000000000&&decide ((Int.gcd a.N a.D:Int)=1))
def jx:Rat:=⟨0,0⟩
def eh(n d:Int):Rat×Bool:=
 if d=0 then(jx,false) else
 let n1:=if d<0 then -n else n
 let d1:=if d<0 then -d else d
 let a:Rat:=⟨n1.tdiv (Int.gcd n1 d1),d1.tdiv (Int.gcd n1 d1)⟩
 if aS a then(a,true) else(jx,false)
def oO(n d:Int):Rat×Bool:=if within n (-1000000000) 1000000000&&within d (-1000000000) 1000000000 then eh n d else(jx,false)
def c7(a b:Rat):Rat×Bool:=if aS a&&aS b then eh (a.N*b.D+b.N*a.D) (a.D*b.D) else(jx,false)
def dh(a b:Rat):Rat×Bool:=if aS a&&aS b then eh (a.N*b.N) (a.D*b.D) else(jx,false)
def bD(a b:Rat):Bool:=aS a&&(aS b&&decide (a.N*b.D<b.N*a.D))
def oQ(a b:Rat):Rat×Bool:=if(c7 a b).2 then dh (c7 a b).1 ⟨1,2⟩ else(jx,false)
def fE(n:Int):Bool:=within n (-1000000) 1000000
def bR(l:eQ):Bool:=l.an.all fE&&(decide (l.an.length=4)&&fE l.bound)
def jE:eQ:=⟨[],0,false⟩
def iY(l:eQ):eQ:=if bR l then⟨l.an.map fun c=>-c,-l.bound,!l.strict⟩ else jE
def comb(m n:Int):List Int→List Int→List Int
 | a::as,b::bs=>(m*a+n*b)::comb m n as bs
 | _,_=>[]
def jK(a:eQ)(m:Int)(b:eQ)(n:Int):eQ:=⟨comb m n a.an b.an,m*a.bound+n*b.bound,(decide (0<m)&&a.strict)||(decide (0<n)&&b.strict)⟩
def lB(a:eQ)(m:Int)(b:eQ)(n:Int):eQ×Bool:=if bR (jK a m b n) then(jK a m b n,true) else(jE,false)
def cS(a:eQ)(m:Int)(b:eQ)(n:Int):eQ×Bool:=if bR a&&bR b&&within m 0 1000000&&within n 0 1000000 then lB a m b n else(jE,false)
def flat(l:eQ):Bool:=l.an.all fun c=>decide (c=0)
def mq(l:eQ):Bool:=bR l&&(flat l&&(decide (l.bound<0)||(decide (l.bound=0)&&l.strict)))
def whole(n:Int):Rat:=⟨n,1⟩
def plus(sum:Rat)(c:Int)(val:Rat):Rat×Bool:=if(dh (whole c) val).2 then c7 sum (dh (whole c) val).1 else(jx,false)
def dC(list:List eQ):Bool:=decide (list.length≤20)&&list.all bR
def vO:List eQ→List Int→eQ→eQ×Bool
 | l::ls,t::ts,out=>if(cS out 1 l t).2 then vO ls ts (cS out 1 l t).1 else(jE,false)
 | _,_,out=>(out,true)
def iV(list:List eQ)(times:List Int):eQ×Bool:=if dC list&&decide (times.length=list.length) then vO list times ⟨[0,0,0,0],0,false⟩ else(jE,false)
def vU(list:List eQ)(times:List Int):Bool:=(iV list times).2&&mq (iV list times).1
def c5(c:UInt8):Bool:=decide ((97:Int)≤(c.toNat:Int))&&decide ((c.toNat:Int)≤122)
def cg(s:gR):Bool:=within s.length 1 2&&s.all c5
def isSort(n:Int):Bool:=decide (n=0)||decide (n=1)
def gP(x:Sym):Bool:=cg x.name&&(decide (x.args.length≤2)&&(isSort x.sort&&x.args.all isSort))
def cR(a b:gR):Bool:=Op.bytesLess a b
def jM:Option gR→List Sym→Bool
 | _,[]=>true
 | p,x::xs=>gP x&&((match p with|none=>true|some q=>cR q x.name)&&jM (some x.name) xs)
def bV(s:bA):Bool:=jM none s.syms&&decide (s.syms.length≤7)
def symbol(s:bA)(name:gR):Option Sym:=s.syms.find? fun x=>decide (x.name=name)
def ly:Sym:=⟨[],[],0⟩
mutual
def eF:Term→Nat→Nat
 | .mk n ks,deep=>if cg n&&decide (ks.length≤2)&&decide (deep≤4) then 1+bL ks (deep+1) else 13
def bL:List Term→Nat→Nat
 | [],_=>0
 | t::ts,deep=>eF t deep+bL ts deep
end
def isTerm(t:Term):Bool:=decide (eF t 1≤12)
mutual
def aB:Term→Nat→Bool
 | _,0=>false
 | .mk n ks,d+1=>cg n&&(decide (ks.length≤2)&&aQ ks d)
def aQ:List Term→Nat→Bool
 | [],_=>true
 | t::ts,d=>aB t d&&aQ ts d
end
mutual
def many:Term→Nat→Nat
 | _,0=>1
 | .mk _ ks,d+1=>1+fe ks d
def fe:List Term→Nat→Nat
 | [],_=>0
 | t::ts,d=>many t d+fe ts d
end
mutual
def bB(s:bA):Term→Option Int
 | .mk n ks=>match symbol s n with
   | none=>none
   | some x=>if decide (x.args.length=ks.length)&&cq s ks x.args then some x.sort else none
def cq(s:bA):List Term→List Int→Bool
 | k::ks,a::as=>decide (bB s k=some a)&&cq s ks as
 | _,_=>true
end
def bp(s:bA)(t:Term):Option Int:=if bV s&&isTerm t then bB s t else none
def dH:List gR→gR
 | []=>[]
 | [t]=>t
 | t::ts=>t++(44::dH ts)
mutual
def ak:Term→gR
 | .mk n []=>n
 | .mk n (k::ks)=>n++(40::(dH (ak k::bX ks)++[41]))
def bX:List Term→List gR
 | []=>[]
 | t::ts=>ak t::bX ts
end
def aF(list:List Term)(t:Term):Int:=idxOf (fun u=>decide (t=u)) list
mutual
def a8(list:List Term):Term→List Term
 | .mk n ks=>let l:=aq list ks;if aF l (.mk n ks)<0 then l++[.mk n ks] else l
def aq(list:List Term):List Term→List Term
 | []=>list
 | t::ts=>aq (a8 list t) ts
end
def jq:List Term→List Term→List Term
 | [],out=>out
 | t::ts,out=>if isTerm t then jq ts (a8 out t) else []
def gh(list:List Term):List Term:=jq list []
def Sl(eqs:List gk):List Term:=eqs.flatMap fun e=>[e.A,e.B]
def fX(s:bA)(e:gk):Bool:=(bp s e.A).isSome&&decide (bp s e.A=bp s e.B)
def PO(s:bA)(eqs:List gk):Bool:=bV s&&decide (eqs.length≤12)&&eqs.all (fX s)&&decide ((gh (Sl eqs)).length≤24)
def ao:Term:=.mk [] []
def isNone(t:Term):Bool:=decide (t.name=[])&&decide (t.kids=[])
def GQ:gk:=⟨ao,ao⟩
def uI:ja:=.mk 0 0 ao []
def Nk(eqs:List gk)(ml n:Int)(t:Term)(kids:List gk):gk×Bool:=
 if(ml≠2∧n≠0)∨(ml≠1∧ml≠5∧isNone t=false) then(GQ,false) else
 if ml=1 then(⟨t,t⟩,decide (kids.length=0)&&isTerm t) else
 if ml=2 then(if 0<kids.length∨within n 0 (eqs.length-1)=false then(GQ,false) else(eqs.getD n.toNat GQ,true)) else
 if ml=3 then(if kids.length=1 then(⟨(kids.getD 0 GQ).B,(kids.getD 0 GQ).A⟩,true) else(GQ,false)) else
 if ml=4 then(if kids.length=2∧(kids.getD 0 GQ).B=(kids.getD 1 GQ).A then(⟨(kids.getD 0 GQ).A,(kids.getD 1 GQ).B⟩,true) else(GQ,false)) else
 if ml=5 then(if kids.length=0∨cg t.name=false∨0<t.kids.length then(GQ,false) else
  (⟨.mk t.name (kids.map (·.A)),.mk t.name (kids.map (·.B))⟩,isTerm (.mk t.name (kids.map (·.A)))&&isTerm (.mk t.name (kids.map (·.B))))) else
 (GQ,false)
mutual
def zO(f:Int→Int→Term→List gk→gk×Bool):ja→Nat→gk×Bool
 | _,0=>(GQ,false)
 | .mk r n t ks,d+1=>match IM f ks d with
   | none=>(GQ,false)
   | some kids=>f r n t kids
def IM(f:Int→Int→Term→List gk→gk×Bool):List ja→Nat→Option (List gk)
 | [],_=>some []
 | w::ws,d=>if(zO f w d).2 then(IM f ws d).map fun es=>(zO f w d).1::es else none
end
def Fx(s:bA)(eqs:List gk)(w:ja):Option gk:=
 if PO s eqs&&((zO (Nk eqs) w 400).2&&PO s [(zO (Nk eqs) w 400).1]) then some (zO (Nk eqs) w 400).1 else none
def eU:Option Term→List Term→List Int→Bool
 | p,t::ts,n::ns=>isTerm t&&(within n (-50) 50&&(decide (n≠0)&&((match p with|none=>true|some q=>cR (ak q) (ak t))&&eU (some t) ts ns)))
 | _,_,_=>true
def aZ(a:Atom):Bool:=
 if a.kind=1 then isTerm a.A&&(isTerm a.B&&(decide (a.nums.length=0)&&(decide (a.times.length=0)&&(decide (a.bound=0)&& !a.strict)))) else
 if a.kind=2 then isNone a.A&&(isNone a.B&&(within a.nums.length 1 4&&(decide (a.times.length=a.nums.length)&&(within a.bound (-1000) 1000&&eU none a.nums a.times)))) else false
def aY(s:bA)(t:Term):Bool:=decide (bp s t=some 1)
def bS(s:bA)(a:Atom):Bool:=bV s&&(aZ a&&(if a.kind=1 then fX s ⟨a.A,a.B⟩ else a.nums.all (aY s)))
def aH(a:Atom):List Term:=if a.kind=1 then [a.A,a.B] else a.nums
def ai(lits:List aE):List Term:=gh (lits.flatMap fun l=>aH l.atom)
def numsOf(s:bA)(lits:List aE):List Term:=(ai lits).filter (aY s)
def bG(s:bA)(lits:List aE):Bool:=bV s&&decide (lits.length≤6)&&lits.all (fun l=>bS s l.atom)&&decide ((ai lits).length≤24)&&decide ((numsOf s lits).length≤4)
def aI(lits:List aE):List gk:=lits.filterMap fun l=>if l.atom.kind=1∧l.no=false then some ⟨l.atom.A,l.atom.B⟩ else none
def eH:List Int→Int→Int→List Int
 | [],_,_=>[]
 | c::cs,i,v=>if i=0 then(c+v)::cs else c::eH cs (i-1) v
def df(nums:List Term):List Term→List Int→List Int→List Int
 | t::ts,n::ns,cs=>df nums ts ns (eH cs (aF nums t) n)
 | _,_,cs=>cs
def ez(nums list:List Term)(times:List Int)(bound:Int)(strict:Bool):eQ:=⟨df nums list times [0,0,0,0],bound,strict⟩
def dq(nums:List Term)(l:aE):List eQ:=
 if l.atom.kind=2 then [if l.no then iY (ez nums l.atom.nums l.atom.times l.atom.bound l.atom.strict) else ez nums l.atom.nums l.atom.times l.atom.bound l.atom.strict]
 else if l.no=false∧0≤aF nums l.atom.A then [ez nums [l.atom.A,l.atom.B] [1,-1] 0 false,ez nums [l.atom.A,l.atom.B] [-1,1] 0 false] else []
def bH(nums:List Term)(lits:List aE):List eQ:=lits.flatMap (dq nums)
def zM(a b:Term):Atom:=⟨1,a,b,[],[],0,false⟩
def eE(a b:Term):aE:=⟨zM a b,false⟩
def ct(a b:Term):aE:=if cR (ak b) (ak a) then⟨⟨2,ao,ao,[b,a],[-1,1],0,true⟩,false⟩ else⟨⟨2,ao,ao,[a,b],[1,-1],0,true⟩,false⟩
def gL(a b:Term):List aE:=[eE a b,ct a b,ct b a]
def differ(nums:List Term)(a b:Term):Bool:=decide (0≤aF nums a)&&(decide (0≤aF nums b)&&decide (aF nums a≠aF nums b))
def bare(c:Case)(n qR times terms:Bool)(kids:Nat):Bool:=
 (n||decide (c.n=0))&&((qR||decide (c.qR=uI))&&((times||decide (c.times.length=0))&&((terms||(isNone c.A&&isNone c.B))&&decide (c.kids.length=kids))))
theorem y5:ao.name=[]:=rfl
theorem yA:ao.kids=[]:=rfl
theorem BF:ly.name=[]:=rfl
theorem Bt:ly.args=[]:=rfl
theorem Bz:ly.sort=0:=rfl
theorem yu:jE.an=[]:=rfl
theorem zq:jE.bound=0:=rfl
theorem vQ:jE.strict=false:=rfl
theorem L9:jx.N=0:=rfl
theorem LO:jx.D=0:=rfl
theorem Bv:uI.ml=0:=rfl
theorem Nv:uI.n=0:=rfl
theorem LR:uI.t=ao:=rfl
theorem BM:uI.kids=[]:=rfl
attribute [simp] y5 yA BF Bt Bz yu zq vQ L9 LO Bv Nv LR BM fx mN rB jw
attribute [go_sem] y5 yA BF Bt Bz yu zq vQ L9 LO Bv Nv LR BM
theorem sY(n:gR)(ks:List Term):(Term.mk n ks).name=n:=rfl
theorem te(n:gR)(ks:List Term):(Term.mk n ks).kids=ks:=rfl
attribute [simp] sY te
attribute [go_sem] sY te
end Go.Mod
namespace Go.Mod
open Go.Eng
def iq(a b:Rat):Int:=if bD a b then -1 else if bD b a then 1 else 0
def cH:List Rat→List Rat→Int
 | [],[]=>0
 | [],_::_=>-1
 | _::_,[]=>1
 | a::as,b::bs=>if iq a b=0 then cH as bs else iq a b
def gM(a b:gR):Int:=if cR a b then -1 else if cR b a then 1 else 0
def iu(a b:Int):Int:=if a<b then -1 else if b<a then 1 else 0
def bJ(a b:Row):Int:=if gM a.name b.name≠0 then gM a.name b.name else if iu a.args.length b.args.length≠0 then iu a.args.length b.args.length else cH a.args b.args
def jF(r:Row):Bool:=cg r.name&&(decide (r.args.length≤2)&&(aS r.val&&r.args.all aS))
def nr:Option Row→List Row→Bool
 | _,[]=>true
 | p,r::rs=>jF r&&((match p with|none=>true|some q=>decide (bJ q r<0))&&nr (some r) rs)
def cW(m:Model):Bool:=decide (m.rows.length≤40)&&nr none m.rows
def s6(a:Rat)(sort:Int):Bool:=decide (sort=1)||decide (a.D=1)
def hX:List Rat→List Int→Bool
 | a::as,n::ns=>s6 a n&&hX as ns
 | _,_=>true
def jH(s:bA)(r:Row):Bool:=
 match symbol s r.name with
 | none=>false
 | some x=>decide (x.args.length=r.args.length)&&(s6 r.val x.sort&&hX r.args x.args)
def de(s:bA)(m:Model):Bool:=bV s&&(cW m&&m.rows.all (jH s))
def lookup(rows:List Row)(name:gR)(args:List Rat):Rat:=
 match rows.find? (fun r=>decide (r.name=name∧r.args=args)) with
 | some r=>r.val
 | none=>⟨0,1⟩
mutual
def value(m:Model):Term→Rat
 | .mk n ks=>lookup m.rows n (values m ks)
def values(m:Model):List Term→List Rat
 | []=>[]
 | t::ts=>value m t::values m ts
end
def vG(m:Model):List Term→List Int→Rat→Option Rat
 | t::ts,n::ns,sum=>if(plus sum n (value m t)).2 then vG m ts ns (plus sum n (value m t)).1 else none
 | _,_,sum=>some sum
def below(a:Rat)(bound:Int)(strict:Bool):Bool:=if strict then bD a (whole bound) else !bD (whole bound) a
def ob(m:Model)(a:Atom):Option Bool:=if a.kind=1 then some (decide (value m a.A=value m a.B)) else(vG m a.nums a.times (whole 0)).map fun x=>below x a.bound a.strict
def fK(s:bA)(m:Model)(l:aE):Option Bool:=if de s m&&bS s l.atom then(ob m l.atom).map fun b=>b != l.no else none
mutual
def K8(s:bA)(nums:List Term):Case→List aE→Nat→Bool
 | .mk k n w ts a b ks,lits,deep=>
   if 14<deep then false else
   if k=1 then bare (.mk k n w ts a b ks) true true false false 0&&(within n 0 (lits.length-1)&&(match Fx s (aI lits) w,lits[n.toNat]? with
    | some e,some l=>l.no&&(decide (l.atom.kind=1)&&(decide (e.A=l.atom.A)&&decide (e.B=l.atom.B)))
    | _,_=>false)) else
   if k=2 then bare (.mk k n w ts a b ks) false false true false 0&&vU (bH nums lits) ts else
   if k=3 then bare (.mk k n w ts a b ks) false true false false 1&&(match Fx s (aI lits) w with
    | some e=>differ nums e.A e.B&&Cy s nums ks [lits++[eE e.A e.B]] (deep+1)
    | none=>false) else
   if k=4 then bare (.mk k n w ts a b ks) false false false true 3&&(differ nums a b&&Cy s nums ks ((gL a b).map fun l=>lits++[l]) (deep+1)) else
   false
def Cy(s:bA)(nums:List Term):List Case→List (List aE)→Nat→Bool
 | c::cs,l::ls,deep=>K8 s nums c l deep&&Cy s nums cs ls deep
 | _,_,_=>true
end
def Q3(s:bA)(lits:List aE)(c:Case):Bool:=bG s lits&&K8 s (numsOf s lits) c lits 1
def Nu(kind:Int):Int:=if kind=1 then 0 else if kind=2 then 1 else if kind=3∨kind=4∨kind=5∨kind=6 then 2 else -1
def FI:Atom:=⟨0,ao,ao,[],[],0,false⟩
def z7:aE:=⟨FI,false⟩
def R4:Form:=.mk 0 z7 []
def Ov(l:aE):Bool:=!l.no&&decide (l.atom=FI)
def Eh(k:Int)(l:aE)(ks:List Form):Bool:=decide (Nu k=ks.length)&&(if k=1 then aZ l.atom else Ov l)
mutual
def Ff:Form→Nat→Nat
 | .mk k l ks,deep=>if decide (deep≤5)&&Eh k l ks then 1+A3 ks (deep+1) else 11
def A3:List Form→Nat→Nat
 | [],_=>0
 | t::ts,deep=>Ff t deep+A3 ts deep
end
mutual
def KC:Form→Nat→Bool
 | _,0=>false
 | .mk k l ks,d+1=>Eh k l ks&&yy ks d
def yy:List Form→Nat→Bool
 | [],_=>true
 | t::ts,d=>KC t d&&yy ts d
end
mutual
def NJ:Form→Nat→Nat
 | _,0=>1
 | .mk _ _ ks,d+1=>1+BV ks d
def BV:List Form→Nat→Nat
 | [],_=>0
 | t::ts,d=>NJ t d+BV ts d
end
def Db(list:List Atom)(a:Atom):Int:=idxOf (fun b=>decide (a=b)) list
mutual
def withAtoms(list:List Atom):Form→List Atom
 | .mk k l ks=>if k=1 then(if Db list l.atom<0 then list++[l.atom] else list) else rV list ks
def rV(list:List Atom):List Form→List Atom
 | []=>list
 | t::ts=>rV (withAtoms list t) ts
end
def Hg(f:Form):Bool:=decide (Ff f 1≤10)&&decide ((withAtoms [] f).length≤6)
def plain(list:List Atom):List aE:=list.map fun a=>⟨a,false⟩
def Qc(s:bA)(f:Form):Bool:=Hg f&&bG s (plain (withAtoms [] f))
mutual
def holds(p:Atom→Bool):Form→Bool
 | .mk k l ks=>QA k l (NG p ks) p
def NG(p:Atom→Bool):List Form→List Bool
 | []=>[]
 | t::ts=>holds p t::NG p ts
def QA(k:Int)(l:aE)(is:List Bool)(p:Atom→Bool):Bool:=
 if k=1 then p l.atom != l.no else
 if k=2 then !(is.getD 0 false) else
 if k=3 then is.getD 0 false&&is.getD 1 false else
 if k=4 then is.getD 0 false||is.getD 1 false else
 if k=5 then !(is.getD 0 false)||is.getD 1 false else
 is.getD 0 false == is.getD 1 false
end
def Q5(f:Form)(aw:List Bool):Option Bool:=
 if Hg f&&decide ((withAtoms [] f).length=aw.length) then some (holds (fun a=>aw.getD (Db (withAtoms [] f) a).toNat false) f) else none
def MU(s:bA)(m:Model):List Atom→Option (List Bool)
 | []=>some []
 | a::as=>match fK s m ⟨a,false⟩ with
   | none=>none
   | some b=>match MU s m as with
     | none=>none
     | some bs=>some (b::bs)
def Jq(s:bA)(m:Model)(f:Form):Option Bool:=
 if Qc s f then(match MU s m (withAtoms [] f) with|none=>none|some aw=>Q5 f aw) else none
def CH:List Form→List Atom→List Atom
 | [],out=>out
 | f::fs,out=>CH fs (withAtoms out f)
def rM(list:List Form):Option (List Atom):=
 if decide (list.length≤5)&&(list.all Hg&&decide ((CH list []).length≤6)) then some (CH list []) else none
def IZ(s:bA)(list:List Form):Bool:=match rM list with|none=>false|some atoms=>bV s&&bG s (plain atoms)
def Q1(l many:Int):Bool:=decide (l≠0)&&within l (-many) many
def PQ:List Int→List Int→Int→Bool
 | _,[],_=>true
 | before,m::ms,many=>Q1 m many&&(!(before.contains m)&&(!(before.contains (-m))&&PQ (before++[m]) ms many))
def ES(marks:List Int)(many:Nat):Bool:=PQ [] marks many
def LI(marks:List Int)(atoms:List Atom):List aE:=marks.map fun m=>⟨atoms.getD (m.natAbs-1) FI,decide (m<0)⟩
def Sy(s:bA)(list:List Form)(l:IQ):Bool:=
 IZ s list&&(decide (0<l.marks.length)&&(ES l.marks ((rM list).getD []).length&&Q3 s (LI l.marks ((rM list).getD [])) l.case))
def Sm(s:bA)(m:Model)(list:List Form):Bool:=IZ s list&&(de s m&&list.all fun f=>decide (Jq s m f=some true))
end Go.Mod
namespace Go.Proofs.YtpidddienjoleaaGreat
open Go.Eng Go.Mod
set_option maxRecDepth 100000
theorem Eu{n:Int}:(if n < -n then -n else n)=(n.natAbs:Int):=by split<;>omega
end Go.Proofs.YtpidddienjoleaaGreat
namespace Go.Mod
open Go.Eng
mutual
theorem lE:∀(t:Term)(d:Nat),d≤4→(aB t d=true→eF t (5-d)=many t d)∧(aB t d=false→13≤eF t (5-d))
 | .mk n ks,0,_=>by simp[aB,eF]
 | .mk n ks,d+1,hd=>by
   obtain⟨h1,h2⟩:=sE ks d (by omega)
   have e:5-(d+1)+1=5-d:=by omega
   have e2:5-(d+1)≤4:=by omega
   simp only[aB,eF,many,e,e2,decide_true,Bool.and_true]
   cases hn:cg n
   ·simp
   ·rcases Classical.em (ks.length≤2) with hk|hk
    ·simp only[hk,decide_true,Bool.and_self,Bool.true_and,if_true]
     exact⟨fun h=>by rw[h1 h],fun h=>by have:=h2 h;omega⟩
    ·simp[hk]
theorem sE:∀(ts:List Term)(d:Nat),d≤4→(aQ ts d=true→bL ts (5-d)=fe ts d)∧(aQ ts d=false→13≤bL ts (5-d))
 | [],_,_=>by simp[aQ,bL,fe]
 | t::ts,d,hd=>by
   obtain⟨h1,h2⟩:=lE t d hd
   obtain⟨h3,h4⟩:=sE ts d hd
   simp only[aQ,bL,fe]
   cases ht:aB t d
   ·have:=h2 ht
    exact⟨fun h=>by simp at h,fun _=>by omega⟩
   ·cases hts:aQ ts d
    ·have:=h4 hts
     exact⟨fun h=>by simp at h,fun _=>by omega⟩
    ·exact⟨fun _=>by rw[h1 ht,h3 hts],fun h=>by simp at h⟩
end
def right(t:Term):Bool:=aB t 4&&decide (many t 4≤12)
theorem uf(t:Term):right t=isTerm t:=by
 have h:=lE t 4 (by omega)
 simp only[show 5-4=1 from rfl] at h
 obtain⟨h1,h2⟩:=h
 unfold right isTerm
 cases h:aB t 4
 ·have:=h2 h
  simp only[Bool.false_and]
  symm
  simp only[decide_eq_false_iff_not]
  omega
 ·rw[←h1 h]
  simp
theorem du{t:Term}(h:isTerm t=true):aB t 4=true:=by
 rw[←uf] at h
 simp only[right,Bool.and_eq_true] at h
 exact h.1
mutual
theorem um:∀(t:Term)(d:Nat),aB t d=true→aB t (d+1)=true
 | .mk n ks,0,h=>by simp[aB] at h
 | .mk n ks,d+1,h=>by
   simp only[aB,Bool.and_eq_true] at h⊢
   exact⟨h.1,h.2.1,zu ks d h.2.2⟩
theorem zu:∀(ts:List Term)(d:Nat),aQ ts d=true→aQ ts (d+1)=true
 | [],_,_=>by simp[aQ]
 | t::ts,d,h=>by
   simp only[aQ,Bool.and_eq_true] at h⊢
   exact⟨um t d h.1,zu ts d h.2⟩
end
theorem gN:∀{ts:List Term}{d:Nat},aQ ts d=true→∀t∈ts,aB t d=true
 | [],_,_,t,ht=>by simp at ht
 | a::ts,d,h,t,ht=>by
   simp only[aQ,Bool.and_eq_true] at h
   rcases List.mem_cons.1 ht with rfl|ht
   ·exact h.1
   ·exact gN h.2 t ht
theorem hH{t:Term}{d:Nat}(h:aB t (d+1)=true):cg t.name=true∧t.kids.length≤2∧aQ t.kids d=true:=by
 cases t with
 | mk n ks=>
   simp only[aB,Bool.and_eq_true,decide_eq_true_eq] at h
   exact⟨h.1,h.2.1,h.2.2⟩
mutual
theorem Dd:∀(t:Term)(d:Nat),aB t d=true→many t d+1≤2 ^ d
 | .mk n ks,0,h=>by simp[aB] at h
 | .mk n ks,d+1,h=>by
   simp only[aB,Bool.and_eq_true,decide_eq_true_eq] at h
   have:=sq ks d h.2.2
   simp only[many]
   have h3:ks.length*(2 ^ d-1)≤2*(2 ^ d-1):=Nat.mul_le_mul_right _ h.2.1
   have h4:1≤2 ^ d:=Nat.one_le_two_pow
   rw[Nat.pow_succ]
   omega
theorem sq:∀(ts:List Term)(d:Nat),aQ ts d=true→fe ts d≤ts.length*(2 ^ d-1)
 | [],_,_=>by simp[fe]
 | t::ts,d,h=>by
   simp only[aQ,Bool.and_eq_true] at h
   have h1:=Dd t d h.1
   have h2:=sq ts d h.2
   simp only[fe,List.length_cons,Nat.add_mul,Nat.one_mul]
   omega
end
mutual
theorem vW:∀(t:Term)(deep:Nat),1≤deep→deep≤5→eF t deep+14≤27*2 ^ (5-deep)
 | .mk n ks,deep,h1,h5=>by
   simp only[eF]
   split
   ·rename_i h
    simp only[Bool.and_eq_true,decide_eq_true_eq] at h
    have:=nJ ks (deep+1) (by omega) (by omega)
    have h3:ks.length*(27*2 ^ (5-(deep+1))-14)≤2*(27*2 ^ (5-(deep+1))-14):=Nat.mul_le_mul_right _ h.1.2
    have e:5-deep=(5-(deep+1))+1:=by omega
    have h4:1≤2 ^ (5-(deep+1)):=Nat.one_le_two_pow
    rw[e,Nat.pow_succ]
    omega
   ·have h4:1≤2 ^ (5-deep):=Nat.one_le_two_pow
    omega
theorem nJ:∀(ts:List Term)(deep:Nat),1≤deep→deep≤5→bL ts deep≤ts.length*(27*2 ^ (5-deep)-14)
 | [],_,_,_=>by simp[bL]
 | t::ts,deep,h1,h5=>by
   have h2:=vW t deep h1 h5
   have h3:=nJ ts deep h1 h5
   simp only[bL,List.length_cons,Nat.add_mul,Nat.one_mul]
   omega
end
theorem cc:∀(ts l:List Term),aq l ts=ts.foldl a8 l
 | [],_=>rfl
 | t::ts,l=>by simp only[aq,List.foldl_cons,cc ts]
theorem jV{ts:List Term}{i:Nat}(h:i<ts.length)(l:List Term):aq l (ts.take (i+1))=a8 (aq l (ts.take i)) ts[i]:=by
 have e:ts.take (i+1)=ts.take i++[ts[i]]:=by rw[List.take_add_one,List.getElem?_eq_getElem h];rfl
 rw[e,cc,cc,List.foldl_append]
 rfl
theorem kg(l:List Term)(t:Term):a8 l t=if aF (aq l t.kids) t<0 then aq l t.kids++[t] else aq l t.kids:=by
 cases t;rfl
mutual
theorem rf:∀(t:Term)(d:Nat)(l:List Term),aB t d=true→(a8 l t).length≤l.length+many t d
 | .mk n ks,0,l,h=>by simp[aB] at h
 | .mk n ks,d+1,l,h=>by
   simp only[aB,Bool.and_eq_true] at h
   have:=kC ks d l h.2.2
   simp only[a8,many]
   split
   ·simp only[List.length_append,List.length_cons,List.length_nil]
    omega
   ·omega
theorem kC:∀(ts:List Term)(d:Nat)(l:List Term),aQ ts d=true→(aq l ts).length≤l.length+fe ts d
 | [],_,_,_=>by simp[aq]
 | t::ts,d,l,h=>by
   simp only[aQ,Bool.and_eq_true] at h
   have h1:=rf t d l h.1
   have h2:=kC ts d (a8 l t) h.2
   simp only[aq,fe]
   omega
end
theorem kd:∀{ts:List Term}{d:Nat},aQ ts d=true→∀i,aQ (ts.take i) d=true
 | [],_,_,i=>by simp[aQ]
 | t::ts,d,h,0=>by simp[aQ]
 | t::ts,d,h,i+1=>by
   simp only[aQ,Bool.and_eq_true,List.take_succ_cons] at h⊢
   exact⟨h.1,kd h.2 i⟩
theorem tq{t:Term}{d:Nat}{l:List Term}(h:aB t d=true)(hd:d≤4):(a8 l t).length≤l.length+15:=by
 have h1:=rf t d l h
 have h2:=Dd t d h
 have h3:2 ^ d≤2 ^ 4:=Nat.pow_le_pow_right (by omega) hd
 omega
theorem q9{t:Term}{d:Nat}{l:List Term}(h:aB t (d+1)=true)(hd:d≤3)(i:Nat):(aq l (t.kids.take i)).length≤l.length+14:=by
 obtain⟨_,h1,h2⟩:=hH h
 have h3:=kC (t.kids.take i) d l (kd h2 i)
 have h4:=sq (t.kids.take i) d (kd h2 i)
 have h5:2 ^ d≤2 ^ 3:=Nat.pow_le_pow_right (by omega) hd
 have h6:(t.kids.take i).length≤2:=by simp;omega
 have h7:(t.kids.take i).length*(2 ^ d-1)≤2*(2 ^ d-1):=Nat.mul_le_mul_right _ h6
 omega
end Go.Mod
namespace Go.Mod
open Go.Eng
theorem yD{n:Int}:isSort n=true↔n=0∨n=1:=by simp[isSort]
theorem xP:∀{l:List Sym}{p:Option gR},jM p l=true→∀x∈l,gP x=true
 | [],_,_,x,hx=>by simp at hx
 | a::l,p,h,x,hx=>by
   simp only[jM,Bool.and_eq_true] at h
   rcases List.mem_cons.1 hx with rfl|hx
   ·exact h.1
   ·exact xP h.2.2 x hx
theorem A9{s:bA}{n:gR}{x:Sym}(hs:bV s=true)(h:symbol s n=some x):gP x=true:=by
 simp only[bV,Bool.and_eq_true] at hs
 exact xP hs.1 x (List.mem_of_find?_eq_some h)
theorem ye{x:Sym}(h:gP x=true):isSort x.sort=true∧∀n∈x.args,isSort n=true:=by
 simp only[gP,Bool.and_eq_true,List.all_eq_true] at h
 exact⟨h.2.2.1,h.2.2.2⟩
theorem D6{s:bA}{t:Term}{n:Int}(hs:bV s=true)(h:bB s t=some n):isSort n=true:=by
 cases t with
 | mk nm ks=>
   simp only[bB] at h
   cases hx:symbol s nm with
   | none=>rw[hx] at h;cases h
   | some x=>
     rw[hx] at h
     simp only at h
     split at h
     ·cases h
      exact(ye (A9 hs hx)).1
     ·cases h
theorem qn:c5 40=false:=by decide
theorem qk:c5 41=false:=by decide
theorem qj:c5 44=false:=by decide
def IV(r:gR):Prop:=∀c x,r=c::x→c5 c=false
def D2(r:gR):Prop:=∀c x,r=c::x→c5 c=false∧c≠40
theorem nV{c:UInt8}{x:gR}(h:c5 c=false):IV (c::x):=by
 intro c' x' e
 cases e
 exact h
theorem fY{c:UInt8}{x:gR}(h:c5 c=false)(h2:c≠40):D2 (c::x):=by
 intro c' x' e
 cases e
 exact⟨h,h2⟩
theorem D2.n{r:gR}(h:D2 r):IV r:=fun c x e=>(h c x e).1
theorem jG:∀{a b r r':gR},a.all c5=true→b.all c5=true→IV r→IV r'→a++r=b++r'→a=b∧r=r'
 | [],[],r,r',_,_,_,_,h=>⟨rfl,by simpa using h⟩
 | [],c::b,r,r',_,hb,hr,_,h=>by
   simp only[List.all_cons,Bool.and_eq_true] at hb
   have:=hr c (b++r') (by simpa using h)
   rw[this] at hb
   simp at hb
 | c::a,[],r,r',ha,_,_,hr',h=>by
   simp only[List.all_cons,Bool.and_eq_true] at ha
   have:=hr' c (a++r) (by simpa using h.symm)
   rw[this] at ha
   simp at ha
 | c::a,d::b,r,r',ha,hb,hr,hr',h=>by
   simp only[List.all_cons,Bool.and_eq_true] at ha hb
   simp only[List.cons_append,List.cons.injEq] at h
   obtain⟨h1,h2⟩:=jG ha.2 hb.2 hr hr' h.2
   exact⟨by rw[h.1,h1],h2⟩
theorem yW{n:gR}(h:cg n=true):n.all c5=true:=by
 simp only[cg,Bool.and_eq_true] at h
 exact h.2
mutual
theorem oP:∀(t u:Term)(d:Nat)(r r':gR),aB t d=true→aB u d=true→D2 r→D2 r'→ak t++r=ak u++r'→t=u∧r=r'
 | t,u,0,r,r',ht,_,_,_,_=>by simp[aB] at ht
 | .mk n ks,.mk m js,d+1,r,r',ht,hu,hr,hr',h=>by
   simp only[aB,Bool.and_eq_true] at ht hu
   have hn:=yW ht.1
   have hm:=yW hu.1
   match ks,js,ht,hu,h with
   | [],[],ht,hu,h=>
     simp only[ak] at h
     obtain⟨h1,h2⟩:=jG hn hm hr.n hr'.n h
     exact⟨by rw[h1],h2⟩
   | [],k::js,ht,hu,h=>
     simp only[ak,List.append_assoc,List.cons_append] at h
     obtain⟨h1,h2⟩:=jG hn hm hr.n (nV qn) h
     exact absurd rfl ((hr _ _ h2).2)
   | k::ks,[],ht,hu,h=>
     simp only[ak,List.append_assoc,List.cons_append] at h
     obtain⟨h1,h2⟩:=jG hn hm (nV qn) hr'.n h
     exact absurd rfl ((hr' _ _ h2.symm).2)
   | k::ks,j::js,ht,hu,h=>
     simp only[ak,List.append_assoc,List.cons_append] at h
     obtain⟨h1,h2⟩:=jG hn hm (nV qn) (nV qn) h
     simp only[List.cons.injEq,true_and] at h2
     obtain⟨h3,h4⟩:=Bb (k::ks) (j::js) d r r' ht.2.2 hu.2.2 (by simp) (by simp) (by simpa[bX] using h2)
     exact⟨by rw[h1,h3],h4⟩
theorem Bb:∀(ts us:List Term)(d:Nat)(r r':gR),aQ ts d=true→aQ us d=true→ts≠[]→us≠[]→dH (bX ts)++41::r=dH (bX us)++41::r'→ts=us∧r=r'
 | [],_,_,_,_,_,_,h,_,_=>absurd rfl h
 | _::_,[],_,_,_,_,_,_,h,_=>absurd rfl h
 | [t],[u],d,r,r',ht,hu,_,_,h=>by
   simp only[aQ,Bool.and_eq_true] at ht hu
   simp only[bX,dH] at h
   obtain⟨h1,h2⟩:=oP t u d _ _ ht.1 hu.1 (fY qk (by decide)) (fY qk (by decide)) h
   simp only[List.cons.injEq,true_and] at h2
   exact⟨by rw[h1],h2⟩
 | [t],u::v::us,d,r,r',ht,hu,_,_,h=>by
   simp only[aQ,Bool.and_eq_true] at ht hu
   simp only[bX,dH,List.append_assoc,List.cons_append] at h
   obtain⟨h1,h2⟩:=oP t u d _ _ ht.1 hu.1 (fY qk (by decide)) (fY qj (by decide)) h
   simp at h2
 | t::w::ts,[u],d,r,r',ht,hu,_,_,h=>by
   simp only[aQ,Bool.and_eq_true] at ht hu
   simp only[bX,dH,List.append_assoc,List.cons_append] at h
   obtain⟨h1,h2⟩:=oP t u d _ _ ht.1 hu.1 (fY qj (by decide)) (fY qk (by decide)) h
   simp at h2
 | t::w::ts,u::v::us,d,r,r',ht,hu,_,_,h=>by
   simp only[aQ,Bool.and_eq_true] at ht hu
   simp only[bX,dH,List.append_assoc,List.cons_append] at h
   obtain⟨h1,h2⟩:=oP t u d _ _ ht.1 hu.1 (fY qj (by decide)) (fY qj (by decide)) h
   simp only[List.cons.injEq,true_and] at h2
   obtain⟨h3,h4⟩:=Bb (w::ts) (v::us) d r r' (by simp only[aQ,Bool.and_eq_true];exact ht.2) (by simp only[aQ,Bool.and_eq_true];exact hu.2) (by simp) (by simp) (by simpa[bX] using h2)
   exact⟨by rw[h1,h3],h4⟩
end
theorem Dy{t u:Term}(ht:isTerm t=true)(hu:isTerm u=true)(h:ak t=ak u):t=u:=
 (oP t u 4 [] [] (du ht) (du hu) (fun _ _ e=>by cases e) (fun _ _ e=>by cases e) (by rw[h])).1
mutual
theorem xR:∀(t:Term)(d:Nat),aB t d=true→(ak t).length+6≤8*2 ^ d
 | t,0,h=>by simp[aB] at h
 | .mk n [],d+1,h=>by
   simp only[aB,Bool.and_eq_true] at h
   have h1:n.length≤2:=by
    have:=h.1
    simp only[cg,Bool.and_eq_true] at this
    have:=bu.1 this.1
    omega
   have h4:1≤2 ^ d:=Nat.one_le_two_pow
   simp only[ak,Nat.pow_succ]
   omega
 | .mk n (k::ks),d+1,h=>by
   simp only[aB,Bool.and_eq_true,decide_eq_true_eq] at h
   have h1:n.length≤2:=by
    have:=h.1
    simp only[cg,Bool.and_eq_true] at this
    have:=bu.1 this.1
    omega
   have h2:=AQ (k::ks) d h.2.2
   have h4:1≤2 ^ d:=Nat.one_le_two_pow
   simp only[bX] at h2
   simp only[ak,List.length_append,List.length_cons,List.length_nil,Nat.pow_succ]
   have h3:(k::ks).length*(8*2 ^ d-5)≤2*(8*2 ^ d-5):=Nat.mul_le_mul_right _ h.2.1
   omega
theorem AQ:∀(ts:List Term)(d:Nat),aQ ts d=true→(dH (bX ts)).length≤ts.length*(8*2 ^ d-5)
 | [],_,_=>by simp[bX,dH]
 | [t],d,h=>by
   simp only[aQ,Bool.and_eq_true] at h
   have:=xR t d h.1
   simp only[bX,dH,List.length_cons,List.length_nil]
   omega
 | t::u::ts,d,h=>by
   simp only[aQ,Bool.and_eq_true] at h
   have h1:=xR t d h.1
   have h2:=AQ (u::ts) d (by simp only[aQ,Bool.and_eq_true];exact h.2)
   simp only[bX] at h2
   simp only[bX,dH,List.length_append,List.length_cons] at h2⊢
   have e:(ts.length+1+1)*(8*2 ^ d-5)=(ts.length+1)*(8*2 ^ d-5)+(8*2 ^ d-5):=by rw[Nat.add_mul (ts.length+1) 1];omega
   rw[e]
   omega
end
theorem nI{t:Term}{d:Nat}(h:aB t d=true)(hd:d≤4):(ak t).length≤122:=by
 have h1:=xR t d h
 have h2:2 ^ d≤2 ^ 4:=Nat.pow_le_pow_right (by omega) hd
 omega
theorem EV{α:Type}{p:α→Bool}:∀{xs:List α}{i:Int},0≤i→(0≤bZ p xs i↔∃x∈xs,p x=true)
 | [],i,h=>by simp[bZ]
 | x::xs,i,h=>by
   simp only[bZ,List.mem_cons,exists_eq_or_imp]
   split
   ·rename_i hx
    simp[hx,h]
   ·rename_i hx
    rw[EV (by omega)]
    simp[hx]
theorem pP{α:Type}{p:α→Bool}:∀{xs:List α}{i:Int},0≤i→bZ p xs i=if bZ p xs 0<0 then -1 else bZ p xs 0+i
 | [],i,h=>by simp[bZ]
 | x::xs,i,h=>by
   simp only[bZ]
   split
   ·simp
   ·rw[pP (i:=i+1) (by omega),pP (i:=0+1) (by omega)]
    rcases Classical.em (bZ p xs 0<0) with hc|hc
    ·simp[hc]
    ·simp only[hc,if_false]
     rw[if_neg (by omega)]
     omega
theorem FG{α:Type}{p:α→Bool}:∀{xs:List α}{i:Int},bZ p xs i<i+xs.length∨bZ p xs i = -1
 | [],i=>by simp[bZ]
 | x::xs,i=>by
   simp only[bZ,List.length_cons]
   split
   ·left;omega
   ·rcases FG (p:=p) (xs:=xs) (i:=i+1) with h|h
    ·left;omega
    ·right;exact h
theorem bl{l:List Term}{t:Term}:0≤aF l t↔t∈l:=by
 unfold aF idxOf
 rw[EV (by omega)]
 simp
theorem gJ{l:List Term}{t:Term}(h:t∈l):(aF l t).toNat<l.length:=by
 have h1:=bl.2 h
 rcases FG (p:=fun u=>decide (t=u)) (xs:=l) (i:=0) with h2|h2
 ·unfold aF idxOf at h1⊢
  omega
 ·unfold aF idxOf at h1
  omega
theorem eX{t:Term}:∀{l:List Term},t∈l→l[(aF l t).toNat]?=some t
 | [],h=>by simp at h
 | x::xs,h=>by
   unfold aF idxOf
   simp only[bZ]
   rcases Classical.em (t=x) with hx|hx
   ·simp[hx]
   ·have hm:t∈xs:=by simpa[hx] using h
    have h0:=bl.2 hm
    have ih:=eX hm
    unfold aF idxOf at ih h0
    simp only[hx,decide_false,Bool.false_eq_true,if_false]
    rw[pP (by omega),if_neg (by omega)]
    have e:(bZ (fun u=>decide (t=u)) xs 0+(0+1)).toNat=(bZ (fun u=>decide (t=u)) xs 0).toNat+1:=by omega
    rw[e,List.getElem?_cons_succ,ih]
theorem El{l:List Term}{t u:Term}(ht:t∈l)(hu:u∈l)(h:aF l t=aF l u):t=u:=by
 have h1:=eX ht
 have h2:=eX hu
 rw[h,h2] at h1
 exact(Option.some.inj h1).symm
theorem mF:∀{cs:List Int}{i:Int}(v:Int),0≤i→eH cs i v=cs.set i.toNat (cs.getD i.toNat 0+v)
 | [],i,v,h=>by simp[eH]
 | c::cs,i,v,h=>by
   simp only[eH]
   rcases Classical.em (i=0) with h0|h0
   ·subst h0;simp
   ·rw[if_neg h0,mF v (by omega)]
    have e:i.toNat=(i-1).toNat+1:=by omega
    rw[e]
    simp
theorem pU:∀{cs:List Int}{i v:Int},(eH cs i v).length=cs.length
 | [],i,v=>rfl
 | c::cs,i,v=>by
   simp only[eH]
   split
   ·simp
   ·simp[pU (cs:=cs)]
theorem yV:∀{cs:List Int}{i k v w:Int},eH (eH cs i v) k w=eH (eH cs k w) i v
 | [],i,k,v,w=>rfl
 | c::cs,i,k,v,w=>by
   simp only[eH]
   rcases Classical.em (i=0) with hi|hi
   ·rcases Classical.em (k=0) with hk|hk
    ·simp only[hi,hk,if_true,eH]
     congr 1
     omega
    ·simp only[hi,hk,if_true,if_false,eH]
   ·rcases Classical.em (k=0) with hk|hk
    ·simp only[hi,hk,if_true,if_false,eH]
    ·simp only[hi,hk,if_false,eH]
     rw[yV (cs:=cs)]
def gX(nums:List Term):List Term→List Int→List Int→List Int
 | t::ts,n::ns,cs=>gX nums ts ns (cs.set (aF nums t).toNat n)
 | _,_,cs=>cs
theorem getD_set_ne{cs:List Int}{i k:Nat}{v:Int}(h:i≠k):(cs.set i v).getD k 0=cs.getD k 0:=by
 simp[List.getD,List.getElem?_set_ne h]
theorem Fg{nums:List Term}:∀{ts:List Term}{ns cs:List Int},ts.Nodup→(∀t∈ts,t∈nums∧cs.getD (aF nums t).toNat 0=0)→gX nums ts ns cs=df nums ts ns cs
 | [],_,_,_,_=>by simp[gX,df]
 | _::_,[],_,_,_=>by simp[gX,df]
 | t::ts,n::ns,cs,hd,h=>by
   simp only[gX,df]
   have ht:=h t (by simp)
   rw[mF n (bl.2 ht.1),ht.2,Int.zero_add]
   refine Fg (List.nodup_cons.1 hd).2 fun u hu=>?_
   have hu':=h u (by simp[hu])
   refine⟨hu'.1,?_⟩
   rw[getD_set_ne,hu'.2]
   intro e
   have h1:=bl.2 ht.1
   have h2:=bl.2 hu'.1
   have:t=u:=El ht.1 hu'.1 (by omega)
   subst this
   exact(List.nodup_cons.1 hd).1 hu
theorem Na(k:Nat):([0,0,0,0]:List Int).getD k 0=0:=by
 match k with
 | 0=>rfl
 | 1=>rfl
 | 2=>rfl
 | 3=>rfl
 | k+4=>rfl
end Go.Mod
namespace Go.Mod
open Go.Eng
theorem HQ{n:Int}:fE n=true ↔ -1000000≤n∧n≤1000000:=bu
theorem fy{l:eQ}:bR l=true↔l.an.length=4∧(∀c∈l.an,-1000000≤c∧c≤1000000)∧(-1000000≤l.bound∧l.bound≤1000000):=by
 simp only[bR,Bool.and_eq_true,List.all_eq_true,decide_eq_true_eq,HQ]
 constructor
 ·rintro⟨h1,h2,h3⟩
  exact⟨h2,h1,h3⟩
 ·rintro⟨h1,h2,h3⟩
  exact⟨h2,h1,h3⟩
theorem cK{m b:Int}(h0:0≤m)(h1:m≤1000000)(h2:-1000000≤b∧b≤1000000):-1000000000000≤m*b∧m*b≤1000000000000:=by
 have a1:m*b≤m*1000000:=Int.mul_le_mul_of_nonneg_left h2.2 h0
 have a2:m*(-1000000)≤m*b:=Int.mul_le_mul_of_nonneg_left h2.1 h0
 omega
theorem jA:∀{m n:Int}{as bs:List Int},as.length=bs.length→(comb m n as bs).length=as.length
 | _,_,[],[],_=>rfl
 | _,_,[],_::_,h=>by simp at h
 | _,_,_::_,[],h=>by simp at h
 | m,n,a::as,b::bs,h=>by
   simp only[comb,List.length_cons]
   rw[jA (by simpa using h)]
theorem dg:∀{m n:Int}{as bs:List Int}{i:Nat}(h:i<as.length)(h':i<bs.length),comb m n (as.take (i+1)) (bs.take (i+1))=comb m n (as.take i) (bs.take i)++[m*as[i]+n*bs[i]]
 | _,_,[],_,i,h,_=>by simp at h
 | _,_,_::_,[],i,_,h=>by simp at h
 | m,n,a::as,b::bs,0,h,h'=>by simp[comb]
 | m,n,a::as,b::bs,i+1,h,h'=>by
   have:=dg (m:=m) (n:=n) (as:=as) (bs:=bs) (i:=i) (by simpa using h) (by simpa using h')
   simp only[List.take_succ_cons,comb,List.cons_append,List.getElem_cons_succ] at this⊢
   rw[this]
theorem mI{a b:eQ}{m n:Int}(h1:bR a=true)(h2:bR b=true)(h3:within m 0 1000000=true)(h4:within n 0 1000000=true):cS a m b n=lB a m b n:=by simp[cS,h1,h2,h3,h4]
theorem Hc{ls:List eQ}{ts:List Int}{i:Nat}(h:i<ls.length)(h':i<ts.length)(out:eQ):vO (ls.drop i) (ts.drop i) out=if(cS out 1 ls[i] ts[i]).2 then vO (ls.drop (i+1)) (ts.drop (i+1)) (cS out 1 ls[i] ts[i]).1 else(jE,false):=by
 rw[List.drop_eq_getElem_cons h,List.drop_eq_getElem_cons h',vO]
end Go.Mod
namespace Go.Mod
open Go.Eng
theorem gO{α:Type}{xs:List α}{i:Nat}(h:i<xs.length):xs.take (i+1)=xs.take i++[xs[i]]:=by rw[List.take_add_one,List.getElem?_eq_getElem h];rfl
theorem jD(p:Option Term)(t:Term)(ts:List Term)(n:Int)(ns:List Int):eU p (t::ts) (n::ns)=(isTerm t&&(within n (-50) 50&&(decide (n≠0)&&((match p with|none=>true|some q=>cR (ak q) (ak t))&&eU (some t) ts ns)))):=rfl
theorem nx:∀{ts:List Term}{ns:List Int}{p:Option Term},eU p ts ns=true→ns.length=ts.length→(∀t∈ts,isTerm t=true)∧(∀n∈ns,-50≤n∧n≤50)
 | [],[],_,_,_=>by simp
 | [],_::_,_,_,h=>by simp at h
 | _::_,[],_,_,h=>by simp at h
 | t::ts,n::ns,p,h,hl=>by
   rw[jD] at h
   simp only[Bool.and_eq_true] at h
   obtain⟨h1,h2⟩:=nx h.2.2.2.2 (by simpa using hl)
   have h3:=bu.1 h.2.1
   refine⟨fun u hu=>?_,fun m hm=>?_⟩
   ·rcases List.mem_cons.1 hu with rfl|hu
    ·exact h.1
    ·exact h1 u hu
   ·rcases List.mem_cons.1 hm with rfl|hm
    ·exact h3
    ·exact h2 m hm
theorem kU{a:Atom}(h:aZ a=true)(k:a.kind=2):isNone a.A=true∧isNone a.B=true∧a.nums.length≤4∧a.times.length=a.nums.length∧(-1000≤a.bound∧a.bound≤1000)∧eU none a.nums a.times=true:=by
 rw[aZ,if_neg (by omega),if_pos k] at h
 simp only[Bool.and_eq_true,decide_eq_true_eq] at h
 have h3:=bu.1 h.2.2.1
 have h5:=bu.1 h.2.2.2.2.1
 exact⟨h.1,h.2.1,by omega,h.2.2.2.1,h5,h.2.2.2.2.2⟩
theorem gQ{a:Atom}(h:aZ a=true):a.kind=1∨a.kind=2:=by
 rcases Classical.em (a.kind=1) with k1|k1
 ·exact .inl k1
 ·rcases Classical.em (a.kind=2) with k2|k2
  ·exact .inr k2
  ·simp[aZ,k1,k2] at h
theorem A6{a:Atom}(h:aZ a=true)(k:a.kind=1):isTerm a.A=true∧isTerm a.B=true:=by
 simp only[aZ,k,if_true,Bool.and_eq_true] at h
 exact⟨h.1,h.2.1⟩
theorem gi{a:Atom}(h:aZ a=true):(aH a).length≤4∧∀t∈aH a,isTerm t=true:=by
 unfold aH
 rcases Classical.em (a.kind=1) with k1|k1
 ·rw[if_pos k1]
  have:=A6 h k1
  refine⟨by simp,fun t ht=>?_⟩
  simp only[List.mem_cons,List.not_mem_nil,or_false] at ht
  rcases ht with rfl|rfl
  ·exact this.1
  ·exact this.2
 ·rw[if_neg k1]
  have k2:a.kind=2:=(gQ h).resolve_left k1
  have:=kU h k2
  exact⟨this.2.2.1,(nx this.2.2.2.2.2 this.2.2.2.1).1⟩
def br(lits:List aE):List Term:=lits.flatMap fun l=>aH l.atom
theorem eY(lits:List aE):ai lits=gh (br lits):=rfl
theorem me{lits:List aE}{i:Nat}(h:i<lits.length):br (lits.take (i+1))=br (lits.take i)++aH lits[i].atom:=by
 rw[gO h]
 simp only[br,List.flatMap_append,List.flatMap_cons,List.flatMap_nil,List.append_nil]
theorem c9:∀{lits:List aE},(∀l∈lits,aZ l.atom=true)→(br lits).length≤4*lits.length∧∀t∈br lits,isTerm t=true
 | [],_=>by simp[br]
 | l::ls,h=>by
   obtain⟨h1,h2⟩:=c9 (lits:=ls) fun x hx=>h x (by simp[hx])
   obtain⟨h3,h4⟩:=gi (h l (by simp))
   simp only[br,List.flatMap_cons,List.length_append,List.length_cons,List.mem_append] at h1 h2⊢
   refine⟨by omega,fun t ht=>?_⟩
   rcases ht with ht|ht
   ·exact h4 t ht
   ·exact h2 t ht
theorem wg:∀{ts out:List Term},(∀t∈ts,isTerm t=true)→jq ts out=aq out ts
 | [],_,_=>by simp[jq,aq]
 | t::ts,out,h=>by
   simp only[jq,aq,h t (by simp),if_true]
   exact wg fun u hu=>h u (by simp[hu])
theorem fw{ts:List Term}(h:∀t∈ts,isTerm t=true):gh ts=aq [] ts:=wg h
mutual
theorem rh:∀(t:Term)(l:List Term),(∀u∈l,u∈a8 l t)∧t∈a8 l t
 | .mk n ks,l=>by
   have h:=lf ks l
   simp only[a8]
   split
   ·exact⟨fun u hu=>by simp[h u hu],by simp⟩
   ·rename_i hx
    exact⟨h,bl.1 (by omega)⟩
theorem lf:∀(ts:List Term)(l:List Term),∀u∈l,u∈aq l ts
 | [],l,u,h=>by simpa[aq] using h
 | t::ts,l,u,h=>by
   simp only[aq]
   exact lf ts _ u ((rh t l).1 u h)
end
theorem lp:∀(ts:List Term)(l:List Term),∀t∈ts,t∈aq l ts
 | [],_,t,h=>by simp at h
 | a::ts,l,t,h=>by
   simp only[aq]
   rcases List.mem_cons.1 h with rfl|h
   ·exact lf ts _ _ (rh _ l).2
   ·exact lp ts _ t h
mutual
theorem om:∀(t:Term)(d:Nat)(l:List Term),d≤4→aB t d=true→many t d≤12→(∀u∈l,isTerm u=true)→∀u∈a8 l t,isTerm u=true
 | .mk n ks,0,l,_,h,_,_,u,_=>by simp[aB] at h
 | .mk n ks,d+1,l,hd,h,hm,hl,u,hu=>by
   have h':=h
   simp only[aB,Bool.and_eq_true] at h'
   have hk:=mQ ks d l (by omega) h'.2.2 (by simp only[many] at hm;omega) hl
   simp only[a8] at hu
   split at hu
   ·simp only[List.mem_append,List.mem_cons,List.not_mem_nil,or_false] at hu
    rcases hu with hu|rfl
    ·exact hk u hu
    ·rw[←uf]
     have up:∀(k:Nat)(t:Term)(d:Nat),d+k≤4→aB t d=true→aB t (d+k)=true:=by
      intro k
      induction k with
      | zero=>intro t d _ h;exact h
      | succ k ih=>intro t d hk h;rw[←Nat.add_assoc];exact um _ _ (ih t d (by omega) h)
     have s4:=up (4-(d+1)) _ (d+1) (by omega) h
     rw[show d+1+(4-(d+1))=4 by omega] at s4
     have m1:=(lE (.mk n ks) (d+1) hd).1 h
     have m2:=(lE (.mk n ks) 4 (by omega)).1 s4
     simp only[right,s4,Bool.true_and,decide_eq_true_eq]
     have mm:∀(k:Nat)(t:Term)(d:Nat),d+k≤4→aB t d=true→many t (d+k)=many t d:=by
      intro k
      induction k with
      | zero=>intro t d _ _;rfl
      | succ k ih=>
        intro t d hk h
        have h1:=ih t d (by omega) h
        have:∀(d:Nat)(t:Term),aB t d=true→many t (d+1)=many t d:=by
         intro d
         induction d with
         | zero=>intro t h;cases t;simp[aB] at h
         | succ d ihd=>
           intro t h
           cases t with
           | mk n ks=>
             simp only[aB,Bool.and_eq_true] at h
             have hs:∀(ks:List Term),aQ ks d=true→fe ks (d+1)=fe ks d:=by
              intro ks
              induction ks with
              | nil=>intro _;simp[fe]
              | cons a as iha=>
                intro h
                simp only[aQ,Bool.and_eq_true] at h
                simp only[fe,ihd a h.1,iha h.2]
             simp only[many,hs ks h.2.2]
        rw[←Nat.add_assoc,this (d+k) t (up k t d (by omega) h),h1]
     have:=mm (4-(d+1)) (.mk n ks) (d+1) (by omega) h
     rw[show d+1+(4-(d+1))=4 by omega] at this
     omega
   ·exact hk u hu
theorem mQ:∀(ts:List Term)(d:Nat)(l:List Term),d≤4→aQ ts d=true→fe ts d≤12→(∀u∈l,isTerm u=true)→∀u∈aq l ts,isTerm u=true
 | [],_,l,_,_,_,hl,u,hu=>hl u (by simpa[aq] using hu)
 | t::ts,d,l,hd,h,hm,hl,u,hu=>by
   simp only[aQ,Bool.and_eq_true] at h
   simp only[fe] at hm
   simp only[aq] at hu
   exact mQ ts d _ hd h.2 (by omega) (om t d l hd h.1 (by omega) hl) u hu
end
theorem mM:∀(ts l:List Term),(∀t∈ts,isTerm t=true)→(∀u∈l,isTerm u=true)→∀u∈aq l ts,isTerm u=true
 | [],l,_,hl,u,hu=>hl u (by simpa[aq] using hu)
 | t::ts,l,ht,hl,u,hu=>by
   simp only[aq] at hu
   have h4:=ht t (by simp)
   have hr:=h4
   rw[←uf] at hr
   simp only[right,Bool.and_eq_true,decide_eq_true_eq] at hr
   exact mM ts _ (fun x hx=>ht x (by simp[hx])) (om t 4 l (by omega) hr.1 hr.2 hl) u hu
theorem jP{ts:List Term}(h:∀t∈ts,isTerm t=true):∀u∈gh ts,isTerm u=true:=by
 rw[fw h]
 exact mM ts [] h (by simp)
theorem qY{ts:List Term}(h:∀t∈ts,isTerm t=true):∀t∈ts,t∈gh ts:=by
 rw[fw h]
 exact lp ts []
theorem Ia{lits:List aE}{i:Nat}(h:i<lits.length):aI (lits.take (i+1))=aI (lits.take i)++(if lits[i].atom.kind=1∧lits[i].no=false then [⟨lits[i].atom.A,lits[i].atom.B⟩] else []):=by
 rw[gO h]
 simp only[aI,List.filterMap_append,List.filterMap_cons,List.filterMap_nil]
 split<;>simp_all
theorem Kw(lits:List aE):(aI lits).length≤lits.length:=by
 unfold aI
 exact List.length_filterMap_le ..
theorem yh{nums:List Term}:∀{ts:List Term}{ns cs:List Int}{i:Nat}(h:i<ts.length)(h':i<ns.length),df nums (ts.take (i+1)) (ns.take (i+1)) cs=eH (df nums (ts.take i) (ns.take i) cs) (aF nums ts[i]) ns[i]
 | [],_,_,_,h,_=>by simp at h
 | _::_,[],_,_,_,h=>by simp at h
 | t::ts,n::ns,cs,0,_,_=>by simp[df]
 | t::ts,n::ns,cs,i+1,h,h'=>by
   simp only[List.take_succ_cons,df,List.getElem_cons_succ]
   exact yh (by simpa using h) (by simpa using h')
theorem Bn{nums:List Term}:∀{ts:List Term}{ns cs:List Int},(df nums ts ns cs).length=cs.length
 | [],_,_=>by simp[df]
 | _::_,[],_=>by simp[df]
 | t::ts,n::ns,cs=>by simp only[df];rw[Bn,pU]
theorem wc:∀{cs:List Int}{i v m k:Int},(∀c∈cs,-m≤c∧c≤m) → -k≤v→v≤k→0≤k→∀c∈eH cs i v,-(m+k)≤c∧c≤m+k
 | [],i,v,m,k,_,_,_,_,c,hc=>by simp[eH] at hc
 | a::cs,i,v,m,k,h,h1,h2,h3,c,hc=>by
   have ha:=h a (by simp)
   simp only[eH] at hc
   split at hc
   ·rcases List.mem_cons.1 hc with rfl|hc
    ·omega
    ·have:=h c (by simp[hc]);omega
   ·rcases List.mem_cons.1 hc with rfl|hc
    ·omega
    ·exact wc (fun x hx=>h x (by simp[hx])) h1 h2 h3 c hc
theorem vu{nums:List Term}:∀{ts:List Term}{ns cs:List Int}{m:Int},(∀c∈cs,-m≤c∧c≤m)→(∀n∈ns,-50≤n∧n≤50)→0≤m→∀c∈df nums ts ns cs,-(m+50*ts.length)≤c∧c≤m+50*ts.length
 | [],_,cs,m,h,_,_,c,hc=>by simp only[df] at hc;have:=h c hc;simp;omega
 | _::_,[],cs,m,h,_,_,c,hc=>by simp only[df] at hc;have:=h c hc;omega
 | t::ts,n::ns,cs,m,h,hn,hm,c,hc=>by
   simp only[df] at hc
   have h1:=hn n (by simp)
   have:=vu (m:=m+50) (wc h h1.1 h1.2 (by omega)) (fun x hx=>hn x (by simp[hx])) (by omega) c hc
   simp only[List.length_cons]
   omega
theorem vp{cs:List Int}{i:Nat}{v:Int}(h:i<cs.length):(aJ cs).set i [.val (.int .i64 v)]=aJ (cs.set i v):=by
 simp[aJ,List.map_set]
theorem vD{nums:List Term}{lits:List aE}{i:Nat}(h:i<lits.length):bH nums (lits.take (i+1))=bH nums (lits.take i)++dq nums lits[i]:=by
 rw[gO h]
 simp only[bH,List.flatMap_append,List.flatMap_cons,List.flatMap_nil,List.append_nil]
theorem FO(nums:List Term)(l:aE):(dq nums l).length≤2:=by
 unfold dq
 split
 ·simp
 ·split<;>simp
theorem nG(nums:List Term):∀(lits:List aE),(bH nums lits).length≤2*lits.length
 | []=>by simp[bH]
 | l::ls=>by
   have h1:=FO nums l
   have h2:=nG nums ls
   simp only[bH,List.flatMap_cons,List.length_append,List.length_cons] at h2⊢
   omega
structure Fit(nums:List Term)(l:aE):Prop where
 wf:aZ l.atom=true
 sum:l.atom.kind=2→∀t∈l.atom.nums,t∈nums
 eq:l.atom.kind=1→(l.atom.A∈nums↔l.atom.B∈nums)
end Go.Mod
namespace Go.Mod
open Go.Eng
theorem MD(a b:UInt8):(a<b∧¬b<a∧a≠b)∨(a=b∧¬a<b∧¬b<a)∨(b<a∧¬a<b∧a≠b):=by
 simp only[UInt8.lt_iff_toNat_lt,ne_eq,←UInt8.toNat_inj]
 omega
theorem xt:∀(a b:List UInt8),(!(Op.bytesLess a b||decide (a=b)))=Op.bytesLess b a
 | [],[]=>by simp[Op.bytesLess]
 | [],_::_=>by simp[Op.bytesLess]
 | _::_,[]=>by simp[Op.bytesLess]
 | a::x,b::y=>by
   have ih:=xt x y
   rcases MD a b with⟨h1,h2,h3⟩|⟨rfl,h1,h2⟩|⟨h1,h2,h3⟩
   ·have h4:¬b=a:=fun h=>h3 h.symm
    simp[Op.bytesLess,h1,h2,h4]
   ·simp[Op.bytesLess,h1,←ih]
   ·have h4:¬b=a:=fun h=>h3 h.symm
    simp[Op.bytesLess,h1,h2,h3]
theorem oJ:∀(a:List UInt8),Op.bytesLess a a=false
 | []=>rfl
 | a::x=>by simp[Op.bytesLess,oJ x]
theorem rQ:∀{a b c:List UInt8},Op.bytesLess a b=true→Op.bytesLess b c=true→Op.bytesLess a c=true
 | _,[],_,h,_=>by simp[Op.bytesLess] at h
 | _,_::_,[],_,h=>by simp[Op.bytesLess] at h
 | [],_::_,_::_,_,_=>by simp[Op.bytesLess]
 | a::x,b::y,c::z,h1,h2=>by
   simp only[Op.bytesLess,Bool.or_eq_true,decide_eq_true_eq,Bool.and_eq_true,beq_iff_eq] at h1 h2⊢
   rcases h1 with h1|⟨rfl,h1⟩
   ·rcases h2 with h2|⟨rfl,h2⟩
    ·left
     rw[UInt8.lt_iff_toNat_lt] at *
     omega
    ·exact .inl h1
   ·rcases h2 with h2|⟨rfl,h2⟩
    ·exact .inl h2
    ·exact .inr ⟨rfl,rQ h1 h2⟩
theorem IH{a b:List UInt8}(h:Op.bytesLess a b=true):a≠b:=by
 rintro rfl
 rw[oJ] at h
 cases h
theorem yt{a b:List UInt8}(h:a≠b)(h2:Op.bytesLess a b=false):Op.bytesLess b a=true:=by
 rw[←xt a b,h2]
 simp[h]
theorem BC:∀{ts:List Term}{ns:List Int}{q:Term},eU (some q) ts ns=true→ns.length=ts.length→∀t∈ts,cR (ak q) (ak t)=true
 | [],_,_,_,_=>by simp
 | _::_,[],_,_,hl=>by simp at hl
 | t::ts,n::ns,q,h,hl=>by
   rw[jD] at h
   simp only[Bool.and_eq_true] at h
   intro u hu
   rcases List.mem_cons.1 hu with rfl|hu
   ·exact h.2.2.2.1
   ·exact rQ h.2.2.2.1 (BC h.2.2.2.2 (by simpa using hl) u hu)
theorem tt:∀{ts:List Term}{ns:List Int}{p:Option Term},eU p ts ns=true→ns.length=ts.length→ts.Nodup
 | [],_,_,_,_=>by simp
 | _::_,[],_,_,hl=>by simp at hl
 | t::ts,n::ns,p,h,hl=>by
   rw[jD] at h
   simp only[Bool.and_eq_true] at h
   have hl:ns.length=ts.length:=by simpa using hl
   refine List.nodup_cons.2 ⟨fun hm=>?_,tt h.2.2.2.2 hl⟩
   exact IH (BC h.2.2.2.2 hl t hm) rfl
end Go.Mod
namespace Go.Mod
open Go.Eng
theorem A4{nums:List Term}:∀{ts:List Term}{ns cs:List Int},(gX nums ts ns cs).length=cs.length
 | [],_,_=>by simp[gX]
 | _::_,[],_=>by simp[gX]
 | t::ts,n::ns,cs=>by simp only[gX];rw[A4,List.length_set]
theorem ru{nums:List Term}:∀{ts:List Term}{ns cs:List Int}{i:Nat}(h:i<ts.length)(h':i<ns.length),gX nums (ts.take (i+1)) (ns.take (i+1)) cs=(gX nums (ts.take i) (ns.take i) cs).set (aF nums ts[i]).toNat ns[i]
 | [],_,_,_,h,_=>by simp at h
 | _::_,[],_,_,_,h=>by simp at h
 | t::ts,n::ns,cs,0,_,_=>by simp[gX]
 | t::ts,n::ns,cs,i+1,h,h'=>by
   simp only[List.take_succ_cons,gX,List.getElem_cons_succ]
   exact ru (by simpa using h) (by simpa using h')
theorem JY{nums ts:List Term}{ns:List Int}{b:Int}{st:Bool}(hn:eU none ts ns=true)(hl:ns.length=ts.length)(hin:∀t∈ts,t∈nums):ez nums ts ns b st=⟨gX nums ts ns [0,0,0,0],b,st⟩:=by
 rw[ez,Fg (tt hn hl) fun t ht=>⟨hin t ht,Na _⟩]
theorem HW(nums:List Term)(a b:Term):ez nums [a,b] [-1,1] 0 false=ez nums [b,a] [1,-1] 0 false:=by
 simp only[ez,df]
 rw[yV]
theorem Rv{nums:List Term}{a b:Term}(ha:a∈nums)(hb:b∈nums)(ta:isTerm a=true)(tb:isTerm b=true):Fit nums (eE a b):=by
 refine⟨?_,fun h=>?_,fun _=>?_⟩
 ·simp[aZ,eE,zM,ta,tb]
 ·simp[eE,zM] at h
 ·simp[eE,zM,ha,hb]
theorem Jl{a b:Term}(ta:isTerm a=true)(tb:isTerm b=true)(h:cR (ak a) (ak b)=true)(m n:Int)(hm:within m (-50) 50=true)(hn:within n (-50) 50=true)(hm0:m≠0)(hn0:n≠0):aZ ⟨2,ao,ao,[a,b],[m,n],0,true⟩=true:=by
 have h2:eU none [a,b] [m,n]=true:=by
  rw[jD,jD]
  have e:eU (some b) [] []=true:=rfl
  simp[ta,tb,hm,hn,hm0,hn0,h,e]
 have e:aZ ⟨2,ao,ao,[a,b],[m,n],0,true⟩=(isNone ao&&(isNone ao&&(within ([a,b].length:Int) 1 4&&(decide ([m,n].length=[a,b].length)&&(within 0 (-1000) 1000&&eU none [a,b] [m,n]))))):=rfl
 rw[e,h2]
 rfl
theorem Nf{nums:List Term}{a b:Term}(ha:a∈nums)(hb:b∈nums)(ta:isTerm a=true)(tb:isTerm b=true)(hne:a≠b):Fit nums (ct a b):=by
 have ht:ak a≠ak b:=fun h=>hne (Dy ta tb h)
 unfold ct
 cases h:cR (ak b) (ak a)
 ·have h2:cR (ak a) (ak b)=true:=yt (a:=ak b) (b:=ak a) (fun e=>ht e.symm) h
  refine⟨Jl ta tb h2 1 (-1) rfl rfl (by omega) (by omega),fun _ t hm=>?_,fun h=>?_⟩
  ·simp only[Bool.false_eq_true,if_false,List.mem_cons,List.not_mem_nil,or_false] at hm
   rcases hm with rfl|rfl
   ·exact ha
   ·exact hb
  ·simp at h
 ·refine⟨Jl tb ta h (-1) 1 rfl rfl (by omega) (by omega),fun _ t hm=>?_,fun h=>?_⟩
  ·simp only[if_true,List.mem_cons,List.not_mem_nil,or_false] at hm
   rcases hm with rfl|rfl
   ·exact hb
   ·exact ha
  ·simp at h
theorem ju{s:bA}{lits:List aE}(h:bG s lits=true):(∀l∈lits,Fit (numsOf s lits) l)∧(∀t∈numsOf s lits,isTerm t=true)∧(numsOf s lits).length≤4∧lits.length≤6∧bV s=true∧(∀l∈lits,aZ l.atom=true)∧(∀t∈ai lits,isTerm t=true)∧(ai lits).length≤24:=by
 simp only[bG,Bool.and_eq_true,decide_eq_true_eq,List.all_eq_true] at h
 obtain⟨⟨⟨⟨hs,h6⟩,hA⟩,h24⟩,h4⟩:=h
 have hw:∀l∈lits,aZ l.atom=true:=by
  intro l hl
  have:=hA l hl
  simp only[bS,Bool.and_eq_true] at this
  exact this.2.1
 have hok:=(c9 hw).2
 have htt:∀t∈ai lits,isTerm t=true:=by rw[eY];exact jP hok
 have hin:∀l∈lits,∀t∈aH l.atom,t∈ai lits:=by
  intro l hl t ht
  rw[eY]
  exact qY hok t (List.mem_flatMap.2 ⟨l,hl,ht⟩)
 have hnum:∀t,t∈numsOf s lits↔t∈ai lits∧aY s t=true:=fun t=>List.mem_filter
 refine⟨fun l hl=>⟨hw l hl,fun k t ht=>?_,fun k=>?_⟩,fun t ht=>htt t ((hnum t).1 ht).1,h4,h6,hs,hw,htt,h24⟩
 ·have hk1:¬l.atom.kind=1:=by omega
  have ha:=hA l hl
  simp only[bS,Bool.and_eq_true,hk1,if_false,List.all_eq_true] at ha
  have hm:t∈aH l.atom:=by simp only[aH,hk1,if_false];exact ht
  exact(hnum t).2 ⟨hin l hl t hm,ha.2.2 t ht⟩
 ·have ha:=hA l hl
  simp only[bS,Bool.and_eq_true,k,if_true,fX,decide_eq_true_eq] at ha
  have hm:l.atom.A∈ai lits∧l.atom.B∈ai lits:=by
   have:aH l.atom=[l.atom.A,l.atom.B]:=by simp[aH,k]
   exact⟨hin l hl _ (by rw[this];simp),hin l hl _ (by rw[this];simp)⟩
  rw[hnum,hnum]
  simp only[hm.1,hm.2,true_and,aY,ha.2.2.2]
end Go.Mod
namespace Go.Mod
open Go.Eng
theorem mR{a:Rat}:aS a=true↔(-1000000000≤a.N∧a.N≤1000000000)∧(1≤a.D∧a.D≤1000000000)∧Int.gcd a.N a.D=1:=by
 simp only[aS,Bool.and_eq_true,bu,decide_eq_true_eq]
 constructor
 ·rintro⟨h1,h2,h3⟩;exact⟨h1,h2,by omega⟩
 ·rintro⟨h1,h2,h3⟩;exact⟨h1,h2,by omega⟩
theorem OU{a b:Rat}(h1:a.N=b.N)(h2:a.D=b.D):a=b:=by cases a;cases b;simp_all
theorem AO{a b:Rat}(ha:aS a=true)(hb:aS b=true)(h:a.N*b.D=b.N*a.D):a=b:=by
 rw[mR] at ha hb
 obtain⟨_,⟨a1,_⟩,ag⟩:=ha
 obtain⟨_,⟨b1,_⟩,bg⟩:=hb
 have hn:a.N.natAbs*b.D.natAbs=b.N.natAbs*a.D.natAbs:=by rw[←Int.natAbs_mul,←Int.natAbs_mul,h]
 have ca:Nat.Coprime a.D.natAbs a.N.natAbs:=by rw[Nat.Coprime,Nat.gcd_comm];exact ag
 have cb:Nat.Coprime b.D.natAbs b.N.natAbs:=by rw[Nat.Coprime,Nat.gcd_comm];exact bg
 have d1:a.D.natAbs∣b.D.natAbs:=ca.dvd_of_dvd_mul_left ⟨b.N.natAbs,by rw[hn,Nat.mul_comm]⟩
 have d2:b.D.natAbs∣a.D.natAbs:=cb.dvd_of_dvd_mul_left ⟨a.N.natAbs,by rw[←hn,Nat.mul_comm]⟩
 have e:a.D.natAbs=b.D.natAbs:=Nat.dvd_antisymm d1 d2
 have eD:a.D=b.D:=by omega
 refine OU ?_ eD
 rw[eD] at h
 exact Int.eq_of_mul_eq_mul_right (by omega) h
theorem dw{a b:Rat}(ha:aS a=true)(hb:aS b=true):bD a b=true↔a.N*b.D<b.N*a.D:=by
 simp[bD,ha,hb]
theorem wx{a b:Rat}(ha:aS a=true)(hb:aS b=true):iq a b=0↔a=b:=by
 constructor
 ·intro h
  unfold iq at h
  split at h
  ·omega
  ·rename_i h1
   split at h
   ·omega
   ·rename_i h2
    rw[dw ha hb] at h1
    rw[dw hb ha] at h2
    exact AO ha hb (by omega)
 ·rintro rfl
  have:bD a a=false:=by
   cases h:bD a a
   ·rfl
   ·rw[dw ha ha] at h;omega
  simp[iq,this]
theorem Hq{a b:Rat}:iq a b<0↔bD a b=true:=by
 unfold iq
 split
 ·rename_i h;simp[h]
 ·rename_i h
  split<;>simp_all
theorem zV{a b c:Rat}(ha:aS a=true)(hb:aS b=true)(hc:aS c=true)(h1:bD a b=true)(h2:bD b c=true):bD a c=true:=by
 rw[dw ha hb] at h1
 rw[dw hb hc] at h2
 rw[dw ha hc]
 rw[mR] at ha hb hc
 have e1:a.N*b.D*c.D<b.N*a.D*c.D:=Int.mul_lt_mul_of_pos_right h1 (by omega)
 have e2:b.N*c.D*a.D<c.N*b.D*a.D:=Int.mul_lt_mul_of_pos_right h2 (by omega)
 have e3:b.N*a.D*c.D=b.N*c.D*a.D:=by rw[Int.mul_assoc,Int.mul_comm a.D,←Int.mul_assoc]
 have e4:a.N*c.D*b.D<c.N*a.D*b.D:=by
  rw[Int.mul_assoc,Int.mul_comm c.D,←Int.mul_assoc,Int.mul_assoc c.N,Int.mul_comm a.D,←Int.mul_assoc]
  omega
 exact Int.lt_of_mul_lt_mul_right e4 (by omega)
def bt(as:List Rat):Bool:=as.all aS
theorem oa:∀{as bs:List Rat},bt as=true→bt bs=true→(cH as bs=0↔as=bs)
 | [],[],_,_=>by simp[cH]
 | [],b::bs,_,_=>by simp[cH]
 | a::as,[],_,_=>by simp[cH]
 | a::as,b::bs,ha,hb=>by
   simp only[bt,List.all_cons,Bool.and_eq_true] at ha hb
   have h:=wx ha.1 hb.1
   have h2:=oa (as:=as) (bs:=bs) ha.2 hb.2
   simp only[cH]
   split
   ·rename_i e;rw[h2,List.cons.injEq,h.1 e];simp
   ·rename_i e
    constructor
    ·intro e2;exact absurd e2 e
    ·intro e2;rw[List.cons.injEq] at e2;exact absurd (h.2 e2.1) e
def dA:List Rat→List Rat→Bool
 | a::as,b::bs=>if a=b then dA as bs else bD a b
 | _,_=>false
def bI(a b:Row):Bool:=if a.name=b.name then(if a.args.length=b.args.length then dA a.args b.args else decide (a.args.length<b.args.length)) else cR a.name b.name
theorem vN:∀{as bs:List Rat},bt as=true→bt bs=true→as.length=bs.length→(cH as bs<0↔dA as bs=true)
 | [],[],_,_,_=>by simp[cH,dA]
 | [],b::bs,_,_,h=>by simp at h
 | a::as,[],_,_,h=>by simp at h
 | a::as,b::bs,ha,hb,hl=>by
   simp only[bt,List.all_cons,Bool.and_eq_true] at ha hb
   have h:=wx ha.1 hb.1
   have h2:=vN (as:=as) (bs:=bs) ha.2 hb.2 (by simpa using hl)
   simp only[cH,dA]
   split
   ·rename_i e;rw[if_pos (h.1 e),h2]
   ·rename_i e;rw[if_neg (fun x=>e (h.2 x)),Hq]
theorem jI{a b:gR}:gM a b=0↔a=b:=by
 unfold gM
 constructor
 ·intro h
  split at h
  ·omega
  ·rename_i h1
   split at h
   ·omega
   ·rename_i h2
    rcases Classical.em (a=b) with e|e
    ·exact e
    ·exact absurd (yt e (by simpa[cR] using h1)) h2
 ·rintro rfl
  simp[cR,oJ]
theorem Gk{a b:gR}:gM a b<0↔cR a b=true:=by
 unfold gM
 split
 ·rename_i h;simp[h]
 ·rename_i h
  split<;>simp_all
theorem oU{a b:Int}:iu a b=0↔a=b:=by unfold iu;split<;>(try split)<;>omega
theorem GJ{a b:Int}:iu a b<0↔a<b:=by unfold iu;split<;>(try split)<;>omega
theorem l8{a b:Row}(ha:bt a.args=true)(hb:bt b.args=true):bJ a b=0↔a.name=b.name∧a.args=b.args:=by
 unfold bJ
 constructor
 ·intro h
  split at h
  ·rename_i e;exact absurd h e
  ·rename_i e
   split at h
   ·rename_i e2;exact absurd h e2
   ·exact⟨jI.1 (Classical.not_not.1 e),(oa ha hb).1 h⟩
 ·rintro⟨e,e2⟩
  have h1:gM a.name b.name=0:=jI.2 e
  have h2:iu a.args.length b.args.length=0:=oU.2 (by rw[e2])
  have h3:cH a.args b.args=0:=(oa ha hb).2 e2
  simp[h1,h2,h3]
theorem fP{a b:Row}(ha:bt a.args=true)(hb:bt b.args=true):bJ a b<0↔bI a b=true:=by
 unfold bJ bI
 split
 ·rename_i e
  rw[if_neg (fun x=>e (jI.2 x)),Gk]
 ·rename_i e
  rw[if_pos (jI.1 (Classical.not_not.1 e))]
  split
  ·rename_i e2
   have:¬a.args.length=b.args.length:=fun x=>e2 (oU.2 (by rw[x]))
   rw[if_neg this,GJ]
   simp
  ·rename_i e2
   have:=oU.1 (Classical.not_not.1 e2)
   have h3:a.args.length=b.args.length:=by omega
   rw[if_pos h3,vN ha hb h3]
theorem o9:∀{as bs cs:List Rat},bt as=true→bt bs=true→bt cs=true→dA as bs=true→dA bs cs=true→dA as cs=true
 | [],_,_,_,_,_,h,_=>by simp[dA] at h
 | _::_,[],_,_,_,_,h,_=>by simp[dA] at h
 | _::_,_::_,[],_,_,_,_,h=>by simp[dA] at h
 | a::as,b::bs,c::cs,ha,hb,hc,h1,h2=>by
   simp only[bt,List.all_cons,Bool.and_eq_true] at ha hb hc
   simp only[dA] at h1 h2⊢
   split at h1
   ·rename_i e
    subst e
    split at h2
    ·rename_i e2
     rw[if_pos e2]
     exact o9 ha.2 hb.2 hc.2 h1 h2
    ·rename_i e2
     rw[if_neg e2];exact h2
   ·rename_i e
    split at h2
    ·rename_i e2
     subst e2
     rw[if_neg e];exact h1
    ·have h3:=zV ha.1 hb.1 hc.1 h1 h2
     have:¬a=c:=by
      rintro rfl
      rw[dw ha.1 ha.1] at h3;omega
     rw[if_neg this];exact h3
theorem jo{a b c:Row}(ha:bt a.args=true)(hb:bt b.args=true)(hc:bt c.args=true)(h1:bI a b=true)(h2:bI b c=true):bI a c=true:=by
 unfold bI at h1 h2⊢
 split at h1
 ·rename_i e
  rw[e]
  split at h2
  ·rename_i e2
   rw[if_pos e2]
   split at h1
   ·rename_i l1
    rw[l1]
    split at h2
    ·rename_i l2
     rw[if_pos l2]
     exact o9 ha hb hc h1 h2
    ·rename_i l2
     rw[if_neg l2];exact h2
   ·rename_i l1
    simp only[decide_eq_true_eq] at h1
    split at h2
    ·rename_i l2
     rw[if_neg (by omega)];simp;omega
    ·simp only[decide_eq_true_eq] at h2
     rw[if_neg (by omega)];simp;omega
  ·rename_i e2
   rw[if_neg e2];exact h2
 ·rename_i e
  split at h2
  ·rename_i e2
   rw[←e2,if_neg e];exact h1
  ·have h3:cR a.name c.name=true:=rQ h1 h2
   rw[if_neg (IH h3)];exact h3
theorem fN{r:Row}(h:jF r=true):bt r.args=true:=by
 simp only[jF,Bool.and_eq_true] at h
 exact h.2.2.2
def ia:Option Row→List Row→Bool
 | _,[]=>true
 | p,r::rs=>jF r&&((match p with|none=>true|some q=>bI q r)&&ia (some r) rs)
theorem AM:∀(rs:List Row)(p:Option Row),(∀q,p=some q→jF q=true)→nr p rs=ia p rs
 | [],_,_=>rfl
 | r::rs,p,hp=>by
   simp only[nr,ia]
   cases hr:jF r
   ·rfl
   ·rw[AM rs (some r) (fun q e=>by cases e;exact hr)]
    cases p with
    | none=>rfl
    | some q=>
      have h:=fP (fN (hp q rfl)) (fN hr)
      have:decide (bJ q r<0)=bI q r:=by
       cases hl:bI q r
       ·simp only[decide_eq_false_iff_not];rw[h,hl];simp
       ·simp only[decide_eq_true_eq];rw[h,hl]
      simp only[this]
theorem ng:∀{rs:List Row}{p:Option Row},ia p rs=true→∀r∈rs,jF r=true
 | [],_,_,r,hr=>by simp at hr
 | a::rs,p,h,r,hr=>by
   simp only[ia,Bool.and_eq_true] at h
   rcases List.mem_cons.1 hr with rfl|hr
   ·exact h.1
   ·exact ng h.2.2 r hr
theorem ri:∀{rs:List Row}{q:Row},jF q=true→ia (some q) rs=true→∀r∈rs,bI q r=true
 | [],_,_,_,r,hr=>by simp at hr
 | a::rs,q,hq,h,r,hr=>by
   simp only[ia,Bool.and_eq_true] at h
   rcases List.mem_cons.1 hr with rfl|hr
   ·exact h.2.1
   ·exact jo (fN hq) (fN h.1) (fN (ng h.2.2 r hr)) h.2.1 (ri h.1 h.2.2 r hr)
theorem rb:∀{rs:List Row}{p:Option Row},ia p rs=true→rs.Pairwise (fun a b=>bI a b=true)
 | [],_,_=>List.Pairwise.nil
 | a::rs,p,h=>by
   simp only[ia,Bool.and_eq_true] at h
   exact List.Pairwise.cons (fun r hr=>ri h.1 h.2.2 r hr) (rb h.2.2)
theorem ir{m:Model}(h:cW m=true):m.rows.length≤40∧(∀r∈m.rows,jF r=true)∧m.rows.Pairwise (fun a b=>bI a b=true):=by
 simp only[cW,Bool.and_eq_true,decide_eq_true_eq] at h
 rw[AM _ none (by simp)] at h
 exact⟨h.1,ng h.2,rb h.2⟩
def cut:List Row→Row→Nat
 | [],_=>0
 | r::rs,t=>if bJ r t<0 then cut rs t+1 else 0
theorem Hl:∀(rs:List Row)(t:Row),cut rs t≤rs.length
 | [],_=>by simp[cut]
 | r::rs,t=>by
   have:=Hl rs t
   simp only[cut,List.length_cons]
   split<;>omega
def e9(rs:List Row)(t:Row):Prop:=rs.Pairwise (fun a b=>bJ b t<0→bJ a t<0)
theorem mc:∀{rs:List Row}{t:Row},e9 rs t→∀(k:Nat)(h:k<rs.length),k<cut rs t↔bJ rs[k] t<0
 | [],_,_,k,h=>by simp at h
 | r::rs,t,hm,k,h=>by
   obtain⟨h1,h2⟩:=List.pairwise_cons.1 hm
   simp only[cut]
   cases k with
   | zero=>
     simp only[List.getElem_cons_zero]
     split<;>simp_all
   | succ k=>
     simp only[List.getElem_cons_succ]
     have hk:k<rs.length:=by simpa using h
     have h3:=mc (rs:=rs) (t:=t) h2 k hk
     split
     ·rw[←h3];omega
     ·rename_i hn
      constructor
      ·intro x;omega
      ·intro x;exact absurd (h1 _ (List.getElem_mem hk) x) hn
theorem Q9{rs:List Row}{t:Row}(hm:e9 rs t){i:Nat}(hi:i≤rs.length)(h1:∀(k:Nat)(h:k<rs.length),k<i→bJ rs[k] t<0)(h2:∀(k:Nat)(h:k<rs.length),i≤k→¬bJ rs[k] t<0):cut rs t=i:=by
 have h3:=Hl rs t
 rcases Nat.lt_trichotomy (cut rs t) i with h|h|h
 ·have h4:=(mc hm (cut rs t) (by omega)).2 (h1 _ (by omega) h)
  omega
 ·exact h
 ·have h4:=(mc hm i (by omega)).1 h
  exact absurd h4 (h2 i (by omega) (Nat.le_refl i))
theorem On{m:Model}{t:Row}(h:cW m=true)(ht:bt t.args=true):e9 m.rows t:=by
 obtain⟨_,h1,h2⟩:=ir h
 refine List.Pairwise.imp_of_mem ?_ h2
 intro a b ha hb hab hbt
 have wa:=fN (h1 a ha)
 have wb:=fN (h1 b hb)
 rw[fP wb ht] at hbt
 rw[fP wa ht]
 exact jo wa wb ht hab hbt
def found(rs:List Row)(t:Row):Bool:=match rs[cut rs t]? with|some r=>decide (bJ r t=0)|none=>false
theorem EH:∀{rs:List Row}{t:Row},(∀r∈rs,bt r.args=true)→bt t.args=true→rs.Pairwise (fun a b=>bI a b=true) →
 rs.find? (fun r=>decide (r.name=t.name∧r.args=t.args))=if found rs t then rs[cut rs t]? else none
 | [],_,_,_,_=>by simp[found]
 | r::rs,t,hr,ht,hp=>by
   obtain⟨h1,h2⟩:=List.pairwise_cons.1 hp
   have ih:=EH (rs:=rs) (t:=t) (fun x hx=>hr x (List.mem_cons_of_mem _ hx)) ht h2
   have wr:=hr r (by simp)
   have hz:=l8 wr ht
   rw[List.find?_cons]
   rcases Classical.em (r.name=t.name∧r.args=t.args) with e|e
   ·have hc:=hz.2 e
    have hcut:cut (r::rs) t=0:=by simp[cut,hc]
    simp[e,found,hcut,hc]
   ·simp only[e,decide_false]
    rw[ih]
    rcases Classical.em (bJ r t<0) with hn|hn
    ·have hc2:cut (r::rs) t=cut rs t+1:=by simp[cut,hn]
     have hf2:found (r::rs) t=found rs t:=by simp only[found,hc2,List.getElem?_cons_succ]
     rw[hf2,hc2,List.getElem?_cons_succ]
    ·have hcut:cut (r::rs) t=0:=by simp[cut,hn]
     have hf:found (r::rs) t=false:=by simp[found,hcut,hz,e]
     rw[hf]
     have:found rs t=false:=by
      unfold found
      split
      ·rename_i q hq
       have hq':q∈rs:=List.mem_of_getElem? hq
       simp only[decide_eq_false_iff_not]
       intro hc
       have hb:=(l8 (hr q (List.mem_cons_of_mem _ hq')) ht).1 hc
       have hl:=h1 q hq'
       apply hn
       rw[fP wr ht]
       have:bI r q=bI r t:=by simp only[bI,hb.1,hb.2]
       rw[←this];exact hl
      ·rfl
     simp[this]
theorem F6{m:Model}{t:Row}(h:cW m=true)(ht:bt t.args=true):lookup m.rows t.name t.args=if found m.rows t then(m.rows.getD (cut m.rows t) t).val else⟨0,1⟩:=by
 obtain⟨_,h1,h2⟩:=ir h
 unfold lookup
 rw[EH (fun r hr=>fN (h1 r hr)) ht h2]
 cases hf:found m.rows t
 ·simp
 ·unfold found at hf
  cases hx:m.rows[cut m.rows t]? with
  | none=>simp[hx] at hf
  | some r=>simp[hx,List.getD]
theorem RO:aS ⟨0,1⟩=true:=by decide
theorem Kb{m:Model}(h:cW m=true)(n:gR)(as:List Rat):aS (lookup m.rows n as)=true:=by
 obtain⟨_,h1,_⟩:=ir h
 unfold lookup
 split
 ·rename_i r hr
  have:=h1 r (List.mem_of_find?_eq_some hr)
  simp only[jF,Bool.and_eq_true] at this
  exact this.2.2.1
 ·exact RO
theorem E9(m:Model)(t:Term):value m t=lookup m.rows t.name (values m t.kids):=by cases t;rfl
theorem iX(m:Model):∀(ts:List Term),values m ts=ts.map (value m)
 | []=>rfl
 | t::ts=>by simp only[values,List.map_cons,iX m ts]
theorem Mh{m:Model}(h:cW m=true)(t:Term):aS (value m t)=true:=by rw[E9];exact Kb h _ _
theorem Be{m:Model}(h:cW m=true)(ts:List Term):bt (values m ts)=true:=by
 rw[iX]
 simp only[bt,List.all_map,List.all_eq_true,Function.comp]
 intro t _
 exact Mh h t
theorem HA(m:Model)(ts:List Term):(values m ts).length=ts.length:=by rw[iX];simp
end Go.Mod
namespace Go.Mod
open Go.Eng
theorem kJ{n:Int}(h1:-1000000000≤n)(h2:n≤1000000000):aS (whole n)=true:=by
 rw[mR]
 exact⟨⟨h1,h2⟩,⟨Int.le_refl 1,by show(1:Int)≤1000000000;omega⟩,Int.gcd_one_right n⟩
theorem AW{n d:Int}(h:(eh n d).2=true):aS (eh n d).1=true:=by
 unfold eh at h⊢
 split
 ·rename_i h0;rw[if_pos h0] at h;cases h
 ·rename_i h0
  rw[if_neg h0] at h
  simp only at h⊢
  generalize (⟨_,_⟩:Rat)=x at h⊢
  cases hx:aS x
  ·simp[hx] at h
  ·simp[hx]
theorem Kg{a b:Rat}(h:(c7 a b).2=true):aS (c7 a b).1=true:=by
 unfold c7 at h⊢
 split
 ·rename_i h0;rw[if_pos h0] at h;exact AW h
 ·rename_i h0;rw[if_neg h0] at h;cases h
theorem Gc{m:Model}{ts:List Term}{ns:List Int}{i:Nat}(h:i<ts.length)(h':i<ns.length)(sum:Rat) :
 vG m (ts.drop i) (ns.drop i) sum=if(plus sum ns[i] (value m ts[i])).2 then vG m (ts.drop (i+1)) (ns.drop (i+1)) (plus sum ns[i] (value m ts[i])).1 else none:=by
 rw[List.drop_eq_getElem_cons h,List.drop_eq_getElem_cons h'];rfl
theorem JF{m:Model}{ts:List Term}{ns:List Int}{i:Nat}(h:ts.length≤i)(sum:Rat):vG m (ts.drop i) (ns.drop i) sum=some sum:=by
 rw[List.drop_of_length_le h];rfl
def S3:List Int→Int→Int
 | [],_=>0
 | x::xs,n=>if x=n then 1 else if x = -n then -1 else S3 xs n
end Go.Mod
namespace Go.Mod
open Go.Eng
def Ti(n:Int):Int:=if n < -1000000000 then 1000000001 else if 1000000000<n then 1000000001 else if n<0 then -n else n
theorem KJ{p q:Int}(hp:0≤p)(hq:0<q):0≤p.tmod q∧p.tmod q<q∧Int.gcd q (p.tmod q)=Int.gcd p q:=by
 have e:p.tmod q=((p.natAbs % q.natAbs:Nat):Int):=by
  rw[Int.tmod_eq_emod_of_nonneg hp]
  have h1:(p.natAbs:Int)=p:=by omega
  have h2:(q.natAbs:Int)=q:=by omega
  rw[Int.natCast_emod,h1,h2]
 have hlt:p.natAbs % q.natAbs<q.natAbs:=Nat.mod_lt _ (by omega)
 refine⟨by omega,by omega,?_⟩
 rw[e]
 simp only[Int.gcd,Int.natAbs_natCast]
 rw[Nat.gcd_comm p.natAbs,Nat.gcd_rec q.natAbs p.natAbs,Nat.gcd_comm]
theorem gcd_zero{p:Int}(hp:0≤p):((Int.gcd p 0:Nat):Int)=p:=by
 simp only[Int.gcd,Int.natAbs_zero,Nat.gcd_zero_right]
 omega
theorem IT{n d:Int}(h:0<d):0<(Int.gcd n d:Int):=by
 have:0<Int.gcd n d:=Int.gcd_pos_of_ne_zero_right n (by omega)
 omega
theorem nK{n g k:Int}(hg:0<g)(h:-k≤n∧n≤k):-k≤n.tdiv g∧n.tdiv g≤k:=by
 have e:(n.tdiv g).natAbs=n.natAbs / g.natAbs:=Int.natAbs_tdiv n g
 have h2:n.natAbs / g.natAbs≤n.natAbs:=Nat.div_le_self _ _
 omega
theorem prod_bound{m b k l:Int}(h1:-k≤m∧m≤k)(h2:-l≤b∧b≤l):-(k*l)≤m*b∧m*b≤k*l:=by
 have e:(m*b).natAbs=m.natAbs*b.natAbs:=Int.natAbs_mul m b
 have h3:m.natAbs*b.natAbs≤k.natAbs*l.natAbs:=Nat.mul_le_mul (by omega) (by omega)
 have h4:(k*l).natAbs=k.natAbs*l.natAbs:=Int.natAbs_mul k l
 have h5:0≤k*l:=Int.mul_nonneg (by omega) (by omega)
 omega
theorem sU{m b:Int}(h1:-1000000000≤m∧m≤1000000000)(h2:-1000000000≤b∧b≤1000000000):-1000000000000000000≤m*b∧m*b≤1000000000000000000:=by
 have:=prod_bound h1 h2
 omega
theorem N1{m b:Int}(h1:1≤m∧m≤1000000000)(h2:1≤b∧b≤1000000000):1≤m*b∧m*b≤1000000000000000000:=by
 have:=sU (m:=m) (b:=b) (by omega) (by omega)
 have:=Int.mul_pos (a:=m) (b:=b) (by omega) (by omega)
 omega
theorem r5{n d:Int}(hd:1≤d):eh n d=if aS ⟨n.tdiv (Int.gcd n d),d.tdiv (Int.gcd n d)⟩ then(⟨n.tdiv (Int.gcd n d),d.tdiv (Int.gcd n d)⟩,true) else(jx,false):=by
 unfold eh
 rw[if_neg (by omega)]
 simp only[if_neg (show ¬d<0 by omega)]
theorem HF(x y:Rat):o0 x.N x.D y.N y.D=decide (x=y):=by
 cases x;cases y;simp only[o0,Rat.mk.injEq,Bool.decide_and];rfl
theorem Cn{m:Model}{ts:List Term}{i:Nat}(h:i<ts.length):aM (values m (ts.take i))++[dp (value m ts[i])]=aM (values m (ts.take (i+1))):=by
 have e:ts.take (i+1)=ts.take i++[ts[i]]:=by rw[List.take_add_one,List.getElem?_eq_getElem h];rfl
 rw[iX,iX,e,List.map_append,←pS]
 rfl
end Go.Mod
