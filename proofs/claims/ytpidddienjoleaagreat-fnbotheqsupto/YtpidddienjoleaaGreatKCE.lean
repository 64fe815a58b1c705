/-
  The data of the program as plain Lean types, and how they lie in memory, cell by cell. No program is walked here.
-/
import Derived.Test.YtpidddienjoleaaGreatKCD
set_option linter.unusedVariables false
set_option linter.unusedSimpArgs false
namespace Go.Mod
open Go.Eng
abbrev gL:=List UInt8
def aO(ns:List Int):List (List D):=ns.map fun n=>[.val (.int .i64 n)]
def Oz(ns:List Bool):List (List D):=ns.map fun n=>[.val (.bool n)]
def fx(ns:List gL):List (List D):=ns.map fun n=>[.str n]
def BI(ns:List (List Int)):List (List D):=ns.map fun n=>[.bu (aO n)]
theorem z7(ns:List Int):(aO ns).length=ns.length:=by simp[aO]
theorem ui{ns:List Int}{i:Nat}(h:i<ns.length):row (aO ns) i=[.val (.int .i64 ns[i])]:=by simp[aO,row,List.getD,List.getElem?_eq_getElem h]
theorem tW(ns:List Int):∀y∈aO ns,y.length=1:=by
 intro y hy
 rw[show aO ns=ns.map _ from rfl] at hy
 obtain⟨t,_,rfl⟩:=List.mem_map.1 hy
 rfl
theorem cW(ns ms:List Int):aO ns++aO ms=aO (ns++ms):=by simp[aO]
theorem mf:aO []=[]:=rfl
theorem j8(n:Int)(ns:List Int):aO (n::ns)=[.val (.int .i64 n)]::aO ns:=rfl
theorem Jp(ns:List Bool):∀y∈Oz ns,y.length=1:=by
 intro y hy
 rw[show Oz ns=ns.map _ from rfl] at hy
 obtain⟨t,_,rfl⟩:=List.mem_map.1 hy
 rfl
theorem Ah(ns:List gL):(fx ns).length=ns.length:=by simp[fx]
theorem Ao{ns:List gL}{i:Nat}(h:i<ns.length):row (fx ns) i=[.str ns[i]]:=by simp[fx,row,List.getD,List.getElem?_eq_getElem h]
theorem I2(ns ms:List gL):fx ns++fx ms=fx (ns++ms):=by simp[fx]
theorem Il:fx []=[]:=rfl
theorem Hb(ns:List (List Int)):∀y∈BI ns,y.length=1:=by
 intro y hy
 rw[show BI ns=ns.map _ from rfl] at hy
 obtain⟨t,_,rfl⟩:=List.mem_map.1 hy
 rfl
inductive Term where
 | mk(name:gL)(kids:List Term)
def Term.name:Term→gL
 | .mk x _=>x
def Term.kids:Term→List Term
 | .mk _ x=>x
theorem Term.ind{P:Term→Prop}(h:∀name kids,(∀k∈kids,P k)→P (.mk name kids)):∀t,P t:=by
 intro t
 refine Term.rec (motive_1:=P) (motive_2:=fun ks=>∀k∈ks,P k) (fun name kids ih=>h name kids ih) (by simp) (fun t ts h1 h2=>?_) t
 intro k hk
 rcases List.mem_cons.1 hk with rfl|hk
 ·exact h1
 ·exact h2 k hk
mutual
def Qw:Term→List D
 | .mk name kids=>[.str name,.bu (ai kids)]
def ai:List Term→List (List D)
 | []=>[]
 | t::ts=>Qw t::ai ts
end
def cT(t:Term):List D:=[.str t.name,.bu (ai t.kids)]
theorem Nw(t:Term):Qw t=cT t:=by cases t;rfl
theorem fM:∀(ts:List Term),ai ts=ts.map cT
 | []=>rfl
 | t::ts=>by simp[ai,Nw,fM ts]
theorem jU(ns:List Term):(ai ns).length=ns.length:=by simp[fM]
theorem tw{ns:List Term}{i:Nat}(h:i<ns.length):row (ai ns) i=cT ns[i]:=by simp[fM,row,List.getD,List.getElem?_eq_getElem h]
theorem Iz(ns:List Term):∀y∈ai ns,y.length=2:=by
 intro y hy
 rw[show ai ns=ns.map _ from fM ns] at hy
 obtain⟨t,_,rfl⟩:=List.mem_map.1 hy
 rfl
theorem Fy(ns:List Term)(i:Nat):(ai ns).take i=ai (ns.take i):=by simp[fM]
theorem db(ns ms:List Term):ai ns++ai ms=ai (ns++ms):=by simp[fM]
theorem cV:ai []=[]:=rfl
theorem ba(n:Term)(ns:List Term):ai (n::ns)=cT n::ai ns:=by simp[fM]
theorem nx{ns:List Term}{i:Nat}(h:i<ns.length):ai (ns.take i)++[cT ns[i]]=ai (ns.take (i+1)):=by
 have e:ns.take (i+1)=ns.take i++[ns[i]]:=by rw[List.take_add_one,List.getElem?_eq_getElem h];rfl
 rw[e,←db,ba,cV]
mutual
def J0:Term→Term→Bool
 | .mk name1 kids1,.mk name2 kids2=>decide (name1=name2)&&rA kids1 kids2
def rA:List Term→List Term→Bool
 | [],[]=>true
 | x::xs,y::ys=>J0 x y&&rA xs ys
 | _,_=>false
end
mutual
theorem AY:∀(a b:Term),J0 a b=true↔a=b
 | .mk name1 kids1,.mk name2 kids2=>by simp[J0,yB]
theorem yB:∀(a b:List Term),rA a b=true↔a=b
 | [],[]=>by simp[rA]
 | [],_::_=>by simp[rA]
 | _::_,[]=>by simp[rA]
 | x::xs,y::ys=>by simp[rA,AY x y,yB xs ys]
end
instance:DecidableEq Term:=fun a b=>decidable_of_iff _ (AY a b)
structure Sym where
 name:gL
 args:List Int
 sort:Int
 deriving DecidableEq
def oh(t:Sym):List D:=[.str t.name,.bu (aO t.args),.val (.int .i64 t.sort)]
def cM(l:List Sym):List (List D):=l.map oh
theorem Ej(ns:List Sym):(cM ns).length=ns.length:=by simp[cM]
theorem uX{ns:List Sym}{i:Nat}(h:i<ns.length):row (cM ns) i=oh ns[i]:=by simp[cM,row,List.getD,List.getElem?_eq_getElem h]
theorem lf(ns ms:List Sym):cM ns++cM ms=cM (ns++ms):=by simp[cM]
structure bJ where
 syms:List Sym
 deriving DecidableEq
def bw(t:bJ):List D:=[.bu (cM t.syms)]
structure Atom where
 kind:Int
 A:Term
 B:Term
 nums:List Term
 times:List Int
 bound:Int
 strict:Bool
 deriving DecidableEq
def fZ(t:Atom):List D:=[.val (.int .i64 t.kind),.str t.A.name,.bu (ai t.A.kids),.str t.B.name,.bu (ai t.B.kids),.bu (ai t.nums),.bu (aO t.times),.val (.int .i64 t.bound),.val (.bool t.strict)]
def DT(l:List Atom):List (List D):=l.map fZ
theorem BW(ns:List Atom):∀y∈DT ns,y.length=9:=by
 intro y hy
 rw[show DT ns=ns.map _ from rfl] at hy
 obtain⟨t,_,rfl⟩:=List.mem_map.1 hy
 rfl
structure aG where
 atom:Atom
 no:Bool
 deriving DecidableEq
def kO(t:aG):List D:=[.val (.int .i64 t.atom.kind),.str t.atom.A.name,.bu (ai t.atom.A.kids),.str t.atom.B.name,.bu (ai t.atom.B.kids),.bu (ai t.atom.nums),.bu (aO t.atom.times),.val (.int .i64 t.atom.bound),.val (.bool t.atom.strict),.val (.bool t.no)]
def ax(l:List aG):List (List D):=l.map kO
theorem u5(ns:List aG):(ax ns).length=ns.length:=by simp[ax]
theorem EM{ns:List aG}{i:Nat}(h:i<ns.length):row (ax ns) i=kO ns[i]:=by simp[ax,row,List.getD,List.getElem?_eq_getElem h]
theorem vC(ns:List aG):∀y∈ax ns,y.length=10:=by
 intro y hy
 rw[show ax ns=ns.map _ from rfl] at hy
 obtain⟨t,_,rfl⟩:=List.mem_map.1 hy
 rfl
theorem Dh(ns ms:List aG):ax ns++ax ms=ax (ns++ms):=by simp[ax]
theorem oU:ax []=[]:=rfl
theorem hY(n:aG)(ns:List aG):ax (n::ns)=kO n::ax ns:=rfl
inductive iy where
 | mk(lL:Int)(n:Int)(t:Term)(kids:List iy)
def iy.lL:iy→Int
 | .mk x _ _ _=>x
def iy.n:iy→Int
 | .mk _ x _ _=>x
def iy.t:iy→Term
 | .mk _ _ x _=>x
def iy.kids:iy→List iy
 | .mk _ _ _ x=>x
theorem iy.ind{P:iy→Prop}(h:∀lL n t kids,(∀k∈kids,P k)→P (.mk lL n t kids)):∀t,P t:=by
 intro t
 refine iy.rec (motive_1:=P) (motive_2:=fun ks=>∀k∈ks,P k) (fun lL n t kids ih=>h lL n t kids ih) (by simp) (fun t ts h1 h2=>?_) t
 intro k hk
 rcases List.mem_cons.1 hk with rfl|hk
 ·exact h1
 ·exact h2 k hk
mutual
def JR:iy→List D
 | .mk lL n t kids=>[.val (.int .i64 lL),.val (.int .i64 n),.str t.name,.bu (ai t.kids),.bu (dC kids)]
def dC:List iy→List (List D)
 | []=>[]
 | t::ts=>JR t::dC ts
end
def rm(t:iy):List D:=[.val (.int .i64 t.lL),.val (.int .i64 t.n),.str t.t.name,.bu (ai t.t.kids),.bu (dC t.kids)]
theorem Iq(t:iy):JR t=rm t:=by cases t;rfl
theorem kS:∀(ts:List iy),dC ts=ts.map rm
 | []=>rfl
 | t::ts=>by simp[dC,Iq,kS ts]
theorem EF(ns:List iy):(dC ns).length=ns.length:=by simp[kS]
theorem Ee(ns ms:List iy):dC ns++dC ms=dC (ns++ms):=by simp[kS]
theorem iZ:dC []=[]:=rfl
theorem jN(n:iy)(ns:List iy):dC (n::ns)=rm n::dC ns:=by simp[kS]
mutual
def Bl:iy→iy→Bool
 | .mk rule1 n1 t1 kids1,.mk rule2 n2 t2 kids2=>decide (rule1=rule2)&&decide (n1=n2)&&decide (t1=t2)&&kD kids1 kids2
def kD:List iy→List iy→Bool
 | [],[]=>true
 | x::xs,y::ys=>Bl x y&&kD xs ys
 | _,_=>false
end
mutual
theorem vm:∀(a b:iy),Bl a b=true↔a=b
 | .mk rule1 n1 t1 kids1,.mk rule2 n2 t2 kids2=>by simp[Bl,te,and_assoc]
theorem te:∀(a b:List iy),kD a b=true↔a=b
 | [],[]=>by simp[kD]
 | [],_::_=>by simp[kD]
 | _::_,[]=>by simp[kD]
 | x::xs,y::ys=>by simp[kD,vm x y,te xs ys]
end
instance:DecidableEq iy:=fun a b=>decidable_of_iff _ (vm a b)
inductive Case where
 | mk(kind:Int)(n:Int)(p9:iy)(times:List Int)(A:Term)(B:Term)(kids:List Case)
def Case.kind:Case→Int
 | .mk x _ _ _ _ _ _=>x
def Case.n:Case→Int
 | .mk _ x _ _ _ _ _=>x
def Case.p9:Case→iy
 | .mk _ _ x _ _ _ _=>x
def Case.times:Case→List Int
 | .mk _ _ _ x _ _ _=>x
def Case.A:Case→Term
 | .mk _ _ _ _ x _ _=>x
def Case.B:Case→Term
 | .mk _ _ _ _ _ x _=>x
def Case.kids:Case→List Case
 | .mk _ _ _ _ _ _ x=>x
theorem Case.ind{P:Case→Prop}(h:∀kind n p9 times A B kids,(∀k∈kids,P k)→P (.mk kind n p9 times A B kids)):∀t,P t:=by
 intro t
 refine Case.rec (motive_1:=P) (motive_2:=fun ks=>∀k∈ks,P k) (fun kind n p9 times A B kids ih=>h kind n p9 times A B kids ih) (by simp) (fun t ts h1 h2=>?_) t
 intro k hk
 rcases List.mem_cons.1 hk with rfl|hk
 ·exact h1
 ·exact h2 k hk
mutual
def Hk:Case→List D
 | .mk kind n p9 times A B kids=>[.val (.int .i64 kind),.val (.int .i64 n),.val (.int .i64 p9.lL),.val (.int .i64 p9.n),.str p9.t.name,.bu (ai p9.t.kids),.bu (dC p9.kids),.bu (aO times),.str A.name,.bu (ai A.kids),.str B.name,.bu (ai B.kids),.bu (dy kids)]
def dy:List Case→List (List D)
 | []=>[]
 | t::ts=>Hk t::dy ts
end
def r8(t:Case):List D:=[.val (.int .i64 t.kind),.val (.int .i64 t.n),.val (.int .i64 t.p9.lL),.val (.int .i64 t.p9.n),.str t.p9.t.name,.bu (ai t.p9.t.kids),.bu (dC t.p9.kids),.bu (aO t.times),.str t.A.name,.bu (ai t.A.kids),.str t.B.name,.bu (ai t.B.kids),.bu (dy t.kids)]
theorem F0(t:Case):Hk t=r8 t:=by cases t;rfl
theorem jI:∀(ts:List Case),dy ts=ts.map r8
 | []=>rfl
 | t::ts=>by simp[dy,F0,jI ts]
theorem CH(ns:List Case):(dy ns).length=ns.length:=by simp[jI]
theorem Cs(ns ms:List Case):dy ns++dy ms=dy (ns++ms):=by simp[jI]
theorem mW:dy []=[]:=rfl
theorem qf(n:Case)(ns:List Case):dy (n::ns)=r8 n::dy ns:=by simp[jI]
mutual
def yG:Case→Case→Bool
 | .mk kind1 n1 why1 times1 A1 B1 kids1,.mk kind2 n2 why2 times2 A2 B2 kids2=>decide (kind1=kind2)&&decide (n1=n2)&&decide (why1=why2)&&decide (times1=times2)&&decide (A1=A2)&&decide (B1=B2)&&iA kids1 kids2
def iA:List Case→List Case→Bool
 | [],[]=>true
 | x::xs,y::ys=>yG x y&&iA xs ys
 | _,_=>false
end
mutual
theorem rJ:∀(a b:Case),yG a b=true↔a=b
 | .mk kind1 n1 why1 times1 A1 B1 kids1,.mk kind2 n2 why2 times2 A2 B2 kids2=>by simp[yG,ql,and_assoc]
theorem ql:∀(a b:List Case),iA a b=true↔a=b
 | [],[]=>by simp[iA]
 | [],_::_=>by simp[iA]
 | _::_,[]=>by simp[iA]
 | x::xs,y::ys=>by simp[iA,rJ x y,ql xs ys]
end
instance:DecidableEq Case:=fun a b=>decidable_of_iff _ (rJ a b)
inductive Form where
 | mk(kind:Int)(lit:aG)(kids:List Form)
def Form.kind:Form→Int
 | .mk x _ _=>x
def Form.lit:Form→aG
 | .mk _ x _=>x
def Form.kids:Form→List Form
 | .mk _ _ x=>x
theorem Form.ind{P:Form→Prop}(h:∀kind lit kids,(∀k∈kids,P k)→P (.mk kind lit kids)):∀t,P t:=by
 intro t
 refine Form.rec (motive_1:=P) (motive_2:=fun ks=>∀k∈ks,P k) (fun kind lit kids ih=>h kind lit kids ih) (by simp) (fun t ts h1 h2=>?_) t
 intro k hk
 rcases List.mem_cons.1 hk with rfl|hk
 ·exact h1
 ·exact h2 k hk
mutual
def HM:Form→List D
 | .mk kind lit kids=>[.val (.int .i64 kind),.val (.int .i64 lit.atom.kind),.str lit.atom.A.name,.bu (ai lit.atom.A.kids),.str lit.atom.B.name,.bu (ai lit.atom.B.kids),.bu (ai lit.atom.nums),.bu (aO lit.atom.times),.val (.int .i64 lit.atom.bound),.val (.bool lit.atom.strict),.val (.bool lit.no),.bu (jf kids)]
def jf:List Form→List (List D)
 | []=>[]
 | t::ts=>HM t::jf ts
end
def Mp(t:Form):List D:=[.val (.int .i64 t.kind),.val (.int .i64 t.lit.atom.kind),.str t.lit.atom.A.name,.bu (ai t.lit.atom.A.kids),.str t.lit.atom.B.name,.bu (ai t.lit.atom.B.kids),.bu (ai t.lit.atom.nums),.bu (aO t.lit.atom.times),.val (.int .i64 t.lit.atom.bound),.val (.bool t.lit.atom.strict),.val (.bool t.lit.no),.bu (jf t.kids)]
theorem FE(t:Form):HM t=Mp t:=by cases t;rfl
theorem sq:∀(ts:List Form),jf ts=ts.map Mp
 | []=>rfl
 | t::ts=>by simp[jf,FE,sq ts]
theorem Bh(ns:List Form):∀y∈jf ns,y.length=12:=by
 intro y hy
 rw[show jf ns=ns.map _ from sq ns] at hy
 obtain⟨t,_,rfl⟩:=List.mem_map.1 hy
 rfl
mutual
def w8:Form→Form→Bool
 | .mk kind1 lit1 kids1,.mk kind2 lit2 kids2=>decide (kind1=kind2)&&decide (lit1=lit2)&&iC kids1 kids2
def iC:List Form→List Form→Bool
 | [],[]=>true
 | x::xs,y::ys=>w8 x y&&iC xs ys
 | _,_=>false
end
mutual
theorem r5:∀(a b:Form),w8 a b=true↔a=b
 | .mk kind1 lit1 kids1,.mk kind2 lit2 kids2=>by simp[w8,qn,and_assoc]
theorem qn:∀(a b:List Form),iC a b=true↔a=b
 | [],[]=>by simp[iC]
 | [],_::_=>by simp[iC]
 | _::_,[]=>by simp[iC]
 | x::xs,y::ys=>by simp[iC,r5 x y,qn xs ys]
end
instance:DecidableEq Form:=fun a b=>decidable_of_iff _ (r5 a b)
def PY(ns:List (List Form)):List (List D):=ns.map fun n=>[.bu (jf n)]
structure Rat where
 N:Int
 D:Int
 deriving DecidableEq
def dm(t:Rat):List D:=[.val (.int .i64 t.N),.val (.int .i64 t.D)]
def aP(l:List Rat):List (List D):=l.map dm
theorem uR(ns:List Rat):(aP ns).length=ns.length:=by simp[aP]
theorem vj{ns:List Rat}{i:Nat}(h:i<ns.length):row (aP ns) i=dm ns[i]:=by simp[aP,row,List.getD,List.getElem?_eq_getElem h]
theorem Ei(ns:List Rat):∀y∈aP ns,y.length=2:=by
 intro y hy
 rw[show aP ns=ns.map _ from rfl] at hy
 obtain⟨t,_,rfl⟩:=List.mem_map.1 hy
 rfl
theorem vh(ns ms:List Rat):aP ns++aP ms=aP (ns++ms):=by simp[aP]
theorem vi:aP []=[]:=rfl
theorem Bs(n:Rat)(ns:List Rat):aP (n::ns)=dm n::aP ns:=rfl
structure Row where
 name:gL
 args:List Rat
 val:Rat
 deriving DecidableEq
def nW(t:Row):List D:=[.str t.name,.bu (aP t.args),.val (.int .i64 t.val.N),.val (.int .i64 t.val.D)]
def bh(l:List Row):List (List D):=l.map nW
theorem EJ(ns:List Row):(bh ns).length=ns.length:=by simp[bh]
theorem Dv{ns:List Row}{i:Nat}(h:i<ns.length):row (bh ns) i=nW ns[i]:=by simp[bh,row,List.getD,List.getElem?_eq_getElem h]
theorem EI:bh []=[]:=rfl
structure Model where
 rows:List Row
 deriving DecidableEq
def dX(t:Model):List D:=[.bu (bh t.rows)]
structure fq where
 aq:List Int
 bound:Int
 strict:Bool
 deriving DecidableEq
def dZ(t:fq):List D:=[.bu (aO t.aq),.val (.int .i64 t.bound),.val (.bool t.strict)]
def bE(l:List fq):List (List D):=l.map dZ
theorem C9(ns:List fq):(bE ns).length=ns.length:=by simp[bE]
theorem Em{ns:List fq}{i:Nat}(h:i<ns.length):row (bE ns) i=dZ ns[i]:=by simp[bE,row,List.getD,List.getElem?_eq_getElem h]
theorem Da(ns:List fq):∀y∈bE ns,y.length=3:=by
 intro y hy
 rw[show bE ns=ns.map _ from rfl] at hy
 obtain⟨t,_,rfl⟩:=List.mem_map.1 hy
 rfl
theorem nZ(ns ms:List fq):bE ns++bE ms=bE (ns++ms):=by simp[bE]
theorem lj:bE []=[]:=rfl
theorem jQ(n:fq)(ns:List fq):bE (n::ns)=dZ n::bE ns:=rfl
structure e6 where
 A:Term
 B:Term
 deriving DecidableEq
def Qf(t:e6):List D:=[.str t.A.name,.bu (ai t.A.kids),.str t.B.name,.bu (ai t.B.kids)]
def bj(l:List e6):List (List D):=l.map Qf
theorem G8(ns:List e6):(bj ns).length=ns.length:=by simp[bj]
theorem E7{ns:List e6}{i:Nat}(h:i<ns.length):row (bj ns) i=Qf ns[i]:=by simp[bj,row,List.getD,List.getElem?_eq_getElem h]
theorem Gy(ns:List e6):∀y∈bj ns,y.length=4:=by
 intro y hy
 rw[show bj ns=ns.map _ from rfl] at hy
 obtain⟨t,_,rfl⟩:=List.mem_map.1 hy
 rfl
theorem nG(ns ms:List e6):bj ns++bj ms=bj (ns++ms):=by simp[bj]
theorem jZ:bj []=[]:=rfl
theorem ow(n:e6)(ns:List e6):bj (n::ns)=Qf n::bj ns:=rfl
structure Step where
 A:Int
 B:Int
 given:Int
 deriving DecidableEq
def Hu(t:Step):List D:=[.val (.int .i64 t.A),.val (.int .i64 t.B),.val (.int .i64 t.given)]
def ar(l:List Step):List (List D):=l.map Hu
theorem B5(ns:List Step):(ar ns).length=ns.length:=by simp[ar]
theorem BA{ns:List Step}{i:Nat}(h:i<ns.length):row (ar ns) i=Hu ns[i]:=by simp[ar,row,List.getD,List.getElem?_eq_getElem h]
theorem Bb(ns:List Step):∀y∈ar ns,y.length=3:=by
 intro y hy
 rw[show ar ns=ns.map _ from rfl] at hy
 obtain⟨t,_,rfl⟩:=List.mem_map.1 hy
 rfl
theorem Ch(ns ms:List Step):ar ns++ar ms=ar (ns++ms):=by simp[ar]
theorem rX:ar []=[]:=rfl
theorem y4(n:Step)(ns:List Step):ar (n::ns)=Hu n::ar ns:=rfl
structure RU where
 many:Int
 list:List (List Int)
 deriving DecidableEq
def Ry(t:RU):List D:=[.val (.int .i64 t.many),.bu (BI t.list)]
structure HN where
 marks:List Int
 case:Case
 deriving DecidableEq
def Kq(t:HN):List D:=[.bu (aO t.marks),.val (.int .i64 t.case.kind),.val (.int .i64 t.case.n),.val (.int .i64 t.case.p9.lL),.val (.int .i64 t.case.p9.n),.str t.case.p9.t.name,.bu (ai t.case.p9.t.kids),.bu (dC t.case.p9.kids),.bu (aO t.case.times),.str t.case.A.name,.bu (ai t.case.A.kids),.str t.case.B.name,.bu (ai t.case.B.kids),.bu (dy t.case.kids)]
def Jj(l:List HN):List (List D):=l.map Kq
structure QU where
 lemmas:List HN
 log:List (List Int)
 deriving DecidableEq
def OH(t:QU):List D:=[.bu (Jj t.lemmas),.bu (BI t.log)]
structure Stack where
 sig:bJ
 levels:List (List Form)
 deriving DecidableEq
def PU(t:Stack):List D:=[.bu (cM t.sig.syms),.bu (PY t.levels)]
def av(cs:List D):PV:=.agg (bn cs)
attribute [go_sem] z7 Ah jU Ej u5 EF CH uR EJ C9 G8 B5
attribute [go_sem] ui Ao tw uX EM vj Dv Em E7 BA
attribute [go_sem] mf Il cV oU iZ mW vi EI lj jZ rX
attribute [go_sem] av cT oh bw fZ kO rm r8 Mp dm nW dX dZ Qf Hu Ry Kq OH PU Int.toNat_natCast
end Go.Mod
namespace Go.Eng
open Go.Mod
theorem sA{p q:Prop}(k:q)(h:p=q:=by simp -implicitDefEqProofs only[go_sem];exact rfl):p:=h▸k
theorem sB{p q:Prop}(k:q)(h:p=q:=by simp -implicitDefEqProofs only[go_sem,Int.reduceEq,Int.reduceLT,Int.reduceLE,Int.reduceToNat];exact rfl):p:=h▸k
theorem sC{p:Prop}(h:p:=by simp -implicitDefEqProofs only[go_sem]):p:=h
theorem sD{p:Prop}(h:p:=by simp -implicitDefEqProofs only[go_sem,Int.reduceEq,Int.reduceLT,Int.reduceLE,Int.reduceToNat]):p:=h
theorem iK{os:List Oper}{L:List Ky}{p:Prop}(hp:p)(h:GM os L=true:=by kernel_rfl):indep os L=true∧p:=⟨AS h,hp⟩
theorem aC{m:Option (List Ky)}{gs:Option Nat}{d:Nat}{ty:TypeId}{pos:String}{aft:Array Edge}{gd:Option (Nat×Bool)}{E:Env}{g:G}{rest:jq→Option (List Ky)→G→Prop}{fop:Operand}{xs:List Operand}{tys:Array TypeId}{f:FuncId}(cap:List PV){cargs:List PV}{res:PV}{q:Prop}
 (hC:C E.P f cargs [] (aM res [])) (k:q) (h:g.ev fop= .fn f cap∧yw (I4 g xs++cap) cargs∧lU 0 cargs=true∧res.lt 0=true:=by simp -implicitDefEqProofs only[go_sem])
 (hr:rest .on (fE m (gM (l6 gs ⟨aY fop++uo xs,[]⟩) ⟨some (d,res),[]⟩)) (g.app ⟨some (d,res),[]⟩)=q:=by simp -implicitDefEqProofs only[go_sem];exact rfl):kP E m gs ⟨some d,.call ⟨.value fop,⟨xs⟩,tys⟩,ty,pos,aft,gd⟩ g rest:=
 ck cap hC h (hr▸k)
theorem aD{m:Option (List Ky)}{gs:Option Nat}{d:Nat}{ty:TypeId}{pos:String}{aft:Array Edge}{gd:Option (Nat×Bool)}{E:Env}{g:G}{rest:jq→Option (List Ky)→G→Prop}{fop:Operand}{xs:List Operand}{tys:Array TypeId}{f:FuncId}(cap:List PV){cargs:List PV}{res:PV}{q:Prop}
 (hC:C E.P f cargs [] (aM res [])) (k:q) (h:g.ev fop= .fn f cap∧yw (I4 g xs++cap) cargs∧lU 0 cargs=true∧res.lt 0=true:=by simp -implicitDefEqProofs only[go_sem,Int.reduceEq,Int.reduceLT,Int.reduceLE,Int.reduceToNat])
 (hr:rest .on (fE m (gM (l6 gs ⟨aY fop++uo xs,[]⟩) ⟨some (d,res),[]⟩)) (g.app ⟨some (d,res),[]⟩)=q:=by simp -implicitDefEqProofs only[go_sem,Int.reduceEq,Int.reduceLT,Int.reduceLE,Int.reduceToNat];exact rfl):kP E m gs ⟨some d,.call ⟨.value fop,⟨xs⟩,tys⟩,ty,pos,aft,gd⟩ g rest:=
 ck cap hC h (hr▸k)
theorem oC{m:Option (List Ky)}{gs:Option Nat}{d:Nat}{ty:TypeId}{pos:String}{aft:Array Edge}{gd:Option (Nat×Bool)}{E:Env}{g:G}{rest:jq→Option (List Ky)→G→Prop}{fop:Operand}{xs:List Operand}{tys:Array TypeId}{f:FuncId}(cap:List PV)(M:List Nat){cargs:List PV}{cst st':List (Option En)}{res:PV}{q:Prop}
 (hC:C E.P f cargs cst (aM res st')) (k:q) (h:g.ev fop= .fn f cap∧yw (I4 g xs++cap) (jz M cargs)∧lU (e9 cst) cargs=true∧Dt M=true∧pM (e9 cst) (yT M)=true∧pM (e9 cst) (e9 st')=true∧pM (e9 st') (yT M)=true∧gF g M (e9 cst) M cst∧c8 g (e9 cst) M:=by simp -implicitDefEqProofs only[go_sem])
 (hr:rest .on (fE m (gM (l6 gs ⟨aY fop++uo xs,M⟩) ⟨some (d,res.fl M),ez M M st'⟩)) (g.app ⟨some (d,res.fl M),ez M M st'⟩)=q:=by simp -implicitDefEqProofs only[go_sem];exact rfl):kP E m gs ⟨some d,.call ⟨.value fop,⟨xs⟩,tys⟩,ty,pos,aft,gd⟩ g rest:=
 cm cap M hC h (hr▸k)
theorem oD{m:Option (List Ky)}{gs:Option Nat}{d:Nat}{ty:TypeId}{pos:String}{aft:Array Edge}{gd:Option (Nat×Bool)}{E:Env}{g:G}{rest:jq→Option (List Ky)→G→Prop}{fop:Operand}{xs:List Operand}{tys:Array TypeId}{f:FuncId}(cap:List PV)(M:List Nat){cargs:List PV}{cst st':List (Option En)}{res:PV}{q:Prop}
 (hC:C E.P f cargs cst (aM res st')) (k:q) (h:g.ev fop= .fn f cap∧yw (I4 g xs++cap) (jz M cargs)∧lU (e9 cst) cargs=true∧Dt M=true∧pM (e9 cst) (yT M)=true∧pM (e9 cst) (e9 st')=true∧pM (e9 st') (yT M)=true∧gF g M (e9 cst) M cst∧c8 g (e9 cst) M:=by simp -implicitDefEqProofs only[go_sem,Int.reduceEq,Int.reduceLT,Int.reduceLE,Int.reduceToNat])
 (hr:rest .on (fE m (gM (l6 gs ⟨aY fop++uo xs,M⟩) ⟨some (d,res.fl M),ez M M st'⟩)) (g.app ⟨some (d,res.fl M),ez M M st'⟩)=q:=by simp -implicitDefEqProofs only[go_sem,Int.reduceEq,Int.reduceLT,Int.reduceLE,Int.reduceToNat];exact rfl):kP E m gs ⟨some d,.call ⟨.value fop,⟨xs⟩,tys⟩,ty,pos,aft,gd⟩ g rest:=
 cm cap M hC h (hr▸k)
theorem gS{E:Env}(hm:E.P.follows .mixedOrders=true){f:FuncId}{fn:Func}{c:Code}{args:List PV}{cst:List (Option En)}{R:PV→List (Option En)→Prop}{nt:Nat}{rs:List ResultVar}{L q:Prop}(hf:E.P.funcs[f]?=some fn)(k:L→tm cst→LB=1099511627776→q)
 (hb : fn.body = some c := by rfl) (hname : (fn.name == "runtime.NumGoroutine") = false := by rfl) (hnt : fn.ntmps = nt := by rfl) (hrs : fn.results.toList = rs := by rfl) (hn : pM (oQ args) nt = true := by rfl)
 (e1:jB args=L:=by simp -implicitDefEqProofs only[go_sem];exact rfl) (e2:CR E (e9 cst) c .on ⟨bW nt .undef (JH 0 args),cst⟩ (fun _=>Fh (rf E rs (e9 cst) R))=q:=by simp -implicitDefEqProofs only[go_sem];exact rfl):C E.P f args cst R:=
 H8 hm hf hb hname hnt hrs hn fun h1 h2=>e2▸k (e1▸h1) h2 rfl
theorem gT{E:Env}(hm:E.P.follows .mixedOrders=true){f:FuncId}{fn:Func}{c:Code}{args:List PV}{cst:List (Option En)}{R:PV→List (Option En)→Prop}{nt:Nat}{rs:List ResultVar}{L q:Prop}(hf:E.P.funcs[f]?=some fn)(k:L→tm cst→LB=1099511627776→q)
 (hb : fn.body = some c := by rfl) (hname : (fn.name == "runtime.NumGoroutine") = false := by rfl) (hnt : fn.ntmps = nt := by rfl) (hrs : fn.results.toList = rs := by rfl) (hn : pM (oQ args) nt = true := by rfl)
 (e1:jB args=L:=by simp -implicitDefEqProofs only[go_sem,Int.reduceEq,Int.reduceLT,Int.reduceLE,Int.reduceToNat];exact rfl) (e2:CR E (e9 cst) c .on ⟨bW nt .undef (JH 0 args),cst⟩ (fun _=>Fh (rf E rs (e9 cst) R))=q:=by simp -implicitDefEqProofs only[go_sem,Int.reduceEq,Int.reduceLT,Int.reduceLE,Int.reduceToNat];exact rfl):C E.P f args cst R:=
 H8 hm hf hb hname hnt hrs hn fun h1 h2=>e2▸k (e1▸h1) h2 rfl
theorem sO{p:Prop}(h:p:=by first|(with_reducible exact AS (by kernel_rfl))|omega|assumption|exact⟨Iz _,by omega⟩|exact⟨tW _,by omega⟩|exact⟨vC _,by omega⟩|exact⟨Da _,by omega⟩|exact⟨Gy _,by omega⟩|rfl|(simp[*];done)|(simp;omega)|exact⟨Ei _,by omega⟩|exact⟨BW _,by omega⟩|exact⟨Jp _,by omega⟩|exact⟨Bh _,by omega⟩|exact⟨Hb _,by omega⟩):p:=h
theorem sV{p:Prop}(h:p:=by(simp -implicitDefEqProofs only[go_sem,Int.reduceEq,Int.reduceLT,Int.reduceLE,Int.reduceToNat];repeat'(first|exact nQ.nil|apply nQ.cons|exact Vw.same (by first|rfl|simp -implicitDefEqProofs only[go_sem,Int.reduceEq,Int.reduceLT,Int.reduceLE,Int.reduceToNat])|exact Vw.acc rfl rfl|exact Vw.bM rfl rfl (by simp -implicitDefEqProofs only[go_sem,Int.reduceEq,Int.reduceLT,Int.reduceLE,Int.reduceToNat])|exact Vw.nil|apply Vw.agg|apply Vw.fn|refine Vw.box rfl rfl ?_))):p:=h
end Go.Eng
namespace Go.Mod
open Go.Eng
def within(n lo hi:Int):Bool:=decide (lo≤n)&&decide (n≤hi)
theorem br{n lo hi:Int}:within n lo hi=true↔lo≤n∧n≤hi:=by simp[within]
def bZ{α:Type}(p:α→Bool):List α→Int→Int
 | [],_=>-1
 | x::xs,i=>if p x then i else bZ p xs (i+1)
def idxOf{α:Type}(p:α→Bool)(xs:List α):Int:=bZ p xs 0
def bl(a:Rat):Bool:=within a.N (-1000000000) 1000000000&&(within a.D 1 1000000000&&decide ((Int.gcd a.N a.D:Int)=1))
def ja:Rat:=⟨0,0⟩
def gq(n d:Int):Rat×Bool:=
 if d=0 then(ja,false) else
 let n1:=if d<0 then -n else n
 let d1:=if d<0 then -d else d
 let a:Rat:=⟨n1.tdiv (Int.gcd n1 d1),d1.tdiv (Int.gcd n1 d1)⟩
 if bl a then(a,true) else(ja,false)
def oj(n d:Int):Rat×Bool:=if within n (-1000000000) 1000000000&&within d (-1000000000) 1000000000 then gq n d else(ja,false)
def fu(a b:Rat):Rat×Bool:=if bl a&&bl b then gq (a.N*b.D+b.N*a.D) (a.D*b.D) else(ja,false)
def eX(a b:Rat):Rat×Bool:=if bl a&&bl b then gq (a.N*b.N) (a.D*b.D) else(ja,false)
def bH(a b:Rat):Bool:=bl a&&(bl b&&decide (a.N*b.D<b.N*a.D))
def oM(a b:Rat):Rat×Bool:=if(fu a b).2 then eX (fu a b).1 ⟨1,2⟩ else(ja,false)
def nj(n:Int):Bool:=within n (-1000000) 1000000
def c5(l:fq):Bool:=l.aq.all nj&&(decide (l.aq.length=4)&&nj l.bound)
def kf:fq:=⟨[],0,false⟩
def tU(l:fq):fq:=if c5 l then⟨l.aq.map fun c=>-c,-l.bound,!l.strict⟩ else kf
def comb(m n:Int):List Int→List Int→List Int
 | a::as,b::bs=>(m*a+n*b)::comb m n as bs
 | _,_=>[]
def jC(a:fq)(m:Int)(b:fq)(n:Int):fq:=⟨comb m n a.aq b.aq,m*a.bound+n*b.bound,(decide (0<m)&&a.strict)||(decide (0<n)&&b.strict)⟩
def kW(a:fq)(m:Int)(b:fq)(n:Int):fq×Bool:=if c5 (jC a m b n) then(jC a m b n,true) else(kf,false)
def cR(a:fq)(m:Int)(b:fq)(n:Int):fq×Bool:=if c5 a&&c5 b&&within m 0 1000000&&within n 0 1000000 then kW a m b n else(kf,false)
def flat(l:fq):Bool:=l.aq.all fun c=>decide (c=0)
def lN(l:fq):Bool:=c5 l&&(flat l&&(decide (l.bound<0)||(decide (l.bound=0)&&l.strict)))
def whole(n:Int):Rat:=⟨n,1⟩
def plus(sum:Rat)(c:Int)(val:Rat):Rat×Bool:=if(eX (whole c) val).2 then fu sum (eX (whole c) val).1 else(ja,false)
def dQ(list:List fq):Bool:=decide (list.length≤20)&&list.all c5
def vf:List fq→List Int→fq→fq×Bool
 | l::ls,t::ts,out=>if(cR out 1 l t).2 then vf ls ts (cR out 1 l t).1 else(kf,false)
 | _,_,out=>(out,true)
def ix(list:List fq)(times:List Int):fq×Bool:=if dQ list&&decide (times.length=list.length) then vf list times ⟨[0,0,0,0],0,false⟩ else(kf,false)
def uZ(list:List fq)(times:List Int):Bool:=(ix list times).2&&lN (ix list times).1
def c7(c:UInt8):Bool:=decide ((97:Int)≤(c.toNat:Int))&&decide ((c.toNat:Int)≤122)
def cd(s:gL):Bool:=within s.length 1 2&&s.all c7
def isSort(n:Int):Bool:=decide (n=0)||decide (n=1)
def gD(x:Sym):Bool:=cd x.name&&(decide (x.args.length≤2)&&(isSort x.sort&&x.args.all isSort))
def cX(a b:gL):Bool:=Op.bytesLess a b
def jr:Option gL→List Sym→Bool
 | _,[]=>true
 | p,x::xs=>gD x&&((match p with|none=>true|some q=>cX q x.name)&&jr (some x.name) xs)
def bT(s:bJ):Bool:=jr none s.syms&&decide (s.syms.length≤7)
def symbol(s:bJ)(name:gL):Option Sym:=s.syms.find? fun x=>decide (x.name=name)
def kN:Sym:=⟨[],[],0⟩
mutual
def eE:Term→Nat→Nat
 | .mk n ks,deep=>if cd n&&decide (ks.length≤2)&&decide (deep≤4) then 1+bL ks (deep+1) else 13
def bL:List Term→Nat→Nat
 | [],_=>0
 | t::ts,deep=>eE t deep+bL ts deep
end
def isTerm(t:Term):Bool:=decide (eE t 1≤12)
mutual
def aE:Term→Nat→Bool
 | _,0=>false
 | .mk n ks,d+1=>cd n&&(decide (ks.length≤2)&&aQ ks d)
def aQ:List Term→Nat→Bool
 | [],_=>true
 | t::ts,d=>aE t d&&aQ ts d
end
mutual
def many:Term→Nat→Nat
 | _,0=>1
 | .mk _ ks,d+1=>1+e5 ks d
def e5:List Term→Nat→Nat
 | [],_=>0
 | t::ts,d=>many t d+e5 ts d
end
mutual
def cu(s:bJ):Term→Option Int
 | .mk n ks=>match symbol s n with
   | none=>none
   | some x=>if decide (x.args.length=ks.length)&&dk s ks x.args then some x.sort else none
def dk(s:bJ):List Term→List Int→Bool
 | k::ks,a::as=>decide (cu s k=some a)&&dk s ks as
 | _,_=>true
end
def bx(s:bJ)(t:Term):Option Int:=if bT s&&isTerm t then cu s t else none
def dE:List gL→gL
 | []=>[]
 | [t]=>t
 | t::ts=>t++(44::dE ts)
mutual
def aj:Term→gL
 | .mk n []=>n
 | .mk n (k::ks)=>n++(40::(dE (aj k::bV ks)++[41]))
def bV:List Term→List gL
 | []=>[]
 | t::ts=>aj t::bV ts
end
def a8(list:List Term)(t:Term):Int:=idxOf (fun u=>decide (t=u)) list
mutual
def aW(list:List Term):Term→List Term
 | .mk n ks=>let l:=ak list ks;if a8 l (.mk n ks)<0 then l++[.mk n ks] else l
def ak(list:List Term):List Term→List Term
 | []=>list
 | t::ts=>ak (aW list t) ts
end
def fy:List Term→List Term→List Term
 | [],out=>out
 | t::ts,out=>if isTerm t then fy ts (aW out t) else []
def aH(list:List Term):List Term:=fy list []
def bA(eqs:List e6):List Term:=eqs.flatMap fun e=>[e.A,e.B]
def dx(s:bJ)(e:e6):Bool:=(bx s e.A).isSome&&decide (bx s e.A=bx s e.B)
def jn(s:bJ)(eqs:List e6):Bool:=bT s&&decide (eqs.length≤12)&&eqs.all (dx s)&&decide ((aH (bA eqs)).length≤24)
def ao:Term:=.mk [] []
def isNone(t:Term):Bool:=decide (t.name=[])&&decide (t.kids=[])
def GP:e6:=⟨ao,ao⟩
def uy:iy:=.mk 0 0 ao []
def Kr(eqs:List e6)(lL n:Int)(t:Term)(kids:List e6):e6×Bool:=
 if(lL≠2∧n≠0)∨(lL≠1∧lL≠5∧isNone t=false) then(GP,false) else
 if lL=1 then(⟨t,t⟩,decide (kids.length=0)&&isTerm t) else
 if lL=2 then(if 0<kids.length∨within n 0 (eqs.length-1)=false then(GP,false) else(eqs.getD n.toNat GP,true)) else
 if lL=3 then(if kids.length=1 then(⟨(kids.getD 0 GP).B,(kids.getD 0 GP).A⟩,true) else(GP,false)) else
 if lL=4 then(if kids.length=2∧(kids.getD 0 GP).B=(kids.getD 1 GP).A then(⟨(kids.getD 0 GP).A,(kids.getD 1 GP).B⟩,true) else(GP,false)) else
 if lL=5 then(if kids.length=0∨cd t.name=false∨0<t.kids.length then(GP,false) else
  (⟨.mk t.name (kids.map (·.A)),.mk t.name (kids.map (·.B))⟩,isTerm (.mk t.name (kids.map (·.A)))&&isTerm (.mk t.name (kids.map (·.B))))) else
 (GP,false)
mutual
def xH(f:Int→Int→Term→List e6→e6×Bool):iy→Nat→e6×Bool
 | _,0=>(GP,false)
 | .mk r n t ks,d+1=>match Ht f ks d with
   | none=>(GP,false)
   | some kids=>f r n t kids
def Ht(f:Int→Int→Term→List e6→e6×Bool):List iy→Nat→Option (List e6)
 | [],_=>some []
 | w::ws,d=>if(xH f w d).2 then(Ht f ws d).map fun es=>(xH f w d).1::es else none
end
def Ev(s:bJ)(eqs:List e6)(w:iy):Option e6:=
 if jn s eqs&&((xH (Kr eqs) w 400).2&&jn s [(xH (Kr eqs) w 400).1]) then some (xH (Kr eqs) w 400).1 else none
def fH:Option Term→List Term→List Int→Bool
 | p,t::ts,n::ns=>isTerm t&&(within n (-50) 50&&(decide (n≠0)&&((match p with|none=>true|some q=>cX (aj q) (aj t))&&fH (some t) ts ns)))
 | _,_,_=>true
def aX(a:Atom):Bool:=
 if a.kind=1 then isTerm a.A&&(isTerm a.B&&(decide (a.nums.length=0)&&(decide (a.times.length=0)&&(decide (a.bound=0)&& !a.strict)))) else
 if a.kind=2 then isNone a.A&&(isNone a.B&&(within a.nums.length 1 4&&(decide (a.times.length=a.nums.length)&&(within a.bound (-1000) 1000&&fH none a.nums a.times)))) else false
def bc(s:bJ)(t:Term):Bool:=decide (bx s t=some 1)
def b7(s:bJ)(a:Atom):Bool:=bT s&&(aX a&&(if a.kind=1 then dx s ⟨a.A,a.B⟩ else a.nums.all (bc s)))
def aI(a:Atom):List Term:=if a.kind=1 then [a.A,a.B] else a.nums
def aA(lits:List aG):List Term:=aH (lits.flatMap fun l=>aI l.atom)
def numsOf(s:bJ)(lits:List aG):List Term:=(aA lits).filter (bc s)
def bO(s:bJ)(lits:List aG):Bool:=bT s&&decide (lits.length≤6)&&lits.all (fun l=>b7 s l.atom)&&decide ((aA lits).length≤24)&&decide ((numsOf s lits).length≤4)
def aB(lits:List aG):List e6:=lits.filterMap fun l=>if l.atom.kind=1∧l.no=false then some ⟨l.atom.A,l.atom.B⟩ else none
def oI:List Int→Int→Int→List Int
 | [],_,_=>[]
 | c::cs,i,v=>if i=0 then(c+v)::cs else c::oI cs (i-1) v
def iw(nums:List Term):List Term→List Int→List Int→List Int
 | t::ts,n::ns,cs=>iw nums ts ns (oI cs (a8 nums t) n)
 | _,_,cs=>cs
def yl(nums list:List Term)(times:List Int)(bound:Int)(strict:Bool):fq:=⟨iw nums list times [0,0,0,0],bound,strict⟩
def jG(nums:List Term)(l:aG):List fq:=
 if l.atom.kind=2 then [if l.no then tU (yl nums l.atom.nums l.atom.times l.atom.bound l.atom.strict) else yl nums l.atom.nums l.atom.times l.atom.bound l.atom.strict]
 else if l.no=false∧0≤a8 nums l.atom.A then [yl nums [l.atom.A,l.atom.B] [1,-1] 0 false,yl nums [l.atom.A,l.atom.B] [-1,1] 0 false] else []
def cL(nums:List Term)(lits:List aG):List fq:=lits.flatMap (jG nums)
def xB(a b:Term):Atom:=⟨1,a,b,[],[],0,false⟩
def eO(a b:Term):aG:=⟨xB a b,false⟩
def cP(a b:Term):aG:=if cX (aj b) (aj a) then⟨⟨2,ao,ao,[b,a],[-1,1],0,true⟩,false⟩ else⟨⟨2,ao,ao,[a,b],[1,-1],0,true⟩,false⟩
def gu(a b:Term):List aG:=[eO a b,cP a b,cP b a]
def differ(nums:List Term)(a b:Term):Bool:=decide (0≤a8 nums a)&&(decide (0≤a8 nums b)&&decide (a8 nums a≠a8 nums b))
def bare(c:Case)(n p9 times terms:Bool)(kids:Nat):Bool:=
 (n||decide (c.n=0))&&((p9||decide (c.p9=uy))&&((times||decide (c.times.length=0))&&((terms||(isNone c.A&&isNone c.B))&&decide (c.kids.length=kids))))
theorem xK:ao.name=[]:=rfl
theorem xR:ao.kids=[]:=rfl
theorem AZ:kN.name=[]:=rfl
theorem zT:kN.args=[]:=rfl
theorem AR:kN.sort=0:=rfl
theorem xL:kf.aq=[]:=rfl
theorem xX:kf.bound=0:=rfl
theorem vg:kf.strict=false:=rfl
theorem L3:ja.N=0:=rfl
theorem Kz:ja.D=0:=rfl
theorem AM:uy.lL=0:=rfl
theorem LQ:uy.n=0:=rfl
theorem Mj:uy.t=ao:=rfl
theorem AO:uy.kids=[]:=rfl
attribute [simp] xK xR AZ zT AR xL xX vg L3 Kz AM LQ Mj AO cV mf jZ iZ
attribute [go_sem] xK xR AZ zT AR xL xX vg L3 Kz AM LQ Mj AO
theorem s5(n:gL)(ks:List Term):(Term.mk n ks).name=n:=rfl
theorem sR(n:gL)(ks:List Term):(Term.mk n ks).kids=ks:=rfl
attribute [simp] s5 sR
attribute [go_sem] s5 sR
end Go.Mod
namespace Go.Mod
open Go.Eng
def hH(a b:Rat):Int:=if bH a b then -1 else if bH b a then 1 else 0
def cF:List Rat→List Rat→Int
 | [],[]=>0
 | [],_::_=>-1
 | _::_,[]=>1
 | a::as,b::bs=>if hH a b=0 then cF as bs else hH a b
def gn(a b:gL):Int:=if cX a b then -1 else if cX b a then 1 else 0
def hU(a b:Int):Int:=if a<b then -1 else if b<a then 1 else 0
def bK(a b:Row):Int:=if gn a.name b.name≠0 then gn a.name b.name else if hU a.args.length b.args.length≠0 then hU a.args.length b.args.length else cF a.args b.args
def jm(r:Row):Bool:=cd r.name&&(decide (r.args.length≤2)&&(bl r.val&&r.args.all bl))
def ng:Option Row→List Row→Bool
 | _,[]=>true
 | p,r::rs=>jm r&&((match p with|none=>true|some q=>decide (bK q r<0))&&ng (some r) rs)
def cY(m:Model):Bool:=decide (m.rows.length≤40)&&ng none m.rows
def r7(a:Rat)(sort:Int):Bool:=decide (sort=1)||decide (a.D=1)
def hQ:List Rat→List Int→Bool
 | a::as,n::ns=>r7 a n&&hQ as ns
 | _,_=>true
def jk(s:bJ)(r:Row):Bool:=
 match symbol s r.name with
 | none=>false
 | some x=>decide (x.args.length=r.args.length)&&(r7 r.val x.sort&&hQ r.args x.args)
def b9(s:bJ)(m:Model):Bool:=bT s&&(cY m&&m.rows.all (jk s))
def lookup(rows:List Row)(name:gL)(args:List Rat):Rat:=
 match rows.find? (fun r=>decide (r.name=name∧r.args=args)) with
 | some r=>r.val
 | none=>⟨0,1⟩
mutual
def value(m:Model):Term→Rat
 | .mk n ks=>lookup m.rows n (values m ks)
def values(m:Model):List Term→List Rat
 | []=>[]
 | t::ts=>value m t::values m ts
end
def uS(m:Model):List Term→List Int→Rat→Option Rat
 | t::ts,n::ns,sum=>if(plus sum n (value m t)).2 then uS m ts ns (plus sum n (value m t)).1 else none
 | _,_,sum=>some sum
def below(a:Rat)(bound:Int)(strict:Bool):Bool:=if strict then bH a (whole bound) else !bH (whole bound) a
def lK(m:Model)(a:Atom):Option Bool:=if a.kind=1 then some (decide (value m a.A=value m a.B)) else(uS m a.nums a.times (whole 0)).map fun x=>below x a.bound a.strict
def fa(s:bJ)(m:Model)(l:aG):Option Bool:=if b9 s m&&b7 s l.atom then(lK m l.atom).map fun b=>b != l.no else none
mutual
def Lw(s:bJ)(nums:List Term):Case→List aG→Nat→Bool
 | .mk k n w ts a b ks,lits,deep=>
   if 14<deep then false else
   if k=1 then bare (.mk k n w ts a b ks) true true false false 0&&(within n 0 (lits.length-1)&&(match Ev s (aB lits) w,lits[n.toNat]? with
    | some e,some l=>l.no&&(decide (l.atom.kind=1)&&(decide (e.A=l.atom.A)&&decide (e.B=l.atom.B)))
    | _,_=>false)) else
   if k=2 then bare (.mk k n w ts a b ks) false false true false 0&&uZ (cL nums lits) ts else
   if k=3 then bare (.mk k n w ts a b ks) false true false false 1&&(match Ev s (aB lits) w with
    | some e=>differ nums e.A e.B&&BH s nums ks [lits++[eO e.A e.B]] (deep+1)
    | none=>false) else
   if k=4 then bare (.mk k n w ts a b ks) false false false true 3&&(differ nums a b&&BH s nums ks ((gu a b).map fun l=>lits++[l]) (deep+1)) else
   false
def BH(s:bJ)(nums:List Term):List Case→List (List aG)→Nat→Bool
 | c::cs,l::ls,deep=>Lw s nums c l deep&&BH s nums cs ls deep
 | _,_,_=>true
end
def Pl(s:bJ)(lits:List aG)(c:Case):Bool:=bO s lits&&Lw s (numsOf s lits) c lits 1
def Mh(kind:Int):Int:=if kind=1 then 0 else if kind=2 then 1 else if kind=3∨kind=4∨kind=5∨kind=6 then 2 else -1
def Dk:Atom:=⟨0,ao,ao,[],[],0,false⟩
def zK:aG:=⟨Dk,false⟩
def QR:Form:=.mk 0 zK []
def Np(l:aG):Bool:=!l.no&&decide (l.atom=Dk)
def CX(k:Int)(l:aG)(ks:List Form):Bool:=decide (Mh k=ks.length)&&(if k=1 then aX l.atom else Np l)
mutual
def CW:Form→Nat→Nat
 | .mk k l ks,deep=>if decide (deep≤5)&&CX k l ks then 1+Am ks (deep+1) else 11
def Am:List Form→Nat→Nat
 | [],_=>0
 | t::ts,deep=>CW t deep+Am ts deep
end
mutual
def IE:Form→Nat→Bool
 | _,0=>false
 | .mk k l ks,d+1=>CX k l ks&&ym ks d
def ym:List Form→Nat→Bool
 | [],_=>true
 | t::ts,d=>IE t d&&ym ts d
end
mutual
def Ld:Form→Nat→Nat
 | _,0=>1
 | .mk _ _ ks,d+1=>1+Aa ks d
def Aa:List Form→Nat→Nat
 | [],_=>0
 | t::ts,d=>Ld t d+Aa ts d
end
def Cj(list:List Atom)(a:Atom):Int:=idxOf (fun b=>decide (a=b)) list
mutual
def withAtoms(list:List Atom):Form→List Atom
 | .mk k l ks=>if k=1 then(if Cj list l.atom<0 then list++[l.atom] else list) else rC list ks
def rC(list:List Atom):List Form→List Atom
 | []=>list
 | t::ts=>rC (withAtoms list t) ts
end
def GY(f:Form):Bool:=decide (CW f 1≤10)&&decide ((withAtoms [] f).length≤6)
def plain(list:List Atom):List aG:=list.map fun a=>⟨a,false⟩
def OX(s:bJ)(f:Form):Bool:=GY f&&bO s (plain (withAtoms [] f))
mutual
def holds(p:Atom→Bool):Form→Bool
 | .mk k l ks=>P1 k l (Le p ks) p
def Le(p:Atom→Bool):List Form→List Bool
 | []=>[]
 | t::ts=>holds p t::Le p ts
def P1(k:Int)(l:aG)(is:List Bool)(p:Atom→Bool):Bool:=
 if k=1 then p l.atom != l.no else
 if k=2 then !(is.getD 0 false) else
 if k=3 then is.getD 0 false&&is.getD 1 false else
 if k=4 then is.getD 0 false||is.getD 1 false else
 if k=5 then !(is.getD 0 false)||is.getD 1 false else
 is.getD 0 false == is.getD 1 false
end
def Pj(f:Form)(ay:List Bool):Option Bool:=
 if GY f&&decide ((withAtoms [] f).length=ay.length) then some (holds (fun a=>ay.getD (Cj (withAtoms [] f) a).toNat false) f) else none
def Lq(s:bJ)(m:Model):List Atom→Option (List Bool)
 | []=>some []
 | a::as=>match fa s m ⟨a,false⟩ with
   | none=>none
   | some b=>match Lq s m as with
     | none=>none
     | some bs=>some (b::bs)
def Je(s:bJ)(m:Model)(f:Form):Option Bool:=
 if OX s f then(match Lq s m (withAtoms [] f) with|none=>none|some ay=>Pj f ay) else none
def BK:List Form→List Atom→List Atom
 | [],out=>out
 | f::fs,out=>BK fs (withAtoms out f)
def qZ(list:List Form):Option (List Atom):=
 if decide (list.length≤5)&&(list.all GY&&decide ((BK list []).length≤6)) then some (BK list []) else none
def H2(s:bJ)(list:List Form):Bool:=match qZ list with|none=>false|some atoms=>bT s&&bO s (plain atoms)
def O3(l many:Int):Bool:=decide (l≠0)&&within l (-many) many
def Oy:List Int→List Int→Int→Bool
 | _,[],_=>true
 | before,m::ms,many=>O3 m many&&(!(before.contains m)&&(!(before.contains (-m))&&Oy (before++[m]) ms many))
def CV(marks:List Int)(many:Nat):Bool:=Oy [] marks many
def LG(marks:List Int)(atoms:List Atom):List aG:=marks.map fun m=>⟨atoms.getD (m.natAbs-1) Dk,decide (m<0)⟩
def Rf(s:bJ)(list:List Form)(l:HN):Bool:=
 H2 s list&&(decide (0<l.marks.length)&&(CV l.marks ((qZ list).getD []).length&&Pl s (LG l.marks ((qZ list).getD [])) l.case))
def QI(s:bJ)(m:Model)(list:List Form):Bool:=H2 s list&&(b9 s m&&list.all fun f=>decide (Je s m f=some true))
end Go.Mod
namespace Go.Proofs.YtpidddienjoleaaGreat
open Go.Eng Go.Mod
set_option maxRecDepth 100000
theorem C7{n:Int}:(if n < -n then -n else n)=(n.natAbs:Int):=by split<;>omega
end Go.Proofs.YtpidddienjoleaaGreat
namespace Go.Mod
open Go.Eng
mutual
theorem lq:∀(t:Term)(d:Nat),d≤4→(aE t d=true→eE t (5-d)=many t d)∧(aE t d=false→13≤eE t (5-d))
 | .mk n ks,0,_=>by simp[aE,eE]
 | .mk n ks,d+1,hd=>by
   obtain⟨h1,h2⟩:=su ks d (by omega)
   have e:5-(d+1)+1=5-d:=by omega
   have e2:5-(d+1)≤4:=by omega
   simp only[aE,eE,many,e,e2,decide_true,Bool.and_true]
   cases hn:cd n
   ·simp
   ·rcases Classical.em (ks.length≤2) with hk|hk
    ·simp only[hk,decide_true,Bool.and_self,Bool.true_and,if_true]
     exact⟨fun h=>by rw[h1 h],fun h=>by have:=h2 h;omega⟩
    ·simp[hk]
theorem su:∀(ts:List Term)(d:Nat),d≤4→(aQ ts d=true→bL ts (5-d)=e5 ts d)∧(aQ ts d=false→13≤bL ts (5-d))
 | [],_,_=>by simp[aQ,bL,e5]
 | t::ts,d,hd=>by
   obtain⟨h1,h2⟩:=lq t d hd
   obtain⟨h3,h4⟩:=su ts d hd
   simp only[aQ,bL,e5]
   cases ht:aE t d
   ·have:=h2 ht
    exact⟨fun h=>by simp at h,fun _=>by omega⟩
   ·cases hts:aQ ts d
    ·have:=h4 hts
     exact⟨fun h=>by simp at h,fun _=>by omega⟩
    ·exact⟨fun _=>by rw[h1 ht,h3 hts],fun h=>by simp at h⟩
end
def right(t:Term):Bool:=aE t 4&&decide (many t 4≤12)
theorem sr(t:Term):right t=isTerm t:=by
 have h:=lq t 4 (by omega)
 simp only[show 5-4=1 from rfl] at h
 obtain⟨h1,h2⟩:=h
 unfold right isTerm
 cases h:aE t 4
 ·have:=h2 h
  simp only[Bool.false_and]
  symm
  simp only[decide_eq_false_iff_not]
  omega
 ·rw[←h1 h]
  simp
theorem cZ{t:Term}(h:isTerm t=true):aE t 4=true:=by
 rw[←sr] at h
 simp only[right,Bool.and_eq_true] at h
 exact h.1
mutual
theorem uz:∀(t:Term)(d:Nat),aE t d=true→aE t (d+1)=true
 | .mk n ks,0,h=>by simp[aE] at h
 | .mk n ks,d+1,h=>by
   simp only[aE,Bool.and_eq_true] at h⊢
   exact⟨h.1,h.2.1,yP ks d h.2.2⟩
theorem yP:∀(ts:List Term)(d:Nat),aQ ts d=true→aQ ts (d+1)=true
 | [],_,_=>by simp[aQ]
 | t::ts,d,h=>by
   simp only[aQ,Bool.and_eq_true] at h⊢
   exact⟨uz t d h.1,yP ts d h.2⟩
end
theorem gy:∀{ts:List Term}{d:Nat},aQ ts d=true→∀t∈ts,aE t d=true
 | [],_,_,t,ht=>by simp at ht
 | a::ts,d,h,t,ht=>by
   simp only[aQ,Bool.and_eq_true] at h
   rcases List.mem_cons.1 ht with rfl|ht
   ·exact h.1
   ·exact gy h.2 t ht
theorem gH{t:Term}{d:Nat}(h:aE t (d+1)=true):cd t.name=true∧t.kids.length≤2∧aQ t.kids d=true:=by
 cases t with
 | mk n ks=>
   simp only[aE,Bool.and_eq_true,decide_eq_true_eq] at h
   exact⟨h.1,h.2.1,h.2.2⟩
mutual
theorem Cl:∀(t:Term)(d:Nat),aE t d=true→many t d+1≤2 ^ d
 | .mk n ks,0,h=>by simp[aE] at h
 | .mk n ks,d+1,h=>by
   simp only[aE,Bool.and_eq_true,decide_eq_true_eq] at h
   have:=tg ks d h.2.2
   simp only[many]
   have h3:ks.length*(2 ^ d-1)≤2*(2 ^ d-1):=Nat.mul_le_mul_right _ h.2.1
   have h4:1≤2 ^ d:=Nat.one_le_two_pow
   rw[Nat.pow_succ]
   omega
theorem tg:∀(ts:List Term)(d:Nat),aQ ts d=true→e5 ts d≤ts.length*(2 ^ d-1)
 | [],_,_=>by simp[e5]
 | t::ts,d,h=>by
   simp only[aQ,Bool.and_eq_true] at h
   have h1:=Cl t d h.1
   have h2:=tg ts d h.2
   simp only[e5,List.length_cons,Nat.add_mul,Nat.one_mul]
   omega
end
mutual
theorem vq:∀(t:Term)(deep:Nat),1≤deep→deep≤5→eE t deep+14≤27*2 ^ (5-deep)
 | .mk n ks,deep,h1,h5=>by
   simp only[eE]
   split
   ·rename_i h
    simp only[Bool.and_eq_true,decide_eq_true_eq] at h
    have:=mM ks (deep+1) (by omega) (by omega)
    have h3:ks.length*(27*2 ^ (5-(deep+1))-14)≤2*(27*2 ^ (5-(deep+1))-14):=Nat.mul_le_mul_right _ h.1.2
    have e:5-deep=(5-(deep+1))+1:=by omega
    have h4:1≤2 ^ (5-(deep+1)):=Nat.one_le_two_pow
    rw[e,Nat.pow_succ]
    omega
   ·have h4:1≤2 ^ (5-deep):=Nat.one_le_two_pow
    omega
theorem mM:∀(ts:List Term)(deep:Nat),1≤deep→deep≤5→bL ts deep≤ts.length*(27*2 ^ (5-deep)-14)
 | [],_,_,_=>by simp[bL]
 | t::ts,deep,h1,h5=>by
   have h2:=vq t deep h1 h5
   have h3:=mM ts deep h1 h5
   simp only[bL,List.length_cons,Nat.add_mul,Nat.one_mul]
   omega
end
theorem b8:∀(ts l:List Term),ak l ts=ts.foldl aW l
 | [],_=>rfl
 | t::ts,l=>by simp only[ak,List.foldl_cons,b8 ts]
theorem jt{ts:List Term}{i:Nat}(h:i<ts.length)(l:List Term):ak l (ts.take (i+1))=aW (ak l (ts.take i)) ts[i]:=by
 have e:ts.take (i+1)=ts.take i++[ts[i]]:=by rw[List.take_add_one,List.getElem?_eq_getElem h];rfl
 rw[e,b8,b8,List.foldl_append]
 rfl
theorem jR(l:List Term)(t:Term):aW l t=if a8 (ak l t.kids) t<0 then ak l t.kids++[t] else ak l t.kids:=by
 cases t;rfl
mutual
theorem qb:∀(t:Term)(d:Nat)(l:List Term),aE t d=true→(aW l t).length≤l.length+many t d
 | .mk n ks,0,l,h=>by simp[aE] at h
 | .mk n ks,d+1,l,h=>by
   simp only[aE,Bool.and_eq_true] at h
   have:=kv ks d l h.2.2
   simp only[aW,many]
   split
   ·simp only[List.length_append,List.length_cons,List.length_nil]
    omega
   ·omega
theorem kv:∀(ts:List Term)(d:Nat)(l:List Term),aQ ts d=true→(ak l ts).length≤l.length+e5 ts d
 | [],_,_,_=>by simp[ak]
 | t::ts,d,l,h=>by
   simp only[aQ,Bool.and_eq_true] at h
   have h1:=qb t d l h.1
   have h2:=kv ts d (aW l t) h.2
   simp only[ak,e5]
   omega
end
theorem jH:∀{ts:List Term}{d:Nat},aQ ts d=true→∀i,aQ (ts.take i) d=true
 | [],_,_,i=>by simp[aQ]
 | t::ts,d,h,0=>by simp[aQ]
 | t::ts,d,h,i+1=>by
   simp only[aQ,Bool.and_eq_true,List.take_succ_cons] at h⊢
   exact⟨h.1,jH h.2 i⟩
theorem nH{t:Term}{d:Nat}{l:List Term}(h:aE t d=true)(hd:d≤4):(aW l t).length≤l.length+15:=by
 have h1:=qb t d l h
 have h2:=Cl t d h
 have h3:2 ^ d≤2 ^ 4:=Nat.pow_le_pow_right (by omega) hd
 omega
theorem qo{t:Term}{d:Nat}{l:List Term}(h:aE t (d+1)=true)(hd:d≤3)(i:Nat):(ak l (t.kids.take i)).length≤l.length+14:=by
 obtain⟨_,h1,h2⟩:=gH h
 have h3:=kv (t.kids.take i) d l (jH h2 i)
 have h4:=tg (t.kids.take i) d (jH h2 i)
 have h5:2 ^ d≤2 ^ 3:=Nat.pow_le_pow_right (by omega) hd
 have h6:(t.kids.take i).length≤2:=by simp;omega
 have h7:(t.kids.take i).length*(2 ^ d-1)≤2*(2 ^ d-1):=Nat.mul_le_mul_right _ h6
 omega
end Go.Mod
namespace Go.Mod
open Go.Eng
theorem x9{n:Int}:isSort n=true↔n=0∨n=1:=by simp[isSort]
theorem yM:∀{l:List Sym}{p:Option gL},jr p l=true→∀x∈l,gD x=true
 | [],_,_,x,hx=>by simp at hx
 | a::l,p,h,x,hx=>by
   simp only[jr,Bool.and_eq_true] at h
   rcases List.mem_cons.1 hx with rfl|hx
   ·exact h.1
   ·exact yM h.2.2 x hx
theorem Ai{s:bJ}{n:gL}{x:Sym}(hs:bT s=true)(h:symbol s n=some x):gD x=true:=by
 simp only[bT,Bool.and_eq_true] at hs
 exact yM hs.1 x (List.mem_of_find?_eq_some h)
theorem xQ{x:Sym}(h:gD x=true):isSort x.sort=true∧∀n∈x.args,isSort n=true:=by
 simp only[gD,Bool.and_eq_true,List.all_eq_true] at h
 exact⟨h.2.2.1,h.2.2.2⟩
theorem DR{s:bJ}{t:Term}{n:Int}(hs:bT s=true)(h:cu s t=some n):isSort n=true:=by
 cases t with
 | mk nm ks=>
   simp only[cu] at h
   cases hx:symbol s nm with
   | none=>rw[hx] at h;cases h
   | some x=>
     rw[hx] at h
     simp only at h
     split at h
     ·cases h
      exact(xQ (Ai hs hx)).1
     ·cases h
theorem pw:c7 40=false:=by decide
theorem pO:c7 41=false:=by decide
theorem pt:c7 44=false:=by decide
def Ho(r:gL):Prop:=∀c x,r=c::x→c7 c=false
def C0(r:gL):Prop:=∀c x,r=c::x→c7 c=false∧c≠40
theorem nE{c:UInt8}{x:gL}(h:c7 c=false):Ho (c::x):=by
 intro c' x' e
 cases e
 exact h
theorem fJ{c:UInt8}{x:gL}(h:c7 c=false)(h2:c≠40):C0 (c::x):=by
 intro c' x' e
 cases e
 exact⟨h,h2⟩
theorem C0.n{r:gL}(h:C0 r):Ho r:=fun c x e=>(h c x e).1
theorem iX:∀{a b r r':gL},a.all c7=true→b.all c7=true→Ho r→Ho r'→a++r=b++r'→a=b∧r=r'
 | [],[],r,r',_,_,_,_,h=>⟨rfl,by simpa using h⟩
 | [],c::b,r,r',_,hb,hr,_,h=>by
   simp only[List.all_cons,Bool.and_eq_true] at hb
   have:=hr c (b++r') (by simpa using h)
   rw[this] at hb
   simp at hb
 | c::a,[],r,r',ha,_,_,hr',h=>by
   simp only[List.all_cons,Bool.and_eq_true] at ha
   have:=hr' c (a++r) (by simpa using h.symm)
   rw[this] at ha
   simp at ha
 | c::a,d::b,r,r',ha,hb,hr,hr',h=>by
   simp only[List.all_cons,Bool.and_eq_true] at ha hb
   simp only[List.cons_append,List.cons.injEq] at h
   obtain⟨h1,h2⟩:=iX ha.2 hb.2 hr hr' h.2
   exact⟨by rw[h.1,h1],h2⟩
theorem xF{n:gL}(h:cd n=true):n.all c7=true:=by
 simp only[cd,Bool.and_eq_true] at h
 exact h.2
mutual
theorem oH:∀(t u:Term)(d:Nat)(r r':gL),aE t d=true→aE u d=true→C0 r→C0 r'→aj t++r=aj u++r'→t=u∧r=r'
 | t,u,0,r,r',ht,_,_,_,_=>by simp[aE] at ht
 | .mk n ks,.mk m js,d+1,r,r',ht,hu,hr,hr',h=>by
   simp only[aE,Bool.and_eq_true] at ht hu
   have hn:=xF ht.1
   have hm:=xF hu.1
   match ks,js,ht,hu,h with
   | [],[],ht,hu,h=>
     simp only[aj] at h
     obtain⟨h1,h2⟩:=iX hn hm hr.n hr'.n h
     exact⟨by rw[h1],h2⟩
   | [],k::js,ht,hu,h=>
     simp only[aj,List.append_assoc,List.cons_append] at h
     obtain⟨h1,h2⟩:=iX hn hm hr.n (nE pw) h
     exact absurd rfl ((hr _ _ h2).2)
   | k::ks,[],ht,hu,h=>
     simp only[aj,List.append_assoc,List.cons_append] at h
     obtain⟨h1,h2⟩:=iX hn hm (nE pw) hr'.n h
     exact absurd rfl ((hr' _ _ h2.symm).2)
   | k::ks,j::js,ht,hu,h=>
     simp only[aj,List.append_assoc,List.cons_append] at h
     obtain⟨h1,h2⟩:=iX hn hm (nE pw) (nE pw) h
     simp only[List.cons.injEq,true_and] at h2
     obtain⟨h3,h4⟩:=AJ (k::ks) (j::js) d r r' ht.2.2 hu.2.2 (by simp) (by simp) (by simpa[bV] using h2)
     exact⟨by rw[h1,h3],h4⟩
theorem AJ:∀(ts us:List Term)(d:Nat)(r r':gL),aQ ts d=true→aQ us d=true→ts≠[]→us≠[]→dE (bV ts)++41::r=dE (bV us)++41::r'→ts=us∧r=r'
 | [],_,_,_,_,_,_,h,_,_=>absurd rfl h
 | _::_,[],_,_,_,_,_,_,h,_=>absurd rfl h
 | [t],[u],d,r,r',ht,hu,_,_,h=>by
   simp only[aQ,Bool.and_eq_true] at ht hu
   simp only[bV,dE] at h
   obtain⟨h1,h2⟩:=oH t u d _ _ ht.1 hu.1 (fJ pO (by decide)) (fJ pO (by decide)) h
   simp only[List.cons.injEq,true_and] at h2
   exact⟨by rw[h1],h2⟩
 | [t],u::v::us,d,r,r',ht,hu,_,_,h=>by
   simp only[aQ,Bool.and_eq_true] at ht hu
   simp only[bV,dE,List.append_assoc,List.cons_append] at h
   obtain⟨h1,h2⟩:=oH t u d _ _ ht.1 hu.1 (fJ pO (by decide)) (fJ pt (by decide)) h
   simp at h2
 | t::w::ts,[u],d,r,r',ht,hu,_,_,h=>by
   simp only[aQ,Bool.and_eq_true] at ht hu
   simp only[bV,dE,List.append_assoc,List.cons_append] at h
   obtain⟨h1,h2⟩:=oH t u d _ _ ht.1 hu.1 (fJ pt (by decide)) (fJ pO (by decide)) h
   simp at h2
 | t::w::ts,u::v::us,d,r,r',ht,hu,_,_,h=>by
   simp only[aQ,Bool.and_eq_true] at ht hu
   simp only[bV,dE,List.append_assoc,List.cons_append] at h
   obtain⟨h1,h2⟩:=oH t u d _ _ ht.1 hu.1 (fJ pt (by decide)) (fJ pt (by decide)) h
   simp only[List.cons.injEq,true_and] at h2
   obtain⟨h3,h4⟩:=AJ (w::ts) (v::us) d r r' (by simp only[aQ,Bool.and_eq_true];exact ht.2) (by simp only[aQ,Bool.and_eq_true];exact hu.2) (by simp) (by simp) (by simpa[bV] using h2)
   exact⟨by rw[h1,h3],h4⟩
end
theorem CA{t u:Term}(ht:isTerm t=true)(hu:isTerm u=true)(h:aj t=aj u):t=u:=
 (oH t u 4 [] [] (cZ ht) (cZ hu) (fun _ _ e=>by cases e) (fun _ _ e=>by cases e) (by rw[h])).1
mutual
theorem xl:∀(t:Term)(d:Nat),aE t d=true→(aj t).length+6≤8*2 ^ d
 | t,0,h=>by simp[aE] at h
 | .mk n [],d+1,h=>by
   simp only[aE,Bool.and_eq_true] at h
   have h1:n.length≤2:=by
    have:=h.1
    simp only[cd,Bool.and_eq_true] at this
    have:=br.1 this.1
    omega
   have h4:1≤2 ^ d:=Nat.one_le_two_pow
   simp only[aj,Nat.pow_succ]
   omega
 | .mk n (k::ks),d+1,h=>by
   simp only[aE,Bool.and_eq_true,decide_eq_true_eq] at h
   have h1:n.length≤2:=by
    have:=h.1
    simp only[cd,Bool.and_eq_true] at this
    have:=br.1 this.1
    omega
   have h2:=AG (k::ks) d h.2.2
   have h4:1≤2 ^ d:=Nat.one_le_two_pow
   simp only[bV] at h2
   simp only[aj,List.length_append,List.length_cons,List.length_nil,Nat.pow_succ]
   have h3:(k::ks).length*(8*2 ^ d-5)≤2*(8*2 ^ d-5):=Nat.mul_le_mul_right _ h.2.1
   omega
theorem AG:∀(ts:List Term)(d:Nat),aQ ts d=true→(dE (bV ts)).length≤ts.length*(8*2 ^ d-5)
 | [],_,_=>by simp[bV,dE]
 | [t],d,h=>by
   simp only[aQ,Bool.and_eq_true] at h
   have:=xl t d h.1
   simp only[bV,dE,List.length_cons,List.length_nil]
   omega
 | t::u::ts,d,h=>by
   simp only[aQ,Bool.and_eq_true] at h
   have h1:=xl t d h.1
   have h2:=AG (u::ts) d (by simp only[aQ,Bool.and_eq_true];exact h.2)
   simp only[bV] at h2
   simp only[bV,dE,List.length_append,List.length_cons] at h2⊢
   have e:(ts.length+1+1)*(8*2 ^ d-5)=(ts.length+1)*(8*2 ^ d-5)+(8*2 ^ d-5):=by rw[Nat.add_mul (ts.length+1) 1];omega
   rw[e]
   omega
end
theorem mQ{t:Term}{d:Nat}(h:aE t d=true)(hd:d≤4):(aj t).length≤122:=by
 have h1:=xl t d h
 have h2:2 ^ d≤2 ^ 4:=Nat.pow_le_pow_right (by omega) hd
 omega
theorem ET{α:Type}{p:α→Bool}:∀{xs:List α}{i:Int},0≤i→(0≤bZ p xs i↔∃x∈xs,p x=true)
 | [],i,h=>by simp[bZ]
 | x::xs,i,h=>by
   simp only[bZ,List.mem_cons,exists_eq_or_imp]
   split
   ·rename_i hx
    simp[hx,h]
   ·rename_i hx
    rw[ET (by omega)]
    simp[hx]
theorem oi{α:Type}{p:α→Bool}:∀{xs:List α}{i:Int},0≤i→bZ p xs i=if bZ p xs 0<0 then -1 else bZ p xs 0+i
 | [],i,h=>by simp[bZ]
 | x::xs,i,h=>by
   simp only[bZ]
   split
   ·simp
   ·rw[oi (i:=i+1) (by omega),oi (i:=0+1) (by omega)]
    rcases Classical.em (bZ p xs 0<0) with hc|hc
    ·simp[hc]
    ·simp only[hc,if_false]
     rw[if_neg (by omega)]
     omega
theorem De{α:Type}{p:α→Bool}:∀{xs:List α}{i:Int},bZ p xs i<i+xs.length∨bZ p xs i = -1
 | [],i=>by simp[bZ]
 | x::xs,i=>by
   simp only[bZ,List.length_cons]
   split
   ·left;omega
   ·rcases De (p:=p) (xs:=xs) (i:=i+1) with h|h
    ·left;omega
    ·right;exact h
theorem df{l:List Term}{t:Term}:0≤a8 l t↔t∈l:=by
 unfold a8 idxOf
 rw[ET (by omega)]
 simp
theorem ny{l:List Term}{t:Term}(h:t∈l):(a8 l t).toNat<l.length:=by
 have h1:=df.2 h
 rcases De (p:=fun u=>decide (t=u)) (xs:=l) (i:=0) with h2|h2
 ·unfold a8 idxOf at h1⊢
  omega
 ·unfold a8 idxOf at h1
  omega
theorem uM{t:Term}:∀{l:List Term},t∈l→l[(a8 l t).toNat]?=some t
 | [],h=>by simp at h
 | x::xs,h=>by
   unfold a8 idxOf
   simp only[bZ]
   rcases Classical.em (t=x) with hx|hx
   ·simp[hx]
   ·have hm:t∈xs:=by simpa[hx] using h
    have h0:=df.2 hm
    have ih:=uM hm
    unfold a8 idxOf at ih h0
    simp only[hx,decide_false,Bool.false_eq_true,if_false]
    rw[oi (by omega),if_neg (by omega)]
    have e:(bZ (fun u=>decide (t=u)) xs 0+(0+1)).toNat=(bZ (fun u=>decide (t=u)) xs 0).toNat+1:=by omega
    rw[e,List.getElem?_cons_succ,ih]
theorem zZ:∀{cs:List Int}{i:Int}(v:Int),0≤i→oI cs i v=cs.set i.toNat (cs.getD i.toNat 0+v)
 | [],i,v,h=>by simp[oI]
 | c::cs,i,v,h=>by
   simp only[oI]
   rcases Classical.em (i=0) with h0|h0
   ·subst h0;simp
   ·rw[if_neg h0,zZ v (by omega)]
    have e:i.toNat=(i-1).toNat+1:=by omega
    rw[e]
    simp
theorem Al:∀{cs:List Int}{i v:Int},(oI cs i v).length=cs.length
 | [],i,v=>rfl
 | c::cs,i,v=>by
   simp only[oI]
   split
   ·simp
   ·simp[Al (cs:=cs)]
def Qo(nums:List Term):List Term→List Int→List Int→List Int
 | t::ts,n::ns,cs=>Qo nums ts ns (cs.set (a8 nums t).toNat n)
 | _,_,cs=>cs
theorem getD_set_ne{cs:List Int}{i k:Nat}{v:Int}(h:i≠k):(cs.set i v).getD k 0=cs.getD k 0:=by
 simp[List.getD,List.getElem?_set_ne h]
end Go.Mod
namespace Go.Mod
open Go.Eng
theorem FP{n:Int}:nj n=true ↔ -1000000≤n∧n≤1000000:=br
theorem fN{l:fq}:c5 l=true↔l.aq.length=4∧(∀c∈l.aq,-1000000≤c∧c≤1000000)∧(-1000000≤l.bound∧l.bound≤1000000):=by
 simp only[c5,Bool.and_eq_true,List.all_eq_true,decide_eq_true_eq,FP]
 constructor
 ·rintro⟨h1,h2,h3⟩
  exact⟨h2,h1,h3⟩
 ·rintro⟨h1,h2,h3⟩
  exact⟨h2,h1,h3⟩
theorem cH{m b:Int}(h0:0≤m)(h1:m≤1000000)(h2:-1000000≤b∧b≤1000000):-1000000000000≤m*b∧m*b≤1000000000000:=by
 have a1:m*b≤m*1000000:=Int.mul_le_mul_of_nonneg_left h2.2 h0
 have a2:m*(-1000000)≤m*b:=Int.mul_le_mul_of_nonneg_left h2.1 h0
 omega
theorem jc:∀{m n:Int}{as bs:List Int},as.length=bs.length→(comb m n as bs).length=as.length
 | _,_,[],[],_=>rfl
 | _,_,[],_::_,h=>by simp at h
 | _,_,_::_,[],h=>by simp at h
 | m,n,a::as,b::bs,h=>by
   simp only[comb,List.length_cons]
   rw[jc (by simpa using h)]
theorem de:∀{m n:Int}{as bs:List Int}{i:Nat}(h:i<as.length)(h':i<bs.length),comb m n (as.take (i+1)) (bs.take (i+1))=comb m n (as.take i) (bs.take i)++[m*as[i]+n*bs[i]]
 | _,_,[],_,i,h,_=>by simp at h
 | _,_,_::_,[],i,_,h=>by simp at h
 | m,n,a::as,b::bs,0,h,h'=>by simp[comb]
 | m,n,a::as,b::bs,i+1,h,h'=>by
   have:=de (m:=m) (n:=n) (as:=as) (bs:=bs) (i:=i) (by simpa using h) (by simpa using h')
   simp only[List.take_succ_cons,comb,List.cons_append,List.getElem_cons_succ] at this⊢
   rw[this]
theorem lX{a b:fq}{m n:Int}(h1:c5 a=true)(h2:c5 b=true)(h3:within m 0 1000000=true)(h4:within n 0 1000000=true):cR a m b n=kW a m b n:=by simp[cR,h1,h2,h3,h4]
theorem Gu{ls:List fq}{ts:List Int}{i:Nat}(h:i<ls.length)(h':i<ts.length)(out:fq):vf (ls.drop i) (ts.drop i) out=if(cR out 1 ls[i] ts[i]).2 then vf (ls.drop (i+1)) (ts.drop (i+1)) (cR out 1 ls[i] ts[i]).1 else(kf,false):=by
 rw[List.drop_eq_getElem_cons h,List.drop_eq_getElem_cons h',vf]
end Go.Mod
namespace Go.Mod
open Go.Eng
theorem gz{α:Type}{xs:List α}{i:Nat}(h:i<xs.length):xs.take (i+1)=xs.take i++[xs[i]]:=by rw[List.take_add_one,List.getElem?_eq_getElem h];rfl
theorem o6(p:Option Term)(t:Term)(ts:List Term)(n:Int)(ns:List Int):fH p (t::ts) (n::ns)=(isTerm t&&(within n (-50) 50&&(decide (n≠0)&&((match p with|none=>true|some q=>cX (aj q) (aj t))&&fH (some t) ts ns)))):=rfl
theorem mO:∀{ts:List Term}{ns:List Int}{p:Option Term},fH p ts ns=true→ns.length=ts.length→(∀t∈ts,isTerm t=true)∧(∀n∈ns,-50≤n∧n≤50)
 | [],[],_,_,_=>by simp
 | [],_::_,_,_,h=>by simp at h
 | _::_,[],_,_,h=>by simp at h
 | t::ts,n::ns,p,h,hl=>by
   rw[o6] at h
   simp only[Bool.and_eq_true] at h
   obtain⟨h1,h2⟩:=mO h.2.2.2.2 (by simpa using hl)
   have h3:=br.1 h.2.1
   refine⟨fun u hu=>?_,fun m hm=>?_⟩
   ·rcases List.mem_cons.1 hu with rfl|hu
    ·exact h.1
    ·exact h1 u hu
   ·rcases List.mem_cons.1 hm with rfl|hm
    ·exact h3
    ·exact h2 m hm
theorem mJ{a:Atom}(h:aX a=true)(k:a.kind=2):isNone a.A=true∧isNone a.B=true∧a.nums.length≤4∧a.times.length=a.nums.length∧(-1000≤a.bound∧a.bound≤1000)∧fH none a.nums a.times=true:=by
 rw[aX,if_neg (by omega),if_pos k] at h
 simp only[Bool.and_eq_true,decide_eq_true_eq] at h
 have h3:=br.1 h.2.2.1
 have h5:=br.1 h.2.2.2.2.1
 exact⟨h.1,h.2.1,by omega,h.2.2.2.1,h5,h.2.2.2.2.2⟩
theorem kT{a:Atom}(h:aX a=true):a.kind=1∨a.kind=2:=by
 rcases Classical.em (a.kind=1) with k1|k1
 ·exact .inl k1
 ·rcases Classical.em (a.kind=2) with k2|k2
  ·exact .inr k2
  ·simp[aX,k1,k2] at h
theorem AD{a:Atom}(h:aX a=true)(k:a.kind=1):isTerm a.A=true∧isTerm a.B=true:=by
 simp only[aX,k,if_true,Bool.and_eq_true] at h
 exact⟨h.1,h.2.1⟩
theorem fP{a:Atom}(h:aX a=true):(aI a).length≤4∧∀t∈aI a,isTerm t=true:=by
 unfold aI
 rcases Classical.em (a.kind=1) with k1|k1
 ·rw[if_pos k1]
  have:=AD h k1
  refine⟨by simp,fun t ht=>?_⟩
  simp only[List.mem_cons,List.not_mem_nil,or_false] at ht
  rcases ht with rfl|rfl
  ·exact this.1
  ·exact this.2
 ·rw[if_neg k1]
  have k2:a.kind=2:=(kT h).resolve_left k1
  have:=mJ h k2
  exact⟨this.2.2.1,(mO this.2.2.2.2.2 this.2.2.2.1).1⟩
def bq(lits:List aG):List Term:=lits.flatMap fun l=>aI l.atom
theorem eY(lits:List aG):aA lits=aH (bq lits):=rfl
theorem lM{lits:List aG}{i:Nat}(h:i<lits.length):bq (lits.take (i+1))=bq (lits.take i)++aI lits[i].atom:=by
 rw[gz h]
 simp only[bq,List.flatMap_append,List.flatMap_cons,List.flatMap_nil,List.append_nil]
theorem c6:∀{lits:List aG},(∀l∈lits,aX l.atom=true)→(bq lits).length≤4*lits.length∧∀t∈bq lits,isTerm t=true
 | [],_=>by simp[bq]
 | l::ls,h=>by
   obtain⟨h1,h2⟩:=c6 (lits:=ls) fun x hx=>h x (by simp[hx])
   obtain⟨h3,h4⟩:=fP (h l (by simp))
   simp only[bq,List.flatMap_cons,List.length_append,List.length_cons,List.mem_append] at h1 h2⊢
   refine⟨by omega,fun t ht=>?_⟩
   rcases ht with ht|ht
   ·exact h4 t ht
   ·exact h2 t ht
theorem vt:∀{ts out:List Term},(∀t∈ts,isTerm t=true)→fy ts out=ak out ts
 | [],_,_=>by simp[fy,ak]
 | t::ts,out,h=>by
   simp only[fy,ak,h t (by simp),if_true]
   exact vt fun u hu=>h u (by simp[hu])
theorem dq{ts:List Term}(h:∀t∈ts,isTerm t=true):aH ts=ak [] ts:=vt h
mutual
theorem qu:∀(t:Term)(l:List Term),(∀u∈l,u∈aW l t)∧t∈aW l t
 | .mk n ks,l=>by
   have h:=kd ks l
   simp only[aW]
   split
   ·exact⟨fun u hu=>by simp[h u hu],by simp⟩
   ·rename_i hx
    exact⟨h,df.1 (by omega)⟩
theorem kd:∀(ts:List Term)(l:List Term),∀u∈l,u∈ak l ts
 | [],l,u,h=>by simpa[ak] using h
 | t::ts,l,u,h=>by
   simp only[ak]
   exact kd ts _ u ((qu t l).1 u h)
end
theorem km:∀(ts:List Term)(l:List Term),∀t∈ts,t∈ak l ts
 | [],_,t,h=>by simp at h
 | a::ts,l,t,h=>by
   simp only[ak]
   rcases List.mem_cons.1 h with rfl|h
   ·exact kd ts _ _ (qu _ l).2
   ·exact km ts _ t h
mutual
theorem nO:∀(t:Term)(d:Nat)(l:List Term),d≤4→aE t d=true→many t d≤12→(∀u∈l,isTerm u=true)→∀u∈aW l t,isTerm u=true
 | .mk n ks,0,l,_,h,_,_,u,_=>by simp[aE] at h
 | .mk n ks,d+1,l,hd,h,hm,hl,u,hu=>by
   have h':=h
   simp only[aE,Bool.and_eq_true] at h'
   have hk:=l9 ks d l (by omega) h'.2.2 (by simp only[many] at hm;omega) hl
   simp only[aW] at hu
   split at hu
   ·simp only[List.mem_append,List.mem_cons,List.not_mem_nil,or_false] at hu
    rcases hu with hu|rfl
    ·exact hk u hu
    ·rw[←sr]
     have up:∀(k:Nat)(t:Term)(d:Nat),d+k≤4→aE t d=true→aE t (d+k)=true:=by
      intro k
      induction k with
      | zero=>intro t d _ h;exact h
      | succ k ih=>intro t d hk h;rw[←Nat.add_assoc];exact uz _ _ (ih t d (by omega) h)
     have s4:=up (4-(d+1)) _ (d+1) (by omega) h
     rw[show d+1+(4-(d+1))=4 by omega] at s4
     have m1:=(lq (.mk n ks) (d+1) hd).1 h
     have m2:=(lq (.mk n ks) 4 (by omega)).1 s4
     simp only[right,s4,Bool.true_and,decide_eq_true_eq]
     have mm:∀(k:Nat)(t:Term)(d:Nat),d+k≤4→aE t d=true→many t (d+k)=many t d:=by
      intro k
      induction k with
      | zero=>intro t d _ _;rfl
      | succ k ih=>
        intro t d hk h
        have h1:=ih t d (by omega) h
        have:∀(d:Nat)(t:Term),aE t d=true→many t (d+1)=many t d:=by
         intro d
         induction d with
         | zero=>intro t h;cases t;simp[aE] at h
         | succ d ihd=>
           intro t h
           cases t with
           | mk n ks=>
             simp only[aE,Bool.and_eq_true] at h
             have hs:∀(ks:List Term),aQ ks d=true→e5 ks (d+1)=e5 ks d:=by
              intro ks
              induction ks with
              | nil=>intro _;simp[e5]
              | cons a as iha=>
                intro h
                simp only[aQ,Bool.and_eq_true] at h
                simp only[e5,ihd a h.1,iha h.2]
             simp only[many,hs ks h.2.2]
        rw[←Nat.add_assoc,this (d+k) t (up k t d (by omega) h),h1]
     have:=mm (4-(d+1)) (.mk n ks) (d+1) (by omega) h
     rw[show d+1+(4-(d+1))=4 by omega] at this
     omega
   ·exact hk u hu
theorem l9:∀(ts:List Term)(d:Nat)(l:List Term),d≤4→aQ ts d=true→e5 ts d≤12→(∀u∈l,isTerm u=true)→∀u∈ak l ts,isTerm u=true
 | [],_,l,_,_,_,hl,u,hu=>hl u (by simpa[ak] using hu)
 | t::ts,d,l,hd,h,hm,hl,u,hu=>by
   simp only[aQ,Bool.and_eq_true] at h
   simp only[e5] at hm
   simp only[ak] at hu
   exact l9 ts d _ hd h.2 (by omega) (nO t d l hd h.1 (by omega) hl) u hu
end
theorem mb:∀(ts l:List Term),(∀t∈ts,isTerm t=true)→(∀u∈l,isTerm u=true)→∀u∈ak l ts,isTerm u=true
 | [],l,_,hl,u,hu=>hl u (by simpa[ak] using hu)
 | t::ts,l,ht,hl,u,hu=>by
   simp only[ak] at hu
   have h4:=ht t (by simp)
   have hr:=h4
   rw[←sr] at hr
   simp only[right,Bool.and_eq_true,decide_eq_true_eq] at hr
   exact mb ts _ (fun x hx=>ht x (by simp[hx])) (nO t 4 l (by omega) hr.1 hr.2 hl) u hu
theorem gl{ts:List Term}(h:∀t∈ts,isTerm t=true):∀u∈aH ts,isTerm u=true:=by
 rw[dq h]
 exact mb ts [] h (by simp)
theorem ct{ts:List Term}(h:∀t∈ts,isTerm t=true):∀t∈ts,t∈aH ts:=by
 rw[dq h]
 exact km ts []
theorem yQ{lits:List aG}{i:Nat}(h:i<lits.length):aB (lits.take (i+1))=aB (lits.take i)++(if lits[i].atom.kind=1∧lits[i].no=false then [⟨lits[i].atom.A,lits[i].atom.B⟩] else []):=by
 rw[gz h]
 simp only[aB,List.filterMap_append,List.filterMap_cons,List.filterMap_nil]
 split<;>simp_all
theorem pr(lits:List aG):(aB lits).length≤lits.length:=by
 unfold aB
 exact List.length_filterMap_le ..
theorem w7{nums:List Term}:∀{ts:List Term}{ns cs:List Int}{i:Nat}(h:i<ts.length)(h':i<ns.length),iw nums (ts.take (i+1)) (ns.take (i+1)) cs=oI (iw nums (ts.take i) (ns.take i) cs) (a8 nums ts[i]) ns[i]
 | [],_,_,_,h,_=>by simp at h
 | _::_,[],_,_,_,h=>by simp at h
 | t::ts,n::ns,cs,0,_,_=>by simp[iw]
 | t::ts,n::ns,cs,i+1,h,h'=>by
   simp only[List.take_succ_cons,iw,List.getElem_cons_succ]
   exact w7 (by simpa using h) (by simpa using h')
theorem AI{nums:List Term}:∀{ts:List Term}{ns cs:List Int},(iw nums ts ns cs).length=cs.length
 | [],_,_=>by simp[iw]
 | _::_,[],_=>by simp[iw]
 | t::ts,n::ns,cs=>by simp only[iw];rw[AI,Al]
theorem vx:∀{cs:List Int}{i v m k:Int},(∀c∈cs,-m≤c∧c≤m) → -k≤v→v≤k→0≤k→∀c∈oI cs i v,-(m+k)≤c∧c≤m+k
 | [],i,v,m,k,_,_,_,_,c,hc=>by simp[oI] at hc
 | a::cs,i,v,m,k,h,h1,h2,h3,c,hc=>by
   have ha:=h a (by simp)
   simp only[oI] at hc
   split at hc
   ·rcases List.mem_cons.1 hc with rfl|hc
    ·omega
    ·have:=h c (by simp[hc]);omega
   ·rcases List.mem_cons.1 hc with rfl|hc
    ·omega
    ·exact vx (fun x hx=>h x (by simp[hx])) h1 h2 h3 c hc
theorem uV{nums:List Term}:∀{ts:List Term}{ns cs:List Int}{m:Int},(∀c∈cs,-m≤c∧c≤m)→(∀n∈ns,-50≤n∧n≤50)→0≤m→∀c∈iw nums ts ns cs,-(m+50*ts.length)≤c∧c≤m+50*ts.length
 | [],_,cs,m,h,_,_,c,hc=>by simp only[iw] at hc;have:=h c hc;simp;omega
 | _::_,[],cs,m,h,_,_,c,hc=>by simp only[iw] at hc;have:=h c hc;omega
 | t::ts,n::ns,cs,m,h,hn,hm,c,hc=>by
   simp only[iw] at hc
   have h1:=hn n (by simp)
   have:=uV (m:=m+50) (vx h h1.1 h1.2 (by omega)) (fun x hx=>hn x (by simp[hx])) (by omega) c hc
   simp only[List.length_cons]
   omega
theorem uv{cs:List Int}{i:Nat}{v:Int}(h:i<cs.length):(aO cs).set i [.val (.int .i64 v)]=aO (cs.set i v):=by
 simp[aO,List.map_set]
theorem DA{nums:List Term}{lits:List aG}{i:Nat}(h:i<lits.length):cL nums (lits.take (i+1))=cL nums (lits.take i)++jG nums lits[i]:=by
 rw[gz h]
 simp only[cL,List.flatMap_append,List.flatMap_cons,List.flatMap_nil,List.append_nil]
theorem Ec(nums:List Term)(l:aG):(jG nums l).length≤2:=by
 unfold jG
 split
 ·simp
 ·split<;>simp
theorem xt(nums:List Term):∀(lits:List aG),(cL nums lits).length≤2*lits.length
 | []=>by simp[cL]
 | l::ls=>by
   have h1:=Ec nums l
   have h2:=xt nums ls
   simp only[cL,List.flatMap_cons,List.length_append,List.length_cons] at h2⊢
   omega
structure Fit(nums:List Term)(l:aG):Prop where
 wf:aX l.atom=true
 sum:l.atom.kind=2→∀t∈l.atom.nums,t∈nums
 eq:l.atom.kind=1→(l.atom.A∈nums↔l.atom.B∈nums)
end Go.Mod
namespace Go.Mod
open Go.Eng
theorem LX(a b:UInt8):(a<b∧¬b<a∧a≠b)∨(a=b∧¬a<b∧¬b<a)∨(b<a∧¬a<b∧a≠b):=by
 simp only[UInt8.lt_iff_toNat_lt,ne_eq,←UInt8.toNat_inj]
 omega
theorem wT:∀(a b:List UInt8),(!(Op.bytesLess a b||decide (a=b)))=Op.bytesLess b a
 | [],[]=>by simp[Op.bytesLess]
 | [],_::_=>by simp[Op.bytesLess]
 | _::_,[]=>by simp[Op.bytesLess]
 | a::x,b::y=>by
   have ih:=wT x y
   rcases LX a b with⟨h1,h2,h3⟩|⟨rfl,h1,h2⟩|⟨h1,h2,h3⟩
   ·have h4:¬b=a:=fun h=>h3 h.symm
    simp[Op.bytesLess,h1,h2,h4]
   ·simp[Op.bytesLess,h1,←ih]
   ·have h4:¬b=a:=fun h=>h3 h.symm
    simp[Op.bytesLess,h1,h2,h3]
theorem o8:∀(a:List UInt8),Op.bytesLess a a=false
 | []=>rfl
 | a::x=>by simp[Op.bytesLess,o8 x]
theorem yy:∀{a b c:List UInt8},Op.bytesLess a b=true→Op.bytesLess b c=true→Op.bytesLess a c=true
 | _,[],_,h,_=>by simp[Op.bytesLess] at h
 | _,_::_,[],_,h=>by simp[Op.bytesLess] at h
 | [],_::_,_::_,_,_=>by simp[Op.bytesLess]
 | a::x,b::y,c::z,h1,h2=>by
   simp only[Op.bytesLess,Bool.or_eq_true,decide_eq_true_eq,Bool.and_eq_true,beq_iff_eq] at h1 h2⊢
   rcases h1 with h1|⟨rfl,h1⟩
   ·rcases h2 with h2|⟨rfl,h2⟩
    ·left
     rw[UInt8.lt_iff_toNat_lt] at *
     omega
    ·exact .inl h1
   ·rcases h2 with h2|⟨rfl,h2⟩
    ·exact .inl h2
    ·exact .inr ⟨rfl,yy h1 h2⟩
theorem MS{a b:List UInt8}(h:Op.bytesLess a b=true):a≠b:=by
 rintro rfl
 rw[o8] at h
 cases h
theorem yi{a b:List UInt8}(h:a≠b)(h2:Op.bytesLess a b=false):Op.bytesLess b a=true:=by
 rw[←wT a b,h2]
 simp[h]
end Go.Mod
namespace Go.Mod
open Go.Eng
theorem PX{nums:List Term}{a b:Term}(ha:a∈nums)(hb:b∈nums)(ta:isTerm a=true)(tb:isTerm b=true):Fit nums (eO a b):=by
 refine⟨?_,fun h=>?_,fun _=>?_⟩
 ·simp[aX,eO,xB,ta,tb]
 ·simp[eO,xB] at h
 ·simp[eO,xB,ha,hb]
theorem HJ{a b:Term}(ta:isTerm a=true)(tb:isTerm b=true)(h:cX (aj a) (aj b)=true)(m n:Int)(hm:within m (-50) 50=true)(hn:within n (-50) 50=true)(hm0:m≠0)(hn0:n≠0):aX ⟨2,ao,ao,[a,b],[m,n],0,true⟩=true:=by
 have h2:fH none [a,b] [m,n]=true:=by
  rw[o6,o6]
  have e:fH (some b) [] []=true:=rfl
  simp[ta,tb,hm,hn,hm0,hn0,h,e]
 have e:aX ⟨2,ao,ao,[a,b],[m,n],0,true⟩=(isNone ao&&(isNone ao&&(within ([a,b].length:Int) 1 4&&(decide ([m,n].length=[a,b].length)&&(within 0 (-1000) 1000&&fH none [a,b] [m,n]))))):=rfl
 rw[e,h2]
 rfl
theorem Kb{nums:List Term}{a b:Term}(ha:a∈nums)(hb:b∈nums)(ta:isTerm a=true)(tb:isTerm b=true)(hne:a≠b):Fit nums (cP a b):=by
 have ht:aj a≠aj b:=fun h=>hne (CA ta tb h)
 unfold cP
 cases h:cX (aj b) (aj a)
 ·have h2:cX (aj a) (aj b)=true:=yi (a:=aj b) (b:=aj a) (fun e=>ht e.symm) h
  refine⟨HJ ta tb h2 1 (-1) rfl rfl (by omega) (by omega),fun _ t hm=>?_,fun h=>?_⟩
  ·simp only[Bool.false_eq_true,if_false,List.mem_cons,List.not_mem_nil,or_false] at hm
   rcases hm with rfl|rfl
   ·exact ha
   ·exact hb
  ·simp at h
 ·refine⟨HJ tb ta h (-1) 1 rfl rfl (by omega) (by omega),fun _ t hm=>?_,fun h=>?_⟩
  ·simp only[if_true,List.mem_cons,List.not_mem_nil,or_false] at hm
   rcases hm with rfl|rfl
   ·exact hb
   ·exact ha
  ·simp at h
theorem nT{s:bJ}{lits:List aG}(h:bO s lits=true):(∀l∈lits,Fit (numsOf s lits) l)∧(∀t∈numsOf s lits,isTerm t=true)∧(numsOf s lits).length≤4∧lits.length≤6∧bT s=true∧(∀l∈lits,aX l.atom=true)∧(∀t∈aA lits,isTerm t=true)∧(aA lits).length≤24:=by
 simp only[bO,Bool.and_eq_true,decide_eq_true_eq,List.all_eq_true] at h
 obtain⟨⟨⟨⟨hs,h6⟩,hA⟩,h24⟩,h4⟩:=h
 have hw:∀l∈lits,aX l.atom=true:=by
  intro l hl
  have:=hA l hl
  simp only[b7,Bool.and_eq_true] at this
  exact this.2.1
 have hok:=(c6 hw).2
 have htt:∀t∈aA lits,isTerm t=true:=by rw[eY];exact gl hok
 have hin:∀l∈lits,∀t∈aI l.atom,t∈aA lits:=by
  intro l hl t ht
  rw[eY]
  exact ct hok t (List.mem_flatMap.2 ⟨l,hl,ht⟩)
 have hnum:∀t,t∈numsOf s lits↔t∈aA lits∧bc s t=true:=fun t=>List.mem_filter
 refine⟨fun l hl=>⟨hw l hl,fun k t ht=>?_,fun k=>?_⟩,fun t ht=>htt t ((hnum t).1 ht).1,h4,h6,hs,hw,htt,h24⟩
 ·have hk1:¬l.atom.kind=1:=by omega
  have ha:=hA l hl
  simp only[b7,Bool.and_eq_true,hk1,if_false,List.all_eq_true] at ha
  have hm:t∈aI l.atom:=by simp only[aI,hk1,if_false];exact ht
  exact(hnum t).2 ⟨hin l hl t hm,ha.2.2 t ht⟩
 ·have ha:=hA l hl
  simp only[b7,Bool.and_eq_true,k,if_true,dx,decide_eq_true_eq] at ha
  have hm:l.atom.A∈aA lits∧l.atom.B∈aA lits:=by
   have:aI l.atom=[l.atom.A,l.atom.B]:=by simp[aI,k]
   exact⟨hin l hl _ (by rw[this];simp),hin l hl _ (by rw[this];simp)⟩
  rw[hnum,hnum]
  simp only[hm.1,hm.2,true_and,bc,ha.2.2.2]
end Go.Mod
namespace Go.Mod
open Go.Eng
theorem pj{a:Rat}:bl a=true↔(-1000000000≤a.N∧a.N≤1000000000)∧(1≤a.D∧a.D≤1000000000)∧Int.gcd a.N a.D=1:=by
 simp only[bl,Bool.and_eq_true,br,decide_eq_true_eq]
 constructor
 ·rintro⟨h1,h2,h3⟩;exact⟨h1,h2,by omega⟩
 ·rintro⟨h1,h2,h3⟩;exact⟨h1,h2,by omega⟩
theorem Oa{a b:Rat}(h1:a.N=b.N)(h2:a.D=b.D):a=b:=by cases a;cases b;simp_all
theorem z8{a b:Rat}(ha:bl a=true)(hb:bl b=true)(h:a.N*b.D=b.N*a.D):a=b:=by
 rw[pj] at ha hb
 obtain⟨_,⟨a1,_⟩,ag⟩:=ha
 obtain⟨_,⟨b1,_⟩,bg⟩:=hb
 have hn:a.N.natAbs*b.D.natAbs=b.N.natAbs*a.D.natAbs:=by rw[←Int.natAbs_mul,←Int.natAbs_mul,h]
 have ca:Nat.Coprime a.D.natAbs a.N.natAbs:=by rw[Nat.Coprime,Nat.gcd_comm];exact ag
 have cb:Nat.Coprime b.D.natAbs b.N.natAbs:=by rw[Nat.Coprime,Nat.gcd_comm];exact bg
 have d1:a.D.natAbs∣b.D.natAbs:=ca.dvd_of_dvd_mul_left ⟨b.N.natAbs,by rw[hn,Nat.mul_comm]⟩
 have d2:b.D.natAbs∣a.D.natAbs:=cb.dvd_of_dvd_mul_left ⟨a.N.natAbs,by rw[←hn,Nat.mul_comm]⟩
 have e:a.D.natAbs=b.D.natAbs:=Nat.dvd_antisymm d1 d2
 have eD:a.D=b.D:=by omega
 refine Oa ?_ eD
 rw[eD] at h
 exact Int.eq_of_mul_eq_mul_right (by omega) h
theorem dM{a b:Rat}(ha:bl a=true)(hb:bl b=true):bH a b=true↔a.N*b.D<b.N*a.D:=by
 simp[bH,ha,hb]
theorem uY{a b:Rat}(ha:bl a=true)(hb:bl b=true):hH a b=0↔a=b:=by
 constructor
 ·intro h
  unfold hH at h
  split at h
  ·omega
  ·rename_i h1
   split at h
   ·omega
   ·rename_i h2
    rw[dM ha hb] at h1
    rw[dM hb ha] at h2
    exact z8 ha hb (by omega)
 ·rintro rfl
  have:bH a a=false:=by
   cases h:bH a a
   ·rfl
   ·rw[dM ha ha] at h;omega
  simp[hH,this]
theorem FU{a b:Rat}:hH a b<0↔bH a b=true:=by
 unfold hH
 split
 ·rename_i h;simp[h]
 ·rename_i h
  split<;>simp_all
theorem zf{a b c:Rat}(ha:bl a=true)(hb:bl b=true)(hc:bl c=true)(h1:bH a b=true)(h2:bH b c=true):bH a c=true:=by
 rw[dM ha hb] at h1
 rw[dM hb hc] at h2
 rw[dM ha hc]
 rw[pj] at ha hb hc
 have e1:a.N*b.D*c.D<b.N*a.D*c.D:=Int.mul_lt_mul_of_pos_right h1 (by omega)
 have e2:b.N*c.D*a.D<c.N*b.D*a.D:=Int.mul_lt_mul_of_pos_right h2 (by omega)
 have e3:b.N*a.D*c.D=b.N*c.D*a.D:=by rw[Int.mul_assoc,Int.mul_comm a.D,←Int.mul_assoc]
 have e4:a.N*c.D*b.D<c.N*a.D*b.D:=by
  rw[Int.mul_assoc,Int.mul_comm c.D,←Int.mul_assoc,Int.mul_assoc c.N,Int.mul_comm a.D,←Int.mul_assoc]
  omega
 exact Int.lt_of_mul_lt_mul_right e4 (by omega)
def bF(as:List Rat):Bool:=as.all bl
theorem np:∀{as bs:List Rat},bF as=true→bF bs=true→(cF as bs=0↔as=bs)
 | [],[],_,_=>by simp[cF]
 | [],b::bs,_,_=>by simp[cF]
 | a::as,[],_,_=>by simp[cF]
 | a::as,b::bs,ha,hb=>by
   simp only[bF,List.all_cons,Bool.and_eq_true] at ha hb
   have h:=uY ha.1 hb.1
   have h2:=np (as:=as) (bs:=bs) ha.2 hb.2
   simp only[cF]
   split
   ·rename_i e;rw[h2,List.cons.injEq,h.1 e];simp
   ·rename_i e
    constructor
    ·intro e2;exact absurd e2 e
    ·intro e2;rw[List.cons.injEq] at e2;exact absurd (h.2 e2.1) e
def dz:List Rat→List Rat→Bool
 | a::as,b::bs=>if a=b then dz as bs else bH a b
 | _,_=>false
def bI(a b:Row):Bool:=if a.name=b.name then(if a.args.length=b.args.length then dz a.args b.args else decide (a.args.length<b.args.length)) else cX a.name b.name
theorem vp:∀{as bs:List Rat},bF as=true→bF bs=true→as.length=bs.length→(cF as bs<0↔dz as bs=true)
 | [],[],_,_,_=>by simp[cF,dz]
 | [],b::bs,_,_,h=>by simp at h
 | a::as,[],_,_,h=>by simp at h
 | a::as,b::bs,ha,hb,hl=>by
   simp only[bF,List.all_cons,Bool.and_eq_true] at ha hb
   have h:=uY ha.1 hb.1
   have h2:=vp (as:=as) (bs:=bs) ha.2 hb.2 (by simpa using hl)
   simp only[cF,dz]
   split
   ·rename_i e;rw[if_pos (h.1 e),h2]
   ·rename_i e;rw[if_neg (fun x=>e (h.2 x)),FU]
theorem iY{a b:gL}:gn a b=0↔a=b:=by
 unfold gn
 constructor
 ·intro h
  split at h
  ·omega
  ·rename_i h1
   split at h
   ·omega
   ·rename_i h2
    rcases Classical.em (a=b) with e|e
    ·exact e
    ·exact absurd (yi e (by simpa[cX] using h1)) h2
 ·rintro rfl
  simp[cX,o8]
theorem Gw{a b:gL}:gn a b<0↔cX a b=true:=by
 unfold gn
 split
 ·rename_i h;simp[h]
 ·rename_i h
  split<;>simp_all
theorem oa{a b:Int}:hU a b=0↔a=b:=by unfold hU;split<;>(try split)<;>omega
theorem E6{a b:Int}:hU a b<0↔a<b:=by unfold hU;split<;>(try split)<;>omega
theorem pg{a b:Row}(ha:bF a.args=true)(hb:bF b.args=true):bK a b=0↔a.name=b.name∧a.args=b.args:=by
 unfold bK
 constructor
 ·intro h
  split at h
  ·rename_i e;exact absurd h e
  ·rename_i e
   split at h
   ·rename_i e2;exact absurd h e2
   ·exact⟨iY.1 (Classical.not_not.1 e),(np ha hb).1 h⟩
 ·rintro⟨e,e2⟩
  have h1:gn a.name b.name=0:=iY.2 e
  have h2:hU a.args.length b.args.length=0:=oa.2 (by rw[e2])
  have h3:cF a.args b.args=0:=(np ha hb).2 e2
  simp[h1,h2,h3]
theorem fI{a b:Row}(ha:bF a.args=true)(hb:bF b.args=true):bK a b<0↔bI a b=true:=by
 unfold bK bI
 split
 ·rename_i e
  rw[if_neg (fun x=>e (iY.2 x)),Gw]
 ·rename_i e
  rw[if_pos (iY.1 (Classical.not_not.1 e))]
  split
  ·rename_i e2
   have:¬a.args.length=b.args.length:=fun x=>e2 (oa.2 (by rw[x]))
   rw[if_neg this,E6]
   simp
  ·rename_i e2
   have:=oa.1 (Classical.not_not.1 e2)
   have h3:a.args.length=b.args.length:=by omega
   rw[if_pos h3,vp ha hb h3]
theorem oe:∀{as bs cs:List Rat},bF as=true→bF bs=true→bF cs=true→dz as bs=true→dz bs cs=true→dz as cs=true
 | [],_,_,_,_,_,h,_=>by simp[dz] at h
 | _::_,[],_,_,_,_,h,_=>by simp[dz] at h
 | _::_,_::_,[],_,_,_,_,h=>by simp[dz] at h
 | a::as,b::bs,c::cs,ha,hb,hc,h1,h2=>by
   simp only[bF,List.all_cons,Bool.and_eq_true] at ha hb hc
   simp only[dz] at h1 h2⊢
   split at h1
   ·rename_i e
    subst e
    split at h2
    ·rename_i e2
     rw[if_pos e2]
     exact oe ha.2 hb.2 hc.2 h1 h2
    ·rename_i e2
     rw[if_neg e2];exact h2
   ·rename_i e
    split at h2
    ·rename_i e2
     subst e2
     rw[if_neg e];exact h1
    ·have h3:=zf ha.1 hb.1 hc.1 h1 h2
     have:¬a=c:=by
      rintro rfl
      rw[dM ha.1 ha.1] at h3;omega
     rw[if_neg this];exact h3
theorem iT{a b c:Row}(ha:bF a.args=true)(hb:bF b.args=true)(hc:bF c.args=true)(h1:bI a b=true)(h2:bI b c=true):bI a c=true:=by
 unfold bI at h1 h2⊢
 split at h1
 ·rename_i e
  rw[e]
  split at h2
  ·rename_i e2
   rw[if_pos e2]
   split at h1
   ·rename_i l1
    rw[l1]
    split at h2
    ·rename_i l2
     rw[if_pos l2]
     exact oe ha hb hc h1 h2
    ·rename_i l2
     rw[if_neg l2];exact h2
   ·rename_i l1
    simp only[decide_eq_true_eq] at h1
    split at h2
    ·rename_i l2
     rw[if_neg (by omega)];simp;omega
    ·simp only[decide_eq_true_eq] at h2
     rw[if_neg (by omega)];simp;omega
  ·rename_i e2
   rw[if_neg e2];exact h2
 ·rename_i e
  split at h2
  ·rename_i e2
   rw[←e2,if_neg e];exact h1
  ·have h3:cX a.name c.name=true:=yy h1 h2
   rw[if_neg (MS h3)];exact h3
theorem fG{r:Row}(h:jm r=true):bF r.args=true:=by
 simp only[jm,Bool.and_eq_true] at h
 exact h.2.2.2
def ia:Option Row→List Row→Bool
 | _,[]=>true
 | p,r::rs=>jm r&&((match p with|none=>true|some q=>bI q r)&&ia (some r) rs)
theorem AV:∀(rs:List Row)(p:Option Row),(∀q,p=some q→jm q=true)→ng p rs=ia p rs
 | [],_,_=>rfl
 | r::rs,p,hp=>by
   simp only[ng,ia]
   cases hr:jm r
   ·rfl
   ·rw[AV rs (some r) (fun q e=>by cases e;exact hr)]
    cases p with
    | none=>rfl
    | some q=>
      have h:=fI (fG (hp q rfl)) (fG hr)
      have:decide (bK q r<0)=bI q r:=by
       cases hl:bI q r
       ·simp only[decide_eq_false_iff_not];rw[h,hl];simp
       ·simp only[decide_eq_true_eq];rw[h,hl]
      simp only[this]
theorem nd:∀{rs:List Row}{p:Option Row},ia p rs=true→∀r∈rs,jm r=true
 | [],_,_,r,hr=>by simp at hr
 | a::rs,p,h,r,hr=>by
   simp only[ia,Bool.and_eq_true] at h
   rcases List.mem_cons.1 hr with rfl|hr
   ·exact h.1
   ·exact nd h.2.2 r hr
theorem qy:∀{rs:List Row}{q:Row},jm q=true→ia (some q) rs=true→∀r∈rs,bI q r=true
 | [],_,_,_,r,hr=>by simp at hr
 | a::rs,q,hq,h,r,hr=>by
   simp only[ia,Bool.and_eq_true] at h
   rcases List.mem_cons.1 hr with rfl|hr
   ·exact h.2.1
   ·exact iT (fG hq) (fG h.1) (fG (nd h.2.2 r hr)) h.2.1 (qy h.1 h.2.2 r hr)
theorem qC:∀{rs:List Row}{p:Option Row},ia p rs=true→rs.Pairwise (fun a b=>bI a b=true)
 | [],_,_=>List.Pairwise.nil
 | a::rs,p,h=>by
   simp only[ia,Bool.and_eq_true] at h
   exact List.Pairwise.cons (fun r hr=>qy h.1 h.2.2 r hr) (qC h.2.2)
theorem ic{m:Model}(h:cY m=true):m.rows.length≤40∧(∀r∈m.rows,jm r=true)∧m.rows.Pairwise (fun a b=>bI a b=true):=by
 simp only[cY,Bool.and_eq_true,decide_eq_true_eq] at h
 rw[AV _ none (by simp)] at h
 exact⟨h.1,nd h.2,qC h.2⟩
def cut:List Row→Row→Nat
 | [],_=>0
 | r::rs,t=>if bK r t<0 then cut rs t+1 else 0
theorem GI:∀(rs:List Row)(t:Row),cut rs t≤rs.length
 | [],_=>by simp[cut]
 | r::rs,t=>by
   have:=GI rs t
   simp only[cut,List.length_cons]
   split<;>omega
def eS(rs:List Row)(t:Row):Prop:=rs.Pairwise (fun a b=>bK b t<0→bK a t<0)
theorem kU:∀{rs:List Row}{t:Row},eS rs t→∀(k:Nat)(h:k<rs.length),k<cut rs t↔bK rs[k] t<0
 | [],_,_,k,h=>by simp at h
 | r::rs,t,hm,k,h=>by
   obtain⟨h1,h2⟩:=List.pairwise_cons.1 hm
   simp only[cut]
   cases k with
   | zero=>
     simp only[List.getElem_cons_zero]
     split<;>simp_all
   | succ k=>
     simp only[List.getElem_cons_succ]
     have hk:k<rs.length:=by simpa using h
     have h3:=kU (rs:=rs) (t:=t) h2 k hk
     split
     ·rw[←h3];omega
     ·rename_i hn
      constructor
      ·intro x;omega
      ·intro x;exact absurd (h1 _ (List.getElem_mem hk) x) hn
theorem P4{rs:List Row}{t:Row}(hm:eS rs t){i:Nat}(hi:i≤rs.length)(h1:∀(k:Nat)(h:k<rs.length),k<i→bK rs[k] t<0)(h2:∀(k:Nat)(h:k<rs.length),i≤k→¬bK rs[k] t<0):cut rs t=i:=by
 have h3:=GI rs t
 rcases Nat.lt_trichotomy (cut rs t) i with h|h|h
 ·have h4:=(kU hm (cut rs t) (by omega)).2 (h1 _ (by omega) h)
  omega
 ·exact h
 ·have h4:=(kU hm i (by omega)).1 h
  exact absurd h4 (h2 i (by omega) (Nat.le_refl i))
theorem Nx{m:Model}{t:Row}(h:cY m=true)(ht:bF t.args=true):eS m.rows t:=by
 obtain⟨_,h1,h2⟩:=ic h
 refine List.Pairwise.imp_of_mem ?_ h2
 intro a b ha hb hab hbt
 have wa:=fG (h1 a ha)
 have wb:=fG (h1 b hb)
 rw[fI wb ht] at hbt
 rw[fI wa ht]
 exact iT wa wb ht hab hbt
def found(rs:List Row)(t:Row):Bool:=match rs[cut rs t]? with|some r=>decide (bK r t=0)|none=>false
theorem D7:∀{rs:List Row}{t:Row},(∀r∈rs,bF r.args=true)→bF t.args=true→rs.Pairwise (fun a b=>bI a b=true) →
 rs.find? (fun r=>decide (r.name=t.name∧r.args=t.args))=if found rs t then rs[cut rs t]? else none
 | [],_,_,_,_=>by simp[found]
 | r::rs,t,hr,ht,hp=>by
   obtain⟨h1,h2⟩:=List.pairwise_cons.1 hp
   have ih:=D7 (rs:=rs) (t:=t) (fun x hx=>hr x (List.mem_cons_of_mem _ hx)) ht h2
   have wr:=hr r (by simp)
   have hz:=pg wr ht
   rw[List.find?_cons]
   rcases Classical.em (r.name=t.name∧r.args=t.args) with e|e
   ·have hc:=hz.2 e
    have hcut:cut (r::rs) t=0:=by simp[cut,hc]
    simp[e,found,hcut,hc]
   ·simp only[e,decide_false]
    rw[ih]
    rcases Classical.em (bK r t<0) with hn|hn
    ·have hc2:cut (r::rs) t=cut rs t+1:=by simp[cut,hn]
     have hf2:found (r::rs) t=found rs t:=by simp only[found,hc2,List.getElem?_cons_succ]
     rw[hf2,hc2,List.getElem?_cons_succ]
    ·have hcut:cut (r::rs) t=0:=by simp[cut,hn]
     have hf:found (r::rs) t=false:=by simp[found,hcut,hz,e]
     rw[hf]
     have:found rs t=false:=by
      unfold found
      split
      ·rename_i q hq
       have hq':q∈rs:=List.mem_of_getElem? hq
       simp only[decide_eq_false_iff_not]
       intro hc
       have hb:=(pg (hr q (List.mem_cons_of_mem _ hq')) ht).1 hc
       have hl:=h1 q hq'
       apply hn
       rw[fI wr ht]
       have:bI r q=bI r t:=by simp only[bI,hb.1,hb.2]
       rw[←this];exact hl
      ·rfl
     simp[this]
theorem G9{m:Model}{t:Row}(h:cY m=true)(ht:bF t.args=true):lookup m.rows t.name t.args=if found m.rows t then(m.rows.getD (cut m.rows t) t).val else⟨0,1⟩:=by
 obtain⟨_,h1,h2⟩:=ic h
 unfold lookup
 rw[D7 (fun r hr=>fG (h1 r hr)) ht h2]
 cases hf:found m.rows t
 ·simp
 ·unfold found at hf
  cases hx:m.rows[cut m.rows t]? with
  | none=>simp[hx] at hf
  | some r=>simp[hx,List.getD]
theorem Q2:bl ⟨0,1⟩=true:=by decide
theorem Iu{m:Model}(h:cY m=true)(n:gL)(as:List Rat):bl (lookup m.rows n as)=true:=by
 obtain⟨_,h1,_⟩:=ic h
 unfold lookup
 split
 ·rename_i r hr
  have:=h1 r (List.mem_of_find?_eq_some hr)
  simp only[jm,Bool.and_eq_true] at this
  exact this.2.2.1
 ·exact Q2
theorem EG(m:Model)(t:Term):value m t=lookup m.rows t.name (values m t.kids):=by cases t;rfl
theorem j9(m:Model):∀(ts:List Term),values m ts=ts.map (value m)
 | []=>rfl
 | t::ts=>by simp only[values,List.map_cons,j9 m ts]
theorem J4{m:Model}(h:cY m=true)(t:Term):bl (value m t)=true:=by rw[EG];exact Iu h _ _
theorem AP{m:Model}(h:cY m=true)(ts:List Term):bF (values m ts)=true:=by
 rw[j9]
 simp only[bF,List.all_map,List.all_eq_true,Function.comp]
 intro t _
 exact J4 h t
theorem G5(m:Model)(ts:List Term):(values m ts).length=ts.length:=by rw[j9];simp
end Go.Mod
namespace Go.Mod
open Go.Eng
theorem Dy{n:Int}(h1:-1000000000≤n)(h2:n≤1000000000):bl (whole n)=true:=by
 rw[pj]
 exact⟨⟨h1,h2⟩,⟨Int.le_refl 1,by show(1:Int)≤1000000000;omega⟩,Int.gcd_one_right n⟩
theorem Gx{m:Model}{ts:List Term}{ns:List Int}{i:Nat}(h:i<ts.length)(h':i<ns.length)(sum:Rat) :
 uS m (ts.drop i) (ns.drop i) sum=if(plus sum ns[i] (value m ts[i])).2 then uS m (ts.drop (i+1)) (ns.drop (i+1)) (plus sum ns[i] (value m ts[i])).1 else none:=by
 rw[List.drop_eq_getElem_cons h,List.drop_eq_getElem_cons h'];rfl
theorem Ja{m:Model}{ts:List Term}{ns:List Int}{i:Nat}(h:ts.length≤i)(sum:Rat):uS m (ts.drop i) (ns.drop i) sum=some sum:=by
 rw[List.drop_of_length_le h];rfl
def Rq:List Int→Int→Int
 | [],_=>0
 | x::xs,n=>if x=n then 1 else if x = -n then -1 else Rq xs n
end Go.Mod
namespace Go.Mod
open Go.Eng
def RX(n:Int):Int:=if n < -1000000000 then 1000000001 else if 1000000000<n then 1000000001 else if n<0 then -n else n
theorem LY{p q:Int}(hp:0≤p)(hq:0<q):0≤p.tmod q∧p.tmod q<q∧Int.gcd q (p.tmod q)=Int.gcd p q:=by
 have e:p.tmod q=((p.natAbs % q.natAbs:Nat):Int):=by
  rw[Int.tmod_eq_emod_of_nonneg hp]
  have h1:(p.natAbs:Int)=p:=by omega
  have h2:(q.natAbs:Int)=q:=by omega
  rw[Int.natCast_emod,h1,h2]
 have hlt:p.natAbs % q.natAbs<q.natAbs:=Nat.mod_lt _ (by omega)
 refine⟨by omega,by omega,?_⟩
 rw[e]
 simp only[Int.gcd,Int.natAbs_natCast]
 rw[Nat.gcd_comm p.natAbs,Nat.gcd_rec q.natAbs p.natAbs,Nat.gcd_comm]
theorem gcd_zero{p:Int}(hp:0≤p):((Int.gcd p 0:Nat):Int)=p:=by
 simp only[Int.gcd,Int.natAbs_zero,Nat.gcd_zero_right]
 omega
theorem HA{n d:Int}(h:0<d):0<(Int.gcd n d:Int):=by
 have:0<Int.gcd n d:=Int.gcd_pos_of_ne_zero_right n (by omega)
 omega
theorem m8{n g k:Int}(hg:0<g)(h:-k≤n∧n≤k):-k≤n.tdiv g∧n.tdiv g≤k:=by
 have e:(n.tdiv g).natAbs=n.natAbs / g.natAbs:=Int.natAbs_tdiv n g
 have h2:n.natAbs / g.natAbs≤n.natAbs:=Nat.div_le_self _ _
 omega
theorem prod_bound{m b k l:Int}(h1:-k≤m∧m≤k)(h2:-l≤b∧b≤l):-(k*l)≤m*b∧m*b≤k*l:=by
 have e:(m*b).natAbs=m.natAbs*b.natAbs:=Int.natAbs_mul m b
 have h3:m.natAbs*b.natAbs≤k.natAbs*l.natAbs:=Nat.mul_le_mul (by omega) (by omega)
 have h4:(k*l).natAbs=k.natAbs*l.natAbs:=Int.natAbs_mul k l
 have h5:0≤k*l:=Int.mul_nonneg (by omega) (by omega)
 omega
theorem th{m b:Int}(h1:-1000000000≤m∧m≤1000000000)(h2:-1000000000≤b∧b≤1000000000):-1000000000000000000≤m*b∧m*b≤1000000000000000000:=by
 have:=prod_bound h1 h2
 omega
theorem NJ{m b:Int}(h1:1≤m∧m≤1000000000)(h2:1≤b∧b≤1000000000):1≤m*b∧m*b≤1000000000000000000:=by
 have:=th (m:=m) (b:=b) (by omega) (by omega)
 have:=Int.mul_pos (a:=m) (b:=b) (by omega) (by omega)
 omega
theorem Fj{n d:Int}(hd:1≤d):gq n d=if bl ⟨n.tdiv (Int.gcd n d),d.tdiv (Int.gcd n d)⟩ then(⟨n.tdiv (Int.gcd n d),d.tdiv (Int.gcd n d)⟩,true) else(ja,false):=by
 unfold gq
 rw[if_neg (by omega)]
 simp only[if_neg (show ¬d<0 by omega)]
theorem Gh(x y:Rat):ij x.N x.D y.N y.D=decide (x=y):=by
 cases x;cases y;simp only[ij,Rat.mk.injEq,Bool.decide_and];rfl
theorem Bt{m:Model}{ts:List Term}{i:Nat}(h:i<ts.length):aP (values m (ts.take i))++[dm (value m ts[i])]=aP (values m (ts.take (i+1))):=by
 have e:ts.take (i+1)=ts.take i++[ts[i]]:=by rw[List.take_add_one,List.getElem?_eq_getElem h];rfl
 rw[j9,j9,e,List.map_append,←vh]
 rfl
end Go.Mod
