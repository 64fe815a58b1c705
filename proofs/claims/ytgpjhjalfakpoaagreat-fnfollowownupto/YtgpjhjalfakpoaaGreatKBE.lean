/-
  The data of the program as plain Lean types, and how they lie in memory, cell by cell. No program is walked here.
-/
import Derived.Test.YtgpjhjalfakpoaaGreatKBD
set_option linter.unusedVariables false
set_option linter.unusedSimpArgs false
open Bool renaming and_eq_true→ae,true_and→az
open Classical renaming em→aa
open List renaming getElem?_eq_getElem→ab,length_append→ao,length_cons→aq,mem_cons→aw,mem_append→aG,take_add_one→bu,pairwise_cons→bF,length_nil→bH,getD→bK,mem_map→bQ,not_mem_nil→b9,mem_append_left→da,filter_cons→dg,foldl_cons→iY,flatMap_cons→jO,foldl_append→jQ
open Nat renaming mul_le_mul_right→aY,add_mul→br,one_le_two_pow→bE,pow_le_pow_right→bJ,add_assoc→eE,pow_succ→fc
namespace Go.Mod
open Go.Eng
abbrev lH:=List UInt8
def aM(ns:List Int):List (List D):=ns.map fun n=>[.val (.int .i64 n)]
def L6(ns:List Bool):List (List D):=ns.map fun n=>[.val (.bool n)]
def hY(ns:List lH):List (List D):=ns.map fun n=>[.str n]
def bt(ns:List (List Int)):List (List D):=ns.map fun n=>[.b7 (aM n)]
theorem gU(ns:List Int):(aM ns).length=ns.length:=by simp[aM]
theorem tU{ns:List Int}{i:Nat}(h:i<ns.length):row (aM ns) i=[.val (.int .i64 ns[i])]:=by simp[aM,row,bK,ab h]
theorem jo(ns:List Int):∀y∈aM ns,y.length=1:=by
 intro y hy
 rw[show aM ns=ns.map _ from rfl] at hy
 obtain⟨t,_,rfl⟩:=bQ.1 hy
 rfl
theorem xO(ns:List Int)(i:Nat):(aM ns).take i=aM (ns.take i):=by simp[aM]
theorem gh(ns ms:List Int):aM ns++aM ms=aM (ns++ms):=by simp[aM]
theorem de:aM []=[]:=rfl
theorem cb(n:Int)(ns:List Int):aM (n::ns)=[.val (.int .i64 n)]::aM ns:=rfl
theorem F8(ns:List Bool):∀y∈L6 ns,y.length=1:=by
 intro y hy
 rw[show L6 ns=ns.map _ from rfl] at hy
 obtain⟨t,_,rfl⟩:=bQ.1 hy
 rfl
theorem zK(ns:List lH):(hY ns).length=ns.length:=by simp[hY]
theorem Ai{ns:List lH}{i:Nat}(h:i<ns.length):row (hY ns) i=[.str ns[i]]:=by simp[hY,row,bK,ab h]
theorem GK(ns ms:List lH):hY ns++hY ms=hY (ns++ms):=by simp[hY]
theorem Gt:hY []=[]:=rfl
theorem DB(ns:List (List Int)):(bt ns).length=ns.length:=by simp[bt]
theorem ED{ns:List (List Int)}{i:Nat}(h:i<ns.length):row (bt ns) i=[.b7 (aM ns[i])]:=by simp[bt,row,bK,ab h]
theorem EN(ns:List (List Int)):∀y∈bt ns,y.length=1:=by
 intro y hy
 rw[show bt ns=ns.map _ from rfl] at hy
 obtain⟨t,_,rfl⟩:=bQ.1 hy
 rfl
theorem EP:bt []=[]:=rfl
inductive Term where
 | mk(name:lH)(kids:List Term)
def Term.name:Term→lH
 | .mk x _=>x
def Term.kids:Term→List Term
 | .mk _ x=>x
theorem Term.ind{P:Term→Prop}(h:∀name kids,(∀k∈kids,P k)→P (.mk name kids)):∀t,P t:=by
 intro t
 refine Term.rec (motive_1:=P) (motive_2:=fun ks=>∀k∈ks,P k) (fun name kids ih=>h name kids ih) (by simp) (fun t ts h1 h2=>?_) t
 intro k hk
 rcases aw.1 hk with rfl|hk
 ·exact h1
 ·exact h2 k hk
mutual
def Od:Term→List D
 | .mk name kids=>[.str name,.b7 (aQ kids)]
def aQ:List Term→List (List D)
 | []=>[]
 | t::ts=>Od t::aQ ts
end
def cT(t:Term):List D:=[.str t.name,.b7 (aQ t.kids)]
theorem KC(t:Term):Od t=cT t:=by cases t;rfl
theorem iy:∀(ts:List Term),aQ ts=ts.map cT
 | []=>rfl
 | t::ts=>by simp[aQ,KC,iy ts]
theorem lJ(ns:List Term):(aQ ns).length=ns.length:=by simp[iy]
theorem tF{ns:List Term}{i:Nat}(h:i<ns.length):row (aQ ns) i=cT ns[i]:=by simp[iy,row,bK,ab h]
theorem Gi(ns:List Term):∀y∈aQ ns,y.length=2:=by
 intro y hy
 rw[show aQ ns=ns.map _ from iy ns] at hy
 obtain⟨t,_,rfl⟩:=bQ.1 hy
 rfl
theorem Ek(ns:List Term)(i:Nat):(aQ ns).take i=aQ (ns.take i):=by simp[iy]
theorem iw(ns ms:List Term):aQ ns++aQ ms=aQ (ns++ms):=by simp[iy]
theorem gQ:aQ []=[]:=rfl
theorem eW(n:Term)(ns:List Term):aQ (n::ns)=cT n::aQ ns:=by simp[iy]
theorem nP{ns:List Term}{i:Nat}(h:i<ns.length):aQ (ns.take i)++[cT ns[i]]=aQ (ns.take (i+1)):=by
 have e:ns.take (i+1)=ns.take i++[ns[i]]:=by rw[bu,ab h];rfl
 rw[e,←iw,eW,gQ]
mutual
def HH:Term→Term→Bool
 | .mk name1 kids1,.mk name2 kids2=>decide (name1=name2)&&qD kids1 kids2
def qD:List Term→List Term→Bool
 | [],[]=>true
 | x::xs,y::ys=>HH x y&&qD xs ys
 | _,_=>false
end
mutual
theorem zz:∀(a b:Term),HH a b=true↔a=b
 | .mk name1 kids1,.mk name2 kids2=>by simp[HH,wC]
theorem wC:∀(a b:List Term),qD a b=true↔a=b
 | [],[]=>by simp[qD]
 | [],_::_=>by simp[qD]
 | _::_,[]=>by simp[qD]
 | x::xs,y::ys=>by simp[qD,zz x y,wC xs ys]
end
instance:DecidableEq Term:=fun a b=>decidable_of_iff _ (zz a b)
structure Sym where
 name:lH
 args:List Int
 sort:Int
 deriving DecidableEq
def qa(t:Sym):List D:=[.str t.name,.b7 (aM t.args),.val (.int .i64 t.sort)]
def eB(l:List Sym):List (List D):=l.map qa
theorem CW(ns:List Sym):(eB ns).length=ns.length:=by simp[eB]
theorem u7{ns:List Sym}{i:Nat}(h:i<ns.length):row (eB ns) i=qa ns[i]:=by simp[eB,row,bK,ab h]
theorem mJ(ns ms:List Sym):eB ns++eB ms=eB (ns++ms):=by simp[eB]
structure eJ where
 syms:List Sym
 deriving DecidableEq
def dc(t:eJ):List D:=[.b7 (eB t.syms)]
structure Atom where
 kind:Int
 A:Term
 B:Term
 aP:List Term
 times:List Int
 bound:Int
 strict:Bool
 deriving DecidableEq
def dS(t:Atom):List D:=[.val (.int .i64 t.kind),.str t.A.name,.b7 (aQ t.A.kids),.str t.B.name,.b7 (aQ t.B.kids),.b7 (aQ t.aP),.b7 (aM t.times),.val (.int .i64 t.bound),.val (.bool t.strict)]
def aJ(l:List Atom):List (List D):=l.map dS
theorem As(ns:List Atom):(aJ ns).length=ns.length:=by simp[aJ]
theorem Bw{ns:List Atom}{i:Nat}(h:i<ns.length):row (aJ ns) i=dS ns[i]:=by simp[aJ,row,bK,ab h]
theorem AK(ns:List Atom):∀y∈aJ ns,y.length=9:=by
 intro y hy
 rw[show aJ ns=ns.map _ from rfl] at hy
 obtain⟨t,_,rfl⟩:=bQ.1 hy
 rfl
theorem lx(ns ms:List Atom):aJ ns++aJ ms=aJ (ns++ms):=by simp[aJ]
theorem lz:aJ []=[]:=rfl
theorem na(n:Atom)(ns:List Atom):aJ (n::ns)=dS n::aJ ns:=rfl
structure fB where
 atom:Atom
 no:Bool
 deriving DecidableEq
def EZ(t:fB):List D:=[.val (.int .i64 t.atom.kind),.str t.atom.A.name,.b7 (aQ t.atom.A.kids),.str t.atom.B.name,.b7 (aQ t.atom.B.kids),.b7 (aQ t.atom.aP),.b7 (aM t.atom.times),.val (.int .i64 t.atom.bound),.val (.bool t.atom.strict),.val (.bool t.no)]
def cH(l:List fB):List (List D):=l.map EZ
theorem B4(ns:List fB):(cH ns).length=ns.length:=by simp[cH]
theorem Cv{ns:List fB}{i:Nat}(h:i<ns.length):row (cH ns) i=EZ ns[i]:=by simp[cH,row,bK,ab h]
theorem Db(ns:List fB):∀y∈cH ns,y.length=10:=by
 intro y hy
 rw[show cH ns=ns.map _ from rfl] at hy
 obtain⟨t,_,rfl⟩:=bQ.1 hy
 rfl
theorem o0(ns ms:List fB):cH ns++cH ms=cH (ns++ms):=by simp[cH]
inductive sR where
 | mk(nw:Int)(n:Int)(t:Term)(kids:List sR)
def sR.nw:sR→Int
 | .mk x _ _ _=>x
def sR.n:sR→Int
 | .mk _ x _ _=>x
def sR.t:sR→Term
 | .mk _ _ x _=>x
def sR.kids:sR→List sR
 | .mk _ _ _ x=>x
theorem sR.ind{P:sR→Prop}(h:∀nw n t kids,(∀k∈kids,P k)→P (.mk nw n t kids)):∀t,P t:=by
 intro t
 refine sR.rec (motive_1:=P) (motive_2:=fun ks=>∀k∈ks,P k) (fun nw n t kids ih=>h nw n t kids ih) (by simp) (fun t ts h1 h2=>?_) t
 intro k hk
 rcases aw.1 hk with rfl|hk
 ·exact h1
 ·exact h2 k hk
mutual
def MC:sR→List D
 | .mk nw n t kids=>[.val (.int .i64 nw),.val (.int .i64 n),.str t.name,.b7 (aQ t.kids),.b7 (nZ kids)]
def nZ:List sR→List (List D)
 | []=>[]
 | t::ts=>MC t::nZ ts
end
def O2(t:sR):List D:=[.val (.int .i64 t.nw),.val (.int .i64 t.n),.str t.t.name,.b7 (aQ t.t.kids),.b7 (nZ t.kids)]
theorem va:nZ []=[]:=rfl
mutual
def AO:sR→sR→Bool
 | .mk rule1 n1 t1 kids1,.mk rule2 n2 t2 kids2=>decide (rule1=rule2)&&decide (n1=n2)&&decide (t1=t2)&&l7 kids1 kids2
def l7:List sR→List sR→Bool
 | [],[]=>true
 | x::xs,y::ys=>AO x y&&l7 xs ys
 | _,_=>false
end
mutual
theorem uq:∀(a b:sR),AO a b=true↔a=b
 | .mk rule1 n1 t1 kids1,.mk rule2 n2 t2 kids2=>by simp[AO,rO,and_assoc]
theorem rO:∀(a b:List sR),l7 a b=true↔a=b
 | [],[]=>by simp[l7]
 | [],_::_=>by simp[l7]
 | _::_,[]=>by simp[l7]
 | x::xs,y::ys=>by simp[l7,uq x y,rO xs ys]
end
instance:DecidableEq sR:=fun a b=>decidable_of_iff _ (uq a b)
inductive Case where
 | mk(kind:Int)(n:Int)(wj:sR)(times:List Int)(A:Term)(B:Term)(kids:List Case)
def Case.kind:Case→Int
 | .mk x _ _ _ _ _ _=>x
def Case.n:Case→Int
 | .mk _ x _ _ _ _ _=>x
def Case.wj:Case→sR
 | .mk _ _ x _ _ _ _=>x
def Case.times:Case→List Int
 | .mk _ _ _ x _ _ _=>x
def Case.A:Case→Term
 | .mk _ _ _ _ x _ _=>x
def Case.B:Case→Term
 | .mk _ _ _ _ _ x _=>x
def Case.kids:Case→List Case
 | .mk _ _ _ _ _ _ x=>x
theorem Case.ind{P:Case→Prop}(h:∀kind n wj times A B kids,(∀k∈kids,P k)→P (.mk kind n wj times A B kids)):∀t,P t:=by
 intro t
 refine Case.rec (motive_1:=P) (motive_2:=fun ks=>∀k∈ks,P k) (fun kind n wj times A B kids ih=>h kind n wj times A B kids ih) (by simp) (fun t ts h1 h2=>?_) t
 intro k hk
 rcases aw.1 hk with rfl|hk
 ·exact h1
 ·exact h2 k hk
mutual
def Kd:Case→List D
 | .mk kind n wj times A B kids=>[.val (.int .i64 kind),.val (.int .i64 n),.val (.int .i64 wj.nw),.val (.int .i64 wj.n),.str wj.t.name,.b7 (aQ wj.t.kids),.b7 (nZ wj.kids),.b7 (aM times),.str A.name,.b7 (aQ A.kids),.str B.name,.b7 (aQ B.kids),.b7 (sE kids)]
def sE:List Case→List (List D)
 | []=>[]
 | t::ts=>Kd t::sE ts
end
def Oo(t:Case):List D:=[.val (.int .i64 t.kind),.val (.int .i64 t.n),.val (.int .i64 t.wj.nw),.val (.int .i64 t.wj.n),.str t.wj.t.name,.b7 (aQ t.wj.t.kids),.b7 (nZ t.wj.kids),.b7 (aM t.times),.str t.A.name,.b7 (aQ t.A.kids),.str t.B.name,.b7 (aQ t.B.kids),.b7 (sE t.kids)]
mutual
def xq:Case→Case→Bool
 | .mk kind1 n1 why1 times1 A1 B1 kids1,.mk kind2 n2 why2 times2 A2 B2 kids2=>decide (kind1=kind2)&&decide (n1=n2)&&decide (why1=why2)&&decide (times1=times2)&&decide (A1=A2)&&decide (B1=B2)&&kc kids1 kids2
def kc:List Case→List Case→Bool
 | [],[]=>true
 | x::xs,y::ys=>xq x y&&kc xs ys
 | _,_=>false
end
mutual
theorem sw:∀(a b:Case),xq a b=true↔a=b
 | .mk kind1 n1 why1 times1 A1 B1 kids1,.mk kind2 n2 why2 times2 A2 B2 kids2=>by simp[xq,qd,and_assoc]
theorem qd:∀(a b:List Case),kc a b=true↔a=b
 | [],[]=>by simp[kc]
 | [],_::_=>by simp[kc]
 | _::_,[]=>by simp[kc]
 | x::xs,y::ys=>by simp[kc,sw x y,qd xs ys]
end
instance:DecidableEq Case:=fun a b=>decidable_of_iff _ (sw a b)
inductive Form where
 | mk(kind:Int)(lit:fB)(kids:List Form)
def Form.kind:Form→Int
 | .mk x _ _=>x
def Form.lit:Form→fB
 | .mk _ x _=>x
def Form.kids:Form→List Form
 | .mk _ _ x=>x
theorem Form.ind{P:Form→Prop}(h:∀kind lit kids,(∀k∈kids,P k)→P (.mk kind lit kids)):∀t,P t:=by
 intro t
 refine Form.rec (motive_1:=P) (motive_2:=fun ks=>∀k∈ks,P k) (fun kind lit kids ih=>h kind lit kids ih) (by simp) (fun t ts h1 h2=>?_) t
 intro k hk
 rcases aw.1 hk with rfl|hk
 ·exact h1
 ·exact h2 k hk
mutual
def Fb:Form→List D
 | .mk kind lit kids=>[.val (.int .i64 kind),.val (.int .i64 lit.atom.kind),.str lit.atom.A.name,.b7 (aQ lit.atom.A.kids),.str lit.atom.B.name,.b7 (aQ lit.atom.B.kids),.b7 (aQ lit.atom.aP),.b7 (aM lit.atom.times),.val (.int .i64 lit.atom.bound),.val (.bool lit.atom.strict),.val (.bool lit.no),.b7 (aN kids)]
def aN:List Form→List (List D)
 | []=>[]
 | t::ts=>Fb t::aN ts
end
def cx(t:Form):List D:=[.val (.int .i64 t.kind),.val (.int .i64 t.lit.atom.kind),.str t.lit.atom.A.name,.b7 (aQ t.lit.atom.A.kids),.str t.lit.atom.B.name,.b7 (aQ t.lit.atom.B.kids),.b7 (aQ t.lit.atom.aP),.b7 (aM t.lit.atom.times),.val (.int .i64 t.lit.atom.bound),.val (.bool t.lit.atom.strict),.val (.bool t.lit.no),.b7 (aN t.kids)]
theorem D2(t:Form):Fb t=cx t:=by cases t;rfl
theorem ix:∀(ts:List Form),aN ts=ts.map cx
 | []=>rfl
 | t::ts=>by simp[aN,D2,ix ts]
theorem cQ(ns:List Form):(aN ns).length=ns.length:=by simp[ix]
theorem A0{ns:List Form}{i:Nat}(h:i<ns.length):row (aN ns) i=cx ns[i]:=by simp[ix,row,bK,ab h]
theorem nJ(ns:List Form):∀y∈aN ns,y.length=12:=by
 intro y hy
 rw[show aN ns=ns.map _ from ix ns] at hy
 obtain⟨t,_,rfl⟩:=bQ.1 hy
 rfl
theorem jM(ns ms:List Form):aN ns++aN ms=aN (ns++ms):=by simp[ix]
theorem fG:aN []=[]:=rfl
theorem dt(n:Form)(ns:List Form):aN (n::ns)=cx n::aN ns:=by simp[ix]
mutual
def yx:Form→Form→Bool
 | .mk kind1 lit1 kids1,.mk kind2 lit2 kids2=>decide (kind1=kind2)&&decide (lit1=lit2)&&jY kids1 kids2
def jY:List Form→List Form→Bool
 | [],[]=>true
 | x::xs,y::ys=>yx x y&&jY xs ys
 | _,_=>false
end
mutual
theorem rV:∀(a b:Form),yx a b=true↔a=b
 | .mk kind1 lit1 kids1,.mk kind2 lit2 kids2=>by simp[yx,qe,and_assoc]
theorem qe:∀(a b:List Form),jY a b=true↔a=b
 | [],[]=>by simp[jY]
 | [],_::_=>by simp[jY]
 | _::_,[]=>by simp[jY]
 | x::xs,y::ys=>by simp[jY,rV x y,qe xs ys]
end
instance:DecidableEq Form:=fun a b=>decidable_of_iff _ (rV a b)
def Mo(ns:List (List Form)):List (List D):=ns.map fun n=>[.b7 (aN n)]
structure Rat where
 N:Int
 D:Int
 deriving DecidableEq
def Oj(t:Rat):List D:=[.val (.int .i64 t.N),.val (.int .i64 t.D)]
def AP(l:List Rat):List (List D):=l.map Oj
theorem CG(ns:List Rat):∀y∈AP ns,y.length=2:=by
 intro y hy
 rw[show AP ns=ns.map _ from rfl] at hy
 obtain⟨t,_,rfl⟩:=bQ.1 hy
 rfl
structure Row where
 name:lH
 args:List Rat
 val:Rat
 deriving DecidableEq
def N8(t:Row):List D:=[.str t.name,.b7 (AP t.args),.val (.int .i64 t.val.N),.val (.int .i64 t.val.D)]
def Fv(l:List Row):List (List D):=l.map N8
theorem Cg:Fv []=[]:=rfl
structure Model where
 rows:List Row
 deriving DecidableEq
def D5(t:Model):List D:=[.b7 (Fv t.rows)]
structure s7 where
 xG:List Int
 bound:Int
 strict:Bool
 deriving DecidableEq
def OB(t:s7):List D:=[.b7 (aM t.xG),.val (.int .i64 t.bound),.val (.bool t.strict)]
def Fg(l:List s7):List (List D):=l.map OB
theorem Ck(ns:List s7):∀y∈Fg ns,y.length=3:=by
 intro y hy
 rw[show Fg ns=ns.map _ from rfl] at hy
 obtain⟨t,_,rfl⟩:=bQ.1 hy
 rfl
structure zE where
 A:Term
 B:Term
 deriving DecidableEq
def O1(t:zE):List D:=[.str t.A.name,.b7 (aQ t.A.kids),.str t.B.name,.b7 (aQ t.B.kids)]
def DU(l:List zE):List (List D):=l.map O1
theorem EC(ns:List zE):∀y∈DU ns,y.length=4:=by
 intro y hy
 rw[show DU ns=ns.map _ from rfl] at hy
 obtain⟨t,_,rfl⟩:=bQ.1 hy
 rfl
theorem wZ:DU []=[]:=rfl
structure Step where
 A:Int
 B:Int
 given:Int
 deriving DecidableEq
def Mj(t:Step):List D:=[.val (.int .i64 t.A),.val (.int .i64 t.B),.val (.int .i64 t.given)]
def Ol(l:List Step):List (List D):=l.map Mj
structure dq where
 many:Int
 list:List (List Int)
 deriving DecidableEq
def Gu(t:dq):List D:=[.val (.int .i64 t.many),.b7 (bt t.list)]
structure rY where
 marks:List Int
 case:Case
 deriving DecidableEq
def DZ(t:rY):List D:=[.b7 (aM t.marks),.val (.int .i64 t.case.kind),.val (.int .i64 t.case.n),.val (.int .i64 t.case.wj.nw),.val (.int .i64 t.case.wj.n),.str t.case.wj.t.name,.b7 (aQ t.case.wj.t.kids),.b7 (nZ t.case.wj.kids),.b7 (aM t.case.times),.str t.case.A.name,.b7 (aQ t.case.A.kids),.str t.case.B.name,.b7 (aQ t.case.B.kids),.b7 (sE t.case.kids)]
def jr(l:List rY):List (List D):=l.map DZ
theorem y4(ns:List rY):(jr ns).length=ns.length:=by simp[jr]
theorem zk{ns:List rY}{i:Nat}(h:i<ns.length):row (jr ns) i=DZ ns[i]:=by simp[jr,row,bK,ab h]
theorem y6:jr []=[]:=rfl
structure zX where
 lemmas:List rY
 log:List (List Int)
 deriving DecidableEq
def Ee(t:zX):List D:=[.b7 (jr t.lemmas),.b7 (bt t.log)]
structure Stack where
 sig:eJ
 levels:List (List Form)
 deriving DecidableEq
def No(t:Stack):List D:=[.b7 (eB t.sig.syms),.b7 (Mo t.levels)]
def av(cs:List D):PV:=.agg (ff cs)
attribute [go_sem] gU zK DB lJ CW As B4 cQ y4
attribute [go_sem] tU Ai ED tF u7 Bw Cv A0 zk
attribute [go_sem] de Gt EP gQ lz va fG Cg wZ y6
attribute [go_sem] av cT qa dc dS EZ O2 Oo cx Oj N8 D5 OB O1 Mj Gu DZ Ee No Int.toNat_natCast
end Go.Mod
namespace Go.Eng
open Go.Mod
theorem sA{p q:Prop}(k:q)(h:p=q:=by simp -implicitDefEqProofs only[go_sem];exact rfl):p:=h▸k
theorem sB{p q:Prop}(k:q)(h:p=q:=by simp -implicitDefEqProofs only[go_sem,Int.reduceEq,Int.reduceLT,Int.reduceLE,Int.reduceToNat];exact rfl):p:=h▸k
theorem sC{p:Prop}(h:p:=by simp -implicitDefEqProofs only[go_sem]):p:=h
theorem sD{p:Prop}(h:p:=by simp -implicitDefEqProofs only[go_sem,Int.reduceEq,Int.reduceLT,Int.reduceLE,Int.reduceToNat]):p:=h
theorem iK{os:List Oper}{L:List Ky}{p:Prop}(hp:p)(h:AV os L=true:=by kernel_rfl):indep os L=true∧p:=⟨tV h,hp⟩
theorem aC{m:Option (List Ky)}{gs:Option Nat}{d:Nat}{ty:TypeId}{pos:String}{cP:Array Edge}{gd:Option (Nat×Bool)}{E:Env}{g:G}{rest:lK→Option (List Ky)→G→Prop}{iB:Operand}{xs:List Operand}{tys:Array TypeId}{f:FuncId}(cap:List PV){bA:List PV}{res:PV}{q:Prop}
 (hC:C E.P f bA [] (bw res [])) (k:q) (h:g.ev iB= .fn f cap∧yb (Gl g xs++cap) bA∧oo 0 bA=true∧res.lt 0=true:=by simp -implicitDefEqProofs only[go_sem])
 (hr:rest .on (ji m (j9 (o3 gs ⟨bZ iB++tg xs,[]⟩) ⟨some (d,res),[]⟩)) (g.app ⟨some (d,res),[]⟩)=q:=by simp -implicitDefEqProofs only[go_sem];exact rfl):oB E m gs ⟨some d,.call ⟨.value iB,⟨xs⟩,tys⟩,ty,pos,cP,gd⟩ g rest:=
 fm cap hC h (hr▸k)
theorem aD{m:Option (List Ky)}{gs:Option Nat}{d:Nat}{ty:TypeId}{pos:String}{cP:Array Edge}{gd:Option (Nat×Bool)}{E:Env}{g:G}{rest:lK→Option (List Ky)→G→Prop}{iB:Operand}{xs:List Operand}{tys:Array TypeId}{f:FuncId}(cap:List PV){bA:List PV}{res:PV}{q:Prop}
 (hC:C E.P f bA [] (bw res [])) (k:q) (h:g.ev iB= .fn f cap∧yb (Gl g xs++cap) bA∧oo 0 bA=true∧res.lt 0=true:=by simp -implicitDefEqProofs only[go_sem,Int.reduceEq,Int.reduceLT,Int.reduceLE,Int.reduceToNat])
 (hr:rest .on (ji m (j9 (o3 gs ⟨bZ iB++tg xs,[]⟩) ⟨some (d,res),[]⟩)) (g.app ⟨some (d,res),[]⟩)=q:=by simp -implicitDefEqProofs only[go_sem,Int.reduceEq,Int.reduceLT,Int.reduceLE,Int.reduceToNat];exact rfl):oB E m gs ⟨some d,.call ⟨.value iB,⟨xs⟩,tys⟩,ty,pos,cP,gd⟩ g rest:=
 fm cap hC h (hr▸k)
theorem oC{m:Option (List Ky)}{gs:Option Nat}{d:Nat}{ty:TypeId}{pos:String}{cP:Array Edge}{gd:Option (Nat×Bool)}{E:Env}{g:G}{rest:lK→Option (List Ky)→G→Prop}{iB:Operand}{xs:List Operand}{tys:Array TypeId}{f:FuncId}(cap:List PV)(M:List Nat){bA:List PV}{cE st':List (Option En)}{res:PV}{q:Prop}
 (hC:C E.P f bA cE (bw res st')) (k:q) (h:g.ev iB= .fn f cap∧yb (Gl g xs++cap) (kR M bA)∧oo (gI cE) bA=true∧Da M=true∧pM (gI cE) (xB M)=true∧pM (gI cE) (gI st')=true∧pM (gI st') (xB M)=true∧jj g M (gI cE) M cE∧eL g (gI cE) M:=by simp -implicitDefEqProofs only[go_sem])
 (hr:rest .on (ji m (j9 (o3 gs ⟨bZ iB++tg xs,M⟩) ⟨some (d,res.gZ M),gi M M st'⟩)) (g.app ⟨some (d,res.gZ M),gi M M st'⟩)=q:=by simp -implicitDefEqProofs only[go_sem];exact rfl):oB E m gs ⟨some d,.call ⟨.value iB,⟨xs⟩,tys⟩,ty,pos,cP,gd⟩ g rest:=
 bT cap M hC h (hr▸k)
theorem oD{m:Option (List Ky)}{gs:Option Nat}{d:Nat}{ty:TypeId}{pos:String}{cP:Array Edge}{gd:Option (Nat×Bool)}{E:Env}{g:G}{rest:lK→Option (List Ky)→G→Prop}{iB:Operand}{xs:List Operand}{tys:Array TypeId}{f:FuncId}(cap:List PV)(M:List Nat){bA:List PV}{cE st':List (Option En)}{res:PV}{q:Prop}
 (hC:C E.P f bA cE (bw res st')) (k:q) (h:g.ev iB= .fn f cap∧yb (Gl g xs++cap) (kR M bA)∧oo (gI cE) bA=true∧Da M=true∧pM (gI cE) (xB M)=true∧pM (gI cE) (gI st')=true∧pM (gI st') (xB M)=true∧jj g M (gI cE) M cE∧eL g (gI cE) M:=by simp -implicitDefEqProofs only[go_sem,Int.reduceEq,Int.reduceLT,Int.reduceLE,Int.reduceToNat])
 (hr:rest .on (ji m (j9 (o3 gs ⟨bZ iB++tg xs,M⟩) ⟨some (d,res.gZ M),gi M M st'⟩)) (g.app ⟨some (d,res.gZ M),gi M M st'⟩)=q:=by simp -implicitDefEqProofs only[go_sem,Int.reduceEq,Int.reduceLT,Int.reduceLE,Int.reduceToNat];exact rfl):oB E m gs ⟨some d,.call ⟨.value iB,⟨xs⟩,tys⟩,ty,pos,cP,gd⟩ g rest:=
 bT cap M hC h (hr▸k)
theorem gS{E:Env}(hm:E.P.follows .mixedOrders=true){f:FuncId}{fn:Func}{c:Code}{args:List PV}{cE:List (Option En)}{R:PV→List (Option En)→Prop}{nt:Nat}{rs:List ResultVar}{L q:Prop}(hf:E.P.funcs[f]?=some fn)(k:L→s0 cE→LB=1099511627776→q)
 (hb : fn.body = some c := by rfl) (hname : (fn.name == "runtime.NumGoroutine") = false := by rfl) (hnt : fn.ntmps = nt := by rfl) (hrs : fn.results.toList = rs := by rfl) (hn : pM (pb args) nt = true := by rfl)
 (e1:kV args=L:=by simp -implicitDefEqProofs only[go_sem];exact rfl) (e2:BM E (gI cE) c .on ⟨eQ nt .undef (I1 0 args),cE⟩ (fun _=>Ei (qG E rs (gI cE) R))=q:=by simp -implicitDefEqProofs only[go_sem];exact rfl):C E.P f args cE R:=
 BQ hm hf hb hname hnt hrs hn fun h1 h2=>e2▸k (e1▸h1) h2 rfl
theorem gT{E:Env}(hm:E.P.follows .mixedOrders=true){f:FuncId}{fn:Func}{c:Code}{args:List PV}{cE:List (Option En)}{R:PV→List (Option En)→Prop}{nt:Nat}{rs:List ResultVar}{L q:Prop}(hf:E.P.funcs[f]?=some fn)(k:L→s0 cE→LB=1099511627776→q)
 (hb : fn.body = some c := by rfl) (hname : (fn.name == "runtime.NumGoroutine") = false := by rfl) (hnt : fn.ntmps = nt := by rfl) (hrs : fn.results.toList = rs := by rfl) (hn : pM (pb args) nt = true := by rfl)
 (e1:kV args=L:=by simp -implicitDefEqProofs only[go_sem,Int.reduceEq,Int.reduceLT,Int.reduceLE,Int.reduceToNat];exact rfl) (e2:BM E (gI cE) c .on ⟨eQ nt .undef (I1 0 args),cE⟩ (fun _=>Ei (qG E rs (gI cE) R))=q:=by simp -implicitDefEqProofs only[go_sem,Int.reduceEq,Int.reduceLT,Int.reduceLE,Int.reduceToNat];exact rfl):C E.P f args cE R:=
 BQ hm hf hb hname hnt hrs hn fun h1 h2=>e2▸k (e1▸h1) h2 rfl
theorem sO{p:Prop}(h:p:=by first|(with_reducible exact tV (by kernel_rfl))|omega|assumption|exact⟨Gi _,by omega⟩|exact⟨jo _,by omega⟩|exact⟨Db _,by omega⟩|exact⟨Ck _,by omega⟩|exact⟨EC _,by omega⟩|rfl|(simp[*];done)|(simp;omega)|exact⟨CG _,by omega⟩|exact⟨AK _,by omega⟩|exact⟨F8 _,by omega⟩|exact⟨nJ _,by omega⟩|exact⟨EN _,by omega⟩):p:=h
theorem sV{p:Prop}(h:p:=by(simp -implicitDefEqProofs only[go_sem,Int.reduceEq,Int.reduceLT,Int.reduceLE,Int.reduceToNat];repeat'(first|exact pY.nil|apply pY.cons|exact Vw.same (by first|rfl|simp -implicitDefEqProofs only[go_sem,Int.reduceEq,Int.reduceLT,Int.reduceLE,Int.reduceToNat])|exact Vw.acc rfl rfl|exact Vw.cY rfl rfl (by simp -implicitDefEqProofs only[go_sem,Int.reduceEq,Int.reduceLT,Int.reduceLE,Int.reduceToNat])|exact Vw.nil|apply Vw.agg|apply Vw.fn|refine Vw.box rfl rfl ?_))):p:=h
structure Hd(q:Prop):Prop where k:q
theorem sQ{p q:Prop}(k:q)(h:Hd q→p:=by intro k;(repeat(with_reducible apply And.intro;exact sO));exact k.k):p:=h ⟨k⟩
theorem sI{p q:Prop}(k:q)(h:Hd q→p:=by intro k;(try with_reducible refine iK ?_);exact k.k):p:=h ⟨k⟩
theorem sJ{p q:Prop}(k:q)(h:Hd q→p:=by intro k;(try with_reducible refine iK ?_);(repeat(with_reducible apply And.intro;exact sO));exact k.k):p:=h ⟨k⟩
theorem sL{p:Prop}(h:p:=by show _ < _;omega):p:=h
theorem sK{p q:Prop}(k:q)(h:Hd q→p:=by intro k;(repeat(first|with_reducible refine CQ (by kernel_rfl) ?_|(with_reducible apply And.intro;exact sO)));exact k.k):p:=h ⟨k⟩
theorem sW{p q:Prop}(k:q)(h:Hd q→p:=by intro k;(try with_reducible refine CQ (by kernel_rfl) ?_);exact k.k):p:=h ⟨k⟩
theorem sM{p:Prop}(h:p:=by first|(simp[aS, *];done)|(simp[aS];done)|(simp;omega)):p:=h
theorem uA{p q:Prop}(k:q)(h:p=q:=by simp -implicitDefEqProofs only[go_sem,h1];exact rfl):p:=h▸k
theorem uB{p q:Prop}(k:q)(h:p=q:=by simp -implicitDefEqProofs only[go_sem,h2];exact rfl):p:=h▸k
theorem uC{p q:Prop}(k:q)(h:p=q:=by simp -implicitDefEqProofs only[go_sem,h3];exact rfl):p:=h▸k
theorem uD{p q:Prop}(k:q)(h:p=q:=by simp -implicitDefEqProofs only[go_sem,h4];exact rfl):p:=h▸k
theorem uE{p q:Prop}(k:q)(h:p=q:=by simp -implicitDefEqProofs only[go_sem,h5];exact rfl):p:=h▸k
theorem uF{p q:Prop}(k:q)(h:p=q:=by simp -implicitDefEqProofs only[go_sem,h];exact rfl):p:=h▸k
theorem uG{p q:Prop}(k:q)(h:p=q:=by simp -implicitDefEqProofs only[go_sem,k];exact rfl):p:=h▸k
theorem uH{p q:Prop}(k:q)(h:p=q:=by simp -implicitDefEqProofs only[go_sem,k0];exact rfl):p:=h▸k
theorem uI{p q:Prop}(k:q)(h:p=q:=by simp -implicitDefEqProofs only[go_sem,g1];exact rfl):p:=h▸k
theorem uJ{p q:Prop}(k:q)(h:p=q:=by simp -implicitDefEqProofs only[go_sem,h1,h2];exact rfl):p:=h▸k
theorem uK{p q:Prop}(k:q)(h:p=q:=by simp -implicitDefEqProofs only[go_sem,Option.isSome_none,Option.getD_none];exact rfl):p:=h▸k
theorem uL{p q:Prop}(k:q)(h:p=q:=by simp -implicitDefEqProofs only[go_sem,Option.isSome_some,Option.getD_some];exact rfl):p:=h▸k
theorem yA{p q:Prop}(k:q)(h:p=q:=by simp -implicitDefEqProofs only[go_sem,Int.reduceEq,Int.reduceLT,Int.reduceLE,Int.reduceToNat,h1];exact rfl):p:=h▸k
theorem yB{p q:Prop}(k:q)(h:p=q:=by simp -implicitDefEqProofs only[go_sem,Int.reduceEq,Int.reduceLT,Int.reduceLE,Int.reduceToNat,h2];exact rfl):p:=h▸k
theorem yC{p q:Prop}(k:q)(h:p=q:=by simp -implicitDefEqProofs only[go_sem,Int.reduceEq,Int.reduceLT,Int.reduceLE,Int.reduceToNat,h3];exact rfl):p:=h▸k
theorem yD{p q:Prop}(k:q)(h:p=q:=by simp -implicitDefEqProofs only[go_sem,Int.reduceEq,Int.reduceLT,Int.reduceLE,Int.reduceToNat,h4];exact rfl):p:=h▸k
theorem yE{p q:Prop}(k:q)(h:p=q:=by simp -implicitDefEqProofs only[go_sem,Int.reduceEq,Int.reduceLT,Int.reduceLE,Int.reduceToNat,h5];exact rfl):p:=h▸k
theorem yF{p q:Prop}(k:q)(h:p=q:=by simp -implicitDefEqProofs only[go_sem,Int.reduceEq,Int.reduceLT,Int.reduceLE,Int.reduceToNat,h];exact rfl):p:=h▸k
theorem yG{p q:Prop}(k:q)(h:p=q:=by simp -implicitDefEqProofs only[go_sem,Int.reduceEq,Int.reduceLT,Int.reduceLE,Int.reduceToNat,k];exact rfl):p:=h▸k
theorem yH{p q:Prop}(k:q)(h:p=q:=by simp -implicitDefEqProofs only[go_sem,Int.reduceEq,Int.reduceLT,Int.reduceLE,Int.reduceToNat,k0];exact rfl):p:=h▸k
theorem yI{p q:Prop}(k:q)(h:p=q:=by simp -implicitDefEqProofs only[go_sem,Int.reduceEq,Int.reduceLT,Int.reduceLE,Int.reduceToNat,g1];exact rfl):p:=h▸k
theorem yJ{p q:Prop}(k:q)(h:p=q:=by simp -implicitDefEqProofs only[go_sem,Int.reduceEq,Int.reduceLT,Int.reduceLE,Int.reduceToNat,h1,h2];exact rfl):p:=h▸k
end Go.Eng
namespace Go.Mod
open Go.Eng
def within(n lo hi:Int):Bool:=decide (lo≤n)&&decide (n≤hi)
theorem cF{n lo hi:Int}:within n lo hi=true↔lo≤n∧n≤hi:=by simp[within]
def cL{α:Type}(p:α→Bool):List α→Int→Int
 | [],_=>-1
 | x::xs,i=>if p x then i else cL p xs (i+1)
def idxOf{α:Type}(p:α→Bool)(xs:List α):Int:=cL p xs 0
def qv(a:Rat):Bool:=within a.N (-1000000000) 1000000000&&(within a.D 1 1000000000&&decide ((Int.gcd a.N a.D:Int)=1))
def D0:Rat:=⟨0,0⟩
def EX(n d:Int):Rat×Bool:=
 if d=0 then(D0,false) else
 let n1:=if d<0 then -n else n
 let d1:=if d<0 then -d else d
 let a:Rat:=⟨n1.tdiv (Int.gcd n1 d1),d1.tdiv (Int.gcd n1 d1)⟩
 if qv a then(a,true) else(D0,false)
def Pn(n d:Int):Rat×Bool:=if within n (-1000000000) 1000000000&&within d (-1000000000) 1000000000 then EX n d else(D0,false)
def ET(a b:Rat):Rat×Bool:=if qv a&&qv b then EX (a.N*b.D+b.N*a.D) (a.D*b.D) else(D0,false)
def EY(a b:Rat):Rat×Bool:=if qv a&&qv b then EX (a.N*b.N) (a.D*b.D) else(D0,false)
def sr(a b:Rat):Bool:=qv a&&(qv b&&decide (a.N*b.D<b.N*a.D))
def O4(a b:Rat):Rat×Bool:=if(ET a b).2 then EY (ET a b).1 ⟨1,2⟩ else(D0,false)
def JN(n:Int):Bool:=within n (-1000000) 1000000
def zU(l:s7):Bool:=l.xG.all JN&&(decide (l.xG.length=4)&&JN l.bound)
def IX:s7:=⟨[],0,false⟩
def M4(l:s7):s7:=if zU l then⟨l.xG.map fun c=>-c,-l.bound,!l.strict⟩ else IX
def comb(m n:Int):List Int→List Int→List Int
 | a::as,b::bs=>(m*a+n*b)::comb m n as bs
 | _,_=>[]
def HJ(a:s7)(m:Int)(b:s7)(n:Int):s7:=⟨comb m n a.xG b.xG,m*a.bound+n*b.bound,(decide (0<m)&&a.strict)||(decide (0<n)&&b.strict)⟩
def Ld(a:s7)(m:Int)(b:s7)(n:Int):s7×Bool:=if zU (HJ a m b n) then(HJ a m b n,true) else(IX,false)
def Ht(a:s7)(m:Int)(b:s7)(n:Int):s7×Bool:=if zU a&&zU b&&within m 0 1000000&&within n 0 1000000 then Ld a m b n else(IX,false)
def flat(l:s7):Bool:=l.xG.all fun c=>decide (c=0)
def Nw(l:s7):Bool:=zU l&&(flat l&&(decide (l.bound<0)||(decide (l.bound=0)&&l.strict)))
def whole(n:Int):Rat:=⟨n,1⟩
def plus(sum:Rat)(c:Int)(val:Rat):Rat×Bool:=if(EY (whole c) val).2 then ET sum (EY (whole c) val).1 else(D0,false)
def Jj(list:List s7):Bool:=decide (list.length≤20)&&list.all zU
def Me:List s7→List Int→s7→s7×Bool
 | l::ls,t::ts,out=>if(Ht out 1 l t).2 then Me ls ts (Ht out 1 l t).1 else(IX,false)
 | _,_,out=>(out,true)
def J2(list:List s7)(times:List Int):s7×Bool:=if Jj list&&decide (times.length=list.length) then Me list times ⟨[0,0,0,0],0,false⟩ else(IX,false)
def N7(list:List s7)(times:List Int):Bool:=(J2 list times).2&&Nw (J2 list times).1
def hG(c:UInt8):Bool:=decide ((97:Int)≤(c.toNat:Int))&&decide ((c.toNat:Int)≤122)
def dV(s:lH):Bool:=within s.length 1 2&&s.all hG
def isSort(n:Int):Bool:=decide (n=0)||decide (n=1)
def jn(x:Sym):Bool:=dV x.name&&(decide (x.args.length≤2)&&(isSort x.sort&&x.args.all isSort))
def iE(a b:lH):Bool:=Op.bytesLess a b
def kP:Option lH→List Sym→Bool
 | _,[]=>true
 | p,x::xs=>jn x&&((match p with|none=>true|some q=>iE q x.name)&&kP (some x.name) xs)
def dm(s:eJ):Bool:=kP none s.syms&&decide (s.syms.length≤7)
def symbol(s:eJ)(name:lH):Option Sym:=s.syms.find? fun x=>decide (x.name=name)
def mo:Sym:=⟨[],[],0⟩
mutual
def ga:Term→Nat→Nat
 | .mk n ks,bj=>if dV n&&decide (ks.length≤2)&&decide (bj≤4) then 1+cU ks (bj+1) else 13
def cU:List Term→Nat→Nat
 | [],_=>0
 | t::ts,bj=>ga t bj+cU ts bj
end
def isTerm(t:Term):Bool:=decide (ga t 1≤12)
mutual
def a8:Term→Nat→Bool
 | _,0=>false
 | .mk n ks,d+1=>dV n&&(decide (ks.length≤2)&&bN ks d)
def bN:List Term→Nat→Bool
 | [],_=>true
 | t::ts,d=>a8 t d&&bN ts d
end
mutual
def many:Term→Nat→Nat
 | _,0=>1
 | .mk _ ks,d+1=>1+gO ks d
def gO:List Term→Nat→Nat
 | [],_=>0
 | t::ts,d=>many t d+gO ts d
end
mutual
def dL(s:eJ):Term→Option Int
 | .mk n ks=>match symbol s n with
   | none=>none
   | some x=>if decide (x.args.length=ks.length)&&eZ s ks x.args then some x.sort else none
def eZ(s:eJ):List Term→List Int→Bool
 | k::ks,a::as=>decide (dL s k=some a)&&eZ s ks as
 | _,_=>true
end
def eG(s:eJ)(t:Term):Option Int:=if dm s&&isTerm t then dL s t else none
def iA:List lH→lH
 | []=>[]
 | [t]=>t
 | t::ts=>t++(44::iA ts)
mutual
def aF:Term→lH
 | .mk n []=>n
 | .mk n (k::ks)=>n++(40::(iA (aF k::gV ks)++[41]))
def gV:List Term→List lH
 | []=>[]
 | t::ts=>aF t::gV ts
end
def fA(list:List Term)(t:Term):Int:=idxOf (fun u=>decide (t=u)) list
mutual
def cW(list:List Term):Term→List Term
 | .mk n ks=>let l:=aW list ks;if fA l (.mk n ks)<0 then l++[.mk n ks] else l
def aW(list:List Term):List Term→List Term
 | []=>list
 | t::ts=>aW (cW list t) ts
end
def kA:List Term→List Term→List Term
 | [],out=>out
 | t::ts,out=>if isTerm t then kA ts (cW out t) else []
def jq(list:List Term):List Term:=kA list []
def Oq(Hf:List zE):List Term:=Hf.flatMap fun e=>[e.A,e.B]
def jI(s:eJ)(e:zE):Bool:=(eG s e.A).isSome&&decide (eG s e.A=eG s e.B)
def L1(s:eJ)(Hf:List zE):Bool:=dm s&&decide (Hf.length≤12)&&Hf.all (jI s)&&decide ((jq (Oq Hf)).length≤24)
def fq:Term:=.mk [] []
def isNone(t:Term):Bool:=decide (t.name=[])&&decide (t.kids=[])
def EB:zE:=⟨fq,fq⟩
def Pd:sR:=.mk 0 0 fq []
def IE(Hf:List zE)(nw n:Int)(t:Term)(kids:List zE):zE×Bool:=
 if(nw≠2∧n≠0)∨(nw≠1∧nw≠5∧isNone t=false) then(EB,false) else
 if nw=1 then(⟨t,t⟩,decide (kids.length=0)&&isTerm t) else
 if nw=2 then(if 0<kids.length∨within n 0 (Hf.length-1)=false then(EB,false) else(Hf.getD n.toNat EB,true)) else
 if nw=3 then(if kids.length=1 then(⟨(kids.getD 0 EB).B,(kids.getD 0 EB).A⟩,true) else(EB,false)) else
 if nw=4 then(if kids.length=2∧(kids.getD 0 EB).B=(kids.getD 1 EB).A then(⟨(kids.getD 0 EB).A,(kids.getD 1 EB).B⟩,true) else(EB,false)) else
 if nw=5 then(if kids.length=0∨dV t.name=false∨0<t.kids.length then(EB,false) else
  (⟨.mk t.name (kids.map (·.A)),.mk t.name (kids.map (·.B))⟩,isTerm (.mk t.name (kids.map (·.A)))&&isTerm (.mk t.name (kids.map (·.B))))) else
 (EB,false)
mutual
def xU(f:Int→Int→Term→List zE→zE×Bool):sR→Nat→zE×Bool
 | _,0=>(EB,false)
 | .mk r n t ks,d+1=>match Fe f ks d with
   | none=>(EB,false)
   | some kids=>f r n t kids
def Fe(f:Int→Int→Term→List zE→zE×Bool):List sR→Nat→Option (List zE)
 | [],_=>some []
 | w::ws,d=>if(xU f w d).2 then(Fe f ws d).map fun es=>(xU f w d).1::es else none
end
def C8(s:eJ)(Hf:List zE)(w:sR):Option zE:=
 if L1 s Hf&&((xU (IE Hf) w 400).2&&L1 s [(xU (IE Hf) w 400).1]) then some (xU (IE Hf) w 400).1 else none
def jB:Option Term→List Term→List Int→Bool
 | p,t::ts,n::ns=>isTerm t&&(within n (-50) 50&&(decide (n≠0)&&((match p with|none=>true|some q=>iE (aF q) (aF t))&&jB (some t) ts ns)))
 | _,_,_=>true
def bW(a:Atom):Bool:=
 if a.kind=1 then isTerm a.A&&(isTerm a.B&&(decide (a.aP.length=0)&&(decide (a.times.length=0)&&(decide (a.bound=0)&& !a.strict)))) else
 if a.kind=2 then isNone a.A&&(isNone a.B&&(within a.aP.length 1 4&&(decide (a.times.length=a.aP.length)&&(within a.bound (-1000) 1000&&jB none a.aP a.times)))) else false
def cg(s:eJ)(t:Term):Bool:=decide (eG s t=some 1)
def fa(s:eJ)(a:Atom):Bool:=dm s&&(bW a&&(if a.kind=1 then jI s ⟨a.A,a.B⟩ else a.aP.all (cg s)))
def cm(a:Atom):List Term:=if a.kind=1 then [a.A,a.B] else a.aP
def e7(bb:List fB):List Term:=jq (bb.flatMap fun l=>cm l.atom)
def oT(s:eJ)(bb:List fB):List Term:=(e7 bb).filter (cg s)
def fQ(s:eJ)(bb:List fB):Bool:=dm s&&decide (bb.length≤6)&&bb.all (fun l=>fa s l.atom)&&decide ((e7 bb).length≤24)&&decide ((oT s bb).length≤4)
def Mb(bb:List fB):List zE:=bb.filterMap fun l=>if l.atom.kind=1∧l.no=false then some ⟨l.atom.A,l.atom.B⟩ else none
def Md:List Int→Int→Int→List Int
 | [],_,_=>[]
 | c::cs,i,v=>if i=0 then(c+v)::cs else c::Md cs (i-1) v
def L3(aP:List Term):List Term→List Int→List Int→List Int
 | t::ts,n::ns,cs=>L3 aP ts ns (Md cs (fA aP t) n)
 | _,_,cs=>cs
def FG(aP list:List Term)(times:List Int)(bound:Int)(strict:Bool):s7:=⟨L3 aP list times [0,0,0,0],bound,strict⟩
def Kf(aP:List Term)(l:fB):List s7:=
 if l.atom.kind=2 then [if l.no then M4 (FG aP l.atom.aP l.atom.times l.atom.bound l.atom.strict) else FG aP l.atom.aP l.atom.times l.atom.bound l.atom.strict]
 else if l.no=false∧0≤fA aP l.atom.A then [FG aP [l.atom.A,l.atom.B] [1,-1] 0 false,FG aP [l.atom.A,l.atom.B] [-1,1] 0 false] else []
def Nu(aP:List Term)(bb:List fB):List s7:=bb.flatMap (Kf aP)
def M9(a b:Term):Atom:=⟨1,a,b,[],[],0,false⟩
def Mh(a b:Term):fB:=⟨M9 a b,false⟩
def Fc(a b:Term):fB:=if iE (aF b) (aF a) then⟨⟨2,fq,fq,[b,a],[-1,1],0,true⟩,false⟩ else⟨⟨2,fq,fq,[a,b],[1,-1],0,true⟩,false⟩
def MF(a b:Term):List fB:=[Mh a b,Fc a b,Fc b a]
def differ(aP:List Term)(a b:Term):Bool:=decide (0≤fA aP a)&&(decide (0≤fA aP b)&&decide (fA aP a≠fA aP b))
def bare(c:Case)(n wj times OK:Bool)(kids:Nat):Bool:=
 (n||decide (c.n=0))&&((wj||decide (c.wj=Pd))&&((times||decide (c.times.length=0))&&((OK||(isNone c.A&&isNone c.B))&&decide (c.kids.length=kids))))
theorem xv:fq.name=[]:=rfl
theorem yv:fq.kids=[]:=rfl
theorem Ae:mo.name=[]:=rfl
theorem zy:mo.args=[]:=rfl
theorem zC:mo.sort=0:=rfl
attribute [simp] xv yv Ae zy zC gQ de wZ va
attribute [go_sem] xv yv Ae zy zC
theorem sa(n:lH)(ks:List Term):(Term.mk n ks).name=n:=rfl
theorem sP(n:lH)(ks:List Term):(Term.mk n ks).kids=ks:=rfl
attribute [simp] sa sP
attribute [go_sem] sa sP
def HL(a b:Rat):Int:=if sr a b then -1 else if sr b a then 1 else 0
def Fu:List Rat→List Rat→Int
 | [],[]=>0
 | [],_::_=>-1
 | _::_,[]=>1
 | a::as,b::bs=>if HL a b=0 then Fu as bs else HL a b
def HW(a b:lH):Int:=if iE a b then -1 else if iE b a then 1 else 0
def JI(a b:Int):Int:=if a<b then -1 else if b<a then 1 else 0
def wV(a b:Row):Int:=if HW a.name b.name≠0 then HW a.name b.name else if JI a.args.length b.args.length≠0 then JI a.args.length b.args.length else Fu a.args b.args
def L4(r:Row):Bool:=dV r.name&&(decide (r.args.length≤2)&&(qv r.val&&r.args.all qv))
def HT:Option Row→List Row→Bool
 | _,[]=>true
 | p,r::rs=>L4 r&&((match p with|none=>true|some q=>decide (wV q r<0))&&HT (some r) rs)
def KM(m:Model):Bool:=decide (m.rows.length≤40)&&HT none m.rows
def L7(a:Rat)(sort:Int):Bool:=decide (sort=1)||decide (a.D=1)
def C0:List Rat→List Int→Bool
 | a::as,n::ns=>L7 a n&&C0 as ns
 | _,_=>true
def Hu(s:eJ)(r:Row):Bool:=
 match symbol s r.name with
 | none=>false
 | some x=>decide (x.args.length=r.args.length)&&(L7 r.val x.sort&&C0 r.args x.args)
def Fo(s:eJ)(m:Model):Bool:=dm s&&(KM m&&m.rows.all (Hu s))
def lookup(rows:List Row)(name:lH)(args:List Rat):Rat:=
 match rows.find? (fun r=>decide (r.name=name∧r.args=args)) with
 | some r=>r.val
 | none=>⟨0,1⟩
mutual
def value(m:Model):Term→Rat
 | .mk n ks=>lookup m.rows n (values m ks)
def values(m:Model):List Term→List Rat
 | []=>[]
 | t::ts=>value m t::values m ts
end
def LZ(m:Model):List Term→List Int→Rat→Option Rat
 | t::ts,n::ns,sum=>if(plus sum n (value m t)).2 then LZ m ts ns (plus sum n (value m t)).1 else none
 | _,_,sum=>some sum
def below(a:Rat)(bound:Int)(strict:Bool):Bool:=if strict then sr a (whole bound) else !sr (whole bound) a
def Nn(m:Model)(a:Atom):Option Bool:=if a.kind=1 then some (decide (value m a.A=value m a.B)) else(LZ m a.aP a.times (whole 0)).map fun x=>below x a.bound a.strict
def H4(s:eJ)(m:Model)(l:fB):Option Bool:=if Fo s m&&fa s l.atom then(Nn m l.atom).map fun b=>b != l.no else none
mutual
def IV(s:eJ)(aP:List Term):Case→List fB→Nat→Bool
 | .mk k n w ts a b ks,bb,bj=>
   if 14<bj then false else
   if k=1 then bare (.mk k n w ts a b ks) true true false false 0&&(within n 0 (bb.length-1)&&(match C8 s (Mb bb) w,bb[n.toNat]? with
    | some e,some l=>l.no&&(decide (l.atom.kind=1)&&(decide (e.A=l.atom.A)&&decide (e.B=l.atom.B)))
    | _,_=>false)) else
   if k=2 then bare (.mk k n w ts a b ks) false false true false 0&&N7 (Nu aP bb) ts else
   if k=3 then bare (.mk k n w ts a b ks) false true false false 1&&(match C8 s (Mb bb) w with
    | some e=>differ aP e.A e.B&&AZ s aP ks [bb++[Mh e.A e.B]] (bj+1)
    | none=>false) else
   if k=4 then bare (.mk k n w ts a b ks) false false false true 3&&(differ aP a b&&AZ s aP ks ((MF a b).map fun l=>bb++[l]) (bj+1)) else
   false
def AZ(s:eJ)(aP:List Term):List Case→List (List fB)→Nat→Bool
 | c::cs,l::ls,bj=>IV s aP c l bj&&AZ s aP cs ls bj
 | _,_,_=>true
end
def My(s:eJ)(bb:List fB)(c:Case):Bool:=fQ s bb&&IV s (oT s bb) c bb 1
def cC(kind:Int):Int:=if kind=1 then 0 else if kind=2 then 1 else if kind=3∨kind=4∨kind=5∨kind=6 then 2 else -1
def uy:Atom:=⟨0,fq,fq,[],[],0,false⟩
def Gx:fB:=⟨uy,false⟩
def Fw:Form:=.mk 0 Gx []
def ly(l:fB):Bool:=!l.no&&decide (l.atom=uy)
def dM(k:Int)(l:fB)(ks:List Form):Bool:=decide (cC k=ks.length)&&(if k=1 then bW l.atom else ly l)
mutual
def dD:Form→Nat→Nat
 | .mk k l ks,bj=>if decide (bj≤5)&&dM k l ks then 1+cV ks (bj+1) else 11
def cV:List Form→Nat→Nat
 | [],_=>0
 | t::ts,bj=>dD t bj+cV ts bj
end
mutual
def aL:Form→Nat→Bool
 | _,0=>false
 | .mk k l ks,d+1=>dM k l ks&&bc ks d
def bc:List Form→Nat→Bool
 | [],_=>true
 | t::ts,d=>aL t d&&bc ts d
end
mutual
def bL:Form→Nat→Nat
 | _,0=>1
 | .mk _ _ ks,d+1=>1+bn ks d
def bn:List Form→Nat→Nat
 | [],_=>0
 | t::ts,d=>bL t d+bn ts d
end
def bD(list:List Atom)(a:Atom):Int:=idxOf (fun b=>decide (a=b)) list
mutual
def withAtoms(list:List Atom):Form→List Atom
 | .mk k l ks=>if k=1 then(if bD list l.atom<0 then list++[l.atom] else list) else aH list ks
def aH(list:List Atom):List Form→List Atom
 | []=>list
 | t::ts=>aH (withAtoms list t) ts
end
def dI(f:Form):Bool:=decide (dD f 1≤10)&&decide ((withAtoms [] f).length≤6)
def plain(list:List Atom):List fB:=list.map fun a=>⟨a,false⟩
def Ms(s:eJ)(f:Form):Bool:=dI f&&fQ s (plain (withAtoms [] f))
mutual
def holds(p:Atom→Bool):Form→Bool
 | .mk k l ks=>xV k l (ya p ks) p
def ya(p:Atom→Bool):List Form→List Bool
 | []=>[]
 | t::ts=>holds p t::ya p ts
def xV(k:Int)(l:fB)(is:List Bool)(p:Atom→Bool):Bool:=
 if k=1 then p l.atom != l.no else
 if k=2 then !(is.getD 0 false) else
 if k=3 then is.getD 0 false&&is.getD 1 false else
 if k=4 then is.getD 0 false||is.getD 1 false else
 if k=5 then !(is.getD 0 false)||is.getD 1 false else
 is.getD 0 false == is.getD 1 false
end
def Nk(f:Form)(vals:List Bool):Option Bool:=
 if dI f&&decide ((withAtoms [] f).length=vals.length) then some (holds (fun a=>vals.getD (bD (withAtoms [] f) a).toNat false) f) else none
def J3(s:eJ)(m:Model):List Atom→Option (List Bool)
 | []=>some []
 | a::as=>match H4 s m ⟨a,false⟩ with
   | none=>none
   | some b=>match J3 s m as with
     | none=>none
     | some bs=>some (b::bs)
def Gc(s:eJ)(m:Model)(f:Form):Option Bool:=
 if Ms s f then(match J3 s m (withAtoms [] f) with|none=>none|some vals=>Nk f vals) else none
def r8:List Form→List Atom→List Atom
 | [],out=>out
 | f::fs,out=>r8 fs (withAtoms out f)
def bS(list:List Form):Option (List Atom):=
 if decide (list.length≤5)&&(list.all dI&&decide ((r8 list []).length≤6)) then some (r8 list []) else none
def eS(s:eJ)(list:List Form):Bool:=match bS list with|none=>false|some atoms=>dm s&&fQ s (plain atoms)
def dF(l many:Int):Bool:=decide (l≠0)&&within l (-many) many
def oi:List Int→List Int→Int→Bool
 | _,[],_=>true
 | before,m::ms,many=>dF m many&&(!(before.contains m)&&(!(before.contains (-m))&&oi (before++[m]) ms many))
def ik(marks:List Int)(many:Nat):Bool:=oi [] marks many
def Jp(marks:List Int)(atoms:List Atom):List fB:=marks.map fun m=>⟨atoms.getD (m.natAbs-1) uy,decide (m<0)⟩
def LU(s:eJ)(list:List Form)(l:rY):Bool:=
 eS s list&&(decide (0<l.marks.length)&&(ik l.marks ((bS list).getD []).length&&My s (Jp l.marks ((bS list).getD [])) l.case))
def OA(s:eJ)(m:Model)(list:List Form):Bool:=eS s list&&(Fo s m&&list.all fun f=>decide (Gc s m f=some true))
end Go.Mod
namespace Go.Proofs.YtgpjhjalfakpoaaGreat
open Go.Eng Go.Mod
set_option maxRecDepth 100000
theorem Ju{n:Int}:(if n < -n then -n else n)=(n.natAbs:Int):=by split<;>omega
end Go.Proofs.YtgpjhjalfakpoaaGreat
namespace Go.Mod
open Go.Eng
mutual
theorem my:∀(t:Term)(d:Nat),d≤4→(a8 t d=true→ga t (5-d)=many t d)∧(a8 t d=false→13≤ga t (5-d))
 | .mk n ks,0,_=>by simp[a8,ga]
 | .mk n ks,d+1,hd=>by
   obtain⟨h1,h2⟩:=rQ ks d (by omega)
   have e:5-(d+1)+1=5-d:=by omega
   have e2:5-(d+1)≤4:=by omega
   simp only[a8,ga,many,e,e2,decide_true,Bool.and_true]
   cases hn:dV n
   ·simp
   ·rcases aa (ks.length≤2) with hk|hk
    ·simp only[hk,decide_true,Bool.and_self,az,if_true]
     exact⟨fun h=>by rw[h1 h],fun h=>by have:=h2 h;omega⟩
    ·simp[hk]
theorem rQ:∀(ts:List Term)(d:Nat),d≤4→(bN ts d=true→cU ts (5-d)=gO ts d)∧(bN ts d=false→13≤cU ts (5-d))
 | [],_,_=>by simp[bN,cU,gO]
 | t::ts,d,hd=>by
   obtain⟨h1,h2⟩:=my t d hd
   obtain⟨h3,h4⟩:=rQ ts d hd
   simp only[bN,cU,gO]
   cases ht:a8 t d
   ·have:=h2 ht
    exact⟨fun h=>by simp at h,fun _=>by omega⟩
   ·cases hts:bN ts d
    ·have:=h4 hts
     exact⟨fun h=>by simp at h,fun _=>by omega⟩
    ·exact⟨fun _=>by rw[h1 ht,h3 hts],fun h=>by simp at h⟩
end
def right(t:Term):Bool:=a8 t 4&&decide (many t 4≤12)
theorem rR(t:Term):right t=isTerm t:=by
 have h:=my t 4 (by omega)
 simp only[show 5-4=1 from rfl] at h
 obtain⟨h1,h2⟩:=h
 unfold right isTerm
 cases h:a8 t 4
 ·have:=h2 h
  simp only[Bool.false_and]
  symm
  simp only[decide_eq_false_iff_not]
  omega
 ·rw[←h1 h]
  simp
theorem iJ{t:Term}(h:isTerm t=true):a8 t 4=true:=by
 rw[←rR] at h
 simp only[right,ae] at h
 exact h.1
mutual
theorem tI:∀(t:Term)(d:Nat),a8 t d=true→a8 t (d+1)=true
 | .mk n ks,0,h=>by simp[a8] at h
 | .mk n ks,d+1,h=>by
   simp only[a8,ae] at h⊢
   exact⟨h.1,h.2.1,yp ks d h.2.2⟩
theorem yp:∀(ts:List Term)(d:Nat),bN ts d=true→bN ts (d+1)=true
 | [],_,_=>by simp[bN]
 | t::ts,d,h=>by
   simp only[bN,ae] at h⊢
   exact⟨tI t d h.1,yp ts d h.2⟩
end
theorem jk:∀{ts:List Term}{d:Nat},bN ts d=true→∀t∈ts,a8 t d=true
 | [],_,_,t,ht=>by simp at ht
 | a::ts,d,h,t,ht=>by
   simp only[bN,ae] at h
   rcases aw.1 ht with rfl|ht
   ·exact h.1
   ·exact jk h.2 t ht
theorem jl{t:Term}{d:Nat}(h:a8 t (d+1)=true):dV t.name=true∧t.kids.length≤2∧bN t.kids d=true:=by
 cases t with
 | mk n ks=>
   simp only[a8,ae,decide_eq_true_eq] at h
   exact⟨h.1,h.2.1,h.2.2⟩
mutual
theorem AI:∀(t:Term)(d:Nat),a8 t d=true→many t d+1≤2 ^ d
 | .mk n ks,0,h=>by simp[a8] at h
 | .mk n ks,d+1,h=>by
   simp only[a8,ae,decide_eq_true_eq] at h
   have:=s5 ks d h.2.2
   simp only[many]
   have h3:ks.length*(2 ^ d-1)≤2*(2 ^ d-1):=aY _ h.2.1
   have h4:1≤2 ^ d:=bE
   rw[fc]
   omega
theorem s5:∀(ts:List Term)(d:Nat),bN ts d=true→gO ts d≤ts.length*(2 ^ d-1)
 | [],_,_=>by simp[gO]
 | t::ts,d,h=>by
   simp only[bN,ae] at h
   have h1:=AI t d h.1
   have h2:=s5 ts d h.2
   simp only[gO,aq,br,Nat.one_mul]
   omega
end
mutual
theorem u6:∀(t:Term)(bj:Nat),1≤bj→bj≤5→ga t bj+14≤27*2 ^ (5-bj)
 | .mk n ks,bj,h1,h5=>by
   simp only[ga]
   split
   ·rename_i h
    simp only[ae,decide_eq_true_eq] at h
    have:=nS ks (bj+1) (by omega) (by omega)
    have h3:ks.length*(27*2 ^ (5-(bj+1))-14)≤2*(27*2 ^ (5-(bj+1))-14):=aY _ h.1.2
    have e:5-bj=(5-(bj+1))+1:=by omega
    have h4:1≤2 ^ (5-(bj+1)):=bE
    rw[e,fc]
    omega
   ·have h4:1≤2 ^ (5-bj):=bE
    omega
theorem nS:∀(ts:List Term)(bj:Nat),1≤bj→bj≤5→cU ts bj≤ts.length*(27*2 ^ (5-bj)-14)
 | [],_,_,_=>by simp[cU]
 | t::ts,bj,h1,h5=>by
   have h2:=u6 t bj h1 h5
   have h3:=nS ts bj h1 h5
   simp only[cU,aq,br,Nat.one_mul]
   omega
end
theorem fD:∀(ts l:List Term),aW l ts=ts.foldl cW l
 | [],_=>rfl
 | t::ts,l=>by simp only[aW,iY,fD ts]
theorem kQ{ts:List Term}{i:Nat}(h:i<ts.length)(l:List Term):aW l (ts.take (i+1))=cW (aW l (ts.take i)) ts[i]:=by
 have e:ts.take (i+1)=ts.take i++[ts[i]]:=by rw[bu,ab h];rfl
 rw[e,fD,fD,jQ]
 rfl
theorem lr(l:List Term)(t:Term):cW l t=if fA (aW l t.kids) t<0 then aW l t.kids++[t] else aW l t.kids:=by
 cases t;rfl
mutual
theorem qn:∀(t:Term)(d:Nat)(l:List Term),a8 t d=true→(cW l t).length≤l.length+many t d
 | .mk n ks,0,l,h=>by simp[a8] at h
 | .mk n ks,d+1,l,h=>by
   simp only[a8,ae] at h
   have:=lR ks d l h.2.2
   simp only[cW,many]
   split
   ·simp only[ao,aq,bH]
    omega
   ·omega
theorem lR:∀(ts:List Term)(d:Nat)(l:List Term),bN ts d=true→(aW l ts).length≤l.length+gO ts d
 | [],_,_,_=>by simp[aW]
 | t::ts,d,l,h=>by
   simp only[bN,ae] at h
   have h1:=qn t d l h.1
   have h2:=lR ts d (cW l t) h.2
   simp only[aW,gO]
   omega
end
theorem lC:∀{ts:List Term}{d:Nat},bN ts d=true→∀i,bN (ts.take i) d=true
 | [],_,_,i=>by simp[bN]
 | t::ts,d,h,0=>by simp[bN]
 | t::ts,d,h,i+1=>by
   simp only[bN,ae,List.take_succ_cons] at h⊢
   exact⟨h.1,lC h.2 i⟩
theorem sZ{t:Term}{d:Nat}{l:List Term}(h:a8 t d=true)(hd:d≤4):(cW l t).length≤l.length+15:=by
 have h1:=qn t d l h
 have h2:=AI t d h
 have h3:2 ^ d≤2 ^ 4:=bJ (by omega) hd
 omega
theorem qi{t:Term}{d:Nat}{l:List Term}(h:a8 t (d+1)=true)(hd:d≤3)(i:Nat):(aW l (t.kids.take i)).length≤l.length+14:=by
 obtain⟨_,h1,h2⟩:=jl h
 have h3:=lR (t.kids.take i) d l (lC h2 i)
 have h4:=s5 (t.kids.take i) d (lC h2 i)
 have h5:2 ^ d≤2 ^ 3:=bJ (by omega) hd
 have h6:(t.kids.take i).length≤2:=by simp;omega
 have h7:(t.kids.take i).length*(2 ^ d-1)≤2*(2 ^ d-1):=aY _ h6
 omega
theorem x8{n:Int}:isSort n=true↔n=0∨n=1:=by simp[isSort]
theorem xJ:∀{l:List Sym}{p:Option lH},kP p l=true→∀x∈l,jn x=true
 | [],_,_,x,hx=>by simp at hx
 | a::l,p,h,x,hx=>by
   simp only[kP,ae] at h
   rcases aw.1 hx with rfl|hx
   ·exact h.1
   ·exact xJ h.2.2 x hx
theorem zQ{s:eJ}{n:lH}{x:Sym}(hs:dm s=true)(h:symbol s n=some x):jn x=true:=by
 simp only[dm,ae] at hs
 exact xJ hs.1 x (List.mem_of_find?_eq_some h)
theorem xu{x:Sym}(h:jn x=true):isSort x.sort=true∧∀n∈x.args,isSort n=true:=by
 simp only[jn,ae,List.all_eq_true] at h
 exact⟨h.2.2.1,h.2.2.2⟩
theorem Ch{s:eJ}{t:Term}{n:Int}(hs:dm s=true)(h:dL s t=some n):isSort n=true:=by
 cases t with
 | mk nm ks=>
   simp only[dL] at h
   cases hx:symbol s nm with
   | none=>rw[hx] at h;cases h
   | some x=>
     rw[hx] at h
     simp only at h
     split at h
     ·cases h
      exact(xu (zQ hs hx)).1
     ·cases h
def N3(r:lH):Prop:=∀c x,r=c::x→hG c=false
def L8(r:lH):Prop:=∀c x,r=c::x→hG c=false∧c≠40
theorem L8.n{r:lH}(h:L8 r):N3 r:=fun c x e=>(h c x e).1
mutual
theorem xn:∀(t:Term)(d:Nat),a8 t d=true→(aF t).length+6≤8*2 ^ d
 | t,0,h=>by simp[a8] at h
 | .mk n [],d+1,h=>by
   simp only[a8,ae] at h
   have h1:n.length≤2:=by
    have:=h.1
    simp only[dV,ae] at this
    have:=cF.1 this.1
    omega
   have h4:1≤2 ^ d:=bE
   simp only[aF,fc]
   omega
 | .mk n (k::ks),d+1,h=>by
   simp only[a8,ae,decide_eq_true_eq] at h
   have h1:n.length≤2:=by
    have:=h.1
    simp only[dV,ae] at this
    have:=cF.1 this.1
    omega
   have h2:=zB (k::ks) d h.2.2
   have h4:1≤2 ^ d:=bE
   simp only[gV] at h2
   simp only[aF,ao,aq,bH,fc]
   have h3:(k::ks).length*(8*2 ^ d-5)≤2*(8*2 ^ d-5):=aY _ h.2.1
   omega
theorem zB:∀(ts:List Term)(d:Nat),bN ts d=true→(iA (gV ts)).length≤ts.length*(8*2 ^ d-5)
 | [],_,_=>by simp[gV,iA]
 | [t],d,h=>by
   simp only[bN,ae] at h
   have:=xn t d h.1
   simp only[gV,iA,aq,bH]
   omega
 | t::u::ts,d,h=>by
   simp only[bN,ae] at h
   have h1:=xn t d h.1
   have h2:=zB (u::ts) d (by simp only[bN,ae];exact h.2)
   simp only[gV] at h2
   simp only[gV,iA,ao,aq] at h2⊢
   have e:(ts.length+1+1)*(8*2 ^ d-5)=(ts.length+1)*(8*2 ^ d-5)+(8*2 ^ d-5):=by rw[br (ts.length+1) 1];omega
   rw[e]
   omega
end
theorem nM{t:Term}{d:Nat}(h:a8 t d=true)(hd:d≤4):(aF t).length≤122:=by
 have h1:=xn t d h
 have h2:2 ^ d≤2 ^ 4:=bJ (by omega) hd
 omega
theorem o8{α:Type}{p:α→Bool}:∀{xs:List α}{i:Int},0≤i→cL p xs i=if cL p xs 0<0 then -1 else cL p xs 0+i
 | [],i,h=>by simp[cL]
 | x::xs,i,h=>by
   simp only[cL]
   split
   ·simp
   ·rw[o8 (i:=i+1) (by omega),o8 (i:=0+1) (by omega)]
    rcases aa (cL p xs 0<0) with hc|hc
    ·simp[hc]
    ·simp only[hc,if_false]
     rw[if_neg (by omega)]
     omega
theorem CN{α:Type}{p:α→Bool}:∀{xs:List α}{i:Int},cL p xs i<i+xs.length∨cL p xs i = -1
 | [],i=>by simp[cL]
 | x::xs,i=>by
   simp only[cL,aq]
   split
   ·left;omega
   ·rcases CN (p:=p) (xs:=xs) (i:=i+1) with h|h
    ·left;omega
    ·right;exact h
def NS(aP:List Term):List Term→List Int→List Int→List Int
 | t::ts,n::ns,cs=>NS aP ts ns (cs.set (fA aP t).toNat n)
 | _,_,cs=>cs
theorem getD_set_ne{cs:List Int}{i k:Nat}{v:Int}(h:i≠k):(cs.set i v).getD k 0=cs.getD k 0:=by
 simp[bK,List.getElem?_set_ne h]
theorem fl{α:Type}{xs:List α}{i:Nat}(h:i<xs.length):xs.take (i+1)=xs.take i++[xs[i]]:=by rw[bu,ab h];rfl
theorem CH(p:Option Term)(t:Term)(ts:List Term)(n:Int)(ns:List Int):jB p (t::ts) (n::ns)=(isTerm t&&(within n (-50) 50&&(decide (n≠0)&&((match p with|none=>true|some q=>iE (aF q) (aF t))&&jB (some t) ts ns)))):=rfl
theorem rf:∀{ts:List Term}{ns:List Int}{p:Option Term},jB p ts ns=true→ns.length=ts.length→(∀t∈ts,isTerm t=true)∧(∀n∈ns,-50≤n∧n≤50)
 | [],[],_,_,_=>by simp
 | [],_::_,_,_,h=>by simp at h
 | _::_,[],_,_,h=>by simp at h
 | t::ts,n::ns,p,h,hl=>by
   rw[CH] at h
   simp only[ae] at h
   obtain⟨h1,h2⟩:=rf h.2.2.2.2 (by simpa using hl)
   have h3:=cF.1 h.2.1
   refine⟨fun u hu=>?_,fun m hm=>?_⟩
   ·rcases aw.1 hu with rfl|hu
    ·exact h.1
    ·exact h1 u hu
   ·rcases aw.1 hm with rfl|hm
    ·exact h3
    ·exact h2 m hm
theorem qM{a:Atom}(h:bW a=true)(k:a.kind=2):isNone a.A=true∧isNone a.B=true∧a.aP.length≤4∧a.times.length=a.aP.length∧(-1000≤a.bound∧a.bound≤1000)∧jB none a.aP a.times=true:=by
 rw[bW,if_neg (by omega),if_pos k] at h
 simp only[ae,decide_eq_true_eq] at h
 have h3:=cF.1 h.2.2.1
 have h5:=cF.1 h.2.2.2.2.1
 exact⟨h.1,h.2.1,by omega,h.2.2.2.1,h5,h.2.2.2.2.2⟩
theorem oI{a:Atom}(h:bW a=true):a.kind=1∨a.kind=2:=by
 rcases aa (a.kind=1) with k1|k1
 ·exact .inl k1
 ·rcases aa (a.kind=2) with k2|k2
  ·exact .inr k2
  ·simp[bW,k1,k2] at h
theorem Af{a:Atom}(h:bW a=true)(k:a.kind=1):isTerm a.A=true∧isTerm a.B=true:=by
 simp only[bW,k,if_true,ae] at h
 exact⟨h.1,h.2.1⟩
theorem lB{a:Atom}(h:bW a=true):(cm a).length≤4∧∀t∈cm a,isTerm t=true:=by
 unfold cm
 rcases aa (a.kind=1) with k1|k1
 ·rw[if_pos k1]
  have:=Af h k1
  refine⟨by simp,fun t ht=>?_⟩
  simp only[aw,b9,or_false] at ht
  rcases ht with rfl|rfl
  ·exact this.1
  ·exact this.2
 ·rw[if_neg k1]
  have k2:a.kind=2:=(oI h).resolve_left k1
  have:=qM h k2
  exact⟨this.2.2.1,(rf this.2.2.2.2.2 this.2.2.2.1).1⟩
def eH(bb:List fB):List Term:=bb.flatMap fun l=>cm l.atom
theorem qU(bb:List fB):e7 bb=jq (eH bb):=rfl
theorem qz{bb:List fB}{i:Nat}(h:i<bb.length):eH (bb.take (i+1))=eH (bb.take i)++cm bb[i].atom:=by
 rw[fl h]
 simp only[eH,List.flatMap_append,jO,List.flatMap_nil,List.append_nil]
theorem iq:∀{bb:List fB},(∀l∈bb,bW l.atom=true)→(eH bb).length≤4*bb.length∧∀t∈eH bb,isTerm t=true
 | [],_=>by simp[eH]
 | l::ls,h=>by
   obtain⟨h1,h2⟩:=iq (bb:=ls) fun x hx=>h x (by simp[hx])
   obtain⟨h3,h4⟩:=lB (h l (by simp))
   simp only[eH,jO,ao,aq,aG] at h1 h2⊢
   refine⟨by omega,fun t ht=>?_⟩
   rcases ht with ht|ht
   ·exact h4 t ht
   ·exact h2 t ht
theorem uX:∀{ts out:List Term},(∀t∈ts,isTerm t=true)→kA ts out=aW out ts
 | [],_,_=>by simp[kA,aW]
 | t::ts,out,h=>by
   simp only[kA,aW,h t (by simp),if_true]
   exact uX fun u hu=>h u (by simp[hu])
theorem mV{ts:List Term}(h:∀t∈ts,isTerm t=true):jq ts=aW [] ts:=uX h
mutual
theorem oq:∀(t:Term)(d:Nat)(l:List Term),d≤4→a8 t d=true→many t d≤12→(∀u∈l,isTerm u=true)→∀u∈cW l t,isTerm u=true
 | .mk n ks,0,l,_,h,_,_,u,_=>by simp[a8] at h
 | .mk n ks,d+1,l,hd,h,hm,hl,u,hu=>by
   have h':=h
   simp only[a8,ae] at h'
   have hk:=nA ks d l (by omega) h'.2.2 (by simp only[many] at hm;omega) hl
   simp only[cW] at hu
   split at hu
   ·simp only[aG,aw,b9,or_false] at hu
    rcases hu with hu|rfl
    ·exact hk u hu
    ·rw[←rR]
     have up:∀(k:Nat)(t:Term)(d:Nat),d+k≤4→a8 t d=true→a8 t (d+k)=true:=by
      intro k
      induction k with
      | zero=>intro t d _ h;exact h
      | succ k ih=>intro t d hk h;rw[←eE];exact tI _ _ (ih t d (by omega) h)
     have s4:=up (4-(d+1)) _ (d+1) (by omega) h
     rw[show d+1+(4-(d+1))=4 by omega] at s4
     have m1:=(my (.mk n ks) (d+1) hd).1 h
     have m2:=(my (.mk n ks) 4 (by omega)).1 s4
     simp only[right,s4,az,decide_eq_true_eq]
     have mm:∀(k:Nat)(t:Term)(d:Nat),d+k≤4→a8 t d=true→many t (d+k)=many t d:=by
      intro k
      induction k with
      | zero=>intro t d _ _;rfl
      | succ k ih=>
        intro t d hk h
        have h1:=ih t d (by omega) h
        have:∀(d:Nat)(t:Term),a8 t d=true→many t (d+1)=many t d:=by
         intro d
         induction d with
         | zero=>intro t h;cases t;simp[a8] at h
         | succ d ihd=>
           intro t h
           cases t with
           | mk n ks=>
             simp only[a8,ae] at h
             have hs:∀(ks:List Term),bN ks d=true→gO ks (d+1)=gO ks d:=by
              intro ks
              induction ks with
              | nil=>intro _;simp[gO]
              | cons a as iha=>
                intro h
                simp only[bN,ae] at h
                simp only[gO,ihd a h.1,iha h.2]
             simp only[many,hs ks h.2.2]
        rw[←eE,this (d+k) t (up k t d (by omega) h),h1]
     have:=mm (4-(d+1)) (.mk n ks) (d+1) (by omega) h
     rw[show d+1+(4-(d+1))=4 by omega] at this
     omega
   ·exact hk u hu
theorem nA:∀(ts:List Term)(d:Nat)(l:List Term),d≤4→bN ts d=true→gO ts d≤12→(∀u∈l,isTerm u=true)→∀u∈aW l ts,isTerm u=true
 | [],_,l,_,_,_,hl,u,hu=>hl u (by simpa[aW] using hu)
 | t::ts,d,l,hd,h,hm,hl,u,hu=>by
   simp only[bN,ae] at h
   simp only[gO] at hm
   simp only[aW] at hu
   exact nA ts d _ hd h.2 (by omega) (oq t d l hd h.1 (by omega) hl) u hu
end
theorem nr:∀(ts l:List Term),(∀t∈ts,isTerm t=true)→(∀u∈l,isTerm u=true)→∀u∈aW l ts,isTerm u=true
 | [],l,_,hl,u,hu=>hl u (by simpa[aW] using hu)
 | t::ts,l,ht,hl,u,hu=>by
   simp only[aW] at hu
   have h4:=ht t (by simp)
   have hr:=h4
   rw[←rR] at hr
   simp only[right,ae,decide_eq_true_eq] at hr
   exact nr ts _ (fun x hx=>ht x (by simp[hx])) (oq t 4 l (by omega) hr.1 hr.2 hl) u hu
theorem vk{ts:List Term}(h:∀t∈ts,isTerm t=true):∀u∈jq ts,isTerm u=true:=by
 rw[mV h]
 exact nr ts [] h (by simp)
theorem tW{cs:List Int}{i:Nat}{v:Int}(h:i<cs.length):(aM cs).set i [.val (.int .i64 v)]=aM (cs.set i v):=by
 simp[aM,List.map_set]
structure Fit(aP:List Term)(l:fB):Prop where
 wf:bW l.atom=true
 sum:l.atom.kind=2→∀t∈l.atom.aP,t∈aP
 eq:l.atom.kind=1→(l.atom.A∈aP↔l.atom.B∈aP)
theorem F9(k:Int):cC k≤2:=by unfold cC;split<;>(try split)<;>(try split)<;>omega
theorem jy{k:Int}{l:fB}{ks:List Form}(h:dM k l ks=true):ks.length≤2:=by
 simp only[dM,ae,decide_eq_true_eq] at h
 have:=F9 k
 omega
mutual
theorem lZ:∀(f:Form)(d:Nat),d≤5→(aL f d=true→dD f (6-d)=bL f d)∧(aL f d=false→11≤dD f (6-d))
 | .mk k l ks,0,_=>by simp[aL,dD]
 | .mk k l ks,d+1,hd=>by
   obtain⟨h1,h2⟩:=ox ks d (by omega)
   have e:6-(d+1)+1=6-d:=by omega
   have e2:6-(d+1)≤5:=by omega
   simp only[aL,dD,bL,e,e2,decide_true,az]
   cases hn:dM k l ks
   ·simp
   ·simp only[az,if_true]
    exact⟨fun h=>by rw[h1 h],fun h=>by have:=h2 h;omega⟩
theorem ox:∀(ts:List Form)(d:Nat),d≤5→(bc ts d=true→cV ts (6-d)=bn ts d)∧(bc ts d=false→11≤cV ts (6-d))
 | [],_,_=>by simp[bc,cV,bn]
 | t::ts,d,hd=>by
   obtain⟨h1,h2⟩:=lZ t d hd
   obtain⟨h3,h4⟩:=ox ts d hd
   simp only[bc,cV,bn]
   cases ht:aL t d
   ·have:=h2 ht
    exact⟨fun h=>by simp at h,fun _=>by omega⟩
   ·cases hts:bc ts d
    ·have:=h4 hts
     exact⟨fun h=>by simp at h,fun _=>by omega⟩
    ·exact⟨fun _=>by rw[h1 ht,h3 hts],fun h=>by simp at h⟩
end
def AE(f:Form):Bool:=aL f 5&&(decide (bL f 5≤10)&&decide ((withAtoms [] f).length≤6))
theorem Ak(f:Form):AE f=dI f:=by
 have h:=lZ f 5 (by omega)
 simp only[show 6-5=1 from rfl] at h
 obtain⟨h1,h2⟩:=h
 unfold AE dI
 cases h:aL f 5
 ·have:=h2 h
  have:¬dD f 1≤10:=by omega
  simp[this]
 ·rw[←h1 h]
  simp
theorem fJ{f:Form}(h:dI f=true):aL f 5=true∧bL f 5≤10∧(withAtoms [] f).length≤6:=by
 rw[←Ak] at h
 simpa[AE] using h
theorem bx:∀{ts:List Form}{d:Nat},bc ts d=true→∀t∈ts,aL t d=true
 | [],_,_,t,ht=>by simp at ht
 | a::ts,d,h,t,ht=>by
   simp only[bc,ae] at h
   rcases aw.1 ht with rfl|ht
   ·exact h.1
   ·exact bx h.2 t ht
theorem cz{f:Form}{d:Nat}(h:aL f (d+1)=true):dM f.kind f.lit f.kids=true∧f.kids.length≤2∧bc f.kids d=true:=by
 cases f with
 | mk k l ks=>
   simp only[aL,ae] at h
   exact⟨h.1,jy h.1,h.2⟩
mutual
theorem gA:∀(f:Form)(d:Nat),aL f d=true→bL f d+1≤2 ^ d
 | .mk k l ks,0,h=>by simp[aL] at h
 | .mk k l ks,d+1,h=>by
   simp only[aL,ae] at h
   have:=jJ ks d h.2
   simp only[bL]
   have h3:ks.length*(2 ^ d-1)≤2*(2 ^ d-1):=aY _ (jy h.1)
   have h4:1≤2 ^ d:=bE
   rw[fc]
   omega
theorem jJ:∀(ts:List Form)(d:Nat),bc ts d=true→bn ts d≤ts.length*(2 ^ d-1)
 | [],_,_=>by simp[bn]
 | t::ts,d,h=>by
   simp only[bc,ae] at h
   have h1:=gA t d h.1
   have h2:=jJ ts d h.2
   simp only[bn,aq,br,Nat.one_mul]
   omega
end
mutual
theorem oU:∀(f:Form)(bj:Nat),1≤bj→bj≤6→dD f bj+12≤23*2 ^ (6-bj)
 | .mk k l ks,bj,h1,h5=>by
   simp only[dD]
   split
   ·rename_i h
    simp only[ae,decide_eq_true_eq] at h
    have:=lq ks (bj+1) (by omega) (by omega)
    have h3:ks.length*(23*2 ^ (6-(bj+1))-12)≤2*(23*2 ^ (6-(bj+1))-12):=aY _ (jy h.2)
    have e:6-bj=(6-(bj+1))+1:=by omega
    have h4:1≤2 ^ (6-(bj+1)):=bE
    rw[e,fc]
    omega
   ·have h4:1≤2 ^ (6-bj):=bE
    omega
theorem lq:∀(ts:List Form)(bj:Nat),1≤bj→bj≤6→cV ts bj≤ts.length*(23*2 ^ (6-bj)-12)
 | [],_,_,_=>by simp[cV]
 | t::ts,bj,h1,h5=>by
   have h2:=oU t bj h1 h5
   have h3:=lq ts bj h1 h5
   simp only[cV,aq,br,Nat.one_mul]
   omega
end
theorem kO:∀(ts:List Form)(l:List Atom),aH l ts=ts.foldl withAtoms l
 | [],_=>rfl
 | t::ts,l=>by simp only[aH,iY,kO ts]
theorem eV{ts:List Form}{i:Nat}(h:i<ts.length)(l:List Atom):aH l (ts.take (i+1))=withAtoms (aH l (ts.take i)) ts[i]:=by
 have e:ts.take (i+1)=ts.take i++[ts[i]]:=by rw[bu,ab h];rfl
 rw[e,kO,kO,jQ]
 rfl
theorem dH(l:List Atom)(f:Form):withAtoms l f=if f.kind=1 then(if bD l f.lit.atom<0 then l++[f.lit.atom] else l) else aH l f.kids:=by
 cases f;rfl
theorem sq{a:Atom}:∀{l:List Atom}{i:Int},0≤i→(0≤cL (fun b=>decide (a=b)) l i↔a∈l)
 | [],i,_=>by simp[cL]
 | x::xs,i,h=>by
   simp only[cL,decide_eq_true_eq,aw]
   split
   ·rename_i e
    simp[e,h]
   ·rename_i e
    rw[sq (l:=xs) (by omega)]
    simp[e]
theorem ib{l:List Atom}{a:Atom}:0≤bD l a↔a∈l:=sq (by omega)
theorem rK{a:Atom}:∀{l:List Atom}{i:Int},cL (fun b=>decide (a=b)) l i<i+l.length∨cL (fun b=>decide (a=b)) l i = -1
 | [],i=>by simp[cL]
 | x::xs,i=>by
   simp only[cL,aq]
   split
   ·left;omega
   ·rcases rK (a:=a) (l:=xs) (i:=i+1) with h|h
    ·left;omega
    ·right;exact h
theorem xe{l:List Atom}{a:Atom}(h:a∈l):(bD l a).toNat<l.length:=by
 have h1:=ib.2 h
 have h2:=rK (a:=a) (l:=l) (i:=0)
 simp only[bD,idxOf] at h1⊢
 omega
mutual
theorem vu:∀(f:Form)(l:List Atom),∀u∈l,u∈withAtoms l f
 | .mk k x ks,l,u,hu=>by
   simp only[withAtoms]
   split
   ·split
    ·exact da _ hu
    ·exact hu
   ·exact j8 ks l u hu
theorem j8:∀(ts:List Form)(l:List Atom),∀u∈l,u∈aH l ts
 | [],_,_,hu=>hu
 | t::ts,l,u,hu=>j8 ts _ u (vu t l u hu)
end
def inside(l:List Atom)(f:Form):Prop:=∀u∈withAtoms [] f,u∈l
mutual
theorem qo:∀(f:Form)(d:Nat)(l:List Atom),aL f d=true→(withAtoms l f).length≤l.length+bL f d
 | .mk k x ks,0,_,h=>by simp[aL] at h
 | .mk k x ks,d+1,l,h=>by
   simp only[aL,ae] at h
   simp only[withAtoms,bL]
   split
   ·split
    ·simp
    ·omega
   ·have:=jE ks d l h.2
    omega
theorem jE:∀(ts:List Form)(d:Nat)(l:List Atom),bc ts d=true→(aH l ts).length≤l.length+bn ts d
 | [],_,_,_=>by simp[aH,bn]
 | t::ts,d,l,h=>by
   simp only[bc,ae] at h
   have h1:=qo t d l h.1
   have h2:=jE ts d (withAtoms l t) h.2
   simp only[aH,bn]
   omega
end
theorem y0(l:List Atom)(f:Form)(h:f.kind=1):f.lit.atom∈withAtoms l f:=by
 rw[dH,if_pos h]
 split
 ·simp
 ·rename_i hx
  exact ib.1 (by omega)
mutual
theorem qC:∀(f:Form)(l l':List Atom),(∀u∈l,u∈l')→∀u∈withAtoms l f,u∈withAtoms l' f
 | .mk k x ks,l,l',h,u,hu=>by
   simp only[withAtoms] at hu⊢
   split at hu
   ·rename_i hk
    simp only[hk,if_true]
    have nH:∀v,v∈l'∨v=x.atom→v∈(if bD l' x.atom<0 then l'++[x.atom] else l'):=by
     intro v hv
     split
     ·rcases hv with hv|hv
      ·exact da _ hv
      ·simp[hv]
     ·rename_i hx
      rcases hv with hv|hv
      ·exact hv
      ·rw[hv];exact ib.1 (by omega)
    split at hu
    ·rcases aG.1 hu with hu|hu
     ·exact nH u (.inl (h u hu))
     ·exact nH u (.inr (by simpa using hu))
    ·exact nH u (.inl (h u hu))
   ·rename_i hk
    simp only[hk,if_false]
    exact oK ks l l' h u hu
theorem oK:∀(ts:List Form)(l l':List Atom),(∀u∈l,u∈l')→∀u∈aH l ts,u∈aH l' ts
 | [],_,_,h,u,hu=>h u hu
 | t::ts,l,l',h,u,hu=>oK ts _ _ (qC t l l' h) u hu
end
theorem lV:∀(ts:List Form)(l:List Atom),∀t∈ts,∀u∈withAtoms [] t,u∈aH l ts
 | [],_,t,ht,_,_=>by simp at ht
 | a::ts,l,t,ht,u,hu=>by
   rcases aw.1 ht with rfl|ht
   ·exact j8 ts _ u (qC t [] l (by simp) u hu)
   ·exact lV ts _ t ht u hu
theorem dA{l:List Atom}{f:Form}(h:inside l f)(hk:f.kind≠1):∀t∈f.kids,inside l t:=by
 intro t ht u hu
 apply h
 rw[dH,if_neg hk]
 exact lV f.kids [] t ht u hu
theorem rn{l:List Atom}{f:Form}(h:inside l f)(hk:f.kind=1):f.lit.atom∈l:=h _ (y0 [] f hk)
theorem qR{l:List Atom}{i:Nat}(h:i<l.length):plain (l.take (i+1))=plain (l.take i)++[⟨l[i],false⟩]:=by
 have e:l.take (i+1)=l.take i++[l[i]]:=by rw[bu,ab h];rfl
 simp only[plain,e,List.map_append,List.map_cons,List.map_nil]
theorem tP(l:List Atom):(plain l).length=l.length:=by simp[plain]
def Pc(as:List Rat):Bool:=as.all qv
def CU:List Rat→List Rat→Bool
 | a::as,b::bs=>if a=b then CU as bs else sr a b
 | _,_=>false
def LI(a b:Row):Bool:=if a.name=b.name then(if a.args.length=b.args.length then CU a.args b.args else decide (a.args.length<b.args.length)) else iE a.name b.name
def Jl:Option Row→List Row→Bool
 | _,[]=>true
 | p,r::rs=>L4 r&&((match p with|none=>true|some q=>LI q r)&&Jl (some r) rs)
def cut:List Row→Row→Nat
 | [],_=>0
 | r::rs,t=>if wV r t<0 then cut rs t+1 else 0
def gY(rs:List Row)(t:Row):Prop:=rs.Pairwise (fun a b=>wV b t<0→wV a t<0)
def found(rs:List Row)(t:Row):Bool:=match rs[cut rs t]? with|some r=>decide (wV r t=0)|none=>false
theorem DI{marks:List Int}{i:Nat}(h:i<marks.length)(many:Int) :
 oi (marks.take i) (marks.drop i) many=(dF marks[i] many&&(!((marks.take i).contains marks[i])&&(!((marks.take i).contains (-marks[i]))&&oi (marks.take (i+1)) (marks.drop (i+1)) many))):=by
 have e:marks.take (i+1)=marks.take i++[marks[i]]:=by rw[bu,ab h];rfl
 rw[List.drop_eq_getElem_cons h,e];rfl
theorem Hb{marks:List Int}{i:Nat}(h:marks.length≤i)(many:Int):oi (marks.take i) (marks.drop i) many=true:=by
 rw[List.drop_of_length_le h];rfl
def O5:List Int→Int→Int
 | [],_=>0
 | x::xs,n=>if x=n then 1 else if x = -n then -1 else O5 xs n
theorem ow{marks:List Int}{many:Nat}(h:ik marks many=true):∀m∈marks,m≠0 ∧ -(many:Int)≤m∧m≤many:=by
 have key:∀{ms before:List Int},oi before ms many=true→∀m∈ms,m≠0 ∧ -(many:Int)≤m∧m≤many:=by
  intro ms
  induction ms with
  | nil=>intro _ _ m hm;simp at hm
  | cons a ms ih=>
    intro before h m hm
    simp only[oi,ae] at h
    rcases aw.1 hm with rfl|hm
    ·have:=h.1
     simp only[dF,ae,decide_eq_true_eq,cF] at this
     exact this
    ·exact ih h.2.2.2 m hm
 exact key h
theorem rJ:∀(fs:List Form)(out:List Atom),r8 fs out=aH out fs
 | [],_=>rfl
 | f::fs,out=>by simp only[r8,aH,rJ fs]
theorem jZ:∀(fs:List Form)(l:List Atom),(∀f∈fs,dI f=true)→(aH l fs).length≤l.length+10*fs.length
 | [],l,_=>by simp[aH]
 | f::fs,l,h=>by
   have h0:=fJ (h f (by simp))
   have h1:=qo f 5 l h0.1
   have h2:=jZ fs (withAtoms l f) fun x hx=>h x (by simp[hx])
   simp only[aH,aq]
   omega
theorem iG(list:List Form):bS list=if list.length≤5∧list.all dI=true∧(aH [] list).length≤6 then some (aH [] list) else none:=by
 unfold bS
 rw[rJ]
 simp only[ae,decide_eq_true_eq]
theorem qb:∀{l:List Nat}(k:Nat),l.Pairwise (fun a b=>a≠b)→l.length≤(l.filter fun x=>decide (x≠k)).length+1
 | [],_,_=>by simp
 | a::l,k,h=>by
   obtain⟨h1,h2⟩:=bF.1 h
   rcases aa (a=k) with e|e
   ·have hf:(l.filter fun x=>decide (x≠k))=l:=List.filter_eq_self.2 fun x hx=>by
     have:=h1 x hx
     rw[e] at this
     simpa using fun hh=>this hh.symm
    rw[dg,if_neg (by simp[e]),hf,aq]
    exact Nat.le_refl _
   ·have ih:=qb k h2
    rw[dg,if_pos (by simp[e])]
    simp only[aq]
    omega
theorem AX:∀(k:Nat)(l:List Nat),l.Pairwise (fun a b=>a≠b)→(∀x∈l,x<k)→l.length≤k
 | 0,l,_,h=>by
   cases l with
   | nil=>simp
   | cons a l=>exact absurd (h a (by simp)) (by omega)
 | k+1,l,hp,h=>by
   have h1:=qb k hp
   have h2:=AX k (l.filter fun x=>decide (x≠k)) (hp.filter _) fun x hx=>by
    obtain⟨hx1,hx2⟩:=List.mem_filter.1 hx
    have:=h x hx1
    have:x≠k:=by simpa using hx2
    omega
   omega
theorem xY{many:Int}:∀{ms before:List Int},oi before ms many=true→ms.Pairwise (fun a b=>a≠b)∧∀m∈ms,m∉before
 | [],_,_=>⟨List.Pairwise.nil,fun m hm=>by simp at hm⟩
 | a::ms,before,h=>by
   simp only[oi,ae,Bool.not_eq_true'] at h
   obtain⟨i1,i2⟩:=xY h.2.2.2
   have ha:a∉before:=by
    intro nH
    have:=List.contains_iff_mem.2 nH
    rw[h.2.1] at this;cases this
   refine⟨bF.2 ⟨fun b hb e=>i2 b hb (by simp[e]),i1⟩,fun m hm=>?_⟩
   rcases aw.1 hm with rfl|hm
   ·exact ha
   ·exact fun hb=>i2 m hm (da _ hb)
end Go.Mod
