/-
  The data of the program as plain Lean types, and how they lie in memory, cell by cell. No program is walked here.
-/
import Derived.Test.YtabembjmeobhoaaGreatKDD
set_option linter.unusedVariables false
set_option linter.unusedSimpArgs false
open Bool renaming and_eq_true→al,false_eq_true→ax,true_and→aB
open Classical renaming em→aa,not_not→o0
open Int renaming gcd→bN,mul_assoc→nI
open List renaming drop_eq_getElem_cons→ae,getElem?_eq_getElem→ah,mem_cons→ay,mem_append→aP,length_append→aU,length_cons→a6,not_mem_nil→ba,mem_cons_of_mem→bh,append_assoc→bj,append_nil→bl,take_add_one→bq,cons_append→bB,mem_map→bG,all_cons→b9,getD→cr,nodup_cons→cI,all_eq_true→c5,take_succ_cons→dQ,length_nil→eJ,mem_of_find?_eq_some→e9,flatMap_cons→ja,getElem_cons_succ→jq,getElem?_cons_succ→lj,pairwise_cons→nZ
open Nat renaming mul_le_mul_right→bS,add_mul→cW,pow_le_pow_right→fE,add_assoc→iE,one_le_two_pow→jL
namespace Go.Mod
open Go.Eng
abbrev nz:=List UInt8
def bF(ns:List Int):List (List D):=ns.map fun n=>[.val (.int .i64 n)]
def YX(ns:List Bool):List (List D):=ns.map fun n=>[.val (.bool n)]
def ml(ns:List nz):List (List D):=ns.map fun n=>[.str n]
def Lc(ns:List (List Int)):List (List D):=ns.map fun n=>[.dt (bF n)]
theorem JZ(ns:List Int):(bF ns).length=ns.length:=by simp[bF]
theorem CM{ns:List Int}{i:Nat}(h:i<ns.length):row (bF ns) i=[.val (.int .i64 ns[i])]:=by simp[bF,row,cr,ah h]
theorem pr(ns:List Int):∀y∈bF ns,y.length=1:=by
 intro y hy
 rw[show bF ns=ns.map _ from rfl] at hy
 obtain⟨t,_,rfl⟩:=bG.1 hy
 rfl
theorem eK(ns ms:List Int):bF ns++bF ms=bF (ns++ms):=by simp[bF]
theorem ue:bF []=[]:=rfl
theorem jF(n:Int)(ns:List Int):bF (n::ns)=[.val (.int .i64 n)]::bF ns:=rfl
theorem TB(ns:List Bool):∀y∈YX ns,y.length=1:=by
 intro y hy
 rw[show YX ns=ns.map _ from rfl] at hy
 obtain⟨t,_,rfl⟩:=bG.1 hy
 rfl
theorem J1(ns:List nz):(ml ns).length=ns.length:=by simp[ml]
theorem Jf{ns:List nz}{i:Nat}(h:i<ns.length):row (ml ns) i=[.str ns[i]]:=by simp[ml,row,cr,ah h]
theorem Tt(ns ms:List nz):ml ns++ml ms=ml (ns++ms):=by simp[ml]
theorem TK:ml []=[]:=rfl
theorem QL(ns:List (List Int)):∀y∈Lc ns,y.length=1:=by
 intro y hy
 rw[show Lc ns=ns.map _ from rfl] at hy
 obtain⟨t,_,rfl⟩:=bG.1 hy
 rfl
inductive Term where
 | mk(name:nz)(kids:List Term)
def Term.name:Term→nz
 | .mk x _=>x
def Term.kids:Term→List Term
 | .mk _ x=>x
theorem Term.ind{P:Term→Prop}(h:∀name kids,(∀k∈kids,P k)→P (.mk name kids)):∀t,P t:=by
 intro t
 refine Term.rec (motive_1:=P) (motive_2:=fun ks=>∀k∈ks,P k) (fun name kids ih=>h name kids ih) (by simp) (fun t ts h1 h2=>?_) t
 intro k hk
 rcases ay.1 hk with rfl|hk
 ·exact h1
 ·exact h2 k hk
mutual
def aa6:Term→List D
 | .mk name kids=>[.str name,.dt (aN kids)]
def aN:List Term→List (List D)
 | []=>[]
 | t::ts=>aa6 t::aN ts
end
def cT(t:Term):List D:=[.str t.name,.dt (aN t.kids)]
theorem XF(t:Term):aa6 t=cT t:=by cases t;rfl
theorem kN:∀(ts:List Term),aN ts=ts.map cT
 | []=>rfl
 | t::ts=>by simp[aN,XF,kN ts]
theorem rA(ns:List Term):(aN ns).length=ns.length:=by simp[kN]
theorem CY{ns:List Term}{i:Nat}(h:i<ns.length):row (aN ns) i=cT ns[i]:=by simp[kN,row,cr,ah h]
theorem TG(ns:List Term):∀y∈aN ns,y.length=2:=by
 intro y hy
 rw[show aN ns=ns.map _ from kN ns] at hy
 obtain⟨t,_,rfl⟩:=bG.1 hy
 rfl
theorem Qo(ns:List Term)(i:Nat):(aN ns).take i=aN (ns.take i):=by simp[kN]
theorem kW(ns ms:List Term):aN ns++aN ms=aN (ns++ms):=by simp[kN]
theorem fX:aN []=[]:=rfl
theorem dC(n:Term)(ns:List Term):aN (n::ns)=cT n::aN ns:=by simp[kN]
theorem pU{ns:List Term}{i:Nat}(h:i<ns.length):aN (ns.take i)++[cT ns[i]]=aN (ns.take (i+1)):=by
 have e:ns.take (i+1)=ns.take i++[ns[i]]:=by rw[bq,ah h];rfl
 rw[e,←kW,dC,fX]
mutual
def Uy:Term→Term→Bool
 | .mk name1 kids1,.mk name2 kids2=>decide (name1=name2)&&zJ kids1 kids2
def zJ:List Term→List Term→Bool
 | [],[]=>true
 | x::xs,y::ys=>Uy x y&&zJ xs ys
 | _,_=>false
end
mutual
theorem Jv:∀(a b:Term),Uy a b=true↔a=b
 | .mk name1 kids1,.mk name2 kids2=>by simp[Uy,Hi]
theorem Hi:∀(a b:List Term),zJ a b=true↔a=b
 | [],[]=>by simp[zJ]
 | [],_::_=>by simp[zJ]
 | _::_,[]=>by simp[zJ]
 | x::xs,y::ys=>by simp[zJ,Jv x y,Hi xs ys]
end
instance:DecidableEq Term:=fun a b=>decidable_of_iff _ (Jv a b)
structure Sym where
 name:nz
 args:List Int
 sort:Int
 deriving DecidableEq
def wK(t:Sym):List D:=[.str t.name,.dt (bF t.args),.val (.int .i64 t.sort)]
def dY(l:List Sym):List (List D):=l.map wK
theorem MA(ns:List Sym):(dY ns).length=ns.length:=by simp[dY]
theorem D4{ns:List Sym}{i:Nat}(h:i<ns.length):row (dY ns) i=wK ns[i]:=by simp[dY,row,cr,ah h]
theorem td(ns ms:List Sym):dY ns++dY ms=dY (ns++ms):=by simp[dY]
structure dK where
 syms:List Sym
 deriving DecidableEq
def dV(t:dK):List D:=[.dt (dY t.syms)]
structure Atom where
 kind:Int
 A:Term
 B:Term
 nums:List Term
 times:List Int
 bound:Int
 strict:Bool
 deriving DecidableEq
def fT(t:Atom):List D:=[.val (.int .i64 t.kind),.str t.A.name,.dt (aN t.A.kids),.str t.B.name,.dt (aN t.B.kids),.dt (aN t.nums),.dt (bF t.times),.val (.int .i64 t.bound),.val (.bool t.strict)]
def Na(l:List Atom):List (List D):=l.map fT
theorem LH(ns:List Atom):∀y∈Na ns,y.length=9:=by
 intro y hy
 rw[show Na ns=ns.map _ from rfl] at hy
 obtain⟨t,_,rfl⟩:=bG.1 hy
 rfl
structure bm where
 atom:Atom
 no:Bool
 deriving DecidableEq
def nW(t:bm):List D:=[.val (.int .i64 t.atom.kind),.str t.atom.A.name,.dt (aN t.atom.A.kids),.str t.atom.B.name,.dt (aN t.atom.B.kids),.dt (aN t.atom.nums),.dt (bF t.atom.times),.val (.int .i64 t.atom.bound),.val (.bool t.atom.strict),.val (.bool t.no)]
def aV(l:List bm):List (List D):=l.map nW
theorem Dt(ns:List bm):(aV ns).length=ns.length:=by simp[aV]
theorem N6{ns:List bm}{i:Nat}(h:i<ns.length):row (aV ns) i=nW ns[i]:=by simp[aV,row,cr,ah h]
theorem Ds(ns:List bm):∀y∈aV ns,y.length=10:=by
 intro y hy
 rw[show aV ns=ns.map _ from rfl] at hy
 obtain⟨t,_,rfl⟩:=bG.1 hy
 rfl
theorem DW(ns ms:List bm):aV ns++aV ms=aV (ns++ms):=by simp[aV]
theorem tE:aV []=[]:=rfl
theorem m0(n:bm)(ns:List bm):aV (n::ns)=nW n::aV ns:=rfl
inductive jy where
 | mk(iL:Int)(n:Int)(t:Term)(kids:List jy)
def jy.iL:jy→Int
 | .mk x _ _ _=>x
def jy.n:jy→Int
 | .mk _ x _ _=>x
def jy.t:jy→Term
 | .mk _ _ x _=>x
def jy.kids:jy→List jy
 | .mk _ _ _ x=>x
theorem jy.ind{P:jy→Prop}(h:∀iL n t kids,(∀k∈kids,P k)→P (.mk iL n t kids)):∀t,P t:=by
 intro t
 refine jy.rec (motive_1:=P) (motive_2:=fun ks=>∀k∈ks,P k) (fun iL n t kids ih=>h iL n t kids ih) (by simp) (fun t ts h1 h2=>?_) t
 intro k hk
 rcases ay.1 hk with rfl|hk
 ·exact h1
 ·exact h2 k hk
mutual
def WH:jy→List D
 | .mk iL n t kids=>[.val (.int .i64 iL),.val (.int .i64 n),.str t.name,.dt (aN t.kids),.dt (eC kids)]
def eC:List jy→List (List D)
 | []=>[]
 | t::ts=>WH t::eC ts
end
def gQ(t:jy):List D:=[.val (.int .i64 t.iL),.val (.int .i64 t.n),.str t.t.name,.dt (aN t.t.kids),.dt (eC t.kids)]
theorem SC(t:jy):WH t=gQ t:=by cases t;rfl
theorem qt:∀(ts:List jy),eC ts=ts.map gQ
 | []=>rfl
 | t::ts=>by simp[eC,SC,qt ts]
theorem Ol(ns:List jy):(eC ns).length=ns.length:=by simp[qt]
theorem ML{ns:List jy}{i:Nat}(h:i<ns.length):row (eC ns) i=gQ ns[i]:=by simp[qt,row,cr,ah h]
theorem DU(ns ms:List jy):eC ns++eC ms=eC (ns++ms):=by simp[qt]
theorem lu:eC []=[]:=rfl
theorem ki(n:jy)(ns:List jy):eC (n::ns)=gQ n::eC ns:=by simp[qt]
mutual
def LY:jy→jy→Bool
 | .mk rule1 n1 t1 kids1,.mk rule2 n2 t2 kids2=>decide (rule1=rule2)&&decide (n1=n2)&&decide (t1=t2)&&rE kids1 kids2
def rE:List jy→List jy→Bool
 | [],[]=>true
 | x::xs,y::ys=>LY x y&&rE xs ys
 | _,_=>false
end
mutual
theorem DZ:∀(a b:jy),LY a b=true↔a=b
 | .mk rule1 n1 t1 kids1,.mk rule2 n2 t2 kids2=>by simp[LY,Cd,and_assoc]
theorem Cd:∀(a b:List jy),rE a b=true↔a=b
 | [],[]=>by simp[rE]
 | [],_::_=>by simp[rE]
 | _::_,[]=>by simp[rE]
 | x::xs,y::ys=>by simp[rE,DZ x y,Cd xs ys]
end
instance:DecidableEq jy:=fun a b=>decidable_of_iff _ (DZ a b)
inductive Case where
 | mk(kind:Int)(n:Int)(qk:jy)(times:List Int)(A:Term)(B:Term)(kids:List Case)
def Case.kind:Case→Int
 | .mk x _ _ _ _ _ _=>x
def Case.n:Case→Int
 | .mk _ x _ _ _ _ _=>x
def Case.qk:Case→jy
 | .mk _ _ x _ _ _ _=>x
def Case.times:Case→List Int
 | .mk _ _ _ x _ _ _=>x
def Case.A:Case→Term
 | .mk _ _ _ _ x _ _=>x
def Case.B:Case→Term
 | .mk _ _ _ _ _ x _=>x
def Case.kids:Case→List Case
 | .mk _ _ _ _ _ _ x=>x
theorem Case.ind{P:Case→Prop}(h:∀kind n qk times A B kids,(∀k∈kids,P k)→P (.mk kind n qk times A B kids)):∀t,P t:=by
 intro t
 refine Case.rec (motive_1:=P) (motive_2:=fun ks=>∀k∈ks,P k) (fun kind n qk times A B kids ih=>h kind n qk times A B kids ih) (by simp) (fun t ts h1 h2=>?_) t
 intro k hk
 rcases ay.1 hk with rfl|hk
 ·exact h1
 ·exact h2 k hk
mutual
def Ro:Case→List D
 | .mk kind n qk times A B kids=>[.val (.int .i64 kind),.val (.int .i64 n),.val (.int .i64 qk.iL),.val (.int .i64 qk.n),.str qk.t.name,.dt (aN qk.t.kids),.dt (eC qk.kids),.dt (bF times),.str A.name,.dt (aN A.kids),.str B.name,.dt (aN B.kids),.dt (fN kids)]
def fN:List Case→List (List D)
 | []=>[]
 | t::ts=>Ro t::fN ts
end
def gH(t:Case):List D:=[.val (.int .i64 t.kind),.val (.int .i64 t.n),.val (.int .i64 t.qk.iL),.val (.int .i64 t.qk.n),.str t.qk.t.name,.dt (aN t.qk.t.kids),.dt (eC t.qk.kids),.dt (bF t.times),.str t.A.name,.dt (aN t.A.kids),.str t.B.name,.dt (aN t.B.kids),.dt (fN t.kids)]
theorem Pj(t:Case):Ro t=gH t:=by cases t;rfl
theorem oJ:∀(ts:List Case),fN ts=ts.map gH
 | []=>rfl
 | t::ts=>by simp[fN,Pj,oJ ts]
theorem Mq(ns:List Case):(fN ns).length=ns.length:=by simp[oJ]
theorem LV{ns:List Case}{i:Nat}(h:i<ns.length):row (fN ns) i=gH ns[i]:=by simp[oJ,row,cr,ah h]
theorem B6(ns ms:List Case):fN ns++fN ms=fN (ns++ms):=by simp[oJ]
theorem oX:fN []=[]:=rfl
theorem pY(n:Case)(ns:List Case):fN (n::ns)=gH n::fN ns:=by simp[oJ]
mutual
def GV:Case→Case→Bool
 | .mk kind1 n1 why1 times1 A1 B1 kids1,.mk kind2 n2 why2 times2 A2 B2 kids2=>decide (kind1=kind2)&&decide (n1=n2)&&decide (why1=why2)&&decide (times1=times2)&&decide (A1=A2)&&decide (B1=B2)&&pE kids1 kids2
def pE:List Case→List Case→Bool
 | [],[]=>true
 | x::xs,y::ys=>GV x y&&pE xs ys
 | _,_=>false
end
mutual
theorem AO:∀(a b:Case),GV a b=true↔a=b
 | .mk kind1 n1 why1 times1 A1 B1 kids1,.mk kind2 n2 why2 times2 A2 B2 kids2=>by simp[GV,zp,and_assoc]
theorem zp:∀(a b:List Case),pE a b=true↔a=b
 | [],[]=>by simp[pE]
 | [],_::_=>by simp[pE]
 | _::_,[]=>by simp[pE]
 | x::xs,y::ys=>by simp[pE,AO x y,zp xs ys]
end
instance:DecidableEq Case:=fun a b=>decidable_of_iff _ (AO a b)
inductive Form where
 | mk(kind:Int)(lit:bm)(kids:List Form)
def Form.kind:Form→Int
 | .mk x _ _=>x
def Form.lit:Form→bm
 | .mk _ x _=>x
def Form.kids:Form→List Form
 | .mk _ _ x=>x
theorem Form.ind{P:Form→Prop}(h:∀kind lit kids,(∀k∈kids,P k)→P (.mk kind lit kids)):∀t,P t:=by
 intro t
 refine Form.rec (motive_1:=P) (motive_2:=fun ks=>∀k∈ks,P k) (fun kind lit kids ih=>h kind lit kids ih) (by simp) (fun t ts h1 h2=>?_) t
 intro k hk
 rcases ay.1 hk with rfl|hk
 ·exact h1
 ·exact h2 k hk
mutual
def Rq:Form→List D
 | .mk kind lit kids=>[.val (.int .i64 kind),.val (.int .i64 lit.atom.kind),.str lit.atom.A.name,.dt (aN lit.atom.A.kids),.str lit.atom.B.name,.dt (aN lit.atom.B.kids),.dt (aN lit.atom.nums),.dt (bF lit.atom.times),.val (.int .i64 lit.atom.bound),.val (.bool lit.atom.strict),.val (.bool lit.no),.dt (qG kids)]
def qG:List Form→List (List D)
 | []=>[]
 | t::ts=>Rq t::qG ts
end
def Ul(t:Form):List D:=[.val (.int .i64 t.kind),.val (.int .i64 t.lit.atom.kind),.str t.lit.atom.A.name,.dt (aN t.lit.atom.A.kids),.str t.lit.atom.B.name,.dt (aN t.lit.atom.B.kids),.dt (aN t.lit.atom.nums),.dt (bF t.lit.atom.times),.val (.int .i64 t.lit.atom.bound),.val (.bool t.lit.atom.strict),.val (.bool t.lit.no),.dt (qG t.kids)]
theorem OP(t:Form):Rq t=Ul t:=by cases t;rfl
theorem Bt:∀(ts:List Form),qG ts=ts.map Ul
 | []=>rfl
 | t::ts=>by simp[qG,OP,Bt ts]
theorem Ko(ns:List Form):∀y∈qG ns,y.length=12:=by
 intro y hy
 rw[show qG ns=ns.map _ from Bt ns] at hy
 obtain⟨t,_,rfl⟩:=bG.1 hy
 rfl
mutual
def HB:Form→Form→Bool
 | .mk kind1 lit1 kids1,.mk kind2 lit2 kids2=>decide (kind1=kind2)&&decide (lit1=lit2)&&pz kids1 kids2
def pz:List Form→List Form→Bool
 | [],[]=>true
 | x::xs,y::ys=>HB x y&&pz xs ys
 | _,_=>false
end
mutual
theorem Bz:∀(a b:Form),HB a b=true↔a=b
 | .mk kind1 lit1 kids1,.mk kind2 lit2 kids2=>by simp[HB,zj,and_assoc]
theorem zj:∀(a b:List Form),pz a b=true↔a=b
 | [],[]=>by simp[pz]
 | [],_::_=>by simp[pz]
 | _::_,[]=>by simp[pz]
 | x::xs,y::ys=>by simp[pz,Bz x y,zj xs ys]
end
instance:DecidableEq Form:=fun a b=>decidable_of_iff _ (Bz a b)
def Zc(ns:List (List Form)):List (List D):=ns.map fun n=>[.dt (qG n)]
structure Rat where
 N:Int
 D:Int
 deriving DecidableEq
def eU(t:Rat):List D:=[.val (.int .i64 t.N),.val (.int .i64 t.D)]
def bp(l:List Rat):List (List D):=l.map eU
theorem x6(ns:List Rat):(bp ns).length=ns.length:=by simp[bp]
theorem wZ{ns:List Rat}{i:Nat}(h:i<ns.length):row (bp ns) i=eU ns[i]:=by simp[bp,row,cr,ah h]
theorem NN(ns:List Rat):∀y∈bp ns,y.length=2:=by
 intro y hy
 rw[show bp ns=ns.map _ from rfl] at hy
 obtain⟨t,_,rfl⟩:=bG.1 hy
 rfl
theorem tf(ns ms:List Rat):bp ns++bp ms=bp (ns++ms):=by simp[bp]
theorem tD:bp []=[]:=rfl
theorem wm(n:Rat)(ns:List Rat):bp (n::ns)=eU n::bp ns:=rfl
structure Row where
 name:nz
 args:List Rat
 val:Rat
 deriving DecidableEq
def om(t:Row):List D:=[.str t.name,.dt (bp t.args),.val (.int .i64 t.val.N),.val (.int .i64 t.val.D)]
def bM(l:List Row):List (List D):=l.map om
theorem Ob(ns:List Row):(bM ns).length=ns.length:=by simp[bM]
theorem N4{ns:List Row}{i:Nat}(h:i<ns.length):row (bM ns) i=om ns[i]:=by simp[bM,row,cr,ah h]
theorem wY(ns:List Row):∀y∈bM ns,y.length=4:=by
 intro y hy
 rw[show bM ns=ns.map _ from rfl] at hy
 obtain⟨t,_,rfl⟩:=bG.1 hy
 rfl
theorem On:bM []=[]:=rfl
structure Model where
 rows:List Row
 deriving DecidableEq
def ez(t:Model):List D:=[.dt (bM t.rows)]
structure iV where
 aF:List Int
 bound:Int
 strict:Bool
 deriving DecidableEq
def eL(t:iV):List D:=[.dt (bF t.aF),.val (.int .i64 t.bound),.val (.bool t.strict)]
def di(l:List iV):List (List D):=l.map eL
theorem NB(ns:List iV):(di ns).length=ns.length:=by simp[di]
theorem Ni{ns:List iV}{i:Nat}(h:i<ns.length):row (di ns) i=eL ns[i]:=by simp[di,row,cr,ah h]
theorem Ng(ns:List iV):∀y∈di ns,y.length=3:=by
 intro y hy
 rw[show di ns=ns.map _ from rfl] at hy
 obtain⟨t,_,rfl⟩:=bG.1 hy
 rfl
theorem mD(ns ms:List iV):di ns++di ms=di (ns++ms):=by simp[di]
theorem lp:di []=[]:=rfl
theorem iD(n:iV)(ns:List iV):di (n::ns)=eL n::di ns:=rfl
structure fO where
 A:Term
 B:Term
 deriving DecidableEq
def Cl(t:fO):List D:=[.str t.A.name,.dt (aN t.A.kids),.str t.B.name,.dt (aN t.B.kids)]
def cO(l:List fO):List (List D):=l.map Cl
theorem QH(ns:List fO):(cO ns).length=ns.length:=by simp[cO]
theorem QW{ns:List fO}{i:Nat}(h:i<ns.length):row (cO ns) i=Cl ns[i]:=by simp[cO,row,cr,ah h]
theorem PF(ns:List fO):∀y∈cO ns,y.length=4:=by
 intro y hy
 rw[show cO ns=ns.map _ from rfl] at hy
 obtain⟨t,_,rfl⟩:=bG.1 hy
 rfl
theorem lC(ns ms:List fO):cO ns++cO ms=cO (ns++ms):=by simp[cO]
theorem jI:cO []=[]:=rfl
theorem ju(n:fO)(ns:List fO):cO (n::ns)=Cl n::cO ns:=rfl
structure Step where
 A:Int
 B:Int
 given:Int
 deriving DecidableEq
def RT(t:Step):List D:=[.val (.int .i64 t.A),.val (.int .i64 t.B),.val (.int .i64 t.given)]
def aY(l:List Step):List (List D):=l.map RT
theorem LU(ns:List Step):(aY ns).length=ns.length:=by simp[aY]
theorem Lw{ns:List Step}{i:Nat}(h:i<ns.length):row (aY ns) i=RT ns[i]:=by simp[aY,row,cr,ah h]
theorem Kr(ns:List Step):∀y∈aY ns,y.length=3:=by
 intro y hy
 rw[show aY ns=ns.map _ from rfl] at hy
 obtain⟨t,_,rfl⟩:=bG.1 hy
 rfl
theorem vi(ns ms:List Step):aY ns++aY ms=aY (ns++ms):=by simp[aY]
theorem ri:aY []=[]:=rfl
theorem tJ(n:Step)(ns:List Step):aY (n::ns)=RT n::aY ns:=rfl
structure Cnf where
 many:Int
 list:List (List Int)
 deriving DecidableEq
def abY(t:Cnf):List D:=[.val (.int .i64 t.many),.dt (Lc t.list)]
structure R3 where
 marks:List Int
 case:Case
 deriving DecidableEq
def VI(t:R3):List D:=[.dt (bF t.marks),.val (.int .i64 t.case.kind),.val (.int .i64 t.case.n),.val (.int .i64 t.case.qk.iL),.val (.int .i64 t.case.qk.n),.str t.case.qk.t.name,.dt (aN t.case.qk.t.kids),.dt (eC t.case.qk.kids),.dt (bF t.case.times),.str t.case.A.name,.dt (aN t.case.A.kids),.str t.case.B.name,.dt (aN t.case.B.kids),.dt (fN t.case.kids)]
def SI(l:List R3):List (List D):=l.map VI
structure aaR where
 lemmas:List R3
 log:List (List Int)
 deriving DecidableEq
def Zb(t:aaR):List D:=[.dt (SI t.lemmas),.dt (Lc t.log)]
structure Stack where
 sig:dK
 levels:List (List Form)
 deriving DecidableEq
def aar(t:Stack):List D:=[.dt (dY t.sig.syms),.dt (Zc t.levels)]
def av(cs:List D):PV:=.agg (cE cs)
theorem aaU(cs:List D):(av cs).lt 0=true:=by simp only[av,PV.lt];exact Uj 0 cs
attribute [go_sem] JZ J1 rA MA Dt Ol Mq x6 Ob NB QH LU
attribute [go_sem] CM Jf CY D4 N6 ML LV wZ N4 Ni QW Lw
attribute [go_sem] ue TK fX tE lu oX tD On lp jI ri
attribute [go_sem] av cT wK dV fT nW gQ gH Ul eU om ez eL Cl RT abY VI Zb aar Int.toNat_natCast
end Go.Mod
namespace Go.Eng
open Go.Mod
theorem sA{p q:Prop}(k:q)(h:p=q:=by simp -implicitDefEqProofs only[go_sem];exact rfl):p:=h▸k
theorem sB{p q:Prop}(k:q)(h:p=q:=by simp -implicitDefEqProofs only[go_sem,Int.reduceEq,Int.reduceLT,Int.reduceLE,Int.reduceToNat];exact rfl):p:=h▸k
theorem sC{p:Prop}(h:p:=by simp -implicitDefEqProofs only[go_sem]):p:=h
theorem sD{p:Prop}(h:p:=by simp -implicitDefEqProofs only[go_sem,Int.reduceEq,Int.reduceLT,Int.reduceLE,Int.reduceToNat]):p:=h
theorem iK{os:List Oper}{L:List Ky}{p:Prop}(hp:p)(h:KG os L=true:=by kernel_rfl):indep os L=true∧p:=⟨Cn h,hp⟩
theorem aC{m:Option (List Ky)}{gs:Option Nat}{d:Nat}{ty:TypeId}{pos:String}{eM:Array Edge}{gd:Option (Nat×Bool)}{E:Env}{g:G}{rest:qQ→Option (List Ky)→G→Prop}{nr:Operand}{xs:List Operand}{tys:Array TypeId}{f:FuncId}(cap:List PV){cR:List PV}{res:PV}{q:Prop}
 (hC:C E.P f cR [] (bz res [])) (k:q) (h:g.ev nr= .fn f cap∧FA (Te g xs++cap) cR∧tK 0 cR=true∧res.lt 0=true:=by simp -implicitDefEqProofs only[go_sem])
 (hr:rest .on (mw m (oo (uV gs ⟨dh nr++Cw xs,[]⟩) ⟨some (d,res),[]⟩)) (g.app ⟨some (d,res),[]⟩)=q:=by simp -implicitDefEqProofs only[go_sem];exact rfl):sR E m gs ⟨some d,.call ⟨.value nr,⟨xs⟩,tys⟩,ty,pos,eM,gd⟩ g rest:=
 bw cap hC h (hr▸k)
theorem aD{m:Option (List Ky)}{gs:Option Nat}{d:Nat}{ty:TypeId}{pos:String}{eM:Array Edge}{gd:Option (Nat×Bool)}{E:Env}{g:G}{rest:qQ→Option (List Ky)→G→Prop}{nr:Operand}{xs:List Operand}{tys:Array TypeId}{f:FuncId}(cap:List PV){cR:List PV}{res:PV}{q:Prop}
 (hC:C E.P f cR [] (bz res [])) (k:q) (h:g.ev nr= .fn f cap∧FA (Te g xs++cap) cR∧tK 0 cR=true∧res.lt 0=true:=by simp -implicitDefEqProofs only[go_sem,Int.reduceEq,Int.reduceLT,Int.reduceLE,Int.reduceToNat])
 (hr:rest .on (mw m (oo (uV gs ⟨dh nr++Cw xs,[]⟩) ⟨some (d,res),[]⟩)) (g.app ⟨some (d,res),[]⟩)=q:=by simp -implicitDefEqProofs only[go_sem,Int.reduceEq,Int.reduceLT,Int.reduceLE,Int.reduceToNat];exact rfl):sR E m gs ⟨some d,.call ⟨.value nr,⟨xs⟩,tys⟩,ty,pos,eM,gd⟩ g rest:=
 bw cap hC h (hr▸k)
theorem oC{m:Option (List Ky)}{gs:Option Nat}{d:Nat}{ty:TypeId}{pos:String}{eM:Array Edge}{gd:Option (Nat×Bool)}{E:Env}{g:G}{rest:qQ→Option (List Ky)→G→Prop}{nr:Operand}{xs:List Operand}{tys:Array TypeId}{f:FuncId}(cap:List PV)(M:List Nat){cR:List PV}{eX st':List (Option En)}{res:PV}{q:Prop}
 (hC:C E.P f cR eX (bz res st')) (k:q) (h:g.ev nr= .fn f cap∧FA (Te g xs++cap) (qO M cR)∧tK (lS eX) cR=true∧MT M=true∧yk (lS eX) (Ha M)=true∧yk (lS eX) (lS st')=true∧yk (lS st') (Ha M)=true∧od g M (lS eX) M eX∧iR g (lS eX) M:=by simp -implicitDefEqProofs only[go_sem])
 (hr:rest .on (mw m (oo (uV gs ⟨dh nr++Cw xs,M⟩) ⟨some (d,res.mc M),kO M M st'⟩)) (g.app ⟨some (d,res.mc M),kO M M st'⟩)=q:=by simp -implicitDefEqProofs only[go_sem];exact rfl):sR E m gs ⟨some d,.call ⟨.value nr,⟨xs⟩,tys⟩,ty,pos,eM,gd⟩ g rest:=
 gw cap M hC h (hr▸k)
theorem oD{m:Option (List Ky)}{gs:Option Nat}{d:Nat}{ty:TypeId}{pos:String}{eM:Array Edge}{gd:Option (Nat×Bool)}{E:Env}{g:G}{rest:qQ→Option (List Ky)→G→Prop}{nr:Operand}{xs:List Operand}{tys:Array TypeId}{f:FuncId}(cap:List PV)(M:List Nat){cR:List PV}{eX st':List (Option En)}{res:PV}{q:Prop}
 (hC:C E.P f cR eX (bz res st')) (k:q) (h:g.ev nr= .fn f cap∧FA (Te g xs++cap) (qO M cR)∧tK (lS eX) cR=true∧MT M=true∧yk (lS eX) (Ha M)=true∧yk (lS eX) (lS st')=true∧yk (lS st') (Ha M)=true∧od g M (lS eX) M eX∧iR g (lS eX) M:=by simp -implicitDefEqProofs only[go_sem,Int.reduceEq,Int.reduceLT,Int.reduceLE,Int.reduceToNat])
 (hr:rest .on (mw m (oo (uV gs ⟨dh nr++Cw xs,M⟩) ⟨some (d,res.mc M),kO M M st'⟩)) (g.app ⟨some (d,res.mc M),kO M M st'⟩)=q:=by simp -implicitDefEqProofs only[go_sem,Int.reduceEq,Int.reduceLT,Int.reduceLE,Int.reduceToNat];exact rfl):sR E m gs ⟨some d,.call ⟨.value nr,⟨xs⟩,tys⟩,ty,pos,eM,gd⟩ g rest:=
 gw cap M hC h (hr▸k)
theorem gS{E:Env}(hm:E.P.follows .mixedOrders=true){f:FuncId}{fn:Func}{c:Code}{args:List PV}{eX:List (Option En)}{R:PV→List (Option En)→Prop}{nt:Nat}{rs:List ResultVar}{L q:Prop}(hf:E.P.funcs[f]?=some fn)(k:L→BF eX→LB=1099511627776→q)
 (hb : fn.body = some c := by rfl) (hname : (fn.name == "runtime.NumGoroutine") = false := by rfl) (hnt : fn.ntmps = nt := by rfl) (hrs : fn.results.toList = rs := by rfl) (hn : yk (xY args) nt = true := by rfl)
 (e1:qL args=L:=by simp -implicitDefEqProofs only[go_sem];exact rfl) (e2:Mt E (lS eX) c .on ⟨dx nt .undef (VA 0 args),eX⟩ (fun _=>Qt (z7 E rs (lS eX) R))=q:=by simp -implicitDefEqProofs only[go_sem];exact rfl):C E.P f args eX R:=
 lQ hm hf hb hname hnt hrs hn fun h1 h2=>e2▸k (e1▸h1) h2 rfl
theorem gT{E:Env}(hm:E.P.follows .mixedOrders=true){f:FuncId}{fn:Func}{c:Code}{args:List PV}{eX:List (Option En)}{R:PV→List (Option En)→Prop}{nt:Nat}{rs:List ResultVar}{L q:Prop}(hf:E.P.funcs[f]?=some fn)(k:L→BF eX→LB=1099511627776→q)
 (hb : fn.body = some c := by rfl) (hname : (fn.name == "runtime.NumGoroutine") = false := by rfl) (hnt : fn.ntmps = nt := by rfl) (hrs : fn.results.toList = rs := by rfl) (hn : yk (xY args) nt = true := by rfl)
 (e1:qL args=L:=by simp -implicitDefEqProofs only[go_sem,Int.reduceEq,Int.reduceLT,Int.reduceLE,Int.reduceToNat];exact rfl) (e2:Mt E (lS eX) c .on ⟨dx nt .undef (VA 0 args),eX⟩ (fun _=>Qt (z7 E rs (lS eX) R))=q:=by simp -implicitDefEqProofs only[go_sem,Int.reduceEq,Int.reduceLT,Int.reduceLE,Int.reduceToNat];exact rfl):C E.P f args eX R:=
 lQ hm hf hb hname hnt hrs hn fun h1 h2=>e2▸k (e1▸h1) h2 rfl
theorem sO{p:Prop}(h:p:=by first|(with_reducible exact Cn (by kernel_rfl))|omega|assumption|exact⟨TG _,by omega⟩|exact⟨pr _,by omega⟩|exact⟨Ds _,by omega⟩|exact⟨Ng _,by omega⟩|exact⟨PF _,by omega⟩|rfl|(simp[*];done)|(simp;omega)|exact⟨NN _,by omega⟩|exact⟨LH _,by omega⟩|exact⟨TB _,by omega⟩|exact⟨Ko _,by omega⟩|exact⟨QL _,by omega⟩):p:=h
theorem sV{p:Prop}(h:p:=by(simp -implicitDefEqProofs only[go_sem,Int.reduceEq,Int.reduceLT,Int.reduceLE,Int.reduceToNat];repeat'(first|exact iH.nil|apply iH.cons|exact Vw.same (by first|rfl|simp -implicitDefEqProofs only[go_sem,Int.reduceEq,Int.reduceLT,Int.reduceLE,Int.reduceToNat])|exact Vw.acc rfl rfl|exact Vw.fk rfl rfl (by simp -implicitDefEqProofs only[go_sem,Int.reduceEq,Int.reduceLT,Int.reduceLE,Int.reduceToNat])|exact Vw.nil|apply Vw.agg|apply Vw.fn|refine Vw.box rfl rfl ?_))):p:=h
structure Hd(q:Prop):Prop where k:q
theorem sQ{p q:Prop}(k:q)(h:Hd q→p:=by intro k;(repeat(with_reducible apply And.intro;exact sO));exact k.k):p:=h ⟨k⟩
theorem sI{p q:Prop}(k:q)(h:Hd q→p:=by intro k;(try with_reducible refine iK ?_);exact k.k):p:=h ⟨k⟩
theorem sJ{p q:Prop}(k:q)(h:Hd q→p:=by intro k;(try with_reducible refine iK ?_);(repeat(with_reducible apply And.intro;exact sO));exact k.k):p:=h ⟨k⟩
theorem sL{p:Prop}(h:p:=by show _ < _;omega):p:=h
theorem sK{p q:Prop}(k:q)(h:Hd q→p:=by intro k;(repeat(first|with_reducible refine Gi (by kernel_rfl) ?_|(with_reducible apply And.intro;exact sO)));exact k.k):p:=h ⟨k⟩
theorem sW{p q:Prop}(k:q)(h:Hd q→p:=by intro k;(try with_reducible refine Gi (by kernel_rfl) ?_);exact k.k):p:=h ⟨k⟩
theorem sM{p:Prop}(h:p:=by first|(simp[aI, *];done)|(simp[aI];done)|(simp;omega)):p:=h
theorem uA{p q:Prop}(k:q)(h:p=q:=by simp -implicitDefEqProofs only[go_sem,h1];exact rfl):p:=h▸k
theorem uB{p q:Prop}(k:q)(h:p=q:=by simp -implicitDefEqProofs only[go_sem,h2];exact rfl):p:=h▸k
theorem uC{p q:Prop}(k:q)(h:p=q:=by simp -implicitDefEqProofs only[go_sem,h3];exact rfl):p:=h▸k
theorem uD{p q:Prop}(k:q)(h:p=q:=by simp -implicitDefEqProofs only[go_sem,h4];exact rfl):p:=h▸k
theorem uE{p q:Prop}(k:q)(h:p=q:=by simp -implicitDefEqProofs only[go_sem,h5];exact rfl):p:=h▸k
theorem uF{p q:Prop}(k:q)(h:p=q:=by simp -implicitDefEqProofs only[go_sem,h];exact rfl):p:=h▸k
theorem uG{p q:Prop}(k:q)(h:p=q:=by simp -implicitDefEqProofs only[go_sem,k];exact rfl):p:=h▸k
theorem uH{p q:Prop}(k:q)(h:p=q:=by simp -implicitDefEqProofs only[go_sem,k0];exact rfl):p:=h▸k
theorem uI{p q:Prop}(k:q)(h:p=q:=by simp -implicitDefEqProofs only[go_sem,g1];exact rfl):p:=h▸k
theorem uJ{p q:Prop}(k:q)(h:p=q:=by simp -implicitDefEqProofs only[go_sem,h1,h2];exact rfl):p:=h▸k
theorem uK{p q:Prop}(k:q)(h:p=q:=by simp -implicitDefEqProofs only[go_sem,Option.isSome_none,Option.getD_none];exact rfl):p:=h▸k
theorem uL{p q:Prop}(k:q)(h:p=q:=by simp -implicitDefEqProofs only[go_sem,Option.isSome_some,Option.getD_some];exact rfl):p:=h▸k
theorem yA{p q:Prop}(k:q)(h:p=q:=by simp -implicitDefEqProofs only[go_sem,Int.reduceEq,Int.reduceLT,Int.reduceLE,Int.reduceToNat,h1];exact rfl):p:=h▸k
theorem yB{p q:Prop}(k:q)(h:p=q:=by simp -implicitDefEqProofs only[go_sem,Int.reduceEq,Int.reduceLT,Int.reduceLE,Int.reduceToNat,h2];exact rfl):p:=h▸k
theorem yC{p q:Prop}(k:q)(h:p=q:=by simp -implicitDefEqProofs only[go_sem,Int.reduceEq,Int.reduceLT,Int.reduceLE,Int.reduceToNat,h3];exact rfl):p:=h▸k
theorem yD{p q:Prop}(k:q)(h:p=q:=by simp -implicitDefEqProofs only[go_sem,Int.reduceEq,Int.reduceLT,Int.reduceLE,Int.reduceToNat,h4];exact rfl):p:=h▸k
theorem yE{p q:Prop}(k:q)(h:p=q:=by simp -implicitDefEqProofs only[go_sem,Int.reduceEq,Int.reduceLT,Int.reduceLE,Int.reduceToNat,h5];exact rfl):p:=h▸k
theorem yF{p q:Prop}(k:q)(h:p=q:=by simp -implicitDefEqProofs only[go_sem,Int.reduceEq,Int.reduceLT,Int.reduceLE,Int.reduceToNat,h];exact rfl):p:=h▸k
theorem yG{p q:Prop}(k:q)(h:p=q:=by simp -implicitDefEqProofs only[go_sem,Int.reduceEq,Int.reduceLT,Int.reduceLE,Int.reduceToNat,k];exact rfl):p:=h▸k
theorem yH{p q:Prop}(k:q)(h:p=q:=by simp -implicitDefEqProofs only[go_sem,Int.reduceEq,Int.reduceLT,Int.reduceLE,Int.reduceToNat,k0];exact rfl):p:=h▸k
theorem yI{p q:Prop}(k:q)(h:p=q:=by simp -implicitDefEqProofs only[go_sem,Int.reduceEq,Int.reduceLT,Int.reduceLE,Int.reduceToNat,g1];exact rfl):p:=h▸k
theorem yJ{p q:Prop}(k:q)(h:p=q:=by simp -implicitDefEqProofs only[go_sem,Int.reduceEq,Int.reduceLT,Int.reduceLE,Int.reduceToNat,h1,h2];exact rfl):p:=h▸k
end Go.Eng
namespace Go.Mod
open Go.Eng
def within(n lo hi:Int):Bool:=decide (lo≤n)&&decide (n≤hi)
theorem dj{n lo hi:Int}:within n lo hi=true↔lo≤n∧n≤hi:=by simp[within]
def gh{α:Type}(p:α→Bool):List α→Int→Int
 | [],_=>-1
 | x::xs,i=>if p x then i else gh p xs (i+1)
def idxOf{α:Type}(p:α→Bool)(xs:List α):Int:=gh p xs 0
def bX(a:Rat):Bool:=within a.N (-1000000000) 1000000000&&(within a.D 1 1000000000&&decide ((bN a.N a.D:Int)=1))
def jE:Rat:=⟨0,0⟩
def il(n d:Int):Rat×Bool:=
 if d=0 then(jE,false) else
 let n1:=if d<0 then -n else n
 let d1:=if d<0 then -d else d
 let a:Rat:=⟨n1.tdiv (bN n1 d1),d1.tdiv (bN n1 d1)⟩
 if bX a then(a,true) else(jE,false)
def lr(n d:Int):Rat×Bool:=if within n (-1000000000) 1000000000&&within d (-1000000000) 1000000000 then il n d else(jE,false)
def db(a b:Rat):Rat×Bool:=if bX a&&bX b then il (a.N*b.D+b.N*a.D) (a.D*b.D) else(jE,false)
def cC(a b:Rat):Rat×Bool:=if bX a&&bX b then il (a.N*b.N) (a.D*b.D) else(jE,false)
def cY(a b:Rat):Bool:=bX a&&(bX b&&decide (a.N*b.D<b.N*a.D))
def qX(a b:Rat):Rat×Bool:=if(db a b).2 then cC (db a b).1 ⟨1,2⟩ else(jE,false)
def np(n:Int):Bool:=within n (-1000000) 1000000
def eu(l:iV):Bool:=l.aF.all np&&(decide (l.aF.length=4)&&np l.bound)
def m8:iV:=⟨[],0,false⟩
def rO(l:iV):iV:=if eu l then⟨l.aF.map fun c=>-c,-l.bound,!l.strict⟩ else m8
def comb(m n:Int):List Int→List Int→List Int
 | a::as,b::bs=>(m*a+n*b)::comb m n as bs
 | _,_=>[]
def jW(a:iV)(m:Int)(b:iV)(n:Int):iV:=⟨comb m n a.aF b.aF,m*a.bound+n*b.bound,(decide (0<m)&&a.strict)||(decide (0<n)&&b.strict)⟩
def jO(a:iV)(m:Int)(b:iV)(n:Int):iV×Bool:=if eu (jW a m b n) then(jW a m b n,true) else(m8,false)
def eV(a:iV)(m:Int)(b:iV)(n:Int):iV×Bool:=if eu a&&eu b&&within m 0 1000000&&within n 0 1000000 then jO a m b n else(m8,false)
def flat(l:iV):Bool:=l.aF.all fun c=>decide (c=0)
def kv(l:iV):Bool:=eu l&&(flat l&&(decide (l.bound<0)||(decide (l.bound=0)&&l.strict)))
def whole(n:Int):Rat:=⟨n,1⟩
def plus(sum:Rat)(c:Int)(val:Rat):Rat×Bool:=if(cC (whole c) val).2 then db sum (cC (whole c) val).1 else(jE,false)
def fP(list:List iV):Bool:=decide (list.length≤20)&&list.all eu
def wN:List iV→List Int→iV→iV×Bool
 | l::ls,t::ts,out=>if(eV out 1 l t).2 then wN ls ts (eV out 1 l t).1 else(m8,false)
 | _,_,out=>(out,true)
def jX(list:List iV)(times:List Int):iV×Bool:=if fP list&&decide (times.length=list.length) then wN list times ⟨[0,0,0,0],0,false⟩ else(m8,false)
def sa(list:List iV)(times:List Int):Bool:=(jX list times).2&&kv (jX list times).1
def iT(c:UInt8):Bool:=decide ((97:Int)≤(c.toNat:Int))&&decide ((c.toNat:Int)≤122)
def fC(s:nz):Bool:=within s.length 1 2&&s.all iT
def isSort(n:Int):Bool:=decide (n=0)||decide (n=1)
def n9(x:Sym):Bool:=fC x.name&&(decide (x.args.length≤2)&&(isSort x.sort&&x.args.all isSort))
def gy(a b:nz):Bool:=Op.bytesLess a b
def qZ:Option nz→List Sym→Bool
 | _,[]=>true
 | p,x::xs=>n9 x&&((match p with|none=>true|some q=>gy q x.name)&&qZ (some x.name) xs)
def fI(s:dK):Bool:=qZ none s.syms&&decide (s.syms.length≤7)
def symbol(s:dK)(name:nz):Option Sym:=s.syms.find? fun x=>decide (x.name=name)
def sX:Sym:=⟨[],[],0⟩
mutual
def kV:Term→Nat→Nat
 | .mk n ks,bD=>if fC n&&decide (ks.length≤2)&&decide (bD≤4) then 1+fw ks (bD+1) else 13
def fw:List Term→Nat→Nat
 | [],_=>0
 | t::ts,bD=>kV t bD+fw ts bD
end
def isTerm(t:Term):Bool:=decide (kV t 1≤12)
mutual
def bO:Term→Nat→Bool
 | _,0=>false
 | .mk n ks,d+1=>fC n&&(decide (ks.length≤2)&&cJ ks d)
def cJ:List Term→Nat→Bool
 | [],_=>true
 | t::ts,d=>bO t d&&cJ ts d
end
mutual
def many:Term→Nat→Nat
 | _,0=>1
 | .mk _ ks,d+1=>1+lP ks d
def lP:List Term→Nat→Nat
 | [],_=>0
 | t::ts,d=>many t d+lP ts d
end
mutual
def fR(s:dK):Term→Option Int
 | .mk n ks=>match symbol s n with
   | none=>none
   | some x=>if decide (x.args.length=ks.length)&&gD s ks x.args then some x.sort else none
def gD(s:dK):List Term→List Int→Bool
 | k::ks,a::as=>decide (fR s k=some a)&&gD s ks as
 | _,_=>true
end
def fv(s:dK)(t:Term):Option Int:=if fI s&&isTerm t then fR s t else none
def jY:List nz→nz
 | []=>[]
 | [t]=>t
 | t::ts=>t++(44::jY ts)
mutual
def aO:Term→nz
 | .mk n []=>n
 | .mk n (k::ks)=>n++(40::(jY (aO k::fY ks)++[41]))
def fY:List Term→List nz
 | []=>[]
 | t::ts=>aO t::fY ts
end
def bK(list:List Term)(t:Term):Int:=idxOf (fun u=>decide (t=u)) list
mutual
def de(list:List Term):Term→List Term
 | .mk n ks=>let l:=a7 list ks;if bK l (.mk n ks)<0 then l++[.mk n ks] else l
def a7(list:List Term):List Term→List Term
 | []=>list
 | t::ts=>a7 (de list t) ts
end
def mg:List Term→List Term→List Term
 | [],out=>out
 | t::ts,out=>if isTerm t then mg ts (de out t) else []
def iX(list:List Term):List Term:=mg list []
def qE(eqs:List fO):List Term:=eqs.flatMap fun e=>[e.A,e.B]
def gr(s:dK)(e:fO):Bool:=(fv s e.A).isSome&&decide (fv s e.A=fv s e.B)
def nE(s:dK)(eqs:List fO):Bool:=fI s&&decide (eqs.length≤12)&&eqs.all (gr s)&&decide ((iX (qE eqs)).length≤24)
def aM:Term:=.mk [] []
def isNone(t:Term):Bool:=decide (t.name=[])&&decide (t.kids=[])
def uN:fO:=⟨aM,aM⟩
def sU:jy:=.mk 0 0 aM []
def bR(eqs:List fO)(iL n:Int)(t:Term)(kids:List fO):fO×Bool:=
 if(iL≠2∧n≠0)∨(iL≠1∧iL≠5∧isNone t=false) then(uN,false) else
 if iL=1 then(⟨t,t⟩,decide (kids.length=0)&&isTerm t) else
 if iL=2 then(if 0<kids.length∨within n 0 (eqs.length-1)=false then(uN,false) else(eqs.getD n.toNat uN,true)) else
 if iL=3 then(if kids.length=1 then(⟨(kids.getD 0 uN).B,(kids.getD 0 uN).A⟩,true) else(uN,false)) else
 if iL=4 then(if kids.length=2∧(kids.getD 0 uN).B=(kids.getD 1 uN).A then(⟨(kids.getD 0 uN).A,(kids.getD 1 uN).B⟩,true) else(uN,false)) else
 if iL=5 then(if kids.length=0∨fC t.name=false∨0<t.kids.length then(uN,false) else
  (⟨.mk t.name (kids.map (·.A)),.mk t.name (kids.map (·.B))⟩,isTerm (.mk t.name (kids.map (·.A)))&&isTerm (.mk t.name (kids.map (·.B))))) else
 (uN,false)
mutual
def b7(f:Int→Int→Term→List fO→fO×Bool):jy→Nat→fO×Bool
 | _,0=>(uN,false)
 | .mk r n t ks,d+1=>match c7 f ks d with
   | none=>(uN,false)
   | some kids=>f r n t kids
def c7(f:Int→Int→Term→List fO→fO×Bool):List jy→Nat→Option (List fO)
 | [],_=>some []
 | w::ws,d=>if(b7 f w d).2 then(c7 f ws d).map fun es=>(b7 f w d).1::es else none
end
def lN(s:dK)(eqs:List fO)(w:jy):Option fO:=
 if nE s eqs&&((b7 (bR eqs) w 400).2&&nE s [(b7 (bR eqs) w 400).1]) then some (b7 (bR eqs) w 400).1 else none
def kZ:Option Term→List Term→List Int→Bool
 | p,t::ts,n::ns=>isTerm t&&(within n (-50) 50&&(decide (n≠0)&&((match p with|none=>true|some q=>gy (aO q) (aO t))&&kZ (some t) ts ns)))
 | _,_,_=>true
def cQ(a:Atom):Bool:=
 if a.kind=1 then isTerm a.A&&(isTerm a.B&&(decide (a.nums.length=0)&&(decide (a.times.length=0)&&(decide (a.bound=0)&& !a.strict)))) else
 if a.kind=2 then isNone a.A&&(isNone a.B&&(within a.nums.length 1 4&&(decide (a.times.length=a.nums.length)&&(within a.bound (-1000) 1000&&kZ none a.nums a.times)))) else false
def dw(s:dK)(t:Term):Bool:=decide (fv s t=some 1)
def fq(s:dK)(a:Atom):Bool:=fI s&&(cQ a&&(if a.kind=1 then gr s ⟨a.A,a.B⟩ else a.nums.all (dw s)))
def cf(a:Atom):List Term:=if a.kind=1 then [a.A,a.B] else a.nums
def aw(ab:List bm):List Term:=iX (ab.flatMap fun l=>cf l.atom)
def numsOf(s:dK)(ab:List bm):List Term:=(aw ab).filter (dw s)
def fe(s:dK)(ab:List bm):Bool:=fI s&&decide (ab.length≤6)&&ab.all (fun l=>fq s l.atom)&&decide ((aw ab).length≤24)&&decide ((numsOf s ab).length≤4)
def aZ(ab:List bm):List fO:=ab.filterMap fun l=>if l.atom.kind=1∧l.no=false then some ⟨l.atom.A,l.atom.B⟩ else none
def mL:List Int→Int→Int→List Int
 | [],_,_=>[]
 | c::cs,i,v=>if i=0 then(c+v)::cs else c::mL cs (i-1) v
def jU(nums:List Term):List Term→List Int→List Int→List Int
 | t::ts,n::ns,cs=>jU nums ts ns (mL cs (bK nums t) n)
 | _,_,cs=>cs
def mh(nums list:List Term)(times:List Int)(bound:Int)(strict:Bool):iV:=⟨jU nums list times [0,0,0,0],bound,strict⟩
def jP(nums:List Term)(l:bm):List iV:=
 if l.atom.kind=2 then [if l.no then rO (mh nums l.atom.nums l.atom.times l.atom.bound l.atom.strict) else mh nums l.atom.nums l.atom.times l.atom.bound l.atom.strict]
 else if l.no=false∧0≤bK nums l.atom.A then [mh nums [l.atom.A,l.atom.B] [1,-1] 0 false,mh nums [l.atom.A,l.atom.B] [-1,1] 0 false] else []
def dF(nums:List Term)(ab:List bm):List iV:=ab.flatMap (jP nums)
def zS(a b:Term):Atom:=⟨1,a,b,[],[],0,false⟩
def hU(a b:Term):bm:=⟨zS a b,false⟩
def eE(a b:Term):bm:=if gy (aO b) (aO a) then⟨⟨2,aM,aM,[b,a],[-1,1],0,true⟩,false⟩ else⟨⟨2,aM,aM,[a,b],[1,-1],0,true⟩,false⟩
def fS(a b:Term):List bm:=[hU a b,eE a b,eE b a]
def differ(nums:List Term)(a b:Term):Bool:=decide (0≤bK nums a)&&(decide (0≤bK nums b)&&decide (bK nums a≠bK nums b))
def bare(c:Case)(n qk times aq:Bool)(kids:Nat):Bool:=
 (n||decide (c.n=0))&&((qk||decide (c.qk=sU))&&((times||decide (c.times.length=0))&&((aq||(isNone c.A&&isNone c.B))&&decide (c.kids.length=kids))))
theorem mG:aM.name=[]:=rfl
theorem mN:aM.kids=[]:=rfl
theorem DY:uN.A=aM:=rfl
theorem Dy:uN.B=aM:=rfl
theorem J7:sX.name=[]:=rfl
theorem J8:sX.args=[]:=rfl
theorem I7:sX.sort=0:=rfl
theorem Gc:m8.aF=[]:=rfl
theorem Fq:m8.bound=0:=rfl
theorem Dq:m8.strict=false:=rfl
theorem Uv:jE.N=0:=rfl
theorem V1:jE.D=0:=rfl
theorem I8:sU.iL=0:=rfl
theorem UZ:sU.n=0:=rfl
theorem Vm:sU.t=aM:=rfl
theorem J5:sU.kids=[]:=rfl
attribute [simp] mG mN DY Dy J7 J8 I7 Gc Fq Dq Uv V1 I8 UZ Vm J5 fX ue jI lu
attribute [go_sem] mG mN DY Dy J7 J8 I7 Gc Fq Dq Uv V1 I8 UZ Vm J5
theorem Bi(n:nz)(ks:List Term):(Term.mk n ks).name=n:=rfl
theorem AN(n:nz)(ks:List Term):(Term.mk n ks).kids=ks:=rfl
attribute [simp] Bi AN
attribute [go_sem] Bi AN
def oE(a b:Rat):Int:=if cY a b then -1 else if cY b a then 1 else 0
def gW:List Rat→List Rat→Int
 | [],[]=>0
 | [],_::_=>-1
 | _::_,[]=>1
 | a::as,b::bs=>if oE a b=0 then gW as bs else oE a b
def nP(a b:nz):Int:=if gy a b then -1 else if gy b a then 1 else 0
def oA(a b:Int):Int:=if a<b then -1 else if b<a then 1 else 0
def fc(a b:Row):Int:=if nP a.name b.name≠0 then nP a.name b.name else if oA a.args.length b.args.length≠0 then oA a.args.length b.args.length else gW a.args b.args
def kR(r:Row):Bool:=fC r.name&&(decide (r.args.length≤2)&&(bX r.val&&r.args.all bX))
def vp:Option Row→List Row→Bool
 | _,[]=>true
 | p,r::rs=>kR r&&((match p with|none=>true|some q=>decide (fc q r<0))&&vp (some r) rs)
def fL(m:Model):Bool:=decide (m.rows.length≤40)&&vp none m.rows
def ra(a:Rat)(sort:Int):Bool:=decide (sort=1)||decide (a.D=1)
def jj:List Rat→List Int→Bool
 | a::as,n::ns=>ra a n&&jj as ns
 | _,_=>true
def jD(s:dK)(r:Row):Bool:=
 match symbol s r.name with
 | none=>false
 | some x=>decide (x.args.length=r.args.length)&&(ra r.val x.sort&&jj r.args x.args)
def fh(s:dK)(m:Model):Bool:=fI s&&(fL m&&m.rows.all (jD s))
def lookup(rows:List Row)(name:nz)(args:List Rat):Rat:=
 match rows.find? (fun r=>decide (r.name=name∧r.args=args)) with
 | some r=>r.val
 | none=>⟨0,1⟩
mutual
def value(m:Model):Term→Rat
 | .mk n ks=>lookup m.rows n (values m ks)
def values(m:Model):List Term→List Rat
 | []=>[]
 | t::ts=>value m t::values m ts
end
def qC(m:Model):List Term→List Int→Rat→Option Rat
 | t::ts,n::ns,sum=>if(plus sum n (value m t)).2 then qC m ts ns (plus sum n (value m t)).1 else none
 | _,_,sum=>some sum
def below(a:Rat)(bound:Int)(strict:Bool):Bool:=if strict then cY a (whole bound) else !cY (whole bound) a
def ov(m:Model)(a:Atom):Option Bool:=if a.kind=1 then some (decide (value m a.A=value m a.B)) else(qC m a.nums a.times (whole 0)).map fun x=>below x a.bound a.strict
def gO(s:dK)(m:Model)(l:bm):Option Bool:=if fh s m&&fq s l.atom then(ov m l.atom).map fun b=>b != l.no else none
mutual
def iP(s:dK)(nums:List Term):Case→List bm→Nat→Bool
 | .mk k n w ts a b ks,ab,bD=>
   if 14<bD then false else
   if k=1 then bare (.mk k n w ts a b ks) true true false false 0&&(within n 0 (ab.length-1)&&(match lN s (aZ ab) w,ab[n.toNat]? with
    | some e,some l=>l.no&&(decide (l.atom.kind=1)&&(decide (e.A=l.atom.A)&&decide (e.B=l.atom.B)))
    | _,_=>false)) else
   if k=2 then bare (.mk k n w ts a b ks) false false true false 0&&sa (dF nums ab) ts else
   if k=3 then bare (.mk k n w ts a b ks) false true false false 1&&(match lN s (aZ ab) w with
    | some e=>differ nums e.A e.B&&jl s nums ks [ab++[hU e.A e.B]] (bD+1)
    | none=>false) else
   if k=4 then bare (.mk k n w ts a b ks) false false false true 3&&(differ nums a b&&jl s nums ks ((fS a b).map fun l=>ab++[l]) (bD+1)) else
   false
def jl(s:dK)(nums:List Term):List Case→List (List bm)→Nat→Bool
 | c::cs,l::ls,bD=>iP s nums c l bD&&jl s nums cs ls bD
 | _,_,_=>true
end
def CC(s:dK)(ab:List bm)(c:Case):Bool:=fe s ab&&iP s (numsOf s ab) c ab 1
def Uf(kind:Int):Int:=if kind=1 then 0 else if kind=2 then 1 else if kind=3∨kind=4∨kind=5∨kind=6 then 2 else -1
def xh:Atom:=⟨0,aM,aM,[],[],0,false⟩
def ED:bm:=⟨xh,false⟩
def abg:Form:=.mk 0 ED []
def Xz(l:bm):Bool:=!l.no&&decide (l.atom=xh)
def Ou(k:Int)(l:bm)(ks:List Form):Bool:=decide (Uf k=ks.length)&&(if k=1 then cQ l.atom else Xz l)
mutual
def NV:Form→Nat→Nat
 | .mk k l ks,bD=>if decide (bD≤5)&&Ou k l ks then 1+Jc ks (bD+1) else 11
def Jc:List Form→Nat→Nat
 | [],_=>0
 | t::ts,bD=>NV t bD+Jc ts bD
end
mutual
def Tg:Form→Nat→Bool
 | _,0=>false
 | .mk k l ks,d+1=>Ou k l ks&&FH ks d
def FH:List Form→Nat→Bool
 | [],_=>true
 | t::ts,d=>Tg t d&&FH ts d
end
mutual
def UB:Form→Nat→Nat
 | _,0=>1
 | .mk _ _ ks,d+1=>1+JQ ks d
def JQ:List Form→Nat→Nat
 | [],_=>0
 | t::ts,d=>UB t d+JQ ts d
end
def Ly(list:List Atom)(a:Atom):Int:=idxOf (fun b=>decide (a=b)) list
mutual
def withAtoms(list:List Atom):Form→List Atom
 | .mk k l ks=>if k=1 then(if Ly list l.atom<0 then list++[l.atom] else list) else Ar list ks
def Ar(list:List Atom):List Form→List Atom
 | []=>list
 | t::ts=>Ar (withAtoms list t) ts
end
def Qi(f:Form):Bool:=decide (NV f 1≤10)&&decide ((withAtoms [] f).length≤6)
def plain(list:List Atom):List bm:=list.map fun a=>⟨a,false⟩
def ZM(s:dK)(f:Form):Bool:=Qi f&&fe s (plain (withAtoms [] f))
mutual
def holds(p:Atom→Bool):Form→Bool
 | .mk k l ks=>aai k l (T8 p ks) p
def T8(p:Atom→Bool):List Form→List Bool
 | []=>[]
 | t::ts=>holds p t::T8 p ts
def aai(k:Int)(l:bm)(is:List Bool)(p:Atom→Bool):Bool:=
 if k=1 then p l.atom != l.no else
 if k=2 then !(is.getD 0 false) else
 if k=3 then is.getD 0 false&&is.getD 1 false else
 if k=4 then is.getD 0 false||is.getD 1 false else
 if k=5 then !(is.getD 0 false)||is.getD 1 false else
 is.getD 0 false == is.getD 1 false
end
def Zd(f:Form)(aH:List Bool):Option Bool:=
 if Qi f&&decide ((withAtoms [] f).length=aH.length) then some (holds (fun a=>aH.getD (Ly (withAtoms [] f) a).toNat false) f) else none
def Wg(s:dK)(m:Model):List Atom→Option (List Bool)
 | []=>some []
 | a::as=>match gO s m ⟨a,false⟩ with
   | none=>none
   | some b=>match Wg s m as with
     | none=>none
     | some bs=>some (b::bs)
def Ti(s:dK)(m:Model)(f:Form):Option Bool:=
 if ZM s f then(match Wg s m (withAtoms [] f) with|none=>none|some aH=>Zd f aH) else none
def Kw:List Form→List Atom→List Atom
 | [],out=>out
 | f::fs,out=>Kw fs (withAtoms out f)
def zQ(list:List Form):Option (List Atom):=
 if decide (list.length≤5)&&(list.all Qi&&decide ((Kw list []).length≤6)) then some (Kw list []) else none
def RD(s:dK)(list:List Form):Bool:=match zQ list with|none=>false|some atoms=>fI s&&fe s (plain atoms)
def Zi(l many:Int):Bool:=decide (l≠0)&&within l (-many) many
def Y5:List Int→List Int→Int→Bool
 | _,[],_=>true
 | before,m::ms,many=>Zi m many&&(!(before.contains m)&&(!(before.contains (-m))&&Y5 (before++[m]) ms many))
def Nj(marks:List Int)(many:Nat):Bool:=Y5 [] marks many
def TU(marks:List Int)(atoms:List Atom):List bm:=marks.map fun m=>⟨atoms.getD (m.natAbs-1) xh,decide (m<0)⟩
def abx(s:dK)(list:List Form)(l:R3):Bool:=
 RD s list&&(decide (0<l.marks.length)&&(Nj l.marks ((zQ list).getD []).length&&CC s (TU l.marks ((zQ list).getD [])) l.case))
def aba(s:dK)(m:Model)(list:List Form):Bool:=RD s list&&(fh s m&&list.all fun f=>decide (Ti s m f=some true))
end Go.Mod
namespace Go.Proofs.YtabembjmeobhoaaGreat
open Go.Eng Go.Mod
set_option maxRecDepth 100000
theorem Nk{n:Int}:(if n < -n then -n else n)=(n.natAbs:Int):=by split<;>omega
end Go.Proofs.YtabembjmeobhoaaGreat
namespace Go.Mod
open Go.Eng
mutual
theorem tG:∀(t:Term)(d:Nat),d≤4→(bO t d=true→kV t (5-d)=many t d)∧(bO t d=false→13≤kV t (5-d))
 | .mk n ks,0,_=>by simp[bO,kV]
 | .mk n ks,d+1,hd=>by
   obtain⟨h1,h2⟩:=AM ks d (by omega)
   have e:5-(d+1)+1=5-d:=by omega
   have e2:5-(d+1)≤4:=by omega
   simp only[bO,kV,many,e,e2,decide_true,Bool.and_true]
   cases hn:fC n
   ·simp
   ·rcases aa (ks.length≤2) with hk|hk
    ·simp only[hk,decide_true,Bool.and_self,aB,if_true]
     exact⟨fun h=>by rw[h1 h],fun h=>by have:=h2 h;omega⟩
    ·simp[hk]
theorem AM:∀(ts:List Term)(d:Nat),d≤4→(cJ ts d=true→fw ts (5-d)=lP ts d)∧(cJ ts d=false→13≤fw ts (5-d))
 | [],_,_=>by simp[cJ,fw,lP]
 | t::ts,d,hd=>by
   obtain⟨h1,h2⟩:=tG t d hd
   obtain⟨h3,h4⟩:=AM ts d hd
   simp only[cJ,fw,lP]
   cases ht:bO t d
   ·have:=h2 ht
    exact⟨fun h=>by simp at h,fun _=>by omega⟩
   ·cases hts:cJ ts d
    ·have:=h4 hts
     exact⟨fun h=>by simp at h,fun _=>by omega⟩
    ·exact⟨fun _=>by rw[h1 ht,h3 hts],fun h=>by simp at h⟩
end
def right(t:Term):Bool:=bO t 4&&decide (many t 4≤12)
theorem BC(t:Term):right t=isTerm t:=by
 have h:=tG t 4 (by omega)
 simp only[show 5-4=1 from rfl] at h
 obtain⟨h1,h2⟩:=h
 unfold right isTerm
 cases h:bO t 4
 ·have:=h2 h
  simp only[Bool.false_and]
  symm
  simp only[decide_eq_false_iff_not]
  omega
 ·rw[←h1 h]
  simp
theorem gK{t:Term}(h:isTerm t=true):bO t 4=true:=by
 rw[←BC] at h
 simp only[right,al] at h
 exact h.1
mutual
theorem Cv:∀(t:Term)(d:Nat),bO t d=true→bO t (d+1)=true
 | .mk n ks,0,h=>by simp[bO] at h
 | .mk n ks,d+1,h=>by
   simp only[bO,al] at h⊢
   exact⟨h.1,h.2.1,FJ ks d h.2.2⟩
theorem FJ:∀(ts:List Term)(d:Nat),cJ ts d=true→cJ ts (d+1)=true
 | [],_,_=>by simp[cJ]
 | t::ts,d,h=>by
   simp only[cJ,al] at h⊢
   exact⟨Cv t d h.1,FJ ts d h.2⟩
end
theorem n7:∀{ts:List Term}{d:Nat},cJ ts d=true→∀t∈ts,bO t d=true
 | [],_,_,t,ht=>by simp at ht
 | a::ts,d,h,t,ht=>by
   simp only[cJ,al] at h
   rcases ay.1 ht with rfl|ht
   ·exact h.1
   ·exact n7 h.2 t ht
theorem og{t:Term}{d:Nat}(h:bO t (d+1)=true):fC t.name=true∧t.kids.length≤2∧cJ t.kids d=true:=by
 cases t with
 | mk n ks=>
   simp only[bO,al,decide_eq_true_eq] at h
   exact⟨h.1,h.2.1,h.2.2⟩
mutual
theorem L6:∀(t:Term)(d:Nat),bO t d=true→many t d+1≤2 ^ d
 | .mk n ks,0,h=>by simp[bO] at h
 | .mk n ks,d+1,h=>by
   simp only[bO,al,decide_eq_true_eq] at h
   have:=BR ks d h.2.2
   simp only[many]
   have h3:ks.length*(2 ^ d-1)≤2*(2 ^ d-1):=bS _ h.2.1
   have h4:1≤2 ^ d:=jL
   rw[Nat.pow_succ]
   omega
theorem BR:∀(ts:List Term)(d:Nat),cJ ts d=true→lP ts d≤ts.length*(2 ^ d-1)
 | [],_,_=>by simp[lP]
 | t::ts,d,h=>by
   simp only[cJ,al] at h
   have h1:=L6 t d h.1
   have h2:=BR ts d h.2
   simp only[lP,a6,cW,Nat.one_mul]
   omega
end
mutual
theorem DX:∀(t:Term)(bD:Nat),1≤bD→bD≤5→kV t bD+14≤27*2 ^ (5-bD)
 | .mk n ks,bD,h1,h5=>by
   simp only[kV]
   split
   ·rename_i h
    simp only[al,decide_eq_true_eq] at h
    have:=vl ks (bD+1) (by omega) (by omega)
    have h3:ks.length*(27*2 ^ (5-(bD+1))-14)≤2*(27*2 ^ (5-(bD+1))-14):=bS _ h.1.2
    have e:5-bD=(5-(bD+1))+1:=by omega
    have h4:1≤2 ^ (5-(bD+1)):=jL
    rw[e,Nat.pow_succ]
    omega
   ·have h4:1≤2 ^ (5-bD):=jL
    omega
theorem vl:∀(ts:List Term)(bD:Nat),1≤bD→bD≤5→fw ts bD≤ts.length*(27*2 ^ (5-bD)-14)
 | [],_,_,_=>by simp[fw]
 | t::ts,bD,h1,h5=>by
   have h2:=DX t bD h1 h5
   have h3:=vl ts bD h1 h5
   simp only[fw,a6,cW,Nat.one_mul]
   omega
end
theorem gn:∀(ts l:List Term),a7 l ts=ts.foldl de l
 | [],_=>rfl
 | t::ts,l=>by simp only[a7,List.foldl_cons,gn ts]
theorem qP{ts:List Term}{i:Nat}(h:i<ts.length)(l:List Term):a7 l (ts.take (i+1))=de (a7 l (ts.take i)) ts[i]:=by
 have e:ts.take (i+1)=ts.take i++[ts[i]]:=by rw[bq,ah h];rfl
 rw[e,gn,gn,List.foldl_append]
 rfl
theorem rq(l:List Term)(t:Term):de l t=if bK (a7 l t.kids) t<0 then a7 l t.kids++[t] else a7 l t.kids:=by
 cases t;rfl
mutual
theorem zd:∀(t:Term)(d:Nat)(l:List Term),bO t d=true→(de l t).length≤l.length+many t d
 | .mk n ks,0,l,h=>by simp[bO] at h
 | .mk n ks,d+1,l,h=>by
   simp only[bO,al] at h
   have:=sE ks d l h.2.2
   simp only[de,many]
   split
   ·simp only[aU,a6,eJ]
    omega
   ·omega
theorem sE:∀(ts:List Term)(d:Nat)(l:List Term),cJ ts d=true→(a7 l ts).length≤l.length+lP ts d
 | [],_,_,_=>by simp[a7]
 | t::ts,d,l,h=>by
   simp only[cJ,al] at h
   have h1:=zd t d l h.1
   have h2:=sE ts d (de l t) h.2
   simp only[a7,lP]
   omega
end
theorem ru:∀{ts:List Term}{d:Nat},cJ ts d=true→∀i,cJ (ts.take i) d=true
 | [],_,_,i=>by simp[cJ]
 | t::ts,d,h,0=>by simp[cJ]
 | t::ts,d,h,i+1=>by
   simp only[cJ,al,dQ] at h⊢
   exact⟨h.1,ru h.2 i⟩
theorem vT{t:Term}{d:Nat}{l:List Term}(h:bO t d=true)(hd:d≤4):(de l t).length≤l.length+15:=by
 have h1:=zd t d l h
 have h2:=L6 t d h
 have h3:2 ^ d≤2 ^ 4:=fE (by omega) hd
 omega
theorem y7{t:Term}{d:Nat}{l:List Term}(h:bO t (d+1)=true)(hd:d≤3)(i:Nat):(a7 l (t.kids.take i)).length≤l.length+14:=by
 obtain⟨_,h1,h2⟩:=og h
 have h3:=sE (t.kids.take i) d l (ru h2 i)
 have h4:=BR (t.kids.take i) d (ru h2 i)
 have h5:2 ^ d≤2 ^ 3:=fE (by omega) hd
 have h6:(t.kids.take i).length≤2:=by simp;omega
 have h7:(t.kids.take i).length*(2 ^ d-1)≤2*(2 ^ d-1):=bS _ h6
 omega
theorem GK{n:Int}:isSort n=true↔n=0∨n=1:=by simp[isSort]
theorem GU:∀{l:List Sym}{p:Option nz},qZ p l=true→∀x∈l,n9 x=true
 | [],_,_,x,hx=>by simp at hx
 | a::l,p,h,x,hx=>by
   simp only[qZ,al] at h
   rcases ay.1 hx with rfl|hx
   ·exact h.1
   ·exact GU h.2.2 x hx
theorem Kb{s:dK}{n:nz}{x:Sym}(hs:fI s=true)(h:symbol s n=some x):n9 x=true:=by
 simp only[fI,al] at hs
 exact GU hs.1 x (e9 h)
theorem Fs{x:Sym}(h:n9 x=true):isSort x.sort=true∧∀n∈x.args,isSort n=true:=by
 simp only[n9,al,c5] at h
 exact⟨h.2.2.1,h.2.2.2⟩
theorem MG{s:dK}{t:Term}{n:Int}(hs:fI s=true)(h:fR s t=some n):isSort n=true:=by
 cases t with
 | mk nm ks=>
   simp only[fR] at h
   cases hx:symbol s nm with
   | none=>rw[hx] at h;cases h
   | some x=>
     rw[hx] at h
     simp only at h
     split at h
     ·cases h
      exact(Fs (Kb hs hx)).1
     ·cases h
theorem yg:iT 40=false:=by decide
theorem yO:iT 41=false:=by decide
theorem yn:iT 44=false:=by decide
def Rc(r:nz):Prop:=∀c x,r=c::x→iT c=false
def OH(r:nz):Prop:=∀c x,r=c::x→iT c=false∧c≠40
theorem wh{c:UInt8}{x:nz}(h:iT c=false):Rc (c::x):=by
 intro c' x' e
 cases e
 exact h
theorem mJ{c:UInt8}{x:nz}(h:iT c=false)(h2:c≠40):OH (c::x):=by
 intro c' x' e
 cases e
 exact⟨h,h2⟩
theorem OH.n{r:nz}(h:OH r):Rc r:=fun c x e=>(h c x e).1
theorem qq:∀{a b r r':nz},a.all iT=true→b.all iT=true→Rc r→Rc r'→a++r=b++r'→a=b∧r=r'
 | [],[],r,r',_,_,_,_,h=>⟨rfl,by simpa using h⟩
 | [],c::b,r,r',_,hb,hr,_,h=>by
   simp only[b9,al] at hb
   have:=hr c (b++r') (by simpa using h)
   rw[this] at hb
   simp at hb
 | c::a,[],r,r',ha,_,_,hr',h=>by
   simp only[b9,al] at ha
   have:=hr' c (a++r) (by simpa using h.symm)
   rw[this] at ha
   simp at ha
 | c::a,d::b,r,r',ha,hb,hr,hr',h=>by
   simp only[b9,al] at ha hb
   simp only[bB,List.cons.injEq] at h
   obtain⟨h1,h2⟩:=qq ha.2 hb.2 hr hr' h.2
   exact⟨by rw[h.1,h1],h2⟩
theorem Hs{n:nz}(h:fC n=true):n.all iT=true:=by
 simp only[fC,al] at h
 exact h.2
mutual
theorem xI:∀(t u:Term)(d:Nat)(r r':nz),bO t d=true→bO u d=true→OH r→OH r'→aO t++r=aO u++r'→t=u∧r=r'
 | t,u,0,r,r',ht,_,_,_,_=>by simp[bO] at ht
 | .mk n ks,.mk m js,d+1,r,r',ht,hu,hr,hr',h=>by
   simp only[bO,al] at ht hu
   have hn:=Hs ht.1
   have hm:=Hs hu.1
   match ks,js,ht,hu,h with
   | [],[],ht,hu,h=>
     simp only[aO] at h
     obtain⟨h1,h2⟩:=qq hn hm hr.n hr'.n h
     exact⟨by rw[h1],h2⟩
   | [],k::js,ht,hu,h=>
     simp only[aO,bj,bB] at h
     obtain⟨h1,h2⟩:=qq hn hm hr.n (wh yg) h
     exact absurd rfl ((hr _ _ h2).2)
   | k::ks,[],ht,hu,h=>
     simp only[aO,bj,bB] at h
     obtain⟨h1,h2⟩:=qq hn hm (wh yg) hr'.n h
     exact absurd rfl ((hr' _ _ h2.symm).2)
   | k::ks,j::js,ht,hu,h=>
     simp only[aO,bj,bB] at h
     obtain⟨h1,h2⟩:=qq hn hm (wh yg) (wh yg) h
     simp only[List.cons.injEq,true_and] at h2
     obtain⟨h3,h4⟩:=JJ (k::ks) (j::js) d r r' ht.2.2 hu.2.2 (by simp) (by simp) (by simpa[fY] using h2)
     exact⟨by rw[h1,h3],h4⟩
theorem JJ:∀(ts us:List Term)(d:Nat)(r r':nz),cJ ts d=true→cJ us d=true→ts≠[]→us≠[]→jY (fY ts)++41::r=jY (fY us)++41::r'→ts=us∧r=r'
 | [],_,_,_,_,_,_,h,_,_=>absurd rfl h
 | _::_,[],_,_,_,_,_,_,h,_=>absurd rfl h
 | [t],[u],d,r,r',ht,hu,_,_,h=>by
   simp only[cJ,al] at ht hu
   simp only[fY,jY] at h
   obtain⟨h1,h2⟩:=xI t u d _ _ ht.1 hu.1 (mJ yO (by decide)) (mJ yO (by decide)) h
   simp only[List.cons.injEq,true_and] at h2
   exact⟨by rw[h1],h2⟩
 | [t],u::v::us,d,r,r',ht,hu,_,_,h=>by
   simp only[cJ,al] at ht hu
   simp only[fY,jY,bj,bB] at h
   obtain⟨h1,h2⟩:=xI t u d _ _ ht.1 hu.1 (mJ yO (by decide)) (mJ yn (by decide)) h
   simp at h2
 | t::w::ts,[u],d,r,r',ht,hu,_,_,h=>by
   simp only[cJ,al] at ht hu
   simp only[fY,jY,bj,bB] at h
   obtain⟨h1,h2⟩:=xI t u d _ _ ht.1 hu.1 (mJ yn (by decide)) (mJ yO (by decide)) h
   simp at h2
 | t::w::ts,u::v::us,d,r,r',ht,hu,_,_,h=>by
   simp only[cJ,al] at ht hu
   simp only[fY,jY,bj,bB] at h
   obtain⟨h1,h2⟩:=xI t u d _ _ ht.1 hu.1 (mJ yn (by decide)) (mJ yn (by decide)) h
   simp only[List.cons.injEq,true_and] at h2
   obtain⟨h3,h4⟩:=JJ (w::ts) (v::us) d r r' (by simp only[cJ,al];exact ht.2) (by simp only[cJ,al];exact hu.2) (by simp) (by simp) (by simpa[fY] using h2)
   exact⟨by rw[h1,h3],h4⟩
end
theorem Bh{t u:Term}(ht:isTerm t=true)(hu:isTerm u=true)(h:aO t=aO u):t=u:=
 (xI t u 4 [] [] (gK ht) (gK hu) (fun _ _ e=>by cases e) (fun _ _ e=>by cases e) (by rw[h])).1
mutual
theorem Hk:∀(t:Term)(d:Nat),bO t d=true→(aO t).length+6≤8*2 ^ d
 | t,0,h=>by simp[bO] at h
 | .mk n [],d+1,h=>by
   simp only[bO,al] at h
   have h1:n.length≤2:=by
    have:=h.1
    simp only[fC,al] at this
    have:=dj.1 this.1
    omega
   have h4:1≤2 ^ d:=jL
   simp only[aO,Nat.pow_succ]
   omega
 | .mk n (k::ks),d+1,h=>by
   simp only[bO,al,decide_eq_true_eq] at h
   have h1:n.length≤2:=by
    have:=h.1
    simp only[fC,al] at this
    have:=dj.1 this.1
    omega
   have h2:=Ke (k::ks) d h.2.2
   have h4:1≤2 ^ d:=jL
   simp only[fY] at h2
   simp only[aO,aU,a6,eJ,Nat.pow_succ]
   have h3:(k::ks).length*(8*2 ^ d-5)≤2*(8*2 ^ d-5):=bS _ h.2.1
   omega
theorem Ke:∀(ts:List Term)(d:Nat),cJ ts d=true→(jY (fY ts)).length≤ts.length*(8*2 ^ d-5)
 | [],_,_=>by simp[fY,jY]
 | [t],d,h=>by
   simp only[cJ,al] at h
   have:=Hk t d h.1
   simp only[fY,jY,a6,eJ]
   omega
 | t::u::ts,d,h=>by
   simp only[cJ,al] at h
   have h1:=Hk t d h.1
   have h2:=Ke (u::ts) d (by simp only[cJ,al];exact h.2)
   simp only[fY] at h2
   simp only[fY,jY,aU,a6] at h2⊢
   have e:(ts.length+1+1)*(8*2 ^ d-5)=(ts.length+1)*(8*2 ^ d-5)+(8*2 ^ d-5):=by rw[cW (ts.length+1) 1];omega
   rw[e]
   omega
end
theorem wi{t:Term}{d:Nat}(h:bO t d=true)(hd:d≤4):(aO t).length≤122:=by
 have h1:=Hk t d h
 have h2:2 ^ d≤2 ^ 4:=fE (by omega) hd
 omega
theorem Mw{α:Type}{p:α→Bool}:∀{xs:List α}{i:Int},0≤i→(0≤gh p xs i↔∃x∈xs,p x=true)
 | [],i,h=>by simp[gh]
 | x::xs,i,h=>by
   simp only[gh,ay,exists_eq_or_imp]
   split
   ·rename_i hx
    simp[hx,h]
   ·rename_i hx
    rw[Mw (by omega)]
    simp[hx]
theorem xl{α:Type}{p:α→Bool}:∀{xs:List α}{i:Int},0≤i→gh p xs i=if gh p xs 0<0 then -1 else gh p xs 0+i
 | [],i,h=>by simp[gh]
 | x::xs,i,h=>by
   simp only[gh]
   split
   ·simp
   ·rw[xl (i:=i+1) (by omega),xl (i:=0+1) (by omega)]
    rcases aa (gh p xs 0<0) with hc|hc
    ·simp[hc]
    ·simp only[hc,if_false]
     rw[if_neg (by omega)]
     omega
theorem Mv{α:Type}{p:α→Bool}:∀{xs:List α}{i:Int},gh p xs i<i+xs.length∨gh p xs i = -1
 | [],i=>by simp[gh]
 | x::xs,i=>by
   simp only[gh,a6]
   split
   ·left;omega
   ·rcases Mv (p:=p) (xs:=xs) (i:=i+1) with h|h
    ·left;omega
    ·right;exact h
theorem cV{l:List Term}{t:Term}:0≤bK l t↔t∈l:=by
 unfold bK idxOf
 rw[Mw (by omega)]
 simp
theorem nQ{l:List Term}{t:Term}(h:t∈l):(bK l t).toNat<l.length:=by
 have h1:=cV.2 h
 rcases Mv (p:=fun u=>decide (t=u)) (xs:=l) (i:=0) with h2|h2
 ·unfold bK idxOf at h1⊢
  omega
 ·unfold bK idxOf at h1
  omega
theorem jt{t:Term}:∀{l:List Term},t∈l→l[(bK l t).toNat]?=some t
 | [],h=>by simp at h
 | x::xs,h=>by
   unfold bK idxOf
   simp only[gh]
   rcases aa (t=x) with hx|hx
   ·simp[hx]
   ·have hm:t∈xs:=by simpa[hx] using h
    have h0:=cV.2 hm
    have ih:=jt hm
    unfold bK idxOf at ih h0
    simp only[hx,decide_false,ax,if_false]
    rw[xl (by omega),if_neg (by omega)]
    have e:(gh (fun u=>decide (t=u)) xs 0+(0+1)).toNat=(gh (fun u=>decide (t=u)) xs 0).toNat+1:=by omega
    rw[e,lj,ih]
theorem D3{l:List Term}{t u:Term}(ht:t∈l)(hu:u∈l)(h:bK l t=bK l u):t=u:=by
 have h1:=jt ht
 have h2:=jt hu
 rw[h,h2] at h1
 exact(Option.some.inj h1).symm
theorem vm{nums:List Term}{a b:Term}:differ nums a b=true↔a∈nums∧b∈nums∧a≠b:=by
 simp only[differ,al,decide_eq_true_eq,cV]
 constructor
 ·rintro⟨h1,h2,h3⟩
  exact⟨h1,h2,fun h=>h3 (by rw[h])⟩
 ·rintro⟨h1,h2,h3⟩
  exact⟨h1,h2,fun h=>h3 (D3 h1 h2 h)⟩
theorem uR:∀{cs:List Int}{i:Int}(v:Int),0≤i→mL cs i v=cs.set i.toNat (cs.getD i.toNat 0+v)
 | [],i,v,h=>by simp[mL]
 | c::cs,i,v,h=>by
   simp only[mL]
   rcases aa (i=0) with h0|h0
   ·subst h0;simp
   ·rw[if_neg h0,uR v (by omega)]
    have e:i.toNat=(i-1).toNat+1:=by omega
    rw[e]
    simp
theorem yM:∀{cs:List Int}{i v:Int},(mL cs i v).length=cs.length
 | [],i,v=>rfl
 | c::cs,i,v=>by
   simp only[mL]
   split
   ·simp
   ·simp[yM (cs:=cs)]
theorem Gq:∀{cs:List Int}{i k v w:Int},mL (mL cs i v) k w=mL (mL cs k w) i v
 | [],i,k,v,w=>rfl
 | c::cs,i,k,v,w=>by
   simp only[mL]
   rcases aa (i=0) with hi|hi
   ·rcases aa (k=0) with hk|hk
    ·simp only[hi,hk,if_true,mL]
     congr 1
     omega
    ·simp only[hi,hk,if_true,if_false,mL]
   ·rcases aa (k=0) with hk|hk
    ·simp only[hi,hk,if_true,if_false,mL]
    ·simp only[hi,hk,if_false,mL]
     rw[Gq (cs:=cs)]
def oe(nums:List Term):List Term→List Int→List Int→List Int
 | t::ts,n::ns,cs=>oe nums ts ns (cs.set (bK nums t).toNat n)
 | _,_,cs=>cs
theorem getD_set_ne{cs:List Int}{i k:Nat}{v:Int}(h:i≠k):(cs.set i v).getD k 0=cs.getD k 0:=by
 simp[cr,List.getElem?_set_ne h]
theorem OD{nums:List Term}:∀{ts:List Term}{ns cs:List Int},ts.Nodup→(∀t∈ts,t∈nums∧cs.getD (bK nums t).toNat 0=0)→oe nums ts ns cs=jU nums ts ns cs
 | [],_,_,_,_=>by simp[oe,jU]
 | _::_,[],_,_,_=>by simp[oe,jU]
 | t::ts,n::ns,cs,hd,h=>by
   simp only[oe,jU]
   have ht:=h t (by simp)
   rw[uR n (cV.2 ht.1),ht.2,Int.zero_add]
   refine OD (cI.1 hd).2 fun u hu=>?_
   have hu':=h u (by simp[hu])
   refine⟨hu'.1,?_⟩
   rw[getD_set_ne,hu'.2]
   intro e
   have h1:=cV.2 ht.1
   have h2:=cV.2 hu'.1
   have:t=u:=D3 ht.1 hu'.1 (by omega)
   subst this
   exact(cI.1 hd).1 hu
theorem UR(k:Nat):([0,0,0,0]:List Int).getD k 0=0:=by
 match k with
 | 0=>rfl
 | 1=>rfl
 | 2=>rfl
 | 3=>rfl
 | k+4=>rfl
theorem OO{n:Int}:np n=true ↔ -1000000≤n∧n≤1000000:=dj
theorem gv{l:iV}:eu l=true↔l.aF.length=4∧(∀c∈l.aF,-1000000≤c∧c≤1000000)∧(-1000000≤l.bound∧l.bound≤1000000):=by
 simp only[eu,al,c5,decide_eq_true_eq,OO]
 constructor
 ·rintro⟨h1,h2,h3⟩
  exact⟨h2,h1,h3⟩
 ·rintro⟨h1,h2,h3⟩
  exact⟨h2,h1,h3⟩
theorem dq{m b:Int}(h0:0≤m)(h1:m≤1000000)(h2:-1000000≤b∧b≤1000000):-1000000000000≤m*b∧m*b≤1000000000000:=by
 have a1:m*b≤m*1000000:=Int.mul_le_mul_of_nonneg_left h2.2 h0
 have a2:m*(-1000000)≤m*b:=Int.mul_le_mul_of_nonneg_left h2.1 h0
 omega
theorem kf:∀{m n:Int}{as bs:List Int},as.length=bs.length→(comb m n as bs).length=as.length
 | _,_,[],[],_=>rfl
 | _,_,[],_::_,h=>by simp at h
 | _,_,_::_,[],h=>by simp at h
 | m,n,a::as,b::bs,h=>by
   simp only[comb,a6]
   rw[kf (by simpa using h)]
theorem e6:∀{m n:Int}{as bs:List Int}{i:Nat}(h:i<as.length)(h':i<bs.length),comb m n (as.take (i+1)) (bs.take (i+1))=comb m n (as.take i) (bs.take i)++[m*as[i]+n*bs[i]]
 | _,_,[],_,i,h,_=>by simp at h
 | _,_,_::_,[],i,_,h=>by simp at h
 | m,n,a::as,b::bs,0,h,h'=>by simp[comb]
 | m,n,a::as,b::bs,i+1,h,h'=>by
   have:=e6 (m:=m) (n:=n) (as:=as) (bs:=bs) (i:=i) (by simpa using h) (by simpa using h')
   simp only[dQ,comb,bB,jq] at this⊢
   rw[this]
theorem pR{a b:iV}{m n:Int}(h1:eu a=true)(h2:eu b=true)(h3:within m 0 1000000=true)(h4:within n 0 1000000=true):eV a m b n=jO a m b n:=by simp[eV,h1,h2,h3,h4]
theorem F5{ls:List iV}{ts:List Int}{i:Nat}(h:i<ls.length)(h':i<ts.length)(out:iV):wN (ls.drop i) (ts.drop i) out=if(eV out 1 ls[i] ts[i]).2 then wN (ls.drop (i+1)) (ts.drop (i+1)) (eV out 1 ls[i] ts[i]).1 else(m8,false):=by
 rw[ae h,ae h',wN]
theorem pJ{α:Type}{xs:List α}{i:Nat}(h:i<xs.length):xs.take (i+1)=xs.take i++[xs[i]]:=by rw[bq,ah h];rfl
theorem qH(p:Option Term)(t:Term)(ts:List Term)(n:Int)(ns:List Int):kZ p (t::ts) (n::ns)=(isTerm t&&(within n (-50) 50&&(decide (n≠0)&&((match p with|none=>true|some q=>gy (aO q) (aO t))&&kZ (some t) ts ns)))):=rfl
theorem vI:∀{ts:List Term}{ns:List Int}{p:Option Term},kZ p ts ns=true→ns.length=ts.length→(∀t∈ts,isTerm t=true)∧(∀n∈ns,-50≤n∧n≤50)
 | [],[],_,_,_=>by simp
 | [],_::_,_,_,h=>by simp at h
 | _::_,[],_,_,h=>by simp at h
 | t::ts,n::ns,p,h,hl=>by
   rw[qH] at h
   simp only[al] at h
   obtain⟨h1,h2⟩:=vI h.2.2.2.2 (by simpa using hl)
   have h3:=dj.1 h.2.1
   refine⟨fun u hu=>?_,fun m hm=>?_⟩
   ·rcases ay.1 hu with rfl|hu
    ·exact h.1
    ·exact h1 u hu
   ·rcases ay.1 hm with rfl|hm
    ·exact h3
    ·exact h2 m hm
theorem mM{a:Atom}(h:cQ a=true)(k:a.kind=2):isNone a.A=true∧isNone a.B=true∧a.nums.length≤4∧a.times.length=a.nums.length∧(-1000≤a.bound∧a.bound≤1000)∧kZ none a.nums a.times=true:=by
 rw[cQ,if_neg (by omega),if_pos k] at h
 simp only[al,decide_eq_true_eq] at h
 have h3:=dj.1 h.2.2.1
 have h5:=dj.1 h.2.2.2.2.1
 exact⟨h.1,h.2.1,by omega,h.2.2.2.1,h5,h.2.2.2.2.2⟩
theorem mH{a:Atom}(h:cQ a=true):a.kind=1∨a.kind=2:=by
 rcases aa (a.kind=1) with k1|k1
 ·exact .inl k1
 ·rcases aa (a.kind=2) with k2|k2
  ·exact .inr k2
  ·simp[cQ,k1,k2] at h
theorem JW{a:Atom}(h:cQ a=true)(k:a.kind=1):isTerm a.A=true∧isTerm a.B=true:=by
 simp only[cQ,k,if_true,al] at h
 exact⟨h.1,h.2.1⟩
theorem mX{a:Atom}(h:cQ a=true):(cf a).length≤4∧∀t∈cf a,isTerm t=true:=by
 unfold cf
 rcases aa (a.kind=1) with k1|k1
 ·rw[if_pos k1]
  have:=JW h k1
  refine⟨by simp,fun t ht=>?_⟩
  simp only[ay,ba,or_false] at ht
  rcases ht with rfl|rfl
  ·exact this.1
  ·exact this.2
 ·rw[if_neg k1]
  have k2:a.kind=2:=(mH h).resolve_left k1
  have:=mM h k2
  exact⟨this.2.2.1,(vI this.2.2.2.2.2 this.2.2.2.1).1⟩
def eF(ab:List bm):List Term:=ab.flatMap fun l=>cf l.atom
theorem lD(ab:List bm):aw ab=iX (eF ab):=rfl
theorem tL{ab:List bm}{i:Nat}(h:i<ab.length):eF (ab.take (i+1))=eF (ab.take i)++cf ab[i].atom:=by
 rw[pJ h]
 simp only[eF,List.flatMap_append,ja,List.flatMap_nil,bl]
theorem iQ:∀{ab:List bm},(∀l∈ab,cQ l.atom=true)→(eF ab).length≤4*ab.length∧∀t∈eF ab,isTerm t=true
 | [],_=>by simp[eF]
 | l::ls,h=>by
   obtain⟨h1,h2⟩:=iQ (ab:=ls) fun x hx=>h x (by simp[hx])
   obtain⟨h3,h4⟩:=mX (h l (by simp))
   simp only[eF,ja,aU,a6,aP] at h1 h2⊢
   refine⟨by omega,fun t ht=>?_⟩
   rcases ht with ht|ht
   ·exact h4 t ht
   ·exact h2 t ht
theorem D2:∀{ts out:List Term},(∀t∈ts,isTerm t=true)→mg ts out=a7 out ts
 | [],_,_=>by simp[mg,a7]
 | t::ts,out,h=>by
   simp only[mg,a7,h t (by simp),if_true]
   exact D2 fun u hu=>h u (by simp[hu])
theorem kC{ts:List Term}(h:∀t∈ts,isTerm t=true):iX ts=a7 [] ts:=D2 h
mutual
theorem zo:∀(t:Term)(l:List Term),(∀u∈l,u∈de l t)∧t∈de l t
 | .mk n ks,l=>by
   have h:=rK ks l
   simp only[de]
   split
   ·exact⟨fun u hu=>by simp[h u hu],by simp⟩
   ·rename_i hx
    exact⟨h,cV.1 (by omega)⟩
theorem rK:∀(ts:List Term)(l:List Term),∀u∈l,u∈a7 l ts
 | [],l,u,h=>by simpa[a7] using h
 | t::ts,l,u,h=>by
   simp only[a7]
   exact rK ts _ u ((zo t l).1 u h)
end
theorem sy:∀(ts:List Term)(l:List Term),∀t∈ts,t∈a7 l ts
 | [],_,t,h=>by simp at h
 | a::ts,l,t,h=>by
   simp only[a7]
   rcases ay.1 h with rfl|h
   ·exact rK ts _ _ (zo _ l).2
   ·exact sy ts _ t h
mutual
theorem wC:∀(t:Term)(d:Nat)(l:List Term),d≤4→bO t d=true→many t d≤12→(∀u∈l,isTerm u=true)→∀u∈de l t,isTerm u=true
 | .mk n ks,0,l,_,h,_,_,u,_=>by simp[bO] at h
 | .mk n ks,d+1,l,hd,h,hm,hl,u,hu=>by
   have h':=h
   simp only[bO,al] at h'
   have hk:=ux ks d l (by omega) h'.2.2 (by simp only[many] at hm;omega) hl
   simp only[de] at hu
   split at hu
   ·simp only[aP,ay,ba,or_false] at hu
    rcases hu with hu|rfl
    ·exact hk u hu
    ·rw[←BC]
     have up:∀(k:Nat)(t:Term)(d:Nat),d+k≤4→bO t d=true→bO t (d+k)=true:=by
      intro k
      induction k with
      | zero=>intro t d _ h;exact h
      | succ k ih=>intro t d hk h;rw[←iE];exact Cv _ _ (ih t d (by omega) h)
     have s4:=up (4-(d+1)) _ (d+1) (by omega) h
     rw[show d+1+(4-(d+1))=4 by omega] at s4
     have m1:=(tG (.mk n ks) (d+1) hd).1 h
     have m2:=(tG (.mk n ks) 4 (by omega)).1 s4
     simp only[right,s4,aB,decide_eq_true_eq]
     have mm:∀(k:Nat)(t:Term)(d:Nat),d+k≤4→bO t d=true→many t (d+k)=many t d:=by
      intro k
      induction k with
      | zero=>intro t d _ _;rfl
      | succ k ih=>
        intro t d hk h
        have h1:=ih t d (by omega) h
        have:∀(d:Nat)(t:Term),bO t d=true→many t (d+1)=many t d:=by
         intro d
         induction d with
         | zero=>intro t h;cases t;simp[bO] at h
         | succ d ihd=>
           intro t h
           cases t with
           | mk n ks=>
             simp only[bO,al] at h
             have hs:∀(ks:List Term),cJ ks d=true→lP ks (d+1)=lP ks d:=by
              intro ks
              induction ks with
              | nil=>intro _;simp[lP]
              | cons a as iha=>
                intro h
                simp only[cJ,al] at h
                simp only[lP,ihd a h.1,iha h.2]
             simp only[many,hs ks h.2.2]
        rw[←iE,this (d+k) t (up k t d (by omega) h),h1]
     have:=mm (4-(d+1)) (.mk n ks) (d+1) (by omega) h
     rw[show d+1+(4-(d+1))=4 by omega] at this
     omega
   ·exact hk u hu
theorem ux:∀(ts:List Term)(d:Nat)(l:List Term),d≤4→cJ ts d=true→lP ts d≤12→(∀u∈l,isTerm u=true)→∀u∈a7 l ts,isTerm u=true
 | [],_,l,_,_,_,hl,u,hu=>hl u (by simpa[a7] using hu)
 | t::ts,d,l,hd,h,hm,hl,u,hu=>by
   simp only[cJ,al] at h
   simp only[lP] at hm
   simp only[a7] at hu
   exact ux ts d _ hd h.2 (by omega) (wC t d l hd h.1 (by omega) hl) u hu
end
theorem uS:∀(ts l:List Term),(∀t∈ts,isTerm t=true)→(∀u∈l,isTerm u=true)→∀u∈a7 l ts,isTerm u=true
 | [],l,_,hl,u,hu=>hl u (by simpa[a7] using hu)
 | t::ts,l,ht,hl,u,hu=>by
   simp only[a7] at hu
   have h4:=ht t (by simp)
   have hr:=h4
   rw[←BC] at hr
   simp only[right,al,decide_eq_true_eq] at hr
   exact uS ts _ (fun x hx=>ht x (by simp[hx])) (wC t 4 l (by omega) hr.1 hr.2 hl) u hu
theorem qM{ts:List Term}(h:∀t∈ts,isTerm t=true):∀u∈iX ts,isTerm u=true:=by
 rw[kC h]
 exact uS ts [] h (by simp)
theorem zD{ts:List Term}(h:∀t∈ts,isTerm t=true):∀t∈ts,t∈iX ts:=by
 rw[kC h]
 exact sy ts []
theorem HC{ab:List bm}{i:Nat}(h:i<ab.length):aZ (ab.take (i+1))=aZ (ab.take i)++(if ab[i].atom.kind=1∧ab[i].no=false then [⟨ab[i].atom.A,ab[i].atom.B⟩] else []):=by
 rw[pJ h]
 simp only[aZ,List.filterMap_append,List.filterMap_cons,List.filterMap_nil]
 split<;>simp_all
theorem JK(ab:List bm):(aZ ab).length≤ab.length:=by
 unfold aZ
 exact List.length_filterMap_le ..
theorem Fv{nums:List Term}:∀{ts:List Term}{ns cs:List Int}{i:Nat}(h:i<ts.length)(h':i<ns.length),jU nums (ts.take (i+1)) (ns.take (i+1)) cs=mL (jU nums (ts.take i) (ns.take i) cs) (bK nums ts[i]) ns[i]
 | [],_,_,_,h,_=>by simp at h
 | _::_,[],_,_,_,h=>by simp at h
 | t::ts,n::ns,cs,0,_,_=>by simp[jU]
 | t::ts,n::ns,cs,i+1,h,h'=>by
   simp only[dQ,jU,jq]
   exact Fv (by simpa using h) (by simpa using h')
theorem JF{nums:List Term}:∀{ts:List Term}{ns cs:List Int},(jU nums ts ns cs).length=cs.length
 | [],_,_=>by simp[jU]
 | _::_,[],_=>by simp[jU]
 | t::ts,n::ns,cs=>by simp only[jU];rw[JF,yM]
theorem Dv:∀{cs:List Int}{i v m k:Int},(∀c∈cs,-m≤c∧c≤m) → -k≤v→v≤k→0≤k→∀c∈mL cs i v,-(m+k)≤c∧c≤m+k
 | [],i,v,m,k,_,_,_,_,c,hc=>by simp[mL] at hc
 | a::cs,i,v,m,k,h,h1,h2,h3,c,hc=>by
   have ha:=h a (by simp)
   simp only[mL] at hc
   split at hc
   ·rcases ay.1 hc with rfl|hc
    ·omega
    ·have:=h c (by simp[hc]);omega
   ·rcases ay.1 hc with rfl|hc
    ·omega
    ·exact Dv (fun x hx=>h x (by simp[hx])) h1 h2 h3 c hc
theorem DV{nums:List Term}:∀{ts:List Term}{ns cs:List Int}{m:Int},(∀c∈cs,-m≤c∧c≤m)→(∀n∈ns,-50≤n∧n≤50)→0≤m→∀c∈jU nums ts ns cs,-(m+50*ts.length)≤c∧c≤m+50*ts.length
 | [],_,cs,m,h,_,_,c,hc=>by simp only[jU] at hc;have:=h c hc;simp;omega
 | _::_,[],cs,m,h,_,_,c,hc=>by simp only[jU] at hc;have:=h c hc;omega
 | t::ts,n::ns,cs,m,h,hn,hm,c,hc=>by
   simp only[jU] at hc
   have h1:=hn n (by simp)
   have:=DV (m:=m+50) (Dv h h1.1 h1.2 (by omega)) (fun x hx=>hn x (by simp[hx])) (by omega) c hc
   simp only[a6]
   omega
theorem Cr{cs:List Int}{i:Nat}{v:Int}(h:i<cs.length):(bF cs).set i [.val (.int .i64 v)]=bF (cs.set i v):=by
 simp[bF,List.map_set]
theorem Dx{nums:List Term}{ab:List bm}{i:Nat}(h:i<ab.length):dF nums (ab.take (i+1))=dF nums (ab.take i)++jP nums ab[i]:=by
 rw[pJ h]
 simp only[dF,List.flatMap_append,ja,List.flatMap_nil,bl]
theorem Og(nums:List Term)(l:bm):(jP nums l).length≤2:=by
 unfold jP
 split
 ·simp
 ·split<;>simp
theorem Av(nums:List Term):∀(ab:List bm),(dF nums ab).length≤2*ab.length
 | []=>by simp[dF]
 | l::ls=>by
   have h1:=Og nums l
   have h2:=Av nums ls
   simp only[dF,ja,aU,a6] at h2⊢
   omega
structure Fit(nums:List Term)(l:bm):Prop where
 wf:cQ l.atom=true
 sum:l.atom.kind=2→∀t∈l.atom.nums,t∈nums
 eq:l.atom.kind=1→(l.atom.A∈nums↔l.atom.B∈nums)
theorem UX(a b:UInt8):(a<b∧¬b<a∧a≠b)∨(a=b∧¬a<b∧¬b<a)∨(b<a∧¬a<b∧a≠b):=by
 simp only[UInt8.lt_iff_toNat_lt,ne_eq,←UInt8.toNat_inj]
 omega
theorem E7:∀(a b:List UInt8),(!(Op.bytesLess a b||decide (a=b)))=Op.bytesLess b a
 | [],[]=>by simp[Op.bytesLess]
 | [],_::_=>by simp[Op.bytesLess]
 | _::_,[]=>by simp[Op.bytesLess]
 | a::x,b::y=>by
   have ih:=E7 x y
   rcases UX a b with⟨h1,h2,h3⟩|⟨rfl,h1,h2⟩|⟨h1,h2,h3⟩
   ·have h4:¬b=a:=fun h=>h3 h.symm
    simp[Op.bytesLess,h1,h2,h4]
   ·simp[Op.bytesLess,h1,←ih]
   ·have h4:¬b=a:=fun h=>h3 h.symm
    simp[Op.bytesLess,h1,h2,h3]
theorem s5:∀(a:List UInt8),Op.bytesLess a a=false
 | []=>rfl
 | a::x=>by simp[Op.bytesLess,s5 x]
theorem v8:∀{a b c:List UInt8},Op.bytesLess a b=true→Op.bytesLess b c=true→Op.bytesLess a c=true
 | _,[],_,h,_=>by simp[Op.bytesLess] at h
 | _,_::_,[],_,h=>by simp[Op.bytesLess] at h
 | [],_::_,_::_,_,_=>by simp[Op.bytesLess]
 | a::x,b::y,c::z,h1,h2=>by
   simp only[Op.bytesLess,Bool.or_eq_true,decide_eq_true_eq,al,beq_iff_eq] at h1 h2⊢
   rcases h1 with h1|⟨rfl,h1⟩
   ·rcases h2 with h2|⟨rfl,h2⟩
    ·left
     rw[UInt8.lt_iff_toNat_lt] at *
     omega
    ·exact .inl h1
   ·rcases h2 with h2|⟨rfl,h2⟩
    ·exact .inl h2
    ·exact .inr ⟨rfl,v8 h1 h2⟩
theorem Lj{a b:List UInt8}(h:Op.bytesLess a b=true):a≠b:=by
 rintro rfl
 rw[s5] at h
 cases h
theorem zV{a b:List UInt8}(h:a≠b)(h2:Op.bytesLess a b=false):Op.bytesLess b a=true:=by
 rw[←E7 a b,h2]
 simp[h]
theorem Jj:∀{ts:List Term}{ns:List Int}{q:Term},kZ (some q) ts ns=true→ns.length=ts.length→∀t∈ts,gy (aO q) (aO t)=true
 | [],_,_,_,_=>by simp
 | _::_,[],_,_,hl=>by simp at hl
 | t::ts,n::ns,q,h,hl=>by
   rw[qH] at h
   simp only[al] at h
   intro u hu
   rcases ay.1 hu with rfl|hu
   ·exact h.2.2.2.1
   ·exact v8 h.2.2.2.1 (Jj h.2.2.2.2 (by simpa using hl) u hu)
theorem A7:∀{ts:List Term}{ns:List Int}{p:Option Term},kZ p ts ns=true→ns.length=ts.length→ts.Nodup
 | [],_,_,_,_=>by simp
 | _::_,[],_,_,hl=>by simp at hl
 | t::ts,n::ns,p,h,hl=>by
   rw[qH] at h
   simp only[al] at h
   have hl:ns.length=ts.length:=by simpa using hl
   refine cI.2 ⟨fun hm=>?_,A7 h.2.2.2.2 hl⟩
   exact Lj (Jj h.2.2.2.2 hl t hm) rfl
def ab7(eqs:List fO)(iL n:Int)(t:Term)(kids:List fO):fO×Bool:=
 if iL≠2∧n≠0 then(uN,false) else
 if iL=1∧kids.length=0 then(⟨t,t⟩,isTerm t) else
 if iL=2∧kids.length=0∧isNone t=true∧0≤n∧n<eqs.length then(eqs.getD n.toNat uN,true) else
 if iL=3∧kids.length=1∧isNone t=true then(⟨(kids.getD 0 uN).B,(kids.getD 0 uN).A⟩,true) else
 if iL=4∧kids.length=2∧isNone t=true then(⟨(kids.getD 0 uN).A,(kids.getD 1 uN).B⟩,decide ((kids.getD 0 uN).B=(kids.getD 1 uN).A)) else
 if iL=5∧0<kids.length∧t.kids.length=0 then(⟨.mk t.name (kids.map (·.A)),.mk t.name (kids.map (·.B))⟩,isTerm (.mk t.name (kids.map (·.A)))&&isTerm (.mk t.name (kids.map (·.B)))) else
 (uN,false)
def Alike(x y:fO×Bool):Prop:=x.2=y.2∧(x.2=true→x.1=y.1)
theorem MC{n:nz}{ks:List Term}(h:isTerm (.mk n ks)=true):fC n=true:=by
 have:=gK h
 simp only[bO,al] at this
 exact this.1
theorem JY{nums:List Term}:∀{ts:List Term}{ns cs:List Int},(oe nums ts ns cs).length=cs.length
 | [],_,_=>by simp[oe]
 | _::_,[],_=>by simp[oe]
 | t::ts,n::ns,cs=>by simp only[oe];rw[JY,List.length_set]
theorem Au{nums:List Term}:∀{ts:List Term}{ns cs:List Int}{i:Nat}(h:i<ts.length)(h':i<ns.length),oe nums (ts.take (i+1)) (ns.take (i+1)) cs=(oe nums (ts.take i) (ns.take i) cs).set (bK nums ts[i]).toNat ns[i]
 | [],_,_,_,h,_=>by simp at h
 | _::_,[],_,_,_,h=>by simp at h
 | t::ts,n::ns,cs,0,_,_=>by simp[oe]
 | t::ts,n::ns,cs,i+1,h,h'=>by
   simp only[dQ,oe,jq]
   exact Au (by simpa using h) (by simpa using h')
theorem S8{nums ts:List Term}{ns:List Int}{b:Int}{st:Bool}(hn:kZ none ts ns=true)(hl:ns.length=ts.length)(kG:∀t∈ts,t∈nums):mh nums ts ns b st=⟨oe nums ts ns [0,0,0,0],b,st⟩:=by
 rw[mh,OD (A7 hn hl) fun t ht=>⟨kG t ht,UR _⟩]
theorem Qp(nums:List Term)(a b:Term):mh nums [a,b] [-1,1] 0 false=mh nums [b,a] [1,-1] 0 false:=by
 simp only[mh,jU]
 rw[Gq]
theorem PS{nums:List Term}{a b:Term}(ha:a∈nums)(hb:b∈nums)(ta:isTerm a=true)(tb:isTerm b=true):Fit nums (hU a b):=by
 refine⟨?_,fun h=>?_,fun _=>?_⟩
 ·simp[cQ,hU,zS,ta,tb]
 ·simp[hU,zS] at h
 ·simp[hU,zS,ha,hb]
theorem RX{a b:Term}(ta:isTerm a=true)(tb:isTerm b=true)(h:gy (aO a) (aO b)=true)(m n:Int)(hm:within m (-50) 50=true)(hn:within n (-50) 50=true)(hm0:m≠0)(hn0:n≠0):cQ ⟨2,aM,aM,[a,b],[m,n],0,true⟩=true:=by
 have h2:kZ none [a,b] [m,n]=true:=by
  rw[qH,qH]
  have e:kZ (some b) [] []=true:=rfl
  simp[ta,tb,hm,hn,hm0,hn0,h,e]
 have e:cQ ⟨2,aM,aM,[a,b],[m,n],0,true⟩=(isNone aM&&(isNone aM&&(within ([a,b].length:Int) 1 4&&(decide ([m,n].length=[a,b].length)&&(within 0 (-1000) 1000&&kZ none [a,b] [m,n]))))):=rfl
 rw[e,h2]
 rfl
theorem GP{nums:List Term}{a b:Term}(ha:a∈nums)(hb:b∈nums)(ta:isTerm a=true)(tb:isTerm b=true)(jJ:a≠b):Fit nums (eE a b):=by
 have ht:aO a≠aO b:=fun h=>jJ (Bh ta tb h)
 unfold eE
 cases h:gy (aO b) (aO a)
 ·have h2:gy (aO a) (aO b)=true:=zV (a:=aO b) (b:=aO a) (fun e=>ht e.symm) h
  refine⟨RX ta tb h2 1 (-1) rfl rfl (by omega) (by omega),fun _ t hm=>?_,fun h=>?_⟩
  ·simp only[ax,if_false,ay,ba,or_false] at hm
   rcases hm with rfl|rfl
   ·exact ha
   ·exact hb
  ·simp at h
 ·refine⟨RX tb ta h (-1) 1 rfl rfl (by omega) (by omega),fun _ t hm=>?_,fun h=>?_⟩
  ·simp only[if_true,ay,ba,or_false] at hm
   rcases hm with rfl|rfl
   ·exact hb
   ·exact ha
  ·simp at h
theorem xk{s:dK}{ab:List bm}(h:fe s ab=true):(∀l∈ab,Fit (numsOf s ab) l)∧(∀t∈numsOf s ab,isTerm t=true)∧(numsOf s ab).length≤4∧ab.length≤6∧fI s=true∧(∀l∈ab,cQ l.atom=true)∧(∀t∈aw ab,isTerm t=true)∧(aw ab).length≤24:=by
 simp only[fe,al,decide_eq_true_eq,c5] at h
 obtain⟨⟨⟨⟨hs,h6⟩,hA⟩,h24⟩,h4⟩:=h
 have hw:∀l∈ab,cQ l.atom=true:=by
  intro l hl
  have:=hA l hl
  simp only[fq,al] at this
  exact this.2.1
 have eW:=(iQ hw).2
 have htt:∀t∈aw ab,isTerm t=true:=by rw[lD];exact qM eW
 have kG:∀l∈ab,∀t∈cf l.atom,t∈aw ab:=by
  intro l hl t ht
  rw[lD]
  exact zD eW t (List.mem_flatMap.2 ⟨l,hl,ht⟩)
 have hnum:∀t,t∈numsOf s ab↔t∈aw ab∧dw s t=true:=fun t=>List.mem_filter
 refine⟨fun l hl=>⟨hw l hl,fun k t ht=>?_,fun k=>?_⟩,fun t ht=>htt t ((hnum t).1 ht).1,h4,h6,hs,hw,htt,h24⟩
 ·have hk1:¬l.atom.kind=1:=by omega
  have ha:=hA l hl
  simp only[fq,al,hk1,if_false,c5] at ha
  have hm:t∈cf l.atom:=by simp only[cf,hk1,if_false];exact ht
  exact(hnum t).2 ⟨kG l hl t hm,ha.2.2 t ht⟩
 ·have ha:=hA l hl
  simp only[fq,al,k,if_true,gr,decide_eq_true_eq] at ha
  have hm:l.atom.A∈aw ab∧l.atom.B∈aw ab:=by
   have:cf l.atom=[l.atom.A,l.atom.B]:=by simp[cf,k]
   exact⟨kG l hl _ (by rw[this];simp),kG l hl _ (by rw[this];simp)⟩
  rw[hnum,hnum]
  simp only[hm.1,hm.2,true_and,dw,ha.2.2.2]
theorem rz(s:dK)(nums:List Term)(c:Case)(ab:List bm)(bD:Nat):iP s nums c ab bD =
 if 14<bD then false else
 if c.kind=1 then bare c true true false false 0&&(within c.n 0 (ab.length-1)&&(match lN s (aZ ab) c.qk,ab[c.n.toNat]? with
  | some e,some l=>l.no&&(decide (l.atom.kind=1)&&(decide (e.A=l.atom.A)&&decide (e.B=l.atom.B)))
  | _,_=>false)) else
 if c.kind=2 then bare c false false true false 0&&sa (dF nums ab) c.times else
 if c.kind=3 then bare c false true false false 1&&(match lN s (aZ ab) c.qk with
  | some e=>Mod.differ nums e.A e.B&&jl s nums c.kids [ab++[hU e.A e.B]] (bD+1)
  | none=>false) else
 if c.kind=4 then bare c false false false true 3&&(Mod.differ nums c.A c.B&&jl s nums c.kids ((fS c.A c.B).map fun l=>ab++[l]) (bD+1)) else
 false:=by
 cases c
 simp only[iP]
 rfl
theorem Th(s:dK)(nums:List Term)(c:Case)(cs:List Case)(l:List bm)(d:Nat)(h:cs=[c]):jl s nums cs [l] d=iP s nums c l d:=by
 rw[h]
 simp[jl]
theorem aao{α:Type}{l:List α}(h:l.length=1)(h0:0<l.length):l=[l[0]]:=by
 match l,h with
 | [a],_=>rfl
theorem n6{a:Rat}:bX a=true↔(-1000000000≤a.N∧a.N≤1000000000)∧(1≤a.D∧a.D≤1000000000)∧bN a.N a.D=1:=by
 simp only[bX,al,dj,decide_eq_true_eq]
 constructor
 ·rintro⟨h1,h2,h3⟩;exact⟨h1,h2,by omega⟩
 ·rintro⟨h1,h2,h3⟩;exact⟨h1,h2,by omega⟩
theorem Xy{a b:Rat}(h1:a.N=b.N)(h2:a.D=b.D):a=b:=by cases a;cases b;simp_all
theorem CH{a b:Rat}(ha:bX a=true)(hb:bX b=true)(h:a.N*b.D=b.N*a.D):a=b:=by
 rw[n6] at ha hb
 obtain⟨_,⟨a1,_⟩,ag⟩:=ha
 obtain⟨_,⟨b1,_⟩,bg⟩:=hb
 have hn:a.N.natAbs*b.D.natAbs=b.N.natAbs*a.D.natAbs:=by rw[←Int.natAbs_mul,←Int.natAbs_mul,h]
 have ca:Nat.Coprime a.D.natAbs a.N.natAbs:=by rw[Nat.Coprime,Nat.gcd_comm];exact ag
 have cb:Nat.Coprime b.D.natAbs b.N.natAbs:=by rw[Nat.Coprime,Nat.gcd_comm];exact bg
 have d1:a.D.natAbs∣b.D.natAbs:=ca.dvd_of_dvd_mul_left ⟨b.N.natAbs,by rw[hn,Nat.mul_comm]⟩
 have d2:b.D.natAbs∣a.D.natAbs:=cb.dvd_of_dvd_mul_left ⟨a.N.natAbs,by rw[←hn,Nat.mul_comm]⟩
 have e:a.D.natAbs=b.D.natAbs:=Nat.dvd_antisymm d1 d2
 have eD:a.D=b.D:=by omega
 refine Xy ?_ eD
 rw[eD] at h
 exact Int.eq_of_mul_eq_mul_right (by omega) h
theorem fB{a b:Rat}(ha:bX a=true)(hb:bX b=true):cY a b=true↔a.N*b.D<b.N*a.D:=by
 simp[cY,ha,hb]
theorem DP{a b:Rat}(ha:bX a=true)(hb:bX b=true):oE a b=0↔a=b:=by
 constructor
 ·intro h
  unfold oE at h
  split at h
  ·omega
  ·rename_i h1
   split at h
   ·omega
   ·rename_i h2
    rw[fB ha hb] at h1
    rw[fB hb ha] at h2
    exact CH ha hb (by omega)
 ·rintro rfl
  have:cY a a=false:=by
   cases h:cY a a
   ·rfl
   ·rw[fB ha ha] at h;omega
  simp[oE,this]
theorem QI{a b:Rat}:oE a b<0↔cY a b=true:=by
 unfold oE
 split
 ·rename_i h;simp[h]
 ·rename_i h
  split<;>simp_all
theorem I0{a b c:Rat}(ha:bX a=true)(hb:bX b=true)(hc:bX c=true)(h1:cY a b=true)(h2:cY b c=true):cY a c=true:=by
 rw[fB ha hb] at h1
 rw[fB hb hc] at h2
 rw[fB ha hc]
 rw[n6] at ha hb hc
 have e1:a.N*b.D*c.D<b.N*a.D*c.D:=Int.mul_lt_mul_of_pos_right h1 (by omega)
 have e2:b.N*c.D*a.D<c.N*b.D*a.D:=Int.mul_lt_mul_of_pos_right h2 (by omega)
 have e3:b.N*a.D*c.D=b.N*c.D*a.D:=by rw[nI,Int.mul_comm a.D,←nI]
 have e4:a.N*c.D*b.D<c.N*a.D*b.D:=by
  rw[nI,Int.mul_comm c.D,←nI,nI c.N,Int.mul_comm a.D,←nI]
  omega
 exact Int.lt_of_mul_lt_mul_right e4 (by omega)
def dI(as:List Rat):Bool:=as.all bX
theorem vG:∀{as bs:List Rat},dI as=true→dI bs=true→(gW as bs=0↔as=bs)
 | [],[],_,_=>by simp[gW]
 | [],b::bs,_,_=>by simp[gW]
 | a::as,[],_,_=>by simp[gW]
 | a::as,b::bs,ha,hb=>by
   simp only[dI,b9,al] at ha hb
   have h:=DP ha.1 hb.1
   have h2:=vG (as:=as) (bs:=bs) ha.2 hb.2
   simp only[gW]
   split
   ·rename_i e;rw[h2,List.cons.injEq,h.1 e];simp
   ·rename_i e
    constructor
    ·intro e2;exact absurd e2 e
    ·intro e2;rw[List.cons.injEq] at e2;exact absurd (h.2 e2.1) e
def gk:List Rat→List Rat→Bool
 | a::as,b::bs=>if a=b then gk as bs else cY a b
 | _,_=>false
def dv(a b:Row):Bool:=if a.name=b.name then(if a.args.length=b.args.length then gk a.args b.args else decide (a.args.length<b.args.length)) else gy a.name b.name
theorem DG:∀{as bs:List Rat},dI as=true→dI bs=true→as.length=bs.length→(gW as bs<0↔gk as bs=true)
 | [],[],_,_,_=>by simp[gW,gk]
 | [],b::bs,_,_,h=>by simp at h
 | a::as,[],_,_,h=>by simp at h
 | a::as,b::bs,ha,hb,hl=>by
   simp only[dI,b9,al] at ha hb
   have h:=DP ha.1 hb.1
   have h2:=DG (as:=as) (bs:=bs) ha.2 hb.2 (by simpa using hl)
   simp only[gW,gk]
   split
   ·rename_i e;rw[if_pos (h.1 e),h2]
   ·rename_i e;rw[if_neg (fun x=>e (h.2 x)),QI]
theorem qp{a b:nz}:nP a b=0↔a=b:=by
 unfold nP
 constructor
 ·intro h
  split at h
  ·omega
  ·rename_i h1
   split at h
   ·omega
   ·rename_i h2
    rcases aa (a=b) with e|e
    ·exact e
    ·exact absurd (zV e (by simpa[gy] using h1)) h2
 ·rintro rfl
  simp[gy,s5]
theorem Pd{a b:nz}:nP a b<0↔gy a b=true:=by
 unfold nP
 split
 ·rename_i h;simp[h]
 ·rename_i h
  split<;>simp_all
theorem x9{a b:Int}:oA a b=0↔a=b:=by unfold oA;split<;>(try split)<;>omega
theorem Qn{a b:Int}:oA a b<0↔a<b:=by unfold oA;split<;>(try split)<;>omega
theorem qI{a b:Row}(ha:dI a.args=true)(hb:dI b.args=true):fc a b=0↔a.name=b.name∧a.args=b.args:=by
 unfold fc
 constructor
 ·intro h
  split at h
  ·rename_i e;exact absurd h e
  ·rename_i e
   split at h
   ·rename_i e2;exact absurd h e2
   ·exact⟨qp.1 (o0.1 e),(vG ha hb).1 h⟩
 ·rintro⟨e,e2⟩
  have h1:nP a.name b.name=0:=qp.2 e
  have h2:oA a.args.length b.args.length=0:=x9.2 (by rw[e2])
  have h3:gW a.args b.args=0:=(vG ha hb).2 e2
  simp[h1,h2,h3]
theorem lH{a b:Row}(ha:dI a.args=true)(hb:dI b.args=true):fc a b<0↔dv a b=true:=by
 unfold fc dv
 split
 ·rename_i e
  rw[if_neg (fun x=>e (qp.2 x)),Pd]
 ·rename_i e
  rw[if_pos (qp.1 (o0.1 e))]
  split
  ·rename_i e2
   have:¬a.args.length=b.args.length:=fun x=>e2 (x9.2 (by rw[x]))
   rw[if_neg this,Qn]
   simp
  ·rename_i e2
   have:=x9.1 (o0.1 e2)
   have h3:a.args.length=b.args.length:=by omega
   rw[if_pos h3,DG ha hb h3]
theorem xJ:∀{as bs cs:List Rat},dI as=true→dI bs=true→dI cs=true→gk as bs=true→gk bs cs=true→gk as cs=true
 | [],_,_,_,_,_,h,_=>by simp[gk] at h
 | _::_,[],_,_,_,_,h,_=>by simp[gk] at h
 | _::_,_::_,[],_,_,_,_,h=>by simp[gk] at h
 | a::as,b::bs,c::cs,ha,hb,hc,h1,h2=>by
   simp only[dI,b9,al] at ha hb hc
   simp only[gk] at h1 h2⊢
   split at h1
   ·rename_i e
    subst e
    split at h2
    ·rename_i e2
     rw[if_pos e2]
     exact xJ ha.2 hb.2 hc.2 h1 h2
    ·rename_i e2
     rw[if_neg e2];exact h2
   ·rename_i e
    split at h2
    ·rename_i e2
     subst e2
     rw[if_neg e];exact h1
    ·have h3:=I0 ha.1 hb.1 hc.1 h1 h2
     have:¬a=c:=by
      rintro rfl
      rw[fB ha.1 ha.1] at h3;omega
     rw[if_neg this];exact h3
theorem qj{a b c:Row}(ha:dI a.args=true)(hb:dI b.args=true)(hc:dI c.args=true)(h1:dv a b=true)(h2:dv b c=true):dv a c=true:=by
 unfold dv at h1 h2⊢
 split at h1
 ·rename_i e
  rw[e]
  split at h2
  ·rename_i e2
   rw[if_pos e2]
   split at h1
   ·rename_i l1
    rw[l1]
    split at h2
    ·rename_i l2
     rw[if_pos l2]
     exact xJ ha hb hc h1 h2
    ·rename_i l2
     rw[if_neg l2];exact h2
   ·rename_i l1
    simp only[decide_eq_true_eq] at h1
    split at h2
    ·rename_i l2
     rw[if_neg (by omega)];simp;omega
    ·simp only[decide_eq_true_eq] at h2
     rw[if_neg (by omega)];simp;omega
  ·rename_i e2
   rw[if_neg e2];exact h2
 ·rename_i e
  split at h2
  ·rename_i e2
   rw[←e2,if_neg e];exact h1
  ·have h3:gy a.name c.name=true:=v8 h1 h2
   rw[if_neg (Lj h3)];exact h3
theorem lF{r:Row}(h:kR r=true):dI r.args=true:=by
 simp only[kR,al] at h
 exact h.2.2.2
def kg:Option Row→List Row→Bool
 | _,[]=>true
 | p,r::rs=>kR r&&((match p with|none=>true|some q=>dv q r)&&kg (some r) rs)
theorem Cq:∀(rs:List Row)(p:Option Row),(∀q,p=some q→kR q=true)→vp p rs=kg p rs
 | [],_,_=>rfl
 | r::rs,p,hp=>by
   simp only[vp,kg]
   cases hr:kR r
   ·rfl
   ·rw[Cq rs (some r) (fun q e=>by cases e;exact hr)]
    cases p with
    | none=>rfl
    | some q=>
      have h:=lH (lF (hp q rfl)) (lF hr)
      have:decide (fc q r<0)=dv q r:=by
       cases hl:dv q r
       ·simp only[decide_eq_false_iff_not];rw[h,hl];simp
       ·simp only[decide_eq_true_eq];rw[h,hl]
      simp only[this]
theorem u5:∀{rs:List Row}{p:Option Row},kg p rs=true→∀r∈rs,kR r=true
 | [],_,_,r,hr=>by simp at hr
 | a::rs,p,h,r,hr=>by
   simp only[kg,al] at h
   rcases ay.1 hr with rfl|hr
   ·exact h.1
   ·exact u5 h.2.2 r hr
theorem zH:∀{rs:List Row}{q:Row},kR q=true→kg (some q) rs=true→∀r∈rs,dv q r=true
 | [],_,_,_,r,hr=>by simp at hr
 | a::rs,q,hq,h,r,hr=>by
   simp only[kg,al] at h
   rcases ay.1 hr with rfl|hr
   ·exact h.2.1
   ·exact qj (lF hq) (lF h.1) (lF (u5 h.2.2 r hr)) h.2.1 (zH h.1 h.2.2 r hr)
theorem zC:∀{rs:List Row}{p:Option Row},kg p rs=true→rs.Pairwise (fun a b=>dv a b=true)
 | [],_,_=>List.Pairwise.nil
 | a::rs,p,h=>by
   simp only[kg,al] at h
   exact List.Pairwise.cons (fun r hr=>zH h.1 h.2.2 r hr) (zC h.2.2)
theorem nb{m:Model}(h:fL m=true):m.rows.length≤40∧(∀r∈m.rows,kR r=true)∧m.rows.Pairwise (fun a b=>dv a b=true):=by
 simp only[fL,al,decide_eq_true_eq] at h
 rw[Cq _ none (by simp)] at h
 exact⟨h.1,u5 h.2,zC h.2⟩
def cut:List Row→Row→Nat
 | [],_=>0
 | r::rs,t=>if fc r t<0 then cut rs t+1 else 0
theorem OS:∀(rs:List Row)(t:Row),cut rs t≤rs.length
 | [],_=>by simp[cut]
 | r::rs,t=>by
   have:=OS rs t
   simp only[cut,a6]
   split<;>omega
def lA(rs:List Row)(t:Row):Prop:=rs.Pairwise (fun a b=>fc b t<0→fc a t<0)
theorem tv:∀{rs:List Row}{t:Row},lA rs t→∀(k:Nat)(h:k<rs.length),k<cut rs t↔fc rs[k] t<0
 | [],_,_,k,h=>by simp at h
 | r::rs,t,hm,k,h=>by
   obtain⟨h1,h2⟩:=nZ.1 hm
   simp only[cut]
   cases k with
   | zero=>
     simp only[List.getElem_cons_zero]
     split<;>simp_all
   | succ k=>
     simp only[jq]
     have hk:k<rs.length:=by simpa using h
     have h3:=tv (rs:=rs) (t:=t) h2 k hk
     split
     ·rw[←h3];omega
     ·rename_i hn
      constructor
      ·intro x;omega
      ·intro x;exact absurd (h1 _ (List.getElem_mem hk) x) hn
theorem ZN{rs:List Row}{t:Row}(hm:lA rs t){i:Nat}(hi:i≤rs.length)(h1:∀(k:Nat)(h:k<rs.length),k<i→fc rs[k] t<0)(h2:∀(k:Nat)(h:k<rs.length),i≤k→¬fc rs[k] t<0):cut rs t=i:=by
 have h3:=OS rs t
 rcases Nat.lt_trichotomy (cut rs t) i with h|h|h
 ·have h4:=(tv hm (cut rs t) (by omega)).2 (h1 _ (by omega) h)
  omega
 ·exact h
 ·have h4:=(tv hm i (by omega)).1 h
  exact absurd h4 (h2 i (by omega) (Nat.le_refl i))
theorem Xu{m:Model}{t:Row}(h:fL m=true)(ht:dI t.args=true):lA m.rows t:=by
 obtain⟨_,h1,h2⟩:=nb h
 refine List.Pairwise.imp_of_mem ?_ h2
 intro a b ha hb hab hbt
 have wa:=lF (h1 a ha)
 have wb:=lF (h1 b hb)
 rw[lH wb ht] at hbt
 rw[lH wa ht]
 exact qj wa wb ht hab hbt
def found(rs:List Row)(t:Row):Bool:=match rs[cut rs t]? with|some r=>decide (fc r t=0)|none=>false
theorem M5:∀{rs:List Row}{t:Row},(∀r∈rs,dI r.args=true)→dI t.args=true→rs.Pairwise (fun a b=>dv a b=true) →
 rs.find? (fun r=>decide (r.name=t.name∧r.args=t.args))=if found rs t then rs[cut rs t]? else none
 | [],_,_,_,_=>by simp[found]
 | r::rs,t,hr,ht,hp=>by
   obtain⟨h1,h2⟩:=nZ.1 hp
   have ih:=M5 (rs:=rs) (t:=t) (fun x hx=>hr x (bh _ hx)) ht h2
   have wr:=hr r (by simp)
   have hz:=qI wr ht
   rw[List.find?_cons]
   rcases aa (r.name=t.name∧r.args=t.args) with e|e
   ·have hc:=hz.2 e
    have hcut:cut (r::rs) t=0:=by simp[cut,hc]
    simp[e,found,hcut,hc]
   ·simp only[e,decide_false]
    rw[ih]
    rcases aa (fc r t<0) with hn|hn
    ·have hc2:cut (r::rs) t=cut rs t+1:=by simp[cut,hn]
     have hf2:found (r::rs) t=found rs t:=by simp only[found,hc2,lj]
     rw[hf2,hc2,lj]
    ·have hcut:cut (r::rs) t=0:=by simp[cut,hn]
     have hf:found (r::rs) t=false:=by simp[found,hcut,hz,e]
     rw[hf]
     have:found rs t=false:=by
      unfold found
      split
      ·rename_i q hq
       have hq':q∈rs:=List.mem_of_getElem? hq
       simp only[decide_eq_false_iff_not]
       intro hc
       have hb:=(qI (hr q (bh _ hq')) ht).1 hc
       have hl:=h1 q hq'
       apply hn
       rw[lH wr ht]
       have:dv r q=dv r t:=by simp only[dv,hb.1,hb.2]
       rw[←this];exact hl
      ·rfl
     simp[this]
theorem Pe{m:Model}{t:Row}(h:fL m=true)(ht:dI t.args=true):lookup m.rows t.name t.args=if found m.rows t then(m.rows.getD (cut m.rows t) t).val else⟨0,1⟩:=by
 obtain⟨_,h1,h2⟩:=nb h
 unfold lookup
 rw[M5 (fun r hr=>lF (h1 r hr)) ht h2]
 cases hf:found m.rows t
 ·simp
 ·unfold found at hf
  cases hx:m.rows[cut m.rows t]? with
  | none=>simp[hx] at hf
  | some r=>simp[hx,cr]
theorem abh:bX ⟨0,1⟩=true:=by decide
theorem Tr{m:Model}(h:fL m=true)(n:nz)(as:List Rat):bX (lookup m.rows n as)=true:=by
 obtain⟨_,h1,_⟩:=nb h
 unfold lookup
 split
 ·rename_i r hr
  have:=h1 r (e9 hr)
  simp only[kR,al] at this
  exact this.2.2.1
 ·exact abh
theorem GN(m:Model)(t:Term):value m t=lookup m.rows t.name (values m t.kids):=by cases t;rfl
theorem pK(m:Model):∀(ts:List Term),values m ts=ts.map (value m)
 | []=>rfl
 | t::ts=>by simp only[values,List.map_cons,pK m ts]
theorem V4{m:Model}(h:fL m=true)(t:Term):bX (value m t)=true:=by rw[GN];exact Tr h _ _
theorem J6{m:Model}(h:fL m=true)(ts:List Term):dI (values m ts)=true:=by
 rw[pK]
 simp only[dI,List.all_map,c5,Function.comp]
 intro t _
 exact V4 h t
theorem Hg(m:Model)(ts:List Term):(values m ts).length=ts.length:=by rw[pK];simp
theorem rX{n:Int}(h1:-1000000000≤n)(h2:n≤1000000000):bX (whole n)=true:=by
 rw[n6]
 exact⟨⟨h1,h2⟩,⟨Int.le_refl 1,by show(1:Int)≤1000000000;omega⟩,Int.gcd_one_right n⟩
theorem Ji{n d:Int}(h:(il n d).2=true):bX (il n d).1=true:=by
 unfold il at h⊢
 split
 ·rename_i h0;rw[if_pos h0] at h;cases h
 ·rename_i h0
  rw[if_neg h0] at h
  simp only at h⊢
  generalize (⟨_,_⟩:Rat)=x at h⊢
  cases hx:bX x
  ·simp[hx] at h
  ·simp[hx]
theorem Jr{a b:Rat}(h:(db a b).2=true):bX (db a b).1=true:=by
 unfold db at h⊢
 split
 ·rename_i h0;rw[if_pos h0] at h;exact Ji h
 ·rename_i h0;rw[if_neg h0] at h;cases h
theorem Rz{a v:Rat}{c:Int}(h:(plus a c v).2=true):bX (plus a c v).1=true:=by
 unfold plus at h⊢
 split
 ·rename_i h0;rw[if_pos h0] at h;exact Jr h
 ·rename_i h0;rw[if_neg h0] at h;cases h
theorem N0{a:Rat}{n:Int}(ha:bX a=true)(h1:-1000000000≤n)(h2:n≤1000000000)(st:Bool):below a n st=(cY a (whole n)||(!st&&decide (a=whole n))):=by
 have hw:=rX h1 h2
 unfold below
 cases st
 ·simp only[ax,if_false,Bool.not_false,aB]
  rcases aa (a=whole n) with e|e
  ·subst e
   have:cY (whole n) (whole n)=false:=by
    cases h:cY (whole n) (whole n)
    ·rfl
    ·rw[fB hw hw] at h;omega
   simp[this]
  ·have jJ:¬a.N*(whole n).D=(whole n).N*a.D:=fun h=>e (CH ha hw h)
   cases hl:cY a (whole n)<;>cases hr:cY (whole n) a<;>simp[e]
   ·have:¬ (a.N*(whole n).D<(whole n).N*a.D):=fun h=>by rw[(fB ha hw).2 h] at hl;cases hl
    have:¬ ((whole n).N*a.D<a.N*(whole n).D):=fun h=>by rw[(fB hw ha).2 h] at hr;cases hr
    omega
   ·rw[fB ha hw] at hl
    rw[fB hw ha] at hr
    omega
 ·simp
theorem Ox{m:Model}:∀{ts:List Term}{ns:List Int}{sum r:Rat},bX sum=true→qC m ts ns sum=some r→bX r=true
 | [],_,sum,r,h,e=>by simp only[qC,Option.some.injEq] at e;rw[←e];exact h
 | _::_,[],sum,r,h,e=>by simp only[qC,Option.some.injEq] at e;rw[←e];exact h
 | t::ts,n::ns,sum,r,h,e=>by
   simp only[qC] at e
   split at e
   ·rename_i h1;exact Ox (Rz h1) e
   ·cases e
theorem PU{m:Model}{ts:List Term}{ns:List Int}{i:Nat}(h:i<ts.length)(h':i<ns.length)(sum:Rat) :
 qC m (ts.drop i) (ns.drop i) sum=if(plus sum ns[i] (value m ts[i])).2 then qC m (ts.drop (i+1)) (ns.drop (i+1)) (plus sum ns[i] (value m ts[i])).1 else none:=by
 rw[ae h,ae h'];rfl
theorem S9{m:Model}{ts:List Term}{ns:List Int}{i:Nat}(h:ts.length≤i)(sum:Rat):qC m (ts.drop i) (ns.drop i) sum=some sum:=by
 rw[List.drop_of_length_le h];rfl
def at0:List Int→Int→Int
 | [],_=>0
 | x::xs,n=>if x=n then 1 else if x = -n then -1 else at0 xs n
def rj(n:Int):Int:=if n < -1000000000 then 1000000001 else if 1000000000<n then 1000000001 else if n<0 then -n else n
theorem th{n:Int}:rj n≤1000000000 ↔ -1000000000≤n∧n≤1000000000:=by
 unfold rj;split
 ·omega
 ·split
  ·omega
  ·split<;>omega
theorem Yp(n:Int):0≤rj n:=by
 unfold rj;split
 ·omega
 ·split
  ·omega
  ·split<;>omega
theorem Oz{n:Int}(h:-1000000000≤n∧n≤1000000000)(d:Int):bN (rj n) d=bN n d:=by
 have e:(rj n).natAbs=n.natAbs:=by
  unfold rj
  rw[if_neg (by omega),if_neg (by omega)]
  split<;>omega
 simp only[bN,e]
theorem Lk(n d:Int):bN (-n) d=bN n d:=by simp only[bN,Int.natAbs_neg]
theorem M8{p q:Int}(hp:0≤p)(hq:0<q):0≤p.tmod q∧p.tmod q<q∧bN q (p.tmod q)=bN p q:=by
 have e:p.tmod q=((p.natAbs % q.natAbs:Nat):Int):=by
  rw[Int.tmod_eq_emod_of_nonneg hp]
  have h1:(p.natAbs:Int)=p:=by omega
  have h2:(q.natAbs:Int)=q:=by omega
  rw[Int.natCast_emod,h1,h2]
 have lL:p.natAbs % q.natAbs<q.natAbs:=Nat.mod_lt _ (by omega)
 refine⟨by omega,by omega,?_⟩
 rw[e]
 simp only[bN,Int.natAbs_natCast]
 rw[Nat.gcd_comm p.natAbs,Nat.gcd_rec q.natAbs p.natAbs,Nat.gcd_comm]
theorem gcd_zero{p:Int}(hp:0≤p):((bN p 0:Nat):Int)=p:=by
 simp only[bN,Int.natAbs_zero,Nat.gcd_zero_right]
 omega
theorem L8{n d:Int}(h:0<d):0<(bN n d:Int):=by
 have:0<bN n d:=Int.gcd_pos_of_ne_zero_right n (by omega)
 omega
theorem pP{n g k:Int}(hg:0<g)(h:-k≤n∧n≤k):-k≤n.tdiv g∧n.tdiv g≤k:=by
 have e:(n.tdiv g).natAbs=n.natAbs / g.natAbs:=Int.natAbs_tdiv n g
 have h2:n.natAbs / g.natAbs≤n.natAbs:=Nat.div_le_self _ _
 omega
theorem prod_bound{m b k l:Int}(h1:-k≤m∧m≤k)(h2:-l≤b∧b≤l):-(k*l)≤m*b∧m*b≤k*l:=by
 have e:(m*b).natAbs=m.natAbs*b.natAbs:=Int.natAbs_mul m b
 have h3:m.natAbs*b.natAbs≤k.natAbs*l.natAbs:=Nat.mul_le_mul (by omega) (by omega)
 have h4:(k*l).natAbs=k.natAbs*l.natAbs:=Int.natAbs_mul k l
 have h5:0≤k*l:=Int.mul_nonneg (by omega) (by omega)
 omega
theorem sq{m b:Int}(h1:-1000000000≤m∧m≤1000000000)(h2:-1000000000≤b∧b≤1000000000):-1000000000000000000≤m*b∧m*b≤1000000000000000000:=by
 have:=prod_bound h1 h2
 omega
theorem R4{m b:Int}(h1:1≤m∧m≤1000000000)(h2:1≤b∧b≤1000000000):1≤m*b∧m*b≤1000000000000000000:=by
 have:=sq (m:=m) (b:=b) (by omega) (by omega)
 have:=Int.mul_pos (a:=m) (b:=b) (by omega) (by omega)
 omega
theorem Al{n d:Int}(hd:1≤d):il n d=if bX ⟨n.tdiv (bN n d),d.tdiv (bN n d)⟩ then(⟨n.tdiv (bN n d),d.tdiv (bN n d)⟩,true) else(jE,false):=by
 unfold il
 rw[if_neg (by omega)]
 simp only[if_neg (show ¬d<0 by omega)]
theorem pg(x y:Rat):jn x.N x.D y.N y.D=decide (x=y):=by
 cases x;cases y;simp only[jn,Rat.mk.injEq,Bool.decide_and];rfl
theorem AY{m:Model}{ts:List Term}{i:Nat}(h:i<ts.length):bp (values m (ts.take i))++[eU (value m ts[i])]=bp (values m (ts.take (i+1))):=by
 have e:ts.take (i+1)=ts.take i++[ts[i]]:=by rw[bq,ah h];rfl
 rw[pK,pK,e,List.map_append,←tf]
 rfl
end Go.Mod
