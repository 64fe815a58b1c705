/-
  The data of the program as plain Lean types, and how they lie in memory, cell by cell. No program is walked here.
-/
import Derived.Test.YtgpjhjalfakpoaaGreatKAD
set_option linter.unusedVariables false
set_option linter.unusedSimpArgs false
open Bool renaming and_eq_true→ae,true_and→ay
open Classical renaming em→aa
open List renaming getElem?_eq_getElem→ab,length_append→an,length_cons→aq,mem_cons→aw,mem_append→aE,take_add_one→br,pairwise_cons→bD,getD→bI,mem_map→bO,length_nil→b8,not_mem_nil→ct,filter_cons→c7,mem_append_left→dy,foldl_cons→iJ,flatMap_cons→jC,foldl_append→jE
open Nat renaming mul_le_mul_right→aW,add_mul→bp,one_le_two_pow→bC,pow_le_pow_right→bH,add_assoc→dZ,pow_succ→eP
namespace Go.Mod
open Go.Eng
abbrev lp:=List UInt8
def aL(ns:List Int):List (List D):=ns.map fun n=>[.val (.int .i64 n)]
def Lt(ns:List Bool):List (List D):=ns.map fun n=>[.val (.bool n)]
def gU(ns:List lp):List (List D):=ns.map fun n=>[.str n]
def bq(ns:List (List Int)):List (List D):=ns.map fun n=>[.bX (aL n)]
theorem gF(ns:List Int):(aL ns).length=ns.length:=by simp[aL]
theorem s9{ns:List Int}{i:Nat}(h:i<ns.length):row (aL ns) i=[.val (.int .i64 ns[i])]:=by simp[aL,row,bI,ab h]
theorem iZ(ns:List Int):∀y∈aL ns,y.length=1:=by
 intro y hy
 rw[show aL ns=ns.map _ from rfl] at hy
 obtain⟨t,_,rfl⟩:=bO.1 hy
 rfl
theorem xx(ns:List Int)(i:Nat):(aL ns).take i=aL (ns.take i):=by simp[aL]
theorem fX(ns ms:List Int):aL ns++aL ms=aL (ns++ms):=by simp[aL]
theorem cY:aL []=[]:=rfl
theorem b9(n:Int)(ns:List Int):aL (n::ns)=[.val (.int .i64 n)]::aL ns:=rfl
theorem F3(ns:List Bool):∀y∈Lt ns,y.length=1:=by
 intro y hy
 rw[show Lt ns=ns.map _ from rfl] at hy
 obtain⟨t,_,rfl⟩:=bO.1 hy
 rfl
theorem zL(ns:List lp):(gU ns).length=ns.length:=by simp[gU]
theorem zu{ns:List lp}{i:Nat}(h:i<ns.length):row (gU ns) i=[.str ns[i]]:=by simp[gU,row,bI,ab h]
theorem Gs(ns ms:List lp):gU ns++gU ms=gU (ns++ms):=by simp[gU]
theorem FF:gU []=[]:=rfl
theorem De(ns:List (List Int)):(bq ns).length=ns.length:=by simp[bq]
theorem CZ{ns:List (List Int)}{i:Nat}(h:i<ns.length):row (bq ns) i=[.bX (aL ns[i])]:=by simp[bq,row,bI,ab h]
theorem Eh(ns:List (List Int)):∀y∈bq ns,y.length=1:=by
 intro y hy
 rw[show bq ns=ns.map _ from rfl] at hy
 obtain⟨t,_,rfl⟩:=bO.1 hy
 rfl
theorem CT:bq []=[]:=rfl
inductive Term where
 | mk(name:lp)(kids:List Term)
def Term.name:Term→lp
 | .mk x _=>x
def Term.kids:Term→List Term
 | .mk _ x=>x
theorem Term.ind{P:Term→Prop}(h:∀name kids,(∀k∈kids,P k)→P (.mk name kids)):∀t,P t:=by
 intro t
 refine Term.rec (motive_1:=P) (motive_2:=fun ks=>∀k∈ks,P k) (fun name kids ih=>h name kids ih) (by simp) (fun t ts h1 h2=>?_) t
 intro k hk
 rcases aw.1 hk with rfl|hk
 ·exact h1
 ·exact h2 k hk
mutual
def Nw:Term→List D
 | .mk name kids=>[.str name,.bX (aN kids)]
def aN:List Term→List (List D)
 | []=>[]
 | t::ts=>Nw t::aN ts
end
def cT(t:Term):List D:=[.str t.name,.bX (aN t.kids)]
theorem JI(t:Term):Nw t=cT t:=by cases t;rfl
theorem ia:∀(ts:List Term),aN ts=ts.map cT
 | []=>rfl
 | t::ts=>by simp[aN,JI,ia ts]
theorem lk(ns:List Term):(aN ns).length=ns.length:=by simp[ia]
theorem s5{ns:List Term}{i:Nat}(h:i<ns.length):row (aN ns) i=cT ns[i]:=by simp[ia,row,bI,ab h]
theorem F0(ns:List Term):∀y∈aN ns,y.length=2:=by
 intro y hy
 rw[show aN ns=ns.map _ from ia ns] at hy
 obtain⟨t,_,rfl⟩:=bO.1 hy
 rfl
theorem Dn(ns:List Term)(i:Nat):(aN ns).take i=aN (ns.take i):=by simp[ia]
theorem hU(ns ms:List Term):aN ns++aN ms=aN (ns++ms):=by simp[ia]
theorem gH:aN []=[]:=rfl
theorem eB(n:Term)(ns:List Term):aN (n::ns)=cT n::aN ns:=by simp[ia]
theorem nH{ns:List Term}{i:Nat}(h:i<ns.length):aN (ns.take i)++[cT ns[i]]=aN (ns.take (i+1)):=by
 have e:ns.take (i+1)=ns.take i++[ns[i]]:=by rw[br,ab h];rfl
 rw[e,←hU,eB,gH]
mutual
def IT:Term→Term→Bool
 | .mk name1 kids1,.mk name2 kids2=>decide (name1=name2)&&qt kids1 kids2
def qt:List Term→List Term→Bool
 | [],[]=>true
 | x::xs,y::ys=>IT x y&&qt xs ys
 | _,_=>false
end
mutual
theorem zc:∀(a b:Term),IT a b=true↔a=b
 | .mk name1 kids1,.mk name2 kids2=>by simp[IT,wj]
theorem wj:∀(a b:List Term),qt a b=true↔a=b
 | [],[]=>by simp[qt]
 | [],_::_=>by simp[qt]
 | _::_,[]=>by simp[qt]
 | x::xs,y::ys=>by simp[qt,zc x y,wj xs ys]
end
instance:DecidableEq Term:=fun a b=>decidable_of_iff _ (zc a b)
structure Sym where
 name:lp
 args:List Int
 sort:Int
 deriving DecidableEq
def pB(t:Sym):List D:=[.str t.name,.bX (aL t.args),.val (.int .i64 t.sort)]
def dW(l:List Sym):List (List D):=l.map pB
theorem BU(ns:List Sym):(dW ns).length=ns.length:=by simp[dW]
theorem tR{ns:List Sym}{i:Nat}(h:i<ns.length):row (dW ns) i=pB ns[i]:=by simp[dW,row,bI,ab h]
theorem mv(ns ms:List Sym):dW ns++dW ms=dW (ns++ms):=by simp[dW]
structure eD where
 syms:List Sym
 deriving DecidableEq
def c8(t:eD):List D:=[.bX (dW t.syms)]
structure Atom where
 kind:Int
 A:Term
 B:Term
 aM:List Term
 times:List Int
 bound:Int
 strict:Bool
 deriving DecidableEq
def dJ(t:Atom):List D:=[.val (.int .i64 t.kind),.str t.A.name,.bX (aN t.A.kids),.str t.B.name,.bX (aN t.B.kids),.bX (aN t.aM),.bX (aL t.times),.val (.int .i64 t.bound),.val (.bool t.strict)]
def aK(l:List Atom):List (List D):=l.map dJ
theorem zN(ns:List Atom):(aK ns).length=ns.length:=by simp[aK]
theorem AN{ns:List Atom}{i:Nat}(h:i<ns.length):row (aK ns) i=dJ ns[i]:=by simp[aK,row,bI,ab h]
theorem Au(ns:List Atom):∀y∈aK ns,y.length=9:=by
 intro y hy
 rw[show aK ns=ns.map _ from rfl] at hy
 obtain⟨t,_,rfl⟩:=bO.1 hy
 rfl
theorem kR(ns ms:List Atom):aK ns++aK ms=aK (ns++ms):=by simp[aK]
theorem kZ:aK []=[]:=rfl
theorem mD(n:Atom)(ns:List Atom):aK (n::ns)=dJ n::aK ns:=rfl
structure fh where
 atom:Atom
 no:Bool
 deriving DecidableEq
def C0(t:fh):List D:=[.val (.int .i64 t.atom.kind),.str t.atom.A.name,.bX (aN t.atom.A.kids),.str t.atom.B.name,.bX (aN t.atom.B.kids),.bX (aN t.atom.aM),.bX (aL t.atom.times),.val (.int .i64 t.atom.bound),.val (.bool t.atom.strict),.val (.bool t.no)]
def cE(l:List fh):List (List D):=l.map C0
theorem Cn(ns:List fh):(cE ns).length=ns.length:=by simp[cE]
theorem Br{ns:List fh}{i:Nat}(h:i<ns.length):row (cE ns) i=C0 ns[i]:=by simp[cE,row,bI,ab h]
theorem BS(ns:List fh):∀y∈cE ns,y.length=10:=by
 intro y hy
 rw[show cE ns=ns.map _ from rfl] at hy
 obtain⟨t,_,rfl⟩:=bO.1 hy
 rfl
theorem og(ns ms:List fh):cE ns++cE ms=cE (ns++ms):=by simp[cE]
inductive rv where
 | mk(mU:Int)(n:Int)(t:Term)(kids:List rv)
def rv.mU:rv→Int
 | .mk x _ _ _=>x
def rv.n:rv→Int
 | .mk _ x _ _=>x
def rv.t:rv→Term
 | .mk _ _ x _=>x
def rv.kids:rv→List rv
 | .mk _ _ _ x=>x
theorem rv.ind{P:rv→Prop}(h:∀mU n t kids,(∀k∈kids,P k)→P (.mk mU n t kids)):∀t,P t:=by
 intro t
 refine rv.rec (motive_1:=P) (motive_2:=fun ks=>∀k∈ks,P k) (fun mU n t kids ih=>h mU n t kids ih) (by simp) (fun t ts h1 h2=>?_) t
 intro k hk
 rcases aw.1 hk with rfl|hk
 ·exact h1
 ·exact h2 k hk
mutual
def Mg:rv→List D
 | .mk mU n t kids=>[.val (.int .i64 mU),.val (.int .i64 n),.str t.name,.bX (aN t.kids),.bX (nF kids)]
def nF:List rv→List (List D)
 | []=>[]
 | t::ts=>Mg t::nF ts
end
def N9(t:rv):List D:=[.val (.int .i64 t.mU),.val (.int .i64 t.n),.str t.t.name,.bX (aN t.t.kids),.bX (nF t.kids)]
theorem uf:nF []=[]:=rfl
mutual
def A0:rv→rv→Bool
 | .mk rule1 n1 t1 kids1,.mk rule2 n2 t2 kids2=>decide (rule1=rule2)&&decide (n1=n2)&&decide (t1=t2)&&lK kids1 kids2
def lK:List rv→List rv→Bool
 | [],[]=>true
 | x::xs,y::ys=>A0 x y&&lK xs ys
 | _,_=>false
end
mutual
theorem uu:∀(a b:rv),A0 a b=true↔a=b
 | .mk rule1 n1 t1 kids1,.mk rule2 n2 t2 kids2=>by simp[A0,rO,and_assoc]
theorem rO:∀(a b:List rv),lK a b=true↔a=b
 | [],[]=>by simp[lK]
 | [],_::_=>by simp[lK]
 | _::_,[]=>by simp[lK]
 | x::xs,y::ys=>by simp[lK,uu x y,rO xs ys]
end
instance:DecidableEq rv:=fun a b=>decidable_of_iff _ (uu a b)
inductive Case where
 | mk(kind:Int)(n:Int)(vC:rv)(times:List Int)(A:Term)(B:Term)(kids:List Case)
def Case.kind:Case→Int
 | .mk x _ _ _ _ _ _=>x
def Case.n:Case→Int
 | .mk _ x _ _ _ _ _=>x
def Case.vC:Case→rv
 | .mk _ _ x _ _ _ _=>x
def Case.times:Case→List Int
 | .mk _ _ _ x _ _ _=>x
def Case.A:Case→Term
 | .mk _ _ _ _ x _ _=>x
def Case.B:Case→Term
 | .mk _ _ _ _ _ x _=>x
def Case.kids:Case→List Case
 | .mk _ _ _ _ _ _ x=>x
theorem Case.ind{P:Case→Prop}(h:∀kind n vC times A B kids,(∀k∈kids,P k)→P (.mk kind n vC times A B kids)):∀t,P t:=by
 intro t
 refine Case.rec (motive_1:=P) (motive_2:=fun ks=>∀k∈ks,P k) (fun kind n vC times A B kids ih=>h kind n vC times A B kids ih) (by simp) (fun t ts h1 h2=>?_) t
 intro k hk
 rcases aw.1 hk with rfl|hk
 ·exact h1
 ·exact h2 k hk
mutual
def K7:Case→List D
 | .mk kind n vC times A B kids=>[.val (.int .i64 kind),.val (.int .i64 n),.val (.int .i64 vC.mU),.val (.int .i64 vC.n),.str vC.t.name,.bX (aN vC.t.kids),.bX (nF vC.kids),.bX (aL times),.str A.name,.bX (aN A.kids),.str B.name,.bX (aN B.kids),.bX (rD kids)]
def rD:List Case→List (List D)
 | []=>[]
 | t::ts=>K7 t::rD ts
end
def Nn(t:Case):List D:=[.val (.int .i64 t.kind),.val (.int .i64 t.n),.val (.int .i64 t.vC.mU),.val (.int .i64 t.vC.n),.str t.vC.t.name,.bX (aN t.vC.t.kids),.bX (nF t.vC.kids),.bX (aL t.times),.str t.A.name,.bX (aN t.A.kids),.str t.B.name,.bX (aN t.B.kids),.bX (rD t.kids)]
mutual
def xM:Case→Case→Bool
 | .mk kind1 n1 why1 times1 A1 B1 kids1,.mk kind2 n2 why2 times2 A2 B2 kids2=>decide (kind1=kind2)&&decide (n1=n2)&&decide (why1=why2)&&decide (times1=times2)&&decide (A1=A2)&&decide (B1=B2)&&jS kids1 kids2
def jS:List Case→List Case→Bool
 | [],[]=>true
 | x::xs,y::ys=>xM x y&&jS xs ys
 | _,_=>false
end
mutual
theorem rM:∀(a b:Case),xM a b=true↔a=b
 | .mk kind1 n1 why1 times1 A1 B1 kids1,.mk kind2 n2 why2 times2 A2 B2 kids2=>by simp[xM,p6,and_assoc]
theorem p6:∀(a b:List Case),jS a b=true↔a=b
 | [],[]=>by simp[jS]
 | [],_::_=>by simp[jS]
 | _::_,[]=>by simp[jS]
 | x::xs,y::ys=>by simp[jS,rM x y,p6 xs ys]
end
instance:DecidableEq Case:=fun a b=>decidable_of_iff _ (rM a b)
inductive Form where
 | mk(kind:Int)(lit:fh)(kids:List Form)
def Form.kind:Form→Int
 | .mk x _ _=>x
def Form.lit:Form→fh
 | .mk _ x _=>x
def Form.kids:Form→List Form
 | .mk _ _ x=>x
theorem Form.ind{P:Form→Prop}(h:∀kind lit kids,(∀k∈kids,P k)→P (.mk kind lit kids)):∀t,P t:=by
 intro t
 refine Form.rec (motive_1:=P) (motive_2:=fun ks=>∀k∈ks,P k) (fun kind lit kids ih=>h kind lit kids ih) (by simp) (fun t ts h1 h2=>?_) t
 intro k hk
 rcases aw.1 hk with rfl|hk
 ·exact h1
 ·exact h2 k hk
mutual
def EC:Form→List D
 | .mk kind lit kids=>[.val (.int .i64 kind),.val (.int .i64 lit.atom.kind),.str lit.atom.A.name,.bX (aN lit.atom.A.kids),.str lit.atom.B.name,.bX (aN lit.atom.B.kids),.bX (aN lit.atom.aM),.bX (aL lit.atom.times),.val (.int .i64 lit.atom.bound),.val (.bool lit.atom.strict),.val (.bool lit.no),.bX (a7 kids)]
def a7:List Form→List (List D)
 | []=>[]
 | t::ts=>EC t::a7 ts
end
def df(t:Form):List D:=[.val (.int .i64 t.kind),.val (.int .i64 t.lit.atom.kind),.str t.lit.atom.A.name,.bX (aN t.lit.atom.A.kids),.str t.lit.atom.B.name,.bX (aN t.lit.atom.B.kids),.bX (aN t.lit.atom.aM),.bX (aL t.lit.atom.times),.val (.int .i64 t.lit.atom.bound),.val (.bool t.lit.atom.strict),.val (.bool t.lit.no),.bX (a7 t.kids)]
theorem Du(t:Form):EC t=df t:=by cases t;rfl
theorem ib:∀(ts:List Form),a7 ts=ts.map df
 | []=>rfl
 | t::ts=>by simp[a7,Du,ib ts]
theorem cZ(ns:List Form):(a7 ns).length=ns.length:=by simp[ib]
theorem zR{ns:List Form}{i:Nat}(h:i<ns.length):row (a7 ns) i=df ns[i]:=by simp[ib,row,bI,ab h]
theorem rj(ns:List Form):∀y∈a7 ns,y.length=12:=by
 intro y hy
 rw[show a7 ns=ns.map _ from ib ns] at hy
 obtain⟨t,_,rfl⟩:=bO.1 hy
 rfl
theorem nA(ns ms:List Form):a7 ns++a7 ms=a7 (ns++ms):=by simp[ib]
theorem jl:a7 []=[]:=rfl
theorem gE(n:Form)(ns:List Form):a7 (n::ns)=df n::a7 ns:=by simp[ib]
mutual
def xe:Form→Form→Bool
 | .mk kind1 lit1 kids1,.mk kind2 lit2 kids2=>decide (kind1=kind2)&&decide (lit1=lit2)&&jQ kids1 kids2
def jQ:List Form→List Form→Bool
 | [],[]=>true
 | x::xs,y::ys=>xe x y&&jQ xs ys
 | _,_=>false
end
mutual
theorem sj:∀(a b:Form),xe a b=true↔a=b
 | .mk kind1 lit1 kids1,.mk kind2 lit2 kids2=>by simp[xe,pH,and_assoc]
theorem pH:∀(a b:List Form),jQ a b=true↔a=b
 | [],[]=>by simp[jQ]
 | [],_::_=>by simp[jQ]
 | _::_,[]=>by simp[jQ]
 | x::xs,y::ys=>by simp[jQ,sj x y,pH xs ys]
end
instance:DecidableEq Form:=fun a b=>decidable_of_iff _ (sj a b)
def MH(ns:List (List Form)):List (List D):=ns.map fun n=>[.bX (a7 n)]
structure Rat where
 N:Int
 D:Int
 deriving DecidableEq
def Nx(t:Rat):List D:=[.val (.int .i64 t.N),.val (.int .i64 t.D)]
def Ae(l:List Rat):List (List D):=l.map Nx
theorem Cm(ns:List Rat):∀y∈Ae ns,y.length=2:=by
 intro y hy
 rw[show Ae ns=ns.map _ from rfl] at hy
 obtain⟨t,_,rfl⟩:=bO.1 hy
 rfl
structure Row where
 name:lp
 args:List Rat
 val:Rat
 deriving DecidableEq
def Nh(t:Row):List D:=[.str t.name,.bX (Ae t.args),.val (.int .i64 t.val.N),.val (.int .i64 t.val.D)]
def E0(l:List Row):List (List D):=l.map Nh
theorem Bs:E0 []=[]:=rfl
structure Model where
 rows:List Row
 deriving DecidableEq
def H8(t:Model):List D:=[.bX (E0 t.rows)]
structure so where
 wH:List Int
 bound:Int
 strict:Bool
 deriving DecidableEq
def M6(t:so):List D:=[.bX (aL t.wH),.val (.int .i64 t.bound),.val (.bool t.strict)]
def EI(l:List so):List (List D):=l.map M6
theorem Cu(ns:List so):∀y∈EI ns,y.length=3:=by
 intro y hy
 rw[show EI ns=ns.map _ from rfl] at hy
 obtain⟨t,_,rfl⟩:=bO.1 hy
 rfl
structure zM where
 A:Term
 B:Term
 deriving DecidableEq
def N8(t:zM):List D:=[.str t.A.name,.bX (aN t.A.kids),.str t.B.name,.bX (aN t.B.kids)]
def Ei(l:List zM):List (List D):=l.map N8
theorem D3(ns:List zM):∀y∈Ei ns,y.length=4:=by
 intro y hy
 rw[show Ei ns=ns.map _ from rfl] at hy
 obtain⟨t,_,rfl⟩:=bO.1 hy
 rfl
theorem vY:Ei []=[]:=rfl
structure Step where
 A:Int
 B:Int
 given:Int
 deriving DecidableEq
def Lg(t:Step):List D:=[.val (.int .i64 t.A),.val (.int .i64 t.B),.val (.int .i64 t.given)]
def Nc(l:List Step):List (List D):=l.map Lg
structure dh where
 many:Int
 list:List (List Int)
 deriving DecidableEq
def Ga(t:dh):List D:=[.val (.int .i64 t.many),.bX (bq t.list)]
structure rl where
 marks:List Int
 case:Case
 deriving DecidableEq
def Dg(t:rl):List D:=[.bX (aL t.marks),.val (.int .i64 t.case.kind),.val (.int .i64 t.case.n),.val (.int .i64 t.case.vC.mU),.val (.int .i64 t.case.vC.n),.str t.case.vC.t.name,.bX (aN t.case.vC.t.kids),.bX (nF t.case.vC.kids),.bX (aL t.case.times),.str t.case.A.name,.bX (aN t.case.A.kids),.str t.case.B.name,.bX (aN t.case.B.kids),.bX (rD t.case.kids)]
def je(l:List rl):List (List D):=l.map Dg
theorem yo(ns:List rl):(je ns).length=ns.length:=by simp[je]
theorem yO{ns:List rl}{i:Nat}(h:i<ns.length):row (je ns) i=Dg ns[i]:=by simp[je,row,bI,ab h]
theorem yz:je []=[]:=rfl
structure BV where
 lemmas:List rl
 log:List (List Int)
 deriving DecidableEq
def Ih(t:BV):List D:=[.bX (je t.lemmas),.bX (bq t.log)]
structure Stack where
 sig:eD
 levels:List (List Form)
 deriving DecidableEq
def Ly(t:Stack):List D:=[.bX (dW t.sig.syms),.bX (MH t.levels)]
def av(cs:List D):PV:=.agg (eZ cs)
attribute [go_sem] gF zL De lk BU zN Cn cZ yo
attribute [go_sem] s9 zu CZ s5 tR AN Br zR yO
attribute [go_sem] cY FF CT gH kZ uf jl Bs vY yz
attribute [go_sem] av cT pB c8 dJ C0 N9 Nn df Nx Nh H8 M6 N8 Lg Ga Dg Ih Ly Int.toNat_natCast
end Go.Mod
namespace Go.Eng
open Go.Mod
theorem sA{p q:Prop}(k:q)(h:p=q:=by simp -implicitDefEqProofs only[go_sem];exact rfl):p:=h▸k
theorem sB{p q:Prop}(k:q)(h:p=q:=by simp -implicitDefEqProofs only[go_sem,Int.reduceEq,Int.reduceLT,Int.reduceLE,Int.reduceToNat];exact rfl):p:=h▸k
theorem sC{p:Prop}(h:p:=by simp -implicitDefEqProofs only[go_sem]):p:=h
theorem sD{p:Prop}(h:p:=by simp -implicitDefEqProofs only[go_sem,Int.reduceEq,Int.reduceLT,Int.reduceLE,Int.reduceToNat]):p:=h
theorem iK{os:List Oper}{L:List Ky}{p:Prop}(hp:p)(h:Ad os L=true:=by kernel_rfl):indep os L=true∧p:=⟨td h,hp⟩
theorem aC{m:Option (List Ky)}{gs:Option Nat}{d:Nat}{ty:TypeId}{pos:String}{cM:Array Edge}{gd:Option (Nat×Bool)}{E:Env}{g:G}{rest:ll→Option (List Ky)→G→Prop}{ij:Operand}{xs:List Operand}{tys:Array TypeId}{f:FuncId}(cap:List PV){bw:List PV}{res:PV}{q:Prop}
 (hC:C E.P f bw [] (bB res [])) (k:q) (h:g.ev ij= .fn f cap∧xY (FV g xs++cap) bw∧nS 0 bw=true∧res.lt 0=true:=by simp -implicitDefEqProofs only[go_sem])
 (hr:rest .on (ja m (jM (oh gs ⟨bV ij++sx xs,[]⟩) ⟨some (d,res),[]⟩)) (g.app ⟨some (d,res),[]⟩)=q:=by simp -implicitDefEqProofs only[go_sem];exact rfl):ob E m gs ⟨some d,.call ⟨.value ij,⟨xs⟩,tys⟩,ty,pos,cM,gd⟩ g rest:=
 e7 cap hC h (hr▸k)
theorem aD{m:Option (List Ky)}{gs:Option Nat}{d:Nat}{ty:TypeId}{pos:String}{cM:Array Edge}{gd:Option (Nat×Bool)}{E:Env}{g:G}{rest:ll→Option (List Ky)→G→Prop}{ij:Operand}{xs:List Operand}{tys:Array TypeId}{f:FuncId}(cap:List PV){bw:List PV}{res:PV}{q:Prop}
 (hC:C E.P f bw [] (bB res [])) (k:q) (h:g.ev ij= .fn f cap∧xY (FV g xs++cap) bw∧nS 0 bw=true∧res.lt 0=true:=by simp -implicitDefEqProofs only[go_sem,Int.reduceEq,Int.reduceLT,Int.reduceLE,Int.reduceToNat])
 (hr:rest .on (ja m (jM (oh gs ⟨bV ij++sx xs,[]⟩) ⟨some (d,res),[]⟩)) (g.app ⟨some (d,res),[]⟩)=q:=by simp -implicitDefEqProofs only[go_sem,Int.reduceEq,Int.reduceLT,Int.reduceLE,Int.reduceToNat];exact rfl):ob E m gs ⟨some d,.call ⟨.value ij,⟨xs⟩,tys⟩,ty,pos,cM,gd⟩ g rest:=
 e7 cap hC h (hr▸k)
theorem oC{m:Option (List Ky)}{gs:Option Nat}{d:Nat}{ty:TypeId}{pos:String}{cM:Array Edge}{gd:Option (Nat×Bool)}{E:Env}{g:G}{rest:ll→Option (List Ky)→G→Prop}{ij:Operand}{xs:List Operand}{tys:Array TypeId}{f:FuncId}(cap:List PV)(M:List Nat){bw:List PV}{cy st':List (Option En)}{res:PV}{q:Prop}
 (hC:C E.P f bw cy (bB res st')) (k:q) (h:g.ev ij= .fn f cap∧xY (FV g xs++cap) (kr M bw)∧nS (gx cy) bw=true∧BQ M=true∧pw (gx cy) (xA M)=true∧pw (gx cy) (gx st')=true∧pw (gx st') (xA M)=true∧iV g M (gx cy) M cy∧eh g (gx cy) M:=by simp -implicitDefEqProofs only[go_sem])
 (hr:rest .on (ja m (jM (oh gs ⟨bV ij++sx xs,M⟩) ⟨some (d,res.gN M),fP M M st'⟩)) (g.app ⟨some (d,res.gN M),fP M M st'⟩)=q:=by simp -implicitDefEqProofs only[go_sem];exact rfl):ob E m gs ⟨some d,.call ⟨.value ij,⟨xs⟩,tys⟩,ty,pos,cM,gd⟩ g rest:=
 b7 cap M hC h (hr▸k)
theorem oD{m:Option (List Ky)}{gs:Option Nat}{d:Nat}{ty:TypeId}{pos:String}{cM:Array Edge}{gd:Option (Nat×Bool)}{E:Env}{g:G}{rest:ll→Option (List Ky)→G→Prop}{ij:Operand}{xs:List Operand}{tys:Array TypeId}{f:FuncId}(cap:List PV)(M:List Nat){bw:List PV}{cy st':List (Option En)}{res:PV}{q:Prop}
 (hC:C E.P f bw cy (bB res st')) (k:q) (h:g.ev ij= .fn f cap∧xY (FV g xs++cap) (kr M bw)∧nS (gx cy) bw=true∧BQ M=true∧pw (gx cy) (xA M)=true∧pw (gx cy) (gx st')=true∧pw (gx st') (xA M)=true∧iV g M (gx cy) M cy∧eh g (gx cy) M:=by simp -implicitDefEqProofs only[go_sem,Int.reduceEq,Int.reduceLT,Int.reduceLE,Int.reduceToNat])
 (hr:rest .on (ja m (jM (oh gs ⟨bV ij++sx xs,M⟩) ⟨some (d,res.gN M),fP M M st'⟩)) (g.app ⟨some (d,res.gN M),fP M M st'⟩)=q:=by simp -implicitDefEqProofs only[go_sem,Int.reduceEq,Int.reduceLT,Int.reduceLE,Int.reduceToNat];exact rfl):ob E m gs ⟨some d,.call ⟨.value ij,⟨xs⟩,tys⟩,ty,pos,cM,gd⟩ g rest:=
 b7 cap M hC h (hr▸k)
theorem gS{E:Env}(hm:E.P.follows .mixedOrders=true){f:FuncId}{fn:Func}{c:Code}{args:List PV}{cy:List (Option En)}{R:PV→List (Option En)→Prop}{nt:Nat}{rs:List ResultVar}{L q:Prop}(hf:E.P.funcs[f]?=some fn)(k:L→r8 cy→LB=1099511627776→q)
 (hb : fn.body = some c := by rfl) (hname : (fn.name == "runtime.NumGoroutine") = false := by rfl) (hnt : fn.ntmps = nt := by rfl) (hrs : fn.results.toList = rs := by rfl) (hn : pw (oZ args) nt = true := by rfl)
 (e1:kE args=L:=by simp -implicitDefEqProofs only[go_sem];exact rfl) (e2:Bj E (gx cy) c .on ⟨eE nt .undef (He 0 args),cy⟩ (fun _=>DW (qC E rs (gx cy) R))=q:=by simp -implicitDefEqProofs only[go_sem];exact rfl):C E.P f args cy R:=
 CC hm hf hb hname hnt hrs hn fun h1 h2=>e2▸k (e1▸h1) h2 rfl
theorem gT{E:Env}(hm:E.P.follows .mixedOrders=true){f:FuncId}{fn:Func}{c:Code}{args:List PV}{cy:List (Option En)}{R:PV→List (Option En)→Prop}{nt:Nat}{rs:List ResultVar}{L q:Prop}(hf:E.P.funcs[f]?=some fn)(k:L→r8 cy→LB=1099511627776→q)
 (hb : fn.body = some c := by rfl) (hname : (fn.name == "runtime.NumGoroutine") = false := by rfl) (hnt : fn.ntmps = nt := by rfl) (hrs : fn.results.toList = rs := by rfl) (hn : pw (oZ args) nt = true := by rfl)
 (e1:kE args=L:=by simp -implicitDefEqProofs only[go_sem,Int.reduceEq,Int.reduceLT,Int.reduceLE,Int.reduceToNat];exact rfl) (e2:Bj E (gx cy) c .on ⟨eE nt .undef (He 0 args),cy⟩ (fun _=>DW (qC E rs (gx cy) R))=q:=by simp -implicitDefEqProofs only[go_sem,Int.reduceEq,Int.reduceLT,Int.reduceLE,Int.reduceToNat];exact rfl):C E.P f args cy R:=
 CC hm hf hb hname hnt hrs hn fun h1 h2=>e2▸k (e1▸h1) h2 rfl
theorem sO{p:Prop}(h:p:=by first|(with_reducible exact td (by kernel_rfl))|omega|assumption|exact⟨F0 _,by omega⟩|exact⟨iZ _,by omega⟩|exact⟨BS _,by omega⟩|exact⟨Cu _,by omega⟩|exact⟨D3 _,by omega⟩|rfl|(simp[*];done)|(simp;omega)|exact⟨Cm _,by omega⟩|exact⟨Au _,by omega⟩|exact⟨F3 _,by omega⟩|exact⟨rj _,by omega⟩|exact⟨Eh _,by omega⟩):p:=h
theorem sV{p:Prop}(h:p:=by(simp -implicitDefEqProofs only[go_sem,Int.reduceEq,Int.reduceLT,Int.reduceLE,Int.reduceToNat];repeat'(first|exact pz.nil|apply pz.cons|exact Vw.same (by first|rfl|simp -implicitDefEqProofs only[go_sem,Int.reduceEq,Int.reduceLT,Int.reduceLE,Int.reduceToNat])|exact Vw.acc rfl rfl|exact Vw.cU rfl rfl (by simp -implicitDefEqProofs only[go_sem,Int.reduceEq,Int.reduceLT,Int.reduceLE,Int.reduceToNat])|exact Vw.nil|apply Vw.agg|apply Vw.fn|refine Vw.box rfl rfl ?_))):p:=h
structure Hd(q:Prop):Prop where k:q
theorem sQ{p q:Prop}(k:q)(h:Hd q→p:=by intro k;(repeat(with_reducible apply And.intro;exact sO));exact k.k):p:=h ⟨k⟩
theorem sI{p q:Prop}(k:q)(h:Hd q→p:=by intro k;(try with_reducible refine iK ?_);exact k.k):p:=h ⟨k⟩
theorem sJ{p q:Prop}(k:q)(h:Hd q→p:=by intro k;(try with_reducible refine iK ?_);(repeat(with_reducible apply And.intro;exact sO));exact k.k):p:=h ⟨k⟩
theorem sL{p:Prop}(h:p:=by show _ < _;omega):p:=h
theorem sK{p q:Prop}(k:q)(h:Hd q→p:=by intro k;(repeat(first|with_reducible refine Cp (by kernel_rfl) ?_|(with_reducible apply And.intro;exact sO)));exact k.k):p:=h ⟨k⟩
theorem sW{p q:Prop}(k:q)(h:Hd q→p:=by intro k;(try with_reducible refine Cp (by kernel_rfl) ?_);exact k.k):p:=h ⟨k⟩
theorem sM{p:Prop}(h:p:=by first|(simp[aP, *];done)|(simp[aP];done)|(simp;omega)):p:=h
theorem uA{p q:Prop}(k:q)(h:p=q:=by simp -implicitDefEqProofs only[go_sem,h1];exact rfl):p:=h▸k
theorem uB{p q:Prop}(k:q)(h:p=q:=by simp -implicitDefEqProofs only[go_sem,h2];exact rfl):p:=h▸k
theorem uC{p q:Prop}(k:q)(h:p=q:=by simp -implicitDefEqProofs only[go_sem,h3];exact rfl):p:=h▸k
theorem uD{p q:Prop}(k:q)(h:p=q:=by simp -implicitDefEqProofs only[go_sem,h4];exact rfl):p:=h▸k
theorem uE{p q:Prop}(k:q)(h:p=q:=by simp -implicitDefEqProofs only[go_sem,h5];exact rfl):p:=h▸k
theorem uF{p q:Prop}(k:q)(h:p=q:=by simp -implicitDefEqProofs only[go_sem,h];exact rfl):p:=h▸k
theorem uG{p q:Prop}(k:q)(h:p=q:=by simp -implicitDefEqProofs only[go_sem,k];exact rfl):p:=h▸k
theorem uH{p q:Prop}(k:q)(h:p=q:=by simp -implicitDefEqProofs only[go_sem,k0];exact rfl):p:=h▸k
theorem uI{p q:Prop}(k:q)(h:p=q:=by simp -implicitDefEqProofs only[go_sem,g1];exact rfl):p:=h▸k
theorem uJ{p q:Prop}(k:q)(h:p=q:=by simp -implicitDefEqProofs only[go_sem,h1,h2];exact rfl):p:=h▸k
theorem uK{p q:Prop}(k:q)(h:p=q:=by simp -implicitDefEqProofs only[go_sem,Option.isSome_none,Option.getD_none];exact rfl):p:=h▸k
theorem uL{p q:Prop}(k:q)(h:p=q:=by simp -implicitDefEqProofs only[go_sem,Option.isSome_some,Option.getD_some];exact rfl):p:=h▸k
theorem yA{p q:Prop}(k:q)(h:p=q:=by simp -implicitDefEqProofs only[go_sem,Int.reduceEq,Int.reduceLT,Int.reduceLE,Int.reduceToNat,h1];exact rfl):p:=h▸k
theorem yB{p q:Prop}(k:q)(h:p=q:=by simp -implicitDefEqProofs only[go_sem,Int.reduceEq,Int.reduceLT,Int.reduceLE,Int.reduceToNat,h2];exact rfl):p:=h▸k
theorem yC{p q:Prop}(k:q)(h:p=q:=by simp -implicitDefEqProofs only[go_sem,Int.reduceEq,Int.reduceLT,Int.reduceLE,Int.reduceToNat,h3];exact rfl):p:=h▸k
theorem yD{p q:Prop}(k:q)(h:p=q:=by simp -implicitDefEqProofs only[go_sem,Int.reduceEq,Int.reduceLT,Int.reduceLE,Int.reduceToNat,h4];exact rfl):p:=h▸k
theorem yE{p q:Prop}(k:q)(h:p=q:=by simp -implicitDefEqProofs only[go_sem,Int.reduceEq,Int.reduceLT,Int.reduceLE,Int.reduceToNat,h5];exact rfl):p:=h▸k
theorem yF{p q:Prop}(k:q)(h:p=q:=by simp -implicitDefEqProofs only[go_sem,Int.reduceEq,Int.reduceLT,Int.reduceLE,Int.reduceToNat,h];exact rfl):p:=h▸k
theorem yG{p q:Prop}(k:q)(h:p=q:=by simp -implicitDefEqProofs only[go_sem,Int.reduceEq,Int.reduceLT,Int.reduceLE,Int.reduceToNat,k];exact rfl):p:=h▸k
theorem yH{p q:Prop}(k:q)(h:p=q:=by simp -implicitDefEqProofs only[go_sem,Int.reduceEq,Int.reduceLT,Int.reduceLE,Int.reduceToNat,k0];exact rfl):p:=h▸k
theorem yI{p q:Prop}(k:q)(h:p=q:=by simp -implicitDefEqProofs only[go_sem,Int.reduceEq,Int.reduceLT,Int.reduceLE,Int.reduceToNat,g1];exact rfl):p:=h▸k
theorem yJ{p q:Prop}(k:q)(h:p=q:=by simp -implicitDefEqProofs only[go_sem,Int.reduceEq,Int.reduceLT,Int.reduceLE,Int.reduceToNat,h1,h2];exact rfl):p:=h▸k
end Go.Eng
namespace Go.Mod
open Go.Eng
def within(n lo hi:Int):Bool:=decide (lo≤n)&&decide (n≤hi)
theorem cz{n lo hi:Int}:within n lo hi=true↔lo≤n∧n≤hi:=by simp[within]
def cI{α:Type}(p:α→Bool):List α→Int→Int
 | [],_=>-1
 | x::xs,i=>if p x then i else cI p xs (i+1)
def idxOf{α:Type}(p:α→Bool)(xs:List α):Int:=cI p xs 0
def p5(a:Rat):Bool:=within a.N (-1000000000) 1000000000&&(within a.D 1 1000000000&&decide ((Int.gcd a.N a.D:Int)=1))
def Dk:Rat:=⟨0,0⟩
def D1(n d:Int):Rat×Bool:=
 if d=0 then(Dk,false) else
 let n1:=if d<0 then -n else n
 let d1:=if d<0 then -d else d
 let a:Rat:=⟨n1.tdiv (Int.gcd n1 d1),d1.tdiv (Int.gcd n1 d1)⟩
 if p5 a then(a,true) else(Dk,false)
def Ou(n d:Int):Rat×Bool:=if within n (-1000000000) 1000000000&&within d (-1000000000) 1000000000 then D1 n d else(Dk,false)
def DT(a b:Rat):Rat×Bool:=if p5 a&&p5 b then D1 (a.N*b.D+b.N*a.D) (a.D*b.D) else(Dk,false)
def DA(a b:Rat):Rat×Bool:=if p5 a&&p5 b then D1 (a.N*b.N) (a.D*b.D) else(Dk,false)
def rB(a b:Rat):Bool:=p5 a&&(p5 b&&decide (a.N*b.D<b.N*a.D))
def Og(a b:Rat):Rat×Bool:=if(DT a b).2 then DA (DT a b).1 ⟨1,2⟩ else(Dk,false)
def Hs(n:Int):Bool:=within n (-1000000) 1000000
def zE(l:so):Bool:=l.wH.all Hs&&(decide (l.wH.length=4)&&Hs l.bound)
def Hg:so:=⟨[],0,false⟩
def Mo(l:so):so:=if zE l then⟨l.wH.map fun c=>-c,-l.bound,!l.strict⟩ else Hg
def comb(m n:Int):List Int→List Int→List Int
 | a::as,b::bs=>(m*a+n*b)::comb m n as bs
 | _,_=>[]
def Ha(a:so)(m:Int)(b:so)(n:Int):so:=⟨comb m n a.wH b.wH,m*a.bound+n*b.bound,(decide (0<m)&&a.strict)||(decide (0<n)&&b.strict)⟩
def Kz(a:so)(m:Int)(b:so)(n:Int):so×Bool:=if zE (Ha a m b n) then(Ha a m b n,true) else(Hg,false)
def GP(a:so)(m:Int)(b:so)(n:Int):so×Bool:=if zE a&&zE b&&within m 0 1000000&&within n 0 1000000 then Kz a m b n else(Hg,false)
def flat(l:so):Bool:=l.wH.all fun c=>decide (c=0)
def LU(l:so):Bool:=zE l&&(flat l&&(decide (l.bound<0)||(decide (l.bound=0)&&l.strict)))
def whole(n:Int):Rat:=⟨n,1⟩
def plus(sum:Rat)(c:Int)(val:Rat):Rat×Bool:=if(DA (whole c) val).2 then DT sum (DA (whole c) val).1 else(Dk,false)
def Ir(list:List so):Bool:=decide (list.length≤20)&&list.all zE
def Lv:List so→List Int→so→so×Bool
 | l::ls,t::ts,out=>if(GP out 1 l t).2 then Lv ls ts (GP out 1 l t).1 else(Hg,false)
 | _,_,out=>(out,true)
def HS(list:List so)(times:List Int):so×Bool:=if Ir list&&decide (times.length=list.length) then Lv list times ⟨[0,0,0,0],0,false⟩ else(Hg,false)
def M3(list:List so)(times:List Int):Bool:=(HS list times).2&&LU (HS list times).1
def gK(c:UInt8):Bool:=decide ((97:Int)≤(c.toNat:Int))&&decide ((c.toNat:Int)≤122)
def dM(s:lp):Bool:=within s.length 1 2&&s.all gK
def isSort(n:Int):Bool:=decide (n=0)||decide (n=1)
def iX(x:Sym):Bool:=dM x.name&&(decide (x.args.length≤2)&&(isSort x.sort&&x.args.all isSort))
def il(a b:lp):Bool:=Op.bytesLess a b
def kB:Option lp→List Sym→Bool
 | _,[]=>true
 | p,x::xs=>iX x&&((match p with|none=>true|some q=>il q x.name)&&kB (some x.name) xs)
def dp(s:eD):Bool:=kB none s.syms&&decide (s.syms.length≤7)
def symbol(s:eD)(name:lp):Option Sym:=s.syms.find? fun x=>decide (x.name=name)
def lZ:Sym:=⟨[],[],0⟩
mutual
def fM:Term→Nat→Nat
 | .mk n ks,bh=>if dM n&&decide (ks.length≤2)&&decide (bh≤4) then 1+cR ks (bh+1) else 13
def cR:List Term→Nat→Nat
 | [],_=>0
 | t::ts,bh=>fM t bh+cR ts bh
end
def isTerm(t:Term):Bool:=decide (fM t 1≤12)
mutual
def a8:Term→Nat→Bool
 | _,0=>false
 | .mk n ks,d+1=>dM n&&(decide (ks.length≤2)&&bL ks d)
def bL:List Term→Nat→Bool
 | [],_=>true
 | t::ts,d=>a8 t d&&bL ts d
end
mutual
def many:Term→Nat→Nat
 | _,0=>1
 | .mk _ ks,d+1=>1+gB ks d
def gB:List Term→Nat→Nat
 | [],_=>0
 | t::ts,d=>many t d+gB ts d
end
mutual
def dE(s:eD):Term→Option Int
 | .mk n ks=>match symbol s n with
   | none=>none
   | some x=>if decide (x.args.length=ks.length)&&eH s ks x.args then some x.sort else none
def eH(s:eD):List Term→List Int→Bool
 | k::ks,a::as=>decide (dE s k=some a)&&eH s ks as
 | _,_=>true
end
def eg(s:eD)(t:Term):Option Int:=if dp s&&isTerm t then dE s t else none
def ig:List lp→lp
 | []=>[]
 | [t]=>t
 | t::ts=>t++(44::ig ts)
mutual
def aB:Term→lp
 | .mk n []=>n
 | .mk n (k::ks)=>n++(40::(ig (aB k::gD ks)++[41]))
def gD:List Term→List lp
 | []=>[]
 | t::ts=>aB t::gD ts
end
def fe(list:List Term)(t:Term):Int:=idxOf (fun u=>decide (t=u)) list
mutual
def cQ(list:List Term):Term→List Term
 | .mk n ks=>let l:=aU list ks;if fe l (.mk n ks)<0 then l++[.mk n ks] else l
def aU(list:List Term):List Term→List Term
 | []=>list
 | t::ts=>aU (cQ list t) ts
end
def j5:List Term→List Term→List Term
 | [],out=>out
 | t::ts,out=>if isTerm t then j5 ts (cQ out t) else []
def jd(list:List Term):List Term:=j5 list []
def Nu(Gw:List zM):List Term:=Gw.flatMap fun e=>[e.A,e.B]
def jm(s:eD)(e:zM):Bool:=(eg s e.A).isSome&&decide (eg s e.A=eg s e.B)
def Lm(s:eD)(Gw:List zM):Bool:=dp s&&decide (Gw.length≤12)&&Gw.all (jm s)&&decide ((jd (Nu Gw)).length≤24)
def eX:Term:=.mk [] []
def isNone(t:Term):Bool:=decide (t.name=[])&&decide (t.kids=[])
def DS:zM:=⟨eX,eX⟩
def N4:rv:=.mk 0 0 eX []
def GA(Gw:List zM)(mU n:Int)(t:Term)(kids:List zM):zM×Bool:=
 if(mU≠2∧n≠0)∨(mU≠1∧mU≠5∧isNone t=false) then(DS,false) else
 if mU=1 then(⟨t,t⟩,decide (kids.length=0)&&isTerm t) else
 if mU=2 then(if 0<kids.length∨within n 0 (Gw.length-1)=false then(DS,false) else(Gw.getD n.toNat DS,true)) else
 if mU=3 then(if kids.length=1 then(⟨(kids.getD 0 DS).B,(kids.getD 0 DS).A⟩,true) else(DS,false)) else
 if mU=4 then(if kids.length=2∧(kids.getD 0 DS).B=(kids.getD 1 DS).A then(⟨(kids.getD 0 DS).A,(kids.getD 1 DS).B⟩,true) else(DS,false)) else
 if mU=5 then(if kids.length=0∨dM t.name=false∨0<t.kids.length then(DS,false) else
  (⟨.mk t.name (kids.map (·.A)),.mk t.name (kids.map (·.B))⟩,isTerm (.mk t.name (kids.map (·.A)))&&isTerm (.mk t.name (kids.map (·.B))))) else
 (DS,false)
mutual
def vX(f:Int→Int→Term→List zM→zM×Bool):rv→Nat→zM×Bool
 | _,0=>(DS,false)
 | .mk r n t ks,d+1=>match ES f ks d with
   | none=>(DS,false)
   | some kids=>f r n t kids
def ES(f:Int→Int→Term→List zM→zM×Bool):List rv→Nat→Option (List zM)
 | [],_=>some []
 | w::ws,d=>if(vX f w d).2 then(ES f ws d).map fun es=>(vX f w d).1::es else none
end
def Cw(s:eD)(Gw:List zM)(w:rv):Option zM:=
 if Lm s Gw&&((vX (GA Gw) w 400).2&&Lm s [(vX (GA Gw) w 400).1]) then some (vX (GA Gw) w 400).1 else none
def jt:Option Term→List Term→List Int→Bool
 | p,t::ts,n::ns=>isTerm t&&(within n (-50) 50&&(decide (n≠0)&&((match p with|none=>true|some q=>il (aB q) (aB t))&&jt (some t) ts ns)))
 | _,_,_=>true
def bT(a:Atom):Bool:=
 if a.kind=1 then isTerm a.A&&(isTerm a.B&&(decide (a.aM.length=0)&&(decide (a.times.length=0)&&(decide (a.bound=0)&& !a.strict)))) else
 if a.kind=2 then isNone a.A&&(isNone a.B&&(within a.aM.length 1 4&&(decide (a.times.length=a.aM.length)&&(within a.bound (-1000) 1000&&jt none a.aM a.times)))) else false
def cd(s:eD)(t:Term):Bool:=decide (eg s t=some 1)
def eK(s:eD)(a:Atom):Bool:=dp s&&(bT a&&(if a.kind=1 then jm s ⟨a.A,a.B⟩ else a.aM.all (cd s)))
def ck(a:Atom):List Term:=if a.kind=1 then [a.A,a.B] else a.aM
def eJ(bb:List fh):List Term:=jd (bb.flatMap fun l=>ck l.atom)
def oN(s:eD)(bb:List fh):List Term:=(eJ bb).filter (cd s)
def fN(s:eD)(bb:List fh):Bool:=dp s&&decide (bb.length≤6)&&bb.all (fun l=>eK s l.atom)&&decide ((eJ bb).length≤24)&&decide ((oN s bb).length≤4)
def K8(bb:List fh):List zM:=bb.filterMap fun l=>if l.atom.kind=1∧l.no=false then some ⟨l.atom.A,l.atom.B⟩ else none
def K9:List Int→Int→Int→List Int
 | [],_,_=>[]
 | c::cs,i,v=>if i=0 then(c+v)::cs else c::K9 cs (i-1) v
def Lf(aM:List Term):List Term→List Int→List Int→List Int
 | t::ts,n::ns,cs=>Lf aM ts ns (K9 cs (fe aM t) n)
 | _,_,cs=>cs
def EP(aM list:List Term)(times:List Int)(bound:Int)(strict:Bool):so:=⟨Lf aM list times [0,0,0,0],bound,strict⟩
def JS(aM:List Term)(l:fh):List so:=
 if l.atom.kind=2 then [if l.no then Mo (EP aM l.atom.aM l.atom.times l.atom.bound l.atom.strict) else EP aM l.atom.aM l.atom.times l.atom.bound l.atom.strict]
 else if l.no=false∧0≤fe aM l.atom.A then [EP aM [l.atom.A,l.atom.B] [1,-1] 0 false,EP aM [l.atom.A,l.atom.B] [-1,1] 0 false] else []
def MK(aM:List Term)(bb:List fh):List so:=bb.flatMap (JS aM)
def ML(a b:Term):Atom:=⟨1,a,b,[],[],0,false⟩
def La(a b:Term):fh:=⟨ML a b,false⟩
def Fm(a b:Term):fh:=if il (aB b) (aB a) then⟨⟨2,eX,eX,[b,a],[-1,1],0,true⟩,false⟩ else⟨⟨2,eX,eX,[a,b],[1,-1],0,true⟩,false⟩
def Mc(a b:Term):List fh:=[La a b,Fm a b,Fm b a]
def differ(aM:List Term)(a b:Term):Bool:=decide (0≤fe aM a)&&(decide (0≤fe aM b)&&decide (fe aM a≠fe aM b))
def bare(c:Case)(n vC times NP:Bool)(kids:Nat):Bool:=
 (n||decide (c.n=0))&&((vC||decide (c.vC=N4))&&((times||decide (c.times.length=0))&&((NP||(isNone c.A&&isNone c.B))&&decide (c.kids.length=kids))))
theorem wx:eX.name=[]:=rfl
theorem wP:eX.kids=[]:=rfl
theorem zG:lZ.name=[]:=rfl
theorem zz:lZ.args=[]:=rfl
theorem zt:lZ.sort=0:=rfl
attribute [simp] wx wP zG zz zt gH cY vY uf
attribute [go_sem] wx wP zG zz zt
theorem qX(n:lp)(ks:List Term):(Term.mk n ks).name=n:=rfl
theorem rh(n:lp)(ks:List Term):(Term.mk n ks).kids=ks:=rfl
attribute [simp] qX rh
attribute [go_sem] qX rh
def HP(a b:Rat):Int:=if rB a b then -1 else if rB b a then 1 else 0
def E5:List Rat→List Rat→Int
 | [],[]=>0
 | [],_::_=>-1
 | _::_,[]=>1
 | a::as,b::bs=>if HP a b=0 then E5 as bs else HP a b
def Ie(a b:lp):Int:=if il a b then -1 else if il b a then 1 else 0
def G9(a b:Int):Int:=if a<b then -1 else if b<a then 1 else 0
def wN(a b:Row):Int:=if Ie a.name b.name≠0 then Ie a.name b.name else if G9 a.args.length b.args.length≠0 then G9 a.args.length b.args.length else E5 a.args b.args
def Li(r:Row):Bool:=dM r.name&&(decide (r.args.length≤2)&&(p5 r.val&&r.args.all p5))
def Ht:Option Row→List Row→Bool
 | _,[]=>true
 | p,r::rs=>Li r&&((match p with|none=>true|some q=>decide (wN q r<0))&&Ht (some r) rs)
def J4(m:Model):Bool:=decide (m.rows.length≤40)&&Ht none m.rows
def Lb(a:Rat)(sort:Int):Bool:=decide (sort=1)||decide (a.D=1)
def Ca:List Rat→List Int→Bool
 | a::as,n::ns=>Lb a n&&Ca as ns
 | _,_=>true
def H4(s:eD)(r:Row):Bool:=
 match symbol s r.name with
 | none=>false
 | some x=>decide (x.args.length=r.args.length)&&(Lb r.val x.sort&&Ca r.args x.args)
def Eu(s:eD)(m:Model):Bool:=dp s&&(J4 m&&m.rows.all (H4 s))
def lookup(rows:List Row)(name:lp)(args:List Rat):Rat:=
 match rows.find? (fun r=>decide (r.name=name∧r.args=args)) with
 | some r=>r.val
 | none=>⟨0,1⟩
mutual
def value(m:Model):Term→Rat
 | .mk n ks=>lookup m.rows n (values m ks)
def values(m:Model):List Term→List Rat
 | []=>[]
 | t::ts=>value m t::values m ts
end
def Lc(m:Model):List Term→List Int→Rat→Option Rat
 | t::ts,n::ns,sum=>if(plus sum n (value m t)).2 then Lc m ts ns (plus sum n (value m t)).1 else none
 | _,_,sum=>some sum
def below(a:Rat)(bound:Int)(strict:Bool):Bool:=if strict then rB a (whole bound) else !rB (whole bound) a
def MD(m:Model)(a:Atom):Option Bool:=if a.kind=1 then some (decide (value m a.A=value m a.B)) else(Lc m a.aM a.times (whole 0)).map fun x=>below x a.bound a.strict
def Jn(s:eD)(m:Model)(l:fh):Option Bool:=if Eu s m&&eK s l.atom then(MD m l.atom).map fun b=>b != l.no else none
mutual
def IY(s:eD)(aM:List Term):Case→List fh→Nat→Bool
 | .mk k n w ts a b ks,bb,bh=>
   if 14<bh then false else
   if k=1 then bare (.mk k n w ts a b ks) true true false false 0&&(within n 0 (bb.length-1)&&(match Cw s (K8 bb) w,bb[n.toNat]? with
    | some e,some l=>l.no&&(decide (l.atom.kind=1)&&(decide (e.A=l.atom.A)&&decide (e.B=l.atom.B)))
    | _,_=>false)) else
   if k=2 then bare (.mk k n w ts a b ks) false false true false 0&&M3 (MK aM bb) ts else
   if k=3 then bare (.mk k n w ts a b ks) false true false false 1&&(match Cw s (K8 bb) w with
    | some e=>differ aM e.A e.B&&Ba s aM ks [bb++[La e.A e.B]] (bh+1)
    | none=>false) else
   if k=4 then bare (.mk k n w ts a b ks) false false false true 3&&(differ aM a b&&Ba s aM ks ((Mc a b).map fun l=>bb++[l]) (bh+1)) else
   false
def Ba(s:eD)(aM:List Term):List Case→List (List fh)→Nat→Bool
 | c::cs,l::ls,bh=>IY s aM c l bh&&Ba s aM cs ls bh
 | _,_,_=>true
end
def Mr(s:eD)(bb:List fh)(c:Case):Bool:=fN s bb&&IY s (oN s bb) c bb 1
def cw(kind:Int):Int:=if kind=1 then 0 else if kind=2 then 1 else if kind=3∨kind=4∨kind=5∨kind=6 then 2 else -1
def tP:Atom:=⟨0,eX,eX,[],[],0,false⟩
def Jv:fh:=⟨tP,false⟩
def NI:Form:=.mk 0 Jv []
def ld(l:fh):Bool:=!l.no&&decide (l.atom=tP)
def dB(k:Int)(l:fh)(ks:List Form):Bool:=decide (cw k=ks.length)&&(if k=1 then bT l.atom else ld l)
mutual
def dv:Form→Nat→Nat
 | .mk k l ks,bh=>if decide (bh≤5)&&dB k l ks then 1+cS ks (bh+1) else 11
def cS:List Form→Nat→Nat
 | [],_=>0
 | t::ts,bh=>dv t bh+cS ts bh
end
mutual
def aJ:Form→Nat→Bool
 | _,0=>false
 | .mk k l ks,d+1=>dB k l ks&&bc ks d
def bc:List Form→Nat→Bool
 | [],_=>true
 | t::ts,d=>aJ t d&&bc ts d
end
mutual
def bJ:Form→Nat→Nat
 | _,0=>1
 | .mk _ _ ks,d+1=>1+bl ks d
def bl:List Form→Nat→Nat
 | [],_=>0
 | t::ts,d=>bJ t d+bl ts d
end
def bA(list:List Atom)(a:Atom):Int:=idxOf (fun b=>decide (a=b)) list
mutual
def withAtoms(list:List Atom):Form→List Atom
 | .mk k l ks=>if k=1 then(if bA list l.atom<0 then list++[l.atom] else list) else aS list ks
def aS(list:List Atom):List Form→List Atom
 | []=>list
 | t::ts=>aS (withAtoms list t) ts
end
def eC(f:Form):Bool:=decide (dv f 1≤10)&&decide ((withAtoms [] f).length≤6)
def plain(list:List Atom):List fh:=list.map fun a=>⟨a,false⟩
def kC(s:eD)(f:Form):Bool:=eC f&&fN s (plain (withAtoms [] f))
mutual
def holds(p:Atom→Bool):Form→Bool
 | .mk k l ks=>xX k l (sr p ks) p
def sr(p:Atom→Bool):List Form→List Bool
 | []=>[]
 | t::ts=>holds p t::sr p ts
def xX(k:Int)(l:fh)(is:List Bool)(p:Atom→Bool):Bool:=
 if k=1 then p l.atom != l.no else
 if k=2 then !(is.getD 0 false) else
 if k=3 then is.getD 0 false&&is.getD 1 false else
 if k=4 then is.getD 0 false||is.getD 1 false else
 if k=5 then !(is.getD 0 false)||is.getD 1 false else
 is.getD 0 false == is.getD 1 false
end
def L9(f:Form)(vals:List Bool):Option Bool:=
 if eC f&&decide ((withAtoms [] f).length=vals.length) then some (holds (fun a=>vals.getD (bA (withAtoms [] f) a).toNat false) f) else none
def G0(s:eD)(m:Model):List Atom→Option (List Bool)
 | []=>some []
 | a::as=>match Jn s m ⟨a,false⟩ with
   | none=>none
   | some b=>match G0 s m as with
     | none=>none
     | some bs=>some (b::bs)
def FQ(s:eD)(m:Model)(f:Form):Option Bool:=
 if kC s f then(match G0 s m (withAtoms [] f) with|none=>none|some vals=>L9 f vals) else none
def sm:List Form→List Atom→List Atom
 | [],out=>out
 | f::fs,out=>sm fs (withAtoms out f)
def bZ(list:List Form):Option (List Atom):=
 if decide (list.length≤5)&&(list.all eC&&decide ((sm list []).length≤6)) then some (sm list []) else none
def iG(s:eD)(list:List Form):Bool:=match bZ list with|none=>false|some atoms=>dp s&&fN s (plain atoms)
def dz(l many:Int):Bool:=decide (l≠0)&&within l (-many) many
def nZ:List Int→List Int→Int→Bool
 | _,[],_=>true
 | before,m::ms,many=>dz m many&&(!(before.contains m)&&(!(before.contains (-m))&&nZ (before++[m]) ms many))
def hH(marks:List Int)(many:Nat):Bool:=nZ [] marks many
def IK(marks:List Int)(atoms:List Atom):List fh:=marks.map fun m=>⟨atoms.getD (m.natAbs-1) tP,decide (m<0)⟩
def JA(s:eD)(list:List Form)(l:rl):Bool:=
 iG s list&&(decide (0<l.marks.length)&&(hH l.marks ((bZ list).getD []).length&&Mr s (IK l.marks ((bZ list).getD [])) l.case))
def Nj(s:eD)(m:Model)(list:List Form):Bool:=iG s list&&(Eu s m&&list.all fun f=>decide (FQ s m f=some true))
end Go.Mod
namespace Go.Proofs.YtgpjhjalfakpoaaGreat
open Go.Eng Go.Mod
set_option maxRecDepth 100000
theorem GV{n:Int}:(if n < -n then -n else n)=(n.natAbs:Int):=by split<;>omega
end Go.Proofs.YtgpjhjalfakpoaaGreat
namespace Go.Mod
open Go.Eng
mutual
theorem mi:∀(t:Term)(d:Nat),d≤4→(a8 t d=true→fM t (5-d)=many t d)∧(a8 t d=false→13≤fM t (5-d))
 | .mk n ks,0,_=>by simp[a8,fM]
 | .mk n ks,d+1,hd=>by
   obtain⟨h1,h2⟩:=sn ks d (by omega)
   have e:5-(d+1)+1=5-d:=by omega
   have e2:5-(d+1)≤4:=by omega
   simp only[a8,fM,many,e,e2,decide_true,Bool.and_true]
   cases hn:dM n
   ·simp
   ·rcases aa (ks.length≤2) with hk|hk
    ·simp only[hk,decide_true,Bool.and_self,ay,if_true]
     exact⟨fun h=>by rw[h1 h],fun h=>by have:=h2 h;omega⟩
    ·simp[hk]
theorem sn:∀(ts:List Term)(d:Nat),d≤4→(bL ts d=true→cR ts (5-d)=gB ts d)∧(bL ts d=false→13≤cR ts (5-d))
 | [],_,_=>by simp[bL,cR,gB]
 | t::ts,d,hd=>by
   obtain⟨h1,h2⟩:=mi t d hd
   obtain⟨h3,h4⟩:=sn ts d hd
   simp only[bL,cR,gB]
   cases ht:a8 t d
   ·have:=h2 ht
    exact⟨fun h=>by simp at h,fun _=>by omega⟩
   ·cases hts:bL ts d
    ·have:=h4 hts
     exact⟨fun h=>by simp at h,fun _=>by omega⟩
    ·exact⟨fun _=>by rw[h1 ht,h3 hts],fun h=>by simp at h⟩
end
def right(t:Term):Bool:=a8 t 4&&decide (many t 4≤12)
theorem rN(t:Term):right t=isTerm t:=by
 have h:=mi t 4 (by omega)
 simp only[show 5-4=1 from rfl] at h
 obtain⟨h1,h2⟩:=h
 unfold right isTerm
 cases h:a8 t 4
 ·have:=h2 h
  simp only[Bool.false_and]
  symm
  simp only[decide_eq_false_iff_not]
  omega
 ·rw[←h1 h]
  simp
theorem im{t:Term}(h:isTerm t=true):a8 t 4=true:=by
 rw[←rN] at h
 simp only[right,ae] at h
 exact h.1
mutual
theorem tu:∀(t:Term)(d:Nat),a8 t d=true→a8 t (d+1)=true
 | .mk n ks,0,h=>by simp[a8] at h
 | .mk n ks,d+1,h=>by
   simp only[a8,ae] at h⊢
   exact⟨h.1,h.2.1,xB ks d h.2.2⟩
theorem xB:∀(ts:List Term)(d:Nat),bL ts d=true→bL ts (d+1)=true
 | [],_,_=>by simp[bL]
 | t::ts,d,h=>by
   simp only[bL,ae] at h⊢
   exact⟨tu t d h.1,xB ts d h.2⟩
end
theorem jc:∀{ts:List Term}{d:Nat},bL ts d=true→∀t∈ts,a8 t d=true
 | [],_,_,t,ht=>by simp at ht
 | a::ts,d,h,t,ht=>by
   simp only[bL,ae] at h
   rcases aw.1 ht with rfl|ht
   ·exact h.1
   ·exact jc h.2 t ht
theorem iY{t:Term}{d:Nat}(h:a8 t (d+1)=true):dM t.name=true∧t.kids.length≤2∧bL t.kids d=true:=by
 cases t with
 | mk n ks=>
   simp only[a8,ae,decide_eq_true_eq] at h
   exact⟨h.1,h.2.1,h.2.2⟩
mutual
theorem AS:∀(t:Term)(d:Nat),a8 t d=true→many t d+1≤2 ^ d
 | .mk n ks,0,h=>by simp[a8] at h
 | .mk n ks,d+1,h=>by
   simp only[a8,ae,decide_eq_true_eq] at h
   have:=rb ks d h.2.2
   simp only[many]
   have h3:ks.length*(2 ^ d-1)≤2*(2 ^ d-1):=aW _ h.2.1
   have h4:1≤2 ^ d:=bC
   rw[eP]
   omega
theorem rb:∀(ts:List Term)(d:Nat),bL ts d=true→gB ts d≤ts.length*(2 ^ d-1)
 | [],_,_=>by simp[gB]
 | t::ts,d,h=>by
   simp only[bL,ae] at h
   have h1:=AS t d h.1
   have h2:=rb ts d h.2
   simp only[gB,aq,bp,Nat.one_mul]
   omega
end
mutual
theorem uq:∀(t:Term)(bh:Nat),1≤bh→bh≤5→fM t bh+14≤27*2 ^ (5-bh)
 | .mk n ks,bh,h1,h5=>by
   simp only[fM]
   split
   ·rename_i h
    simp only[ae,decide_eq_true_eq] at h
    have:=nv ks (bh+1) (by omega) (by omega)
    have h3:ks.length*(27*2 ^ (5-(bh+1))-14)≤2*(27*2 ^ (5-(bh+1))-14):=aW _ h.1.2
    have e:5-bh=(5-(bh+1))+1:=by omega
    have h4:1≤2 ^ (5-(bh+1)):=bC
    rw[e,eP]
    omega
   ·have h4:1≤2 ^ (5-bh):=bC
    omega
theorem nv:∀(ts:List Term)(bh:Nat),1≤bh→bh≤5→cR ts bh≤ts.length*(27*2 ^ (5-bh)-14)
 | [],_,_,_=>by simp[cR]
 | t::ts,bh,h1,h5=>by
   have h2:=uq t bh h1 h5
   have h3:=nv ts bh h1 h5
   simp only[cR,aq,bp,Nat.one_mul]
   omega
end
theorem fl:∀(ts l:List Term),aU l ts=ts.foldl cQ l
 | [],_=>rfl
 | t::ts,l=>by simp only[aU,iJ,fl ts]
theorem kF{ts:List Term}{i:Nat}(h:i<ts.length)(l:List Term):aU l (ts.take (i+1))=cQ (aU l (ts.take i)) ts[i]:=by
 have e:ts.take (i+1)=ts.take i++[ts[i]]:=by rw[br,ab h];rfl
 rw[e,fl,fl,jE]
 rfl
theorem kS(l:List Term)(t:Term):cQ l t=if fe (aU l t.kids) t<0 then aU l t.kids++[t] else aU l t.kids:=by
 cases t;rfl
mutual
theorem pJ:∀(t:Term)(d:Nat)(l:List Term),a8 t d=true→(cQ l t).length≤l.length+many t d
 | .mk n ks,0,l,h=>by simp[a8] at h
 | .mk n ks,d+1,l,h=>by
   simp only[a8,ae] at h
   have:=lG ks d l h.2.2
   simp only[cQ,many]
   split
   ·simp only[an,aq,b8]
    omega
   ·omega
theorem lG:∀(ts:List Term)(d:Nat)(l:List Term),bL ts d=true→(aU l ts).length≤l.length+gB ts d
 | [],_,_,_=>by simp[aU]
 | t::ts,d,l,h=>by
   simp only[bL,ae] at h
   have h1:=pJ t d l h.1
   have h2:=lG ts d (cQ l t) h.2
   simp only[aU,gB]
   omega
end
theorem kW:∀{ts:List Term}{d:Nat},bL ts d=true→∀i,bL (ts.take i) d=true
 | [],_,_,i=>by simp[bL]
 | t::ts,d,h,0=>by simp[bL]
 | t::ts,d,h,i+1=>by
   simp only[bL,ae,List.take_succ_cons] at h⊢
   exact⟨h.1,kW h.2 i⟩
theorem rZ{t:Term}{d:Nat}{l:List Term}(h:a8 t d=true)(hd:d≤4):(cQ l t).length≤l.length+15:=by
 have h1:=pJ t d l h
 have h2:=AS t d h
 have h3:2 ^ d≤2 ^ 4:=bH (by omega) hd
 omega
theorem pM{t:Term}{d:Nat}{l:List Term}(h:a8 t (d+1)=true)(hd:d≤3)(i:Nat):(aU l (t.kids.take i)).length≤l.length+14:=by
 obtain⟨_,h1,h2⟩:=iY h
 have h3:=lG (t.kids.take i) d l (kW h2 i)
 have h4:=rb (t.kids.take i) d (kW h2 i)
 have h5:2 ^ d≤2 ^ 3:=bH (by omega) hd
 have h6:(t.kids.take i).length≤2:=by simp;omega
 have h7:(t.kids.take i).length*(2 ^ d-1)≤2*(2 ^ d-1):=aW _ h6
 omega
theorem vN{n:Int}:isSort n=true↔n=0∨n=1:=by simp[isSort]
theorem wE:∀{l:List Sym}{p:Option lp},kB p l=true→∀x∈l,iX x=true
 | [],_,_,x,hx=>by simp at hx
 | a::l,p,h,x,hx=>by
   simp only[kB,ae] at h
   rcases aw.1 hx with rfl|hx
   ·exact h.1
   ·exact wE h.2.2 x hx
theorem zm{s:eD}{n:lp}{x:Sym}(hs:dp s=true)(h:symbol s n=some x):iX x=true:=by
 simp only[dp,ae] at hs
 exact wE hs.1 x (List.mem_of_find?_eq_some h)
theorem vS{x:Sym}(h:iX x=true):isSort x.sort=true∧∀n∈x.args,isSort n=true:=by
 simp only[iX,ae,List.all_eq_true] at h
 exact⟨h.2.2.1,h.2.2.2⟩
theorem Cb{s:eD}{t:Term}{n:Int}(hs:dp s=true)(h:dE s t=some n):isSort n=true:=by
 cases t with
 | mk nm ks=>
   simp only[dE] at h
   cases hx:symbol s nm with
   | none=>rw[hx] at h;cases h
   | some x=>
     rw[hx] at h
     simp only at h
     split at h
     ·cases h
      exact(vS (zm hs hx)).1
     ·cases h
def NK(r:lp):Prop:=∀c x,r=c::x→gK c=false
def Lh(r:lp):Prop:=∀c x,r=c::x→gK c=false∧c≠40
theorem Lh.n{r:lp}(h:Lh r):NK r:=fun c x e=>(h c x e).1
mutual
theorem vV:∀(t:Term)(d:Nat),a8 t d=true→(aB t).length+6≤8*2 ^ d
 | t,0,h=>by simp[a8] at h
 | .mk n [],d+1,h=>by
   simp only[a8,ae] at h
   have h1:n.length≤2:=by
    have:=h.1
    simp only[dM,ae] at this
    have:=cz.1 this.1
    omega
   have h4:1≤2 ^ d:=bC
   simp only[aB,eP]
   omega
 | .mk n (k::ks),d+1,h=>by
   simp only[a8,ae,decide_eq_true_eq] at h
   have h1:n.length≤2:=by
    have:=h.1
    simp only[dM,ae] at this
    have:=cz.1 this.1
    omega
   have h2:=zq (k::ks) d h.2.2
   have h4:1≤2 ^ d:=bC
   simp only[gD] at h2
   simp only[aB,an,aq,b8,eP]
   have h3:(k::ks).length*(8*2 ^ d-5)≤2*(8*2 ^ d-5):=aW _ h.2.1
   omega
theorem zq:∀(ts:List Term)(d:Nat),bL ts d=true→(ig (gD ts)).length≤ts.length*(8*2 ^ d-5)
 | [],_,_=>by simp[gD,ig]
 | [t],d,h=>by
   simp only[bL,ae] at h
   have:=vV t d h.1
   simp only[gD,ig,aq,b8]
   omega
 | t::u::ts,d,h=>by
   simp only[bL,ae] at h
   have h1:=vV t d h.1
   have h2:=zq (u::ts) d (by simp only[bL,ae];exact h.2)
   simp only[gD] at h2
   simp only[gD,ig,an,aq] at h2⊢
   have e:(ts.length+1+1)*(8*2 ^ d-5)=(ts.length+1)*(8*2 ^ d-5)+(8*2 ^ d-5):=by rw[bp (ts.length+1) 1];omega
   rw[e]
   omega
end
theorem nE{t:Term}{d:Nat}(h:a8 t d=true)(hd:d≤4):(aB t).length≤122:=by
 have h1:=vV t d h
 have h2:2 ^ d≤2 ^ 4:=bH (by omega) hd
 omega
theorem oB{α:Type}{p:α→Bool}:∀{xs:List α}{i:Int},0≤i→cI p xs i=if cI p xs 0<0 then -1 else cI p xs 0+i
 | [],i,h=>by simp[cI]
 | x::xs,i,h=>by
   simp only[cI]
   split
   ·simp
   ·rw[oB (i:=i+1) (by omega),oB (i:=0+1) (by omega)]
    rcases aa (cI p xs 0<0) with hc|hc
    ·simp[hc]
    ·simp only[hc,if_false]
     rw[if_neg (by omega)]
     omega
theorem BF{α:Type}{p:α→Bool}:∀{xs:List α}{i:Int},cI p xs i<i+xs.length∨cI p xs i = -1
 | [],i=>by simp[cI]
 | x::xs,i=>by
   simp only[cI,aq]
   split
   ·left;omega
   ·rcases BF (p:=p) (xs:=xs) (i:=i+1) with h|h
    ·left;omega
    ·right;exact h
def Nb(aM:List Term):List Term→List Int→List Int→List Int
 | t::ts,n::ns,cs=>Nb aM ts ns (cs.set (fe aM t).toNat n)
 | _,_,cs=>cs
theorem getD_set_ne{cs:List Int}{i k:Nat}{v:Int}(h:i≠k):(cs.set i v).getD k 0=cs.getD k 0:=by
 simp[bI,List.getElem?_set_ne h]
theorem eW{α:Type}{xs:List α}{i:Nat}(h:i<xs.length):xs.take (i+1)=xs.take i++[xs[i]]:=by rw[br,ab h];rfl
theorem CL(p:Option Term)(t:Term)(ts:List Term)(n:Int)(ns:List Int):jt p (t::ts) (n::ns)=(isTerm t&&(within n (-50) 50&&(decide (n≠0)&&((match p with|none=>true|some q=>il (aB q) (aB t))&&jt (some t) ts ns)))):=rfl
theorem qO:∀{ts:List Term}{ns:List Int}{p:Option Term},jt p ts ns=true→ns.length=ts.length→(∀t∈ts,isTerm t=true)∧(∀n∈ns,-50≤n∧n≤50)
 | [],[],_,_,_=>by simp
 | [],_::_,_,_,h=>by simp at h
 | _::_,[],_,_,h=>by simp at h
 | t::ts,n::ns,p,h,hl=>by
   rw[CL] at h
   simp only[ae] at h
   obtain⟨h1,h2⟩:=qO h.2.2.2.2 (by simpa using hl)
   have h3:=cz.1 h.2.1
   refine⟨fun u hu=>?_,fun m hm=>?_⟩
   ·rcases aw.1 hu with rfl|hu
    ·exact h.1
    ·exact h1 u hu
   ·rcases aw.1 hm with rfl|hm
    ·exact h3
    ·exact h2 m hm
theorem qw{a:Atom}(h:bT a=true)(k:a.kind=2):isNone a.A=true∧isNone a.B=true∧a.aM.length≤4∧a.times.length=a.aM.length∧(-1000≤a.bound∧a.bound≤1000)∧jt none a.aM a.times=true:=by
 rw[bT,if_neg (by omega),if_pos k] at h
 simp only[ae,decide_eq_true_eq] at h
 have h3:=cz.1 h.2.2.1
 have h5:=cz.1 h.2.2.2.2.1
 exact⟨h.1,h.2.1,by omega,h.2.2.2.1,h5,h.2.2.2.2.2⟩
theorem oL{a:Atom}(h:bT a=true):a.kind=1∨a.kind=2:=by
 rcases aa (a.kind=1) with k1|k1
 ·exact .inl k1
 ·rcases aa (a.kind=2) with k2|k2
  ·exact .inr k2
  ·simp[bT,k1,k2] at h
theorem zK{a:Atom}(h:bT a=true)(k:a.kind=1):isTerm a.A=true∧isTerm a.B=true:=by
 simp only[bT,k,if_true,ae] at h
 exact⟨h.1,h.2.1⟩
theorem lb{a:Atom}(h:bT a=true):(ck a).length≤4∧∀t∈ck a,isTerm t=true:=by
 unfold ck
 rcases aa (a.kind=1) with k1|k1
 ·rw[if_pos k1]
  have:=zK h k1
  refine⟨by simp,fun t ht=>?_⟩
  simp only[aw,ct,or_false] at ht
  rcases ht with rfl|rfl
  ·exact this.1
  ·exact this.2
 ·rw[if_neg k1]
  have k2:a.kind=2:=(oL h).resolve_left k1
  have:=qw h k2
  exact⟨this.2.2.1,(qO this.2.2.2.2.2 this.2.2.2.1).1⟩
def eu(bb:List fh):List Term:=bb.flatMap fun l=>ck l.atom
theorem qx(bb:List fh):eJ bb=jd (eu bb):=rfl
theorem p9{bb:List fh}{i:Nat}(h:i<bb.length):eu (bb.take (i+1))=eu (bb.take i)++ck bb[i].atom:=by
 rw[eW h]
 simp only[eu,List.flatMap_append,jC,List.flatMap_nil,List.append_nil]
theorem hQ:∀{bb:List fh},(∀l∈bb,bT l.atom=true)→(eu bb).length≤4*bb.length∧∀t∈eu bb,isTerm t=true
 | [],_=>by simp[eu]
 | l::ls,h=>by
   obtain⟨h1,h2⟩:=hQ (bb:=ls) fun x hx=>h x (by simp[hx])
   obtain⟨h3,h4⟩:=lb (h l (by simp))
   simp only[eu,jC,an,aq,aE] at h1 h2⊢
   refine⟨by omega,fun t ht=>?_⟩
   rcases ht with ht|ht
   ·exact h4 t ht
   ·exact h2 t ht
theorem tQ:∀{ts out:List Term},(∀t∈ts,isTerm t=true)→j5 ts out=aU out ts
 | [],_,_=>by simp[j5,aU]
 | t::ts,out,h=>by
   simp only[j5,aU,h t (by simp),if_true]
   exact tQ fun u hu=>h u (by simp[hu])
theorem mB{ts:List Term}(h:∀t∈ts,isTerm t=true):jd ts=aU [] ts:=tQ h
mutual
theorem nY:∀(t:Term)(d:Nat)(l:List Term),d≤4→a8 t d=true→many t d≤12→(∀u∈l,isTerm u=true)→∀u∈cQ l t,isTerm u=true
 | .mk n ks,0,l,_,h,_,_,u,_=>by simp[a8] at h
 | .mk n ks,d+1,l,hd,h,hm,hl,u,hu=>by
   have h':=h
   simp only[a8,ae] at h'
   have hk:=mW ks d l (by omega) h'.2.2 (by simp only[many] at hm;omega) hl
   simp only[cQ] at hu
   split at hu
   ·simp only[aE,aw,ct,or_false] at hu
    rcases hu with hu|rfl
    ·exact hk u hu
    ·rw[←rN]
     have up:∀(k:Nat)(t:Term)(d:Nat),d+k≤4→a8 t d=true→a8 t (d+k)=true:=by
      intro k
      induction k with
      | zero=>intro t d _ h;exact h
      | succ k ih=>intro t d hk h;rw[←dZ];exact tu _ _ (ih t d (by omega) h)
     have s4:=up (4-(d+1)) _ (d+1) (by omega) h
     rw[show d+1+(4-(d+1))=4 by omega] at s4
     have m1:=(mi (.mk n ks) (d+1) hd).1 h
     have m2:=(mi (.mk n ks) 4 (by omega)).1 s4
     simp only[right,s4,ay,decide_eq_true_eq]
     have mm:∀(k:Nat)(t:Term)(d:Nat),d+k≤4→a8 t d=true→many t (d+k)=many t d:=by
      intro k
      induction k with
      | zero=>intro t d _ _;rfl
      | succ k ih=>
        intro t d hk h
        have h1:=ih t d (by omega) h
        have:∀(d:Nat)(t:Term),a8 t d=true→many t (d+1)=many t d:=by
         intro d
         induction d with
         | zero=>intro t h;cases t;simp[a8] at h
         | succ d ihd=>
           intro t h
           cases t with
           | mk n ks=>
             simp only[a8,ae] at h
             have hs:∀(ks:List Term),bL ks d=true→gB ks (d+1)=gB ks d:=by
              intro ks
              induction ks with
              | nil=>intro _;simp[gB]
              | cons a as iha=>
                intro h
                simp only[bL,ae] at h
                simp only[gB,ihd a h.1,iha h.2]
             simp only[many,hs ks h.2.2]
        rw[←dZ,this (d+k) t (up k t d (by omega) h),h1]
     have:=mm (4-(d+1)) (.mk n ks) (d+1) (by omega) h
     rw[show d+1+(4-(d+1))=4 by omega] at this
     omega
   ·exact hk u hu
theorem mW:∀(ts:List Term)(d:Nat)(l:List Term),d≤4→bL ts d=true→gB ts d≤12→(∀u∈l,isTerm u=true)→∀u∈aU l ts,isTerm u=true
 | [],_,l,_,_,_,hl,u,hu=>hl u (by simpa[aU] using hu)
 | t::ts,d,l,hd,h,hm,hl,u,hu=>by
   simp only[bL,ae] at h
   simp only[gB] at hm
   simp only[aU] at hu
   exact mW ts d _ hd h.2 (by omega) (nY t d l hd h.1 (by omega) hl) u hu
end
theorem mQ:∀(ts l:List Term),(∀t∈ts,isTerm t=true)→(∀u∈l,isTerm u=true)→∀u∈aU l ts,isTerm u=true
 | [],l,_,hl,u,hu=>hl u (by simpa[aU] using hu)
 | t::ts,l,ht,hl,u,hu=>by
   simp only[aU] at hu
   have h4:=ht t (by simp)
   have hr:=h4
   rw[←rN] at hr
   simp only[right,ae,decide_eq_true_eq] at hr
   exact mQ ts _ (fun x hx=>ht x (by simp[hx])) (nY t 4 l (by omega) hr.1 hr.2 hl) u hu
theorem uR{ts:List Term}(h:∀t∈ts,isTerm t=true):∀u∈jd ts,isTerm u=true:=by
 rw[mB h]
 exact mQ ts [] h (by simp)
theorem sN{cs:List Int}{i:Nat}{v:Int}(h:i<cs.length):(aL cs).set i [.val (.int .i64 v)]=aL (cs.set i v):=by
 simp[aL,List.map_set]
structure Fit(aM:List Term)(l:fh):Prop where
 wf:bT l.atom=true
 sum:l.atom.kind=2→∀t∈l.atom.aM,t∈aM
 eq:l.atom.kind=1→(l.atom.A∈aM↔l.atom.B∈aM)
theorem FJ(k:Int):cw k≤2:=by unfold cw;split<;>(try split)<;>(try split)<;>omega
theorem jq{k:Int}{l:fh}{ks:List Form}(h:dB k l ks=true):ks.length≤2:=by
 simp only[dB,ae,decide_eq_true_eq] at h
 have:=FJ k
 omega
mutual
theorem lB:∀(f:Form)(d:Nat),d≤5→(aJ f d=true→dv f (6-d)=bJ f d)∧(aJ f d=false→11≤dv f (6-d))
 | .mk k l ks,0,_=>by simp[aJ,dv]
 | .mk k l ks,d+1,hd=>by
   obtain⟨h1,h2⟩:=nX ks d (by omega)
   have e:6-(d+1)+1=6-d:=by omega
   have e2:6-(d+1)≤5:=by omega
   simp only[aJ,dv,bJ,e,e2,decide_true,ay]
   cases hn:dB k l ks
   ·simp
   ·simp only[ay,if_true]
    exact⟨fun h=>by rw[h1 h],fun h=>by have:=h2 h;omega⟩
theorem nX:∀(ts:List Form)(d:Nat),d≤5→(bc ts d=true→cS ts (6-d)=bl ts d)∧(bc ts d=false→11≤cS ts (6-d))
 | [],_,_=>by simp[bc,cS,bl]
 | t::ts,d,hd=>by
   obtain⟨h1,h2⟩:=lB t d hd
   obtain⟨h3,h4⟩:=nX ts d hd
   simp only[bc,cS,bl]
   cases ht:aJ t d
   ·have:=h2 ht
    exact⟨fun h=>by simp at h,fun _=>by omega⟩
   ·cases hts:bc ts d
    ·have:=h4 hts
     exact⟨fun h=>by simp at h,fun _=>by omega⟩
    ·exact⟨fun _=>by rw[h1 ht,h3 hts],fun h=>by simp at h⟩
end
def zW(f:Form):Bool:=aJ f 5&&(decide (bJ f 5≤10)&&decide ((withAtoms [] f).length≤6))
theorem y4(f:Form):zW f=eC f:=by
 have h:=lB f 5 (by omega)
 simp only[show 6-5=1 from rfl] at h
 obtain⟨h1,h2⟩:=h
 unfold zW eC
 cases h:aJ f 5
 ·have:=h2 h
  have:¬dv f 1≤10:=by omega
  simp[this]
 ·rw[←h1 h]
  simp
theorem eL{f:Form}(h:eC f=true):aJ f 5=true∧bJ f 5≤10∧(withAtoms [] f).length≤6:=by
 rw[←y4] at h
 simpa[zW] using h
theorem bt:∀{ts:List Form}{d:Nat},bc ts d=true→∀t∈ts,aJ t d=true
 | [],_,_,t,ht=>by simp at ht
 | a::ts,d,h,t,ht=>by
   simp only[bc,ae] at h
   rcases aw.1 ht with rfl|ht
   ·exact h.1
   ·exact bt h.2 t ht
theorem cp{f:Form}{d:Nat}(h:aJ f (d+1)=true):dB f.kind f.lit f.kids=true∧f.kids.length≤2∧bc f.kids d=true:=by
 cases f with
 | mk k l ks=>
   simp only[aJ,ae] at h
   exact⟨h.1,jq h.1,h.2⟩
mutual
theorem gl:∀(f:Form)(d:Nat),aJ f d=true→bJ f d+1≤2 ^ d
 | .mk k l ks,0,h=>by simp[aJ] at h
 | .mk k l ks,d+1,h=>by
   simp only[aJ,ae] at h
   have:=ju ks d h.2
   simp only[bJ]
   have h3:ks.length*(2 ^ d-1)≤2*(2 ^ d-1):=aW _ (jq h.1)
   have h4:1≤2 ^ d:=bC
   rw[eP]
   omega
theorem ju:∀(ts:List Form)(d:Nat),bc ts d=true→bl ts d≤ts.length*(2 ^ d-1)
 | [],_,_=>by simp[bl]
 | t::ts,d,h=>by
   simp only[bc,ae] at h
   have h1:=gl t d h.1
   have h2:=ju ts d h.2
   simp only[bl,aq,bp,Nat.one_mul]
   omega
end
mutual
theorem oj:∀(f:Form)(bh:Nat),1≤bh→bh≤6→dv f bh+12≤23*2 ^ (6-bh)
 | .mk k l ks,bh,h1,h5=>by
   simp only[dv]
   split
   ·rename_i h
    simp only[ae,decide_eq_true_eq] at h
    have:=kY ks (bh+1) (by omega) (by omega)
    have h3:ks.length*(23*2 ^ (6-(bh+1))-12)≤2*(23*2 ^ (6-(bh+1))-12):=aW _ (jq h.2)
    have e:6-bh=(6-(bh+1))+1:=by omega
    have h4:1≤2 ^ (6-(bh+1)):=bC
    rw[e,eP]
    omega
   ·have h4:1≤2 ^ (6-bh):=bC
    omega
theorem kY:∀(ts:List Form)(bh:Nat),1≤bh→bh≤6→cS ts bh≤ts.length*(23*2 ^ (6-bh)-12)
 | [],_,_,_=>by simp[cS]
 | t::ts,bh,h1,h5=>by
   have h2:=oj t bh h1 h5
   have h3:=kY ts bh h1 h5
   simp only[cS,aq,bp,Nat.one_mul]
   omega
end
theorem ku:∀(ts:List Form)(l:List Atom),aS l ts=ts.foldl withAtoms l
 | [],_=>rfl
 | t::ts,l=>by simp only[aS,iJ,ku ts]
theorem fm{ts:List Form}{i:Nat}(h:i<ts.length)(l:List Atom):aS l (ts.take (i+1))=withAtoms (aS l (ts.take i)) ts[i]:=by
 have e:ts.take (i+1)=ts.take i++[ts[i]]:=by rw[br,ab h];rfl
 rw[e,ku,ku,jE]
 rfl
theorem dC(l:List Atom)(f:Form):withAtoms l f=if f.kind=1 then(if bA l f.lit.atom<0 then l++[f.lit.atom] else l) else aS l f.kids:=by
 cases f;rfl
theorem r7{a:Atom}:∀{l:List Atom}{i:Int},0≤i→(0≤cI (fun b=>decide (a=b)) l i↔a∈l)
 | [],i,_=>by simp[cI]
 | x::xs,i,h=>by
   simp only[cI,decide_eq_true_eq,aw]
   split
   ·rename_i e
    simp[e,h]
   ·rename_i e
    rw[r7 (l:=xs) (by omega)]
    simp[e]
theorem hG{l:List Atom}{a:Atom}:0≤bA l a↔a∈l:=r7 (by omega)
theorem rH{a:Atom}:∀{l:List Atom}{i:Int},cI (fun b=>decide (a=b)) l i<i+l.length∨cI (fun b=>decide (a=b)) l i = -1
 | [],i=>by simp[cI]
 | x::xs,i=>by
   simp only[cI,aq]
   split
   ·left;omega
   ·rcases rH (a:=a) (l:=xs) (i:=i+1) with h|h
    ·left;omega
    ·right;exact h
theorem v8{l:List Atom}{a:Atom}(h:a∈l):(bA l a).toNat<l.length:=by
 have h1:=hG.2 h
 have h2:=rH (a:=a) (l:=l) (i:=0)
 simp only[bA,idxOf] at h1⊢
 omega
mutual
theorem uQ:∀(f:Form)(l:List Atom),∀u∈l,u∈withAtoms l f
 | .mk k x ks,l,u,hu=>by
   simp only[withAtoms]
   split
   ·split
    ·exact dy _ hu
    ·exact hu
   ·exact jP ks l u hu
theorem jP:∀(ts:List Form)(l:List Atom),∀u∈l,u∈aS l ts
 | [],_,_,hu=>hu
 | t::ts,l,u,hu=>jP ts _ u (uQ t l u hu)
end
def inside(l:List Atom)(f:Form):Prop:=∀u∈withAtoms [] f,u∈l
mutual
theorem pN:∀(f:Form)(d:Nat)(l:List Atom),aJ f d=true→(withAtoms l f).length≤l.length+bJ f d
 | .mk k x ks,0,_,h=>by simp[aJ] at h
 | .mk k x ks,d+1,l,h=>by
   simp only[aJ,ae] at h
   simp only[withAtoms,bJ]
   split
   ·split
    ·simp
    ·omega
   ·have:=jz ks d l h.2
    omega
theorem jz:∀(ts:List Form)(d:Nat)(l:List Atom),bc ts d=true→(aS l ts).length≤l.length+bl ts d
 | [],_,_,_=>by simp[aS,bl]
 | t::ts,d,l,h=>by
   simp only[bc,ae] at h
   have h1:=pN t d l h.1
   have h2:=jz ts d (withAtoms l t) h.2
   simp only[aS,bl]
   omega
end
theorem yw(l:List Atom)(f:Form)(h:f.kind=1):f.lit.atom∈withAtoms l f:=by
 rw[dC,if_pos h]
 split
 ·simp
 ·rename_i hx
  exact hG.1 (by omega)
mutual
theorem p7:∀(f:Form)(l l':List Atom),(∀u∈l,u∈l')→∀u∈withAtoms l f,u∈withAtoms l' f
 | .mk k x ks,l,l',h,u,hu=>by
   simp only[withAtoms] at hu⊢
   split at hu
   ·rename_i hk
    simp only[hk,if_true]
    have nh:∀v,v∈l'∨v=x.atom→v∈(if bA l' x.atom<0 then l'++[x.atom] else l'):=by
     intro v hv
     split
     ·rcases hv with hv|hv
      ·exact dy _ hv
      ·simp[hv]
     ·rename_i hx
      rcases hv with hv|hv
      ·exact hv
      ·rw[hv];exact hG.1 (by omega)
    split at hu
    ·rcases aE.1 hu with hu|hu
     ·exact nh u (.inl (h u hu))
     ·exact nh u (.inr (by simpa using hu))
    ·exact nh u (.inl (h u hu))
   ·rename_i hk
    simp only[hk,if_false]
    exact oU ks l l' h u hu
theorem oU:∀(ts:List Form)(l l':List Atom),(∀u∈l,u∈l')→∀u∈aS l ts,u∈aS l' ts
 | [],_,_,h,u,hu=>h u hu
 | t::ts,l,l',h,u,hu=>oU ts _ _ (p7 t l l' h) u hu
end
theorem ly:∀(ts:List Form)(l:List Atom),∀t∈ts,∀u∈withAtoms [] t,u∈aS l ts
 | [],_,t,ht,_,_=>by simp at ht
 | a::ts,l,t,ht,u,hu=>by
   rcases aw.1 ht with rfl|ht
   ·exact jP ts _ u (p7 t [] l (by simp) u hu)
   ·exact ly ts _ t ht u hu
theorem du{l:List Atom}{f:Form}(h:inside l f)(hk:f.kind≠1):∀t∈f.kids,inside l t:=by
 intro t ht u hu
 apply h
 rw[dC,if_neg hk]
 exact ly f.kids [] t ht u hu
theorem qn{l:List Atom}{f:Form}(h:inside l f)(hk:f.kind=1):f.lit.atom∈l:=h _ (yw [] f hk)
theorem qe{l:List Atom}{i:Nat}(h:i<l.length):plain (l.take (i+1))=plain (l.take i)++[⟨l[i],false⟩]:=by
 have e:l.take (i+1)=l.take i++[l[i]]:=by rw[br,ab h];rfl
 simp only[plain,e,List.map_append,List.map_cons,List.map_nil]
theorem tc(l:List Atom):(plain l).length=l.length:=by simp[plain]
def N6(as:List Rat):Bool:=as.all p5
def CH:List Rat→List Rat→Bool
 | a::as,b::bs=>if a=b then CH as bs else rB a b
 | _,_=>false
def KA(a b:Row):Bool:=if a.name=b.name then(if a.args.length=b.args.length then CH a.args b.args else decide (a.args.length<b.args.length)) else il a.name b.name
def Ij:Option Row→List Row→Bool
 | _,[]=>true
 | p,r::rs=>Li r&&((match p with|none=>true|some q=>KA q r)&&Ij (some r) rs)
def cut:List Row→Row→Nat
 | [],_=>0
 | r::rs,t=>if wN r t<0 then cut rs t+1 else 0
def gI(rs:List Row)(t:Row):Prop:=rs.Pairwise (fun a b=>wN b t<0→wN a t<0)
def found(rs:List Row)(t:Row):Bool:=match rs[cut rs t]? with|some r=>decide (wN r t=0)|none=>false
theorem DZ{marks:List Int}{i:Nat}(h:i<marks.length)(many:Int) :
 nZ (marks.take i) (marks.drop i) many=(dz marks[i] many&&(!((marks.take i).contains marks[i])&&(!((marks.take i).contains (-marks[i]))&&nZ (marks.take (i+1)) (marks.drop (i+1)) many))):=by
 have e:marks.take (i+1)=marks.take i++[marks[i]]:=by rw[br,ab h];rfl
 rw[List.drop_eq_getElem_cons h,e];rfl
theorem F4{marks:List Int}{i:Nat}(h:marks.length≤i)(many:Int):nZ (marks.take i) (marks.drop i) many=true:=by
 rw[List.drop_of_length_le h];rfl
def N5:List Int→Int→Int
 | [],_=>0
 | x::xs,n=>if x=n then 1 else if x = -n then -1 else N5 xs n
theorem nT{marks:List Int}{many:Nat}(h:hH marks many=true):∀m∈marks,m≠0 ∧ -(many:Int)≤m∧m≤many:=by
 have key:∀{ms before:List Int},nZ before ms many=true→∀m∈ms,m≠0 ∧ -(many:Int)≤m∧m≤many:=by
  intro ms
  induction ms with
  | nil=>intro _ _ m hm;simp at hm
  | cons a ms ih=>
    intro before h m hm
    simp only[nZ,ae] at h
    rcases aw.1 hm with rfl|hm
    ·have:=h.1
     simp only[dz,ae,decide_eq_true_eq,cz] at this
     exact this
    ·exact ih h.2.2.2 m hm
 exact key h
theorem rk:∀(fs:List Form)(out:List Atom),sm fs out=aS out fs
 | [],_=>rfl
 | f::fs,out=>by simp only[sm,aS,rk fs]
theorem mR:∀(fs:List Form)(l:List Atom),(∀f∈fs,eC f=true)→(aS l fs).length≤l.length+10*fs.length
 | [],l,_=>by simp[aS]
 | f::fs,l,h=>by
   have h0:=eL (h f (by simp))
   have h1:=pN f 5 l h0.1
   have h2:=mR fs (withAtoms l f) fun x hx=>h x (by simp[hx])
   simp only[aS,aq]
   omega
theorem mA(list:List Form):bZ list=if list.length≤5∧list.all eC=true∧(aS [] list).length≤6 then some (aS [] list) else none:=by
 unfold bZ
 rw[rk]
 simp only[ae,decide_eq_true_eq]
theorem pR:∀{l:List Nat}(k:Nat),l.Pairwise (fun a b=>a≠b)→l.length≤(l.filter fun x=>decide (x≠k)).length+1
 | [],_,_=>by simp
 | a::l,k,h=>by
   obtain⟨h1,h2⟩:=bD.1 h
   rcases aa (a=k) with e|e
   ·have hf:(l.filter fun x=>decide (x≠k))=l:=List.filter_eq_self.2 fun x hx=>by
     have:=h1 x hx
     rw[e] at this
     simpa using fun hh=>this hh.symm
    rw[c7,if_neg (by simp[e]),hf,aq]
    exact Nat.le_refl _
   ·have ih:=pR k h2
    rw[c7,if_pos (by simp[e])]
    simp only[aq]
    omega
theorem Ak:∀(k:Nat)(l:List Nat),l.Pairwise (fun a b=>a≠b)→(∀x∈l,x<k)→l.length≤k
 | 0,l,_,h=>by
   cases l with
   | nil=>simp
   | cons a l=>exact absurd (h a (by simp)) (by omega)
 | k+1,l,hp,h=>by
   have h1:=pR k hp
   have h2:=Ak k (l.filter fun x=>decide (x≠k)) (hp.filter _) fun x hx=>by
    obtain⟨hx1,hx2⟩:=List.mem_filter.1 hx
    have:=h x hx1
    have:x≠k:=by simpa using hx2
    omega
   omega
theorem xT{many:Int}:∀{ms before:List Int},nZ before ms many=true→ms.Pairwise (fun a b=>a≠b)∧∀m∈ms,m∉before
 | [],_,_=>⟨List.Pairwise.nil,fun m hm=>by simp at hm⟩
 | a::ms,before,h=>by
   simp only[nZ,ae,Bool.not_eq_true'] at h
   obtain⟨i1,i2⟩:=xT h.2.2.2
   have ha:a∉before:=by
    intro nh
    have:=List.contains_iff_mem.2 nh
    rw[h.2.1] at this;cases this
   refine⟨bD.2 ⟨fun b hb e=>i2 b hb (by simp[e]),i1⟩,fun m hm=>?_⟩
   rcases aw.1 hm with rfl|hm
   ·exact ha
   ·exact fun hb=>i2 m hm (dy _ hb)
end Go.Mod
