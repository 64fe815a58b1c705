/-
  The data of the program as plain Lean types, and how they lie in memory, cell by cell. No program is walked here.
-/
import Derived.Test.YtabembjmeobhoaaGreatKBD
set_option linter.unusedVariables false
set_option linter.unusedSimpArgs false
open Bool renaming and_eq_true→ai,false_eq_true→ax,true_and→aM
open Classical renaming em→aa,not_not→oS
open Int renaming gcd→bJ,mul_assoc→nx
open List renaming getElem?_eq_getElem→ah,drop_eq_getElem_cons→aj,mem_cons→ay,mem_append→aR,length_append→aX,length_cons→a8,mem_cons_of_mem→bl,append_assoc→bm,not_mem_nil→bn,cons_append→bz,take_add_one→bC,mem_map→bD,append_nil→bF,all_cons→b8,all_eq_true→cd,getD→cC,nodup_cons→cE,take_succ_cons→dH,length_nil→ez,mem_of_find?_eq_some→eY,getElem_cons_succ→jq,flatMap_cons→kj,getElem?_cons_succ→ld,pairwise_cons→nU
open Nat renaming mul_le_mul_right→bP,add_mul→cQ,pow_le_pow_right→fy,add_assoc→iE,one_le_two_pow→jK
namespace Go.Mod
open Go.Eng
abbrev ni:=List UInt8
def bG(ns:List Int):List (List D):=ns.map fun n=>[.val (.int .i64 n)]
def Yl(ns:List Bool):List (List D):=ns.map fun n=>[.val (.bool n)]
def mf(ns:List ni):List (List D):=ns.map fun n=>[.str n]
def Ko(ns:List (List Int)):List (List D):=ns.map fun n=>[.dP (bG n)]
theorem Ii(ns:List Int):(bG ns).length=ns.length:=by simp[bG]
theorem Cb{ns:List Int}{i:Nat}(h:i<ns.length):row (bG ns) i=[.val (.int .i64 ns[i])]:=by simp[bG,row,cC,ah h]
theorem fP(ns:List Int):∀y∈bG ns,y.length=1:=by
 intro y hy
 rw[show bG ns=ns.map _ from rfl] at hy
 obtain⟨t,_,rfl⟩:=bD.1 hy
 rfl
theorem eC(ns ms:List Int):bG ns++bG ms=bG (ns++ms):=by simp[bG]
theorem tO:bG []=[]:=rfl
theorem jG(n:Int)(ns:List Int):bG (n::ns)=[.val (.int .i64 n)]::bG ns:=rfl
theorem jV(ns:List Bool):∀y∈Yl ns,y.length=1:=by
 intro y hy
 rw[show Yl ns=ns.map _ from rfl] at hy
 obtain⟨t,_,rfl⟩:=bD.1 hy
 rfl
theorem II(ns:List ni):(mf ns).length=ns.length:=by simp[mf]
theorem I0{ns:List ni}{i:Nat}(h:i<ns.length):row (mf ns) i=[.str ns[i]]:=by simp[mf,row,cC,ah h]
theorem RK(ns ms:List ni):mf ns++mf ms=mf (ns++ms):=by simp[mf]
theorem R5:mf []=[]:=rfl
theorem jc(ns:List (List Int)):∀y∈Ko ns,y.length=1:=by
 intro y hy
 rw[show Ko ns=ns.map _ from rfl] at hy
 obtain⟨t,_,rfl⟩:=bD.1 hy
 rfl
inductive Term where
 | mk(name:ni)(kids:List Term)
def Term.name:Term→ni
 | .mk x _=>x
def Term.kids:Term→List Term
 | .mk _ x=>x
theorem Term.ind{P:Term→Prop}(h:∀name kids,(∀k∈kids,P k)→P (.mk name kids)):∀t,P t:=by
 intro t
 refine Term.rec (motive_1:=P) (motive_2:=fun ks=>∀k∈ks,P k) (fun name kids ih=>h name kids ih) (by simp) (fun t ts h1 h2=>?_) t
 intro k hk
 rcases ay.1 hk with rfl|hk
 ·exact h1
 ·exact h2 k hk
mutual
def aaw:Term→List D
 | .mk name kids=>[.str name,.dP (aP kids)]
def aP:List Term→List (List D)
 | []=>[]
 | t::ts=>aaw t::aP ts
end
def cT(t:Term):List D:=[.str t.name,.dP (aP t.kids)]
theorem XH(t:Term):aaw t=cT t:=by cases t;rfl
theorem mY:∀(ts:List Term),aP ts=ts.map cT
 | []=>rfl
 | t::ts=>by simp[aP,XH,mY ts]
theorem rq(ns:List Term):(aP ns).length=ns.length:=by simp[mY]
theorem Ct{ns:List Term}{i:Nat}(h:i<ns.length):row (aP ns) i=cT ns[i]:=by simp[mY,row,cC,ah h]
theorem jT(ns:List Term):∀y∈aP ns,y.length=2:=by
 intro y hy
 rw[show aP ns=ns.map _ from mY ns] at hy
 obtain⟨t,_,rfl⟩:=bD.1 hy
 rfl
theorem Od(ns:List Term)(i:Nat):(aP ns).take i=aP (ns.take i):=by simp[mY]
theorem lV(ns ms:List Term):aP ns++aP ms=aP (ns++ms):=by simp[mY]
theorem lW:aP []=[]:=rfl
theorem dM(n:Term)(ns:List Term):aP (n::ns)=cT n::aP ns:=by simp[mY]
theorem pK{ns:List Term}{i:Nat}(h:i<ns.length):aP (ns.take i)++[cT ns[i]]=aP (ns.take (i+1)):=by
 have e:ns.take (i+1)=ns.take i++[ns[i]]:=by rw[bC,ah h];rfl
 rw[e,←lV,dM,lW]
mutual
def U8:Term→Term→Bool
 | .mk name1 kids1,.mk name2 kids2=>decide (name1=name2)&&zB kids1 kids2
def zB:List Term→List Term→Bool
 | [],[]=>true
 | x::xs,y::ys=>U8 x y&&zB xs ys
 | _,_=>false
end
mutual
theorem IP:∀(a b:Term),U8 a b=true↔a=b
 | .mk name1 kids1,.mk name2 kids2=>by simp[U8,FA]
theorem FA:∀(a b:List Term),zB a b=true↔a=b
 | [],[]=>by simp[zB]
 | [],_::_=>by simp[zB]
 | _::_,[]=>by simp[zB]
 | x::xs,y::ys=>by simp[zB,IP x y,FA xs ys]
end
instance:DecidableEq Term:=fun a b=>decidable_of_iff _ (IP a b)
structure Sym where
 name:ni
 args:List Int
 sort:Int
 deriving DecidableEq
def vP(t:Sym):List D:=[.str t.name,.dP (bG t.args),.val (.int .i64 t.sort)]
def hX(l:List Sym):List (List D):=l.map vP
theorem MK(ns:List Sym):(hX ns).length=ns.length:=by simp[hX]
theorem Dk{ns:List Sym}{i:Nat}(h:i<ns.length):row (hX ns) i=vP ns[i]:=by simp[hX,row,cC,ah h]
theorem td(ns ms:List Sym):hX ns++hX ms=hX (ns++ms):=by simp[hX]
structure dE where
 syms:List Sym
 deriving DecidableEq
def dZ(t:dE):List D:=[.dP (hX t.syms)]
structure Atom where
 kind:Int
 A:Term
 B:Term
 nums:List Term
 times:List Int
 bound:Int
 strict:Bool
 deriving DecidableEq
def fM(t:Atom):List D:=[.val (.int .i64 t.kind),.str t.A.name,.dP (aP t.A.kids),.str t.B.name,.dP (aP t.B.kids),.dP (aP t.nums),.dP (bG t.times),.val (.int .i64 t.bound),.val (.bool t.strict)]
def Nk(l:List Atom):List (List D):=l.map fM
theorem gf(ns:List Atom):∀y∈Nk ns,y.length=9:=by
 intro y hy
 rw[show Nk ns=ns.map _ from rfl] at hy
 obtain⟨t,_,rfl⟩:=bD.1 hy
 rfl
structure bp where
 atom:Atom
 no:Bool
 deriving DecidableEq
def np(t:bp):List D:=[.val (.int .i64 t.atom.kind),.str t.atom.A.name,.dP (aP t.atom.A.kids),.str t.atom.B.name,.dP (aP t.atom.B.kids),.dP (aP t.atom.nums),.dP (bG t.atom.times),.val (.int .i64 t.atom.bound),.val (.bool t.atom.strict),.val (.bool t.no)]
def a6(l:List bp):List (List D):=l.map np
theorem CQ(ns:List bp):(a6 ns).length=ns.length:=by simp[a6]
theorem Nf{ns:List bp}{i:Nat}(h:i<ns.length):row (a6 ns) i=np ns[i]:=by simp[a6,row,cC,ah h]
theorem gv(ns:List bp):∀y∈a6 ns,y.length=10:=by
 intro y hy
 rw[show a6 ns=ns.map _ from rfl] at hy
 obtain⟨t,_,rfl⟩:=bD.1 hy
 rfl
theorem CU(ns ms:List bp):a6 ns++a6 ms=a6 (ns++ms):=by simp[a6]
theorem s6:a6 []=[]:=rfl
theorem mW(n:bp)(ns:List bp):a6 (n::ns)=np n::a6 ns:=rfl
inductive l9 where
 | mk(oZ:Int)(n:Int)(t:Term)(kids:List l9)
def l9.oZ:l9→Int
 | .mk x _ _ _=>x
def l9.n:l9→Int
 | .mk _ x _ _=>x
def l9.t:l9→Term
 | .mk _ _ x _=>x
def l9.kids:l9→List l9
 | .mk _ _ _ x=>x
theorem l9.ind{P:l9→Prop}(h:∀oZ n t kids,(∀k∈kids,P k)→P (.mk oZ n t kids)):∀t,P t:=by
 intro t
 refine l9.rec (motive_1:=P) (motive_2:=fun ks=>∀k∈ks,P k) (fun oZ n t kids ih=>h oZ n t kids ih) (by simp) (fun t ts h1 h2=>?_) t
 intro k hk
 rcases ay.1 hk with rfl|hk
 ·exact h1
 ·exact h2 k hk
mutual
def TJ:l9→List D
 | .mk oZ n t kids=>[.val (.int .i64 oZ),.val (.int .i64 n),.str t.name,.dP (aP t.kids),.dP (gR kids)]
def gR:List l9→List (List D)
 | []=>[]
 | t::ts=>TJ t::gR ts
end
def oX(t:l9):List D:=[.val (.int .i64 t.oZ),.val (.int .i64 t.n),.str t.t.name,.dP (aP t.t.kids),.dP (gR t.kids)]
theorem Sx(t:l9):TJ t=oX t:=by cases t;rfl
theorem te:∀(ts:List l9),gR ts=ts.map oX
 | []=>rfl
 | t::ts=>by simp[gR,Sx,te ts]
theorem NK(ns:List l9):(gR ns).length=ns.length:=by simp[te]
theorem C7(ns ms:List l9):gR ns++gR ms=gR (ns++ms):=by simp[te]
theorem lj:gR []=[]:=rfl
theorem j7(n:l9)(ns:List l9):gR (n::ns)=oX n::gR ns:=by simp[te]
mutual
def K5:l9→l9→Bool
 | .mk rule1 n1 t1 kids1,.mk rule2 n2 t2 kids2=>decide (rule1=rule2)&&decide (n1=n2)&&decide (t1=t2)&&rG kids1 kids2
def rG:List l9→List l9→Bool
 | [],[]=>true
 | x::xs,y::ys=>K5 x y&&rG xs ys
 | _,_=>false
end
mutual
theorem C9:∀(a b:l9),K5 a b=true↔a=b
 | .mk rule1 n1 t1 kids1,.mk rule2 n2 t2 kids2=>by simp[K5,AK,and_assoc]
theorem AK:∀(a b:List l9),rG a b=true↔a=b
 | [],[]=>by simp[rG]
 | [],_::_=>by simp[rG]
 | _::_,[]=>by simp[rG]
 | x::xs,y::ys=>by simp[rG,C9 x y,AK xs ys]
end
instance:DecidableEq l9:=fun a b=>decidable_of_iff _ (C9 a b)
inductive Case where
 | mk(kind:Int)(n:Int)(vR:l9)(times:List Int)(A:Term)(B:Term)(kids:List Case)
def Case.kind:Case→Int
 | .mk x _ _ _ _ _ _=>x
def Case.n:Case→Int
 | .mk _ x _ _ _ _ _=>x
def Case.vR:Case→l9
 | .mk _ _ x _ _ _ _=>x
def Case.times:Case→List Int
 | .mk _ _ _ x _ _ _=>x
def Case.A:Case→Term
 | .mk _ _ _ _ x _ _=>x
def Case.B:Case→Term
 | .mk _ _ _ _ _ x _=>x
def Case.kids:Case→List Case
 | .mk _ _ _ _ _ _ x=>x
theorem Case.ind{P:Case→Prop}(h:∀kind n vR times A B kids,(∀k∈kids,P k)→P (.mk kind n vR times A B kids)):∀t,P t:=by
 intro t
 refine Case.rec (motive_1:=P) (motive_2:=fun ks=>∀k∈ks,P k) (fun kind n vR times A B kids ih=>h kind n vR times A B kids ih) (by simp) (fun t ts h1 h2=>?_) t
 intro k hk
 rcases ay.1 hk with rfl|hk
 ·exact h1
 ·exact h2 k hk
mutual
def Rq:Case→List D
 | .mk kind n vR times A B kids=>[.val (.int .i64 kind),.val (.int .i64 n),.val (.int .i64 vR.oZ),.val (.int .i64 vR.n),.str vR.t.name,.dP (aP vR.t.kids),.dP (gR vR.kids),.dP (bG times),.str A.name,.dP (aP A.kids),.str B.name,.dP (aP B.kids),.dP (iR kids)]
def iR:List Case→List (List D)
 | []=>[]
 | t::ts=>Rq t::iR ts
end
def tX(t:Case):List D:=[.val (.int .i64 t.kind),.val (.int .i64 t.n),.val (.int .i64 t.vR.oZ),.val (.int .i64 t.vR.n),.str t.vR.t.name,.dP (aP t.vR.t.kids),.dP (gR t.vR.kids),.dP (bG t.times),.str t.A.name,.dP (aP t.A.kids),.str t.B.name,.dP (aP t.B.kids),.dP (iR t.kids)]
theorem Qg(t:Case):Rq t=tX t:=by cases t;rfl
theorem rl:∀(ts:List Case),iR ts=ts.map tX
 | []=>rfl
 | t::ts=>by simp[iR,Qg,rl ts]
theorem Ke(ns:List Case):(iR ns).length=ns.length:=by simp[rl]
theorem AG(ns ms:List Case):iR ns++iR ms=iR (ns++ms):=by simp[rl]
theorem oG:iR []=[]:=rfl
theorem p8(n:Case)(ns:List Case):iR (n::ns)=tX n::iR ns:=by simp[rl]
mutual
def Ff:Case→Case→Bool
 | .mk kind1 n1 why1 times1 A1 B1 kids1,.mk kind2 n2 why2 times2 A2 B2 kids2=>decide (kind1=kind2)&&decide (n1=n2)&&decide (why1=why2)&&decide (times1=times2)&&decide (A1=A2)&&decide (B1=B2)&&pI kids1 kids2
def pI:List Case→List Case→Bool
 | [],[]=>true
 | x::xs,y::ys=>Ff x y&&pI xs ys
 | _,_=>false
end
mutual
theorem AP:∀(a b:Case),Ff a b=true↔a=b
 | .mk kind1 n1 why1 times1 A1 B1 kids1,.mk kind2 n2 why2 times2 A2 B2 kids2=>by simp[Ff,yg,and_assoc]
theorem yg:∀(a b:List Case),pI a b=true↔a=b
 | [],[]=>by simp[pI]
 | [],_::_=>by simp[pI]
 | _::_,[]=>by simp[pI]
 | x::xs,y::ys=>by simp[pI,AP x y,yg xs ys]
end
instance:DecidableEq Case:=fun a b=>decidable_of_iff _ (AP a b)
inductive Form where
 | mk(kind:Int)(lit:bp)(kids:List Form)
def Form.kind:Form→Int
 | .mk x _ _=>x
def Form.lit:Form→bp
 | .mk _ x _=>x
def Form.kids:Form→List Form
 | .mk _ _ x=>x
theorem Form.ind{P:Form→Prop}(h:∀kind lit kids,(∀k∈kids,P k)→P (.mk kind lit kids)):∀t,P t:=by
 intro t
 refine Form.rec (motive_1:=P) (motive_2:=fun ks=>∀k∈ks,P k) (fun kind lit kids ih=>h kind lit kids ih) (by simp) (fun t ts h1 h2=>?_) t
 intro k hk
 rcases ay.1 hk with rfl|hk
 ·exact h1
 ·exact h2 k hk
mutual
def Q6:Form→List D
 | .mk kind lit kids=>[.val (.int .i64 kind),.val (.int .i64 lit.atom.kind),.str lit.atom.A.name,.dP (aP lit.atom.A.kids),.str lit.atom.B.name,.dP (aP lit.atom.B.kids),.dP (aP lit.atom.nums),.dP (bG lit.atom.times),.val (.int .i64 lit.atom.bound),.val (.bool lit.atom.strict),.val (.bool lit.no),.dP (qy kids)]
def qy:List Form→List (List D)
 | []=>[]
 | t::ts=>Q6 t::qy ts
end
def VA(t:Form):List D:=[.val (.int .i64 t.kind),.val (.int .i64 t.lit.atom.kind),.str t.lit.atom.A.name,.dP (aP t.lit.atom.A.kids),.str t.lit.atom.B.name,.dP (aP t.lit.atom.B.kids),.dP (aP t.lit.atom.nums),.dP (bG t.lit.atom.times),.val (.int .i64 t.lit.atom.bound),.val (.bool t.lit.atom.strict),.val (.bool t.lit.no),.dP (qy t.kids)]
theorem N9(t:Form):Q6 t=VA t:=by cases t;rfl
theorem Bn:∀(ts:List Form),qy ts=ts.map VA
 | []=>rfl
 | t::ts=>by simp[qy,N9,Bn ts]
theorem fZ(ns:List Form):∀y∈qy ns,y.length=12:=by
 intro y hy
 rw[show qy ns=ns.map _ from Bn ns] at hy
 obtain⟨t,_,rfl⟩:=bD.1 hy
 rfl
mutual
def EL:Form→Form→Bool
 | .mk kind1 lit1 kids1,.mk kind2 lit2 kids2=>decide (kind1=kind2)&&decide (lit1=lit2)&&pr kids1 kids2
def pr:List Form→List Form→Bool
 | [],[]=>true
 | x::xs,y::ys=>EL x y&&pr xs ys
 | _,_=>false
end
mutual
theorem Bd:∀(a b:Form),EL a b=true↔a=b
 | .mk kind1 lit1 kids1,.mk kind2 lit2 kids2=>by simp[EL,yR,and_assoc]
theorem yR:∀(a b:List Form),pr a b=true↔a=b
 | [],[]=>by simp[pr]
 | [],_::_=>by simp[pr]
 | _::_,[]=>by simp[pr]
 | x::xs,y::ys=>by simp[pr,Bd x y,yR xs ys]
end
instance:DecidableEq Form:=fun a b=>decidable_of_iff _ (Bd a b)
def Yx(ns:List (List Form)):List (List D):=ns.map fun n=>[.dP (qy n)]
structure Rat where
 N:Int
 D:Int
 deriving DecidableEq
def eO(t:Rat):List D:=[.val (.int .i64 t.N),.val (.int .i64 t.D)]
def br(l:List Rat):List (List D):=l.map eO
theorem xg(ns:List Rat):(br ns).length=ns.length:=by simp[br]
theorem wj{ns:List Rat}{i:Nat}(h:i<ns.length):row (br ns) i=eO ns[i]:=by simp[br,row,cC,ah h]
theorem hH(ns:List Rat):∀y∈br ns,y.length=2:=by
 intro y hy
 rw[show br ns=ns.map _ from rfl] at hy
 obtain⟨t,_,rfl⟩:=bD.1 hy
 rfl
theorem sR(ns ms:List Rat):br ns++br ms=br (ns++ms):=by simp[br]
theorem s5:br []=[]:=rfl
theorem uW(n:Rat)(ns:List Rat):br (n::ns)=eO n::br ns:=rfl
structure Row where
 name:ni
 args:List Rat
 val:Rat
 deriving DecidableEq
def qC(t:Row):List D:=[.str t.name,.dP (br t.args),.val (.int .i64 t.val.N),.val (.int .i64 t.val.D)]
def bT(l:List Row):List (List D):=l.map qC
theorem Np(ns:List Row):(bT ns).length=ns.length:=by simp[bT]
theorem MW{ns:List Row}{i:Nat}(h:i<ns.length):row (bT ns) i=qC ns[i]:=by simp[bT,row,cC,ah h]
theorem wG(ns:List Row):∀y∈bT ns,y.length=4:=by
 intro y hy
 rw[show bT ns=ns.map _ from rfl] at hy
 obtain⟨t,_,rfl⟩:=bD.1 hy
 rfl
theorem Mu:bT []=[]:=rfl
structure Model where
 rows:List Row
 deriving DecidableEq
def eL(t:Model):List D:=[.dP (bT t.rows)]
structure ib where
 aG:List Int
 bound:Int
 strict:Bool
 deriving DecidableEq
def eF(t:ib):List D:=[.dP (bG t.aG),.val (.int .i64 t.bound),.val (.bool t.strict)]
def db(l:List ib):List (List D):=l.map eF
theorem M7(ns:List ib):(db ns).length=ns.length:=by simp[db]
theorem NT{ns:List ib}{i:Nat}(h:i<ns.length):row (db ns) i=eF ns[i]:=by simp[db,row,cC,ah h]
theorem gZ(ns:List ib):∀y∈db ns,y.length=3:=by
 intro y hy
 rw[show db ns=ns.map _ from rfl] at hy
 obtain⟨t,_,rfl⟩:=bD.1 hy
 rfl
theorem mL(ns ms:List ib):db ns++db ms=db (ns++ms):=by simp[db]
theorem lk:db []=[]:=rfl
theorem iz(n:ib)(ns:List ib):db (n::ns)=eF n::db ns:=rfl
structure iy where
 A:Term
 B:Term
 deriving DecidableEq
def cEq(t:iy):List D:=[.str t.A.name,.dP (aP t.A.kids),.str t.B.name,.dP (aP t.B.kids)]
def gP(l:List iy):List (List D):=l.map cEq
theorem PU(ns:List iy):(gP ns).length=ns.length:=by simp[gP]
theorem Pv{ns:List iy}{i:Nat}(h:i<ns.length):row (gP ns) i=cEq ns[i]:=by simp[gP,row,cC,ah h]
theorem je(ns:List iy):∀y∈gP ns,y.length=4:=by
 intro y hy
 rw[show gP ns=ns.map _ from rfl] at hy
 obtain⟨t,_,rfl⟩:=bD.1 hy
 rfl
theorem yX(ns ms:List iy):gP ns++gP ms=gP (ns++ms):=by simp[gP]
theorem rL:gP []=[]:=rfl
theorem xu(n:iy)(ns:List iy):gP (n::ns)=cEq n::gP ns:=rfl
structure Step where
 A:Int
 B:Int
 given:Int
 deriving DecidableEq
def Q9(t:Step):List D:=[.val (.int .i64 t.A),.val (.int .i64 t.B),.val (.int .i64 t.given)]
def a7(l:List Step):List (List D):=l.map Q9
theorem Lh(ns:List Step):(a7 ns).length=ns.length:=by simp[a7]
theorem Li{ns:List Step}{i:Nat}(h:i<ns.length):row (a7 ns) i=Q9 ns[i]:=by simp[a7,row,cC,ah h]
theorem KW(ns:List Step):∀y∈a7 ns,y.length=3:=by
 intro y hy
 rw[show a7 ns=ns.map _ from rfl] at hy
 obtain⟨t,_,rfl⟩:=bD.1 hy
 rfl
theorem vm(ns ms:List Step):a7 ns++a7 ms=a7 (ns++ms):=by simp[a7]
theorem rm:a7 []=[]:=rfl
theorem tG(n:Step)(ns:List Step):a7 (n::ns)=Q9 n::a7 ns:=rfl
structure Cnf where
 many:Int
 list:List (List Int)
 deriving DecidableEq
def abd(t:Cnf):List D:=[.val (.int .i64 t.many),.dP (Ko t.list)]
structure QT where
 marks:List Int
 case:Case
 deriving DecidableEq
def VO(t:QT):List D:=[.dP (bG t.marks),.val (.int .i64 t.case.kind),.val (.int .i64 t.case.n),.val (.int .i64 t.case.vR.oZ),.val (.int .i64 t.case.vR.n),.str t.case.vR.t.name,.dP (aP t.case.vR.t.kids),.dP (gR t.case.vR.kids),.dP (bG t.case.times),.str t.case.A.name,.dP (aP t.case.A.kids),.str t.case.B.name,.dP (aP t.case.B.kids),.dP (iR t.case.kids)]
def Sz(l:List QT):List (List D):=l.map VO
structure aay where
 lemmas:List QT
 log:List (List Int)
 deriving DecidableEq
def Yz(t:aay):List D:=[.dP (Sz t.lemmas),.dP (Ko t.log)]
structure Stack where
 sig:dE
 levels:List (List Form)
 deriving DecidableEq
def YC(t:Stack):List D:=[.dP (hX t.sig.syms),.dP (Yx t.levels)]
def av(cs:List D):PV:=.agg (cF cs)
theorem Z7(cs:List D):(av cs).lt 0=true:=by simp only[av,PV.lt];exact Tl 0 cs
attribute [go_sem] Ii II rq MK CQ NK Ke xg Np M7 PU Lh
attribute [go_sem] Cb I0 Ct Dk Nf wj MW NT Pv Li
attribute [go_sem] tO R5 lW s6 lj oG s5 Mu lk rL rm
attribute [go_sem] av cT vP dZ fM np oX tX VA eO qC eL eF cEq Q9 abd VO Yz YC Int.toNat_natCast
end Go.Mod
namespace Go.Eng
open Go.Mod
theorem sA{p q:Prop}(k:q)(h:p=q:=by simp -implicitDefEqProofs only[go_sem];exact rfl):p:=h▸k
theorem sB{p q:Prop}(k:q)(h:p=q:=by simp -implicitDefEqProofs only[go_sem,Int.reduceEq,Int.reduceLT,Int.reduceLE,Int.reduceToNat];exact rfl):p:=h▸k
theorem sC{p:Prop}(h:p:=by simp -implicitDefEqProofs only[go_sem]):p:=h
theorem sD{p:Prop}(h:p:=by simp -implicitDefEqProofs only[go_sem,Int.reduceEq,Int.reduceLT,Int.reduceLE,Int.reduceToNat]):p:=h
theorem iK{os:List Oper}{L:List Ky}{p:Prop}(hp:p)(h:J3 os L=true:=by kernel_rfl):indep os L=true∧p:=⟨Cu h,hp⟩
theorem aC{m:Option (List Ky)}{gs:Option Nat}{d:Nat}{ty:TypeId}{pos:String}{eG:Array Edge}{gd:Option (Nat×Bool)}{E:Env}{g:G}{rest:qO→Option (List Ky)→G→Prop}{nc:Operand}{xs:List Operand}{tys:Array TypeId}{f:FuncId}(cap:List PV){cO:List PV}{res:PV}{q:Prop}
 (hC:C E.P f cO [] (bM res [])) (k:q) (h:g.ev nc= .fn f cap∧E6 (SU g xs++cap) cO∧tI 0 cO=true∧res.lt 0=true:=by simp -implicitDefEqProofs only[go_sem])
 (hr:rest .on (mz m (oe (tR gs ⟨da nc++Cp xs,[]⟩) ⟨some (d,res),[]⟩)) (g.app ⟨some (d,res),[]⟩)=q:=by simp -implicitDefEqProofs only[go_sem];exact rfl):sq E m gs ⟨some d,.call ⟨.value nc,⟨xs⟩,tys⟩,ty,pos,eG,gd⟩ g rest:=
 bQ cap hC h (hr▸k)
theorem aD{m:Option (List Ky)}{gs:Option Nat}{d:Nat}{ty:TypeId}{pos:String}{eG:Array Edge}{gd:Option (Nat×Bool)}{E:Env}{g:G}{rest:qO→Option (List Ky)→G→Prop}{nc:Operand}{xs:List Operand}{tys:Array TypeId}{f:FuncId}(cap:List PV){cO:List PV}{res:PV}{q:Prop}
 (hC:C E.P f cO [] (bM res [])) (k:q) (h:g.ev nc= .fn f cap∧E6 (SU g xs++cap) cO∧tI 0 cO=true∧res.lt 0=true:=by simp -implicitDefEqProofs only[go_sem,Int.reduceEq,Int.reduceLT,Int.reduceLE,Int.reduceToNat])
 (hr:rest .on (mz m (oe (tR gs ⟨da nc++Cp xs,[]⟩) ⟨some (d,res),[]⟩)) (g.app ⟨some (d,res),[]⟩)=q:=by simp -implicitDefEqProofs only[go_sem,Int.reduceEq,Int.reduceLT,Int.reduceLE,Int.reduceToNat];exact rfl):sq E m gs ⟨some d,.call ⟨.value nc,⟨xs⟩,tys⟩,ty,pos,eG,gd⟩ g rest:=
 bQ cap hC h (hr▸k)
theorem oC{m:Option (List Ky)}{gs:Option Nat}{d:Nat}{ty:TypeId}{pos:String}{eG:Array Edge}{gd:Option (Nat×Bool)}{E:Env}{g:G}{rest:qO→Option (List Ky)→G→Prop}{nc:Operand}{xs:List Operand}{tys:Array TypeId}{f:FuncId}(cap:List PV)(M:List Nat){cO:List PV}{eQ st':List (Option En)}{res:PV}{q:Prop}
 (hC:C E.P f cO eQ (bM res st')) (k:q) (h:g.ev nc= .fn f cap∧E6 (SU g xs++cap) (qJ M cO)∧tI (lL eQ) cO=true∧LP M=true∧xC (lL eQ) (EP M)=true∧xC (lL eQ) (lL st')=true∧xC (lL st') (EP M)=true∧n6 g M (lL eQ) M eQ∧iO g (lL eQ) M:=by simp -implicitDefEqProofs only[go_sem])
 (hr:rest .on (mz m (oe (tR gs ⟨da nc++Cp xs,M⟩) ⟨some (d,res.mc M),kY M M st'⟩)) (g.app ⟨some (d,res.mc M),kY M M st'⟩)=q:=by simp -implicitDefEqProofs only[go_sem];exact rfl):sq E m gs ⟨some d,.call ⟨.value nc,⟨xs⟩,tys⟩,ty,pos,eG,gd⟩ g rest:=
 gp cap M hC h (hr▸k)
theorem oD{m:Option (List Ky)}{gs:Option Nat}{d:Nat}{ty:TypeId}{pos:String}{eG:Array Edge}{gd:Option (Nat×Bool)}{E:Env}{g:G}{rest:qO→Option (List Ky)→G→Prop}{nc:Operand}{xs:List Operand}{tys:Array TypeId}{f:FuncId}(cap:List PV)(M:List Nat){cO:List PV}{eQ st':List (Option En)}{res:PV}{q:Prop}
 (hC:C E.P f cO eQ (bM res st')) (k:q) (h:g.ev nc= .fn f cap∧E6 (SU g xs++cap) (qJ M cO)∧tI (lL eQ) cO=true∧LP M=true∧xC (lL eQ) (EP M)=true∧xC (lL eQ) (lL st')=true∧xC (lL st') (EP M)=true∧n6 g M (lL eQ) M eQ∧iO g (lL eQ) M:=by simp -implicitDefEqProofs only[go_sem,Int.reduceEq,Int.reduceLT,Int.reduceLE,Int.reduceToNat])
 (hr:rest .on (mz m (oe (tR gs ⟨da nc++Cp xs,M⟩) ⟨some (d,res.mc M),kY M M st'⟩)) (g.app ⟨some (d,res.mc M),kY M M st'⟩)=q:=by simp -implicitDefEqProofs only[go_sem,Int.reduceEq,Int.reduceLT,Int.reduceLE,Int.reduceToNat];exact rfl):sq E m gs ⟨some d,.call ⟨.value nc,⟨xs⟩,tys⟩,ty,pos,eG,gd⟩ g rest:=
 gp cap M hC h (hr▸k)
theorem gS{E:Env}(hm:E.P.follows .mixedOrders=true){f:FuncId}{fn:Func}{c:Code}{args:List PV}{eQ:List (Option En)}{R:PV→List (Option En)→Prop}{nt:Nat}{rs:List ResultVar}{L q:Prop}(hf:E.P.funcs[f]?=some fn)(k:L→AJ eQ→LB=1099511627776→q)
 (hb : fn.body = some c := by rfl) (hname : (fn.name == "runtime.NumGoroutine") = false := by rfl) (hnt : fn.ntmps = nt := by rfl) (hrs : fn.results.toList = rs := by rfl) (hn : xC (vT args) nt = true := by rfl)
 (e1:qK args=L:=by simp -implicitDefEqProofs only[go_sem];exact rfl) (e2:Ly E (lL eQ) c .on ⟨dB nt .undef (VT 0 args),eQ⟩ (fun _=>Pd (zn E rs (lL eQ) R))=q:=by simp -implicitDefEqProofs only[go_sem];exact rfl):C E.P f args eQ R:=
 lJ hm hf hb hname hnt hrs hn fun h1 h2=>e2▸k (e1▸h1) h2 rfl
theorem gT{E:Env}(hm:E.P.follows .mixedOrders=true){f:FuncId}{fn:Func}{c:Code}{args:List PV}{eQ:List (Option En)}{R:PV→List (Option En)→Prop}{nt:Nat}{rs:List ResultVar}{L q:Prop}(hf:E.P.funcs[f]?=some fn)(k:L→AJ eQ→LB=1099511627776→q)
 (hb : fn.body = some c := by rfl) (hname : (fn.name == "runtime.NumGoroutine") = false := by rfl) (hnt : fn.ntmps = nt := by rfl) (hrs : fn.results.toList = rs := by rfl) (hn : xC (vT args) nt = true := by rfl)
 (e1:qK args=L:=by simp -implicitDefEqProofs only[go_sem,Int.reduceEq,Int.reduceLT,Int.reduceLE,Int.reduceToNat];exact rfl) (e2:Ly E (lL eQ) c .on ⟨dB nt .undef (VT 0 args),eQ⟩ (fun _=>Pd (zn E rs (lL eQ) R))=q:=by simp -implicitDefEqProofs only[go_sem,Int.reduceEq,Int.reduceLT,Int.reduceLE,Int.reduceToNat];exact rfl):C E.P f args eQ R:=
 lJ hm hf hb hname hnt hrs hn fun h1 h2=>e2▸k (e1▸h1) h2 rfl
theorem sO{p:Prop}(h:p:=by first|(with_reducible exact Cu (by kernel_rfl))|omega|assumption|exact⟨jT _,by omega⟩|exact⟨fP _,by omega⟩|exact⟨gv _,by omega⟩|exact⟨gZ _,by omega⟩|exact⟨je _,by omega⟩|rfl|(simp[*];done)|(simp;omega)|exact⟨hH _,by omega⟩|exact⟨gf _,by omega⟩|exact⟨jV _,by omega⟩|exact⟨fZ _,by omega⟩|exact⟨jc _,by omega⟩):p:=h
theorem sV{p:Prop}(h:p:=by(simp -implicitDefEqProofs only[go_sem,Int.reduceEq,Int.reduceLT,Int.reduceLE,Int.reduceToNat];repeat'(first|exact ik.nil|apply ik.cons|exact Vw.same (by first|rfl|simp -implicitDefEqProofs only[go_sem,Int.reduceEq,Int.reduceLT,Int.reduceLE,Int.reduceToNat])|exact Vw.acc rfl rfl|exact Vw.fg rfl rfl (by simp -implicitDefEqProofs only[go_sem,Int.reduceEq,Int.reduceLT,Int.reduceLE,Int.reduceToNat])|exact Vw.nil|apply Vw.agg|apply Vw.fn|refine Vw.box rfl rfl ?_))):p:=h
structure Hd(q:Prop):Prop where k:q
theorem sQ{p q:Prop}(k:q)(h:Hd q→p:=by intro k;(repeat(with_reducible apply And.intro;exact sO));exact k.k):p:=h ⟨k⟩
theorem sI{p q:Prop}(k:q)(h:Hd q→p:=by intro k;(try with_reducible refine iK ?_);exact k.k):p:=h ⟨k⟩
theorem sJ{p q:Prop}(k:q)(h:Hd q→p:=by intro k;(try with_reducible refine iK ?_);(repeat(with_reducible apply And.intro;exact sO));exact k.k):p:=h ⟨k⟩
theorem sL{p:Prop}(h:p:=by show _ < _;omega):p:=h
end Go.Eng
namespace Go.Mod
open Go.Eng
def within(n lo hi:Int):Bool:=decide (lo≤n)&&decide (n≤hi)
theorem dx{n lo hi:Int}:within n lo hi=true↔lo≤n∧n≤hi:=by simp[within]
def fX{α:Type}(p:α→Bool):List α→Int→Int
 | [],_=>-1
 | x::xs,i=>if p x then i else fX p xs (i+1)
def idxOf{α:Type}(p:α→Bool)(xs:List α):Int:=fX p xs 0
def bV(a:Rat):Bool:=within a.N (-1000000000) 1000000000&&(within a.D 1 1000000000&&decide ((bJ a.N a.D:Int)=1))
def jF:Rat:=⟨0,0⟩
def ig(n d:Int):Rat×Bool:=
 if d=0 then(jF,false) else
 let n1:=if d<0 then -n else n
 let d1:=if d<0 then -d else d
 let a:Rat:=⟨n1.tdiv (bJ n1 d1),d1.tdiv (bJ n1 d1)⟩
 if bV a then(a,true) else(jF,false)
def lg(n d:Int):Rat×Bool:=if within n (-1000000000) 1000000000&&within d (-1000000000) 1000000000 then ig n d else(jF,false)
def c8(a b:Rat):Rat×Bool:=if bV a&&bV b then ig (a.N*b.D+b.N*a.D) (a.D*b.D) else(jF,false)
def cq(a b:Rat):Rat×Bool:=if bV a&&bV b then ig (a.N*b.N) (a.D*b.D) else(jF,false)
def cS(a b:Rat):Bool:=bV a&&(bV b&&decide (a.N*b.D<b.N*a.D))
def qP(a b:Rat):Rat×Bool:=if(c8 a b).2 then cq (c8 a b).1 ⟨1,2⟩ else(jF,false)
def na(n:Int):Bool:=within n (-1000000) 1000000
def dF(l:ib):Bool:=l.aG.all na&&(decide (l.aG.length=4)&&na l.bound)
def mC:ib:=⟨[],0,false⟩
def pj(l:ib):ib:=if dF l then⟨l.aG.map fun c=>-c,-l.bound,!l.strict⟩ else mC
def comb(m n:Int):List Int→List Int→List Int
 | a::as,b::bs=>(m*a+n*b)::comb m n as bs
 | _,_=>[]
def jn(a:ib)(m:Int)(b:ib)(n:Int):ib:=⟨comb m n a.aG b.aG,m*a.bound+n*b.bound,(decide (0<m)&&a.strict)||(decide (0<n)&&b.strict)⟩
def jm(a:ib)(m:Int)(b:ib)(n:Int):ib×Bool:=if dF (jn a m b n) then(jn a m b n,true) else(mC,false)
def dL(a:ib)(m:Int)(b:ib)(n:Int):ib×Bool:=if dF a&&dF b&&within m 0 1000000&&within n 0 1000000 then jm a m b n else(mC,false)
def flat(l:ib):Bool:=l.aG.all fun c=>decide (c=0)
def jJ(l:ib):Bool:=dF l&&(flat l&&(decide (l.bound<0)||(decide (l.bound=0)&&l.strict)))
def whole(n:Int):Rat:=⟨n,1⟩
def plus(sum:Rat)(c:Int)(val:Rat):Rat×Bool:=if(cq (whole c) val).2 then c8 sum (cq (whole c) val).1 else(jF,false)
def fG(list:List ib):Bool:=decide (list.length≤20)&&list.all dF
def o4:List ib→List Int→ib→ib×Bool
 | l::ls,t::ts,out=>if(dL out 1 l t).2 then o4 ls ts (dL out 1 l t).1 else(mC,false)
 | _,_,out=>(out,true)
def jE(list:List ib)(times:List Int):ib×Bool:=if fG list&&decide (times.length=list.length) then o4 list times ⟨[0,0,0,0],0,false⟩ else(mC,false)
def qU(list:List ib)(times:List Int):Bool:=(jE list times).2&&jJ (jE list times).1
def iM(c:UInt8):Bool:=decide ((97:Int)≤(c.toNat:Int))&&decide ((c.toNat:Int)≤122)
def fE(s:ni):Bool:=within s.length 1 2&&s.all iM
def isSort(n:Int):Bool:=decide (n=0)||decide (n=1)
def ob(x:Sym):Bool:=fE x.name&&(decide (x.args.length≤2)&&(isSort x.sort&&x.args.all isSort))
def gn(a b:ni):Bool:=Op.bytesLess a b
def qM:Option ni→List Sym→Bool
 | _,[]=>true
 | p,x::xs=>ob x&&((match p with|none=>true|some q=>gn q x.name)&&qM (some x.name) xs)
def fH(s:dE):Bool:=qM none s.syms&&decide (s.syms.length≤7)
def symbol(s:dE)(name:ni):Option Sym:=s.syms.find? fun x=>decide (x.name=name)
def so:Sym:=⟨[],[],0⟩
mutual
def kW:Term→Nat→Nat
 | .mk n ks,dp=>if fE n&&decide (ks.length≤2)&&decide (dp≤4) then 1+fl ks (dp+1) else 13
def fl:List Term→Nat→Nat
 | [],_=>0
 | t::ts,dp=>kW t dp+fl ts dp
end
def isTerm(t:Term):Bool:=decide (kW t 1≤12)
mutual
def bK:Term→Nat→Bool
 | _,0=>false
 | .mk n ks,d+1=>fE n&&(decide (ks.length≤2)&&cG ks d)
def cG:List Term→Nat→Bool
 | [],_=>true
 | t::ts,d=>bK t d&&cG ts d
end
mutual
def many:Term→Nat→Nat
 | _,0=>1
 | .mk _ ks,d+1=>1+lM ks d
def lM:List Term→Nat→Nat
 | [],_=>0
 | t::ts,d=>many t d+lM ts d
end
mutual
def fK(s:dE):Term→Option Int
 | .mk n ks=>match symbol s n with
   | none=>none
   | some x=>if decide (x.args.length=ks.length)&&gy s ks x.args then some x.sort else none
def gy(s:dE):List Term→List Int→Bool
 | k::ks,a::as=>decide (fK s k=some a)&&gy s ks as
 | _,_=>true
end
def fk(s:dE)(t:Term):Option Int:=if fH s&&isTerm t then fK s t else none
def jS:List ni→ni
 | []=>[]
 | [t]=>t
 | t::ts=>t++(44::jS ts)
mutual
def aN:Term→ni
 | .mk n []=>n
 | .mk n (k::ks)=>n++(40::(jS (aN k::fO ks)++[41]))
def fO:List Term→List ni
 | []=>[]
 | t::ts=>aN t::fO ts
end
def bL(list:List Term)(t:Term):Int:=idxOf (fun u=>decide (t=u)) list
mutual
def dh(list:List Term):Term→List Term
 | .mk n ks=>let l:=ba list ks;if bL l (.mk n ks)<0 then l++[.mk n ks] else l
def ba(list:List Term):List Term→List Term
 | []=>list
 | t::ts=>ba (dh list t) ts
end
def pV:List Term→List Term→List Term
 | [],out=>out
 | t::ts,out=>if isTerm t then pV ts (dh out t) else []
def lQ(list:List Term):List Term:=pV list []
def Gs(eqs:List iy):List Term:=eqs.flatMap fun e=>[e.A,e.B]
def iL(s:dE)(e:iy):Bool:=(fk s e.A).isSome&&decide (fk s e.A=fk s e.B)
def wz(s:dE)(eqs:List iy):Bool:=fH s&&decide (eqs.length≤12)&&eqs.all (iL s)&&decide ((lQ (Gs eqs)).length≤24)
def aL:Term:=.mk [] []
def isNone(t:Term):Bool:=decide (t.name=[])&&decide (t.kids=[])
def Em:iy:=⟨aL,aL⟩
def vO:l9:=.mk 0 0 aL []
def nW(eqs:List iy)(oZ n:Int)(t:Term)(kids:List iy):iy×Bool:=
 if(oZ≠2∧n≠0)∨(oZ≠1∧oZ≠5∧isNone t=false) then(Em,false) else
 if oZ=1 then(⟨t,t⟩,decide (kids.length=0)&&isTerm t) else
 if oZ=2 then(if 0<kids.length∨within n 0 (eqs.length-1)=false then(Em,false) else(eqs.getD n.toNat Em,true)) else
 if oZ=3 then(if kids.length=1 then(⟨(kids.getD 0 Em).B,(kids.getD 0 Em).A⟩,true) else(Em,false)) else
 if oZ=4 then(if kids.length=2∧(kids.getD 0 Em).B=(kids.getD 1 Em).A then(⟨(kids.getD 0 Em).A,(kids.getD 1 Em).B⟩,true) else(Em,false)) else
 if oZ=5 then(if kids.length=0∨fE t.name=false∨0<t.kids.length then(Em,false) else
  (⟨.mk t.name (kids.map (·.A)),.mk t.name (kids.map (·.B))⟩,isTerm (.mk t.name (kids.map (·.A)))&&isTerm (.mk t.name (kids.map (·.B))))) else
 (Em,false)
mutual
def jH(f:Int→Int→Term→List iy→iy×Bool):l9→Nat→iy×Bool
 | _,0=>(Em,false)
 | .mk r n t ks,d+1=>match gG f ks d with
   | none=>(Em,false)
   | some kids=>f r n t kids
def gG(f:Int→Int→Term→List iy→iy×Bool):List l9→Nat→Option (List iy)
 | [],_=>some []
 | w::ws,d=>if(jH f w d).2 then(gG f ws d).map fun es=>(jH f w d).1::es else none
end
def se(s:dE)(eqs:List iy)(w:l9):Option iy:=
 if wz s eqs&&((jH (nW eqs) w 400).2&&wz s [(jH (nW eqs) w 400).1]) then some (jH (nW eqs) w 400).1 else none
def kO:Option Term→List Term→List Int→Bool
 | p,t::ts,n::ns=>isTerm t&&(within n (-50) 50&&(decide (n≠0)&&((match p with|none=>true|some q=>gn (aN q) (aN t))&&kO (some t) ts ns)))
 | _,_,_=>true
def cJ(a:Atom):Bool:=
 if a.kind=1 then isTerm a.A&&(isTerm a.B&&(decide (a.nums.length=0)&&(decide (a.times.length=0)&&(decide (a.bound=0)&& !a.strict)))) else
 if a.kind=2 then isNone a.A&&(isNone a.B&&(within a.nums.length 1 4&&(decide (a.times.length=a.nums.length)&&(within a.bound (-1000) 1000&&kO none a.nums a.times)))) else false
def dk(s:dE)(t:Term):Bool:=decide (fk s t=some 1)
def fa(s:dE)(a:Atom):Bool:=fH s&&(cJ a&&(if a.kind=1 then iL s ⟨a.A,a.B⟩ else a.nums.all (dk s)))
def b9(a:Atom):List Term:=if a.kind=1 then [a.A,a.B] else a.nums
def aA(ab:List bp):List Term:=lQ (ab.flatMap fun l=>b9 l.atom)
def numsOf(s:dE)(ab:List bp):List Term:=(aA ab).filter (dk s)
def eZ(s:dE)(ab:List bp):Bool:=fH s&&decide (ab.length≤6)&&ab.all (fun l=>fa s l.atom)&&decide ((aA ab).length≤24)&&decide ((numsOf s ab).length≤4)
def bc(ab:List bp):List iy:=ab.filterMap fun l=>if l.atom.kind=1∧l.no=false then some ⟨l.atom.A,l.atom.B⟩ else none
def mI:List Int→Int→Int→List Int
 | [],_,_=>[]
 | c::cs,i,v=>if i=0 then(c+v)::cs else c::mI cs (i-1) v
def jP(nums:List Term):List Term→List Int→List Int→List Int
 | t::ts,n::ns,cs=>jP nums ts ns (mI cs (bL nums t) n)
 | _,_,cs=>cs
def lN(nums list:List Term)(times:List Int)(bound:Int)(strict:Bool):ib:=⟨jP nums list times [0,0,0,0],bound,strict⟩
def iV(nums:List Term)(l:bp):List ib:=
 if l.atom.kind=2 then [if l.no then pj (lN nums l.atom.nums l.atom.times l.atom.bound l.atom.strict) else lN nums l.atom.nums l.atom.times l.atom.bound l.atom.strict]
 else if l.no=false∧0≤bL nums l.atom.A then [lN nums [l.atom.A,l.atom.B] [1,-1] 0 false,lN nums [l.atom.A,l.atom.B] [-1,1] 0 false] else []
def dQ(nums:List Term)(ab:List bp):List ib:=ab.flatMap (iV nums)
def xo(a b:Term):Atom:=⟨1,a,b,[],[],0,false⟩
def gJ(a b:Term):bp:=⟨xo a b,false⟩
def dz(a b:Term):bp:=if gn (aN b) (aN a) then⟨⟨2,aL,aL,[b,a],[-1,1],0,true⟩,false⟩ else⟨⟨2,aL,aL,[a,b],[1,-1],0,true⟩,false⟩
def fJ(a b:Term):List bp:=[gJ a b,dz a b,dz b a]
def differ(nums:List Term)(a b:Term):Bool:=decide (0≤bL nums a)&&(decide (0≤bL nums b)&&decide (bL nums a≠bL nums b))
def bare(c:Case)(n vR times au:Bool)(kids:Nat):Bool:=
 (n||decide (c.n=0))&&((vR||decide (c.vR=vO))&&((times||decide (c.times.length=0))&&((au||(isNone c.A&&isNone c.B))&&decide (c.kids.length=kids))))
theorem FV:aL.name=[]:=rfl
theorem F7:aL.kids=[]:=rfl
theorem Io:so.name=[]:=rfl
theorem I5:so.args=[]:=rfl
theorem I9:so.sort=0:=rfl
theorem FT:mC.aG=[]:=rfl
theorem EE:mC.bound=0:=rfl
theorem C0:mC.strict=false:=rfl
theorem Tc:jF.N=0:=rfl
theorem Ts:jF.D=0:=rfl
theorem Ja:vO.oZ=0:=rfl
theorem Tf:vO.n=0:=rfl
theorem Wa:vO.t=aL:=rfl
theorem Jn:vO.kids=[]:=rfl
attribute [simp] FV F7 Io I5 I9 FT EE C0 Tc Ts Ja Tf Wa Jn lW tO rL lj
attribute [go_sem] FV F7 Io I5 I9 FT EE C0 Tc Ts Ja Tf Wa Jn
theorem AH(n:ni)(ks:List Term):(Term.mk n ks).name=n:=rfl
theorem zY(n:ni)(ks:List Term):(Term.mk n ks).kids=ks:=rfl
attribute [simp] AH zY
attribute [go_sem] AH zY
def oJ(a b:Rat):Int:=if cS a b then -1 else if cS b a then 1 else 0
def gM:List Rat→List Rat→Int
 | [],[]=>0
 | [],_::_=>-1
 | _::_,[]=>1
 | a::as,b::bs=>if oJ a b=0 then gM as bs else oJ a b
def nS(a b:ni):Int:=if gn a b then -1 else if gn b a then 1 else 0
def oo(a b:Int):Int:=if a<b then -1 else if b<a then 1 else 0
def fb(a b:Row):Int:=if nS a.name b.name≠0 then nS a.name b.name else if oo a.args.length b.args.length≠0 then oo a.args.length b.args.length else gM a.args b.args
def kQ(r:Row):Bool:=fE r.name&&(decide (r.args.length≤2)&&(bV r.val&&r.args.all bV))
def uI:Option Row→List Row→Bool
 | _,[]=>true
 | p,r::rs=>kQ r&&((match p with|none=>true|some q=>decide (fb q r<0))&&uI (some r) rs)
def e7(m:Model):Bool:=decide (m.rows.length≤40)&&uI none m.rows
def qT(a:Rat)(sort:Int):Bool:=decide (sort=1)||decide (a.D=1)
def ji:List Rat→List Int→Bool
 | a::as,n::ns=>qT a n&&ji as ns
 | _,_=>true
def jB(s:dE)(r:Row):Bool:=
 match symbol s r.name with
 | none=>false
 | some x=>decide (x.args.length=r.args.length)&&(qT r.val x.sort&&ji r.args x.args)
def e6(s:dE)(m:Model):Bool:=fH s&&(e7 m&&m.rows.all (jB s))
def lookup(rows:List Row)(name:ni)(args:List Rat):Rat:=
 match rows.find? (fun r=>decide (r.name=name∧r.args=args)) with
 | some r=>r.val
 | none=>⟨0,1⟩
mutual
def value(m:Model):Term→Rat
 | .mk n ks=>lookup m.rows n (values m ks)
def values(m:Model):List Term→List Rat
 | []=>[]
 | t::ts=>value m t::values m ts
end
def mg(m:Model):List Term→List Int→Rat→Option Rat
 | t::ts,n::ns,sum=>if(plus sum n (value m t)).2 then mg m ts ns (plus sum n (value m t)).1 else none
 | _,_,sum=>some sum
def below(a:Rat)(bound:Int)(strict:Bool):Bool:=if strict then cS a (whole bound) else !cS (whole bound) a
def nL(m:Model)(a:Atom):Option Bool:=if a.kind=1 then some (decide (value m a.A=value m a.B)) else(mg m a.nums a.times (whole 0)).map fun x=>below x a.bound a.strict
def fW(s:dE)(m:Model)(l:bp):Option Bool:=if e6 s m&&fa s l.atom then(nL m l.atom).map fun b=>b != l.no else none
mutual
def tF(s:dE)(nums:List Term):Case→List bp→Nat→Bool
 | .mk k n w ts a b ks,ab,dp=>
   if 14<dp then false else
   if k=1 then bare (.mk k n w ts a b ks) true true false false 0&&(within n 0 (ab.length-1)&&(match se s (bc ab) w,ab[n.toNat]? with
    | some e,some l=>l.no&&(decide (l.atom.kind=1)&&(decide (e.A=l.atom.A)&&decide (e.B=l.atom.B)))
    | _,_=>false)) else
   if k=2 then bare (.mk k n w ts a b ks) false false true false 0&&qU (dQ nums ab) ts else
   if k=3 then bare (.mk k n w ts a b ks) false true false false 1&&(match se s (bc ab) w with
    | some e=>differ nums e.A e.B&&ny s nums ks [ab++[gJ e.A e.B]] (dp+1)
    | none=>false) else
   if k=4 then bare (.mk k n w ts a b ks) false false false true 3&&(differ nums a b&&ny s nums ks ((fJ a b).map fun l=>ab++[l]) (dp+1)) else
   false
def ny(s:dE)(nums:List Term):List Case→List (List bp)→Nat→Bool
 | c::cs,l::ls,dp=>tF s nums c l dp&&ny s nums cs ls dp
 | _,_,_=>true
end
def Fv(s:dE)(ab:List bp)(c:Case):Bool:=eZ s ab&&tF s (numsOf s ab) c ab 1
def Vp(kind:Int):Int:=if kind=1 then 0 else if kind=2 then 1 else if kind=3∨kind=4∨kind=5∨kind=6 then 2 else -1
def wx:Atom:=⟨0,aL,aL,[],[],0,false⟩
def Dq:bp:=⟨wx,false⟩
def ZZ:Form:=.mk 0 Dq []
def WY(l:bp):Bool:=!l.no&&decide (l.atom=wx)
def Mt(k:Int)(l:bp)(ks:List Form):Bool:=decide (Vp k=ks.length)&&(if k=1 then cJ l.atom else WY l)
mutual
def MO:Form→Nat→Nat
 | .mk k l ks,dp=>if decide (dp≤5)&&Mt k l ks then 1+IW ks (dp+1) else 11
def IW:List Form→Nat→Nat
 | [],_=>0
 | t::ts,dp=>MO t dp+IW ts dp
end
mutual
def Rz:Form→Nat→Bool
 | _,0=>false
 | .mk k l ks,d+1=>Mt k l ks&&E3 ks d
def E3:List Form→Nat→Bool
 | [],_=>true
 | t::ts,d=>Rz t d&&E3 ts d
end
mutual
def Tm:Form→Nat→Nat
 | _,0=>1
 | .mk _ _ ks,d+1=>1+Jz ks d
def Jz:List Form→Nat→Nat
 | [],_=>0
 | t::ts,d=>Tm t d+Jz ts d
end
def KT(list:List Atom)(a:Atom):Int:=idxOf (fun b=>decide (a=b)) list
mutual
def withAtoms(list:List Atom):Form→List Atom
 | .mk k l ks=>if k=1 then(if KT list l.atom<0 then list++[l.atom] else list) else zw list ks
def zw(list:List Atom):List Form→List Atom
 | []=>list
 | t::ts=>zw (withAtoms list t) ts
end
def Pg(f:Form):Bool:=decide (MO f 1≤10)&&decide ((withAtoms [] f).length≤6)
def plain(list:List Atom):List bp:=list.map fun a=>⟨a,false⟩
def YI(s:dE)(f:Form):Bool:=Pg f&&eZ s (plain (withAtoms [] f))
mutual
def holds(p:Atom→Bool):Form→Bool
 | .mk k l ks=>Y1 k l (US p ks) p
def US(p:Atom→Bool):List Form→List Bool
 | []=>[]
 | t::ts=>holds p t::US p ts
def Y1(k:Int)(l:bp)(is:List Bool)(p:Atom→Bool):Bool:=
 if k=1 then p l.atom != l.no else
 if k=2 then !(is.getD 0 false) else
 if k=3 then is.getD 0 false&&is.getD 1 false else
 if k=4 then is.getD 0 false||is.getD 1 false else
 if k=5 then !(is.getD 0 false)||is.getD 1 false else
 is.getD 0 false == is.getD 1 false
end
def YW(f:Form)(aE:List Bool):Option Bool:=
 if Pg f&&decide ((withAtoms [] f).length=aE.length) then some (holds (fun a=>aE.getD (KT (withAtoms [] f) a).toNat false) f) else none
def Th(s:dE)(m:Model):List Atom→Option (List Bool)
 | []=>some []
 | a::as=>match fW s m ⟨a,false⟩ with
   | none=>none
   | some b=>match Th s m as with
     | none=>none
     | some bs=>some (b::bs)
def SA(s:dE)(m:Model)(f:Form):Option Bool:=
 if YI s f then(match Th s m (withAtoms [] f) with|none=>none|some aE=>YW f aE) else none
def JW:List Form→List Atom→List Atom
 | [],out=>out
 | f::fs,out=>JW fs (withAtoms out f)
def zD(list:List Form):Option (List Atom):=
 if decide (list.length≤5)&&(list.all Pg&&decide ((JW list []).length≤6)) then some (JW list []) else none
def Qq(s:dE)(list:List Form):Bool:=match zD list with|none=>false|some atoms=>fH s&&eZ s (plain atoms)
def Y8(l many:Int):Bool:=decide (l≠0)&&within l (-many) many
def Ym:List Int→List Int→Int→Bool
 | _,[],_=>true
 | before,m::ms,many=>Y8 m many&&(!(before.contains m)&&(!(before.contains (-m))&&Ym (before++[m]) ms many))
def ML(marks:List Int)(many:Nat):Bool:=Ym [] marks many
def V0(marks:List Int)(atoms:List Atom):List bp:=marks.map fun m=>⟨atoms.getD (m.natAbs-1) wx,decide (m<0)⟩
def aaR(s:dE)(list:List Form)(l:QT):Bool:=
 Qq s list&&(decide (0<l.marks.length)&&(ML l.marks ((zD list).getD []).length&&Fv s (V0 l.marks ((zD list).getD [])) l.case))
def aaa(s:dE)(m:Model)(list:List Form):Bool:=Qq s list&&(e6 s m&&list.all fun f=>decide (SA s m f=some true))
end Go.Mod
namespace Go.Proofs.YtabembjmeobhoaaGreat
open Go.Eng Go.Mod
set_option maxRecDepth 100000
theorem LI{n:Int}:(if n < -n then -n else n)=(n.natAbs:Int):=by split<;>omega
end Go.Proofs.YtabembjmeobhoaaGreat
namespace Go.Mod
open Go.Eng
mutual
theorem sP:∀(t:Term)(d:Nat),d≤4→(bK t d=true→kW t (5-d)=many t d)∧(bK t d=false→13≤kW t (5-d))
 | .mk n ks,0,_=>by simp[bK,kW]
 | .mk n ks,d+1,hd=>by
   obtain⟨h1,h2⟩:=Aj ks d (by omega)
   have e:5-(d+1)+1=5-d:=by omega
   have e2:5-(d+1)≤4:=by omega
   simp only[bK,kW,many,e,e2,decide_true,Bool.and_true]
   cases hn:fE n
   ·simp
   ·rcases aa (ks.length≤2) with hk|hk
    ·simp only[hk,decide_true,Bool.and_self,aM,if_true]
     exact⟨fun h=>by rw[h1 h],fun h=>by have:=h2 h;omega⟩
    ·simp[hk]
theorem Aj:∀(ts:List Term)(d:Nat),d≤4→(cG ts d=true→fl ts (5-d)=lM ts d)∧(cG ts d=false→13≤fl ts (5-d))
 | [],_,_=>by simp[cG,fl,lM]
 | t::ts,d,hd=>by
   obtain⟨h1,h2⟩:=sP t d hd
   obtain⟨h3,h4⟩:=Aj ts d hd
   simp only[cG,fl,lM]
   cases ht:bK t d
   ·have:=h2 ht
    exact⟨fun h=>by simp at h,fun _=>by omega⟩
   ·cases hts:cG ts d
    ·have:=h4 hts
     exact⟨fun h=>by simp at h,fun _=>by omega⟩
    ·exact⟨fun _=>by rw[h1 ht,h3 hts],fun h=>by simp at h⟩
end
def right(t:Term):Bool:=bK t 4&&decide (many t 4≤12)
theorem A9(t:Term):right t=isTerm t:=by
 have h:=sP t 4 (by omega)
 simp only[show 5-4=1 from rfl] at h
 obtain⟨h1,h2⟩:=h
 unfold right isTerm
 cases h:bK t 4
 ·have:=h2 h
  simp only[Bool.false_and]
  symm
  simp only[decide_eq_false_iff_not]
  omega
 ·rw[←h1 h]
  simp
theorem iC{t:Term}(h:isTerm t=true):bK t 4=true:=by
 rw[←A9] at h
 simp only[right,ai] at h
 exact h.1
mutual
theorem Cg:∀(t:Term)(d:Nat),bK t d=true→bK t (d+1)=true
 | .mk n ks,0,h=>by simp[bK] at h
 | .mk n ks,d+1,h=>by
   simp only[bK,ai] at h⊢
   exact⟨h.1,h.2.1,E4 ks d h.2.2⟩
theorem E4:∀(ts:List Term)(d:Nat),cG ts d=true→cG ts (d+1)=true
 | [],_,_=>by simp[cG]
 | t::ts,d,h=>by
   simp only[cG,ai] at h⊢
   exact⟨Cg t d h.1,E4 ts d h.2⟩
end
theorem n7:∀{ts:List Term}{d:Nat},cG ts d=true→∀t∈ts,bK t d=true
 | [],_,_,t,ht=>by simp at ht
 | a::ts,d,h,t,ht=>by
   simp only[cG,ai] at h
   rcases ay.1 ht with rfl|ht
   ·exact h.1
   ·exact n7 h.2 t ht
theorem nY{t:Term}{d:Nat}(h:bK t (d+1)=true):fE t.name=true∧t.kids.length≤2∧cG t.kids d=true:=by
 cases t with
 | mk n ks=>
   simp only[bK,ai,decide_eq_true_eq] at h
   exact⟨h.1,h.2.1,h.2.2⟩
mutual
theorem JJ:∀(t:Term)(d:Nat),bK t d=true→many t d+1≤2 ^ d
 | .mk n ks,0,h=>by simp[bK] at h
 | .mk n ks,d+1,h=>by
   simp only[bK,ai,decide_eq_true_eq] at h
   have:=zT ks d h.2.2
   simp only[many]
   have h3:ks.length*(2 ^ d-1)≤2*(2 ^ d-1):=bP _ h.2.1
   have h4:1≤2 ^ d:=jK
   rw[Nat.pow_succ]
   omega
theorem zT:∀(ts:List Term)(d:Nat),cG ts d=true→lM ts d≤ts.length*(2 ^ d-1)
 | [],_,_=>by simp[lM]
 | t::ts,d,h=>by
   simp only[cG,ai] at h
   have h1:=JJ t d h.1
   have h2:=zT ts d h.2
   simp only[lM,a8,cQ,Nat.one_mul]
   omega
end
mutual
theorem CV:∀(t:Term)(dp:Nat),1≤dp→dp≤5→kW t dp+14≤27*2 ^ (5-dp)
 | .mk n ks,dp,h1,h5=>by
   simp only[kW]
   split
   ·rename_i h
    simp only[ai,decide_eq_true_eq] at h
    have:=u9 ks (dp+1) (by omega) (by omega)
    have h3:ks.length*(27*2 ^ (5-(dp+1))-14)≤2*(27*2 ^ (5-(dp+1))-14):=bP _ h.1.2
    have e:5-dp=(5-(dp+1))+1:=by omega
    have h4:1≤2 ^ (5-(dp+1)):=jK
    rw[e,Nat.pow_succ]
    omega
   ·have h4:1≤2 ^ (5-dp):=jK
    omega
theorem u9:∀(ts:List Term)(dp:Nat),1≤dp→dp≤5→fl ts dp≤ts.length*(27*2 ^ (5-dp)-14)
 | [],_,_,_=>by simp[fl]
 | t::ts,dp,h1,h5=>by
   have h2:=CV t dp h1 h5
   have h3:=u9 ts dp h1 h5
   simp only[fl,a8,cQ,Nat.one_mul]
   omega
end
theorem gg:∀(ts l:List Term),ba l ts=ts.foldl dh l
 | [],_=>rfl
 | t::ts,l=>by simp only[ba,List.foldl_cons,gg ts]
theorem qH{ts:List Term}{i:Nat}(h:i<ts.length)(l:List Term):ba l (ts.take (i+1))=dh (ba l (ts.take i)) ts[i]:=by
 have e:ts.take (i+1)=ts.take i++[ts[i]]:=by rw[bC,ah h];rfl
 rw[e,gg,gg,List.foldl_append]
 rfl
theorem rf(l:List Term)(t:Term):dh l t=if bL (ba l t.kids) t<0 then ba l t.kids++[t] else ba l t.kids:=by
 cases t;rfl
mutual
theorem yL:∀(t:Term)(d:Nat)(l:List Term),bK t d=true→(dh l t).length≤l.length+many t d
 | .mk n ks,0,l,h=>by simp[bK] at h
 | .mk n ks,d+1,l,h=>by
   simp only[bK,ai] at h
   have:=rC ks d l h.2.2
   simp only[dh,many]
   split
   ·simp only[aX,a8,ez]
    omega
   ·omega
theorem rC:∀(ts:List Term)(d:Nat)(l:List Term),cG ts d=true→(ba l ts).length≤l.length+lM ts d
 | [],_,_,_=>by simp[ba]
 | t::ts,d,l,h=>by
   simp only[cG,ai] at h
   have h1:=yL t d l h.1
   have h2:=rC ts d (dh l t) h.2
   simp only[ba,lM]
   omega
end
theorem rb:∀{ts:List Term}{d:Nat},cG ts d=true→∀i,cG (ts.take i) d=true
 | [],_,_,i=>by simp[cG]
 | t::ts,d,h,0=>by simp[cG]
 | t::ts,d,h,i+1=>by
   simp only[cG,ai,dH] at h⊢
   exact⟨h.1,rb h.2 i⟩
theorem Bg{t:Term}{d:Nat}{l:List Term}(h:bK t d=true)(hd:d≤4):(dh l t).length≤l.length+15:=by
 have h1:=yL t d l h
 have h2:=JJ t d h
 have h3:2 ^ d≤2 ^ 4:=fy (by omega) hd
 omega
theorem yC{t:Term}{d:Nat}{l:List Term}(h:bK t (d+1)=true)(hd:d≤3)(i:Nat):(ba l (t.kids.take i)).length≤l.length+14:=by
 obtain⟨_,h1,h2⟩:=nY h
 have h3:=rC (t.kids.take i) d l (rb h2 i)
 have h4:=zT (t.kids.take i) d (rb h2 i)
 have h5:2 ^ d≤2 ^ 3:=fy (by omega) hd
 have h6:(t.kids.take i).length≤2:=by simp;omega
 have h7:(t.kids.take i).length*(2 ^ d-1)≤2*(2 ^ d-1):=bP _ h6
 omega
theorem Gi{n:Int}:isSort n=true↔n=0∨n=1:=by simp[isSort]
theorem F8:∀{l:List Sym}{p:Option ni},qM p l=true→∀x∈l,ob x=true
 | [],_,_,x,hx=>by simp at hx
 | a::l,p,h,x,hx=>by
   simp only[qM,ai] at h
   rcases ay.1 hx with rfl|hx
   ·exact h.1
   ·exact F8 h.2.2 x hx
theorem Ix{s:dE}{n:ni}{x:Sym}(hs:fH s=true)(h:symbol s n=some x):ob x=true:=by
 simp only[fH,ai] at hs
 exact F8 hs.1 x (eY h)
theorem Gq{x:Sym}(h:ob x=true):isSort x.sort=true∧∀n∈x.args,isSort n=true:=by
 simp only[ob,ai,cd] at h
 exact⟨h.2.2.1,h.2.2.2⟩
theorem L7{s:dE}{t:Term}{n:Int}(hs:fH s=true)(h:fK s t=some n):isSort n=true:=by
 cases t with
 | mk nm ks=>
   simp only[fK] at h
   cases hx:symbol s nm with
   | none=>rw[hx] at h;cases h
   | some x=>
     rw[hx] at h
     simp only at h
     split at h
     ·cases h
      exact(Gq (Ix hs hx)).1
     ·cases h
theorem xW:iM 40=false:=by decide
theorem xH:iM 41=false:=by decide
theorem xF:iM 44=false:=by decide
def Qm(r:ni):Prop:=∀c x,r=c::x→iM c=false
def L2(r:ni):Prop:=∀c x,r=c::x→iM c=false∧c≠40
theorem vd{c:UInt8}{x:ni}(h:iM c=false):Qm (c::x):=by
 intro c' x' e
 cases e
 exact h
theorem mD{c:UInt8}{x:ni}(h:iM c=false)(h2:c≠40):L2 (c::x):=by
 intro c' x' e
 cases e
 exact⟨h,h2⟩
theorem L2.n{r:ni}(h:L2 r):Qm r:=fun c x e=>(h c x e).1
theorem qx:∀{a b r r':ni},a.all iM=true→b.all iM=true→Qm r→Qm r'→a++r=b++r'→a=b∧r=r'
 | [],[],r,r',_,_,_,_,h=>⟨rfl,by simpa using h⟩
 | [],c::b,r,r',_,hb,hr,_,h=>by
   simp only[b8,ai] at hb
   have:=hr c (b++r') (by simpa using h)
   rw[this] at hb
   simp at hb
 | c::a,[],r,r',ha,_,_,hr',h=>by
   simp only[b8,ai] at ha
   have:=hr' c (a++r) (by simpa using h.symm)
   rw[this] at ha
   simp at ha
 | c::a,d::b,r,r',ha,hb,hr,hr',h=>by
   simp only[b8,ai] at ha hb
   simp only[bz,List.cons.injEq] at h
   obtain⟨h1,h2⟩:=qx ha.2 hb.2 hr hr' h.2
   exact⟨by rw[h.1,h1],h2⟩
theorem Gk{n:ni}(h:fE n=true):n.all iM=true:=by
 simp only[fE,ai] at h
 exact h.2
mutual
theorem wc:∀(t u:Term)(d:Nat)(r r':ni),bK t d=true→bK u d=true→L2 r→L2 r'→aN t++r=aN u++r'→t=u∧r=r'
 | t,u,0,r,r',ht,_,_,_,_=>by simp[bK] at ht
 | .mk n ks,.mk m js,d+1,r,r',ht,hu,hr,hr',h=>by
   simp only[bK,ai] at ht hu
   have hn:=Gk ht.1
   have hm:=Gk hu.1
   match ks,js,ht,hu,h with
   | [],[],ht,hu,h=>
     simp only[aN] at h
     obtain⟨h1,h2⟩:=qx hn hm hr.n hr'.n h
     exact⟨by rw[h1],h2⟩
   | [],k::js,ht,hu,h=>
     simp only[aN,bm,bz] at h
     obtain⟨h1,h2⟩:=qx hn hm hr.n (vd xW) h
     exact absurd rfl ((hr _ _ h2).2)
   | k::ks,[],ht,hu,h=>
     simp only[aN,bm,bz] at h
     obtain⟨h1,h2⟩:=qx hn hm (vd xW) hr'.n h
     exact absurd rfl ((hr' _ _ h2.symm).2)
   | k::ks,j::js,ht,hu,h=>
     simp only[aN,bm,bz] at h
     obtain⟨h1,h2⟩:=qx hn hm (vd xW) (vd xW) h
     simp only[List.cons.injEq,true_and] at h2
     obtain⟨h3,h4⟩:=I7 (k::ks) (j::js) d r r' ht.2.2 hu.2.2 (by simp) (by simp) (by simpa[fO] using h2)
     exact⟨by rw[h1,h3],h4⟩
theorem I7:∀(ts us:List Term)(d:Nat)(r r':ni),cG ts d=true→cG us d=true→ts≠[]→us≠[]→jS (fO ts)++41::r=jS (fO us)++41::r'→ts=us∧r=r'
 | [],_,_,_,_,_,_,h,_,_=>absurd rfl h
 | _::_,[],_,_,_,_,_,_,h,_=>absurd rfl h
 | [t],[u],d,r,r',ht,hu,_,_,h=>by
   simp only[cG,ai] at ht hu
   simp only[fO,jS] at h
   obtain⟨h1,h2⟩:=wc t u d _ _ ht.1 hu.1 (mD xH (by decide)) (mD xH (by decide)) h
   simp only[List.cons.injEq,true_and] at h2
   exact⟨by rw[h1],h2⟩
 | [t],u::v::us,d,r,r',ht,hu,_,_,h=>by
   simp only[cG,ai] at ht hu
   simp only[fO,jS,bm,bz] at h
   obtain⟨h1,h2⟩:=wc t u d _ _ ht.1 hu.1 (mD xH (by decide)) (mD xF (by decide)) h
   simp at h2
 | t::w::ts,[u],d,r,r',ht,hu,_,_,h=>by
   simp only[cG,ai] at ht hu
   simp only[fO,jS,bm,bz] at h
   obtain⟨h1,h2⟩:=wc t u d _ _ ht.1 hu.1 (mD xF (by decide)) (mD xH (by decide)) h
   simp at h2
 | t::w::ts,u::v::us,d,r,r',ht,hu,_,_,h=>by
   simp only[cG,ai] at ht hu
   simp only[fO,jS,bm,bz] at h
   obtain⟨h1,h2⟩:=wc t u d _ _ ht.1 hu.1 (mD xF (by decide)) (mD xF (by decide)) h
   simp only[List.cons.injEq,true_and] at h2
   obtain⟨h3,h4⟩:=I7 (w::ts) (v::us) d r r' (by simp only[cG,ai];exact ht.2) (by simp only[cG,ai];exact hu.2) (by simp) (by simp) (by simpa[fO] using h2)
   exact⟨by rw[h1,h3],h4⟩
end
theorem Ae{t u:Term}(ht:isTerm t=true)(hu:isTerm u=true)(h:aN t=aN u):t=u:=
 (wc t u 4 [] [] (iC ht) (iC hu) (fun _ _ e=>by cases e) (fun _ _ e=>by cases e) (by rw[h])).1
mutual
theorem E5:∀(t:Term)(d:Nat),bK t d=true→(aN t).length+6≤8*2 ^ d
 | t,0,h=>by simp[bK] at h
 | .mk n [],d+1,h=>by
   simp only[bK,ai] at h
   have h1:n.length≤2:=by
    have:=h.1
    simp only[fE,ai] at this
    have:=dx.1 this.1
    omega
   have h4:1≤2 ^ d:=jK
   simp only[aN,Nat.pow_succ]
   omega
 | .mk n (k::ks),d+1,h=>by
   simp only[bK,ai,decide_eq_true_eq] at h
   have h1:n.length≤2:=by
    have:=h.1
    simp only[fE,ai] at this
    have:=dx.1 this.1
    omega
   have h2:=Ig (k::ks) d h.2.2
   have h4:1≤2 ^ d:=jK
   simp only[fO] at h2
   simp only[aN,aX,a8,ez,Nat.pow_succ]
   have h3:(k::ks).length*(8*2 ^ d-5)≤2*(8*2 ^ d-5):=bP _ h.2.1
   omega
theorem Ig:∀(ts:List Term)(d:Nat),cG ts d=true→(jS (fO ts)).length≤ts.length*(8*2 ^ d-5)
 | [],_,_=>by simp[fO,jS]
 | [t],d,h=>by
   simp only[cG,ai] at h
   have:=E5 t d h.1
   simp only[fO,jS,a8,ez]
   omega
 | t::u::ts,d,h=>by
   simp only[cG,ai] at h
   have h1:=E5 t d h.1
   have h2:=Ig (u::ts) d (by simp only[cG,ai];exact h.2)
   simp only[fO] at h2
   simp only[fO,jS,aX,a8] at h2⊢
   have e:(ts.length+1+1)*(8*2 ^ d-5)=(ts.length+1)*(8*2 ^ d-5)+(8*2 ^ d-5):=by rw[cQ (ts.length+1) 1];omega
   rw[e]
   omega
end
theorem uO{t:Term}{d:Nat}(h:bK t d=true)(hd:d≤4):(aN t).length≤122:=by
 have h1:=E5 t d h
 have h2:2 ^ d≤2 ^ 4:=fy (by omega) hd
 omega
theorem Nz{α:Type}{p:α→Bool}:∀{xs:List α}{i:Int},0≤i→(0≤fX p xs i↔∃x∈xs,p x=true)
 | [],i,h=>by simp[fX]
 | x::xs,i,h=>by
   simp only[fX,ay,exists_eq_or_imp]
   split
   ·rename_i hx
    simp[hx,h]
   ·rename_i hx
    rw[Nz (by omega)]
    simp[hx]
theorem wh{α:Type}{p:α→Bool}:∀{xs:List α}{i:Int},0≤i→fX p xs i=if fX p xs 0<0 then -1 else fX p xs 0+i
 | [],i,h=>by simp[fX]
 | x::xs,i,h=>by
   simp only[fX]
   split
   ·simp
   ·rw[wh (i:=i+1) (by omega),wh (i:=0+1) (by omega)]
    rcases aa (fX p xs 0<0) with hc|hc
    ·simp[hc]
    ·simp only[hc,if_false]
     rw[if_neg (by omega)]
     omega
theorem LV{α:Type}{p:α→Bool}:∀{xs:List α}{i:Int},fX p xs i<i+xs.length∨fX p xs i = -1
 | [],i=>by simp[fX]
 | x::xs,i=>by
   simp only[fX,a8]
   split
   ·left;omega
   ·rcases LV (p:=p) (xs:=xs) (i:=i+1) with h|h
    ·left;omega
    ·right;exact h
theorem cK{l:List Term}{t:Term}:0≤bL l t↔t∈l:=by
 unfold bL idxOf
 rw[Nz (by omega)]
 simp
theorem nP{l:List Term}{t:Term}(h:t∈l):(bL l t).toNat<l.length:=by
 have h1:=cK.2 h
 rcases LV (p:=fun u=>decide (t=u)) (xs:=l) (i:=0) with h2|h2
 ·unfold bL idxOf at h1⊢
  omega
 ·unfold bL idxOf at h1
  omega
theorem iH{t:Term}:∀{l:List Term},t∈l→l[(bL l t).toNat]?=some t
 | [],h=>by simp at h
 | x::xs,h=>by
   unfold bL idxOf
   simp only[fX]
   rcases aa (t=x) with hx|hx
   ·simp[hx]
   ·have hm:t∈xs:=by simpa[hx] using h
    have h0:=cK.2 hm
    have ih:=iH hm
    unfold bL idxOf at ih h0
    simp only[hx,decide_false,ax,if_false]
    rw[wh (by omega),if_neg (by omega)]
    have e:(fX (fun u=>decide (t=u)) xs 0+(0+1)).toNat=(fX (fun u=>decide (t=u)) xs 0).toNat+1:=by omega
    rw[e,ld,ih]
theorem C8{l:List Term}{t u:Term}(ht:t∈l)(hu:u∈l)(h:bL l t=bL l u):t=u:=by
 have h1:=iH ht
 have h2:=iH hu
 rw[h,h2] at h1
 exact(Option.some.inj h1).symm
theorem uD{nums:List Term}{a b:Term}:differ nums a b=true↔a∈nums∧b∈nums∧a≠b:=by
 simp only[differ,ai,decide_eq_true_eq,cK]
 constructor
 ·rintro⟨h1,h2,h3⟩
  exact⟨h1,h2,fun h=>h3 (by rw[h])⟩
 ·rintro⟨h1,h2,h3⟩
  exact⟨h1,h2,fun h=>h3 (C8 h1 h2 h)⟩
theorem tV:∀{cs:List Int}{i:Int}(v:Int),0≤i→mI cs i v=cs.set i.toNat (cs.getD i.toNat 0+v)
 | [],i,v,h=>by simp[mI]
 | c::cs,i,v,h=>by
   simp only[mI]
   rcases aa (i=0) with h0|h0
   ·subst h0;simp
   ·rw[if_neg h0,tV v (by omega)]
    have e:i.toNat=(i-1).toNat+1:=by omega
    rw[e]
    simp
theorem xY:∀{cs:List Int}{i v:Int},(mI cs i v).length=cs.length
 | [],i,v=>rfl
 | c::cs,i,v=>by
   simp only[mI]
   split
   ·simp
   ·simp[xY (cs:=cs)]
theorem ED:∀{cs:List Int}{i k v w:Int},mI (mI cs i v) k w=mI (mI cs k w) i v
 | [],i,k,v,w=>rfl
 | c::cs,i,k,v,w=>by
   simp only[mI]
   rcases aa (i=0) with hi|hi
   ·rcases aa (k=0) with hk|hk
    ·simp only[hi,hk,if_true,mI]
     congr 1
     omega
    ·simp only[hi,hk,if_true,if_false,mI]
   ·rcases aa (k=0) with hk|hk
    ·simp only[hi,hk,if_true,if_false,mI]
    ·simp only[hi,hk,if_false,mI]
     rw[ED (cs:=cs)]
def oa(nums:List Term):List Term→List Int→List Int→List Int
 | t::ts,n::ns,cs=>oa nums ts ns (cs.set (bL nums t).toNat n)
 | _,_,cs=>cs
theorem getD_set_ne{cs:List Int}{i k:Nat}{v:Int}(h:i≠k):(cs.set i v).getD k 0=cs.getD k 0:=by
 simp[cC,List.getElem?_set_ne h]
theorem M8{nums:List Term}:∀{ts:List Term}{ns cs:List Int},ts.Nodup→(∀t∈ts,t∈nums∧cs.getD (bL nums t).toNat 0=0)→oa nums ts ns cs=jP nums ts ns cs
 | [],_,_,_,_=>by simp[oa,jP]
 | _::_,[],_,_,_=>by simp[oa,jP]
 | t::ts,n::ns,cs,hd,h=>by
   simp only[oa,jP]
   have ht:=h t (by simp)
   rw[tV n (cK.2 ht.1),ht.2,Int.zero_add]
   refine M8 (cE.1 hd).2 fun u hu=>?_
   have hu':=h u (by simp[hu])
   refine⟨hu'.1,?_⟩
   rw[getD_set_ne,hu'.2]
   intro e
   have h1:=cK.2 ht.1
   have h2:=cK.2 hu'.1
   have:t=u:=C8 ht.1 hu'.1 (by omega)
   subst this
   exact(cE.1 hd).1 hu
theorem VK(k:Nat):([0,0,0,0]:List Int).getD k 0=0:=by
 match k with
 | 0=>rfl
 | 1=>rfl
 | 2=>rfl
 | 3=>rfl
 | k+4=>rfl
theorem O5{n:Int}:na n=true ↔ -1000000≤n∧n≤1000000:=dx
theorem gq{l:ib}:dF l=true↔l.aG.length=4∧(∀c∈l.aG,-1000000≤c∧c≤1000000)∧(-1000000≤l.bound∧l.bound≤1000000):=by
 simp only[dF,ai,cd,decide_eq_true_eq,O5]
 constructor
 ·rintro⟨h1,h2,h3⟩
  exact⟨h2,h1,h3⟩
 ·rintro⟨h1,h2,h3⟩
  exact⟨h2,h1,h3⟩
theorem dj{m b:Int}(h0:0≤m)(h1:m≤1000000)(h2:-1000000≤b∧b≤1000000):-1000000000000≤m*b∧m*b≤1000000000000:=by
 have a1:m*b≤m*1000000:=Int.mul_le_mul_of_nonneg_left h2.2 h0
 have a2:m*(-1000000)≤m*b:=Int.mul_le_mul_of_nonneg_left h2.1 h0
 omega
theorem j5:∀{m n:Int}{as bs:List Int},as.length=bs.length→(comb m n as bs).length=as.length
 | _,_,[],[],_=>rfl
 | _,_,[],_::_,h=>by simp at h
 | _,_,_::_,[],h=>by simp at h
 | m,n,a::as,b::bs,h=>by
   simp only[comb,a8]
   rw[j5 (by simpa using h)]
theorem eW:∀{m n:Int}{as bs:List Int}{i:Nat}(h:i<as.length)(h':i<bs.length),comb m n (as.take (i+1)) (bs.take (i+1))=comb m n (as.take i) (bs.take i)++[m*as[i]+n*bs[i]]
 | _,_,[],_,i,h,_=>by simp at h
 | _,_,_::_,[],i,_,h=>by simp at h
 | m,n,a::as,b::bs,0,h,h'=>by simp[comb]
 | m,n,a::as,b::bs,i+1,h,h'=>by
   have:=eW (m:=m) (n:=n) (as:=as) (bs:=bs) (i:=i) (by simpa using h) (by simpa using h')
   simp only[dH,comb,bz,jq] at this⊢
   rw[this]
theorem pL{a b:ib}{m n:Int}(h1:dF a=true)(h2:dF b=true)(h3:within m 0 1000000=true)(h4:within n 0 1000000=true):dL a m b n=jm a m b n:=by simp[dL,h1,h2,h3,h4]
theorem Gd{ls:List ib}{ts:List Int}{i:Nat}(h:i<ls.length)(h':i<ts.length)(out:ib):o4 (ls.drop i) (ts.drop i) out=if(dL out 1 ls[i] ts[i]).2 then o4 (ls.drop (i+1)) (ts.drop (i+1)) (dL out 1 ls[i] ts[i]).1 else(mC,false):=by
 rw[aj h,aj h',o4]
theorem ph{α:Type}{xs:List α}{i:Nat}(h:i<xs.length):xs.take (i+1)=xs.take i++[xs[i]]:=by rw[bC,ah h];rfl
theorem qp(p:Option Term)(t:Term)(ts:List Term)(n:Int)(ns:List Int):kO p (t::ts) (n::ns)=(isTerm t&&(within n (-50) 50&&(decide (n≠0)&&((match p with|none=>true|some q=>gn (aN q) (aN t))&&kO (some t) ts ns)))):=rfl
theorem uz:∀{ts:List Term}{ns:List Int}{p:Option Term},kO p ts ns=true→ns.length=ts.length→(∀t∈ts,isTerm t=true)∧(∀n∈ns,-50≤n∧n≤50)
 | [],[],_,_,_=>by simp
 | [],_::_,_,_,h=>by simp at h
 | _::_,[],_,_,h=>by simp at h
 | t::ts,n::ns,p,h,hl=>by
   rw[qp] at h
   simp only[ai] at h
   obtain⟨h1,h2⟩:=uz h.2.2.2.2 (by simpa using hl)
   have h3:=dx.1 h.2.1
   refine⟨fun u hu=>?_,fun m hm=>?_⟩
   ·rcases ay.1 hu with rfl|hu
    ·exact h.1
    ·exact h1 u hu
   ·rcases ay.1 hm with rfl|hm
    ·exact h3
    ·exact h2 m hm
theorem mF{a:Atom}(h:cJ a=true)(k:a.kind=2):isNone a.A=true∧isNone a.B=true∧a.nums.length≤4∧a.times.length=a.nums.length∧(-1000≤a.bound∧a.bound≤1000)∧kO none a.nums a.times=true:=by
 rw[cJ,if_neg (by omega),if_pos k] at h
 simp only[ai,decide_eq_true_eq] at h
 have h3:=dx.1 h.2.2.1
 have h5:=dx.1 h.2.2.2.2.1
 exact⟨h.1,h.2.1,by omega,h.2.2.2.1,h5,h.2.2.2.2.2⟩
theorem j6{a:Atom}(h:cJ a=true):a.kind=1∨a.kind=2:=by
 rcases aa (a.kind=1) with k1|k1
 ·exact .inl k1
 ·rcases aa (a.kind=2) with k2|k2
  ·exact .inr k2
  ·simp[cJ,k1,k2] at h
theorem Ij{a:Atom}(h:cJ a=true)(k:a.kind=1):isTerm a.A=true∧isTerm a.B=true:=by
 simp only[cJ,k,if_true,ai] at h
 exact⟨h.1,h.2.1⟩
theorem mS{a:Atom}(h:cJ a=true):(b9 a).length≤4∧∀t∈b9 a,isTerm t=true:=by
 unfold b9
 rcases aa (a.kind=1) with k1|k1
 ·rw[if_pos k1]
  have:=Ij h k1
  refine⟨by simp,fun t ht=>?_⟩
  simp only[ay,bn,or_false] at ht
  rcases ht with rfl|rfl
  ·exact this.1
  ·exact this.2
 ·rw[if_neg k1]
  have k2:a.kind=2:=(j6 h).resolve_left k1
  have:=mF h k2
  exact⟨this.2.2.1,(uz this.2.2.2.2.2 this.2.2.2.1).1⟩
def dI(ab:List bp):List Term:=ab.flatMap fun l=>b9 l.atom
theorem jD(ab:List bp):aA ab=lQ (dI ab):=rfl
theorem tq{ab:List bp}{i:Nat}(h:i<ab.length):dI (ab.take (i+1))=dI (ab.take i)++b9 ab[i].atom:=by
 rw[ph h]
 simp only[dI,List.flatMap_append,kj,List.flatMap_nil,bF]
theorem iT:∀{ab:List bp},(∀l∈ab,cJ l.atom=true)→(dI ab).length≤4*ab.length∧∀t∈dI ab,isTerm t=true
 | [],_=>by simp[dI]
 | l::ls,h=>by
   obtain⟨h1,h2⟩:=iT (ab:=ls) fun x hx=>h x (by simp[hx])
   obtain⟨h3,h4⟩:=mS (h l (by simp))
   simp only[dI,kj,aX,a8,aR] at h1 h2⊢
   refine⟨by omega,fun t ht=>?_⟩
   rcases ht with ht|ht
   ·exact h4 t ht
   ·exact h2 t ht
theorem Cy:∀{ts out:List Term},(∀t∈ts,isTerm t=true)→pV ts out=ba out ts
 | [],_,_=>by simp[pV,ba]
 | t::ts,out,h=>by
   simp only[pV,ba,h t (by simp),if_true]
   exact Cy fun u hu=>h u (by simp[hu])
theorem iB{ts:List Term}(h:∀t∈ts,isTerm t=true):lQ ts=ba [] ts:=Cy h
mutual
theorem yo:∀(t:Term)(l:List Term),(∀u∈l,u∈dh l t)∧t∈dh l t
 | .mk n ks,l=>by
   have h:=rA ks l
   simp only[dh]
   split
   ·exact⟨fun u hu=>by simp[h u hu],by simp⟩
   ·rename_i hx
    exact⟨h,cK.1 (by omega)⟩
theorem rA:∀(ts:List Term)(l:List Term),∀u∈l,u∈ba l ts
 | [],l,u,h=>by simpa[ba] using h
 | t::ts,l,u,h=>by
   simp only[ba]
   exact rA ts _ u ((yo t l).1 u h)
end
theorem rN:∀(ts:List Term)(l:List Term),∀t∈ts,t∈ba l ts
 | [],_,t,h=>by simp at h
 | a::ts,l,t,h=>by
   simp only[ba]
   rcases ay.1 h with rfl|h
   ·exact rA ts _ _ (yo _ l).2
   ·exact rN ts _ t h
mutual
theorem vE:∀(t:Term)(d:Nat)(l:List Term),d≤4→bK t d=true→many t d≤12→(∀u∈l,isTerm u=true)→∀u∈dh l t,isTerm u=true
 | .mk n ks,0,l,_,h,_,_,u,_=>by simp[bK] at h
 | .mk n ks,d+1,l,hd,h,hm,hl,u,hu=>by
   have h':=h
   simp only[bK,ai] at h'
   have hk:=ui ks d l (by omega) h'.2.2 (by simp only[many] at hm;omega) hl
   simp only[dh] at hu
   split at hu
   ·simp only[aR,ay,bn,or_false] at hu
    rcases hu with hu|rfl
    ·exact hk u hu
    ·rw[←A9]
     have up:∀(k:Nat)(t:Term)(d:Nat),d+k≤4→bK t d=true→bK t (d+k)=true:=by
      intro k
      induction k with
      | zero=>intro t d _ h;exact h
      | succ k ih=>intro t d hk h;rw[←iE];exact Cg _ _ (ih t d (by omega) h)
     have s4:=up (4-(d+1)) _ (d+1) (by omega) h
     rw[show d+1+(4-(d+1))=4 by omega] at s4
     have m1:=(sP (.mk n ks) (d+1) hd).1 h
     have m2:=(sP (.mk n ks) 4 (by omega)).1 s4
     simp only[right,s4,aM,decide_eq_true_eq]
     have mm:∀(k:Nat)(t:Term)(d:Nat),d+k≤4→bK t d=true→many t (d+k)=many t d:=by
      intro k
      induction k with
      | zero=>intro t d _ _;rfl
      | succ k ih=>
        intro t d hk h
        have h1:=ih t d (by omega) h
        have:∀(d:Nat)(t:Term),bK t d=true→many t (d+1)=many t d:=by
         intro d
         induction d with
         | zero=>intro t h;cases t;simp[bK] at h
         | succ d ihd=>
           intro t h
           cases t with
           | mk n ks=>
             simp only[bK,ai] at h
             have hs:∀(ks:List Term),cG ks d=true→lM ks (d+1)=lM ks d:=by
              intro ks
              induction ks with
              | nil=>intro _;simp[lM]
              | cons a as iha=>
                intro h
                simp only[cG,ai] at h
                simp only[lM,ihd a h.1,iha h.2]
             simp only[many,hs ks h.2.2]
        rw[←iE,this (d+k) t (up k t d (by omega) h),h1]
     have:=mm (4-(d+1)) (.mk n ks) (d+1) (by omega) h
     rw[show d+1+(4-(d+1))=4 by omega] at this
     omega
   ·exact hk u hu
theorem ui:∀(ts:List Term)(d:Nat)(l:List Term),d≤4→cG ts d=true→lM ts d≤12→(∀u∈l,isTerm u=true)→∀u∈ba l ts,isTerm u=true
 | [],_,l,_,_,_,hl,u,hu=>hl u (by simpa[ba] using hu)
 | t::ts,d,l,hd,h,hm,hl,u,hu=>by
   simp only[cG,ai] at h
   simp only[lM] at hm
   simp only[ba] at hu
   exact ui ts d _ hd h.2 (by omega) (vE t d l hd h.1 (by omega) hl) u hu
end
theorem uq:∀(ts l:List Term),(∀t∈ts,isTerm t=true)→(∀u∈l,isTerm u=true)→∀u∈ba l ts,isTerm u=true
 | [],l,_,hl,u,hu=>hl u (by simpa[ba] using hu)
 | t::ts,l,ht,hl,u,hu=>by
   simp only[ba] at hu
   have h4:=ht t (by simp)
   have hr:=h4
   rw[←A9] at hr
   simp only[right,ai,decide_eq_true_eq] at hr
   exact uq ts _ (fun x hx=>ht x (by simp[hx])) (vE t 4 l (by omega) hr.1 hr.2 hl) u hu
theorem qR{ts:List Term}(h:∀t∈ts,isTerm t=true):∀u∈lQ ts,isTerm u=true:=by
 rw[iB h]
 exact uq ts [] h (by simp)
theorem yt{ts:List Term}(h:∀t∈ts,isTerm t=true):∀t∈ts,t∈lQ ts:=by
 rw[iB h]
 exact rN ts []
theorem E8{ab:List bp}{i:Nat}(h:i<ab.length):bc (ab.take (i+1))=bc (ab.take i)++(if ab[i].atom.kind=1∧ab[i].no=false then [⟨ab[i].atom.A,ab[i].atom.B⟩] else []):=by
 rw[ph h]
 simp only[bc,List.filterMap_append,List.filterMap_cons,List.filterMap_nil]
 split<;>simp_all
theorem Iv(ab:List bp):(bc ab).length≤ab.length:=by
 unfold bc
 exact List.length_filterMap_le ..
theorem GI{nums:List Term}:∀{ts:List Term}{ns cs:List Int}{i:Nat}(h:i<ts.length)(h':i<ns.length),jP nums (ts.take (i+1)) (ns.take (i+1)) cs=mI (jP nums (ts.take i) (ns.take i) cs) (bL nums ts[i]) ns[i]
 | [],_,_,_,h,_=>by simp at h
 | _::_,[],_,_,_,h=>by simp at h
 | t::ts,n::ns,cs,0,_,_=>by simp[jP]
 | t::ts,n::ns,cs,i+1,h,h'=>by
   simp only[dH,jP,jq]
   exact GI (by simpa using h) (by simpa using h')
theorem IJ{nums:List Term}:∀{ts:List Term}{ns cs:List Int},(jP nums ts ns cs).length=cs.length
 | [],_,_=>by simp[jP]
 | _::_,[],_=>by simp[jP]
 | t::ts,n::ns,cs=>by simp only[jP];rw[IJ,xY]
theorem Di:∀{cs:List Int}{i v m k:Int},(∀c∈cs,-m≤c∧c≤m) → -k≤v→v≤k→0≤k→∀c∈mI cs i v,-(m+k)≤c∧c≤m+k
 | [],i,v,m,k,_,_,_,_,c,hc=>by simp[mI] at hc
 | a::cs,i,v,m,k,h,h1,h2,h3,c,hc=>by
   have ha:=h a (by simp)
   simp only[mI] at hc
   split at hc
   ·rcases ay.1 hc with rfl|hc
    ·omega
    ·have:=h c (by simp[hc]);omega
   ·rcases ay.1 hc with rfl|hc
    ·omega
    ·exact Di (fun x hx=>h x (by simp[hx])) h1 h2 h3 c hc
theorem CF{nums:List Term}:∀{ts:List Term}{ns cs:List Int}{m:Int},(∀c∈cs,-m≤c∧c≤m)→(∀n∈ns,-50≤n∧n≤50)→0≤m→∀c∈jP nums ts ns cs,-(m+50*ts.length)≤c∧c≤m+50*ts.length
 | [],_,cs,m,h,_,_,c,hc=>by simp only[jP] at hc;have:=h c hc;simp;omega
 | _::_,[],cs,m,h,_,_,c,hc=>by simp only[jP] at hc;have:=h c hc;omega
 | t::ts,n::ns,cs,m,h,hn,hm,c,hc=>by
   simp only[jP] at hc
   have h1:=hn n (by simp)
   have:=CF (m:=m+50) (Di h h1.1 h1.2 (by omega)) (fun x hx=>hn x (by simp[hx])) (by omega) c hc
   simp only[a8]
   omega
theorem BZ{cs:List Int}{i:Nat}{v:Int}(h:i<cs.length):(bG cs).set i [.val (.int .i64 v)]=bG (cs.set i v):=by
 simp[bG,List.map_set]
theorem CT{nums:List Term}{ab:List bp}{i:Nat}(h:i<ab.length):dQ nums (ab.take (i+1))=dQ nums (ab.take i)++iV nums ab[i]:=by
 rw[ph h]
 simp only[dQ,List.flatMap_append,kj,List.flatMap_nil,bF]
theorem Nb(nums:List Term)(l:bp):(iV nums l).length≤2:=by
 unfold iV
 split
 ·simp
 ·split<;>simp
theorem ze(nums:List Term):∀(ab:List bp),(dQ nums ab).length≤2*ab.length
 | []=>by simp[dQ]
 | l::ls=>by
   have h1:=Nb nums l
   have h2:=ze nums ls
   simp only[dQ,kj,aX,a8] at h2⊢
   omega
structure Fit(nums:List Term)(l:bp):Prop where
 wf:cJ l.atom=true
 sum:l.atom.kind=2→∀t∈l.atom.nums,t∈nums
 eq:l.atom.kind=1→(l.atom.A∈nums↔l.atom.B∈nums)
theorem VW(a b:UInt8):(a<b∧¬b<a∧a≠b)∨(a=b∧¬a<b∧¬b<a)∨(b<a∧¬a<b∧a≠b):=by
 simp only[UInt8.lt_iff_toNat_lt,ne_eq,←UInt8.toNat_inj]
 omega
theorem Et:∀(a b:List UInt8),(!(Op.bytesLess a b||decide (a=b)))=Op.bytesLess b a
 | [],[]=>by simp[Op.bytesLess]
 | [],_::_=>by simp[Op.bytesLess]
 | _::_,[]=>by simp[Op.bytesLess]
 | a::x,b::y=>by
   have ih:=Et x y
   rcases VW a b with⟨h1,h2,h3⟩|⟨rfl,h1,h2⟩|⟨h1,h2,h3⟩
   ·have h4:¬b=a:=fun h=>h3 h.symm
    simp[Op.bytesLess,h1,h2,h4]
   ·simp[Op.bytesLess,h1,←ih]
   ·have h4:¬b=a:=fun h=>h3 h.symm
    simp[Op.bytesLess,h1,h2,h3]
theorem sw:∀(a:List UInt8),Op.bytesLess a a=false
 | []=>rfl
 | a::x=>by simp[Op.bytesLess,sw x]
theorem uQ:∀{a b c:List UInt8},Op.bytesLess a b=true→Op.bytesLess b c=true→Op.bytesLess a c=true
 | _,[],_,h,_=>by simp[Op.bytesLess] at h
 | _,_::_,[],_,h=>by simp[Op.bytesLess] at h
 | [],_::_,_::_,_,_=>by simp[Op.bytesLess]
 | a::x,b::y,c::z,h1,h2=>by
   simp only[Op.bytesLess,Bool.or_eq_true,decide_eq_true_eq,ai,beq_iff_eq] at h1 h2⊢
   rcases h1 with h1|⟨rfl,h1⟩
   ·rcases h2 with h2|⟨rfl,h2⟩
    ·left
     rw[UInt8.lt_iff_toNat_lt] at *
     omega
    ·exact .inl h1
   ·rcases h2 with h2|⟨rfl,h2⟩
    ·exact .inl h2
    ·exact .inr ⟨rfl,uQ h1 h2⟩
theorem Kb{a b:List UInt8}(h:Op.bytesLess a b=true):a≠b:=by
 rintro rfl
 rw[sw] at h
 cases h
theorem zy{a b:List UInt8}(h:a≠b)(h2:Op.bytesLess a b=false):Op.bytesLess b a=true:=by
 rw[←Et a b,h2]
 simp[h]
theorem Jj:∀{ts:List Term}{ns:List Int}{q:Term},kO (some q) ts ns=true→ns.length=ts.length→∀t∈ts,gn (aN q) (aN t)=true
 | [],_,_,_,_=>by simp
 | _::_,[],_,_,hl=>by simp at hl
 | t::ts,n::ns,q,h,hl=>by
   rw[qp] at h
   simp only[ai] at h
   intro u hu
   rcases ay.1 hu with rfl|hu
   ·exact h.2.2.2.1
   ·exact uQ h.2.2.2.1 (Jj h.2.2.2.2 (by simpa using hl) u hu)
theorem AS:∀{ts:List Term}{ns:List Int}{p:Option Term},kO p ts ns=true→ns.length=ts.length→ts.Nodup
 | [],_,_,_,_=>by simp
 | _::_,[],_,_,hl=>by simp at hl
 | t::ts,n::ns,p,h,hl=>by
   rw[qp] at h
   simp only[ai] at h
   have hl:ns.length=ts.length:=by simpa using hl
   refine cE.2 ⟨fun hm=>?_,AS h.2.2.2.2 hl⟩
   exact Kb (Jj h.2.2.2.2 hl t hm) rfl
def abo(eqs:List iy)(oZ n:Int)(t:Term)(kids:List iy):iy×Bool:=
 if oZ≠2∧n≠0 then(Em,false) else
 if oZ=1∧kids.length=0 then(⟨t,t⟩,isTerm t) else
 if oZ=2∧kids.length=0∧isNone t=true∧0≤n∧n<eqs.length then(eqs.getD n.toNat Em,true) else
 if oZ=3∧kids.length=1∧isNone t=true then(⟨(kids.getD 0 Em).B,(kids.getD 0 Em).A⟩,true) else
 if oZ=4∧kids.length=2∧isNone t=true then(⟨(kids.getD 0 Em).A,(kids.getD 1 Em).B⟩,decide ((kids.getD 0 Em).B=(kids.getD 1 Em).A)) else
 if oZ=5∧0<kids.length∧t.kids.length=0 then(⟨.mk t.name (kids.map (·.A)),.mk t.name (kids.map (·.B))⟩,isTerm (.mk t.name (kids.map (·.A)))&&isTerm (.mk t.name (kids.map (·.B)))) else
 (Em,false)
def Alike(x y:iy×Bool):Prop:=x.2=y.2∧(x.2=true→x.1=y.1)
theorem L9{n:ni}{ks:List Term}(h:isTerm (.mk n ks)=true):fE n=true:=by
 have:=iC h
 simp only[bK,ai] at this
 exact this.1
theorem IM{nums:List Term}:∀{ts:List Term}{ns cs:List Int},(oa nums ts ns cs).length=cs.length
 | [],_,_=>by simp[oa]
 | _::_,[],_=>by simp[oa]
 | t::ts,n::ns,cs=>by simp only[oa];rw[IM,List.length_set]
theorem y0{nums:List Term}:∀{ts:List Term}{ns cs:List Int}{i:Nat}(h:i<ts.length)(h':i<ns.length),oa nums (ts.take (i+1)) (ns.take (i+1)) cs=(oa nums (ts.take i) (ns.take i) cs).set (bL nums ts[i]).toNat ns[i]
 | [],_,_,_,h,_=>by simp at h
 | _::_,[],_,_,_,h=>by simp at h
 | t::ts,n::ns,cs,0,_,_=>by simp[oa]
 | t::ts,n::ns,cs,i+1,h,h'=>by
   simp only[dH,oa,jq]
   exact y0 (by simpa using h) (by simpa using h')
theorem R9{nums ts:List Term}{ns:List Int}{b:Int}{st:Bool}(hn:kO none ts ns=true)(hl:ns.length=ts.length)(ki:∀t∈ts,t∈nums):lN nums ts ns b st=⟨oa nums ts ns [0,0,0,0],b,st⟩:=by
 rw[lN,M8 (AS hn hl) fun t ht=>⟨ki t ht,VK _⟩]
theorem PS(nums:List Term)(a b:Term):lN nums [a,b] [-1,1] 0 false=lN nums [b,a] [1,-1] 0 false:=by
 simp only[lN,jP]
 rw[ED]
theorem Oo{nums:List Term}{a b:Term}(ha:a∈nums)(hb:b∈nums)(ta:isTerm a=true)(tb:isTerm b=true):Fit nums (gJ a b):=by
 refine⟨?_,fun h=>?_,fun _=>?_⟩
 ·simp[cJ,gJ,xo,ta,tb]
 ·simp[gJ,xo] at h
 ·simp[gJ,xo,ha,hb]
theorem Rf{a b:Term}(ta:isTerm a=true)(tb:isTerm b=true)(h:gn (aN a) (aN b)=true)(m n:Int)(hm:within m (-50) 50=true)(hn:within n (-50) 50=true)(hm0:m≠0)(hn0:n≠0):cJ ⟨2,aL,aL,[a,b],[m,n],0,true⟩=true:=by
 have h2:kO none [a,b] [m,n]=true:=by
  rw[qp,qp]
  have e:kO (some b) [] []=true:=rfl
  simp[ta,tb,hm,hn,hm0,hn0,h,e]
 have e:cJ ⟨2,aL,aL,[a,b],[m,n],0,true⟩=(isNone aL&&(isNone aL&&(within ([a,b].length:Int) 1 4&&(decide ([m,n].length=[a,b].length)&&(within 0 (-1000) 1000&&kO none [a,b] [m,n]))))):=rfl
 rw[e,h2]
 rfl
theorem EV{nums:List Term}{a b:Term}(ha:a∈nums)(hb:b∈nums)(ta:isTerm a=true)(tb:isTerm b=true)(jv:a≠b):Fit nums (dz a b):=by
 have ht:aN a≠aN b:=fun h=>jv (Ae ta tb h)
 unfold dz
 cases h:gn (aN b) (aN a)
 ·have h2:gn (aN a) (aN b)=true:=zy (a:=aN b) (b:=aN a) (fun e=>ht e.symm) h
  refine⟨Rf ta tb h2 1 (-1) rfl rfl (by omega) (by omega),fun _ t hm=>?_,fun h=>?_⟩
  ·simp only[ax,if_false,ay,bn,or_false] at hm
   rcases hm with rfl|rfl
   ·exact ha
   ·exact hb
  ·simp at h
 ·refine⟨Rf tb ta h (-1) 1 rfl rfl (by omega) (by omega),fun _ t hm=>?_,fun h=>?_⟩
  ·simp only[if_true,ay,bn,or_false] at hm
   rcases hm with rfl|rfl
   ·exact hb
   ·exact ha
  ·simp at h
theorem A8{s:dE}{ab:List bp}(h:eZ s ab=true):(∀l∈ab,Fit (numsOf s ab) l)∧(∀t∈numsOf s ab,isTerm t=true)∧(numsOf s ab).length≤4∧ab.length≤6∧fH s=true∧(∀l∈ab,cJ l.atom=true)∧(∀t∈aA ab,isTerm t=true)∧(aA ab).length≤24:=by
 simp only[eZ,ai,decide_eq_true_eq,cd] at h
 obtain⟨⟨⟨⟨hs,h6⟩,hA⟩,h24⟩,h4⟩:=h
 have hw:∀l∈ab,cJ l.atom=true:=by
  intro l hl
  have:=hA l hl
  simp only[fa,ai] at this
  exact this.2.1
 have eP:=(iT hw).2
 have htt:∀t∈aA ab,isTerm t=true:=by rw[jD];exact qR eP
 have ki:∀l∈ab,∀t∈b9 l.atom,t∈aA ab:=by
  intro l hl t ht
  rw[jD]
  exact yt eP t (List.mem_flatMap.2 ⟨l,hl,ht⟩)
 have hnum:∀t,t∈numsOf s ab↔t∈aA ab∧dk s t=true:=fun t=>List.mem_filter
 refine⟨fun l hl=>⟨hw l hl,fun k t ht=>?_,fun k=>?_⟩,fun t ht=>htt t ((hnum t).1 ht).1,h4,h6,hs,hw,htt,h24⟩
 ·have hk1:¬l.atom.kind=1:=by omega
  have ha:=hA l hl
  simp only[fa,ai,hk1,if_false,cd] at ha
  have hm:t∈b9 l.atom:=by simp only[b9,hk1,if_false];exact ht
  exact(hnum t).2 ⟨ki l hl t hm,ha.2.2 t ht⟩
 ·have ha:=hA l hl
  simp only[fa,ai,k,if_true,iL,decide_eq_true_eq] at ha
  have hm:l.atom.A∈aA ab∧l.atom.B∈aA ab:=by
   have:b9 l.atom=[l.atom.A,l.atom.B]:=by simp[b9,k]
   exact⟨ki l hl _ (by rw[this];simp),ki l hl _ (by rw[this];simp)⟩
  rw[hnum,hnum]
  simp only[hm.1,hm.2,true_and,dk,ha.2.2.2]
theorem oc{a:Rat}:bV a=true↔(-1000000000≤a.N∧a.N≤1000000000)∧(1≤a.D∧a.D≤1000000000)∧bJ a.N a.D=1:=by
 simp only[bV,ai,dx,decide_eq_true_eq]
 constructor
 ·rintro⟨h1,h2,h3⟩;exact⟨h1,h2,by omega⟩
 ·rintro⟨h1,h2,h3⟩;exact⟨h1,h2,by omega⟩
theorem WL{a b:Rat}(h1:a.N=b.N)(h2:a.D=b.D):a=b:=by cases a;cases b;simp_all
theorem Cl{a b:Rat}(ha:bV a=true)(hb:bV b=true)(h:a.N*b.D=b.N*a.D):a=b:=by
 rw[oc] at ha hb
 obtain⟨_,⟨a1,_⟩,ag⟩:=ha
 obtain⟨_,⟨b1,_⟩,bg⟩:=hb
 have hn:a.N.natAbs*b.D.natAbs=b.N.natAbs*a.D.natAbs:=by rw[←Int.natAbs_mul,←Int.natAbs_mul,h]
 have ca:Nat.Coprime a.D.natAbs a.N.natAbs:=by rw[Nat.Coprime,Nat.gcd_comm];exact ag
 have cb:Nat.Coprime b.D.natAbs b.N.natAbs:=by rw[Nat.Coprime,Nat.gcd_comm];exact bg
 have d1:a.D.natAbs∣b.D.natAbs:=ca.dvd_of_dvd_mul_left ⟨b.N.natAbs,by rw[hn,Nat.mul_comm]⟩
 have d2:b.D.natAbs∣a.D.natAbs:=cb.dvd_of_dvd_mul_left ⟨a.N.natAbs,by rw[←hn,Nat.mul_comm]⟩
 have e:a.D.natAbs=b.D.natAbs:=Nat.dvd_antisymm d1 d2
 have eD:a.D=b.D:=by omega
 refine WL ?_ eD
 rw[eD] at h
 exact Int.eq_of_mul_eq_mul_right (by omega) h
theorem fx{a b:Rat}(ha:bV a=true)(hb:bV b=true):cS a b=true↔a.N*b.D<b.N*a.D:=by
 simp[cS,ha,hb]
theorem CM{a b:Rat}(ha:bV a=true)(hb:bV b=true):oJ a b=0↔a=b:=by
 constructor
 ·intro h
  unfold oJ at h
  split at h
  ·omega
  ·rename_i h1
   split at h
   ·omega
   ·rename_i h2
    rw[fx ha hb] at h1
    rw[fx hb ha] at h2
    exact Cl ha hb (by omega)
 ·rintro rfl
  have:cS a a=false:=by
   cases h:cS a a
   ·rfl
   ·rw[fx ha ha] at h;omega
  simp[oJ,this]
theorem Pe{a b:Rat}:oJ a b<0↔cS a b=true:=by
 unfold oJ
 split
 ·rename_i h;simp[h]
 ·rename_i h
  split<;>simp_all
theorem HG{a b c:Rat}(ha:bV a=true)(hb:bV b=true)(hc:bV c=true)(h1:cS a b=true)(h2:cS b c=true):cS a c=true:=by
 rw[fx ha hb] at h1
 rw[fx hb hc] at h2
 rw[fx ha hc]
 rw[oc] at ha hb hc
 have e1:a.N*b.D*c.D<b.N*a.D*c.D:=Int.mul_lt_mul_of_pos_right h1 (by omega)
 have e2:b.N*c.D*a.D<c.N*b.D*a.D:=Int.mul_lt_mul_of_pos_right h2 (by omega)
 have e3:b.N*a.D*c.D=b.N*c.D*a.D:=by rw[nx,Int.mul_comm a.D,←nx]
 have e4:a.N*c.D*b.D<c.N*a.D*b.D:=by
  rw[nx,Int.mul_comm c.D,←nx,nx c.N,Int.mul_comm a.D,←nx]
  omega
 exact Int.lt_of_mul_lt_mul_right e4 (by omega)
def dC(as:List Rat):Bool:=as.all bV
theorem vt:∀{as bs:List Rat},dC as=true→dC bs=true→(gM as bs=0↔as=bs)
 | [],[],_,_=>by simp[gM]
 | [],b::bs,_,_=>by simp[gM]
 | a::as,[],_,_=>by simp[gM]
 | a::as,b::bs,ha,hb=>by
   simp only[dC,b8,ai] at ha hb
   have h:=CM ha.1 hb.1
   have h2:=vt (as:=as) (bs:=bs) ha.2 hb.2
   simp only[gM]
   split
   ·rename_i e;rw[h2,List.cons.injEq,h.1 e];simp
   ·rename_i e
    constructor
    ·intro e2;exact absurd e2 e
    ·intro e2;rw[List.cons.injEq] at e2;exact absurd (h.2 e2.1) e
def fY:List Rat→List Rat→Bool
 | a::as,b::bs=>if a=b then fY as bs else cS a b
 | _,_=>false
def dq(a b:Row):Bool:=if a.name=b.name then(if a.args.length=b.args.length then fY a.args b.args else decide (a.args.length<b.args.length)) else gn a.name b.name
theorem C6:∀{as bs:List Rat},dC as=true→dC bs=true→as.length=bs.length→(gM as bs<0↔fY as bs=true)
 | [],[],_,_,_=>by simp[gM,fY]
 | [],b::bs,_,_,h=>by simp at h
 | a::as,[],_,_,h=>by simp at h
 | a::as,b::bs,ha,hb,hl=>by
   simp only[dC,b8,ai] at ha hb
   have h:=CM ha.1 hb.1
   have h2:=C6 (as:=as) (bs:=bs) ha.2 hb.2 (by simpa using hl)
   simp only[gM,fY]
   split
   ·rename_i e;rw[if_pos (h.1 e),h2]
   ·rename_i e;rw[if_neg (fun x=>e (h.2 x)),Pe]
theorem qo{a b:ni}:nS a b=0↔a=b:=by
 unfold nS
 constructor
 ·intro h
  split at h
  ·omega
  ·rename_i h1
   split at h
   ·omega
   ·rename_i h2
    rcases aa (a=b) with e|e
    ·exact e
    ·exact absurd (zy e (by simpa[gn] using h1)) h2
 ·rintro rfl
  simp[gn,sw]
theorem P4{a b:ni}:nS a b<0↔gn a b=true:=by
 unfold nS
 split
 ·rename_i h;simp[h]
 ·rename_i h
  split<;>simp_all
theorem wJ{a b:Int}:oo a b=0↔a=b:=by unfold oo;split<;>(try split)<;>omega
theorem Ol{a b:Int}:oo a b<0↔a<b:=by unfold oo;split<;>(try split)<;>omega
theorem qk{a b:Row}(ha:dC a.args=true)(hb:dC b.args=true):fb a b=0↔a.name=b.name∧a.args=b.args:=by
 unfold fb
 constructor
 ·intro h
  split at h
  ·rename_i e;exact absurd h e
  ·rename_i e
   split at h
   ·rename_i e2;exact absurd h e2
   ·exact⟨qo.1 (oS.1 e),(vt ha hb).1 h⟩
 ·rintro⟨e,e2⟩
  have h1:nS a.name b.name=0:=qo.2 e
  have h2:oo a.args.length b.args.length=0:=wJ.2 (by rw[e2])
  have h3:gM a.args b.args=0:=(vt ha hb).2 e2
  simp[h1,h2,h3]
theorem lp{a b:Row}(ha:dC a.args=true)(hb:dC b.args=true):fb a b<0↔dq a b=true:=by
 unfold fb dq
 split
 ·rename_i e
  rw[if_neg (fun x=>e (qo.2 x)),P4]
 ·rename_i e
  rw[if_pos (qo.1 (oS.1 e))]
  split
  ·rename_i e2
   have:¬a.args.length=b.args.length:=fun x=>e2 (wJ.2 (by rw[x]))
   rw[if_neg this,Ol]
   simp
  ·rename_i e2
   have:=wJ.1 (oS.1 e2)
   have h3:a.args.length=b.args.length:=by omega
   rw[if_pos h3,C6 ha hb h3]
theorem xn:∀{as bs cs:List Rat},dC as=true→dC bs=true→dC cs=true→fY as bs=true→fY bs cs=true→fY as cs=true
 | [],_,_,_,_,_,h,_=>by simp[fY] at h
 | _::_,[],_,_,_,_,h,_=>by simp[fY] at h
 | _::_,_::_,[],_,_,_,_,h=>by simp[fY] at h
 | a::as,b::bs,c::cs,ha,hb,hc,h1,h2=>by
   simp only[dC,b8,ai] at ha hb hc
   simp only[fY] at h1 h2⊢
   split at h1
   ·rename_i e
    subst e
    split at h2
    ·rename_i e2
     rw[if_pos e2]
     exact xn ha.2 hb.2 hc.2 h1 h2
    ·rename_i e2
     rw[if_neg e2];exact h2
   ·rename_i e
    split at h2
    ·rename_i e2
     subst e2
     rw[if_neg e];exact h1
    ·have h3:=HG ha.1 hb.1 hc.1 h1 h2
     have:¬a=c:=by
      rintro rfl
      rw[fx ha.1 ha.1] at h3;omega
     rw[if_neg this];exact h3
theorem p9{a b c:Row}(ha:dC a.args=true)(hb:dC b.args=true)(hc:dC c.args=true)(h1:dq a b=true)(h2:dq b c=true):dq a c=true:=by
 unfold dq at h1 h2⊢
 split at h1
 ·rename_i e
  rw[e]
  split at h2
  ·rename_i e2
   rw[if_pos e2]
   split at h1
   ·rename_i l1
    rw[l1]
    split at h2
    ·rename_i l2
     rw[if_pos l2]
     exact xn ha hb hc h1 h2
    ·rename_i l2
     rw[if_neg l2];exact h2
   ·rename_i l1
    simp only[decide_eq_true_eq] at h1
    split at h2
    ·rename_i l2
     rw[if_neg (by omega)];simp;omega
    ·simp only[decide_eq_true_eq] at h2
     rw[if_neg (by omega)];simp;omega
  ·rename_i e2
   rw[if_neg e2];exact h2
 ·rename_i e
  split at h2
  ·rename_i e2
   rw[←e2,if_neg e];exact h1
  ·have h3:gn a.name c.name=true:=uQ h1 h2
   rw[if_neg (Kb h3)];exact h3
theorem lu{r:Row}(h:kQ r=true):dC r.args=true:=by
 simp only[kQ,ai] at h
 exact h.2.2.2
def jY:Option Row→List Row→Bool
 | _,[]=>true
 | p,r::rs=>kQ r&&((match p with|none=>true|some q=>dq q r)&&jY (some r) rs)
theorem Cs:∀(rs:List Row)(p:Option Row),(∀q,p=some q→kQ q=true)→uI p rs=jY p rs
 | [],_,_=>rfl
 | r::rs,p,hp=>by
   simp only[uI,jY]
   cases hr:kQ r
   ·rfl
   ·rw[Cs rs (some r) (fun q e=>by cases e;exact hr)]
    cases p with
    | none=>rfl
    | some q=>
      have h:=lp (lu (hp q rfl)) (lu hr)
      have:decide (fb q r<0)=dq q r:=by
       cases hl:dq q r
       ·simp only[decide_eq_false_iff_not];rw[h,hl];simp
       ·simp only[decide_eq_true_eq];rw[h,hl]
      simp only[this]
theorem uN:∀{rs:List Row}{p:Option Row},jY p rs=true→∀r∈rs,kQ r=true
 | [],_,_,r,hr=>by simp at hr
 | a::rs,p,h,r,hr=>by
   simp only[jY,ai] at h
   rcases ay.1 hr with rfl|hr
   ·exact h.1
   ·exact uN h.2.2 r hr
theorem yD:∀{rs:List Row}{q:Row},kQ q=true→jY (some q) rs=true→∀r∈rs,dq q r=true
 | [],_,_,_,r,hr=>by simp at hr
 | a::rs,q,hq,h,r,hr=>by
   simp only[jY,ai] at h
   rcases ay.1 hr with rfl|hr
   ·exact h.2.1
   ·exact p9 (lu hq) (lu h.1) (lu (uN h.2.2 r hr)) h.2.1 (yD h.1 h.2.2 r hr)
theorem yS:∀{rs:List Row}{p:Option Row},jY p rs=true→rs.Pairwise (fun a b=>dq a b=true)
 | [],_,_=>List.Pairwise.nil
 | a::rs,p,h=>by
   simp only[jY,ai] at h
   exact List.Pairwise.cons (fun r hr=>yD h.1 h.2.2 r hr) (yS h.2.2)
theorem mU{m:Model}(h:e7 m=true):m.rows.length≤40∧(∀r∈m.rows,kQ r=true)∧m.rows.Pairwise (fun a b=>dq a b=true):=by
 simp only[e7,ai,decide_eq_true_eq] at h
 rw[Cs _ none (by simp)] at h
 exact⟨h.1,uN h.2,yS h.2⟩
def cut:List Row→Row→Nat
 | [],_=>0
 | r::rs,t=>if fb r t<0 then cut rs t+1 else 0
theorem Pu:∀(rs:List Row)(t:Row),cut rs t≤rs.length
 | [],_=>by simp[cut]
 | r::rs,t=>by
   have:=Pu rs t
   simp only[cut,a8]
   split<;>omega
def lx(rs:List Row)(t:Row):Prop:=rs.Pairwise (fun a b=>fb b t<0→fb a t<0)
theorem sY:∀{rs:List Row}{t:Row},lx rs t→∀(k:Nat)(h:k<rs.length),k<cut rs t↔fb rs[k] t<0
 | [],_,_,k,h=>by simp at h
 | r::rs,t,hm,k,h=>by
   obtain⟨h1,h2⟩:=nU.1 hm
   simp only[cut]
   cases k with
   | zero=>
     simp only[List.getElem_cons_zero]
     split<;>simp_all
   | succ k=>
     simp only[jq]
     have hk:k<rs.length:=by simpa using h
     have h3:=sY (rs:=rs) (t:=t) h2 k hk
     split
     ·rw[←h3];omega
     ·rename_i hn
      constructor
      ·intro x;omega
      ·intro x;exact absurd (h1 _ (List.getElem_mem hk) x) hn
theorem Zq{rs:List Row}{t:Row}(hm:lx rs t){i:Nat}(hi:i≤rs.length)(h1:∀(k:Nat)(h:k<rs.length),k<i→fb rs[k] t<0)(h2:∀(k:Nat)(h:k<rs.length),i≤k→¬fb rs[k] t<0):cut rs t=i:=by
 have h3:=Pu rs t
 rcases Nat.lt_trichotomy (cut rs t) i with h|h|h
 ·have h4:=(sY hm (cut rs t) (by omega)).2 (h1 _ (by omega) h)
  omega
 ·exact h
 ·have h4:=(sY hm i (by omega)).1 h
  exact absurd h4 (h2 i (by omega) (Nat.le_refl i))
theorem Wj{m:Model}{t:Row}(h:e7 m=true)(ht:dC t.args=true):lx m.rows t:=by
 obtain⟨_,h1,h2⟩:=mU h
 refine List.Pairwise.imp_of_mem ?_ h2
 intro a b ha hb hab hbt
 have wa:=lu (h1 a ha)
 have wb:=lu (h1 b hb)
 rw[lp wb ht] at hbt
 rw[lp wa ht]
 exact p9 wa wb ht hab hbt
def found(rs:List Row)(t:Row):Bool:=match rs[cut rs t]? with|some r=>decide (fb r t=0)|none=>false
theorem LY:∀{rs:List Row}{t:Row},(∀r∈rs,dC r.args=true)→dC t.args=true→rs.Pairwise (fun a b=>dq a b=true) →
 rs.find? (fun r=>decide (r.name=t.name∧r.args=t.args))=if found rs t then rs[cut rs t]? else none
 | [],_,_,_,_=>by simp[found]
 | r::rs,t,hr,ht,hp=>by
   obtain⟨h1,h2⟩:=nU.1 hp
   have ih:=LY (rs:=rs) (t:=t) (fun x hx=>hr x (bl _ hx)) ht h2
   have wr:=hr r (by simp)
   have hz:=qk wr ht
   rw[List.find?_cons]
   rcases aa (r.name=t.name∧r.args=t.args) with e|e
   ·have hc:=hz.2 e
    have hcut:cut (r::rs) t=0:=by simp[cut,hc]
    simp[e,found,hcut,hc]
   ·simp only[e,decide_false]
    rw[ih]
    rcases aa (fb r t<0) with hn|hn
    ·have hc2:cut (r::rs) t=cut rs t+1:=by simp[cut,hn]
     have hf2:found (r::rs) t=found rs t:=by simp only[found,hc2,ld]
     rw[hf2,hc2,ld]
    ·have hcut:cut (r::rs) t=0:=by simp[cut,hn]
     have hf:found (r::rs) t=false:=by simp[found,hcut,hz,e]
     rw[hf]
     have:found rs t=false:=by
      unfold found
      split
      ·rename_i q hq
       have hq':q∈rs:=List.mem_of_getElem? hq
       simp only[decide_eq_false_iff_not]
       intro hc
       have hb:=(qk (hr q (bl _ hq')) ht).1 hc
       have hl:=h1 q hq'
       apply hn
       rw[lp wr ht]
       have:dq r q=dq r t:=by simp only[dq,hb.1,hb.2]
       rw[←this];exact hl
      ·rfl
     simp[this]
theorem OP{m:Model}{t:Row}(h:e7 m=true)(ht:dC t.args=true):lookup m.rows t.name t.args=if found m.rows t then(m.rows.getD (cut m.rows t) t).val else⟨0,1⟩:=by
 obtain⟨_,h1,h2⟩:=mU h
 unfold lookup
 rw[LY (fun r hr=>lu (h1 r hr)) ht h2]
 cases hf:found m.rows t
 ·simp
 ·unfold found at hf
  cases hx:m.rows[cut m.rows t]? with
  | none=>simp[hx] at hf
  | some r=>simp[hx,cC]
theorem Z9:bV ⟨0,1⟩=true:=by decide
theorem SV{m:Model}(h:e7 m=true)(n:ni)(as:List Rat):bV (lookup m.rows n as)=true:=by
 obtain⟨_,h1,_⟩:=mU h
 unfold lookup
 split
 ·rename_i r hr
  have:=h1 r (eY hr)
  simp only[kQ,ai] at this
  exact this.2.2.1
 ·exact Z9
theorem Gc(m:Model)(t:Term):value m t=lookup m.rows t.name (values m t.kids):=by cases t;rfl
theorem mH(m:Model):∀(ts:List Term),values m ts=ts.map (value m)
 | []=>rfl
 | t::ts=>by simp only[values,List.map_cons,mH m ts]
theorem GB{m:Model}(h:e7 m=true)(t:Term):bV (value m t)=true:=by rw[Gc];exact SV h _ _
theorem Ju{m:Model}(h:e7 m=true)(ts:List Term):dC (values m ts)=true:=by
 rw[mH]
 simp only[dC,List.all_map,cd,Function.comp]
 intro t _
 exact GB h t
theorem EH(m:Model)(ts:List Term):(values m ts).length=ts.length:=by rw[mH];simp
theorem qn{n:Int}(h1:-1000000000≤n)(h2:n≤1000000000):bV (whole n)=true:=by
 rw[oc]
 exact⟨⟨h1,h2⟩,⟨Int.le_refl 1,by show(1:Int)≤1000000000;omega⟩,Int.gcd_one_right n⟩
theorem I1{n d:Int}(h:(ig n d).2=true):bV (ig n d).1=true:=by
 unfold ig at h⊢
 split
 ·rename_i h0;rw[if_pos h0] at h;cases h
 ·rename_i h0
  rw[if_neg h0] at h
  simp only at h⊢
  generalize (⟨_,_⟩:Rat)=x at h⊢
  cases hx:bV x
  ·simp[hx] at h
  ·simp[hx]
theorem Iq{a b:Rat}(h:(c8 a b).2=true):bV (c8 a b).1=true:=by
 unfold c8 at h⊢
 split
 ·rename_i h0;rw[if_pos h0] at h;exact I1 h
 ·rename_i h0;rw[if_neg h0] at h;cases h
theorem QI{a v:Rat}{c:Int}(h:(plus a c v).2=true):bV (plus a c v).1=true:=by
 unfold plus at h⊢
 split
 ·rename_i h0;rw[if_pos h0] at h;exact Iq h
 ·rename_i h0;rw[if_neg h0] at h;cases h
theorem NS{a:Rat}{n:Int}(ha:bV a=true)(h1:-1000000000≤n)(h2:n≤1000000000)(st:Bool):below a n st=(cS a (whole n)||(!st&&decide (a=whole n))):=by
 have hw:=qn h1 h2
 unfold below
 cases st
 ·simp only[ax,if_false,Bool.not_false,aM]
  rcases aa (a=whole n) with e|e
  ·subst e
   have:cS (whole n) (whole n)=false:=by
    cases h:cS (whole n) (whole n)
    ·rfl
    ·rw[fx hw hw] at h;omega
   simp[this]
  ·have jv:¬a.N*(whole n).D=(whole n).N*a.D:=fun h=>e (Cl ha hw h)
   cases hl:cS a (whole n)<;>cases hr:cS (whole n) a<;>simp[e]
   ·have:¬ (a.N*(whole n).D<(whole n).N*a.D):=fun h=>by rw[(fx ha hw).2 h] at hl;cases hl
    have:¬ ((whole n).N*a.D<a.N*(whole n).D):=fun h=>by rw[(fx hw ha).2 h] at hr;cases hr
    omega
   ·rw[fx ha hw] at hl
    rw[fx hw ha] at hr
    omega
 ·simp
theorem LO{m:Model}:∀{ts:List Term}{ns:List Int}{sum r:Rat},bV sum=true→mg m ts ns sum=some r→bV r=true
 | [],_,sum,r,h,e=>by simp only[mg,Option.some.injEq] at e;rw[←e];exact h
 | _::_,[],sum,r,h,e=>by simp only[mg,Option.some.injEq] at e;rw[←e];exact h
 | t::ts,n::ns,sum,r,h,e=>by
   simp only[mg] at e
   split at e
   ·rename_i h1;exact LO (QI h1) e
   ·cases e
theorem PQ{m:Model}{ts:List Term}{ns:List Int}{i:Nat}(h:i<ts.length)(h':i<ns.length)(sum:Rat) :
 mg m (ts.drop i) (ns.drop i) sum=if(plus sum ns[i] (value m ts[i])).2 then mg m (ts.drop (i+1)) (ns.drop (i+1)) (plus sum ns[i] (value m ts[i])).1 else none:=by
 rw[aj h,aj h'];rfl
theorem RI{m:Model}{ts:List Term}{ns:List Int}{i:Nat}(h:ts.length≤i)(sum:Rat):mg m (ts.drop i) (ns.drop i) sum=some sum:=by
 rw[List.drop_of_length_le h];rfl
def at0:List Int→Int→Int
 | [],_=>0
 | x::xs,n=>if x=n then 1 else if x = -n then -1 else at0 xs n
def ri(n:Int):Int:=if n < -1000000000 then 1000000001 else if 1000000000<n then 1000000001 else if n<0 then -n else n
theorem sM{n:Int}:ri n≤1000000000 ↔ -1000000000≤n∧n≤1000000000:=by
 unfold ri;split
 ·omega
 ·split
  ·omega
  ·split<;>omega
theorem X6(n:Int):0≤ri n:=by
 unfold ri;split
 ·omega
 ·split
  ·omega
  ·split<;>omega
theorem Ni{n:Int}(h:-1000000000≤n∧n≤1000000000)(d:Int):bJ (ri n) d=bJ n d:=by
 have e:(ri n).natAbs=n.natAbs:=by
  unfold ri
  rw[if_neg (by omega),if_neg (by omega)]
  split<;>omega
 simp only[bJ,e]
theorem JZ(n d:Int):bJ (-n) d=bJ n d:=by simp only[bJ,Int.natAbs_neg]
theorem MC{p q:Int}(hp:0≤p)(hq:0<q):0≤p.tmod q∧p.tmod q<q∧bJ q (p.tmod q)=bJ p q:=by
 have e:p.tmod q=((p.natAbs % q.natAbs:Nat):Int):=by
  rw[Int.tmod_eq_emod_of_nonneg hp]
  have h1:(p.natAbs:Int)=p:=by omega
  have h2:(q.natAbs:Int)=q:=by omega
  rw[Int.natCast_emod,h1,h2]
 have mr:p.natAbs % q.natAbs<q.natAbs:=Nat.mod_lt _ (by omega)
 refine⟨by omega,by omega,?_⟩
 rw[e]
 simp only[bJ,Int.natAbs_natCast]
 rw[Nat.gcd_comm p.natAbs,Nat.gcd_rec q.natAbs p.natAbs,Nat.gcd_comm]
theorem gcd_zero{p:Int}(hp:0≤p):((bJ p 0:Nat):Int)=p:=by
 simp only[bJ,Int.natAbs_zero,Nat.gcd_zero_right]
 omega
theorem J8{n d:Int}(h:0<d):0<(bJ n d:Int):=by
 have:0<bJ n d:=Int.gcd_pos_of_ne_zero_right n (by omega)
 omega
theorem pC{n g k:Int}(hg:0<g)(h:-k≤n∧n≤k):-k≤n.tdiv g∧n.tdiv g≤k:=by
 have e:(n.tdiv g).natAbs=n.natAbs / g.natAbs:=Int.natAbs_tdiv n g
 have h2:n.natAbs / g.natAbs≤n.natAbs:=Nat.div_le_self _ _
 omega
theorem prod_bound{m b k l:Int}(h1:-k≤m∧m≤k)(h2:-l≤b∧b≤l):-(k*l)≤m*b∧m*b≤k*l:=by
 have e:(m*b).natAbs=m.natAbs*b.natAbs:=Int.natAbs_mul m b
 have h3:m.natAbs*b.natAbs≤k.natAbs*l.natAbs:=Nat.mul_le_mul (by omega) (by omega)
 have h4:(k*l).natAbs=k.natAbs*l.natAbs:=Int.natAbs_mul k l
 have h5:0≤k*l:=Int.mul_nonneg (by omega) (by omega)
 omega
theorem rF{m b:Int}(h1:-1000000000≤m∧m≤1000000000)(h2:-1000000000≤b∧b≤1000000000):-1000000000000000000≤m*b∧m*b≤1000000000000000000:=by
 have:=prod_bound h1 h2
 omega
theorem Q8{m b:Int}(h1:1≤m∧m≤1000000000)(h2:1≤b∧b≤1000000000):1≤m*b∧m*b≤1000000000000000000:=by
 have:=rF (m:=m) (b:=b) (by omega) (by omega)
 have:=Int.mul_pos (a:=m) (b:=b) (by omega) (by omega)
 omega
theorem zz{n d:Int}(hd:1≤d):ig n d=if bV ⟨n.tdiv (bJ n d),d.tdiv (bJ n d)⟩ then(⟨n.tdiv (bJ n d),d.tdiv (bJ n d)⟩,true) else(jF,false):=by
 unfold ig
 rw[if_neg (by omega)]
 simp only[if_neg (show ¬d<0 by omega)]
theorem pz(x y:Rat):oi x.N x.D y.N y.D=decide (x=y):=by
 cases x;cases y;simp only[oi,Rat.mk.injEq,Bool.decide_and];rfl
theorem Ap{m:Model}{ts:List Term}{i:Nat}(h:i<ts.length):br (values m (ts.take i))++[eO (value m ts[i])]=br (values m (ts.take (i+1))):=by
 have e:ts.take (i+1)=ts.take i++[ts[i]]:=by rw[bC,ah h];rfl
 rw[mH,mH,e,List.map_append,←sR]
 rfl
end Go.Mod
