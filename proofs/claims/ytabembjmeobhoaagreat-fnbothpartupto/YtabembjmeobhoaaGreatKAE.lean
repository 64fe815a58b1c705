/-
  The data of the program as plain Lean types, and how they lie in memory, cell by cell. No program is walked here.
-/
import Derived.Test.YtabembjmeobhoaaGreatKAD
set_option linter.unusedVariables false
set_option linter.unusedSimpArgs false
open Bool renaming and_eq_true→ai,false_eq_true→ax,true_and→aM
open Classical renaming em→aa,not_not→oP
open Int renaming gcd→bK,mul_assoc→nv
open List renaming getElem?_eq_getElem→ah,drop_eq_getElem_cons→aj,mem_cons→ay,mem_append→aR,length_append→aX,length_cons→a8,mem_cons_of_mem→bl,append_assoc→bm,not_mem_nil→bn,cons_append→bz,take_add_one→bC,mem_map→bD,append_nil→bF,all_cons→b7,all_eq_true→cd,getD→cC,nodup_cons→cE,take_succ_cons→dH,length_nil→ez,mem_of_find?_eq_some→eX,getElem_cons_succ→jo,flatMap_cons→ki,getElem?_cons_succ→ld,pairwise_cons→nS
open Nat renaming mul_le_mul_right→bP,add_mul→cP,pow_le_pow_right→fy,add_assoc→iC,one_le_two_pow→jL
namespace Go.Mod
open Go.Eng
abbrev nh:=List UInt8
def bG(ns:List Int):List (List D):=ns.map fun n=>[.val (.int .i64 n)]
def Yi(ns:List Bool):List (List D):=ns.map fun n=>[.val (.bool n)]
def mi(ns:List nh):List (List D):=ns.map fun n=>[.str n]
def Kv(ns:List (List Int)):List (List D):=ns.map fun n=>[.dP (bG n)]
theorem IL(ns:List Int):(bG ns).length=ns.length:=by simp[bG]
theorem Cy{ns:List Int}{i:Nat}(h:i<ns.length):row (bG ns) i=[.val (.int .i64 ns[i])]:=by simp[bG,row,cC,ah h]
theorem fQ(ns:List Int):∀y∈bG ns,y.length=1:=by
 intro y hy
 rw[show bG ns=ns.map _ from rfl] at hy
 obtain⟨t,_,rfl⟩:=bD.1 hy
 rfl
theorem eC(ns ms:List Int):bG ns++bG ms=bG (ns++ms):=by simp[bG]
theorem tW:bG []=[]:=rfl
theorem jB(n:Int)(ns:List Int):bG (n::ns)=[.val (.int .i64 n)]::bG ns:=rfl
theorem jU(ns:List Bool):∀y∈Yi ns,y.length=1:=by
 intro y hy
 rw[show Yi ns=ns.map _ from rfl] at hy
 obtain⟨t,_,rfl⟩:=bD.1 hy
 rfl
theorem ID(ns:List nh):(mi ns).length=ns.length:=by simp[mi]
theorem Ij{ns:List nh}{i:Nat}(h:i<ns.length):row (mi ns) i=[.str ns[i]]:=by simp[mi,row,cC,ah h]
theorem RD(ns ms:List nh):mi ns++mi ms=mi (ns++ms):=by simp[mi]
theorem SF:mi []=[]:=rfl
theorem jc(ns:List (List Int)):∀y∈Kv ns,y.length=1:=by
 intro y hy
 rw[show Kv ns=ns.map _ from rfl] at hy
 obtain⟨t,_,rfl⟩:=bD.1 hy
 rfl
inductive Term where
 | mk(name:nh)(kids:List Term)
def Term.name:Term→nh
 | .mk x _=>x
def Term.kids:Term→List Term
 | .mk _ x=>x
theorem Term.ind{P:Term→Prop}(h:∀name kids,(∀k∈kids,P k)→P (.mk name kids)):∀t,P t:=by
 intro t
 refine Term.rec (motive_1:=P) (motive_2:=fun ks=>∀k∈ks,P k) (fun name kids ih=>h name kids ih) (by simp) (fun t ts h1 h2=>?_) t
 intro k hk
 rcases ay.1 hk with rfl|hk
 ·exact h1
 ·exact h2 k hk
mutual
def ZS:Term→List D
 | .mk name kids=>[.str name,.dP (aP kids)]
def aP:List Term→List (List D)
 | []=>[]
 | t::ts=>ZS t::aP ts
end
def cT(t:Term):List D:=[.str t.name,.dP (aP t.kids)]
theorem Xu(t:Term):ZS t=cT t:=by cases t;rfl
theorem mT:∀(ts:List Term),aP ts=ts.map cT
 | []=>rfl
 | t::ts=>by simp[aP,Xu,mT ts]
theorem rn(ns:List Term):(aP ns).length=ns.length:=by simp[mT]
theorem B8{ns:List Term}{i:Nat}(h:i<ns.length):row (aP ns) i=cT ns[i]:=by simp[mT,row,cC,ah h]
theorem jV(ns:List Term):∀y∈aP ns,y.length=2:=by
 intro y hy
 rw[show aP ns=ns.map _ from mT ns] at hy
 obtain⟨t,_,rfl⟩:=bD.1 hy
 rfl
theorem PM(ns:List Term)(i:Nat):(aP ns).take i=aP (ns.take i):=by simp[mT]
theorem lR(ns ms:List Term):aP ns++aP ms=aP (ns++ms):=by simp[mT]
theorem lW:aP []=[]:=rfl
theorem dM(n:Term)(ns:List Term):aP (n::ns)=cT n::aP ns:=by simp[mT]
theorem o9{ns:List Term}{i:Nat}(h:i<ns.length):aP (ns.take i)++[cT ns[i]]=aP (ns.take (i+1)):=by
 have e:ns.take (i+1)=ns.take i++[ns[i]]:=by rw[bC,ah h];rfl
 rw[e,←lR,dM,lW]
mutual
def Tu:Term→Term→Bool
 | .mk name1 kids1,.mk name2 kids2=>decide (name1=name2)&&y9 kids1 kids2
def y9:List Term→List Term→Bool
 | [],[]=>true
 | x::xs,y::ys=>Tu x y&&y9 xs ys
 | _,_=>false
end
mutual
theorem Je:∀(a b:Term),Tu a b=true↔a=b
 | .mk name1 kids1,.mk name2 kids2=>by simp[Tu,EY]
theorem EY:∀(a b:List Term),y9 a b=true↔a=b
 | [],[]=>by simp[y9]
 | [],_::_=>by simp[y9]
 | _::_,[]=>by simp[y9]
 | x::xs,y::ys=>by simp[y9,Je x y,EY xs ys]
end
instance:DecidableEq Term:=fun a b=>decidable_of_iff _ (Je a b)
structure Sym where
 name:nh
 args:List Int
 sort:Int
 deriving DecidableEq
def vK(t:Sym):List D:=[.str t.name,.dP (bG t.args),.val (.int .i64 t.sort)]
def hX(l:List Sym):List (List D):=l.map vK
theorem MY(ns:List Sym):(hX ns).length=ns.length:=by simp[hX]
theorem CI{ns:List Sym}{i:Nat}(h:i<ns.length):row (hX ns) i=vK ns[i]:=by simp[hX,row,cC,ah h]
theorem sM(ns ms:List Sym):hX ns++hX ms=hX (ns++ms):=by simp[hX]
structure dG where
 syms:List Sym
 deriving DecidableEq
def dX(t:dG):List D:=[.dP (hX t.syms)]
structure Atom where
 kind:Int
 A:Term
 B:Term
 nums:List Term
 times:List Int
 bound:Int
 strict:Bool
 deriving DecidableEq
def fN(t:Atom):List D:=[.val (.int .i64 t.kind),.str t.A.name,.dP (aP t.A.kids),.str t.B.name,.dP (aP t.B.kids),.dP (aP t.nums),.dP (bG t.times),.val (.int .i64 t.bound),.val (.bool t.strict)]
def L8(l:List Atom):List (List D):=l.map fN
theorem gg(ns:List Atom):∀y∈L8 ns,y.length=9:=by
 intro y hy
 rw[show L8 ns=ns.map _ from rfl] at hy
 obtain⟨t,_,rfl⟩:=bD.1 hy
 rfl
structure bp where
 atom:Atom
 no:Bool
 deriving DecidableEq
def nO(t:bp):List D:=[.val (.int .i64 t.atom.kind),.str t.atom.A.name,.dP (aP t.atom.A.kids),.str t.atom.B.name,.dP (aP t.atom.B.kids),.dP (aP t.atom.nums),.dP (bG t.atom.times),.val (.int .i64 t.atom.bound),.val (.bool t.atom.strict),.val (.bool t.no)]
def aZ(l:List bp):List (List D):=l.map nO
theorem CX(ns:List bp):(aZ ns).length=ns.length:=by simp[aZ]
theorem Nr{ns:List bp}{i:Nat}(h:i<ns.length):row (aZ ns) i=nO ns[i]:=by simp[aZ,row,cC,ah h]
theorem fL(ns:List bp):∀y∈aZ ns,y.length=10:=by
 intro y hy
 rw[show aZ ns=ns.map _ from rfl] at hy
 obtain⟨t,_,rfl⟩:=bD.1 hy
 rfl
theorem De(ns ms:List bp):aZ ns++aZ ms=aZ (ns++ms):=by simp[aZ]
theorem sN:aZ []=[]:=rfl
theorem mY(n:bp)(ns:List bp):aZ (n::ns)=nO n::aZ ns:=rfl
inductive mc where
 | mk(oV:Int)(n:Int)(t:Term)(kids:List mc)
def mc.oV:mc→Int
 | .mk x _ _ _=>x
def mc.n:mc→Int
 | .mk _ x _ _=>x
def mc.t:mc→Term
 | .mk _ _ x _=>x
def mc.kids:mc→List mc
 | .mk _ _ _ x=>x
theorem mc.ind{P:mc→Prop}(h:∀oV n t kids,(∀k∈kids,P k)→P (.mk oV n t kids)):∀t,P t:=by
 intro t
 refine mc.rec (motive_1:=P) (motive_2:=fun ks=>∀k∈ks,P k) (fun oV n t kids ih=>h oV n t kids ih) (by simp) (fun t ts h1 h2=>?_) t
 intro k hk
 rcases ay.1 hk with rfl|hk
 ·exact h1
 ·exact h2 k hk
mutual
def Vm:mc→List D
 | .mk oV n t kids=>[.val (.int .i64 oV),.val (.int .i64 n),.str t.name,.dP (aP t.kids),.dP (gG kids)]
def gG:List mc→List (List D)
 | []=>[]
 | t::ts=>Vm t::gG ts
end
def oW(t:mc):List D:=[.val (.int .i64 t.oV),.val (.int .i64 t.n),.str t.t.name,.dP (aP t.t.kids),.dP (gG t.kids)]
theorem SK(t:mc):Vm t=oW t:=by cases t;rfl
theorem s6:∀(ts:List mc),gG ts=ts.map oW
 | []=>rfl
 | t::ts=>by simp[gG,SK,s6 ts]
theorem MP(ns:List mc):(gG ns).length=ns.length:=by simp[s6]
theorem Dp(ns ms:List mc):gG ns++gG ms=gG (ns++ms):=by simp[s6]
theorem lk:gG []=[]:=rfl
theorem jZ(n:mc)(ns:List mc):gG (n::ns)=oW n::gG ns:=by simp[s6]
mutual
def K5:mc→mc→Bool
 | .mk rule1 n1 t1 kids1,.mk rule2 n2 t2 kids2=>decide (rule1=rule2)&&decide (n1=n2)&&decide (t1=t2)&&r3 kids1 kids2
def r3:List mc→List mc→Bool
 | [],[]=>true
 | x::xs,y::ys=>K5 x y&&r3 xs ys
 | _,_=>false
end
mutual
theorem C8:∀(a b:mc),K5 a b=true↔a=b
 | .mk rule1 n1 t1 kids1,.mk rule2 n2 t2 kids2=>by simp[K5,Ah,and_assoc]
theorem Ah:∀(a b:List mc),r3 a b=true↔a=b
 | [],[]=>by simp[r3]
 | [],_::_=>by simp[r3]
 | _::_,[]=>by simp[r3]
 | x::xs,y::ys=>by simp[r3,C8 x y,Ah xs ys]
end
instance:DecidableEq mc:=fun a b=>decidable_of_iff _ (C8 a b)
inductive Case where
 | mk(kind:Int)(n:Int)(vN:mc)(times:List Int)(A:Term)(B:Term)(kids:List Case)
def Case.kind:Case→Int
 | .mk x _ _ _ _ _ _=>x
def Case.n:Case→Int
 | .mk _ x _ _ _ _ _=>x
def Case.vN:Case→mc
 | .mk _ _ x _ _ _ _=>x
def Case.times:Case→List Int
 | .mk _ _ _ x _ _ _=>x
def Case.A:Case→Term
 | .mk _ _ _ _ x _ _=>x
def Case.B:Case→Term
 | .mk _ _ _ _ _ x _=>x
def Case.kids:Case→List Case
 | .mk _ _ _ _ _ _ x=>x
theorem Case.ind{P:Case→Prop}(h:∀kind n vN times A B kids,(∀k∈kids,P k)→P (.mk kind n vN times A B kids)):∀t,P t:=by
 intro t
 refine Case.rec (motive_1:=P) (motive_2:=fun ks=>∀k∈ks,P k) (fun kind n vN times A B kids ih=>h kind n vN times A B kids ih) (by simp) (fun t ts h1 h2=>?_) t
 intro k hk
 rcases ay.1 hk with rfl|hk
 ·exact h1
 ·exact h2 k hk
mutual
def QK:Case→List D
 | .mk kind n vN times A B kids=>[.val (.int .i64 kind),.val (.int .i64 n),.val (.int .i64 vN.oV),.val (.int .i64 vN.n),.str vN.t.name,.dP (aP vN.t.kids),.dP (gG vN.kids),.dP (bG times),.str A.name,.dP (aP A.kids),.str B.name,.dP (aP B.kids),.dP (iQ kids)]
def iQ:List Case→List (List D)
 | []=>[]
 | t::ts=>QK t::iQ ts
end
def tZ(t:Case):List D:=[.val (.int .i64 t.kind),.val (.int .i64 t.n),.val (.int .i64 t.vN.oV),.val (.int .i64 t.vN.n),.str t.vN.t.name,.dP (aP t.vN.t.kids),.dP (gG t.vN.kids),.dP (bG t.times),.str t.A.name,.dP (aP t.A.kids),.str t.B.name,.dP (aP t.B.kids),.dP (iQ t.kids)]
theorem PK(t:Case):QK t=tZ t:=by cases t;rfl
theorem qW:∀(ts:List Case),iQ ts=ts.map tZ
 | []=>rfl
 | t::ts=>by simp[iQ,PK,qW ts]
theorem Ke(ns:List Case):(iQ ns).length=ns.length:=by simp[qW]
theorem AY(ns ms:List Case):iQ ns++iQ ms=iQ (ns++ms):=by simp[qW]
theorem oq:iQ []=[]:=rfl
theorem pR(n:Case)(ns:List Case):iQ (n::ns)=tZ n::iQ ns:=by simp[qW]
mutual
def FH:Case→Case→Bool
 | .mk kind1 n1 why1 times1 A1 B1 kids1,.mk kind2 n2 why2 times2 A2 B2 kids2=>decide (kind1=kind2)&&decide (n1=n2)&&decide (why1=why2)&&decide (times1=times2)&&decide (A1=A2)&&decide (B1=B2)&&o4 kids1 kids2
def o4:List Case→List Case→Bool
 | [],[]=>true
 | x::xs,y::ys=>FH x y&&o4 xs ys
 | _,_=>false
end
mutual
theorem AI:∀(a b:Case),FH a b=true↔a=b
 | .mk kind1 n1 why1 times1 A1 B1 kids1,.mk kind2 n2 why2 times2 A2 B2 kids2=>by simp[FH,yC,and_assoc]
theorem yC:∀(a b:List Case),o4 a b=true↔a=b
 | [],[]=>by simp[o4]
 | [],_::_=>by simp[o4]
 | _::_,[]=>by simp[o4]
 | x::xs,y::ys=>by simp[o4,AI x y,yC xs ys]
end
instance:DecidableEq Case:=fun a b=>decidable_of_iff _ (AI a b)
inductive Form where
 | mk(kind:Int)(lit:bp)(kids:List Form)
def Form.kind:Form→Int
 | .mk x _ _=>x
def Form.lit:Form→bp
 | .mk _ x _=>x
def Form.kids:Form→List Form
 | .mk _ _ x=>x
theorem Form.ind{P:Form→Prop}(h:∀kind lit kids,(∀k∈kids,P k)→P (.mk kind lit kids)):∀t,P t:=by
 intro t
 refine Form.rec (motive_1:=P) (motive_2:=fun ks=>∀k∈ks,P k) (fun kind lit kids ih=>h kind lit kids ih) (by simp) (fun t ts h1 h2=>?_) t
 intro k hk
 rcases ay.1 hk with rfl|hk
 ·exact h1
 ·exact h2 k hk
mutual
def QL:Form→List D
 | .mk kind lit kids=>[.val (.int .i64 kind),.val (.int .i64 lit.atom.kind),.str lit.atom.A.name,.dP (aP lit.atom.A.kids),.str lit.atom.B.name,.dP (aP lit.atom.B.kids),.dP (aP lit.atom.nums),.dP (bG lit.atom.times),.val (.int .i64 lit.atom.bound),.val (.bool lit.atom.strict),.val (.bool lit.no),.dP (qo kids)]
def qo:List Form→List (List D)
 | []=>[]
 | t::ts=>QL t::qo ts
end
def T6(t:Form):List D:=[.val (.int .i64 t.kind),.val (.int .i64 t.lit.atom.kind),.str t.lit.atom.A.name,.dP (aP t.lit.atom.A.kids),.str t.lit.atom.B.name,.dP (aP t.lit.atom.B.kids),.dP (aP t.lit.atom.nums),.dP (bG t.lit.atom.times),.val (.int .i64 t.lit.atom.bound),.val (.bool t.lit.atom.strict),.val (.bool t.lit.no),.dP (qo t.kids)]
theorem NW(t:Form):QL t=T6 t:=by cases t;rfl
theorem Aw:∀(ts:List Form),qo ts=ts.map T6
 | []=>rfl
 | t::ts=>by simp[qo,NW,Aw ts]
theorem gi(ns:List Form):∀y∈qo ns,y.length=12:=by
 intro y hy
 rw[show qo ns=ns.map _ from Aw ns] at hy
 obtain⟨t,_,rfl⟩:=bD.1 hy
 rfl
mutual
def GO:Form→Form→Bool
 | .mk kind1 lit1 kids1,.mk kind2 lit2 kids2=>decide (kind1=kind2)&&decide (lit1=lit2)&&pg kids1 kids2
def pg:List Form→List Form→Bool
 | [],[]=>true
 | x::xs,y::ys=>GO x y&&pg xs ys
 | _,_=>false
end
mutual
theorem Bj:∀(a b:Form),GO a b=true↔a=b
 | .mk kind1 lit1 kids1,.mk kind2 lit2 kids2=>by simp[GO,ym,and_assoc]
theorem ym:∀(a b:List Form),pg a b=true↔a=b
 | [],[]=>by simp[pg]
 | [],_::_=>by simp[pg]
 | _::_,[]=>by simp[pg]
 | x::xs,y::ys=>by simp[pg,Bj x y,ym xs ys]
end
instance:DecidableEq Form:=fun a b=>decidable_of_iff _ (Bj a b)
def Zu(ns:List (List Form)):List (List D):=ns.map fun n=>[.dP (qo n)]
structure Rat where
 N:Int
 D:Int
 deriving DecidableEq
def eO(t:Rat):List D:=[.val (.int .i64 t.N),.val (.int .i64 t.D)]
def br(l:List Rat):List (List D):=l.map eO
theorem wC(ns:List Rat):(br ns).length=ns.length:=by simp[br]
theorem wE{ns:List Rat}{i:Nat}(h:i<ns.length):row (br ns) i=eO ns[i]:=by simp[br,row,cC,ah h]
theorem hH(ns:List Rat):∀y∈br ns,y.length=2:=by
 intro y hy
 rw[show br ns=ns.map _ from rfl] at hy
 obtain⟨t,_,rfl⟩:=bD.1 hy
 rfl
theorem sW(ns ms:List Rat):br ns++br ms=br (ns++ms):=by simp[br]
theorem s5:br []=[]:=rfl
theorem uS(n:Rat)(ns:List Rat):br (n::ns)=eO n::br ns:=rfl
structure Row where
 name:nh
 args:List Rat
 val:Rat
 deriving DecidableEq
def qm(t:Row):List D:=[.str t.name,.dP (br t.args),.val (.int .i64 t.val.N),.val (.int .i64 t.val.D)]
def bT(l:List Row):List (List D):=l.map qm
theorem Md(ns:List Row):(bT ns).length=ns.length:=by simp[bT]
theorem M7{ns:List Row}{i:Nat}(h:i<ns.length):row (bT ns) i=qm ns[i]:=by simp[bT,row,cC,ah h]
theorem xh(ns:List Row):∀y∈bT ns,y.length=4:=by
 intro y hy
 rw[show bT ns=ns.map _ from rfl] at hy
 obtain⟨t,_,rfl⟩:=bD.1 hy
 rfl
theorem L9:bT []=[]:=rfl
structure Model where
 rows:List Row
 deriving DecidableEq
def eP(t:Model):List D:=[.dP (bT t.rows)]
structure ia where
 aG:List Int
 bound:Int
 strict:Bool
 deriving DecidableEq
def eG(t:ia):List D:=[.dP (bG t.aG),.val (.int .i64 t.bound),.val (.bool t.strict)]
def c9(l:List ia):List (List D):=l.map eG
theorem Nz(ns:List ia):(c9 ns).length=ns.length:=by simp[c9]
theorem M8{ns:List ia}{i:Nat}(h:i<ns.length):row (c9 ns) i=eG ns[i]:=by simp[c9,row,cC,ah h]
theorem gZ(ns:List ia):∀y∈c9 ns,y.length=3:=by
 intro y hy
 rw[show c9 ns=ns.map _ from rfl] at hy
 obtain⟨t,_,rfl⟩:=bD.1 hy
 rfl
theorem mM(ns ms:List ia):c9 ns++c9 ms=c9 (ns++ms):=by simp[c9]
theorem ll:c9 []=[]:=rfl
theorem ix(n:ia)(ns:List ia):c9 (n::ns)=eG n::c9 ns:=rfl
structure iA where
 A:Term
 B:Term
 deriving DecidableEq
def cEq(t:iA):List D:=[.str t.A.name,.dP (aP t.A.kids),.str t.B.name,.dP (aP t.B.kids)]
def gM(l:List iA):List (List D):=l.map cEq
theorem Pk(ns:List iA):(gM ns).length=ns.length:=by simp[gM]
theorem OG{ns:List iA}{i:Nat}(h:i<ns.length):row (gM ns) i=cEq ns[i]:=by simp[gM,row,cC,ah h]
theorem iZ(ns:List iA):∀y∈gM ns,y.length=4:=by
 intro y hy
 rw[show gM ns=ns.map _ from rfl] at hy
 obtain⟨t,_,rfl⟩:=bD.1 hy
 rfl
theorem yX(ns ms:List iA):gM ns++gM ms=gM (ns++ms):=by simp[gM]
theorem rH:gM []=[]:=rfl
theorem w8(n:iA)(ns:List iA):gM (n::ns)=cEq n::gM ns:=rfl
structure Step where
 A:Int
 B:Int
 given:Int
 deriving DecidableEq
def Qo(t:Step):List D:=[.val (.int .i64 t.A),.val (.int .i64 t.B),.val (.int .i64 t.given)]
def a7(l:List Step):List (List D):=l.map Qo
theorem KL(ns:List Step):(a7 ns).length=ns.length:=by simp[a7]
theorem JJ{ns:List Step}{i:Nat}(h:i<ns.length):row (a7 ns) i=Qo ns[i]:=by simp[a7,row,cC,ah h]
theorem KV(ns:List Step):∀y∈a7 ns,y.length=3:=by
 intro y hy
 rw[show a7 ns=ns.map _ from rfl] at hy
 obtain⟨t,_,rfl⟩:=bD.1 hy
 rfl
theorem uL(ns ms:List Step):a7 ns++a7 ms=a7 (ns++ms):=by simp[a7]
theorem qU:a7 []=[]:=rfl
theorem tm(n:Step)(ns:List Step):a7 (n::ns)=Qo n::a7 ns:=rfl
structure Cnf where
 many:Int
 list:List (List Int)
 deriving DecidableEq
def aaV(t:Cnf):List D:=[.val (.int .i64 t.many),.dP (Kv t.list)]
structure Qp where
 marks:List Int
 case:Case
 deriving DecidableEq
def Uz(t:Qp):List D:=[.dP (bG t.marks),.val (.int .i64 t.case.kind),.val (.int .i64 t.case.n),.val (.int .i64 t.case.vN.oV),.val (.int .i64 t.case.vN.n),.str t.case.vN.t.name,.dP (aP t.case.vN.t.kids),.dP (gG t.case.vN.kids),.dP (bG t.case.times),.str t.case.A.name,.dP (aP t.case.A.kids),.str t.case.B.name,.dP (aP t.case.B.kids),.dP (iQ t.case.kids)]
def RI(l:List Qp):List (List D):=l.map Uz
structure aai where
 lemmas:List Qp
 log:List (List Int)
 deriving DecidableEq
def YY(t:aai):List D:=[.dP (RI t.lemmas),.dP (Kv t.log)]
structure Stack where
 sig:dG
 levels:List (List Form)
 deriving DecidableEq
def ZC(t:Stack):List D:=[.dP (hX t.sig.syms),.dP (Zu t.levels)]
def av(cs:List D):PV:=.agg (cF cs)
theorem ZV(cs:List D):(av cs).lt 0=true:=by simp only[av,PV.lt];exact VA 0 cs
attribute [go_sem] IL ID rn MY CX MP Ke wC Md Nz Pk KL
attribute [go_sem] Cy Ij B8 CI Nr wE M7 M8 OG JJ
attribute [go_sem] tW SF lW sN lk oq s5 L9 ll rH qU
attribute [go_sem] av cT vK dX fN nO oW tZ T6 eO qm eP eG cEq Qo aaV Uz YY ZC Int.toNat_natCast
end Go.Mod
namespace Go.Eng
open Go.Mod
theorem sA{p q:Prop}(k:q)(h:p=q:=by simp -implicitDefEqProofs only[go_sem];exact rfl):p:=h▸k
theorem sB{p q:Prop}(k:q)(h:p=q:=by simp -implicitDefEqProofs only[go_sem,Int.reduceEq,Int.reduceLT,Int.reduceLE,Int.reduceToNat];exact rfl):p:=h▸k
theorem sC{p:Prop}(h:p:=by simp -implicitDefEqProofs only[go_sem]):p:=h
theorem sD{p:Prop}(h:p:=by simp -implicitDefEqProofs only[go_sem,Int.reduceEq,Int.reduceLT,Int.reduceLE,Int.reduceToNat]):p:=h
theorem iK{os:List Oper}{L:List Ky}{p:Prop}(hp:p)(h:Kz os L=true:=by kernel_rfl):indep os L=true∧p:=⟨Cw h,hp⟩
theorem aC{m:Option (List Ky)}{gs:Option Nat}{d:Nat}{ty:TypeId}{pos:String}{eH:Array Edge}{gd:Option (Nat×Bool)}{E:Env}{g:G}{rest:qF→Option (List Ky)→G→Prop}{nb:Operand}{xs:List Operand}{tys:Array TypeId}{f:FuncId}(cap:List PV){cO:List PV}{res:PV}{q:Prop}
 (hC:C E.P f cO [] (bN res [])) (k:q) (h:g.ev nb= .fn f cap∧EG (R4 g xs++cap) cO∧tr 0 cO=true∧res.lt 0=true:=by simp -implicitDefEqProofs only[go_sem])
 (hr:rest .on (mK m (oc (tM gs ⟨c8 nb++BK xs,[]⟩) ⟨some (d,res),[]⟩)) (g.app ⟨some (d,res),[]⟩)=q:=by simp -implicitDefEqProofs only[go_sem];exact rfl):sk E m gs ⟨some d,.call ⟨.value nb,⟨xs⟩,tys⟩,ty,pos,eH,gd⟩ g rest:=
 bQ cap hC h (hr▸k)
theorem aD{m:Option (List Ky)}{gs:Option Nat}{d:Nat}{ty:TypeId}{pos:String}{eH:Array Edge}{gd:Option (Nat×Bool)}{E:Env}{g:G}{rest:qF→Option (List Ky)→G→Prop}{nb:Operand}{xs:List Operand}{tys:Array TypeId}{f:FuncId}(cap:List PV){cO:List PV}{res:PV}{q:Prop}
 (hC:C E.P f cO [] (bN res [])) (k:q) (h:g.ev nb= .fn f cap∧EG (R4 g xs++cap) cO∧tr 0 cO=true∧res.lt 0=true:=by simp -implicitDefEqProofs only[go_sem,Int.reduceEq,Int.reduceLT,Int.reduceLE,Int.reduceToNat])
 (hr:rest .on (mK m (oc (tM gs ⟨c8 nb++BK xs,[]⟩) ⟨some (d,res),[]⟩)) (g.app ⟨some (d,res),[]⟩)=q:=by simp -implicitDefEqProofs only[go_sem,Int.reduceEq,Int.reduceLT,Int.reduceLE,Int.reduceToNat];exact rfl):sk E m gs ⟨some d,.call ⟨.value nb,⟨xs⟩,tys⟩,ty,pos,eH,gd⟩ g rest:=
 bQ cap hC h (hr▸k)
theorem oC{m:Option (List Ky)}{gs:Option Nat}{d:Nat}{ty:TypeId}{pos:String}{eH:Array Edge}{gd:Option (Nat×Bool)}{E:Env}{g:G}{rest:qF→Option (List Ky)→G→Prop}{nb:Operand}{xs:List Operand}{tys:Array TypeId}{f:FuncId}(cap:List PV)(M:List Nat){cO:List PV}{eS st':List (Option En)}{res:PV}{q:Prop}
 (hC:C E.P f cO eS (bN res st')) (k:q) (h:g.ev nb= .fn f cap∧EG (R4 g xs++cap) (qz M cO)∧tr (lM eS) cO=true∧Ny M=true∧xP (lM eS) (FO M)=true∧xP (lM eS) (lM st')=true∧xP (lM st') (FO M)=true∧nZ g M (lM eS) M eS∧iG g (lM eS) M:=by simp -implicitDefEqProofs only[go_sem])
 (hr:rest .on (mK m (oc (tM gs ⟨c8 nb++BK xs,M⟩) ⟨some (d,res.l8 M),kN M M st'⟩)) (g.app ⟨some (d,res.l8 M),kN M M st'⟩)=q:=by simp -implicitDefEqProofs only[go_sem];exact rfl):sk E m gs ⟨some d,.call ⟨.value nb,⟨xs⟩,tys⟩,ty,pos,eH,gd⟩ g rest:=
 gv cap M hC h (hr▸k)
theorem oD{m:Option (List Ky)}{gs:Option Nat}{d:Nat}{ty:TypeId}{pos:String}{eH:Array Edge}{gd:Option (Nat×Bool)}{E:Env}{g:G}{rest:qF→Option (List Ky)→G→Prop}{nb:Operand}{xs:List Operand}{tys:Array TypeId}{f:FuncId}(cap:List PV)(M:List Nat){cO:List PV}{eS st':List (Option En)}{res:PV}{q:Prop}
 (hC:C E.P f cO eS (bN res st')) (k:q) (h:g.ev nb= .fn f cap∧EG (R4 g xs++cap) (qz M cO)∧tr (lM eS) cO=true∧Ny M=true∧xP (lM eS) (FO M)=true∧xP (lM eS) (lM st')=true∧xP (lM st') (FO M)=true∧nZ g M (lM eS) M eS∧iG g (lM eS) M:=by simp -implicitDefEqProofs only[go_sem,Int.reduceEq,Int.reduceLT,Int.reduceLE,Int.reduceToNat])
 (hr:rest .on (mK m (oc (tM gs ⟨c8 nb++BK xs,M⟩) ⟨some (d,res.l8 M),kN M M st'⟩)) (g.app ⟨some (d,res.l8 M),kN M M st'⟩)=q:=by simp -implicitDefEqProofs only[go_sem,Int.reduceEq,Int.reduceLT,Int.reduceLE,Int.reduceToNat];exact rfl):sk E m gs ⟨some d,.call ⟨.value nb,⟨xs⟩,tys⟩,ty,pos,eH,gd⟩ g rest:=
 gv cap M hC h (hr▸k)
theorem gS{E:Env}(hm:E.P.follows .mixedOrders=true){f:FuncId}{fn:Func}{c:Code}{args:List PV}{eS:List (Option En)}{R:PV→List (Option En)→Prop}{nt:Nat}{rs:List ResultVar}{L q:Prop}(hf:E.P.funcs[f]?=some fn)(k:L→Bx eS→LB=1099511627776→q)
 (hb : fn.body = some c := by rfl) (hname : (fn.name == "runtime.NumGoroutine") = false := by rfl) (hnt : fn.ntmps = nt := by rfl) (hrs : fn.results.toList = rs := by rfl) (hn : xP (wD args) nt = true := by rfl)
 (e1:qL args=L:=by simp -implicitDefEqProofs only[go_sem];exact rfl) (e2:Lv E (lM eS) c .on ⟨dB nt .undef (UM 0 args),eS⟩ (fun _=>Pz (zO E rs (lM eS) R))=q:=by simp -implicitDefEqProofs only[go_sem];exact rfl):C E.P f args eS R:=
 lG hm hf hb hname hnt hrs hn fun h1 h2=>e2▸k (e1▸h1) h2 rfl
theorem gT{E:Env}(hm:E.P.follows .mixedOrders=true){f:FuncId}{fn:Func}{c:Code}{args:List PV}{eS:List (Option En)}{R:PV→List (Option En)→Prop}{nt:Nat}{rs:List ResultVar}{L q:Prop}(hf:E.P.funcs[f]?=some fn)(k:L→Bx eS→LB=1099511627776→q)
 (hb : fn.body = some c := by rfl) (hname : (fn.name == "runtime.NumGoroutine") = false := by rfl) (hnt : fn.ntmps = nt := by rfl) (hrs : fn.results.toList = rs := by rfl) (hn : xP (wD args) nt = true := by rfl)
 (e1:qL args=L:=by simp -implicitDefEqProofs only[go_sem,Int.reduceEq,Int.reduceLT,Int.reduceLE,Int.reduceToNat];exact rfl) (e2:Lv E (lM eS) c .on ⟨dB nt .undef (UM 0 args),eS⟩ (fun _=>Pz (zO E rs (lM eS) R))=q:=by simp -implicitDefEqProofs only[go_sem,Int.reduceEq,Int.reduceLT,Int.reduceLE,Int.reduceToNat];exact rfl):C E.P f args eS R:=
 lG hm hf hb hname hnt hrs hn fun h1 h2=>e2▸k (e1▸h1) h2 rfl
theorem sO{p:Prop}(h:p:=by first|(with_reducible exact Cw (by kernel_rfl))|omega|assumption|exact⟨jV _,by omega⟩|exact⟨fQ _,by omega⟩|exact⟨fL _,by omega⟩|exact⟨gZ _,by omega⟩|exact⟨iZ _,by omega⟩|rfl|(simp[*];done)|(simp;omega)|exact⟨hH _,by omega⟩|exact⟨gg _,by omega⟩|exact⟨jU _,by omega⟩|exact⟨gi _,by omega⟩|exact⟨jc _,by omega⟩):p:=h
theorem sV{p:Prop}(h:p:=by(simp -implicitDefEqProofs only[go_sem,Int.reduceEq,Int.reduceLT,Int.reduceLE,Int.reduceToNat];repeat'(first|exact iE.nil|apply iE.cons|exact Vw.same (by first|rfl|simp -implicitDefEqProofs only[go_sem,Int.reduceEq,Int.reduceLT,Int.reduceLE,Int.reduceToNat])|exact Vw.acc rfl rfl|exact Vw.ff rfl rfl (by simp -implicitDefEqProofs only[go_sem,Int.reduceEq,Int.reduceLT,Int.reduceLE,Int.reduceToNat])|exact Vw.nil|apply Vw.agg|apply Vw.fn|refine Vw.box rfl rfl ?_))):p:=h
structure Hd(q:Prop):Prop where k:q
theorem sQ{p q:Prop}(k:q)(h:Hd q→p:=by intro k;(repeat(with_reducible apply And.intro;exact sO));exact k.k):p:=h ⟨k⟩
theorem sI{p q:Prop}(k:q)(h:Hd q→p:=by intro k;(try with_reducible refine iK ?_);exact k.k):p:=h ⟨k⟩
theorem sJ{p q:Prop}(k:q)(h:Hd q→p:=by intro k;(try with_reducible refine iK ?_);(repeat(with_reducible apply And.intro;exact sO));exact k.k):p:=h ⟨k⟩
theorem sL{p:Prop}(h:p:=by show _ < _;omega):p:=h
end Go.Eng
namespace Go.Mod
open Go.Eng
def within(n lo hi:Int):Bool:=decide (lo≤n)&&decide (n≤hi)
theorem dx{n lo hi:Int}:within n lo hi=true↔lo≤n∧n≤hi:=by simp[within]
def fX{α:Type}(p:α→Bool):List α→Int→Int
 | [],_=>-1
 | x::xs,i=>if p x then i else fX p xs (i+1)
def idxOf{α:Type}(p:α→Bool)(xs:List α):Int:=fX p xs 0
def bV(a:Rat):Bool:=within a.N (-1000000000) 1000000000&&(within a.D 1 1000000000&&decide ((bK a.N a.D:Int)=1))
def jD:Rat:=⟨0,0⟩
def ic(n d:Int):Rat×Bool:=
 if d=0 then(jD,false) else
 let n1:=if d<0 then -n else n
 let d1:=if d<0 then -d else d
 let a:Rat:=⟨n1.tdiv (bK n1 d1),d1.tdiv (bK n1 d1)⟩
 if bV a then(a,true) else(jD,false)
def lj(n d:Int):Rat×Bool:=if within n (-1000000000) 1000000000&&within d (-1000000000) 1000000000 then ic n d else(jD,false)
def cY(a b:Rat):Rat×Bool:=if bV a&&bV b then ic (a.N*b.D+b.N*a.D) (a.D*b.D) else(jD,false)
def cq(a b:Rat):Rat×Bool:=if bV a&&bV b then ic (a.N*b.N) (a.D*b.D) else(jD,false)
def cQ(a b:Rat):Bool:=bV a&&(bV b&&decide (a.N*b.D<b.N*a.D))
def qE(a b:Rat):Rat×Bool:=if(cY a b).2 then cq (cY a b).1 ⟨1,2⟩ else(jD,false)
def m9(n:Int):Bool:=within n (-1000000) 1000000
def dE(l:ia):Bool:=l.aG.all m9&&(decide (l.aG.length=4)&&m9 l.bound)
def mC:ia:=⟨[],0,false⟩
def pf(l:ia):ia:=if dE l then⟨l.aG.map fun c=>-c,-l.bound,!l.strict⟩ else mC
def comb(m n:Int):List Int→List Int→List Int
 | a::as,b::bs=>(m*a+n*b)::comb m n as bs
 | _,_=>[]
def jn(a:ia)(m:Int)(b:ia)(n:Int):ia:=⟨comb m n a.aG b.aG,m*a.bound+n*b.bound,(decide (0<m)&&a.strict)||(decide (0<n)&&b.strict)⟩
def jl(a:ia)(m:Int)(b:ia)(n:Int):ia×Bool:=if dE (jn a m b n) then(jn a m b n,true) else(mC,false)
def dN(a:ia)(m:Int)(b:ia)(n:Int):ia×Bool:=if dE a&&dE b&&within m 0 1000000&&within n 0 1000000 then jl a m b n else(mC,false)
def flat(l:ia):Bool:=l.aG.all fun c=>decide (c=0)
def jG(l:ia):Bool:=dE l&&(flat l&&(decide (l.bound<0)||(decide (l.bound=0)&&l.strict)))
def whole(n:Int):Rat:=⟨n,1⟩
def plus(sum:Rat)(c:Int)(val:Rat):Rat×Bool:=if(cq (whole c) val).2 then cY sum (cq (whole c) val).1 else(jD,false)
def fH(list:List ia):Bool:=decide (list.length≤20)&&list.all dE
def oY:List ia→List Int→ia→ia×Bool
 | l::ls,t::ts,out=>if(dN out 1 l t).2 then oY ls ts (dN out 1 l t).1 else(mC,false)
 | _,_,out=>(out,true)
def jF(list:List ia)(times:List Int):ia×Bool:=if fH list&&decide (times.length=list.length) then oY list times ⟨[0,0,0,0],0,false⟩ else(mC,false)
def qS(list:List ia)(times:List Int):Bool:=(jF list times).2&&jG (jF list times).1
def iH(c:UInt8):Bool:=decide ((97:Int)≤(c.toNat:Int))&&decide ((c.toNat:Int)≤122)
def fD(s:nh):Bool:=within s.length 1 2&&s.all iH
def isSort(n:Int):Bool:=decide (n=0)||decide (n=1)
def nW(x:Sym):Bool:=fD x.name&&(decide (x.args.length≤2)&&(isSort x.sort&&x.args.all isSort))
def gr(a b:nh):Bool:=Op.bytesLess a b
def qN:Option nh→List Sym→Bool
 | _,[]=>true
 | p,x::xs=>nW x&&((match p with|none=>true|some q=>gr q x.name)&&qN (some x.name) xs)
def fG(s:dG):Bool:=qN none s.syms&&decide (s.syms.length≤7)
def symbol(s:dG)(name:nh):Option Sym:=s.syms.find? fun x=>decide (x.name=name)
def sg:Sym:=⟨[],[],0⟩
mutual
def kZ:Term→Nat→Nat
 | .mk n ks,dq=>if fD n&&decide (ks.length≤2)&&decide (dq≤4) then 1+fl ks (dq+1) else 13
def fl:List Term→Nat→Nat
 | [],_=>0
 | t::ts,dq=>kZ t dq+fl ts dq
end
def isTerm(t:Term):Bool:=decide (kZ t 1≤12)
mutual
def bL:Term→Nat→Bool
 | _,0=>false
 | .mk n ks,d+1=>fD n&&(decide (ks.length≤2)&&cG ks d)
def cG:List Term→Nat→Bool
 | [],_=>true
 | t::ts,d=>bL t d&&cG ts d
end
mutual
def many:Term→Nat→Nat
 | _,0=>1
 | .mk _ ks,d+1=>1+lK ks d
def lK:List Term→Nat→Nat
 | [],_=>0
 | t::ts,d=>many t d+lK ts d
end
mutual
def fI(s:dG):Term→Option Int
 | .mk n ks=>match symbol s n with
   | none=>none
   | some x=>if decide (x.args.length=ks.length)&&gy s ks x.args then some x.sort else none
def gy(s:dG):List Term→List Int→Bool
 | k::ks,a::as=>decide (fI s k=some a)&&gy s ks as
 | _,_=>true
end
def fj(s:dG)(t:Term):Option Int:=if fG s&&isTerm t then fI s t else none
def jT:List nh→nh
 | []=>[]
 | [t]=>t
 | t::ts=>t++(44::jT ts)
mutual
def aN:Term→nh
 | .mk n []=>n
 | .mk n (k::ks)=>n++(40::(jT (aN k::fP ks)++[41]))
def fP:List Term→List nh
 | []=>[]
 | t::ts=>aN t::fP ts
end
def bM(list:List Term)(t:Term):Int:=idxOf (fun u=>decide (t=u)) list
mutual
def de(list:List Term):Term→List Term
 | .mk n ks=>let l:=ba list ks;if bM l (.mk n ks)<0 then l++[.mk n ks] else l
def ba(list:List Term):List Term→List Term
 | []=>list
 | t::ts=>ba (de list t) ts
end
def pV:List Term→List Term→List Term
 | [],out=>out
 | t::ts,out=>if isTerm t then pV ts (de out t) else []
def lU(list:List Term):List Term:=pV list []
def E5(eqs:List iA):List Term:=eqs.flatMap fun e=>[e.A,e.B]
def iI(s:dG)(e:iA):Bool:=(fj s e.A).isSome&&decide (fj s e.A=fj s e.B)
def wu(s:dG)(eqs:List iA):Bool:=fG s&&decide (eqs.length≤12)&&eqs.all (iI s)&&decide ((lU (E5 eqs)).length≤24)
def aL:Term:=.mk [] []
def isNone(t:Term):Bool:=decide (t.name=[])&&decide (t.kids=[])
def Er:iA:=⟨aL,aL⟩
def vM:mc:=.mk 0 0 aL []
def n5(eqs:List iA)(oV n:Int)(t:Term)(kids:List iA):iA×Bool:=
 if(oV≠2∧n≠0)∨(oV≠1∧oV≠5∧isNone t=false) then(Er,false) else
 if oV=1 then(⟨t,t⟩,decide (kids.length=0)&&isTerm t) else
 if oV=2 then(if 0<kids.length∨within n 0 (eqs.length-1)=false then(Er,false) else(eqs.getD n.toNat Er,true)) else
 if oV=3 then(if kids.length=1 then(⟨(kids.getD 0 Er).B,(kids.getD 0 Er).A⟩,true) else(Er,false)) else
 if oV=4 then(if kids.length=2∧(kids.getD 0 Er).B=(kids.getD 1 Er).A then(⟨(kids.getD 0 Er).A,(kids.getD 1 Er).B⟩,true) else(Er,false)) else
 if oV=5 then(if kids.length=0∨fD t.name=false∨0<t.kids.length then(Er,false) else
  (⟨.mk t.name (kids.map (·.A)),.mk t.name (kids.map (·.B))⟩,isTerm (.mk t.name (kids.map (·.A)))&&isTerm (.mk t.name (kids.map (·.B))))) else
 (Er,false)
mutual
def jJ(f:Int→Int→Term→List iA→iA×Bool):mc→Nat→iA×Bool
 | _,0=>(Er,false)
 | .mk r n t ks,d+1=>match gO f ks d with
   | none=>(Er,false)
   | some kids=>f r n t kids
def gO(f:Int→Int→Term→List iA→iA×Bool):List mc→Nat→Option (List iA)
 | [],_=>some []
 | w::ws,d=>if(jJ f w d).2 then(gO f ws d).map fun es=>(jJ f w d).1::es else none
end
def r5(s:dG)(eqs:List iA)(w:mc):Option iA:=
 if wu s eqs&&((jJ (n5 eqs) w 400).2&&wu s [(jJ (n5 eqs) w 400).1]) then some (jJ (n5 eqs) w 400).1 else none
def kY:Option Term→List Term→List Int→Bool
 | p,t::ts,n::ns=>isTerm t&&(within n (-50) 50&&(decide (n≠0)&&((match p with|none=>true|some q=>gr (aN q) (aN t))&&kY (some t) ts ns)))
 | _,_,_=>true
def cJ(a:Atom):Bool:=
 if a.kind=1 then isTerm a.A&&(isTerm a.B&&(decide (a.nums.length=0)&&(decide (a.times.length=0)&&(decide (a.bound=0)&& !a.strict)))) else
 if a.kind=2 then isNone a.A&&(isNone a.B&&(within a.nums.length 1 4&&(decide (a.times.length=a.nums.length)&&(within a.bound (-1000) 1000&&kY none a.nums a.times)))) else false
def dk(s:dG)(t:Term):Bool:=decide (fj s t=some 1)
def eZ(s:dG)(a:Atom):Bool:=fG s&&(cJ a&&(if a.kind=1 then iI s ⟨a.A,a.B⟩ else a.nums.all (dk s)))
def b8(a:Atom):List Term:=if a.kind=1 then [a.A,a.B] else a.nums
def aE(ab:List bp):List Term:=lU (ab.flatMap fun l=>b8 l.atom)
def numsOf(s:dG)(ab:List bp):List Term:=(aE ab).filter (dk s)
def fa(s:dG)(ab:List bp):Bool:=fG s&&decide (ab.length≤6)&&ab.all (fun l=>eZ s l.atom)&&decide ((aE ab).length≤24)&&decide ((numsOf s ab).length≤4)
def bc(ab:List bp):List iA:=ab.filterMap fun l=>if l.atom.kind=1∧l.no=false then some ⟨l.atom.A,l.atom.B⟩ else none
def mz:List Int→Int→Int→List Int
 | [],_,_=>[]
 | c::cs,i,v=>if i=0 then(c+v)::cs else c::mz cs (i-1) v
def jQ(nums:List Term):List Term→List Int→List Int→List Int
 | t::ts,n::ns,cs=>jQ nums ts ns (mz cs (bM nums t) n)
 | _,_,cs=>cs
def lJ(nums list:List Term)(times:List Int)(bound:Int)(strict:Bool):ia:=⟨jQ nums list times [0,0,0,0],bound,strict⟩
def iW(nums:List Term)(l:bp):List ia:=
 if l.atom.kind=2 then [if l.no then pf (lJ nums l.atom.nums l.atom.times l.atom.bound l.atom.strict) else lJ nums l.atom.nums l.atom.times l.atom.bound l.atom.strict]
 else if l.no=false∧0≤bM nums l.atom.A then [lJ nums [l.atom.A,l.atom.B] [1,-1] 0 false,lJ nums [l.atom.A,l.atom.B] [-1,1] 0 false] else []
def dY(nums:List Term)(ab:List bp):List ia:=ab.flatMap (iW nums)
def xo(a b:Term):Atom:=⟨1,a,b,[],[],0,false⟩
def gP(a b:Term):bp:=⟨xo a b,false⟩
def dz(a b:Term):bp:=if gr (aN b) (aN a) then⟨⟨2,aL,aL,[b,a],[-1,1],0,true⟩,false⟩ else⟨⟨2,aL,aL,[a,b],[1,-1],0,true⟩,false⟩
def fJ(a b:Term):List bp:=[gP a b,dz a b,dz b a]
def differ(nums:List Term)(a b:Term):Bool:=decide (0≤bM nums a)&&(decide (0≤bM nums b)&&decide (bM nums a≠bM nums b))
def bare(c:Case)(n vN times au:Bool)(kids:Nat):Bool:=
 (n||decide (c.n=0))&&((vN||decide (c.vN=vM))&&((times||decide (c.times.length=0))&&((au||(isNone c.A&&isNone c.B))&&decide (c.kids.length=kids))))
theorem FC:aL.name=[]:=rfl
theorem EK:aL.kids=[]:=rfl
theorem Jz:sg.name=[]:=rfl
theorem Js:sg.args=[]:=rfl
theorem Jy:sg.sort=0:=rfl
theorem EO:mC.aG=[]:=rfl
theorem F8:mC.bound=0:=rfl
theorem CD:mC.strict=false:=rfl
theorem T7:jD.N=0:=rfl
theorem Uu:jD.D=0:=rfl
theorem Ih:vM.oV=0:=rfl
theorem Ut:vM.n=0:=rfl
theorem TB:vM.t=aL:=rfl
theorem H8:vM.kids=[]:=rfl
attribute [simp] FC EK Jz Js Jy EO F8 CD T7 Uu Ih Ut TB H8 lW tW rH lk
attribute [go_sem] FC EK Jz Js Jy EO F8 CD T7 Uu Ih Ut TB H8
theorem Bs(n:nh)(ks:List Term):(Term.mk n ks).name=n:=rfl
theorem Au(n:nh)(ks:List Term):(Term.mk n ks).kids=ks:=rfl
attribute [simp] Bs Au
attribute [go_sem] Bs Au
def oJ(a b:Rat):Int:=if cQ a b then -1 else if cQ b a then 1 else 0
def gH:List Rat→List Rat→Int
 | [],[]=>0
 | [],_::_=>-1
 | _::_,[]=>1
 | a::as,b::bs=>if oJ a b=0 then gH as bs else oJ a b
def nH(a b:nh):Int:=if gr a b then -1 else if gr b a then 1 else 0
def om(a b:Int):Int:=if a<b then -1 else if b<a then 1 else 0
def e9(a b:Row):Int:=if nH a.name b.name≠0 then nH a.name b.name else if om a.args.length b.args.length≠0 then om a.args.length b.args.length else gH a.args b.args
def kM(r:Row):Bool:=fD r.name&&(decide (r.args.length≤2)&&(bV r.val&&r.args.all bV))
def vn:Option Row→List Row→Bool
 | _,[]=>true
 | p,r::rs=>kM r&&((match p with|none=>true|some q=>decide (e9 q r<0))&&vn (some r) rs)
def e6(m:Model):Bool:=decide (m.rows.length≤40)&&vn none m.rows
def qQ(a:Rat)(sort:Int):Bool:=decide (sort=1)||decide (a.D=1)
def jh:List Rat→List Int→Bool
 | a::as,n::ns=>qQ a n&&jh as ns
 | _,_=>true
def jE(s:dG)(r:Row):Bool:=
 match symbol s r.name with
 | none=>false
 | some x=>decide (x.args.length=r.args.length)&&(qQ r.val x.sort&&jh r.args x.args)
def e7(s:dG)(m:Model):Bool:=fG s&&(e6 m&&m.rows.all (jE s))
def lookup(rows:List Row)(name:nh)(args:List Rat):Rat:=
 match rows.find? (fun r=>decide (r.name=name∧r.args=args)) with
 | some r=>r.val
 | none=>⟨0,1⟩
mutual
def value(m:Model):Term→Rat
 | .mk n ks=>lookup m.rows n (values m ks)
def values(m:Model):List Term→List Rat
 | []=>[]
 | t::ts=>value m t::values m ts
end
def mg(m:Model):List Term→List Int→Rat→Option Rat
 | t::ts,n::ns,sum=>if(plus sum n (value m t)).2 then mg m ts ns (plus sum n (value m t)).1 else none
 | _,_,sum=>some sum
def below(a:Rat)(bound:Int)(strict:Bool):Bool:=if strict then cQ a (whole bound) else !cQ (whole bound) a
def nQ(m:Model)(a:Atom):Option Bool:=if a.kind=1 then some (decide (value m a.A=value m a.B)) else(mg m a.nums a.times (whole 0)).map fun x=>below x a.bound a.strict
def fT(s:dG)(m:Model)(l:bp):Option Bool:=if e7 s m&&eZ s l.atom then(nQ m l.atom).map fun b=>b != l.no else none
mutual
def tG(s:dG)(nums:List Term):Case→List bp→Nat→Bool
 | .mk k n w ts a b ks,ab,dq=>
   if 14<dq then false else
   if k=1 then bare (.mk k n w ts a b ks) true true false false 0&&(within n 0 (ab.length-1)&&(match r5 s (bc ab) w,ab[n.toNat]? with
    | some e,some l=>l.no&&(decide (l.atom.kind=1)&&(decide (e.A=l.atom.A)&&decide (e.B=l.atom.B)))
    | _,_=>false)) else
   if k=2 then bare (.mk k n w ts a b ks) false false true false 0&&qS (dY nums ab) ts else
   if k=3 then bare (.mk k n w ts a b ks) false true false false 1&&(match r5 s (bc ab) w with
    | some e=>differ nums e.A e.B&&nw s nums ks [ab++[gP e.A e.B]] (dq+1)
    | none=>false) else
   if k=4 then bare (.mk k n w ts a b ks) false false false true 3&&(differ nums a b&&nw s nums ks ((fJ a b).map fun l=>ab++[l]) (dq+1)) else
   false
def nw(s:dG)(nums:List Term):List Case→List (List bp)→Nat→Bool
 | c::cs,l::ls,dq=>tG s nums c l dq&&nw s nums cs ls dq
 | _,_,_=>true
end
def F7(s:dG)(ab:List bp)(c:Case):Bool:=fa s ab&&tG s (numsOf s ab) c ab 1
def Vc(kind:Int):Int:=if kind=1 then 0 else if kind=2 then 1 else if kind=3∨kind=4∨kind=5∨kind=6 then 2 else -1
def vY:Atom:=⟨0,aL,aL,[],[],0,false⟩
def DN:bp:=⟨vY,false⟩
def aan:Form:=.mk 0 DN []
def Xk(l:bp):Bool:=!l.no&&decide (l.atom=vY)
def MB(k:Int)(l:bp)(ks:List Form):Bool:=decide (Vc k=ks.length)&&(if k=1 then cJ l.atom else Xk l)
mutual
def Nq:Form→Nat→Nat
 | .mk k l ks,dq=>if decide (dq≤5)&&MB k l ks then 1+Iq ks (dq+1) else 11
def Iq:List Form→Nat→Nat
 | [],_=>0
 | t::ts,dq=>Nq t dq+Iq ts dq
end
mutual
def SE:Form→Nat→Bool
 | _,0=>false
 | .mk k l ks,d+1=>MB k l ks&&FB ks d
def FB:List Form→Nat→Bool
 | [],_=>true
 | t::ts,d=>SE t d&&FB ts d
end
mutual
def TG:Form→Nat→Nat
 | _,0=>1
 | .mk _ _ ks,d+1=>1+Jx ks d
def Jx:List Form→Nat→Nat
 | [],_=>0
 | t::ts,d=>TG t d+Jx ts d
end
def KS(list:List Atom)(a:Atom):Int:=idxOf (fun b=>decide (a=b)) list
mutual
def withAtoms(list:List Atom):Form→List Atom
 | .mk k l ks=>if k=1 then(if KS list l.atom<0 then list++[l.atom] else list) else yV list ks
def yV(list:List Atom):List Form→List Atom
 | []=>list
 | t::ts=>yV (withAtoms list t) ts
end
def OA(f:Form):Bool:=decide (Nq f 1≤10)&&decide ((withAtoms [] f).length≤6)
def plain(list:List Atom):List bp:=list.map fun a=>⟨a,false⟩
def Zv(s:dG)(f:Form):Bool:=OA f&&fa s (plain (withAtoms [] f))
mutual
def holds(p:Atom→Bool):Form→Bool
 | .mk k l ks=>Yw k l (Vr p ks) p
def Vr(p:Atom→Bool):List Form→List Bool
 | []=>[]
 | t::ts=>holds p t::Vr p ts
def Yw(k:Int)(l:bp)(is:List Bool)(p:Atom→Bool):Bool:=
 if k=1 then p l.atom != l.no else
 if k=2 then !(is.getD 0 false) else
 if k=3 then is.getD 0 false&&is.getD 1 false else
 if k=4 then is.getD 0 false||is.getD 1 false else
 if k=5 then !(is.getD 0 false)||is.getD 1 false else
 is.getD 0 false == is.getD 1 false
end
def Zg(f:Form)(aB:List Bool):Option Bool:=
 if OA f&&decide ((withAtoms [] f).length=aB.length) then some (holds (fun a=>aB.getD (KS (withAtoms [] f) a).toNat false) f) else none
def Td(s:dG)(m:Model):List Atom→Option (List Bool)
 | []=>some []
 | a::as=>match fT s m ⟨a,false⟩ with
   | none=>none
   | some b=>match Td s m as with
     | none=>none
     | some bs=>some (b::bs)
def SC(s:dG)(m:Model)(f:Form):Option Bool:=
 if Zv s f then(match Td s m (withAtoms [] f) with|none=>none|some aB=>Zg f aB) else none
def Le:List Form→List Atom→List Atom
 | [],out=>out
 | f::fs,out=>Le fs (withAtoms out f)
def yZ(list:List Form):Option (List Atom):=
 if decide (list.length≤5)&&(list.all OA&&decide ((Le list []).length≤6)) then some (Le list []) else none
def Qt(s:dG)(list:List Form):Bool:=match yZ list with|none=>false|some atoms=>fG s&&fa s (plain atoms)
def YB(l many:Int):Bool:=decide (l≠0)&&within l (-many) many
def Yb:List Int→List Int→Int→Bool
 | _,[],_=>true
 | before,m::ms,many=>YB m many&&(!(before.contains m)&&(!(before.contains (-m))&&Yb (before++[m]) ms many))
def ML(marks:List Int)(many:Nat):Bool:=Yb [] marks many
def Uc(marks:List Int)(atoms:List Atom):List bp:=marks.map fun m=>⟨atoms.getD (m.natAbs-1) vY,decide (m<0)⟩
def aaN(s:dG)(list:List Form)(l:Qp):Bool:=
 Qt s list&&(decide (0<l.marks.length)&&(ML l.marks ((yZ list).getD []).length&&F7 s (Uc l.marks ((yZ list).getD [])) l.case))
def aao(s:dG)(m:Model)(list:List Form):Bool:=Qt s list&&(e7 s m&&list.all fun f=>decide (SC s m f=some true))
end Go.Mod
namespace Go.Proofs.YtabembjmeobhoaaGreat
open Go.Eng Go.Mod
set_option maxRecDepth 100000
theorem Ma{n:Int}:(if n < -n then -n else n)=(n.natAbs:Int):=by split<;>omega
end Go.Proofs.YtabembjmeobhoaaGreat
namespace Go.Mod
open Go.Eng
mutual
theorem sZ:∀(t:Term)(d:Nat),d≤4→(bL t d=true→kZ t (5-d)=many t d)∧(bL t d=false→13≤kZ t (5-d))
 | .mk n ks,0,_=>by simp[bL,kZ]
 | .mk n ks,d+1,hd=>by
   obtain⟨h1,h2⟩:=AG ks d (by omega)
   have e:5-(d+1)+1=5-d:=by omega
   have e2:5-(d+1)≤4:=by omega
   simp only[bL,kZ,many,e,e2,decide_true,Bool.and_true]
   cases hn:fD n
   ·simp
   ·rcases aa (ks.length≤2) with hk|hk
    ·simp only[hk,decide_true,Bool.and_self,aM,if_true]
     exact⟨fun h=>by rw[h1 h],fun h=>by have:=h2 h;omega⟩
    ·simp[hk]
theorem AG:∀(ts:List Term)(d:Nat),d≤4→(cG ts d=true→fl ts (5-d)=lK ts d)∧(cG ts d=false→13≤fl ts (5-d))
 | [],_,_=>by simp[cG,fl,lK]
 | t::ts,d,hd=>by
   obtain⟨h1,h2⟩:=sZ t d hd
   obtain⟨h3,h4⟩:=AG ts d hd
   simp only[cG,fl,lK]
   cases ht:bL t d
   ·have:=h2 ht
    exact⟨fun h=>by simp at h,fun _=>by omega⟩
   ·cases hts:cG ts d
    ·have:=h4 hts
     exact⟨fun h=>by simp at h,fun _=>by omega⟩
    ·exact⟨fun _=>by rw[h1 ht,h3 hts],fun h=>by simp at h⟩
end
def right(t:Term):Bool:=bL t 4&&decide (many t 4≤12)
theorem AD(t:Term):right t=isTerm t:=by
 have h:=sZ t 4 (by omega)
 simp only[show 5-4=1 from rfl] at h
 obtain⟨h1,h2⟩:=h
 unfold right isTerm
 cases h:bL t 4
 ·have:=h2 h
  simp only[Bool.false_and]
  symm
  simp only[decide_eq_false_iff_not]
  omega
 ·rw[←h1 h]
  simp
theorem iy{t:Term}(h:isTerm t=true):bL t 4=true:=by
 rw[←AD] at h
 simp only[right,ai] at h
 exact h.1
mutual
theorem Cb:∀(t:Term)(d:Nat),bL t d=true→bL t (d+1)=true
 | .mk n ks,0,h=>by simp[bL] at h
 | .mk n ks,d+1,h=>by
   simp only[bL,ai] at h⊢
   exact⟨h.1,h.2.1,Gl ks d h.2.2⟩
theorem Gl:∀(ts:List Term)(d:Nat),cG ts d=true→cG ts (d+1)=true
 | [],_,_=>by simp[cG]
 | t::ts,d,h=>by
   simp only[cG,ai] at h⊢
   exact⟨Cb t d h.1,Gl ts d h.2⟩
end
theorem n7:∀{ts:List Term}{d:Nat},cG ts d=true→∀t∈ts,bL t d=true
 | [],_,_,t,ht=>by simp at ht
 | a::ts,d,h,t,ht=>by
   simp only[cG,ai] at h
   rcases ay.1 ht with rfl|ht
   ·exact h.1
   ·exact n7 h.2 t ht
theorem nU{t:Term}{d:Nat}(h:bL t (d+1)=true):fD t.name=true∧t.kids.length≤2∧cG t.kids d=true:=by
 cases t with
 | mk n ks=>
   simp only[bL,ai,decide_eq_true_eq] at h
   exact⟨h.1,h.2.1,h.2.2⟩
mutual
theorem KG:∀(t:Term)(d:Nat),bL t d=true→many t d+1≤2 ^ d
 | .mk n ks,0,h=>by simp[bL] at h
 | .mk n ks,d+1,h=>by
   simp only[bL,ai,decide_eq_true_eq] at h
   have:=Al ks d h.2.2
   simp only[many]
   have h3:ks.length*(2 ^ d-1)≤2*(2 ^ d-1):=bP _ h.2.1
   have h4:1≤2 ^ d:=jL
   rw[Nat.pow_succ]
   omega
theorem Al:∀(ts:List Term)(d:Nat),cG ts d=true→lK ts d≤ts.length*(2 ^ d-1)
 | [],_,_=>by simp[lK]
 | t::ts,d,h=>by
   simp only[cG,ai] at h
   have h1:=KG t d h.1
   have h2:=Al ts d h.2
   simp only[lK,a8,cP,Nat.one_mul]
   omega
end
mutual
theorem CT:∀(t:Term)(dq:Nat),1≤dq→dq≤5→kZ t dq+14≤27*2 ^ (5-dq)
 | .mk n ks,dq,h1,h5=>by
   simp only[kZ]
   split
   ·rename_i h
    simp only[ai,decide_eq_true_eq] at h
    have:=vk ks (dq+1) (by omega) (by omega)
    have h3:ks.length*(27*2 ^ (5-(dq+1))-14)≤2*(27*2 ^ (5-(dq+1))-14):=bP _ h.1.2
    have e:5-dq=(5-(dq+1))+1:=by omega
    have h4:1≤2 ^ (5-(dq+1)):=jL
    rw[e,Nat.pow_succ]
    omega
   ·have h4:1≤2 ^ (5-dq):=jL
    omega
theorem vk:∀(ts:List Term)(dq:Nat),1≤dq→dq≤5→fl ts dq≤ts.length*(27*2 ^ (5-dq)-14)
 | [],_,_,_=>by simp[fl]
 | t::ts,dq,h1,h5=>by
   have h2:=CT t dq h1 h5
   have h3:=vk ts dq h1 h5
   simp only[fl,a8,cP,Nat.one_mul]
   omega
end
theorem gh:∀(ts l:List Term),ba l ts=ts.foldl de l
 | [],_=>rfl
 | t::ts,l=>by simp only[ba,List.foldl_cons,gh ts]
theorem qO{ts:List Term}{i:Nat}(h:i<ts.length)(l:List Term):ba l (ts.take (i+1))=de (ba l (ts.take i)) ts[i]:=by
 have e:ts.take (i+1)=ts.take i++[ts[i]]:=by rw[bC,ah h];rfl
 rw[e,gh,gh,List.foldl_append]
 rfl
theorem qX(l:List Term)(t:Term):de l t=if bM (ba l t.kids) t<0 then ba l t.kids++[t] else ba l t.kids:=by
 cases t;rfl
mutual
theorem yN:∀(t:Term)(d:Nat)(l:List Term),bL t d=true→(de l t).length≤l.length+many t d
 | .mk n ks,0,l,h=>by simp[bL] at h
 | .mk n ks,d+1,l,h=>by
   simp only[bL,ai] at h
   have:=rC ks d l h.2.2
   simp only[de,many]
   split
   ·simp only[aX,a8,ez]
    omega
   ·omega
theorem rC:∀(ts:List Term)(d:Nat)(l:List Term),cG ts d=true→(ba l ts).length≤l.length+lK ts d
 | [],_,_,_=>by simp[ba]
 | t::ts,d,l,h=>by
   simp only[cG,ai] at h
   have h1:=yN t d l h.1
   have h2:=rC ts d (de l t) h.2
   simp only[ba,lK]
   omega
end
theorem rh:∀{ts:List Term}{d:Nat},cG ts d=true→∀i,cG (ts.take i) d=true
 | [],_,_,i=>by simp[cG]
 | t::ts,d,h,0=>by simp[cG]
 | t::ts,d,h,i+1=>by
   simp only[cG,ai,dH] at h⊢
   exact⟨h.1,rh h.2 i⟩
theorem AV{t:Term}{d:Nat}{l:List Term}(h:bL t d=true)(hd:d≤4):(de l t).length≤l.length+15:=by
 have h1:=yN t d l h
 have h2:=KG t d h
 have h3:2 ^ d≤2 ^ 4:=fy (by omega) hd
 omega
theorem yL{t:Term}{d:Nat}{l:List Term}(h:bL t (d+1)=true)(hd:d≤3)(i:Nat):(ba l (t.kids.take i)).length≤l.length+14:=by
 obtain⟨_,h1,h2⟩:=nU h
 have h3:=rC (t.kids.take i) d l (rh h2 i)
 have h4:=Al (t.kids.take i) d (rh h2 i)
 have h5:2 ^ d≤2 ^ 3:=fy (by omega) hd
 have h6:(t.kids.take i).length≤2:=by simp;omega
 have h7:(t.kids.take i).length*(2 ^ d-1)≤2*(2 ^ d-1):=bP _ h6
 omega
theorem EZ{n:Int}:isSort n=true↔n=0∨n=1:=by simp[isSort]
theorem ED:∀{l:List Sym}{p:Option nh},qN p l=true→∀x∈l,nW x=true
 | [],_,_,x,hx=>by simp at hx
 | a::l,p,h,x,hx=>by
   simp only[qN,ai] at h
   rcases ay.1 hx with rfl|hx
   ·exact h.1
   ·exact ED h.2.2 x hx
theorem IJ{s:dG}{n:nh}{x:Sym}(hs:fG s=true)(h:symbol s n=some x):nW x=true:=by
 simp only[fG,ai] at hs
 exact ED hs.1 x (eX h)
theorem GH{x:Sym}(h:nW x=true):isSort x.sort=true∧∀n∈x.args,isSort n=true:=by
 simp only[nW,ai,cd] at h
 exact⟨h.2.2.1,h.2.2.2⟩
theorem Mm{s:dG}{t:Term}{n:Int}(hs:fG s=true)(h:fI s t=some n):isSort n=true:=by
 cases t with
 | mk nm ks=>
   simp only[fI] at h
   cases hx:symbol s nm with
   | none=>rw[hx] at h;cases h
   | some x=>
     rw[hx] at h
     simp only at h
     split at h
     ·cases h
      exact(GH (IJ hs hx)).1
     ·cases h
theorem xz:iH 40=false:=by decide
theorem xU:iH 41=false:=by decide
theorem xW:iH 44=false:=by decide
def Q5(r:nh):Prop:=∀c x,r=c::x→iH c=false
def MC(r:nh):Prop:=∀c x,r=c::x→iH c=false∧c≠40
theorem vj{c:UInt8}{x:nh}(h:iH c=false):Q5 (c::x):=by
 intro c' x' e
 cases e
 exact h
theorem mE{c:UInt8}{x:nh}(h:iH c=false)(h2:c≠40):MC (c::x):=by
 intro c' x' e
 cases e
 exact⟨h,h2⟩
theorem MC.n{r:nh}(h:MC r):Q5 r:=fun c x e=>(h c x e).1
theorem qe:∀{a b r r':nh},a.all iH=true→b.all iH=true→Q5 r→Q5 r'→a++r=b++r'→a=b∧r=r'
 | [],[],r,r',_,_,_,_,h=>⟨rfl,by simpa using h⟩
 | [],c::b,r,r',_,hb,hr,_,h=>by
   simp only[b7,ai] at hb
   have:=hr c (b++r') (by simpa using h)
   rw[this] at hb
   simp at hb
 | c::a,[],r,r',ha,_,_,hr',h=>by
   simp only[b7,ai] at ha
   have:=hr' c (a++r) (by simpa using h.symm)
   rw[this] at ha
   simp at ha
 | c::a,d::b,r,r',ha,hb,hr,hr',h=>by
   simp only[b7,ai] at ha hb
   simp only[bz,List.cons.injEq] at h
   obtain⟨h1,h2⟩:=qe ha.2 hb.2 hr hr' h.2
   exact⟨by rw[h.1,h1],h2⟩
theorem Gr{n:nh}(h:fD n=true):n.all iH=true:=by
 simp only[fD,ai] at h
 exact h.2
mutual
theorem wQ:∀(t u:Term)(d:Nat)(r r':nh),bL t d=true→bL u d=true→MC r→MC r'→aN t++r=aN u++r'→t=u∧r=r'
 | t,u,0,r,r',ht,_,_,_,_=>by simp[bL] at ht
 | .mk n ks,.mk m js,d+1,r,r',ht,hu,hr,hr',h=>by
   simp only[bL,ai] at ht hu
   have hn:=Gr ht.1
   have hm:=Gr hu.1
   match ks,js,ht,hu,h with
   | [],[],ht,hu,h=>
     simp only[aN] at h
     obtain⟨h1,h2⟩:=qe hn hm hr.n hr'.n h
     exact⟨by rw[h1],h2⟩
   | [],k::js,ht,hu,h=>
     simp only[aN,bm,bz] at h
     obtain⟨h1,h2⟩:=qe hn hm hr.n (vj xz) h
     exact absurd rfl ((hr _ _ h2).2)
   | k::ks,[],ht,hu,h=>
     simp only[aN,bm,bz] at h
     obtain⟨h1,h2⟩:=qe hn hm (vj xz) hr'.n h
     exact absurd rfl ((hr' _ _ h2.symm).2)
   | k::ks,j::js,ht,hu,h=>
     simp only[aN,bm,bz] at h
     obtain⟨h1,h2⟩:=qe hn hm (vj xz) (vj xz) h
     simp only[List.cons.injEq,true_and] at h2
     obtain⟨h3,h4⟩:=Jg (k::ks) (j::js) d r r' ht.2.2 hu.2.2 (by simp) (by simp) (by simpa[fP] using h2)
     exact⟨by rw[h1,h3],h4⟩
theorem Jg:∀(ts us:List Term)(d:Nat)(r r':nh),cG ts d=true→cG us d=true→ts≠[]→us≠[]→jT (fP ts)++41::r=jT (fP us)++41::r'→ts=us∧r=r'
 | [],_,_,_,_,_,_,h,_,_=>absurd rfl h
 | _::_,[],_,_,_,_,_,_,h,_=>absurd rfl h
 | [t],[u],d,r,r',ht,hu,_,_,h=>by
   simp only[cG,ai] at ht hu
   simp only[fP,jT] at h
   obtain⟨h1,h2⟩:=wQ t u d _ _ ht.1 hu.1 (mE xU (by decide)) (mE xU (by decide)) h
   simp only[List.cons.injEq,true_and] at h2
   exact⟨by rw[h1],h2⟩
 | [t],u::v::us,d,r,r',ht,hu,_,_,h=>by
   simp only[cG,ai] at ht hu
   simp only[fP,jT,bm,bz] at h
   obtain⟨h1,h2⟩:=wQ t u d _ _ ht.1 hu.1 (mE xU (by decide)) (mE xW (by decide)) h
   simp at h2
 | t::w::ts,[u],d,r,r',ht,hu,_,_,h=>by
   simp only[cG,ai] at ht hu
   simp only[fP,jT,bm,bz] at h
   obtain⟨h1,h2⟩:=wQ t u d _ _ ht.1 hu.1 (mE xW (by decide)) (mE xU (by decide)) h
   simp at h2
 | t::w::ts,u::v::us,d,r,r',ht,hu,_,_,h=>by
   simp only[cG,ai] at ht hu
   simp only[fP,jT,bm,bz] at h
   obtain⟨h1,h2⟩:=wQ t u d _ _ ht.1 hu.1 (mE xW (by decide)) (mE xW (by decide)) h
   simp only[List.cons.injEq,true_and] at h2
   obtain⟨h3,h4⟩:=Jg (w::ts) (v::us) d r r' (by simp only[cG,ai];exact ht.2) (by simp only[cG,ai];exact hu.2) (by simp) (by simp) (by simpa[fP] using h2)
   exact⟨by rw[h1,h3],h4⟩
end
theorem AB{t u:Term}(ht:isTerm t=true)(hu:isTerm u=true)(h:aN t=aN u):t=u:=
 (wQ t u 4 [] [] (iy ht) (iy hu) (fun _ _ e=>by cases e) (fun _ _ e=>by cases e) (by rw[h])).1
mutual
theorem Gn:∀(t:Term)(d:Nat),bL t d=true→(aN t).length+6≤8*2 ^ d
 | t,0,h=>by simp[bL] at h
 | .mk n [],d+1,h=>by
   simp only[bL,ai] at h
   have h1:n.length≤2:=by
    have:=h.1
    simp only[fD,ai] at this
    have:=dx.1 this.1
    omega
   have h4:1≤2 ^ d:=jL
   simp only[aN,Nat.pow_succ]
   omega
 | .mk n (k::ks),d+1,h=>by
   simp only[bL,ai,decide_eq_true_eq] at h
   have h1:n.length≤2:=by
    have:=h.1
    simp only[fD,ai] at this
    have:=dx.1 this.1
    omega
   have h2:=I3 (k::ks) d h.2.2
   have h4:1≤2 ^ d:=jL
   simp only[fP] at h2
   simp only[aN,aX,a8,ez,Nat.pow_succ]
   have h3:(k::ks).length*(8*2 ^ d-5)≤2*(8*2 ^ d-5):=bP _ h.2.1
   omega
theorem I3:∀(ts:List Term)(d:Nat),cG ts d=true→(jT (fP ts)).length≤ts.length*(8*2 ^ d-5)
 | [],_,_=>by simp[fP,jT]
 | [t],d,h=>by
   simp only[cG,ai] at h
   have:=Gn t d h.1
   simp only[fP,jT,a8,ez]
   omega
 | t::u::ts,d,h=>by
   simp only[cG,ai] at h
   have h1:=Gn t d h.1
   have h2:=I3 (u::ts) d (by simp only[cG,ai];exact h.2)
   simp only[fP] at h2
   simp only[fP,jT,aX,a8] at h2⊢
   have e:(ts.length+1+1)*(8*2 ^ d-5)=(ts.length+1)*(8*2 ^ d-5)+(8*2 ^ d-5):=by rw[cP (ts.length+1) 1];omega
   rw[e]
   omega
end
theorem vg{t:Term}{d:Nat}(h:bL t d=true)(hd:d≤4):(aN t).length≤122:=by
 have h1:=Gn t d h
 have h2:2 ^ d≤2 ^ 4:=fy (by omega) hd
 omega
theorem Mf{α:Type}{p:α→Bool}:∀{xs:List α}{i:Int},0≤i→(0≤fX p xs i↔∃x∈xs,p x=true)
 | [],i,h=>by simp[fX]
 | x::xs,i,h=>by
   simp only[fX,ay,exists_eq_or_imp]
   split
   ·rename_i hx
    simp[hx,h]
   ·rename_i hx
    rw[Mf (by omega)]
    simp[hx]
theorem wW{α:Type}{p:α→Bool}:∀{xs:List α}{i:Int},0≤i→fX p xs i=if fX p xs 0<0 then -1 else fX p xs 0+i
 | [],i,h=>by simp[fX]
 | x::xs,i,h=>by
   simp only[fX]
   split
   ·simp
   ·rw[wW (i:=i+1) (by omega),wW (i:=0+1) (by omega)]
    rcases aa (fX p xs 0<0) with hc|hc
    ·simp[hc]
    ·simp only[hc,if_false]
     rw[if_neg (by omega)]
     omega
theorem M4{α:Type}{p:α→Bool}:∀{xs:List α}{i:Int},fX p xs i<i+xs.length∨fX p xs i = -1
 | [],i=>by simp[fX]
 | x::xs,i=>by
   simp only[fX,a8]
   split
   ·left;omega
   ·rcases M4 (p:=p) (xs:=xs) (i:=i+1) with h|h
    ·left;omega
    ·right;exact h
theorem cK{l:List Term}{t:Term}:0≤bM l t↔t∈l:=by
 unfold bM idxOf
 rw[Mf (by omega)]
 simp
theorem nI{l:List Term}{t:Term}(h:t∈l):(bM l t).toNat<l.length:=by
 have h1:=cK.2 h
 rcases M4 (p:=fun u=>decide (t=u)) (xs:=l) (i:=0) with h2|h2
 ·unfold bM idxOf at h1⊢
  omega
 ·unfold bM idxOf at h1
  omega
theorem iL{t:Term}:∀{l:List Term},t∈l→l[(bM l t).toNat]?=some t
 | [],h=>by simp at h
 | x::xs,h=>by
   unfold bM idxOf
   simp only[fX]
   rcases aa (t=x) with hx|hx
   ·simp[hx]
   ·have hm:t∈xs:=by simpa[hx] using h
    have h0:=cK.2 hm
    have ih:=iL hm
    unfold bM idxOf at ih h0
    simp only[hx,decide_false,ax,if_false]
    rw[wW (by omega),if_neg (by omega)]
    have e:(fX (fun u=>decide (t=u)) xs 0+(0+1)).toNat=(fX (fun u=>decide (t=u)) xs 0).toNat+1:=by omega
    rw[e,ld,ih]
theorem Dk{l:List Term}{t u:Term}(ht:t∈l)(hu:u∈l)(h:bM l t=bM l u):t=u:=by
 have h1:=iL ht
 have h2:=iL hu
 rw[h,h2] at h1
 exact(Option.some.inj h1).symm
theorem uo{nums:List Term}{a b:Term}:differ nums a b=true↔a∈nums∧b∈nums∧a≠b:=by
 simp only[differ,ai,decide_eq_true_eq,cK]
 constructor
 ·rintro⟨h1,h2,h3⟩
  exact⟨h1,h2,fun h=>h3 (by rw[h])⟩
 ·rintro⟨h1,h2,h3⟩
  exact⟨h1,h2,fun h=>h3 (Dk h1 h2 h)⟩
theorem ud:∀{cs:List Int}{i:Int}(v:Int),0≤i→mz cs i v=cs.set i.toNat (cs.getD i.toNat 0+v)
 | [],i,v,h=>by simp[mz]
 | c::cs,i,v,h=>by
   simp only[mz]
   rcases aa (i=0) with h0|h0
   ·subst h0;simp
   ·rw[if_neg h0,ud v (by omega)]
    have e:i.toNat=(i-1).toNat+1:=by omega
    rw[e]
    simp
theorem xH:∀{cs:List Int}{i v:Int},(mz cs i v).length=cs.length
 | [],i,v=>rfl
 | c::cs,i,v=>by
   simp only[mz]
   split
   ·simp
   ·simp[xH (cs:=cs)]
theorem Fi:∀{cs:List Int}{i k v w:Int},mz (mz cs i v) k w=mz (mz cs k w) i v
 | [],i,k,v,w=>rfl
 | c::cs,i,k,v,w=>by
   simp only[mz]
   rcases aa (i=0) with hi|hi
   ·rcases aa (k=0) with hk|hk
    ·simp only[hi,hk,if_true,mz]
     congr 1
     omega
    ·simp only[hi,hk,if_true,if_false,mz]
   ·rcases aa (k=0) with hk|hk
    ·simp only[hi,hk,if_true,if_false,mz]
    ·simp only[hi,hk,if_false,mz]
     rw[Fi (cs:=cs)]
def nX(nums:List Term):List Term→List Int→List Int→List Int
 | t::ts,n::ns,cs=>nX nums ts ns (cs.set (bM nums t).toNat n)
 | _,_,cs=>cs
theorem getD_set_ne{cs:List Int}{i k:Nat}{v:Int}(h:i≠k):(cs.set i v).getD k 0=cs.getD k 0:=by
 simp[cC,List.getElem?_set_ne h]
theorem Na{nums:List Term}:∀{ts:List Term}{ns cs:List Int},ts.Nodup→(∀t∈ts,t∈nums∧cs.getD (bM nums t).toNat 0=0)→nX nums ts ns cs=jQ nums ts ns cs
 | [],_,_,_,_=>by simp[nX,jQ]
 | _::_,[],_,_,_=>by simp[nX,jQ]
 | t::ts,n::ns,cs,hd,h=>by
   simp only[nX,jQ]
   have ht:=h t (by simp)
   rw[ud n (cK.2 ht.1),ht.2,Int.zero_add]
   refine Na (cE.1 hd).2 fun u hu=>?_
   have hu':=h u (by simp[hu])
   refine⟨hu'.1,?_⟩
   rw[getD_set_ne,hu'.2]
   intro e
   have h1:=cK.2 ht.1
   have h2:=cK.2 hu'.1
   have:t=u:=Dk ht.1 hu'.1 (by omega)
   subst this
   exact(cE.1 hd).1 hu
theorem Va(k:Nat):([0,0,0,0]:List Int).getD k 0=0:=by
 match k with
 | 0=>rfl
 | 1=>rfl
 | 2=>rfl
 | 3=>rfl
 | k+4=>rfl
theorem O3{n:Int}:m9 n=true ↔ -1000000≤n∧n≤1000000:=dx
theorem gp{l:ia}:dE l=true↔l.aG.length=4∧(∀c∈l.aG,-1000000≤c∧c≤1000000)∧(-1000000≤l.bound∧l.bound≤1000000):=by
 simp only[dE,ai,cd,decide_eq_true_eq,O3]
 constructor
 ·rintro⟨h1,h2,h3⟩
  exact⟨h2,h1,h3⟩
 ·rintro⟨h1,h2,h3⟩
  exact⟨h2,h1,h3⟩
theorem dj{m b:Int}(h0:0≤m)(h1:m≤1000000)(h2:-1000000≤b∧b≤1000000):-1000000000000≤m*b∧m*b≤1000000000000:=by
 have a1:m*b≤m*1000000:=Int.mul_le_mul_of_nonneg_left h2.2 h0
 have a2:m*(-1000000)≤m*b:=Int.mul_le_mul_of_nonneg_left h2.1 h0
 omega
theorem kh:∀{m n:Int}{as bs:List Int},as.length=bs.length→(comb m n as bs).length=as.length
 | _,_,[],[],_=>rfl
 | _,_,[],_::_,h=>by simp at h
 | _,_,_::_,[],h=>by simp at h
 | m,n,a::as,b::bs,h=>by
   simp only[comb,a8]
   rw[kh (by simpa using h)]
theorem eV:∀{m n:Int}{as bs:List Int}{i:Nat}(h:i<as.length)(h':i<bs.length),comb m n (as.take (i+1)) (bs.take (i+1))=comb m n (as.take i) (bs.take i)++[m*as[i]+n*bs[i]]
 | _,_,[],_,i,h,_=>by simp at h
 | _,_,_::_,[],i,_,h=>by simp at h
 | m,n,a::as,b::bs,0,h,h'=>by simp[comb]
 | m,n,a::as,b::bs,i+1,h,h'=>by
   have:=eV (m:=m) (n:=n) (as:=as) (bs:=bs) (i:=i) (by simpa using h) (by simpa using h')
   simp only[dH,comb,bz,jo] at this⊢
   rw[this]
theorem ph{a b:ia}{m n:Int}(h1:dE a=true)(h2:dE b=true)(h3:within m 0 1000000=true)(h4:within n 0 1000000=true):dN a m b n=jl a m b n:=by simp[dN,h1,h2,h3,h4]
theorem FG{ls:List ia}{ts:List Int}{i:Nat}(h:i<ls.length)(h':i<ts.length)(out:ia):oY (ls.drop i) (ts.drop i) out=if(dN out 1 ls[i] ts[i]).2 then oY (ls.drop (i+1)) (ts.drop (i+1)) (dN out 1 ls[i] ts[i]).1 else(mC,false):=by
 rw[aj h,aj h',oY]
theorem pw{α:Type}{xs:List α}{i:Nat}(h:i<xs.length):xs.take (i+1)=xs.take i++[xs[i]]:=by rw[bC,ah h];rfl
theorem qq(p:Option Term)(t:Term)(ts:List Term)(n:Int)(ns:List Int):kY p (t::ts) (n::ns)=(isTerm t&&(within n (-50) 50&&(decide (n≠0)&&((match p with|none=>true|some q=>gr (aN q) (aN t))&&kY (some t) ts ns)))):=rfl
theorem uI:∀{ts:List Term}{ns:List Int}{p:Option Term},kY p ts ns=true→ns.length=ts.length→(∀t∈ts,isTerm t=true)∧(∀n∈ns,-50≤n∧n≤50)
 | [],[],_,_,_=>by simp
 | [],_::_,_,_,h=>by simp at h
 | _::_,[],_,_,h=>by simp at h
 | t::ts,n::ns,p,h,hl=>by
   rw[qq] at h
   simp only[ai] at h
   obtain⟨h1,h2⟩:=uI h.2.2.2.2 (by simpa using hl)
   have h3:=dx.1 h.2.1
   refine⟨fun u hu=>?_,fun m hm=>?_⟩
   ·rcases ay.1 hu with rfl|hu
    ·exact h.1
    ·exact h1 u hu
   ·rcases ay.1 hm with rfl|hm
    ·exact h3
    ·exact h2 m hm
theorem mu{a:Atom}(h:cJ a=true)(k:a.kind=2):isNone a.A=true∧isNone a.B=true∧a.nums.length≤4∧a.times.length=a.nums.length∧(-1000≤a.bound∧a.bound≤1000)∧kY none a.nums a.times=true:=by
 rw[cJ,if_neg (by omega),if_pos k] at h
 simp only[ai,decide_eq_true_eq] at h
 have h3:=dx.1 h.2.2.1
 have h5:=dx.1 h.2.2.2.2.1
 exact⟨h.1,h.2.1,by omega,h.2.2.2.1,h5,h.2.2.2.2.2⟩
theorem j8{a:Atom}(h:cJ a=true):a.kind=1∨a.kind=2:=by
 rcases aa (a.kind=1) with k1|k1
 ·exact .inl k1
 ·rcases aa (a.kind=2) with k2|k2
  ·exact .inr k2
  ·simp[cJ,k1,k2] at h
theorem IP{a:Atom}(h:cJ a=true)(k:a.kind=1):isTerm a.A=true∧isTerm a.B=true:=by
 simp only[cJ,k,if_true,ai] at h
 exact⟨h.1,h.2.1⟩
theorem mW{a:Atom}(h:cJ a=true):(b8 a).length≤4∧∀t∈b8 a,isTerm t=true:=by
 unfold b8
 rcases aa (a.kind=1) with k1|k1
 ·rw[if_pos k1]
  have:=IP h k1
  refine⟨by simp,fun t ht=>?_⟩
  simp only[ay,bn,or_false] at ht
  rcases ht with rfl|rfl
  ·exact this.1
  ·exact this.2
 ·rw[if_neg k1]
  have k2:a.kind=2:=(j8 h).resolve_left k1
  have:=mu h k2
  exact⟨this.2.2.1,(uI this.2.2.2.2.2 this.2.2.2.1).1⟩
def dI(ab:List bp):List Term:=ab.flatMap fun l=>b8 l.atom
theorem jC(ab:List bp):aE ab=lU (dI ab):=rfl
theorem tF{ab:List bp}{i:Nat}(h:i<ab.length):dI (ab.take (i+1))=dI (ab.take i)++b8 ab[i].atom:=by
 rw[pw h]
 simp only[dI,List.flatMap_append,ki,List.flatMap_nil,bF]
theorem iP:∀{ab:List bp},(∀l∈ab,cJ l.atom=true)→(dI ab).length≤4*ab.length∧∀t∈dI ab,isTerm t=true
 | [],_=>by simp[dI]
 | l::ls,h=>by
   obtain⟨h1,h2⟩:=iP (ab:=ls) fun x hx=>h x (by simp[hx])
   obtain⟨h3,h4⟩:=mW (h l (by simp))
   simp only[dI,ki,aX,a8,aR] at h1 h2⊢
   refine⟨by omega,fun t ht=>?_⟩
   rcases ht with ht|ht
   ·exact h4 t ht
   ·exact h2 t ht
theorem Dc:∀{ts out:List Term},(∀t∈ts,isTerm t=true)→pV ts out=ba out ts
 | [],_,_=>by simp[pV,ba]
 | t::ts,out,h=>by
   simp only[pV,ba,h t (by simp),if_true]
   exact Dc fun u hu=>h u (by simp[hu])
theorem iw{ts:List Term}(h:∀t∈ts,isTerm t=true):lU ts=ba [] ts:=Dc h
mutual
theorem yI:∀(t:Term)(l:List Term),(∀u∈l,u∈de l t)∧t∈de l t
 | .mk n ks,l=>by
   have h:=rL ks l
   simp only[de]
   split
   ·exact⟨fun u hu=>by simp[h u hu],by simp⟩
   ·rename_i hx
    exact⟨h,cK.1 (by omega)⟩
theorem rL:∀(ts:List Term)(l:List Term),∀u∈l,u∈ba l ts
 | [],l,u,h=>by simpa[ba] using h
 | t::ts,l,u,h=>by
   simp only[ba]
   exact rL ts _ u ((yI t l).1 u h)
end
theorem rN:∀(ts:List Term)(l:List Term),∀t∈ts,t∈ba l ts
 | [],_,t,h=>by simp at h
 | a::ts,l,t,h=>by
   simp only[ba]
   rcases ay.1 h with rfl|h
   ·exact rL ts _ _ (yI _ l).2
   ·exact rN ts _ t h
mutual
theorem vH:∀(t:Term)(d:Nat)(l:List Term),d≤4→bL t d=true→many t d≤12→(∀u∈l,isTerm u=true)→∀u∈de l t,isTerm u=true
 | .mk n ks,0,l,_,h,_,_,u,_=>by simp[bL] at h
 | .mk n ks,d+1,l,hd,h,hm,hl,u,hu=>by
   have h':=h
   simp only[bL,ai] at h'
   have hk:=uf ks d l (by omega) h'.2.2 (by simp only[many] at hm;omega) hl
   simp only[de] at hu
   split at hu
   ·simp only[aR,ay,bn,or_false] at hu
    rcases hu with hu|rfl
    ·exact hk u hu
    ·rw[←AD]
     have up:∀(k:Nat)(t:Term)(d:Nat),d+k≤4→bL t d=true→bL t (d+k)=true:=by
      intro k
      induction k with
      | zero=>intro t d _ h;exact h
      | succ k ih=>intro t d hk h;rw[←iC];exact Cb _ _ (ih t d (by omega) h)
     have s4:=up (4-(d+1)) _ (d+1) (by omega) h
     rw[show d+1+(4-(d+1))=4 by omega] at s4
     have m1:=(sZ (.mk n ks) (d+1) hd).1 h
     have m2:=(sZ (.mk n ks) 4 (by omega)).1 s4
     simp only[right,s4,aM,decide_eq_true_eq]
     have mm:∀(k:Nat)(t:Term)(d:Nat),d+k≤4→bL t d=true→many t (d+k)=many t d:=by
      intro k
      induction k with
      | zero=>intro t d _ _;rfl
      | succ k ih=>
        intro t d hk h
        have h1:=ih t d (by omega) h
        have:∀(d:Nat)(t:Term),bL t d=true→many t (d+1)=many t d:=by
         intro d
         induction d with
         | zero=>intro t h;cases t;simp[bL] at h
         | succ d ihd=>
           intro t h
           cases t with
           | mk n ks=>
             simp only[bL,ai] at h
             have hs:∀(ks:List Term),cG ks d=true→lK ks (d+1)=lK ks d:=by
              intro ks
              induction ks with
              | nil=>intro _;simp[lK]
              | cons a as iha=>
                intro h
                simp only[cG,ai] at h
                simp only[lK,ihd a h.1,iha h.2]
             simp only[many,hs ks h.2.2]
        rw[←iC,this (d+k) t (up k t d (by omega) h),h1]
     have:=mm (4-(d+1)) (.mk n ks) (d+1) (by omega) h
     rw[show d+1+(4-(d+1))=4 by omega] at this
     omega
   ·exact hk u hu
theorem uf:∀(ts:List Term)(d:Nat)(l:List Term),d≤4→cG ts d=true→lK ts d≤12→(∀u∈l,isTerm u=true)→∀u∈ba l ts,isTerm u=true
 | [],_,l,_,_,_,hl,u,hu=>hl u (by simpa[ba] using hu)
 | t::ts,d,l,hd,h,hm,hl,u,hu=>by
   simp only[cG,ai] at h
   simp only[lK] at hm
   simp only[ba] at hu
   exact uf ts d _ hd h.2 (by omega) (vH t d l hd h.1 (by omega) hl) u hu
end
theorem um:∀(ts l:List Term),(∀t∈ts,isTerm t=true)→(∀u∈l,isTerm u=true)→∀u∈ba l ts,isTerm u=true
 | [],l,_,hl,u,hu=>hl u (by simpa[ba] using hu)
 | t::ts,l,ht,hl,u,hu=>by
   simp only[ba] at hu
   have h4:=ht t (by simp)
   have hr:=h4
   rw[←AD] at hr
   simp only[right,ai,decide_eq_true_eq] at hr
   exact um ts _ (fun x hx=>ht x (by simp[hx])) (vH t 4 l (by omega) hr.1 hr.2 hl) u hu
theorem qH{ts:List Term}(h:∀t∈ts,isTerm t=true):∀u∈lU ts,isTerm u=true:=by
 rw[iw h]
 exact um ts [] h (by simp)
theorem yO{ts:List Term}(h:∀t∈ts,isTerm t=true):∀t∈ts,t∈lU ts:=by
 rw[iw h]
 exact rN ts []
theorem GX{ab:List bp}{i:Nat}(h:i<ab.length):bc (ab.take (i+1))=bc (ab.take i)++(if ab[i].atom.kind=1∧ab[i].no=false then [⟨ab[i].atom.A,ab[i].atom.B⟩] else []):=by
 rw[pw h]
 simp only[bc,List.filterMap_append,List.filterMap_cons,List.filterMap_nil]
 split<;>simp_all
theorem IG(ab:List bp):(bc ab).length≤ab.length:=by
 unfold bc
 exact List.length_filterMap_le ..
theorem Gi{nums:List Term}:∀{ts:List Term}{ns cs:List Int}{i:Nat}(h:i<ts.length)(h':i<ns.length),jQ nums (ts.take (i+1)) (ns.take (i+1)) cs=mz (jQ nums (ts.take i) (ns.take i) cs) (bM nums ts[i]) ns[i]
 | [],_,_,_,h,_=>by simp at h
 | _::_,[],_,_,_,h=>by simp at h
 | t::ts,n::ns,cs,0,_,_=>by simp[jQ]
 | t::ts,n::ns,cs,i+1,h,h'=>by
   simp only[dH,jQ,jo]
   exact Gi (by simpa using h) (by simpa using h')
theorem IB{nums:List Term}:∀{ts:List Term}{ns cs:List Int},(jQ nums ts ns cs).length=cs.length
 | [],_,_=>by simp[jQ]
 | _::_,[],_=>by simp[jQ]
 | t::ts,n::ns,cs=>by simp only[jQ];rw[IB,xH]
theorem Cz:∀{cs:List Int}{i v m k:Int},(∀c∈cs,-m≤c∧c≤m) → -k≤v→v≤k→0≤k→∀c∈mz cs i v,-(m+k)≤c∧c≤m+k
 | [],i,v,m,k,_,_,_,_,c,hc=>by simp[mz] at hc
 | a::cs,i,v,m,k,h,h1,h2,h3,c,hc=>by
   have ha:=h a (by simp)
   simp only[mz] at hc
   split at hc
   ·rcases ay.1 hc with rfl|hc
    ·omega
    ·have:=h c (by simp[hc]);omega
   ·rcases ay.1 hc with rfl|hc
    ·omega
    ·exact Cz (fun x hx=>h x (by simp[hx])) h1 h2 h3 c hc
theorem CF{nums:List Term}:∀{ts:List Term}{ns cs:List Int}{m:Int},(∀c∈cs,-m≤c∧c≤m)→(∀n∈ns,-50≤n∧n≤50)→0≤m→∀c∈jQ nums ts ns cs,-(m+50*ts.length)≤c∧c≤m+50*ts.length
 | [],_,cs,m,h,_,_,c,hc=>by simp only[jQ] at hc;have:=h c hc;simp;omega
 | _::_,[],cs,m,h,_,_,c,hc=>by simp only[jQ] at hc;have:=h c hc;omega
 | t::ts,n::ns,cs,m,h,hn,hm,c,hc=>by
   simp only[jQ] at hc
   have h1:=hn n (by simp)
   have:=CF (m:=m+50) (Cz h h1.1 h1.2 (by omega)) (fun x hx=>hn x (by simp[hx])) (by omega) c hc
   simp only[a8]
   omega
theorem BF{cs:List Int}{i:Nat}{v:Int}(h:i<cs.length):(bG cs).set i [.val (.int .i64 v)]=bG (cs.set i v):=by
 simp[bG,List.map_set]
theorem CZ{nums:List Term}{ab:List bp}{i:Nat}(h:i<ab.length):dY nums (ab.take (i+1))=dY nums (ab.take i)++iW nums ab[i]:=by
 rw[pw h]
 simp only[dY,List.flatMap_append,ki,List.flatMap_nil,bF]
theorem Nb(nums:List Term)(l:bp):(iW nums l).length≤2:=by
 unfold iW
 split
 ·simp
 ·split<;>simp
theorem zD(nums:List Term):∀(ab:List bp),(dY nums ab).length≤2*ab.length
 | []=>by simp[dY]
 | l::ls=>by
   have h1:=Nb nums l
   have h2:=zD nums ls
   simp only[dY,ki,aX,a8] at h2⊢
   omega
structure Fit(nums:List Term)(l:bp):Prop where
 wf:cJ l.atom=true
 sum:l.atom.kind=2→∀t∈l.atom.nums,t∈nums
 eq:l.atom.kind=1→(l.atom.A∈nums↔l.atom.B∈nums)
theorem VI(a b:UInt8):(a<b∧¬b<a∧a≠b)∨(a=b∧¬a<b∧¬b<a)∨(b<a∧¬a<b∧a≠b):=by
 simp only[UInt8.lt_iff_toNat_lt,ne_eq,←UInt8.toNat_inj]
 omega
theorem D8:∀(a b:List UInt8),(!(Op.bytesLess a b||decide (a=b)))=Op.bytesLess b a
 | [],[]=>by simp[Op.bytesLess]
 | [],_::_=>by simp[Op.bytesLess]
 | _::_,[]=>by simp[Op.bytesLess]
 | a::x,b::y=>by
   have ih:=D8 x y
   rcases VI a b with⟨h1,h2,h3⟩|⟨rfl,h1,h2⟩|⟨h1,h2,h3⟩
   ·have h4:¬b=a:=fun h=>h3 h.symm
    simp[Op.bytesLess,h1,h2,h4]
   ·simp[Op.bytesLess,h1,←ih]
   ·have h4:¬b=a:=fun h=>h3 h.symm
    simp[Op.bytesLess,h1,h2,h3]
theorem tg:∀(a:List UInt8),Op.bytesLess a a=false
 | []=>rfl
 | a::x=>by simp[Op.bytesLess,tg x]
theorem uv:∀{a b c:List UInt8},Op.bytesLess a b=true→Op.bytesLess b c=true→Op.bytesLess a c=true
 | _,[],_,h,_=>by simp[Op.bytesLess] at h
 | _,_::_,[],_,h=>by simp[Op.bytesLess] at h
 | [],_::_,_::_,_,_=>by simp[Op.bytesLess]
 | a::x,b::y,c::z,h1,h2=>by
   simp only[Op.bytesLess,Bool.or_eq_true,decide_eq_true_eq,ai,beq_iff_eq] at h1 h2⊢
   rcases h1 with h1|⟨rfl,h1⟩
   ·rcases h2 with h2|⟨rfl,h2⟩
    ·left
     rw[UInt8.lt_iff_toNat_lt] at *
     omega
    ·exact .inl h1
   ·rcases h2 with h2|⟨rfl,h2⟩
    ·exact .inl h2
    ·exact .inr ⟨rfl,uv h1 h2⟩
theorem KF{a b:List UInt8}(h:Op.bytesLess a b=true):a≠b:=by
 rintro rfl
 rw[tg] at h
 cases h
theorem zd{a b:List UInt8}(h:a≠b)(h2:Op.bytesLess a b=false):Op.bytesLess b a=true:=by
 rw[←D8 a b,h2]
 simp[h]
theorem Jk:∀{ts:List Term}{ns:List Int}{q:Term},kY (some q) ts ns=true→ns.length=ts.length→∀t∈ts,gr (aN q) (aN t)=true
 | [],_,_,_,_=>by simp
 | _::_,[],_,_,hl=>by simp at hl
 | t::ts,n::ns,q,h,hl=>by
   rw[qq] at h
   simp only[ai] at h
   intro u hu
   rcases ay.1 hu with rfl|hu
   ·exact h.2.2.2.1
   ·exact uv h.2.2.2.1 (Jk h.2.2.2.2 (by simpa using hl) u hu)
theorem Bl:∀{ts:List Term}{ns:List Int}{p:Option Term},kY p ts ns=true→ns.length=ts.length→ts.Nodup
 | [],_,_,_,_=>by simp
 | _::_,[],_,_,hl=>by simp at hl
 | t::ts,n::ns,p,h,hl=>by
   rw[qq] at h
   simp only[ai] at h
   have hl:ns.length=ts.length:=by simpa using hl
   refine cE.2 ⟨fun hm=>?_,Bl h.2.2.2.2 hl⟩
   exact KF (Jk h.2.2.2.2 hl t hm) rfl
def abj(eqs:List iA)(oV n:Int)(t:Term)(kids:List iA):iA×Bool:=
 if oV≠2∧n≠0 then(Er,false) else
 if oV=1∧kids.length=0 then(⟨t,t⟩,isTerm t) else
 if oV=2∧kids.length=0∧isNone t=true∧0≤n∧n<eqs.length then(eqs.getD n.toNat Er,true) else
 if oV=3∧kids.length=1∧isNone t=true then(⟨(kids.getD 0 Er).B,(kids.getD 0 Er).A⟩,true) else
 if oV=4∧kids.length=2∧isNone t=true then(⟨(kids.getD 0 Er).A,(kids.getD 1 Er).B⟩,decide ((kids.getD 0 Er).B=(kids.getD 1 Er).A)) else
 if oV=5∧0<kids.length∧t.kids.length=0 then(⟨.mk t.name (kids.map (·.A)),.mk t.name (kids.map (·.B))⟩,isTerm (.mk t.name (kids.map (·.A)))&&isTerm (.mk t.name (kids.map (·.B)))) else
 (Er,false)
def Alike(x y:iA×Bool):Prop:=x.2=y.2∧(x.2=true→x.1=y.1)
theorem LG{n:nh}{ks:List Term}(h:isTerm (.mk n ks)=true):fD n=true:=by
 have:=iy h
 simp only[bL,ai] at this
 exact this.1
theorem Iy{nums:List Term}:∀{ts:List Term}{ns cs:List Int},(nX nums ts ns cs).length=cs.length
 | [],_,_=>by simp[nX]
 | _::_,[],_=>by simp[nX]
 | t::ts,n::ns,cs=>by simp only[nX];rw[Iy,List.length_set]
theorem zH{nums:List Term}:∀{ts:List Term}{ns cs:List Int}{i:Nat}(h:i<ts.length)(h':i<ns.length),nX nums (ts.take (i+1)) (ns.take (i+1)) cs=(nX nums (ts.take i) (ns.take i) cs).set (bM nums ts[i]).toNat ns[i]
 | [],_,_,_,h,_=>by simp at h
 | _::_,[],_,_,_,h=>by simp at h
 | t::ts,n::ns,cs,0,_,_=>by simp[nX]
 | t::ts,n::ns,cs,i+1,h,h'=>by
   simp only[dH,nX,jo]
   exact zH (by simpa using h) (by simpa using h')
theorem RS{nums ts:List Term}{ns:List Int}{b:Int}{st:Bool}(hn:kY none ts ns=true)(hl:ns.length=ts.length)(kC:∀t∈ts,t∈nums):lJ nums ts ns b st=⟨nX nums ts ns [0,0,0,0],b,st⟩:=by
 rw[lJ,Na (Bl hn hl) fun t ht=>⟨kC t ht,Va _⟩]
theorem OY(nums:List Term)(a b:Term):lJ nums [a,b] [-1,1] 0 false=lJ nums [b,a] [1,-1] 0 false:=by
 simp only[lJ,jQ]
 rw[Fi]
theorem Oe{nums:List Term}{a b:Term}(ha:a∈nums)(hb:b∈nums)(ta:isTerm a=true)(tb:isTerm b=true):Fit nums (gP a b):=by
 refine⟨?_,fun h=>?_,fun _=>?_⟩
 ·simp[cJ,gP,xo,ta,tb]
 ·simp[gP,xo] at h
 ·simp[gP,xo,ha,hb]
theorem Qv{a b:Term}(ta:isTerm a=true)(tb:isTerm b=true)(h:gr (aN a) (aN b)=true)(m n:Int)(hm:within m (-50) 50=true)(hn:within n (-50) 50=true)(hm0:m≠0)(hn0:n≠0):cJ ⟨2,aL,aL,[a,b],[m,n],0,true⟩=true:=by
 have h2:kY none [a,b] [m,n]=true:=by
  rw[qq,qq]
  have e:kY (some b) [] []=true:=rfl
  simp[ta,tb,hm,hn,hm0,hn0,h,e]
 have e:cJ ⟨2,aL,aL,[a,b],[m,n],0,true⟩=(isNone aL&&(isNone aL&&(within ([a,b].length:Int) 1 4&&(decide ([m,n].length=[a,b].length)&&(within 0 (-1000) 1000&&kY none [a,b] [m,n]))))):=rfl
 rw[e,h2]
 rfl
theorem E0{nums:List Term}{a b:Term}(ha:a∈nums)(hb:b∈nums)(ta:isTerm a=true)(tb:isTerm b=true)(ju:a≠b):Fit nums (dz a b):=by
 have ht:aN a≠aN b:=fun h=>ju (AB ta tb h)
 unfold dz
 cases h:gr (aN b) (aN a)
 ·have h2:gr (aN a) (aN b)=true:=zd (a:=aN b) (b:=aN a) (fun e=>ht e.symm) h
  refine⟨Qv ta tb h2 1 (-1) rfl rfl (by omega) (by omega),fun _ t hm=>?_,fun h=>?_⟩
  ·simp only[ax,if_false,ay,bn,or_false] at hm
   rcases hm with rfl|rfl
   ·exact ha
   ·exact hb
  ·simp at h
 ·refine⟨Qv tb ta h (-1) 1 rfl rfl (by omega) (by omega),fun _ t hm=>?_,fun h=>?_⟩
  ·simp only[if_true,ay,bn,or_false] at hm
   rcases hm with rfl|rfl
   ·exact hb
   ·exact ha
  ·simp at h
theorem xf{s:dG}{ab:List bp}(h:fa s ab=true):(∀l∈ab,Fit (numsOf s ab) l)∧(∀t∈numsOf s ab,isTerm t=true)∧(numsOf s ab).length≤4∧ab.length≤6∧fG s=true∧(∀l∈ab,cJ l.atom=true)∧(∀t∈aE ab,isTerm t=true)∧(aE ab).length≤24:=by
 simp only[fa,ai,decide_eq_true_eq,cd] at h
 obtain⟨⟨⟨⟨hs,h6⟩,hA⟩,h24⟩,h4⟩:=h
 have hw:∀l∈ab,cJ l.atom=true:=by
  intro l hl
  have:=hA l hl
  simp only[eZ,ai] at this
  exact this.2.1
 have eK:=(iP hw).2
 have htt:∀t∈aE ab,isTerm t=true:=by rw[jC];exact qH eK
 have kC:∀l∈ab,∀t∈b8 l.atom,t∈aE ab:=by
  intro l hl t ht
  rw[jC]
  exact yO eK t (List.mem_flatMap.2 ⟨l,hl,ht⟩)
 have hnum:∀t,t∈numsOf s ab↔t∈aE ab∧dk s t=true:=fun t=>List.mem_filter
 refine⟨fun l hl=>⟨hw l hl,fun k t ht=>?_,fun k=>?_⟩,fun t ht=>htt t ((hnum t).1 ht).1,h4,h6,hs,hw,htt,h24⟩
 ·have hk1:¬l.atom.kind=1:=by omega
  have ha:=hA l hl
  simp only[eZ,ai,hk1,if_false,cd] at ha
  have hm:t∈b8 l.atom:=by simp only[b8,hk1,if_false];exact ht
  exact(hnum t).2 ⟨kC l hl t hm,ha.2.2 t ht⟩
 ·have ha:=hA l hl
  simp only[eZ,ai,k,if_true,iI,decide_eq_true_eq] at ha
  have hm:l.atom.A∈aE ab∧l.atom.B∈aE ab:=by
   have:b8 l.atom=[l.atom.A,l.atom.B]:=by simp[b8,k]
   exact⟨kC l hl _ (by rw[this];simp),kC l hl _ (by rw[this];simp)⟩
  rw[hnum,hnum]
  simp only[hm.1,hm.2,true_and,dk,ha.2.2.2]
theorem n8{a:Rat}:bV a=true↔(-1000000000≤a.N∧a.N≤1000000000)∧(1≤a.D∧a.D≤1000000000)∧bK a.N a.D=1:=by
 simp only[bV,ai,dx,decide_eq_true_eq]
 constructor
 ·rintro⟨h1,h2,h3⟩;exact⟨h1,h2,by omega⟩
 ·rintro⟨h1,h2,h3⟩;exact⟨h1,h2,by omega⟩
theorem Xo{a b:Rat}(h1:a.N=b.N)(h2:a.D=b.D):a=b:=by cases a;cases b;simp_all
theorem BH{a b:Rat}(ha:bV a=true)(hb:bV b=true)(h:a.N*b.D=b.N*a.D):a=b:=by
 rw[n8] at ha hb
 obtain⟨_,⟨a1,_⟩,ag⟩:=ha
 obtain⟨_,⟨b1,_⟩,bg⟩:=hb
 have hn:a.N.natAbs*b.D.natAbs=b.N.natAbs*a.D.natAbs:=by rw[←Int.natAbs_mul,←Int.natAbs_mul,h]
 have ca:Nat.Coprime a.D.natAbs a.N.natAbs:=by rw[Nat.Coprime,Nat.gcd_comm];exact ag
 have cb:Nat.Coprime b.D.natAbs b.N.natAbs:=by rw[Nat.Coprime,Nat.gcd_comm];exact bg
 have d1:a.D.natAbs∣b.D.natAbs:=ca.dvd_of_dvd_mul_left ⟨b.N.natAbs,by rw[hn,Nat.mul_comm]⟩
 have d2:b.D.natAbs∣a.D.natAbs:=cb.dvd_of_dvd_mul_left ⟨a.N.natAbs,by rw[←hn,Nat.mul_comm]⟩
 have e:a.D.natAbs=b.D.natAbs:=Nat.dvd_antisymm d1 d2
 have eD:a.D=b.D:=by omega
 refine Xo ?_ eD
 rw[eD] at h
 exact Int.eq_of_mul_eq_mul_right (by omega) h
theorem fv{a b:Rat}(ha:bV a=true)(hb:bV b=true):cQ a b=true↔a.N*b.D<b.N*a.D:=by
 simp[cQ,ha,hb]
theorem CV{a b:Rat}(ha:bV a=true)(hb:bV b=true):oJ a b=0↔a=b:=by
 constructor
 ·intro h
  unfold oJ at h
  split at h
  ·omega
  ·rename_i h1
   split at h
   ·omega
   ·rename_i h2
    rw[fv ha hb] at h1
    rw[fv hb ha] at h2
    exact BH ha hb (by omega)
 ·rintro rfl
  have:cQ a a=false:=by
   cases h:cQ a a
   ·rfl
   ·rw[fv ha ha] at h;omega
  simp[oJ,this]
theorem Oi{a b:Rat}:oJ a b<0↔cQ a b=true:=by
 unfold oJ
 split
 ·rename_i h;simp[h]
 ·rename_i h
  split<;>simp_all
theorem Hh{a b c:Rat}(ha:bV a=true)(hb:bV b=true)(hc:bV c=true)(h1:cQ a b=true)(h2:cQ b c=true):cQ a c=true:=by
 rw[fv ha hb] at h1
 rw[fv hb hc] at h2
 rw[fv ha hc]
 rw[n8] at ha hb hc
 have e1:a.N*b.D*c.D<b.N*a.D*c.D:=Int.mul_lt_mul_of_pos_right h1 (by omega)
 have e2:b.N*c.D*a.D<c.N*b.D*a.D:=Int.mul_lt_mul_of_pos_right h2 (by omega)
 have e3:b.N*a.D*c.D=b.N*c.D*a.D:=by rw[nv,Int.mul_comm a.D,←nv]
 have e4:a.N*c.D*b.D<c.N*a.D*b.D:=by
  rw[nv,Int.mul_comm c.D,←nv,nv c.N,Int.mul_comm a.D,←nv]
  omega
 exact Int.lt_of_mul_lt_mul_right e4 (by omega)
def dD(as:List Rat):Bool:=as.all bV
theorem vf:∀{as bs:List Rat},dD as=true→dD bs=true→(gH as bs=0↔as=bs)
 | [],[],_,_=>by simp[gH]
 | [],b::bs,_,_=>by simp[gH]
 | a::as,[],_,_=>by simp[gH]
 | a::as,b::bs,ha,hb=>by
   simp only[dD,b7,ai] at ha hb
   have h:=CV ha.1 hb.1
   have h2:=vf (as:=as) (bs:=bs) ha.2 hb.2
   simp only[gH]
   split
   ·rename_i e;rw[h2,List.cons.injEq,h.1 e];simp
   ·rename_i e
    constructor
    ·intro e2;exact absurd e2 e
    ·intro e2;rw[List.cons.injEq] at e2;exact absurd (h.2 e2.1) e
def fZ:List Rat→List Rat→Bool
 | a::as,b::bs=>if a=b then fZ as bs else cQ a b
 | _,_=>false
def dt(a b:Row):Bool:=if a.name=b.name then(if a.args.length=b.args.length then fZ a.args b.args else decide (a.args.length<b.args.length)) else gr a.name b.name
theorem C5:∀{as bs:List Rat},dD as=true→dD bs=true→as.length=bs.length→(gH as bs<0↔fZ as bs=true)
 | [],[],_,_,_=>by simp[gH,fZ]
 | [],b::bs,_,_,h=>by simp at h
 | a::as,[],_,_,h=>by simp at h
 | a::as,b::bs,ha,hb,hl=>by
   simp only[dD,b7,ai] at ha hb
   have h:=CV ha.1 hb.1
   have h2:=C5 (as:=as) (bs:=bs) ha.2 hb.2 (by simpa using hl)
   simp only[gH,fZ]
   split
   ·rename_i e;rw[if_pos (h.1 e),h2]
   ·rename_i e;rw[if_neg (fun x=>e (h.2 x)),Oi]
theorem qu{a b:nh}:nH a b=0↔a=b:=by
 unfold nH
 constructor
 ·intro h
  split at h
  ·omega
  ·rename_i h1
   split at h
   ·omega
   ·rename_i h2
    rcases aa (a=b) with e|e
    ·exact e
    ·exact absurd (zd e (by simpa[gr] using h1)) h2
 ·rintro rfl
  simp[gr,tg]
theorem PX{a b:nh}:nH a b<0↔gr a b=true:=by
 unfold nH
 split
 ·rename_i h;simp[h]
 ·rename_i h
  split<;>simp_all
theorem vU{a b:Int}:om a b=0↔a=b:=by unfold om;split<;>(try split)<;>omega
theorem NY{a b:Int}:om a b<0↔a<b:=by unfold om;split<;>(try split)<;>omega
theorem ql{a b:Row}(ha:dD a.args=true)(hb:dD b.args=true):e9 a b=0↔a.name=b.name∧a.args=b.args:=by
 unfold e9
 constructor
 ·intro h
  split at h
  ·rename_i e;exact absurd h e
  ·rename_i e
   split at h
   ·rename_i e2;exact absurd h e2
   ·exact⟨qu.1 (oP.1 e),(vf ha hb).1 h⟩
 ·rintro⟨e,e2⟩
  have h1:nH a.name b.name=0:=qu.2 e
  have h2:om a.args.length b.args.length=0:=vU.2 (by rw[e2])
  have h3:gH a.args b.args=0:=(vf ha hb).2 e2
  simp[h1,h2,h3]
theorem lz{a b:Row}(ha:dD a.args=true)(hb:dD b.args=true):e9 a b<0↔dt a b=true:=by
 unfold e9 dt
 split
 ·rename_i e
  rw[if_neg (fun x=>e (qu.2 x)),PX]
 ·rename_i e
  rw[if_pos (qu.1 (oP.1 e))]
  split
  ·rename_i e2
   have:¬a.args.length=b.args.length:=fun x=>e2 (vU.2 (by rw[x]))
   rw[if_neg this,NY]
   simp
  ·rename_i e2
   have:=vU.1 (oP.1 e2)
   have h3:a.args.length=b.args.length:=by omega
   rw[if_pos h3,C5 ha hb h3]
theorem wo:∀{as bs cs:List Rat},dD as=true→dD bs=true→dD cs=true→fZ as bs=true→fZ bs cs=true→fZ as cs=true
 | [],_,_,_,_,_,h,_=>by simp[fZ] at h
 | _::_,[],_,_,_,_,h,_=>by simp[fZ] at h
 | _::_,_::_,[],_,_,_,_,h=>by simp[fZ] at h
 | a::as,b::bs,c::cs,ha,hb,hc,h1,h2=>by
   simp only[dD,b7,ai] at ha hb hc
   simp only[fZ] at h1 h2⊢
   split at h1
   ·rename_i e
    subst e
    split at h2
    ·rename_i e2
     rw[if_pos e2]
     exact wo ha.2 hb.2 hc.2 h1 h2
    ·rename_i e2
     rw[if_neg e2];exact h2
   ·rename_i e
    split at h2
    ·rename_i e2
     subst e2
     rw[if_neg e];exact h1
    ·have h3:=Hh ha.1 hb.1 hc.1 h1 h2
     have:¬a=c:=by
      rintro rfl
      rw[fv ha.1 ha.1] at h3;omega
     rw[if_neg this];exact h3
theorem qa{a b c:Row}(ha:dD a.args=true)(hb:dD b.args=true)(hc:dD c.args=true)(h1:dt a b=true)(h2:dt b c=true):dt a c=true:=by
 unfold dt at h1 h2⊢
 split at h1
 ·rename_i e
  rw[e]
  split at h2
  ·rename_i e2
   rw[if_pos e2]
   split at h1
   ·rename_i l1
    rw[l1]
    split at h2
    ·rename_i l2
     rw[if_pos l2]
     exact wo ha hb hc h1 h2
    ·rename_i l2
     rw[if_neg l2];exact h2
   ·rename_i l1
    simp only[decide_eq_true_eq] at h1
    split at h2
    ·rename_i l2
     rw[if_neg (by omega)];simp;omega
    ·simp only[decide_eq_true_eq] at h2
     rw[if_neg (by omega)];simp;omega
  ·rename_i e2
   rw[if_neg e2];exact h2
 ·rename_i e
  split at h2
  ·rename_i e2
   rw[←e2,if_neg e];exact h1
  ·have h3:gr a.name c.name=true:=uv h1 h2
   rw[if_neg (KF h3)];exact h3
theorem lx{r:Row}(h:kM r=true):dD r.args=true:=by
 simp only[kM,ai] at h
 exact h.2.2.2
def kf:Option Row→List Row→Bool
 | _,[]=>true
 | p,r::rs=>kM r&&((match p with|none=>true|some q=>dt q r)&&kf (some r) rs)
theorem BL:∀(rs:List Row)(p:Option Row),(∀q,p=some q→kM q=true)→vn p rs=kf p rs
 | [],_,_=>rfl
 | r::rs,p,hp=>by
   simp only[vn,kf]
   cases hr:kM r
   ·rfl
   ·rw[BL rs (some r) (fun q e=>by cases e;exact hr)]
    cases p with
    | none=>rfl
    | some q=>
      have h:=lz (lx (hp q rfl)) (lx hr)
      have:decide (e9 q r<0)=dt q r:=by
       cases hl:dt q r
       ·simp only[decide_eq_false_iff_not];rw[h,hl];simp
       ·simp only[decide_eq_true_eq];rw[h,hl]
      simp only[this]
theorem uC:∀{rs:List Row}{p:Option Row},kf p rs=true→∀r∈rs,kM r=true
 | [],_,_,r,hr=>by simp at hr
 | a::rs,p,h,r,hr=>by
   simp only[kf,ai] at h
   rcases ay.1 hr with rfl|hr
   ·exact h.1
   ·exact uC h.2.2 r hr
theorem yB:∀{rs:List Row}{q:Row},kM q=true→kf (some q) rs=true→∀r∈rs,dt q r=true
 | [],_,_,_,r,hr=>by simp at hr
 | a::rs,q,hq,h,r,hr=>by
   simp only[kf,ai] at h
   rcases ay.1 hr with rfl|hr
   ·exact h.2.1
   ·exact qa (lx hq) (lx h.1) (lx (uC h.2.2 r hr)) h.2.1 (yB h.1 h.2.2 r hr)
theorem yz:∀{rs:List Row}{p:Option Row},kf p rs=true→rs.Pairwise (fun a b=>dt a b=true)
 | [],_,_=>List.Pairwise.nil
 | a::rs,p,h=>by
   simp only[kf,ai] at h
   exact List.Pairwise.cons (fun r hr=>yB h.1 h.2.2 r hr) (yz h.2.2)
theorem mX{m:Model}(h:e6 m=true):m.rows.length≤40∧(∀r∈m.rows,kM r=true)∧m.rows.Pairwise (fun a b=>dt a b=true):=by
 simp only[e6,ai,decide_eq_true_eq] at h
 rw[BL _ none (by simp)] at h
 exact⟨h.1,uC h.2,yz h.2⟩
def cut:List Row→Row→Nat
 | [],_=>0
 | r::rs,t=>if e9 r t<0 then cut rs t+1 else 0
theorem Qb:∀(rs:List Row)(t:Row),cut rs t≤rs.length
 | [],_=>by simp[cut]
 | r::rs,t=>by
   have:=Qb rs t
   simp only[cut,a8]
   split<;>omega
def lq(rs:List Row)(t:Row):Prop:=rs.Pairwise (fun a b=>e9 b t<0→e9 a t<0)
theorem th:∀{rs:List Row}{t:Row},lq rs t→∀(k:Nat)(h:k<rs.length),k<cut rs t↔e9 rs[k] t<0
 | [],_,_,k,h=>by simp at h
 | r::rs,t,hm,k,h=>by
   obtain⟨h1,h2⟩:=nS.1 hm
   simp only[cut]
   cases k with
   | zero=>
     simp only[List.getElem_cons_zero]
     split<;>simp_all
   | succ k=>
     simp only[jo]
     have hk:k<rs.length:=by simpa using h
     have h3:=th (rs:=rs) (t:=t) h2 k hk
     split
     ·rw[←h3];omega
     ·rename_i hn
      constructor
      ·intro x;omega
      ·intro x;exact absurd (h1 _ (List.getElem_mem hk) x) hn
theorem YX{rs:List Row}{t:Row}(hm:lq rs t){i:Nat}(hi:i≤rs.length)(h1:∀(k:Nat)(h:k<rs.length),k<i→e9 rs[k] t<0)(h2:∀(k:Nat)(h:k<rs.length),i≤k→¬e9 rs[k] t<0):cut rs t=i:=by
 have h3:=Qb rs t
 rcases Nat.lt_trichotomy (cut rs t) i with h|h|h
 ·have h4:=(th hm (cut rs t) (by omega)).2 (h1 _ (by omega) h)
  omega
 ·exact h
 ·have h4:=(th hm i (by omega)).1 h
  exact absurd h4 (h2 i (by omega) (Nat.le_refl i))
theorem Ww{m:Model}{t:Row}(h:e6 m=true)(ht:dD t.args=true):lq m.rows t:=by
 obtain⟨_,h1,h2⟩:=mX h
 refine List.Pairwise.imp_of_mem ?_ h2
 intro a b ha hb hab hbt
 have wa:=lx (h1 a ha)
 have wb:=lx (h1 b hb)
 rw[lz wb ht] at hbt
 rw[lz wa ht]
 exact qa wa wb ht hab hbt
def found(rs:List Row)(t:Row):Bool:=match rs[cut rs t]? with|some r=>decide (e9 r t=0)|none=>false
theorem MM:∀{rs:List Row}{t:Row},(∀r∈rs,dD r.args=true)→dD t.args=true→rs.Pairwise (fun a b=>dt a b=true) →
 rs.find? (fun r=>decide (r.name=t.name∧r.args=t.args))=if found rs t then rs[cut rs t]? else none
 | [],_,_,_,_=>by simp[found]
 | r::rs,t,hr,ht,hp=>by
   obtain⟨h1,h2⟩:=nS.1 hp
   have ih:=MM (rs:=rs) (t:=t) (fun x hx=>hr x (bl _ hx)) ht h2
   have wr:=hr r (by simp)
   have hz:=ql wr ht
   rw[List.find?_cons]
   rcases aa (r.name=t.name∧r.args=t.args) with e|e
   ·have hc:=hz.2 e
    have hcut:cut (r::rs) t=0:=by simp[cut,hc]
    simp[e,found,hcut,hc]
   ·simp only[e,decide_false]
    rw[ih]
    rcases aa (e9 r t<0) with hn|hn
    ·have hc2:cut (r::rs) t=cut rs t+1:=by simp[cut,hn]
     have hf2:found (r::rs) t=found rs t:=by simp only[found,hc2,ld]
     rw[hf2,hc2,ld]
    ·have hcut:cut (r::rs) t=0:=by simp[cut,hn]
     have hf:found (r::rs) t=false:=by simp[found,hcut,hz,e]
     rw[hf]
     have:found rs t=false:=by
      unfold found
      split
      ·rename_i q hq
       have hq':q∈rs:=List.mem_of_getElem? hq
       simp only[decide_eq_false_iff_not]
       intro hc
       have hb:=(ql (hr q (bl _ hq')) ht).1 hc
       have hl:=h1 q hq'
       apply hn
       rw[lz wr ht]
       have:dt r q=dt r t:=by simp only[dt,hb.1,hb.2]
       rw[←this];exact hl
      ·rfl
     simp[this]
theorem PJ{m:Model}{t:Row}(h:e6 m=true)(ht:dD t.args=true):lookup m.rows t.name t.args=if found m.rows t then(m.rows.getD (cut m.rows t) t).val else⟨0,1⟩:=by
 obtain⟨_,h1,h2⟩:=mX h
 unfold lookup
 rw[MM (fun r hr=>lx (h1 r hr)) ht h2]
 cases hf:found m.rows t
 ·simp
 ·unfold found at hf
  cases hx:m.rows[cut m.rows t]? with
  | none=>simp[hx] at hf
  | some r=>simp[hx,cC]
theorem ZY:bV ⟨0,1⟩=true:=by decide
theorem Ss{m:Model}(h:e6 m=true)(n:nh)(as:List Rat):bV (lookup m.rows n as)=true:=by
 obtain⟨_,h1,_⟩:=mX h
 unfold lookup
 split
 ·rename_i r hr
  have:=h1 r (eX hr)
  simp only[kM,ai] at this
  exact this.2.2.1
 ·exact ZY
theorem FW(m:Model)(t:Term):value m t=lookup m.rows t.name (values m t.kids):=by cases t;rfl
theorem mL(m:Model):∀(ts:List Term),values m ts=ts.map (value m)
 | []=>rfl
 | t::ts=>by simp only[values,List.map_cons,mL m ts]
theorem ES{m:Model}(h:e6 m=true)(t:Term):bV (value m t)=true:=by rw[FW];exact Ss h _ _
theorem Im{m:Model}(h:e6 m=true)(ts:List Term):dD (values m ts)=true:=by
 rw[mL]
 simp only[dD,List.all_map,cd,Function.comp]
 intro t _
 exact ES h t
theorem GG(m:Model)(ts:List Term):(values m ts).length=ts.length:=by rw[mL];simp
theorem qy{n:Int}(h1:-1000000000≤n)(h2:n≤1000000000):bV (whole n)=true:=by
 rw[n8]
 exact⟨⟨h1,h2⟩,⟨Int.le_refl 1,by show(1:Int)≤1000000000;omega⟩,Int.gcd_one_right n⟩
theorem I4{n d:Int}(h:(ic n d).2=true):bV (ic n d).1=true:=by
 unfold ic at h⊢
 split
 ·rename_i h0;rw[if_pos h0] at h;cases h
 ·rename_i h0
  rw[if_neg h0] at h
  simp only at h⊢
  generalize (⟨_,_⟩:Rat)=x at h⊢
  cases hx:bV x
  ·simp[hx] at h
  ·simp[hx]
theorem IW{a b:Rat}(h:(cY a b).2=true):bV (cY a b).1=true:=by
 unfold cY at h⊢
 split
 ·rename_i h0;rw[if_pos h0] at h;exact I4 h
 ·rename_i h0;rw[if_neg h0] at h;cases h
theorem QX{a v:Rat}{c:Int}(h:(plus a c v).2=true):bV (plus a c v).1=true:=by
 unfold plus at h⊢
 split
 ·rename_i h0;rw[if_pos h0] at h;exact IW h
 ·rename_i h0;rw[if_neg h0] at h;cases h
theorem LR{a:Rat}{n:Int}(ha:bV a=true)(h1:-1000000000≤n)(h2:n≤1000000000)(st:Bool):below a n st=(cQ a (whole n)||(!st&&decide (a=whole n))):=by
 have hw:=qy h1 h2
 unfold below
 cases st
 ·simp only[ax,if_false,Bool.not_false,aM]
  rcases aa (a=whole n) with e|e
  ·subst e
   have:cQ (whole n) (whole n)=false:=by
    cases h:cQ (whole n) (whole n)
    ·rfl
    ·rw[fv hw hw] at h;omega
   simp[this]
  ·have ju:¬a.N*(whole n).D=(whole n).N*a.D:=fun h=>e (BH ha hw h)
   cases hl:cQ a (whole n)<;>cases hr:cQ (whole n) a<;>simp[e]
   ·have:¬ (a.N*(whole n).D<(whole n).N*a.D):=fun h=>by rw[(fv ha hw).2 h] at hl;cases hl
    have:¬ ((whole n).N*a.D<a.N*(whole n).D):=fun h=>by rw[(fv hw ha).2 h] at hr;cases hr
    omega
   ·rw[fv ha hw] at hl
    rw[fv hw ha] at hr
    omega
 ·simp
theorem MW{m:Model}:∀{ts:List Term}{ns:List Int}{sum r:Rat},bV sum=true→mg m ts ns sum=some r→bV r=true
 | [],_,sum,r,h,e=>by simp only[mg,Option.some.injEq] at e;rw[←e];exact h
 | _::_,[],sum,r,h,e=>by simp only[mg,Option.some.injEq] at e;rw[←e];exact h
 | t::ts,n::ns,sum,r,h,e=>by
   simp only[mg] at e
   split at e
   ·rename_i h1;exact MW (QX h1) e
   ·cases e
theorem N9{m:Model}{ts:List Term}{ns:List Int}{i:Nat}(h:i<ts.length)(h':i<ns.length)(sum:Rat) :
 mg m (ts.drop i) (ns.drop i) sum=if(plus sum ns[i] (value m ts[i])).2 then mg m (ts.drop (i+1)) (ns.drop (i+1)) (plus sum ns[i] (value m ts[i])).1 else none:=by
 rw[aj h,aj h'];rfl
theorem St{m:Model}{ts:List Term}{ns:List Int}{i:Nat}(h:ts.length≤i)(sum:Rat):mg m (ts.drop i) (ns.drop i) sum=some sum:=by
 rw[List.drop_of_length_le h];rfl
def at0:List Int→Int→Int
 | [],_=>0
 | x::xs,n=>if x=n then 1 else if x = -n then -1 else at0 xs n
def ri(n:Int):Int:=if n < -1000000000 then 1000000001 else if 1000000000<n then 1000000001 else if n<0 then -n else n
theorem sw{n:Int}:ri n≤1000000000 ↔ -1000000000≤n∧n≤1000000000:=by
 unfold ri;split
 ·omega
 ·split
  ·omega
  ·split<;>omega
theorem Xs(n:Int):0≤ri n:=by
 unfold ri;split
 ·omega
 ·split
  ·omega
  ·split<;>omega
theorem MH{n:Int}(h:-1000000000≤n∧n≤1000000000)(d:Int):bK (ri n) d=bK n d:=by
 have e:(ri n).natAbs=n.natAbs:=by
  unfold ri
  rw[if_neg (by omega),if_neg (by omega)]
  split<;>omega
 simp only[bK,e]
theorem Ko(n d:Int):bK (-n) d=bK n d:=by simp only[bK,Int.natAbs_neg]
theorem Nk{p q:Int}(hp:0≤p)(hq:0<q):0≤p.tmod q∧p.tmod q<q∧bK q (p.tmod q)=bK p q:=by
 have e:p.tmod q=((p.natAbs % q.natAbs:Nat):Int):=by
  rw[Int.tmod_eq_emod_of_nonneg hp]
  have h1:(p.natAbs:Int)=p:=by omega
  have h2:(q.natAbs:Int)=q:=by omega
  rw[Int.natCast_emod,h1,h2]
 have mr:p.natAbs % q.natAbs<q.natAbs:=Nat.mod_lt _ (by omega)
 refine⟨by omega,by omega,?_⟩
 rw[e]
 simp only[bK,Int.natAbs_natCast]
 rw[Nat.gcd_comm p.natAbs,Nat.gcd_rec q.natAbs p.natAbs,Nat.gcd_comm]
theorem gcd_zero{p:Int}(hp:0≤p):((bK p 0:Nat):Int)=p:=by
 simp only[bK,Int.natAbs_zero,Nat.gcd_zero_right]
 omega
theorem JN{n d:Int}(h:0<d):0<(bK n d:Int):=by
 have:0<bK n d:=Int.gcd_pos_of_ne_zero_right n (by omega)
 omega
theorem o8{n g k:Int}(hg:0<g)(h:-k≤n∧n≤k):-k≤n.tdiv g∧n.tdiv g≤k:=by
 have e:(n.tdiv g).natAbs=n.natAbs / g.natAbs:=Int.natAbs_tdiv n g
 have h2:n.natAbs / g.natAbs≤n.natAbs:=Nat.div_le_self _ _
 omega
theorem prod_bound{m b k l:Int}(h1:-k≤m∧m≤k)(h2:-l≤b∧b≤l):-(k*l)≤m*b∧m*b≤k*l:=by
 have e:(m*b).natAbs=m.natAbs*b.natAbs:=Int.natAbs_mul m b
 have h3:m.natAbs*b.natAbs≤k.natAbs*l.natAbs:=Nat.mul_le_mul (by omega) (by omega)
 have h4:(k*l).natAbs=k.natAbs*l.natAbs:=Int.natAbs_mul k l
 have h5:0≤k*l:=Int.mul_nonneg (by omega) (by omega)
 omega
theorem rJ{m b:Int}(h1:-1000000000≤m∧m≤1000000000)(h2:-1000000000≤b∧b≤1000000000):-1000000000000000000≤m*b∧m*b≤1000000000000000000:=by
 have:=prod_bound h1 h2
 omega
theorem Qx{m b:Int}(h1:1≤m∧m≤1000000000)(h2:1≤b∧b≤1000000000):1≤m*b∧m*b≤1000000000000000000:=by
 have:=rJ (m:=m) (b:=b) (by omega) (by omega)
 have:=Int.mul_pos (a:=m) (b:=b) (by omega) (by omega)
 omega
theorem zj{n d:Int}(hd:1≤d):ic n d=if bV ⟨n.tdiv (bK n d),d.tdiv (bK n d)⟩ then(⟨n.tdiv (bK n d),d.tdiv (bK n d)⟩,true) else(jD,false):=by
 unfold ic
 rw[if_neg (by omega)]
 simp only[if_neg (show ¬d<0 by omega)]
theorem pF(x y:Rat):oi x.N x.D y.N y.D=decide (x=y):=by
 cases x;cases y;simp only[oi,Rat.mk.injEq,Bool.decide_and];rfl
theorem Aq{m:Model}{ts:List Term}{i:Nat}(h:i<ts.length):br (values m (ts.take i))++[eO (value m ts[i])]=br (values m (ts.take (i+1))):=by
 have e:ts.take (i+1)=ts.take i++[ts[i]]:=by rw[bC,ah h];rfl
 rw[mL,mL,e,List.map_append,←sW]
 rfl
end Go.Mod
