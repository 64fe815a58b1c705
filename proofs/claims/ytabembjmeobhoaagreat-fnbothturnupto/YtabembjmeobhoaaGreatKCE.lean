/-
  The data of the program as plain Lean types, and how they lie in memory, cell by cell. No program is walked here.
-/
import Derived.Test.YtabembjmeobhoaaGreatKCD
set_option linter.unusedVariables false
set_option linter.unusedSimpArgs false
open Bool renaming and_eq_true→ai,false_eq_true→aw,true_and→aE
open Classical renaming em→aa,not_not→o4
open Int renaming gcd→bM,mul_assoc→nK
open List renaming getElem?_eq_getElem→af,drop_eq_getElem_cons→ah,mem_cons→ax,mem_append→aP,length_append→aR,length_cons→aW,not_mem_nil→ba,mem_cons_of_mem→bh,append_assoc→bj,append_nil→bm,take_add_one→bq,cons_append→bA,mem_map→bF,all_cons→b8,all_eq_true→cg,getD→ct,nodup_cons→cJ,length_nil→dE,take_succ_cons→dY,mem_of_find?_eq_some→ff,flatMap_cons→jj,getElem_cons_succ→jy,getElem?_cons_succ→lr,pairwise_cons→n8
open Nat renaming mul_le_mul_right→bQ,add_mul→cY,pow_le_pow_right→fL,add_assoc→iP,one_le_two_pow→jT
namespace Go.Mod
open Go.Eng
abbrev nE:=List UInt8
def bI(ns:List Int):List (List D):=ns.map fun n=>[.val (.int .i64 n)]
def Zw(ns:List Bool):List (List D):=ns.map fun n=>[.val (.bool n)]
def mw(ns:List nE):List (List D):=ns.map fun n=>[.str n]
def L9(ns:List (List Int)):List (List D):=ns.map fun n=>[.dC (bI n)]
theorem JA(ns:List Int):(bI ns).length=ns.length:=by simp[bI]
theorem Dr{ns:List Int}{i:Nat}(h:i<ns.length):row (bI ns) i=[.val (.int .i64 ns[i])]:=by simp[bI,row,ct,af h]
theorem pW(ns:List Int):∀y∈bI ns,y.length=1:=by
 intro y hy
 rw[show bI ns=ns.map _ from rfl] at hy
 obtain⟨t,_,rfl⟩:=bF.1 hy
 rfl
theorem eQ(ns ms:List Int):bI ns++bI ms=bI (ns++ms):=by simp[bI]
theorem uV:bI []=[]:=rfl
theorem jR(n:Int)(ns:List Int):bI (n::ns)=[.val (.int .i64 n)]::bI ns:=rfl
theorem Tv(ns:List Bool):∀y∈Zw ns,y.length=1:=by
 intro y hy
 rw[show Zw ns=ns.map _ from rfl] at hy
 obtain⟨t,_,rfl⟩:=bF.1 hy
 rfl
theorem Kd(ns:List nE):(mw ns).length=ns.length:=by simp[mw]
theorem Kj{ns:List nE}{i:Nat}(h:i<ns.length):row (mw ns) i=[.str ns[i]]:=by simp[mw,row,ct,af h]
theorem TR(ns ms:List nE):mw ns++mw ms=mw (ns++ms):=by simp[mw]
theorem T9:mw []=[]:=rfl
theorem Pz(ns:List (List Int)):∀y∈L9 ns,y.length=1:=by
 intro y hy
 rw[show L9 ns=ns.map _ from rfl] at hy
 obtain⟨t,_,rfl⟩:=bF.1 hy
 rfl
inductive Term where
 | mk(name:nE)(kids:List Term)
def Term.name:Term→nE
 | .mk x _=>x
def Term.kids:Term→List Term
 | .mk _ x=>x
theorem Term.ind{P:Term→Prop}(h:∀name kids,(∀k∈kids,P k)→P (.mk name kids)):∀t,P t:=by
 intro t
 refine Term.rec (motive_1:=P) (motive_2:=fun ks=>∀k∈ks,P k) (fun name kids ih=>h name kids ih) (by simp) (fun t ts h1 h2=>?_) t
 intro k hk
 rcases ax.1 hk with rfl|hk
 ·exact h1
 ·exact h2 k hk
mutual
def abK:Term→List D
 | .mk name kids=>[.str name,.dC (aN kids)]
def aN:List Term→List (List D)
 | []=>[]
 | t::ts=>abK t::aN ts
end
def cT(t:Term):List D:=[.str t.name,.dC (aN t.kids)]
theorem Zi(t:Term):abK t=cT t:=by cases t;rfl
theorem lf:∀(ts:List Term),aN ts=ts.map cT
 | []=>rfl
 | t::ts=>by simp[aN,Zi,lf ts]
theorem rF(ns:List Term):(aN ns).length=ns.length:=by simp[lf]
theorem C7{ns:List Term}{i:Nat}(h:i<ns.length):row (aN ns) i=cT ns[i]:=by simp[lf,row,ct,af h]
theorem T1(ns:List Term):∀y∈aN ns,y.length=2:=by
 intro y hy
 rw[show aN ns=ns.map _ from lf ns] at hy
 obtain⟨t,_,rfl⟩:=bF.1 hy
 rfl
theorem Q1(ns:List Term)(i:Nat):(aN ns).take i=aN (ns.take i):=by simp[lf]
theorem lg(ns ms:List Term):aN ns++aN ms=aN (ns++ms):=by simp[lf]
theorem fZ:aN []=[]:=rfl
theorem dJ(n:Term)(ns:List Term):aN (n::ns)=cT n::aN ns:=by simp[lf]
theorem pg{ns:List Term}{i:Nat}(h:i<ns.length):aN (ns.take i)++[cT ns[i]]=aN (ns.take (i+1)):=by
 have e:ns.take (i+1)=ns.take i++[ns[i]]:=by rw[bq,af h];rfl
 rw[e,←lg,dJ,fZ]
mutual
def UH:Term→Term→Bool
 | .mk name1 kids1,.mk name2 kids2=>decide (name1=name2)&&AO kids1 kids2
def AO:List Term→List Term→Bool
 | [],[]=>true
 | x::xs,y::ys=>UH x y&&AO xs ys
 | _,_=>false
end
mutual
theorem JM:∀(a b:Term),UH a b=true↔a=b
 | .mk name1 kids1,.mk name2 kids2=>by simp[UH,Hm]
theorem Hm:∀(a b:List Term),AO a b=true↔a=b
 | [],[]=>by simp[AO]
 | [],_::_=>by simp[AO]
 | _::_,[]=>by simp[AO]
 | x::xs,y::ys=>by simp[AO,JM x y,Hm xs ys]
end
instance:DecidableEq Term:=fun a b=>decidable_of_iff _ (JM a b)
structure Sym where
 name:nE
 args:List Int
 sort:Int
 deriving DecidableEq
def wH(t:Sym):List D:=[.str t.name,.dC (bI t.args),.val (.int .i64 t.sort)]
def eF(l:List Sym):List (List D):=l.map wH
theorem Oc(ns:List Sym):(eF ns).length=ns.length:=by simp[eF]
theorem D6{ns:List Sym}{i:Nat}(h:i<ns.length):row (eF ns) i=wH ns[i]:=by simp[eF,row,ct,af h]
theorem tF(ns ms:List Sym):eF ns++eF ms=eF (ns++ms):=by simp[eF]
structure dI where
 syms:List Sym
 deriving DecidableEq
def eu(t:dI):List D:=[.dC (eF t.syms)]
structure Atom where
 kind:Int
 A:Term
 B:Term
 nums:List Term
 times:List Int
 bound:Int
 strict:Bool
 deriving DecidableEq
def fW(t:Atom):List D:=[.val (.int .i64 t.kind),.str t.A.name,.dC (aN t.A.kids),.str t.B.name,.dC (aN t.B.kids),.dC (aN t.nums),.dC (bI t.times),.val (.int .i64 t.bound),.val (.bool t.strict)]
def MV(l:List Atom):List (List D):=l.map fW
theorem Mg(ns:List Atom):∀y∈MV ns,y.length=9:=by
 intro y hy
 rw[show MV ns=ns.map _ from rfl] at hy
 obtain⟨t,_,rfl⟩:=bF.1 hy
 rfl
structure bl where
 atom:Atom
 no:Bool
 deriving DecidableEq
def nI(t:bl):List D:=[.val (.int .i64 t.atom.kind),.str t.atom.A.name,.dC (aN t.atom.A.kids),.str t.atom.B.name,.dC (aN t.atom.B.kids),.dC (aN t.atom.nums),.dC (bI t.atom.times),.val (.int .i64 t.atom.bound),.val (.bool t.atom.strict),.val (.bool t.no)]
def aV(l:List bl):List (List D):=l.map nI
theorem Du(ns:List bl):(aV ns).length=ns.length:=by simp[aV]
theorem Ni{ns:List bl}{i:Nat}(h:i<ns.length):row (aV ns) i=nI ns[i]:=by simp[aV,row,ct,af h]
theorem DX(ns:List bl):∀y∈aV ns,y.length=10:=by
 intro y hy
 rw[show aV ns=ns.map _ from rfl] at hy
 obtain⟨t,_,rfl⟩:=bF.1 hy
 rfl
theorem DH(ns ms:List bl):aV ns++aV ms=aV (ns++ms):=by simp[aV]
theorem s9:aV []=[]:=rfl
theorem ni(n:bl)(ns:List bl):aV (n::ns)=nI n::aV ns:=rfl
inductive ju where
 | mk(iX:Int)(n:Int)(t:Term)(kids:List ju)
def ju.iX:ju→Int
 | .mk x _ _ _=>x
def ju.n:ju→Int
 | .mk _ x _ _=>x
def ju.t:ju→Term
 | .mk _ _ x _=>x
def ju.kids:ju→List ju
 | .mk _ _ _ x=>x
theorem ju.ind{P:ju→Prop}(h:∀iX n t kids,(∀k∈kids,P k)→P (.mk iX n t kids)):∀t,P t:=by
 intro t
 refine ju.rec (motive_1:=P) (motive_2:=fun ks=>∀k∈ks,P k) (fun iX n t kids ih=>h iX n t kids ih) (by simp) (fun t ts h1 h2=>?_) t
 intro k hk
 rcases ax.1 hk with rfl|hk
 ·exact h1
 ·exact h2 k hk
mutual
def Wm:ju→List D
 | .mk iX n t kids=>[.val (.int .i64 iX),.val (.int .i64 n),.str t.name,.dC (aN t.kids),.dC (eL kids)]
def eL:List ju→List (List D)
 | []=>[]
 | t::ts=>Wm t::eL ts
end
def gR(t:ju):List D:=[.val (.int .i64 t.iX),.val (.int .i64 t.n),.str t.t.name,.dC (aN t.t.kids),.dC (eL t.kids)]
theorem SV(t:ju):Wm t=gR t:=by cases t;rfl
theorem qD:∀(ts:List ju),eL ts=ts.map gR
 | []=>rfl
 | t::ts=>by simp[eL,SV,qD ts]
theorem NB(ns:List ju):(eL ns).length=ns.length:=by simp[qD]
theorem Nz{ns:List ju}{i:Nat}(h:i<ns.length):row (eL ns) i=gR ns[i]:=by simp[qD,row,ct,af h]
theorem DC(ns ms:List ju):eL ns++eL ms=eL (ns++ms):=by simp[qD]
theorem lz:eL []=[]:=rfl
theorem j9(n:ju)(ns:List ju):eL (n::ns)=gR n::eL ns:=by simp[qD]
mutual
def Mj:ju→ju→Bool
 | .mk rule1 n1 t1 kids1,.mk rule2 n2 t2 kids2=>decide (rule1=rule2)&&decide (n1=n2)&&decide (t1=t2)&&sx kids1 kids2
def sx:List ju→List ju→Bool
 | [],[]=>true
 | x::xs,y::ys=>Mj x y&&sx xs ys
 | _,_=>false
end
mutual
theorem D1:∀(a b:ju),Mj a b=true↔a=b
 | .mk rule1 n1 t1 kids1,.mk rule2 n2 t2 kids2=>by simp[Mj,BJ,and_assoc]
theorem BJ:∀(a b:List ju),sx a b=true↔a=b
 | [],[]=>by simp[sx]
 | [],_::_=>by simp[sx]
 | _::_,[]=>by simp[sx]
 | x::xs,y::ys=>by simp[sx,D1 x y,BJ xs ys]
end
instance:DecidableEq ju:=fun a b=>decidable_of_iff _ (D1 a b)
inductive Case where
 | mk(kind:Int)(n:Int)(sP:ju)(times:List Int)(A:Term)(B:Term)(kids:List Case)
def Case.kind:Case→Int
 | .mk x _ _ _ _ _ _=>x
def Case.n:Case→Int
 | .mk _ x _ _ _ _ _=>x
def Case.sP:Case→ju
 | .mk _ _ x _ _ _ _=>x
def Case.times:Case→List Int
 | .mk _ _ _ x _ _ _=>x
def Case.A:Case→Term
 | .mk _ _ _ _ x _ _=>x
def Case.B:Case→Term
 | .mk _ _ _ _ _ x _=>x
def Case.kids:Case→List Case
 | .mk _ _ _ _ _ _ x=>x
theorem Case.ind{P:Case→Prop}(h:∀kind n sP times A B kids,(∀k∈kids,P k)→P (.mk kind n sP times A B kids)):∀t,P t:=by
 intro t
 refine Case.rec (motive_1:=P) (motive_2:=fun ks=>∀k∈ks,P k) (fun kind n sP times A B kids ih=>h kind n sP times A B kids ih) (by simp) (fun t ts h1 h2=>?_) t
 intro k hk
 rcases ax.1 hk with rfl|hk
 ·exact h1
 ·exact h2 k hk
mutual
def RK:Case→List D
 | .mk kind n sP times A B kids=>[.val (.int .i64 kind),.val (.int .i64 n),.val (.int .i64 sP.iX),.val (.int .i64 sP.n),.str sP.t.name,.dC (aN sP.t.kids),.dC (eL sP.kids),.dC (bI times),.str A.name,.dC (aN A.kids),.str B.name,.dC (aN B.kids),.dC (im kids)]
def im:List Case→List (List D)
 | []=>[]
 | t::ts=>RK t::im ts
end
def jJ(t:Case):List D:=[.val (.int .i64 t.kind),.val (.int .i64 t.n),.val (.int .i64 t.sP.iX),.val (.int .i64 t.sP.n),.str t.sP.t.name,.dC (aN t.sP.t.kids),.dC (eL t.sP.kids),.dC (bI t.times),.str t.A.name,.dC (aN t.A.kids),.str t.B.name,.dC (aN t.B.kids),.dC (im t.kids)]
theorem QC(t:Case):RK t=jJ t:=by cases t;rfl
theorem oP:∀(ts:List Case),im ts=ts.map jJ
 | []=>rfl
 | t::ts=>by simp[im,QC,oP ts]
theorem Mx(ns:List Case):(im ns).length=ns.length:=by simp[oP]
theorem K8{ns:List Case}{i:Nat}(h:i<ns.length):row (im ns) i=jJ ns[i]:=by simp[oP,row,ct,af h]
theorem Cp(ns ms:List Case):im ns++im ms=im (ns++ms):=by simp[oP]
theorem oI:im []=[]:=rfl
theorem p8(n:Case)(ns:List Case):im (n::ns)=jJ n::im ns:=by simp[oP]
mutual
def Gw:Case→Case→Bool
 | .mk kind1 n1 why1 times1 A1 B1 kids1,.mk kind2 n2 why2 times2 A2 B2 kids2=>decide (kind1=kind2)&&decide (n1=n2)&&decide (why1=why2)&&decide (times1=times2)&&decide (A1=A2)&&decide (B1=B2)&&pz kids1 kids2
def pz:List Case→List Case→Bool
 | [],[]=>true
 | x::xs,y::ys=>Gw x y&&pz xs ys
 | _,_=>false
end
mutual
theorem Cc:∀(a b:Case),Gw a b=true↔a=b
 | .mk kind1 n1 why1 times1 A1 B1 kids1,.mk kind2 n2 why2 times2 A2 B2 kids2=>by simp[Gw,zA,and_assoc]
theorem zA:∀(a b:List Case),pz a b=true↔a=b
 | [],[]=>by simp[pz]
 | [],_::_=>by simp[pz]
 | _::_,[]=>by simp[pz]
 | x::xs,y::ys=>by simp[pz,Cc x y,zA xs ys]
end
instance:DecidableEq Case:=fun a b=>decidable_of_iff _ (Cc a b)
inductive Form where
 | mk(kind:Int)(lit:bl)(kids:List Form)
def Form.kind:Form→Int
 | .mk x _ _=>x
def Form.lit:Form→bl
 | .mk _ x _=>x
def Form.kids:Form→List Form
 | .mk _ _ x=>x
theorem Form.ind{P:Form→Prop}(h:∀kind lit kids,(∀k∈kids,P k)→P (.mk kind lit kids)):∀t,P t:=by
 intro t
 refine Form.rec (motive_1:=P) (motive_2:=fun ks=>∀k∈ks,P k) (fun kind lit kids ih=>h kind lit kids ih) (by simp) (fun t ts h1 h2=>?_) t
 intro k hk
 rcases ax.1 hk with rfl|hk
 ·exact h1
 ·exact h2 k hk
mutual
def RH:Form→List D
 | .mk kind lit kids=>[.val (.int .i64 kind),.val (.int .i64 lit.atom.kind),.str lit.atom.A.name,.dC (aN lit.atom.A.kids),.str lit.atom.B.name,.dC (aN lit.atom.B.kids),.dC (aN lit.atom.nums),.dC (bI lit.atom.times),.val (.int .i64 lit.atom.bound),.val (.bool lit.atom.strict),.val (.bool lit.no),.dC (qu kids)]
def qu:List Form→List (List D)
 | []=>[]
 | t::ts=>RH t::qu ts
end
def Xp(t:Form):List D:=[.val (.int .i64 t.kind),.val (.int .i64 t.lit.atom.kind),.str t.lit.atom.A.name,.dC (aN t.lit.atom.A.kids),.str t.lit.atom.B.name,.dC (aN t.lit.atom.B.kids),.dC (aN t.lit.atom.nums),.dC (bI t.lit.atom.times),.val (.int .i64 t.lit.atom.bound),.val (.bool t.lit.atom.strict),.val (.bool t.lit.no),.dC (qu t.kids)]
theorem Qh(t:Form):RH t=Xp t:=by cases t;rfl
theorem Cj:∀(ts:List Form),qu ts=ts.map Xp
 | []=>rfl
 | t::ts=>by simp[qu,Qh,Cj ts]
theorem Mm(ns:List Form):∀y∈qu ns,y.length=12:=by
 intro y hy
 rw[show qu ns=ns.map _ from Cj ns] at hy
 obtain⟨t,_,rfl⟩:=bF.1 hy
 rfl
mutual
def FG:Form→Form→Bool
 | .mk kind1 lit1 kids1,.mk kind2 lit2 kids2=>decide (kind1=kind2)&&decide (lit1=lit2)&&pQ kids1 kids2
def pQ:List Form→List Form→Bool
 | [],[]=>true
 | x::xs,y::ys=>FG x y&&pQ xs ys
 | _,_=>false
end
mutual
theorem A4:∀(a b:Form),FG a b=true↔a=b
 | .mk kind1 lit1 kids1,.mk kind2 lit2 kids2=>by simp[FG,zG,and_assoc]
theorem zG:∀(a b:List Form),pQ a b=true↔a=b
 | [],[]=>by simp[pQ]
 | [],_::_=>by simp[pQ]
 | _::_,[]=>by simp[pQ]
 | x::xs,y::ys=>by simp[pQ,A4 x y,zG xs ys]
end
instance:DecidableEq Form:=fun a b=>decidable_of_iff _ (A4 a b)
def ZX(ns:List (List Form)):List (List D):=ns.map fun n=>[.dC (qu n)]
structure Rat where
 N:Int
 D:Int
 deriving DecidableEq
def eY(t:Rat):List D:=[.val (.int .i64 t.N),.val (.int .i64 t.D)]
def br(l:List Rat):List (List D):=l.map eY
theorem xz(ns:List Rat):(br ns).length=ns.length:=by simp[br]
theorem yh{ns:List Rat}{i:Nat}(h:i<ns.length):row (br ns) i=eY ns[i]:=by simp[br,row,ct,af h]
theorem N5(ns:List Rat):∀y∈br ns,y.length=2:=by
 intro y hy
 rw[show br ns=ns.map _ from rfl] at hy
 obtain⟨t,_,rfl⟩:=bF.1 hy
 rfl
theorem tl(ns ms:List Rat):br ns++br ms=br (ns++ms):=by simp[br]
theorem tD:br []=[]:=rfl
theorem vp(n:Rat)(ns:List Rat):br (n::ns)=eY n::br ns:=rfl
structure Row where
 name:nE
 args:List Rat
 val:Rat
 deriving DecidableEq
def qo(t:Row):List D:=[.str t.name,.dC (br t.args),.val (.int .i64 t.val.N),.val (.int .i64 t.val.D)]
def bU(l:List Row):List (List D):=l.map qo
theorem Ns(ns:List Row):(bU ns).length=ns.length:=by simp[bU]
theorem Nt{ns:List Row}{i:Nat}(h:i<ns.length):row (bU ns) i=qo ns[i]:=by simp[bU,row,ct,af h]
theorem xd(ns:List Row):∀y∈bU ns,y.length=4:=by
 intro y hy
 rw[show bU ns=ns.map _ from rfl] at hy
 obtain⟨t,_,rfl⟩:=bF.1 hy
 rfl
theorem MP:bU []=[]:=rfl
structure Model where
 rows:List Row
 deriving DecidableEq
def eZ(t:Model):List D:=[.dC (bU t.rows)]
structure ir where
 aG:List Int
 bound:Int
 strict:Bool
 deriving DecidableEq
def eS(t:ir):List D:=[.dC (bI t.aG),.val (.int .i64 t.bound),.val (.bool t.strict)]
def dm(l:List ir):List (List D):=l.map eS
theorem Nk(ns:List ir):(dm ns).length=ns.length:=by simp[dm]
theorem OJ{ns:List ir}{i:Nat}(h:i<ns.length):row (dm ns) i=eS ns[i]:=by simp[dm,row,ct,af h]
theorem OE(ns:List ir):∀y∈dm ns,y.length=3:=by
 intro y hy
 rw[show dm ns=ns.map _ from rfl] at hy
 obtain⟨t,_,rfl⟩:=bF.1 hy
 rfl
theorem mX(ns ms:List ir):dm ns++dm ms=dm (ns++ms):=by simp[dm]
theorem ly:dm []=[]:=rfl
theorem iO(n:ir)(ns:List ir):dm (n::ns)=eS n::dm ns:=rfl
structure fF where
 A:Term
 B:Term
 deriving DecidableEq
def Cy(t:fF):List D:=[.str t.A.name,.dC (aN t.A.kids),.str t.B.name,.dC (aN t.B.kids)]
def cS(l:List fF):List (List D):=l.map Cy
theorem Re(ns:List fF):(cS ns).length=ns.length:=by simp[cS]
theorem P2{ns:List fF}{i:Nat}(h:i<ns.length):row (cS ns) i=Cy ns[i]:=by simp[cS,row,ct,af h]
theorem QZ(ns:List fF):∀y∈cS ns,y.length=4:=by
 intro y hy
 rw[show cS ns=ns.map _ from rfl] at hy
 obtain⟨t,_,rfl⟩:=bF.1 hy
 rfl
theorem lK(ns ms:List fF):cS ns++cS ms=cS (ns++ms):=by simp[cS]
theorem jL:cS []=[]:=rfl
theorem jA(n:fF)(ns:List fF):cS (n::ns)=Cy n::cS ns:=rfl
structure Step where
 A:Int
 B:Int
 given:Int
 deriving DecidableEq
def R1(t:Step):List D:=[.val (.int .i64 t.A),.val (.int .i64 t.B),.val (.int .i64 t.given)]
def aZ(l:List Step):List (List D):=l.map R1
theorem Mh(ns:List Step):(aZ ns).length=ns.length:=by simp[aZ]
theorem Ms{ns:List Step}{i:Nat}(h:i<ns.length):row (aZ ns) i=R1 ns[i]:=by simp[aZ,row,ct,af h]
theorem My(ns:List Step):∀y∈aZ ns,y.length=3:=by
 intro y hy
 rw[show aZ ns=ns.map _ from rfl] at hy
 obtain⟨t,_,rfl⟩:=bF.1 hy
 rfl
theorem vm(ns ms:List Step):aZ ns++aZ ms=aZ (ns++ms):=by simp[aZ]
theorem ru:aZ []=[]:=rfl
theorem tL(n:Step)(ns:List Step):aZ (n::ns)=R1 n::aZ ns:=rfl
structure Cnf where
 many:Int
 list:List (List Int)
 deriving DecidableEq
def acj(t:Cnf):List D:=[.val (.int .i64 t.many),.dC (L9 t.list)]
structure Sz where
 marks:List Int
 case:Case
 deriving DecidableEq
def Uo(t:Sz):List D:=[.dC (bI t.marks),.val (.int .i64 t.case.kind),.val (.int .i64 t.case.n),.val (.int .i64 t.case.sP.iX),.val (.int .i64 t.case.sP.n),.str t.case.sP.t.name,.dC (aN t.case.sP.t.kids),.dC (eL t.case.sP.kids),.dC (bI t.case.times),.str t.case.A.name,.dC (aN t.case.A.kids),.str t.case.B.name,.dC (aN t.case.B.kids),.dC (im t.case.kids)]
def Tb(l:List Sz):List (List D):=l.map Uo
structure abv where
 lemmas:List Sz
 log:List (List Int)
 deriving DecidableEq
def aaR(t:abv):List D:=[.dC (Tb t.lemmas),.dC (L9 t.log)]
structure Stack where
 sig:dI
 levels:List (List Form)
 deriving DecidableEq
def ZN(t:Stack):List D:=[.dC (eF t.sig.syms),.dC (ZX t.levels)]
def av(cs:List D):PV:=.agg (cF cs)
theorem abu(cs:List D):(av cs).lt 0=true:=by simp only[av,PV.lt];exact U2 0 cs
attribute [go_sem] JA Kd rF Oc Du NB Mx xz Ns Nk Re Mh
attribute [go_sem] Dr Kj C7 D6 Ni Nz K8 yh Nt OJ P2 Ms
attribute [go_sem] uV T9 fZ s9 lz oI tD MP ly jL ru
attribute [go_sem] av cT wH eu fW nI gR jJ Xp eY qo eZ eS Cy R1 acj Uo aaR ZN Int.toNat_natCast
end Go.Mod
namespace Go.Eng
open Go.Mod
theorem sA{p q:Prop}(k:q)(h:p=q:=by simp -implicitDefEqProofs only[go_sem];exact rfl):p:=h▸k
theorem sB{p q:Prop}(k:q)(h:p=q:=by simp -implicitDefEqProofs only[go_sem,Int.reduceEq,Int.reduceLT,Int.reduceLE,Int.reduceToNat];exact rfl):p:=h▸k
theorem sC{p:Prop}(h:p:=by simp -implicitDefEqProofs only[go_sem]):p:=h
theorem sD{p:Prop}(h:p:=by simp -implicitDefEqProofs only[go_sem,Int.reduceEq,Int.reduceLT,Int.reduceLE,Int.reduceToNat]):p:=h
theorem iK{os:List Oper}{L:List Ky}{p:Prop}(hp:p)(h:Mt os L=true:=by kernel_rfl):indep os L=true∧p:=⟨CW h,hp⟩
theorem aC{m:Option (List Ky)}{gs:Option Nat}{d:Nat}{ty:TypeId}{pos:String}{eU:Array Edge}{gd:Option (Nat×Bool)}{E:Env}{g:G}{rest:qT→Option (List Ky)→G→Prop}{nx:Operand}{xs:List Operand}{tys:Array TypeId}{f:FuncId}(cap:List PV){cX:List PV}{res:PV}{q:Prop}
 (hC:C E.P f cX [] (bD res [])) (k:q) (h:g.ev nx= .fn f cap∧GQ (TC g xs++cap) cX∧tM 0 cX=true∧res.lt 0=true:=by simp -implicitDefEqProofs only[go_sem])
 (hr:rest .on (mK m (ot (uO gs ⟨dj nx++CS xs,[]⟩) ⟨some (d,res),[]⟩)) (g.app ⟨some (d,res),[]⟩)=q:=by simp -implicitDefEqProofs only[go_sem];exact rfl):sU E m gs ⟨some d,.call ⟨.value nx,⟨xs⟩,tys⟩,ty,pos,eU,gd⟩ g rest:=
 bp cap hC h (hr▸k)
theorem aD{m:Option (List Ky)}{gs:Option Nat}{d:Nat}{ty:TypeId}{pos:String}{eU:Array Edge}{gd:Option (Nat×Bool)}{E:Env}{g:G}{rest:qT→Option (List Ky)→G→Prop}{nx:Operand}{xs:List Operand}{tys:Array TypeId}{f:FuncId}(cap:List PV){cX:List PV}{res:PV}{q:Prop}
 (hC:C E.P f cX [] (bD res [])) (k:q) (h:g.ev nx= .fn f cap∧GQ (TC g xs++cap) cX∧tM 0 cX=true∧res.lt 0=true:=by simp -implicitDefEqProofs only[go_sem,Int.reduceEq,Int.reduceLT,Int.reduceLE,Int.reduceToNat])
 (hr:rest .on (mK m (ot (uO gs ⟨dj nx++CS xs,[]⟩) ⟨some (d,res),[]⟩)) (g.app ⟨some (d,res),[]⟩)=q:=by simp -implicitDefEqProofs only[go_sem,Int.reduceEq,Int.reduceLT,Int.reduceLE,Int.reduceToNat];exact rfl):sU E m gs ⟨some d,.call ⟨.value nx,⟨xs⟩,tys⟩,ty,pos,eU,gd⟩ g rest:=
 bp cap hC h (hr▸k)
theorem oC{m:Option (List Ky)}{gs:Option Nat}{d:Nat}{ty:TypeId}{pos:String}{eU:Array Edge}{gd:Option (Nat×Bool)}{E:Env}{g:G}{rest:qT→Option (List Ky)→G→Prop}{nx:Operand}{xs:List Operand}{tys:Array TypeId}{f:FuncId}(cap:List PV)(M:List Nat){cX:List PV}{e9 st':List (Option En)}{res:PV}{q:Prop}
 (hC:C E.P f cX e9 (bD res st')) (k:q) (h:g.ev nx= .fn f cap∧GQ (TC g xs++cap) (qV M cX)∧tM (l6 e9) cX=true∧NW M=true∧yl (l6 e9) (Hc M)=true∧yl (l6 e9) (l6 st')=true∧yl (l6 st') (Hc M)=true∧oj g M (l6 e9) M e9∧iV g (l6 e9) M:=by simp -implicitDefEqProofs only[go_sem])
 (hr:rest .on (mK m (ot (uO gs ⟨dj nx++CS xs,M⟩) ⟨some (d,res.mo M),kT M M st'⟩)) (g.app ⟨some (d,res.mo M),kT M M st'⟩)=q:=by simp -implicitDefEqProofs only[go_sem];exact rfl):sU E m gs ⟨some d,.call ⟨.value nx,⟨xs⟩,tys⟩,ty,pos,eU,gd⟩ g rest:=
 gE cap M hC h (hr▸k)
theorem oD{m:Option (List Ky)}{gs:Option Nat}{d:Nat}{ty:TypeId}{pos:String}{eU:Array Edge}{gd:Option (Nat×Bool)}{E:Env}{g:G}{rest:qT→Option (List Ky)→G→Prop}{nx:Operand}{xs:List Operand}{tys:Array TypeId}{f:FuncId}(cap:List PV)(M:List Nat){cX:List PV}{e9 st':List (Option En)}{res:PV}{q:Prop}
 (hC:C E.P f cX e9 (bD res st')) (k:q) (h:g.ev nx= .fn f cap∧GQ (TC g xs++cap) (qV M cX)∧tM (l6 e9) cX=true∧NW M=true∧yl (l6 e9) (Hc M)=true∧yl (l6 e9) (l6 st')=true∧yl (l6 st') (Hc M)=true∧oj g M (l6 e9) M e9∧iV g (l6 e9) M:=by simp -implicitDefEqProofs only[go_sem,Int.reduceEq,Int.reduceLT,Int.reduceLE,Int.reduceToNat])
 (hr:rest .on (mK m (ot (uO gs ⟨dj nx++CS xs,M⟩) ⟨some (d,res.mo M),kT M M st'⟩)) (g.app ⟨some (d,res.mo M),kT M M st'⟩)=q:=by simp -implicitDefEqProofs only[go_sem,Int.reduceEq,Int.reduceLT,Int.reduceLE,Int.reduceToNat];exact rfl):sU E m gs ⟨some d,.call ⟨.value nx,⟨xs⟩,tys⟩,ty,pos,eU,gd⟩ g rest:=
 gE cap M hC h (hr▸k)
theorem gS{E:Env}(hm:E.P.follows .mixedOrders=true){f:FuncId}{fn:Func}{c:Code}{args:List PV}{e9:List (Option En)}{R:PV→List (Option En)→Prop}{nt:Nat}{rs:List ResultVar}{L q:Prop}(hf:E.P.funcs[f]?=some fn)(k:L→Cr e9→LB=1099511627776→q)
 (hb : fn.body = some c := by rfl) (hname : (fn.name == "runtime.NumGoroutine") = false := by rfl) (hnt : fn.ntmps = nt := by rfl) (hrs : fn.results.toList = rs := by rfl) (hn : yl (wY args) nt = true := by rfl)
 (e1:qP args=L:=by simp -implicitDefEqProofs only[go_sem];exact rfl) (e2:ML E (l6 e9) c .on ⟨dH nt .undef (UQ 0 args),e9⟩ (fun _=>Pe (Aw E rs (l6 e9) R))=q:=by simp -implicitDefEqProofs only[go_sem];exact rfl):C E.P f args e9 R:=
 lU hm hf hb hname hnt hrs hn fun h1 h2=>e2▸k (e1▸h1) h2 rfl
theorem gT{E:Env}(hm:E.P.follows .mixedOrders=true){f:FuncId}{fn:Func}{c:Code}{args:List PV}{e9:List (Option En)}{R:PV→List (Option En)→Prop}{nt:Nat}{rs:List ResultVar}{L q:Prop}(hf:E.P.funcs[f]?=some fn)(k:L→Cr e9→LB=1099511627776→q)
 (hb : fn.body = some c := by rfl) (hname : (fn.name == "runtime.NumGoroutine") = false := by rfl) (hnt : fn.ntmps = nt := by rfl) (hrs : fn.results.toList = rs := by rfl) (hn : yl (wY args) nt = true := by rfl)
 (e1:qP args=L:=by simp -implicitDefEqProofs only[go_sem,Int.reduceEq,Int.reduceLT,Int.reduceLE,Int.reduceToNat];exact rfl) (e2:ML E (l6 e9) c .on ⟨dH nt .undef (UQ 0 args),e9⟩ (fun _=>Pe (Aw E rs (l6 e9) R))=q:=by simp -implicitDefEqProofs only[go_sem,Int.reduceEq,Int.reduceLT,Int.reduceLE,Int.reduceToNat];exact rfl):C E.P f args e9 R:=
 lU hm hf hb hname hnt hrs hn fun h1 h2=>e2▸k (e1▸h1) h2 rfl
theorem sO{p:Prop}(h:p:=by first|(with_reducible exact CW (by kernel_rfl))|omega|assumption|exact⟨T1 _,by omega⟩|exact⟨pW _,by omega⟩|exact⟨DX _,by omega⟩|exact⟨OE _,by omega⟩|exact⟨QZ _,by omega⟩|rfl|(simp[*];done)|(simp;omega)|exact⟨N5 _,by omega⟩|exact⟨Mg _,by omega⟩|exact⟨Tv _,by omega⟩|exact⟨Mm _,by omega⟩|exact⟨Pz _,by omega⟩):p:=h
theorem sV{p:Prop}(h:p:=by(simp -implicitDefEqProofs only[go_sem,Int.reduceEq,Int.reduceLT,Int.reduceLE,Int.reduceToNat];repeat'(first|exact iR.nil|apply iR.cons|exact Vw.same (by first|rfl|simp -implicitDefEqProofs only[go_sem,Int.reduceEq,Int.reduceLT,Int.reduceLE,Int.reduceToNat])|exact Vw.acc rfl rfl|exact Vw.fw rfl rfl (by simp -implicitDefEqProofs only[go_sem,Int.reduceEq,Int.reduceLT,Int.reduceLE,Int.reduceToNat])|exact Vw.nil|apply Vw.agg|apply Vw.fn|refine Vw.box rfl rfl ?_))):p:=h
structure Hd(q:Prop):Prop where k:q
theorem sQ{p q:Prop}(k:q)(h:Hd q→p:=by intro k;(repeat(with_reducible apply And.intro;exact sO));exact k.k):p:=h ⟨k⟩
theorem sI{p q:Prop}(k:q)(h:Hd q→p:=by intro k;(try with_reducible refine iK ?_);exact k.k):p:=h ⟨k⟩
theorem sJ{p q:Prop}(k:q)(h:Hd q→p:=by intro k;(try with_reducible refine iK ?_);(repeat(with_reducible apply And.intro;exact sO));exact k.k):p:=h ⟨k⟩
theorem sL{p:Prop}(h:p:=by show _ < _;omega):p:=h
theorem sK{p q:Prop}(k:q)(h:Hd q→p:=by intro k;(repeat(first|with_reducible refine GL (by kernel_rfl) ?_|(with_reducible apply And.intro;exact sO)));exact k.k):p:=h ⟨k⟩
theorem sW{p q:Prop}(k:q)(h:Hd q→p:=by intro k;(try with_reducible refine GL (by kernel_rfl) ?_);exact k.k):p:=h ⟨k⟩
theorem sM{p:Prop}(h:p:=by first|(simp[aI, *];done)|(simp[aI];done)|(simp;omega)):p:=h
theorem uA{p q:Prop}(k:q)(h:p=q:=by simp -implicitDefEqProofs only[go_sem,h1];exact rfl):p:=h▸k
theorem uB{p q:Prop}(k:q)(h:p=q:=by simp -implicitDefEqProofs only[go_sem,h2];exact rfl):p:=h▸k
theorem uC{p q:Prop}(k:q)(h:p=q:=by simp -implicitDefEqProofs only[go_sem,h3];exact rfl):p:=h▸k
theorem uD{p q:Prop}(k:q)(h:p=q:=by simp -implicitDefEqProofs only[go_sem,h4];exact rfl):p:=h▸k
theorem uE{p q:Prop}(k:q)(h:p=q:=by simp -implicitDefEqProofs only[go_sem,h5];exact rfl):p:=h▸k
theorem uF{p q:Prop}(k:q)(h:p=q:=by simp -implicitDefEqProofs only[go_sem,h];exact rfl):p:=h▸k
theorem uG{p q:Prop}(k:q)(h:p=q:=by simp -implicitDefEqProofs only[go_sem,k];exact rfl):p:=h▸k
theorem uH{p q:Prop}(k:q)(h:p=q:=by simp -implicitDefEqProofs only[go_sem,k0];exact rfl):p:=h▸k
theorem uI{p q:Prop}(k:q)(h:p=q:=by simp -implicitDefEqProofs only[go_sem,g1];exact rfl):p:=h▸k
theorem uJ{p q:Prop}(k:q)(h:p=q:=by simp -implicitDefEqProofs only[go_sem,h1,h2];exact rfl):p:=h▸k
theorem uK{p q:Prop}(k:q)(h:p=q:=by simp -implicitDefEqProofs only[go_sem,Option.isSome_none,Option.getD_none];exact rfl):p:=h▸k
theorem uL{p q:Prop}(k:q)(h:p=q:=by simp -implicitDefEqProofs only[go_sem,Option.isSome_some,Option.getD_some];exact rfl):p:=h▸k
theorem yA{p q:Prop}(k:q)(h:p=q:=by simp -implicitDefEqProofs only[go_sem,Int.reduceEq,Int.reduceLT,Int.reduceLE,Int.reduceToNat,h1];exact rfl):p:=h▸k
theorem yB{p q:Prop}(k:q)(h:p=q:=by simp -implicitDefEqProofs only[go_sem,Int.reduceEq,Int.reduceLT,Int.reduceLE,Int.reduceToNat,h2];exact rfl):p:=h▸k
theorem yC{p q:Prop}(k:q)(h:p=q:=by simp -implicitDefEqProofs only[go_sem,Int.reduceEq,Int.reduceLT,Int.reduceLE,Int.reduceToNat,h3];exact rfl):p:=h▸k
theorem yD{p q:Prop}(k:q)(h:p=q:=by simp -implicitDefEqProofs only[go_sem,Int.reduceEq,Int.reduceLT,Int.reduceLE,Int.reduceToNat,h4];exact rfl):p:=h▸k
theorem yE{p q:Prop}(k:q)(h:p=q:=by simp -implicitDefEqProofs only[go_sem,Int.reduceEq,Int.reduceLT,Int.reduceLE,Int.reduceToNat,h5];exact rfl):p:=h▸k
theorem yF{p q:Prop}(k:q)(h:p=q:=by simp -implicitDefEqProofs only[go_sem,Int.reduceEq,Int.reduceLT,Int.reduceLE,Int.reduceToNat,h];exact rfl):p:=h▸k
theorem yG{p q:Prop}(k:q)(h:p=q:=by simp -implicitDefEqProofs only[go_sem,Int.reduceEq,Int.reduceLT,Int.reduceLE,Int.reduceToNat,k];exact rfl):p:=h▸k
theorem yH{p q:Prop}(k:q)(h:p=q:=by simp -implicitDefEqProofs only[go_sem,Int.reduceEq,Int.reduceLT,Int.reduceLE,Int.reduceToNat,k0];exact rfl):p:=h▸k
theorem yI{p q:Prop}(k:q)(h:p=q:=by simp -implicitDefEqProofs only[go_sem,Int.reduceEq,Int.reduceLT,Int.reduceLE,Int.reduceToNat,g1];exact rfl):p:=h▸k
theorem yJ{p q:Prop}(k:q)(h:p=q:=by simp -implicitDefEqProofs only[go_sem,Int.reduceEq,Int.reduceLT,Int.reduceLE,Int.reduceToNat,h1,h2];exact rfl):p:=h▸k
end Go.Eng
namespace Go.Mod
open Go.Eng
def within(n lo hi:Int):Bool:=decide (lo≤n)&&decide (n≤hi)
theorem dk{n lo hi:Int}:within n lo hi=true↔lo≤n∧n≤hi:=by simp[within]
def gi{α:Type}(p:α→Bool):List α→Int→Int
 | [],_=>-1
 | x::xs,i=>if p x then i else gi p xs (i+1)
def idxOf{α:Type}(p:α→Bool)(xs:List α):Int:=gi p xs 0
def bW(a:Rat):Bool:=within a.N (-1000000000) 1000000000&&(within a.D 1 1000000000&&decide ((bM a.N a.D:Int)=1))
def jO:Rat:=⟨0,0⟩
def iw(n d:Int):Rat×Bool:=
 if d=0 then(jO,false) else
 let n1:=if d<0 then -n else n
 let d1:=if d<0 then -d else d
 let a:Rat:=⟨n1.tdiv (bM n1 d1),d1.tdiv (bM n1 d1)⟩
 if bW a then(a,true) else(jO,false)
def lA(n d:Int):Rat×Bool:=if within n (-1000000000) 1000000000&&within d (-1000000000) 1000000000 then iw n d else(jO,false)
def df(a b:Rat):Rat×Bool:=if bW a&&bW b then iw (a.N*b.D+b.N*a.D) (a.D*b.D) else(jO,false)
def cE(a b:Rat):Rat×Bool:=if bW a&&bW b then iw (a.N*b.N) (a.D*b.D) else(jO,false)
def c8(a b:Rat):Bool:=bW a&&(bW b&&decide (a.N*b.D<b.N*a.D))
def ra(a b:Rat):Rat×Bool:=if(df a b).2 then cE (df a b).1 ⟨1,2⟩ else(jO,false)
def nv(n:Int):Bool:=within n (-1000000) 1000000
def dU(l:ir):Bool:=l.aG.all nv&&(decide (l.aG.length=4)&&nv l.bound)
def mO:ir:=⟨[],0,false⟩
def pS(l:ir):ir:=if dU l then⟨l.aG.map fun c=>-c,-l.bound,!l.strict⟩ else mO
def comb(m n:Int):List Int→List Int→List Int
 | a::as,b::bs=>(m*a+n*b)::comb m n as bs
 | _,_=>[]
def jw(a:ir)(m:Int)(b:ir)(n:Int):ir:=⟨comb m n a.aG b.aG,m*a.bound+n*b.bound,(decide (0<m)&&a.strict)||(decide (0<n)&&b.strict)⟩
def jv(a:ir)(m:Int)(b:ir)(n:Int):ir×Bool:=if dU (jw a m b n) then(jw a m b n,true) else(mO,false)
def ez(a:ir)(m:Int)(b:ir)(n:Int):ir×Bool:=if dU a&&dU b&&within m 0 1000000&&within n 0 1000000 then jv a m b n else(mO,false)
def flat(l:ir):Bool:=l.aG.all fun c=>decide (c=0)
def jN(l:ir):Bool:=dU l&&(flat l&&(decide (l.bound<0)||(decide (l.bound=0)&&l.strict)))
def whole(n:Int):Rat:=⟨n,1⟩
def plus(sum:Rat)(c:Int)(val:Rat):Rat×Bool:=if(cE (whole c) val).2 then df sum (cE (whole c) val).1 else(jO,false)
def fS(list:List ir):Bool:=decide (list.length≤20)&&list.all dU
def o8:List ir→List Int→ir→ir×Bool
 | l::ls,t::ts,out=>if(ez out 1 l t).2 then o8 ls ts (ez out 1 l t).1 else(mO,false)
 | _,_,out=>(out,true)
def jS(list:List ir)(times:List Int):ir×Bool:=if fS list&&decide (times.length=list.length) then o8 list times ⟨[0,0,0,0],0,false⟩ else(mO,false)
def qm(list:List ir)(times:List Int):Bool:=(jS list times).2&&jN (jS list times).1
def iY(c:UInt8):Bool:=decide ((97:Int)≤(c.toNat:Int))&&decide ((c.toNat:Int)≤122)
def fI(s:nE):Bool:=within s.length 1 2&&s.all iY
def isSort(n:Int):Bool:=decide (n=0)||decide (n=1)
def oo(x:Sym):Bool:=fI x.name&&(decide (x.args.length≤2)&&(isSort x.sort&&x.args.all isSort))
def gC(a b:nE):Bool:=Op.bytesLess a b
def qW:Option nE→List Sym→Bool
 | _,[]=>true
 | p,x::xs=>oo x&&((match p with|none=>true|some q=>gC q x.name)&&qW (some x.name) xs)
def fO(s:dI):Bool:=qW none s.syms&&decide (s.syms.length≤7)
def symbol(s:dI)(name:nE):Option Sym:=s.syms.find? fun x=>decide (x.name=name)
def sX:Sym:=⟨[],[],0⟩
mutual
def kW:Term→Nat→Nat
 | .mk n ks,bt=>if fI n&&decide (ks.length≤2)&&decide (bt≤4) then 1+fB ks (bt+1) else 13
def fB:List Term→Nat→Nat
 | [],_=>0
 | t::ts,bt=>kW t bt+fB ts bt
end
def isTerm(t:Term):Bool:=decide (kW t 1≤12)
mutual
def bN:Term→Nat→Bool
 | _,0=>false
 | .mk n ks,d+1=>fI n&&(decide (ks.length≤2)&&cL ks d)
def cL:List Term→Nat→Bool
 | [],_=>true
 | t::ts,d=>bN t d&&cL ts d
end
mutual
def many:Term→Nat→Nat
 | _,0=>1
 | .mk _ ks,d+1=>1+lS ks d
def lS:List Term→Nat→Nat
 | [],_=>0
 | t::ts,d=>many t d+lS ts d
end
mutual
def fT(s:dI):Term→Option Int
 | .mk n ks=>match symbol s n with
   | none=>none
   | some x=>if decide (x.args.length=ks.length)&&gJ s ks x.args then some x.sort else none
def gJ(s:dI):List Term→List Int→Bool
 | k::ks,a::as=>decide (fT s k=some a)&&gJ s ks as
 | _,_=>true
end
def fy(s:dI)(t:Term):Option Int:=if fO s&&isTerm t then fT s t else none
def j6:List nE→nE
 | []=>[]
 | [t]=>t
 | t::ts=>t++(44::j6 ts)
mutual
def aO:Term→nE
 | .mk n []=>n
 | .mk n (k::ks)=>n++(40::(j6 (aO k::fY ks)++[41]))
def fY:List Term→List nE
 | []=>[]
 | t::ts=>aO t::fY ts
end
def bL(list:List Term)(t:Term):Int:=idxOf (fun u=>decide (t=u)) list
mutual
def dh(list:List Term):Term→List Term
 | .mk n ks=>let l:=a6 list ks;if bL l (.mk n ks)<0 then l++[.mk n ks] else l
def a6(list:List Term):List Term→List Term
 | []=>list
 | t::ts=>a6 (dh list t) ts
end
def mu:List Term→List Term→List Term
 | [],out=>out
 | t::ts,out=>if isTerm t then mu ts (dh out t) else []
def je(list:List Term):List Term:=mu list []
def qI(eqs:List fF):List Term:=eqs.flatMap fun e=>[e.A,e.B]
def gG(s:dI)(e:fF):Bool:=(fy s e.A).isSome&&decide (fy s e.A=fy s e.B)
def nk(s:dI)(eqs:List fF):Bool:=fO s&&decide (eqs.length≤12)&&eqs.all (gG s)&&decide ((je (qI eqs)).length≤24)
def aL:Term:=.mk [] []
def isNone(t:Term):Bool:=decide (t.name=[])&&decide (t.kids=[])
def u5:fF:=⟨aL,aL⟩
def sY:ju:=.mk 0 0 aL []
def bH(eqs:List fF)(iX n:Int)(t:Term)(kids:List fF):fF×Bool:=
 if(iX≠2∧n≠0)∨(iX≠1∧iX≠5∧isNone t=false) then(u5,false) else
 if iX=1 then(⟨t,t⟩,decide (kids.length=0)&&isTerm t) else
 if iX=2 then(if 0<kids.length∨within n 0 (eqs.length-1)=false then(u5,false) else(eqs.getD n.toNat u5,true)) else
 if iX=3 then(if kids.length=1 then(⟨(kids.getD 0 u5).B,(kids.getD 0 u5).A⟩,true) else(u5,false)) else
 if iX=4 then(if kids.length=2∧(kids.getD 0 u5).B=(kids.getD 1 u5).A then(⟨(kids.getD 0 u5).A,(kids.getD 1 u5).B⟩,true) else(u5,false)) else
 if iX=5 then(if kids.length=0∨fI t.name=false∨0<t.kids.length then(u5,false) else
  (⟨.mk t.name (kids.map (·.A)),.mk t.name (kids.map (·.B))⟩,isTerm (.mk t.name (kids.map (·.A)))&&isTerm (.mk t.name (kids.map (·.B))))) else
 (u5,false)
mutual
def bR(f:Int→Int→Term→List fF→fF×Bool):ju→Nat→fF×Bool
 | _,0=>(u5,false)
 | .mk r n t ks,d+1=>match cO f ks d with
   | none=>(u5,false)
   | some kids=>f r n t kids
def cO(f:Int→Int→Term→List fF→fF×Bool):List ju→Nat→Option (List fF)
 | [],_=>some []
 | w::ws,d=>if(bR f w d).2 then(cO f ws d).map fun es=>(bR f w d).1::es else none
end
def ko(s:dI)(eqs:List fF)(w:ju):Option fF:=
 if nk s eqs&&((bR (bH eqs) w 400).2&&nk s [(bR (bH eqs) w 400).1]) then some (bR (bH eqs) w 400).1 else none
def k9:Option Term→List Term→List Int→Bool
 | p,t::ts,n::ns=>isTerm t&&(within n (-50) 50&&(decide (n≠0)&&((match p with|none=>true|some q=>gC (aO q) (aO t))&&k9 (some t) ts ns)))
 | _,_,_=>true
def cP(a:Atom):Bool:=
 if a.kind=1 then isTerm a.A&&(isTerm a.B&&(decide (a.nums.length=0)&&(decide (a.times.length=0)&&(decide (a.bound=0)&& !a.strict)))) else
 if a.kind=2 then isNone a.A&&(isNone a.B&&(within a.nums.length 1 4&&(decide (a.times.length=a.nums.length)&&(within a.bound (-1000) 1000&&k9 none a.nums a.times)))) else false
def dx(s:dI)(t:Term):Bool:=decide (fy s t=some 1)
def fk(s:dI)(a:Atom):Bool:=fO s&&(cP a&&(if a.kind=1 then gG s ⟨a.A,a.B⟩ else a.nums.all (dx s)))
def cd(a:Atom):List Term:=if a.kind=1 then [a.A,a.B] else a.nums
def az(ab:List bl):List Term:=je (ab.flatMap fun l=>cd l.atom)
def numsOf(s:dI)(ab:List bl):List Term:=(az ab).filter (dx s)
def e6(s:dI)(ab:List bl):Bool:=fO s&&decide (ab.length≤6)&&ab.all (fun l=>fk s l.atom)&&decide ((az ab).length≤24)&&decide ((numsOf s ab).length≤4)
def a7(ab:List bl):List fF:=ab.filterMap fun l=>if l.atom.kind=1∧l.no=false then some ⟨l.atom.A,l.atom.B⟩ else none
def mR:List Int→Int→Int→List Int
 | [],_,_=>[]
 | c::cs,i,v=>if i=0 then(c+v)::cs else c::mR cs (i-1) v
def jY(nums:List Term):List Term→List Int→List Int→List Int
 | t::ts,n::ns,cs=>jY nums ts ns (mR cs (bL nums t) n)
 | _,_,cs=>cs
def lW(nums list:List Term)(times:List Int)(bound:Int)(strict:Bool):ir:=⟨jY nums list times [0,0,0,0],bound,strict⟩
def jf(nums:List Term)(l:bl):List ir:=
 if l.atom.kind=2 then [if l.no then pS (lW nums l.atom.nums l.atom.times l.atom.bound l.atom.strict) else lW nums l.atom.nums l.atom.times l.atom.bound l.atom.strict]
 else if l.no=false∧0≤bL nums l.atom.A then [lW nums [l.atom.A,l.atom.B] [1,-1] 0 false,lW nums [l.atom.A,l.atom.B] [-1,1] 0 false] else []
def dX(nums:List Term)(ab:List bl):List ir:=ab.flatMap (jf nums)
def xj(a b:Term):Atom:=⟨1,a,b,[],[],0,false⟩
def gx(a b:Term):bl:=⟨xj a b,false⟩
def dL(a b:Term):bl:=if gC (aO b) (aO a) then⟨⟨2,aL,aL,[b,a],[-1,1],0,true⟩,false⟩ else⟨⟨2,aL,aL,[a,b],[1,-1],0,true⟩,false⟩
def fm(a b:Term):List bl:=[gx a b,dL a b,dL b a]
def differ(nums:List Term)(a b:Term):Bool:=decide (0≤bL nums a)&&(decide (0≤bL nums b)&&decide (bL nums a≠bL nums b))
def bare(c:Case)(n sP times aq:Bool)(kids:Nat):Bool:=
 (n||decide (c.n=0))&&((sP||decide (c.sP=sY))&&((times||decide (c.times.length=0))&&((aq||(isNone c.A&&isNone c.B))&&decide (c.kids.length=kids))))
theorem mU:aL.name=[]:=rfl
theorem mI:aL.kids=[]:=rfl
theorem Ec:u5.A=aL:=rfl
theorem DP:u5.B=aL:=rfl
theorem Kk:sX.name=[]:=rfl
theorem Jw:sX.args=[]:=rfl
theorem JT:sX.sort=0:=rfl
theorem Hj:mO.aG=[]:=rfl
theorem HE:mO.bound=0:=rfl
theorem D3:mO.strict=false:=rfl
theorem VA:jO.N=0:=rfl
theorem Wf:jO.D=0:=rfl
theorem KC:sY.iX=0:=rfl
theorem Uy:sY.n=0:=rfl
theorem UJ:sY.t=aL:=rfl
theorem JQ:sY.kids=[]:=rfl
attribute [simp] mU mI Ec DP Kk Jw JT Hj HE D3 VA Wf KC Uy UJ JQ fZ uV jL lz
attribute [go_sem] mU mI Ec DP Kk Jw JT Hj HE D3 VA Wf KC Uy UJ JQ
theorem AX(n:nE)(ks:List Term):(Term.mk n ks).name=n:=rfl
theorem Bo(n:nE)(ks:List Term):(Term.mk n ks).kids=ks:=rfl
attribute [simp] AX Bo
attribute [go_sem] AX Bo
def oy(a b:Rat):Int:=if c8 a b then -1 else if c8 b a then 1 else 0
def hJ:List Rat→List Rat→Int
 | [],[]=>0
 | [],_::_=>-1
 | _::_,[]=>1
 | a::as,b::bs=>if oy a b=0 then hJ as bs else oy a b
def nW(a b:nE):Int:=if gC a b then -1 else if gC b a then 1 else 0
def oJ(a b:Int):Int:=if a<b then -1 else if b<a then 1 else 0
def fl(a b:Row):Int:=if nW a.name b.name≠0 then nW a.name b.name else if oJ a.args.length b.args.length≠0 then oJ a.args.length b.args.length else hJ a.args b.args
def kU(r:Row):Bool:=fI r.name&&(decide (r.args.length≤2)&&(bW r.val&&r.args.all bW))
def vP:Option Row→List Row→Bool
 | _,[]=>true
 | p,r::rs=>kU r&&((match p with|none=>true|some q=>decide (fl q r<0))&&vP (some r) rs)
def fh(m:Model):Bool:=decide (m.rows.length≤40)&&vP none m.rows
def rf(a:Rat)(sort:Int):Bool:=decide (sort=1)||decide (a.D=1)
def jq:List Rat→List Int→Bool
 | a::as,n::ns=>rf a n&&jq as ns
 | _,_=>true
def jQ(s:dI)(r:Row):Bool:=
 match symbol s r.name with
 | none=>false
 | some x=>decide (x.args.length=r.args.length)&&(rf r.val x.sort&&jq r.args x.args)
def fg(s:dI)(m:Model):Bool:=fO s&&(fh m&&m.rows.all (jQ s))
def lookup(rows:List Row)(name:nE)(args:List Rat):Rat:=
 match rows.find? (fun r=>decide (r.name=name∧r.args=args)) with
 | some r=>r.val
 | none=>⟨0,1⟩
mutual
def value(m:Model):Term→Rat
 | .mk n ks=>lookup m.rows n (values m ks)
def values(m:Model):List Term→List Rat
 | []=>[]
 | t::ts=>value m t::values m ts
end
def mr(m:Model):List Term→List Int→Rat→Option Rat
 | t::ts,n::ns,sum=>if(plus sum n (value m t)).2 then mr m ts ns (plus sum n (value m t)).1 else none
 | _,_,sum=>some sum
def below(a:Rat)(bound:Int)(strict:Bool):Bool:=if strict then c8 a (whole bound) else !c8 (whole bound) a
def nS(m:Model)(a:Atom):Option Bool:=if a.kind=1 then some (decide (value m a.A=value m a.B)) else(mr m a.nums a.times (whole 0)).map fun x=>below x a.bound a.strict
def gn(s:dI)(m:Model)(l:bl):Option Bool:=if fg s m&&fk s l.atom then(nS m l.atom).map fun b=>b != l.no else none
mutual
def ie(s:dI)(nums:List Term):Case→List bl→Nat→Bool
 | .mk k n w ts a b ks,ab,bt=>
   if 14<bt then false else
   if k=1 then bare (.mk k n w ts a b ks) true true false false 0&&(within n 0 (ab.length-1)&&(match ko s (a7 ab) w,ab[n.toNat]? with
    | some e,some l=>l.no&&(decide (l.atom.kind=1)&&(decide (e.A=l.atom.A)&&decide (e.B=l.atom.B)))
    | _,_=>false)) else
   if k=2 then bare (.mk k n w ts a b ks) false false true false 0&&qm (dX nums ab) ts else
   if k=3 then bare (.mk k n w ts a b ks) false true false false 1&&(match ko s (a7 ab) w with
    | some e=>differ nums e.A e.B&&iI s nums ks [ab++[gx e.A e.B]] (bt+1)
    | none=>false) else
   if k=4 then bare (.mk k n w ts a b ks) false false false true 3&&(differ nums a b&&iI s nums ks ((fm a b).map fun l=>ab++[l]) (bt+1)) else
   false
def iI(s:dI)(nums:List Term):List Case→List (List bl)→Nat→Bool
 | c::cs,l::ls,bt=>ie s nums c l bt&&iI s nums cs ls bt
 | _,_,_=>true
end
def xr(s:dI)(ab:List bl)(c:Case):Bool:=e6 s ab&&ie s (numsOf s ab) c ab 1
def UZ(kind:Int):Int:=if kind=1 then 0 else if kind=2 then 1 else if kind=3∨kind=4∨kind=5∨kind=6 then 2 else -1
def xe:Atom:=⟨0,aL,aL,[],[],0,false⟩
def EF:bl:=⟨xe,false⟩
def abQ:Form:=.mk 0 EF []
def XT(l:bl):Bool:=!l.no&&decide (l.atom=xe)
def O4(k:Int)(l:bl)(ks:List Form):Bool:=decide (UZ k=ks.length)&&(if k=1 then cP l.atom else XT l)
mutual
def MT:Form→Nat→Nat
 | .mk k l ks,bt=>if decide (bt≤5)&&O4 k l ks then 1+Jp ks (bt+1) else 11
def Jp:List Form→Nat→Nat
 | [],_=>0
 | t::ts,bt=>MT t bt+Jp ts bt
end
mutual
def S6:Form→Nat→Bool
 | _,0=>false
 | .mk k l ks,d+1=>O4 k l ks&&Hi ks d
def Hi:List Form→Nat→Bool
 | [],_=>true
 | t::ts,d=>S6 t d&&Hi ts d
end
mutual
def Vc:Form→Nat→Nat
 | _,0=>1
 | .mk _ _ ks,d+1=>1+JZ ks d
def JZ:List Form→Nat→Nat
 | [],_=>0
 | t::ts,d=>Vc t d+JZ ts d
end
def Mz(list:List Atom)(a:Atom):Int:=idxOf (fun b=>decide (a=b)) list
mutual
def withAtoms(list:List Atom):Form→List Atom
 | .mk k l ks=>if k=1 then(if Mz list l.atom<0 then list++[l.atom] else list) else AA list ks
def AA(list:List Atom):List Form→List Atom
 | []=>list
 | t::ts=>AA (withAtoms list t) ts
end
def QR(f:Form):Bool:=decide (MT f 1≤10)&&decide ((withAtoms [] f).length≤6)
def plain(list:List Atom):List bl:=list.map fun a=>⟨a,false⟩
def ZJ(s:dI)(f:Form):Bool:=QR f&&e6 s (plain (withAtoms [] f))
mutual
def holds(p:Atom→Bool):Form→Bool
 | .mk k l ks=>ZQ k l (V2 p ks) p
def V2(p:Atom→Bool):List Form→List Bool
 | []=>[]
 | t::ts=>holds p t::V2 p ts
def ZQ(k:Int)(l:bl)(is:List Bool)(p:Atom→Bool):Bool:=
 if k=1 then p l.atom != l.no else
 if k=2 then !(is.getD 0 false) else
 if k=3 then is.getD 0 false&&is.getD 1 false else
 if k=4 then is.getD 0 false||is.getD 1 false else
 if k=5 then !(is.getD 0 false)||is.getD 1 false else
 is.getD 0 false == is.getD 1 false
end
def aat(f:Form)(aB:List Bool):Option Bool:=
 if QR f&&decide ((withAtoms [] f).length=aB.length) then some (holds (fun a=>aB.getD (Mz (withAtoms [] f) a).toNat false) f) else none
def W7(s:dI)(m:Model):List Atom→Option (List Bool)
 | []=>some []
 | a::as=>match gn s m ⟨a,false⟩ with
   | none=>none
   | some b=>match W7 s m as with
     | none=>none
     | some bs=>some (b::bs)
def Tl(s:dI)(m:Model)(f:Form):Option Bool:=
 if ZJ s f then(match W7 s m (withAtoms [] f) with|none=>none|some aB=>aat f aB) else none
def KY:List Form→List Atom→List Atom
 | [],out=>out
 | f::fs,out=>KY fs (withAtoms out f)
def z8(list:List Form):Option (List Atom):=
 if decide (list.length≤5)&&(list.all QR&&decide ((KY list []).length≤6)) then some (KY list []) else none
def SF(s:dI)(list:List Form):Bool:=match z8 list with|none=>false|some atoms=>fO s&&e6 s (plain atoms)
def aaY(l many:Int):Bool:=decide (l≠0)&&within l (-many) many
def ZD:List Int→List Int→Int→Bool
 | _,[],_=>true
 | before,m::ms,many=>aaY m many&&(!(before.contains m)&&(!(before.contains (-m))&&ZD (before++[m]) ms many))
def N8(marks:List Int)(many:Nat):Bool:=ZD [] marks many
def Uu(marks:List Int)(atoms:List Atom):List bl:=marks.map fun m=>⟨atoms.getD (m.natAbs-1) xe,decide (m<0)⟩
def ab2(s:dI)(list:List Form)(l:Sz):Bool:=
 SF s list&&(decide (0<l.marks.length)&&(N8 l.marks ((z8 list).getD []).length&&xr s (Uu l.marks ((z8 list).getD [])) l.case))
def abj(s:dI)(m:Model)(list:List Form):Bool:=SF s list&&(fg s m&&list.all fun f=>decide (Tl s m f=some true))
end Go.Mod
namespace Go.Proofs.YtabembjmeobhoaaGreat
open Go.Eng Go.Mod
set_option maxRecDepth 100000
theorem MO{n:Int}:(if n < -n then -n else n)=(n.natAbs:Int):=by split<;>omega
end Go.Proofs.YtabembjmeobhoaaGreat
namespace Go.Mod
open Go.Eng
mutual
theorem te:∀(t:Term)(d:Nat),d≤4→(bN t d=true→kW t (5-d)=many t d)∧(bN t d=false→13≤kW t (5-d))
 | .mk n ks,0,_=>by simp[bN,kW]
 | .mk n ks,d+1,hd=>by
   obtain⟨h1,h2⟩:=B7 ks d (by omega)
   have e:5-(d+1)+1=5-d:=by omega
   have e2:5-(d+1)≤4:=by omega
   simp only[bN,kW,many,e,e2,decide_true,Bool.and_true]
   cases hn:fI n
   ·simp
   ·rcases aa (ks.length≤2) with hk|hk
    ·simp only[hk,decide_true,Bool.and_self,aE,if_true]
     exact⟨fun h=>by rw[h1 h],fun h=>by have:=h2 h;omega⟩
    ·simp[hk]
theorem B7:∀(ts:List Term)(d:Nat),d≤4→(cL ts d=true→fB ts (5-d)=lS ts d)∧(cL ts d=false→13≤fB ts (5-d))
 | [],_,_=>by simp[cL,fB,lS]
 | t::ts,d,hd=>by
   obtain⟨h1,h2⟩:=te t d hd
   obtain⟨h3,h4⟩:=B7 ts d hd
   simp only[cL,fB,lS]
   cases ht:bN t d
   ·have:=h2 ht
    exact⟨fun h=>by simp at h,fun _=>by omega⟩
   ·cases hts:cL ts d
    ·have:=h4 hts
     exact⟨fun h=>by simp at h,fun _=>by omega⟩
    ·exact⟨fun _=>by rw[h1 ht,h3 hts],fun h=>by simp at h⟩
end
def right(t:Term):Bool:=bN t 4&&decide (many t 4≤12)
theorem Bh(t:Term):right t=isTerm t:=by
 have h:=te t 4 (by omega)
 simp only[show 5-4=1 from rfl] at h
 obtain⟨h1,h2⟩:=h
 unfold right isTerm
 cases h:bN t 4
 ·have:=h2 h
  simp only[Bool.false_and]
  symm
  simp only[decide_eq_false_iff_not]
  omega
 ·rw[←h1 h]
  simp
theorem gN{t:Term}(h:isTerm t=true):bN t 4=true:=by
 rw[←Bh] at h
 simp only[right,ai] at h
 exact h.1
mutual
theorem De:∀(t:Term)(d:Nat),bN t d=true→bN t (d+1)=true
 | .mk n ks,0,h=>by simp[bN] at h
 | .mk n ks,d+1,h=>by
   simp only[bN,ai] at h⊢
   exact⟨h.1,h.2.1,Gn ks d h.2.2⟩
theorem Gn:∀(ts:List Term)(d:Nat),cL ts d=true→cL ts (d+1)=true
 | [],_,_=>by simp[cL]
 | t::ts,d,h=>by
   simp only[cL,ai] at h⊢
   exact⟨De t d h.1,Gn ts d h.2⟩
end
theorem oh:∀{ts:List Term}{d:Nat},cL ts d=true→∀t∈ts,bN t d=true
 | [],_,_,t,ht=>by simp at ht
 | a::ts,d,h,t,ht=>by
   simp only[cL,ai] at h
   rcases ax.1 ht with rfl|ht
   ·exact h.1
   ·exact oh h.2 t ht
theorem oa{t:Term}{d:Nat}(h:bN t (d+1)=true):fI t.name=true∧t.kids.length≤2∧cL t.kids d=true:=by
 cases t with
 | mk n ks=>
   simp only[bN,ai,decide_eq_true_eq] at h
   exact⟨h.1,h.2.1,h.2.2⟩
mutual
theorem Lv:∀(t:Term)(d:Nat),bN t d=true→many t d+1≤2 ^ d
 | .mk n ks,0,h=>by simp[bN] at h
 | .mk n ks,d+1,h=>by
   simp only[bN,ai,decide_eq_true_eq] at h
   have:=Bc ks d h.2.2
   simp only[many]
   have h3:ks.length*(2 ^ d-1)≤2*(2 ^ d-1):=bQ _ h.2.1
   have h4:1≤2 ^ d:=jT
   rw[Nat.pow_succ]
   omega
theorem Bc:∀(ts:List Term)(d:Nat),cL ts d=true→lS ts d≤ts.length*(2 ^ d-1)
 | [],_,_=>by simp[lS]
 | t::ts,d,h=>by
   simp only[cL,ai] at h
   have h1:=Lv t d h.1
   have h2:=Bc ts d h.2
   simp only[lS,aW,cY,Nat.one_mul]
   omega
end
mutual
theorem DQ:∀(t:Term)(bt:Nat),1≤bt→bt≤5→kW t bt+14≤27*2 ^ (5-bt)
 | .mk n ks,bt,h1,h5=>by
   simp only[kW]
   split
   ·rename_i h
    simp only[ai,decide_eq_true_eq] at h
    have:=vM ks (bt+1) (by omega) (by omega)
    have h3:ks.length*(27*2 ^ (5-(bt+1))-14)≤2*(27*2 ^ (5-(bt+1))-14):=bQ _ h.1.2
    have e:5-bt=(5-(bt+1))+1:=by omega
    have h4:1≤2 ^ (5-(bt+1)):=jT
    rw[e,Nat.pow_succ]
    omega
   ·have h4:1≤2 ^ (5-bt):=jT
    omega
theorem vM:∀(ts:List Term)(bt:Nat),1≤bt→bt≤5→fB ts bt≤ts.length*(27*2 ^ (5-bt)-14)
 | [],_,_,_=>by simp[fB]
 | t::ts,bt,h1,h5=>by
   have h2:=DQ t bt h1 h5
   have h3:=vM ts bt h1 h5
   simp only[fB,aW,cY,Nat.one_mul]
   omega
end
theorem gq:∀(ts l:List Term),a6 l ts=ts.foldl dh l
 | [],_=>rfl
 | t::ts,l=>by simp only[a6,List.foldl_cons,gq ts]
theorem rb{ts:List Term}{i:Nat}(h:i<ts.length)(l:List Term):a6 l (ts.take (i+1))=dh (a6 l (ts.take i)) ts[i]:=by
 have e:ts.take (i+1)=ts.take i++[ts[i]]:=by rw[bq,af h];rfl
 rw[e,gq,gq,List.foldl_append]
 rfl
theorem rk(l:List Term)(t:Term):dh l t=if bL (a6 l t.kids) t<0 then a6 l t.kids++[t] else a6 l t.kids:=by
 cases t;rfl
mutual
theorem zC:∀(t:Term)(d:Nat)(l:List Term),bN t d=true→(dh l t).length≤l.length+many t d
 | .mk n ks,0,l,h=>by simp[bN] at h
 | .mk n ks,d+1,l,h=>by
   simp only[bN,ai] at h
   have:=r8 ks d l h.2.2
   simp only[dh,many]
   split
   ·simp only[aR,aW,dE]
    omega
   ·omega
theorem r8:∀(ts:List Term)(d:Nat)(l:List Term),cL ts d=true→(a6 l ts).length≤l.length+lS ts d
 | [],_,_,_=>by simp[a6]
 | t::ts,d,l,h=>by
   simp only[cL,ai] at h
   have h1:=zC t d l h.1
   have h2:=r8 ts d (dh l t) h.2
   simp only[a6,lS]
   omega
end
theorem rm:∀{ts:List Term}{d:Nat},cL ts d=true→∀i,cL (ts.take i) d=true
 | [],_,_,i=>by simp[cL]
 | t::ts,d,h,0=>by simp[cL]
 | t::ts,d,h,i+1=>by
   simp only[cL,ai,dY] at h⊢
   exact⟨h.1,rm h.2 i⟩
theorem wh{t:Term}{d:Nat}{l:List Term}(h:bN t d=true)(hd:d≤4):(dh l t).length≤l.length+15:=by
 have h1:=zC t d l h
 have h2:=Lv t d h
 have h3:2 ^ d≤2 ^ 4:=fL (by omega) hd
 omega
theorem zu{t:Term}{d:Nat}{l:List Term}(h:bN t (d+1)=true)(hd:d≤3)(i:Nat):(a6 l (t.kids.take i)).length≤l.length+14:=by
 obtain⟨_,h1,h2⟩:=oa h
 have h3:=r8 (t.kids.take i) d l (rm h2 i)
 have h4:=Bc (t.kids.take i) d (rm h2 i)
 have h5:2 ^ d≤2 ^ 3:=fL (by omega) hd
 have h6:(t.kids.take i).length≤2:=by simp;omega
 have h7:(t.kids.take i).length*(2 ^ d-1)≤2*(2 ^ d-1):=bQ _ h6
 omega
theorem GV{n:Int}:isSort n=true↔n=0∨n=1:=by simp[isSort]
theorem GR:∀{l:List Sym}{p:Option nE},qW p l=true→∀x∈l,oo x=true
 | [],_,_,x,hx=>by simp at hx
 | a::l,p,h,x,hx=>by
   simp only[qW,ai] at h
   rcases ax.1 hx with rfl|hx
   ·exact h.1
   ·exact GR h.2.2 x hx
theorem JL{s:dI}{n:nE}{x:Sym}(hs:fO s=true)(h:symbol s n=some x):oo x=true:=by
 simp only[fO,ai] at hs
 exact GR hs.1 x (ff h)
theorem He{x:Sym}(h:oo x=true):isSort x.sort=true∧∀n∈x.args,isSort n=true:=by
 simp only[oo,ai,cg] at h
 exact⟨h.2.2.1,h.2.2.2⟩
theorem OZ{s:dI}{t:Term}{n:Int}(hs:fO s=true)(h:fT s t=some n):isSort n=true:=by
 cases t with
 | mk nm ks=>
   simp only[fT] at h
   cases hx:symbol s nm with
   | none=>rw[hx] at h;cases h
   | some x=>
     rw[hx] at h
     simp only at h
     split at h
     ·cases h
      exact(He (JL hs hx)).1
     ·cases h
theorem yp:iY 40=false:=by decide
theorem yL:iY 41=false:=by decide
theorem yv:iY 44=false:=by decide
def RC(r:nE):Prop:=∀c x,r=c::x→iY c=false
def OP(r:nE):Prop:=∀c x,r=c::x→iY c=false∧c≠40
theorem vq{c:UInt8}{x:nE}(h:iY c=false):RC (c::x):=by
 intro c' x' e
 cases e
 exact h
theorem mM{c:UInt8}{x:nE}(h:iY c=false)(h2:c≠40):OP (c::x):=by
 intro c' x' e
 cases e
 exact⟨h,h2⟩
theorem OP.n{r:nE}(h:OP r):RC r:=fun c x e=>(h c x e).1
theorem qz:∀{a b r r':nE},a.all iY=true→b.all iY=true→RC r→RC r'→a++r=b++r'→a=b∧r=r'
 | [],[],r,r',_,_,_,_,h=>⟨rfl,by simpa using h⟩
 | [],c::b,r,r',_,hb,hr,_,h=>by
   simp only[b8,ai] at hb
   have:=hr c (b++r') (by simpa using h)
   rw[this] at hb
   simp at hb
 | c::a,[],r,r',ha,_,_,hr',h=>by
   simp only[b8,ai] at ha
   have:=hr' c (a++r) (by simpa using h.symm)
   rw[this] at ha
   simp at ha
 | c::a,d::b,r,r',ha,hb,hr,hr',h=>by
   simp only[b8,ai] at ha hb
   simp only[bA,List.cons.injEq] at h
   obtain⟨h1,h2⟩:=qz ha.2 hb.2 hr hr' h.2
   exact⟨by rw[h.1,h1],h2⟩
theorem FF{n:nE}(h:fI n=true):n.all iY=true:=by
 simp only[fI,ai] at h
 exact h.2
mutual
theorem w5:∀(t u:Term)(d:Nat)(r r':nE),bN t d=true→bN u d=true→OP r→OP r'→aO t++r=aO u++r'→t=u∧r=r'
 | t,u,0,r,r',ht,_,_,_,_=>by simp[bN] at ht
 | .mk n ks,.mk m js,d+1,r,r',ht,hu,hr,hr',h=>by
   simp only[bN,ai] at ht hu
   have hn:=FF ht.1
   have hm:=FF hu.1
   match ks,js,ht,hu,h with
   | [],[],ht,hu,h=>
     simp only[aO] at h
     obtain⟨h1,h2⟩:=qz hn hm hr.n hr'.n h
     exact⟨by rw[h1],h2⟩
   | [],k::js,ht,hu,h=>
     simp only[aO,bj,bA] at h
     obtain⟨h1,h2⟩:=qz hn hm hr.n (vq yp) h
     exact absurd rfl ((hr _ _ h2).2)
   | k::ks,[],ht,hu,h=>
     simp only[aO,bj,bA] at h
     obtain⟨h1,h2⟩:=qz hn hm (vq yp) hr'.n h
     exact absurd rfl ((hr' _ _ h2.symm).2)
   | k::ks,j::js,ht,hu,h=>
     simp only[aO,bj,bA] at h
     obtain⟨h1,h2⟩:=qz hn hm (vq yp) (vq yp) h
     simp only[List.cons.injEq,true_and] at h2
     obtain⟨h3,h4⟩:=Jq (k::ks) (j::js) d r r' ht.2.2 hu.2.2 (by simp) (by simp) (by simpa[fY] using h2)
     exact⟨by rw[h1,h3],h4⟩
theorem Jq:∀(ts us:List Term)(d:Nat)(r r':nE),cL ts d=true→cL us d=true→ts≠[]→us≠[]→j6 (fY ts)++41::r=j6 (fY us)++41::r'→ts=us∧r=r'
 | [],_,_,_,_,_,_,h,_,_=>absurd rfl h
 | _::_,[],_,_,_,_,_,_,h,_=>absurd rfl h
 | [t],[u],d,r,r',ht,hu,_,_,h=>by
   simp only[cL,ai] at ht hu
   simp only[fY,j6] at h
   obtain⟨h1,h2⟩:=w5 t u d _ _ ht.1 hu.1 (mM yL (by decide)) (mM yL (by decide)) h
   simp only[List.cons.injEq,true_and] at h2
   exact⟨by rw[h1],h2⟩
 | [t],u::v::us,d,r,r',ht,hu,_,_,h=>by
   simp only[cL,ai] at ht hu
   simp only[fY,j6,bj,bA] at h
   obtain⟨h1,h2⟩:=w5 t u d _ _ ht.1 hu.1 (mM yL (by decide)) (mM yv (by decide)) h
   simp at h2
 | t::w::ts,[u],d,r,r',ht,hu,_,_,h=>by
   simp only[cL,ai] at ht hu
   simp only[fY,j6,bj,bA] at h
   obtain⟨h1,h2⟩:=w5 t u d _ _ ht.1 hu.1 (mM yv (by decide)) (mM yL (by decide)) h
   simp at h2
 | t::w::ts,u::v::us,d,r,r',ht,hu,_,_,h=>by
   simp only[cL,ai] at ht hu
   simp only[fY,j6,bj,bA] at h
   obtain⟨h1,h2⟩:=w5 t u d _ _ ht.1 hu.1 (mM yv (by decide)) (mM yv (by decide)) h
   simp only[List.cons.injEq,true_and] at h2
   obtain⟨h3,h4⟩:=Jq (w::ts) (v::us) d r r' (by simp only[cL,ai];exact ht.2) (by simp only[cL,ai];exact hu.2) (by simp) (by simp) (by simpa[fY] using h2)
   exact⟨by rw[h1,h3],h4⟩
end
theorem Bp{t u:Term}(ht:isTerm t=true)(hu:isTerm u=true)(h:aO t=aO u):t=u:=
 (w5 t u 4 [] [] (gN ht) (gN hu) (fun _ _ e=>by cases e) (fun _ _ e=>by cases e) (by rw[h])).1
mutual
theorem Gs:∀(t:Term)(d:Nat),bN t d=true→(aO t).length+6≤8*2 ^ d
 | t,0,h=>by simp[bN] at h
 | .mk n [],d+1,h=>by
   simp only[bN,ai] at h
   have h1:n.length≤2:=by
    have:=h.1
    simp only[fI,ai] at this
    have:=dk.1 this.1
    omega
   have h4:1≤2 ^ d:=jT
   simp only[aO,Nat.pow_succ]
   omega
 | .mk n (k::ks),d+1,h=>by
   simp only[bN,ai,decide_eq_true_eq] at h
   have h1:n.length≤2:=by
    have:=h.1
    simp only[fI,ai] at this
    have:=dk.1 this.1
    omega
   have h2:=JW (k::ks) d h.2.2
   have h4:1≤2 ^ d:=jT
   simp only[fY] at h2
   simp only[aO,aR,aW,dE,Nat.pow_succ]
   have h3:(k::ks).length*(8*2 ^ d-5)≤2*(8*2 ^ d-5):=bQ _ h.2.1
   omega
theorem JW:∀(ts:List Term)(d:Nat),cL ts d=true→(j6 (fY ts)).length≤ts.length*(8*2 ^ d-5)
 | [],_,_=>by simp[fY,j6]
 | [t],d,h=>by
   simp only[cL,ai] at h
   have:=Gs t d h.1
   simp only[fY,j6,aW,dE]
   omega
 | t::u::ts,d,h=>by
   simp only[cL,ai] at h
   have h1:=Gs t d h.1
   have h2:=JW (u::ts) d (by simp only[cL,ai];exact h.2)
   simp only[fY] at h2
   simp only[fY,j6,aR,aW] at h2⊢
   have e:(ts.length+1+1)*(8*2 ^ d-5)=(ts.length+1)*(8*2 ^ d-5)+(8*2 ^ d-5):=by rw[cY (ts.length+1) 1];omega
   rw[e]
   omega
end
theorem vl{t:Term}{d:Nat}(h:bN t d=true)(hd:d≤4):(aO t).length≤122:=by
 have h1:=Gs t d h
 have h2:2 ^ d≤2 ^ 4:=fL (by omega) hd
 omega
theorem OQ{α:Type}{p:α→Bool}:∀{xs:List α}{i:Int},0≤i→(0≤gi p xs i↔∃x∈xs,p x=true)
 | [],i,h=>by simp[gi]
 | x::xs,i,h=>by
   simp only[gi,ax,exists_eq_or_imp]
   split
   ·rename_i hx
    simp[hx,h]
   ·rename_i hx
    rw[OQ (by omega)]
    simp[hx]
theorem xl{α:Type}{p:α→Bool}:∀{xs:List α}{i:Int},0≤i→gi p xs i=if gi p xs 0<0 then -1 else gi p xs 0+i
 | [],i,h=>by simp[gi]
 | x::xs,i,h=>by
   simp only[gi]
   split
   ·simp
   ·rw[xl (i:=i+1) (by omega),xl (i:=0+1) (by omega)]
    rcases aa (gi p xs 0<0) with hc|hc
    ·simp[hc]
    ·simp only[hc,if_false]
     rw[if_neg (by omega)]
     omega
theorem M7{α:Type}{p:α→Bool}:∀{xs:List α}{i:Int},gi p xs i<i+xs.length∨gi p xs i = -1
 | [],i=>by simp[gi]
 | x::xs,i=>by
   simp only[gi,aW]
   split
   ·left;omega
   ·rcases M7 (p:=p) (xs:=xs) (i:=i+1) with h|h
    ·left;omega
    ·right;exact h
theorem cR{l:List Term}{t:Term}:0≤bL l t↔t∈l:=by
 unfold bL idxOf
 rw[OQ (by omega)]
 simp
theorem nZ{l:List Term}{t:Term}(h:t∈l):(bL l t).toNat<l.length:=by
 have h1:=cR.2 h
 rcases M7 (p:=fun u=>decide (t=u)) (xs:=l) (i:=0) with h2|h2
 ·unfold bL idxOf at h1⊢
  omega
 ·unfold bL idxOf at h1
  omega
theorem iZ{t:Term}:∀{l:List Term},t∈l→l[(bL l t).toNat]?=some t
 | [],h=>by simp at h
 | x::xs,h=>by
   unfold bL idxOf
   simp only[gi]
   rcases aa (t=x) with hx|hx
   ·simp[hx]
   ·have hm:t∈xs:=by simpa[hx] using h
    have h0:=cR.2 hm
    have ih:=iZ hm
    unfold bL idxOf at ih h0
    simp only[hx,decide_false,aw,if_false]
    rw[xl (by omega),if_neg (by omega)]
    have e:(gi (fun u=>decide (t=u)) xs 0+(0+1)).toNat=(gi (fun u=>decide (t=u)) xs 0).toNat+1:=by omega
    rw[e,lr,ih]
theorem D8{l:List Term}{t u:Term}(ht:t∈l)(hu:u∈l)(h:bL l t=bL l u):t=u:=by
 have h1:=iZ ht
 have h2:=iZ hu
 rw[h,h2] at h1
 exact(Option.some.inj h1).symm
theorem pV{nums:List Term}{a b:Term}:differ nums a b=true↔a∈nums∧b∈nums∧a≠b:=by
 simp only[differ,ai,decide_eq_true_eq,cR]
 constructor
 ·rintro⟨h1,h2,h3⟩
  exact⟨h1,h2,fun h=>h3 (by rw[h])⟩
 ·rintro⟨h1,h2,h3⟩
  exact⟨h1,h2,fun h=>h3 (D8 h1 h2 h)⟩
theorem uM:∀{cs:List Int}{i:Int}(v:Int),0≤i→mR cs i v=cs.set i.toNat (cs.getD i.toNat 0+v)
 | [],i,v,h=>by simp[mR]
 | c::cs,i,v,h=>by
   simp only[mR]
   rcases aa (i=0) with h0|h0
   ·subst h0;simp
   ·rw[if_neg h0,uM v (by omega)]
    have e:i.toNat=(i-1).toNat+1:=by omega
    rw[e]
    simp
theorem yq:∀{cs:List Int}{i v:Int},(mR cs i v).length=cs.length
 | [],i,v=>rfl
 | c::cs,i,v=>by
   simp only[mR]
   split
   ·simp
   ·simp[yq (cs:=cs)]
theorem HF:∀{cs:List Int}{i k v w:Int},mR (mR cs i v) k w=mR (mR cs k w) i v
 | [],i,k,v,w=>rfl
 | c::cs,i,k,v,w=>by
   simp only[mR]
   rcases aa (i=0) with hi|hi
   ·rcases aa (k=0) with hk|hk
    ·simp only[hi,hk,if_true,mR]
     congr 1
     omega
    ·simp only[hi,hk,if_true,if_false,mR]
   ·rcases aa (k=0) with hk|hk
    ·simp only[hi,hk,if_true,if_false,mR]
    ·simp only[hi,hk,if_false,mR]
     rw[HF (cs:=cs)]
def ob(nums:List Term):List Term→List Int→List Int→List Int
 | t::ts,n::ns,cs=>ob nums ts ns (cs.set (bL nums t).toNat n)
 | _,_,cs=>cs
theorem getD_set_ne{cs:List Int}{i k:Nat}{v:Int}(h:i≠k):(cs.set i v).getD k 0=cs.getD k 0:=by
 simp[ct,List.getElem?_set_ne h]
theorem OV{nums:List Term}:∀{ts:List Term}{ns cs:List Int},ts.Nodup→(∀t∈ts,t∈nums∧cs.getD (bL nums t).toNat 0=0)→ob nums ts ns cs=jY nums ts ns cs
 | [],_,_,_,_=>by simp[ob,jY]
 | _::_,[],_,_,_=>by simp[ob,jY]
 | t::ts,n::ns,cs,hd,h=>by
   simp only[ob,jY]
   have ht:=h t (by simp)
   rw[uM n (cR.2 ht.1),ht.2,Int.zero_add]
   refine OV (cJ.1 hd).2 fun u hu=>?_
   have hu':=h u (by simp[hu])
   refine⟨hu'.1,?_⟩
   rw[getD_set_ne,hu'.2]
   intro e
   have h1:=cR.2 ht.1
   have h2:=cR.2 hu'.1
   have:t=u:=D8 ht.1 hu'.1 (by omega)
   subst this
   exact(cJ.1 hd).1 hu
theorem VD(k:Nat):([0,0,0,0]:List Int).getD k 0=0:=by
 match k with
 | 0=>rfl
 | 1=>rfl
 | 2=>rfl
 | 3=>rfl
 | k+4=>rfl
theorem Ps{n:Int}:nv n=true ↔ -1000000≤n∧n≤1000000:=dk
theorem gD{l:ir}:dU l=true↔l.aG.length=4∧(∀c∈l.aG,-1000000≤c∧c≤1000000)∧(-1000000≤l.bound∧l.bound≤1000000):=by
 simp only[dU,ai,cg,decide_eq_true_eq,Ps]
 constructor
 ·rintro⟨h1,h2,h3⟩
  exact⟨h2,h1,h3⟩
 ·rintro⟨h1,h2,h3⟩
  exact⟨h2,h1,h3⟩
theorem dw{m b:Int}(h0:0≤m)(h1:m≤1000000)(h2:-1000000≤b∧b≤1000000):-1000000000000≤m*b∧m*b≤1000000000000:=by
 have a1:m*b≤m*1000000:=Int.mul_le_mul_of_nonneg_left h2.2 h0
 have a2:m*(-1000000)≤m*b:=Int.mul_le_mul_of_nonneg_left h2.1 h0
 omega
theorem ke:∀{m n:Int}{as bs:List Int},as.length=bs.length→(comb m n as bs).length=as.length
 | _,_,[],[],_=>rfl
 | _,_,[],_::_,h=>by simp at h
 | _,_,_::_,[],h=>by simp at h
 | m,n,a::as,b::bs,h=>by
   simp only[comb,aW]
   rw[ke (by simpa using h)]
theorem fe:∀{m n:Int}{as bs:List Int}{i:Nat}(h:i<as.length)(h':i<bs.length),comb m n (as.take (i+1)) (bs.take (i+1))=comb m n (as.take i) (bs.take i)++[m*as[i]+n*bs[i]]
 | _,_,[],_,i,h,_=>by simp at h
 | _,_,_::_,[],i,_,h=>by simp at h
 | m,n,a::as,b::bs,0,h,h'=>by simp[comb]
 | m,n,a::as,b::bs,i+1,h,h'=>by
   have:=fe (m:=m) (n:=n) (as:=as) (bs:=bs) (i:=i) (by simpa using h) (by simpa using h')
   simp only[dY,comb,bA,jy] at this⊢
   rw[this]
theorem pF{a b:ir}{m n:Int}(h1:dU a=true)(h2:dU b=true)(h3:within m 0 1000000=true)(h4:within n 0 1000000=true):ez a m b n=jv a m b n:=by simp[ez,h1,h2,h3,h4]
theorem GN{ls:List ir}{ts:List Int}{i:Nat}(h:i<ls.length)(h':i<ts.length)(out:ir):o8 (ls.drop i) (ts.drop i) out=if(ez out 1 ls[i] ts[i]).2 then o8 (ls.drop (i+1)) (ts.drop (i+1)) (ez out 1 ls[i] ts[i]).1 else(mO,false):=by
 rw[ah h,ah h',o8]
theorem pn{α:Type}{xs:List α}{i:Nat}(h:i<xs.length):xs.take (i+1)=xs.take i++[xs[i]]:=by rw[bq,af h];rfl
theorem qE(p:Option Term)(t:Term)(ts:List Term)(n:Int)(ns:List Int):k9 p (t::ts) (n::ns)=(isTerm t&&(within n (-50) 50&&(decide (n≠0)&&((match p with|none=>true|some q=>gC (aO q) (aO t))&&k9 (some t) ts ns)))):=rfl
theorem vV:∀{ts:List Term}{ns:List Int}{p:Option Term},k9 p ts ns=true→ns.length=ts.length→(∀t∈ts,isTerm t=true)∧(∀n∈ns,-50≤n∧n≤50)
 | [],[],_,_,_=>by simp
 | [],_::_,_,_,h=>by simp at h
 | _::_,[],_,_,h=>by simp at h
 | t::ts,n::ns,p,h,hl=>by
   rw[qE] at h
   simp only[ai] at h
   obtain⟨h1,h2⟩:=vV h.2.2.2.2 (by simpa using hl)
   have h3:=dk.1 h.2.1
   refine⟨fun u hu=>?_,fun m hm=>?_⟩
   ·rcases ax.1 hu with rfl|hu
    ·exact h.1
    ·exact h1 u hu
   ·rcases ax.1 hm with rfl|hm
    ·exact h3
    ·exact h2 m hm
theorem mT{a:Atom}(h:cP a=true)(k:a.kind=2):isNone a.A=true∧isNone a.B=true∧a.nums.length≤4∧a.times.length=a.nums.length∧(-1000≤a.bound∧a.bound≤1000)∧k9 none a.nums a.times=true:=by
 rw[cP,if_neg (by omega),if_pos k] at h
 simp only[ai,decide_eq_true_eq] at h
 have h3:=dk.1 h.2.2.1
 have h5:=dk.1 h.2.2.2.2.1
 exact⟨h.1,h.2.1,by omega,h.2.2.2.1,h5,h.2.2.2.2.2⟩
theorem kh{a:Atom}(h:cP a=true):a.kind=1∨a.kind=2:=by
 rcases aa (a.kind=1) with k1|k1
 ·exact .inl k1
 ·rcases aa (a.kind=2) with k2|k2
  ·exact .inr k2
  ·simp[cP,k1,k2] at h
theorem Ki{a:Atom}(h:cP a=true)(k:a.kind=1):isTerm a.A=true∧isTerm a.B=true:=by
 simp only[cP,k,if_true,ai] at h
 exact⟨h.1,h.2.1⟩
theorem na{a:Atom}(h:cP a=true):(cd a).length≤4∧∀t∈cd a,isTerm t=true:=by
 unfold cd
 rcases aa (a.kind=1) with k1|k1
 ·rw[if_pos k1]
  have:=Ki h k1
  refine⟨by simp,fun t ht=>?_⟩
  simp only[ax,ba,or_false] at ht
  rcases ht with rfl|rfl
  ·exact this.1
  ·exact this.2
 ·rw[if_neg k1]
  have k2:a.kind=2:=(kh h).resolve_left k1
  have:=mT h k2
  exact⟨this.2.2.1,(vV this.2.2.2.2.2 this.2.2.2.1).1⟩
def dZ(ab:List bl):List Term:=ab.flatMap fun l=>cd l.atom
theorem jP(ab:List bl):az ab=je (dZ ab):=rfl
theorem tS{ab:List bl}{i:Nat}(h:i<ab.length):dZ (ab.take (i+1))=dZ (ab.take i)++cd ab[i].atom:=by
 rw[pn h]
 simp only[dZ,List.flatMap_append,jj,List.flatMap_nil,bm]
theorem iW:∀{ab:List bl},(∀l∈ab,cP l.atom=true)→(dZ ab).length≤4*ab.length∧∀t∈dZ ab,isTerm t=true
 | [],_=>by simp[dZ]
 | l::ls,h=>by
   obtain⟨h1,h2⟩:=iW (ab:=ls) fun x hx=>h x (by simp[hx])
   obtain⟨h3,h4⟩:=na (h l (by simp))
   simp only[dZ,jj,aR,aW,aP] at h1 h2⊢
   refine⟨by omega,fun t ht=>?_⟩
   rcases ht with ht|ht
   ·exact h4 t ht
   ·exact h2 t ht
theorem DL:∀{ts out:List Term},(∀t∈ts,isTerm t=true)→mu ts out=a6 out ts
 | [],_,_=>by simp[mu,a6]
 | t::ts,out,h=>by
   simp only[mu,a6,h t (by simp),if_true]
   exact DL fun u hu=>h u (by simp[hu])
theorem iL{ts:List Term}(h:∀t∈ts,isTerm t=true):je ts=a6 [] ts:=DL h
mutual
theorem zz:∀(t:Term)(l:List Term),(∀u∈l,u∈dh l t)∧t∈dh l t
 | .mk n ks,l=>by
   have h:=rL ks l
   simp only[dh]
   split
   ·exact⟨fun u hu=>by simp[h u hu],by simp⟩
   ·rename_i hx
    exact⟨h,cR.1 (by omega)⟩
theorem rL:∀(ts:List Term)(l:List Term),∀u∈l,u∈a6 l ts
 | [],l,u,h=>by simpa[a6] using h
 | t::ts,l,u,h=>by
   simp only[a6]
   exact rL ts _ u ((zz t l).1 u h)
end
theorem sq:∀(ts:List Term)(l:List Term),∀t∈ts,t∈a6 l ts
 | [],_,t,h=>by simp at h
 | a::ts,l,t,h=>by
   simp only[a6]
   rcases ax.1 h with rfl|h
   ·exact rL ts _ _ (zz _ l).2
   ·exact sq ts _ t h
mutual
theorem wC:∀(t:Term)(d:Nat)(l:List Term),d≤4→bN t d=true→many t d≤12→(∀u∈l,isTerm u=true)→∀u∈dh l t,isTerm u=true
 | .mk n ks,0,l,_,h,_,_,u,_=>by simp[bN] at h
 | .mk n ks,d+1,l,hd,h,hm,hl,u,hu=>by
   have h':=h
   simp only[bN,ai] at h'
   have hk:=uh ks d l (by omega) h'.2.2 (by simp only[many] at hm;omega) hl
   simp only[dh] at hu
   split at hu
   ·simp only[aP,ax,ba,or_false] at hu
    rcases hu with hu|rfl
    ·exact hk u hu
    ·rw[←Bh]
     have up:∀(k:Nat)(t:Term)(d:Nat),d+k≤4→bN t d=true→bN t (d+k)=true:=by
      intro k
      induction k with
      | zero=>intro t d _ h;exact h
      | succ k ih=>intro t d hk h;rw[←iP];exact De _ _ (ih t d (by omega) h)
     have s4:=up (4-(d+1)) _ (d+1) (by omega) h
     rw[show d+1+(4-(d+1))=4 by omega] at s4
     have m1:=(te (.mk n ks) (d+1) hd).1 h
     have m2:=(te (.mk n ks) 4 (by omega)).1 s4
     simp only[right,s4,aE,decide_eq_true_eq]
     have mm:∀(k:Nat)(t:Term)(d:Nat),d+k≤4→bN t d=true→many t (d+k)=many t d:=by
      intro k
      induction k with
      | zero=>intro t d _ _;rfl
      | succ k ih=>
        intro t d hk h
        have h1:=ih t d (by omega) h
        have:∀(d:Nat)(t:Term),bN t d=true→many t (d+1)=many t d:=by
         intro d
         induction d with
         | zero=>intro t h;cases t;simp[bN] at h
         | succ d ihd=>
           intro t h
           cases t with
           | mk n ks=>
             simp only[bN,ai] at h
             have hs:∀(ks:List Term),cL ks d=true→lS ks (d+1)=lS ks d:=by
              intro ks
              induction ks with
              | nil=>intro _;simp[lS]
              | cons a as iha=>
                intro h
                simp only[cL,ai] at h
                simp only[lS,ihd a h.1,iha h.2]
             simp only[many,hs ks h.2.2]
        rw[←iP,this (d+k) t (up k t d (by omega) h),h1]
     have:=mm (4-(d+1)) (.mk n ks) (d+1) (by omega) h
     rw[show d+1+(4-(d+1))=4 by omega] at this
     omega
   ·exact hk u hu
theorem uh:∀(ts:List Term)(d:Nat)(l:List Term),d≤4→cL ts d=true→lS ts d≤12→(∀u∈l,isTerm u=true)→∀u∈a6 l ts,isTerm u=true
 | [],_,l,_,_,_,hl,u,hu=>hl u (by simpa[a6] using hu)
 | t::ts,d,l,hd,h,hm,hl,u,hu=>by
   simp only[cL,ai] at h
   simp only[lS] at hm
   simp only[a6] at hu
   exact uh ts d _ hd h.2 (by omega) (wC t d l hd h.1 (by omega) hl) u hu
end
theorem um:∀(ts l:List Term),(∀t∈ts,isTerm t=true)→(∀u∈l,isTerm u=true)→∀u∈a6 l ts,isTerm u=true
 | [],l,_,hl,u,hu=>hl u (by simpa[a6] using hu)
 | t::ts,l,ht,hl,u,hu=>by
   simp only[a6] at hu
   have h4:=ht t (by simp)
   have hr:=h4
   rw[←Bh] at hr
   simp only[right,ai,decide_eq_true_eq] at hr
   exact um ts _ (fun x hx=>ht x (by simp[hx])) (wC t 4 l (by omega) hr.1 hr.2 hl) u hu
theorem qR{ts:List Term}(h:∀t∈ts,isTerm t=true):∀u∈je ts,isTerm u=true:=by
 rw[iL h]
 exact um ts [] h (by simp)
theorem zi{ts:List Term}(h:∀t∈ts,isTerm t=true):∀t∈ts,t∈je ts:=by
 rw[iL h]
 exact sq ts []
theorem Gq{ab:List bl}{i:Nat}(h:i<ab.length):a7 (ab.take (i+1))=a7 (ab.take i)++(if ab[i].atom.kind=1∧ab[i].no=false then [⟨ab[i].atom.A,ab[i].atom.B⟩] else []):=by
 rw[pn h]
 simp only[a7,List.filterMap_append,List.filterMap_cons,List.filterMap_nil]
 split<;>simp_all
theorem Kg(ab:List bl):(a7 ab).length≤ab.length:=by
 unfold a7
 exact List.length_filterMap_le ..
theorem GU{nums:List Term}:∀{ts:List Term}{ns cs:List Int}{i:Nat}(h:i<ts.length)(h':i<ns.length),jY nums (ts.take (i+1)) (ns.take (i+1)) cs=mR (jY nums (ts.take i) (ns.take i) cs) (bL nums ts[i]) ns[i]
 | [],_,_,_,h,_=>by simp at h
 | _::_,[],_,_,_,h=>by simp at h
 | t::ts,n::ns,cs,0,_,_=>by simp[jY]
 | t::ts,n::ns,cs,i+1,h,h'=>by
   simp only[dY,jY,jy]
   exact GU (by simpa using h) (by simpa using h')
theorem JV{nums:List Term}:∀{ts:List Term}{ns cs:List Int},(jY nums ts ns cs).length=cs.length
 | [],_,_=>by simp[jY]
 | _::_,[],_=>by simp[jY]
 | t::ts,n::ns,cs=>by simp only[jY];rw[JV,yq]
theorem DJ:∀{cs:List Int}{i v m k:Int},(∀c∈cs,-m≤c∧c≤m) → -k≤v→v≤k→0≤k→∀c∈mR cs i v,-(m+k)≤c∧c≤m+k
 | [],i,v,m,k,_,_,_,_,c,hc=>by simp[mR] at hc
 | a::cs,i,v,m,k,h,h1,h2,h3,c,hc=>by
   have ha:=h a (by simp)
   simp only[mR] at hc
   split at hc
   ·rcases ax.1 hc with rfl|hc
    ·omega
    ·have:=h c (by simp[hc]);omega
   ·rcases ax.1 hc with rfl|hc
    ·omega
    ·exact DJ (fun x hx=>h x (by simp[hx])) h1 h2 h3 c hc
theorem Dw{nums:List Term}:∀{ts:List Term}{ns cs:List Int}{m:Int},(∀c∈cs,-m≤c∧c≤m)→(∀n∈ns,-50≤n∧n≤50)→0≤m→∀c∈jY nums ts ns cs,-(m+50*ts.length)≤c∧c≤m+50*ts.length
 | [],_,cs,m,h,_,_,c,hc=>by simp only[jY] at hc;have:=h c hc;simp;omega
 | _::_,[],cs,m,h,_,_,c,hc=>by simp only[jY] at hc;have:=h c hc;omega
 | t::ts,n::ns,cs,m,h,hn,hm,c,hc=>by
   simp only[jY] at hc
   have h1:=hn n (by simp)
   have:=Dw (m:=m+50) (DJ h h1.1 h1.2 (by omega)) (fun x hx=>hn x (by simp[hx])) (by omega) c hc
   simp only[aW]
   omega
theorem CC{cs:List Int}{i:Nat}{v:Int}(h:i<cs.length):(bI cs).set i [.val (.int .i64 v)]=bI (cs.set i v):=by
 simp[bI,List.map_set]
theorem DB{nums:List Term}{ab:List bl}{i:Nat}(h:i<ab.length):dX nums (ab.take (i+1))=dX nums (ab.take i)++jf nums ab[i]:=by
 rw[pn h]
 simp only[dX,List.flatMap_append,jj,List.flatMap_nil,bm]
theorem NM(nums:List Term)(l:bl):(jf nums l).length≤2:=by
 unfold jf
 split
 ·simp
 ·split<;>simp
theorem Aq(nums:List Term):∀(ab:List bl),(dX nums ab).length≤2*ab.length
 | []=>by simp[dX]
 | l::ls=>by
   have h1:=NM nums l
   have h2:=Aq nums ls
   simp only[dX,jj,aR,aW] at h2⊢
   omega
structure Fit(nums:List Term)(l:bl):Prop where
 wf:cP l.atom=true
 sum:l.atom.kind=2→∀t∈l.atom.nums,t∈nums
 eq:l.atom.kind=1→(l.atom.A∈nums↔l.atom.B∈nums)
theorem Ws(a b:UInt8):(a<b∧¬b<a∧a≠b)∨(a=b∧¬a<b∧¬b<a)∨(b<a∧¬a<b∧a≠b):=by
 simp only[UInt8.lt_iff_toNat_lt,ne_eq,←UInt8.toNat_inj]
 omega
theorem Fj:∀(a b:List UInt8),(!(Op.bytesLess a b||decide (a=b)))=Op.bytesLess b a
 | [],[]=>by simp[Op.bytesLess]
 | [],_::_=>by simp[Op.bytesLess]
 | _::_,[]=>by simp[Op.bytesLess]
 | a::x,b::y=>by
   have ih:=Fj x y
   rcases Ws a b with⟨h1,h2,h3⟩|⟨rfl,h1,h2⟩|⟨h1,h2,h3⟩
   ·have h4:¬b=a:=fun h=>h3 h.symm
    simp[Op.bytesLess,h1,h2,h4]
   ·simp[Op.bytesLess,h1,←ih]
   ·have h4:¬b=a:=fun h=>h3 h.symm
    simp[Op.bytesLess,h1,h2,h3]
theorem tc:∀(a:List UInt8),Op.bytesLess a a=false
 | []=>rfl
 | a::x=>by simp[Op.bytesLess,tc x]
theorem vU:∀{a b c:List UInt8},Op.bytesLess a b=true→Op.bytesLess b c=true→Op.bytesLess a c=true
 | _,[],_,h,_=>by simp[Op.bytesLess] at h
 | _,_::_,[],_,h=>by simp[Op.bytesLess] at h
 | [],_::_,_::_,_,_=>by simp[Op.bytesLess]
 | a::x,b::y,c::z,h1,h2=>by
   simp only[Op.bytesLess,Bool.or_eq_true,decide_eq_true_eq,ai,beq_iff_eq] at h1 h2⊢
   rcases h1 with h1|⟨rfl,h1⟩
   ·rcases h2 with h2|⟨rfl,h2⟩
    ·left
     rw[UInt8.lt_iff_toNat_lt] at *
     omega
    ·exact .inl h1
   ·rcases h2 with h2|⟨rfl,h2⟩
    ·exact .inl h2
    ·exact .inr ⟨rfl,vU h1 h2⟩
theorem Mf{a b:List UInt8}(h:Op.bytesLess a b=true):a≠b:=by
 rintro rfl
 rw[tc] at h
 cases h
theorem Af{a b:List UInt8}(h:a≠b)(h2:Op.bytesLess a b=false):Op.bytesLess b a=true:=by
 rw[←Fj a b,h2]
 simp[h]
theorem Kw:∀{ts:List Term}{ns:List Int}{q:Term},k9 (some q) ts ns=true→ns.length=ts.length→∀t∈ts,gC (aO q) (aO t)=true
 | [],_,_,_,_=>by simp
 | _::_,[],_,_,hl=>by simp at hl
 | t::ts,n::ns,q,h,hl=>by
   rw[qE] at h
   simp only[ai] at h
   intro u hu
   rcases ax.1 hu with rfl|hu
   ·exact h.2.2.2.1
   ·exact vU h.2.2.2.1 (Kw h.2.2.2.2 (by simpa using hl) u hu)
theorem BI:∀{ts:List Term}{ns:List Int}{p:Option Term},k9 p ts ns=true→ns.length=ts.length→ts.Nodup
 | [],_,_,_,_=>by simp
 | _::_,[],_,_,hl=>by simp at hl
 | t::ts,n::ns,p,h,hl=>by
   rw[qE] at h
   simp only[ai] at h
   have hl:ns.length=ts.length:=by simpa using hl
   refine cJ.2 ⟨fun hm=>?_,BI h.2.2.2.2 hl⟩
   exact Mf (Kw h.2.2.2.2 hl t hm) rfl
def acG(eqs:List fF)(iX n:Int)(t:Term)(kids:List fF):fF×Bool:=
 if iX≠2∧n≠0 then(u5,false) else
 if iX=1∧kids.length=0 then(⟨t,t⟩,isTerm t) else
 if iX=2∧kids.length=0∧isNone t=true∧0≤n∧n<eqs.length then(eqs.getD n.toNat u5,true) else
 if iX=3∧kids.length=1∧isNone t=true then(⟨(kids.getD 0 u5).B,(kids.getD 0 u5).A⟩,true) else
 if iX=4∧kids.length=2∧isNone t=true then(⟨(kids.getD 0 u5).A,(kids.getD 1 u5).B⟩,decide ((kids.getD 0 u5).B=(kids.getD 1 u5).A)) else
 if iX=5∧0<kids.length∧t.kids.length=0 then(⟨.mk t.name (kids.map (·.A)),.mk t.name (kids.map (·.B))⟩,isTerm (.mk t.name (kids.map (·.A)))&&isTerm (.mk t.name (kids.map (·.B)))) else
 (u5,false)
def Alike(x y:fF×Bool):Prop:=x.2=y.2∧(x.2=true→x.1=y.1)
theorem N9{n:nE}{ks:List Term}(h:isTerm (.mk n ks)=true):fI n=true:=by
 have:=gN h
 simp only[bN,ai] at this
 exact this.1
theorem KG{nums:List Term}:∀{ts:List Term}{ns cs:List Int},(ob nums ts ns cs).length=cs.length
 | [],_,_=>by simp[ob]
 | _::_,[],_=>by simp[ob]
 | t::ts,n::ns,cs=>by simp only[ob];rw[KG,List.length_set]
theorem AD{nums:List Term}:∀{ts:List Term}{ns cs:List Int}{i:Nat}(h:i<ts.length)(h':i<ns.length),ob nums (ts.take (i+1)) (ns.take (i+1)) cs=(ob nums (ts.take i) (ns.take i) cs).set (bL nums ts[i]).toNat ns[i]
 | [],_,_,_,h,_=>by simp at h
 | _::_,[],_,_,_,h=>by simp at h
 | t::ts,n::ns,cs,0,_,_=>by simp[ob]
 | t::ts,n::ns,cs,i+1,h,h'=>by
   simp only[dY,ob,jy]
   exact AD (by simpa using h) (by simpa using h')
theorem Te{nums ts:List Term}{ns:List Int}{b:Int}{st:Bool}(hn:k9 none ts ns=true)(hl:ns.length=ts.length)(kF:∀t∈ts,t∈nums):lW nums ts ns b st=⟨ob nums ts ns [0,0,0,0],b,st⟩:=by
 rw[lW,OV (BI hn hl) fun t ht=>⟨kF t ht,VD _⟩]
theorem Qk(nums:List Term)(a b:Term):lW nums [a,b] [-1,1] 0 false=lW nums [b,a] [1,-1] 0 false:=by
 simp only[lW,jY]
 rw[HF]
theorem Gr{nums:List Term}{a b:Term}(ha:a∈nums)(hb:b∈nums)(ta:isTerm a=true)(tb:isTerm b=true):Fit nums (gx a b):=by
 refine⟨?_,fun h=>?_,fun _=>?_⟩
 ·simp[cP,gx,xj,ta,tb]
 ·simp[gx,xj] at h
 ·simp[gx,xj,ha,hb]
theorem R6{a b:Term}(ta:isTerm a=true)(tb:isTerm b=true)(h:gC (aO a) (aO b)=true)(m n:Int)(hm:within m (-50) 50=true)(hn:within n (-50) 50=true)(hm0:m≠0)(hn0:n≠0):cP ⟨2,aL,aL,[a,b],[m,n],0,true⟩=true:=by
 have h2:k9 none [a,b] [m,n]=true:=by
  rw[qE,qE]
  have e:k9 (some b) [] []=true:=rfl
  simp[ta,tb,hm,hn,hm0,hn0,h,e]
 have e:cP ⟨2,aL,aL,[a,b],[m,n],0,true⟩=(isNone aL&&(isNone aL&&(within ([a,b].length:Int) 1 4&&(decide ([m,n].length=[a,b].length)&&(within 0 (-1000) 1000&&k9 none [a,b] [m,n]))))):=rfl
 rw[e,h2]
 rfl
theorem xm{nums:List Term}{a b:Term}(ha:a∈nums)(hb:b∈nums)(ta:isTerm a=true)(tb:isTerm b=true)(jD:a≠b):Fit nums (dL a b):=by
 have ht:aO a≠aO b:=fun h=>jD (Bp ta tb h)
 unfold dL
 cases h:gC (aO b) (aO a)
 ·have h2:gC (aO a) (aO b)=true:=Af (a:=aO b) (b:=aO a) (fun e=>ht e.symm) h
  refine⟨R6 ta tb h2 1 (-1) rfl rfl (by omega) (by omega),fun _ t hm=>?_,fun h=>?_⟩
  ·simp only[aw,if_false,ax,ba,or_false] at hm
   rcases hm with rfl|rfl
   ·exact ha
   ·exact hb
  ·simp at h
 ·refine⟨R6 tb ta h (-1) 1 rfl rfl (by omega) (by omega),fun _ t hm=>?_,fun h=>?_⟩
  ·simp only[if_true,ax,ba,or_false] at hm
   rcases hm with rfl|rfl
   ·exact hb
   ·exact ha
  ·simp at h
theorem rN{s:dI}{ab:List bl}(h:e6 s ab=true):(∀l∈ab,Fit (numsOf s ab) l)∧(∀t∈numsOf s ab,isTerm t=true)∧(numsOf s ab).length≤4∧ab.length≤6∧fO s=true∧(∀l∈ab,cP l.atom=true)∧(∀t∈az ab,isTerm t=true)∧(az ab).length≤24:=by
 simp only[e6,ai,decide_eq_true_eq,cg] at h
 obtain⟨⟨⟨⟨hs,h6⟩,hA⟩,h24⟩,h4⟩:=h
 have hw:∀l∈ab,cP l.atom=true:=by
  intro l hl
  have:=hA l hl
  simp only[fk,ai] at this
  exact this.2.1
 have e7:=(iW hw).2
 have htt:∀t∈az ab,isTerm t=true:=by rw[jP];exact qR e7
 have kF:∀l∈ab,∀t∈cd l.atom,t∈az ab:=by
  intro l hl t ht
  rw[jP]
  exact zi e7 t (List.mem_flatMap.2 ⟨l,hl,ht⟩)
 have hnum:∀t,t∈numsOf s ab↔t∈az ab∧dx s t=true:=fun t=>List.mem_filter
 refine⟨fun l hl=>⟨hw l hl,fun k t ht=>?_,fun k=>?_⟩,fun t ht=>htt t ((hnum t).1 ht).1,h4,h6,hs,hw,htt,h24⟩
 ·have hk1:¬l.atom.kind=1:=by omega
  have ha:=hA l hl
  simp only[fk,ai,hk1,if_false,cg] at ha
  have hm:t∈cd l.atom:=by simp only[cd,hk1,if_false];exact ht
  exact(hnum t).2 ⟨kF l hl t hm,ha.2.2 t ht⟩
 ·have ha:=hA l hl
  simp only[fk,ai,k,if_true,gG,decide_eq_true_eq] at ha
  have hm:l.atom.A∈az ab∧l.atom.B∈az ab:=by
   have:cd l.atom=[l.atom.A,l.atom.B]:=by simp[cd,k]
   exact⟨kF l hl _ (by rw[this];simp),kF l hl _ (by rw[this];simp)⟩
  rw[hnum,hnum]
  simp only[hm.1,hm.2,true_and,dx,ha.2.2.2]
theorem rC(s:dI)(nums:List Term)(c:Case)(ab:List bl)(bt:Nat):ie s nums c ab bt =
 if 14<bt then false else
 if c.kind=1 then bare c true true false false 0&&(within c.n 0 (ab.length-1)&&(match ko s (a7 ab) c.sP,ab[c.n.toNat]? with
  | some e,some l=>l.no&&(decide (l.atom.kind=1)&&(decide (e.A=l.atom.A)&&decide (e.B=l.atom.B)))
  | _,_=>false)) else
 if c.kind=2 then bare c false false true false 0&&qm (dX nums ab) c.times else
 if c.kind=3 then bare c false true false false 1&&(match ko s (a7 ab) c.sP with
  | some e=>Mod.differ nums e.A e.B&&iI s nums c.kids [ab++[gx e.A e.B]] (bt+1)
  | none=>false) else
 if c.kind=4 then bare c false false false true 3&&(Mod.differ nums c.A c.B&&iI s nums c.kids ((fm c.A c.B).map fun l=>ab++[l]) (bt+1)) else
 false:=by
 cases c
 simp only[ie]
 rfl
theorem SQ(s:dI)(nums:List Term)(c:Case)(cs:List Case)(l:List bl)(d:Nat)(h:cs=[c]):iI s nums cs [l] d=ie s nums c l d:=by
 rw[h]
 simp[iI]
theorem aao{α:Type}{l:List α}(h:l.length=1)(h0:0<l.length):l=[l[0]]:=by
 match l,h with
 | [a],_=>rfl
theorem om{a:Rat}:bW a=true↔(-1000000000≤a.N∧a.N≤1000000000)∧(1≤a.D∧a.D≤1000000000)∧bM a.N a.D=1:=by
 simp only[bW,ai,dk,decide_eq_true_eq]
 constructor
 ·rintro⟨h1,h2,h3⟩;exact⟨h1,h2,by omega⟩
 ·rintro⟨h1,h2,h3⟩;exact⟨h1,h2,by omega⟩
theorem X5{a b:Rat}(h1:a.N=b.N)(h2:a.D=b.D):a=b:=by cases a;cases b;simp_all
theorem C6{a b:Rat}(ha:bW a=true)(hb:bW b=true)(h:a.N*b.D=b.N*a.D):a=b:=by
 rw[om] at ha hb
 obtain⟨_,⟨a1,_⟩,ag⟩:=ha
 obtain⟨_,⟨b1,_⟩,bg⟩:=hb
 have hn:a.N.natAbs*b.D.natAbs=b.N.natAbs*a.D.natAbs:=by rw[←Int.natAbs_mul,←Int.natAbs_mul,h]
 have ca:Nat.Coprime a.D.natAbs a.N.natAbs:=by rw[Nat.Coprime,Nat.gcd_comm];exact ag
 have cb:Nat.Coprime b.D.natAbs b.N.natAbs:=by rw[Nat.Coprime,Nat.gcd_comm];exact bg
 have d1:a.D.natAbs∣b.D.natAbs:=ca.dvd_of_dvd_mul_left ⟨b.N.natAbs,by rw[hn,Nat.mul_comm]⟩
 have d2:b.D.natAbs∣a.D.natAbs:=cb.dvd_of_dvd_mul_left ⟨a.N.natAbs,by rw[←hn,Nat.mul_comm]⟩
 have e:a.D.natAbs=b.D.natAbs:=Nat.dvd_antisymm d1 d2
 have eD:a.D=b.D:=by omega
 refine X5 ?_ eD
 rw[eD] at h
 exact Int.eq_of_mul_eq_mul_right (by omega) h
theorem fJ{a b:Rat}(ha:bW a=true)(hb:bW b=true):c8 a b=true↔a.N*b.D<b.N*a.D:=by
 simp[c8,ha,hb]
theorem D4{a b:Rat}(ha:bW a=true)(hb:bW b=true):oy a b=0↔a=b:=by
 constructor
 ·intro h
  unfold oy at h
  split at h
  ·omega
  ·rename_i h1
   split at h
   ·omega
   ·rename_i h2
    rw[fJ ha hb] at h1
    rw[fJ hb ha] at h2
    exact C6 ha hb (by omega)
 ·rintro rfl
  have:c8 a a=false:=by
   cases h:c8 a a
   ·rfl
   ·rw[fJ ha ha] at h;omega
  simp[oy,this]
theorem Rh{a b:Rat}:oy a b<0↔c8 a b=true:=by
 unfold oy
 split
 ·rename_i h;simp[h]
 ·rename_i h
  split<;>simp_all
theorem IY{a b c:Rat}(ha:bW a=true)(hb:bW b=true)(hc:bW c=true)(h1:c8 a b=true)(h2:c8 b c=true):c8 a c=true:=by
 rw[fJ ha hb] at h1
 rw[fJ hb hc] at h2
 rw[fJ ha hc]
 rw[om] at ha hb hc
 have e1:a.N*b.D*c.D<b.N*a.D*c.D:=Int.mul_lt_mul_of_pos_right h1 (by omega)
 have e2:b.N*c.D*a.D<c.N*b.D*a.D:=Int.mul_lt_mul_of_pos_right h2 (by omega)
 have e3:b.N*a.D*c.D=b.N*c.D*a.D:=by rw[nK,Int.mul_comm a.D,←nK]
 have e4:a.N*c.D*b.D<c.N*a.D*b.D:=by
  rw[nK,Int.mul_comm c.D,←nK,nK c.N,Int.mul_comm a.D,←nK]
  omega
 exact Int.lt_of_mul_lt_mul_right e4 (by omega)
def dN(as:List Rat):Bool:=as.all bW
theorem vh:∀{as bs:List Rat},dN as=true→dN bs=true→(hJ as bs=0↔as=bs)
 | [],[],_,_=>by simp[hJ]
 | [],b::bs,_,_=>by simp[hJ]
 | a::as,[],_,_=>by simp[hJ]
 | a::as,b::bs,ha,hb=>by
   simp only[dN,b8,ai] at ha hb
   have h:=D4 ha.1 hb.1
   have h2:=vh (as:=as) (bs:=bs) ha.2 hb.2
   simp only[hJ]
   split
   ·rename_i e;rw[h2,List.cons.injEq,h.1 e];simp
   ·rename_i e
    constructor
    ·intro e2;exact absurd e2 e
    ·intro e2;rw[List.cons.injEq] at e2;exact absurd (h.2 e2.1) e
def gk:List Rat→List Rat→Bool
 | a::as,b::bs=>if a=b then gk as bs else c8 a b
 | _,_=>false
def dA(a b:Row):Bool:=if a.name=b.name then(if a.args.length=b.args.length then gk a.args b.args else decide (a.args.length<b.args.length)) else gC a.name b.name
theorem DE:∀{as bs:List Rat},dN as=true→dN bs=true→as.length=bs.length→(hJ as bs<0↔gk as bs=true)
 | [],[],_,_,_=>by simp[hJ,gk]
 | [],b::bs,_,_,h=>by simp at h
 | a::as,[],_,_,h=>by simp at h
 | a::as,b::bs,ha,hb,hl=>by
   simp only[dN,b8,ai] at ha hb
   have h:=D4 ha.1 hb.1
   have h2:=DE (as:=as) (bs:=bs) ha.2 hb.2 (by simpa using hl)
   simp only[hJ,gk]
   split
   ·rename_i e;rw[if_pos (h.1 e),h2]
   ·rename_i e;rw[if_neg (fun x=>e (h.2 x)),Rh]
theorem qK{a b:nE}:nW a b=0↔a=b:=by
 unfold nW
 constructor
 ·intro h
  split at h
  ·omega
  ·rename_i h1
   split at h
   ·omega
   ·rename_i h2
    rcases aa (a=b) with e|e
    ·exact e
    ·exact absurd (Af e (by simpa[gC] using h1)) h2
 ·rintro rfl
  simp[gC,tc]
theorem Rc{a b:nE}:nW a b<0↔gC a b=true:=by
 unfold nW
 split
 ·rename_i h;simp[h]
 ·rename_i h
  split<;>simp_all
theorem xk{a b:Int}:oJ a b=0↔a=b:=by unfold oJ;split<;>(try split)<;>omega
theorem Qm{a b:Int}:oJ a b<0↔a<b:=by unfold oJ;split<;>(try split)<;>omega
theorem qM{a b:Row}(ha:dN a.args=true)(hb:dN b.args=true):fl a b=0↔a.name=b.name∧a.args=b.args:=by
 unfold fl
 constructor
 ·intro h
  split at h
  ·rename_i e;exact absurd h e
  ·rename_i e
   split at h
   ·rename_i e2;exact absurd h e2
   ·exact⟨qK.1 (o4.1 e),(vh ha hb).1 h⟩
 ·rintro⟨e,e2⟩
  have h1:nW a.name b.name=0:=qK.2 e
  have h2:oJ a.args.length b.args.length=0:=xk.2 (by rw[e2])
  have h3:hJ a.args b.args=0:=(vh ha hb).2 e2
  simp[h1,h2,h3]
theorem lH{a b:Row}(ha:dN a.args=true)(hb:dN b.args=true):fl a b<0↔dA a b=true:=by
 unfold fl dA
 split
 ·rename_i e
  rw[if_neg (fun x=>e (qK.2 x)),Rc]
 ·rename_i e
  rw[if_pos (qK.1 (o4.1 e))]
  split
  ·rename_i e2
   have:¬a.args.length=b.args.length:=fun x=>e2 (xk.2 (by rw[x]))
   rw[if_neg this,Qm]
   simp
  ·rename_i e2
   have:=xk.1 (o4.1 e2)
   have h3:a.args.length=b.args.length:=by omega
   rw[if_pos h3,DE ha hb h3]
theorem xL:∀{as bs cs:List Rat},dN as=true→dN bs=true→dN cs=true→gk as bs=true→gk bs cs=true→gk as cs=true
 | [],_,_,_,_,_,h,_=>by simp[gk] at h
 | _::_,[],_,_,_,_,h,_=>by simp[gk] at h
 | _::_,_::_,[],_,_,_,_,h=>by simp[gk] at h
 | a::as,b::bs,c::cs,ha,hb,hc,h1,h2=>by
   simp only[dN,b8,ai] at ha hb hc
   simp only[gk] at h1 h2⊢
   split at h1
   ·rename_i e
    subst e
    split at h2
    ·rename_i e2
     rw[if_pos e2]
     exact xL ha.2 hb.2 hc.2 h1 h2
    ·rename_i e2
     rw[if_neg e2];exact h2
   ·rename_i e
    split at h2
    ·rename_i e2
     subst e2
     rw[if_neg e];exact h1
    ·have h3:=IY ha.1 hb.1 hc.1 h1 h2
     have:¬a=c:=by
      rintro rfl
      rw[fJ ha.1 ha.1] at h3;omega
     rw[if_neg this];exact h3
theorem qc{a b c:Row}(ha:dN a.args=true)(hb:dN b.args=true)(hc:dN c.args=true)(h1:dA a b=true)(h2:dA b c=true):dA a c=true:=by
 unfold dA at h1 h2⊢
 split at h1
 ·rename_i e
  rw[e]
  split at h2
  ·rename_i e2
   rw[if_pos e2]
   split at h1
   ·rename_i l1
    rw[l1]
    split at h2
    ·rename_i l2
     rw[if_pos l2]
     exact xL ha hb hc h1 h2
    ·rename_i l2
     rw[if_neg l2];exact h2
   ·rename_i l1
    simp only[decide_eq_true_eq] at h1
    split at h2
    ·rename_i l2
     rw[if_neg (by omega)];simp;omega
    ·simp only[decide_eq_true_eq] at h2
     rw[if_neg (by omega)];simp;omega
  ·rename_i e2
   rw[if_neg e2];exact h2
 ·rename_i e
  split at h2
  ·rename_i e2
   rw[←e2,if_neg e];exact h1
  ·have h3:gC a.name c.name=true:=vU h1 h2
   rw[if_neg (Mf h3)];exact h3
theorem lD{r:Row}(h:kU r=true):dN r.args=true:=by
 simp only[kU,ai] at h
 exact h.2.2.2
def km:Option Row→List Row→Bool
 | _,[]=>true
 | p,r::rs=>kU r&&((match p with|none=>true|some q=>dA q r)&&km (some r) rs)
theorem Dh:∀(rs:List Row)(p:Option Row),(∀q,p=some q→kU q=true)→vP p rs=km p rs
 | [],_,_=>rfl
 | r::rs,p,hp=>by
   simp only[vP,km]
   cases hr:kU r
   ·rfl
   ·rw[Dh rs (some r) (fun q e=>by cases e;exact hr)]
    cases p with
    | none=>rfl
    | some q=>
      have h:=lH (lD (hp q rfl)) (lD hr)
      have:decide (fl q r<0)=dA q r:=by
       cases hl:dA q r
       ·simp only[decide_eq_false_iff_not];rw[h,hl];simp
       ·simp only[decide_eq_true_eq];rw[h,hl]
      simp only[this]
theorem vj:∀{rs:List Row}{p:Option Row},km p rs=true→∀r∈rs,kU r=true
 | [],_,_,r,hr=>by simp at hr
 | a::rs,p,h,r,hr=>by
   simp only[km,ai] at h
   rcases ax.1 hr with rfl|hr
   ·exact h.1
   ·exact vj h.2.2 r hr
theorem zR:∀{rs:List Row}{q:Row},kU q=true→km (some q) rs=true→∀r∈rs,dA q r=true
 | [],_,_,_,r,hr=>by simp at hr
 | a::rs,q,hq,h,r,hr=>by
   simp only[km,ai] at h
   rcases ax.1 hr with rfl|hr
   ·exact h.2.1
   ·exact qc (lD hq) (lD h.1) (lD (vj h.2.2 r hr)) h.2.1 (zR h.1 h.2.2 r hr)
theorem zo:∀{rs:List Row}{p:Option Row},km p rs=true→rs.Pairwise (fun a b=>dA a b=true)
 | [],_,_=>List.Pairwise.nil
 | a::rs,p,h=>by
   simp only[km,ai] at h
   exact List.Pairwise.cons (fun r hr=>zR h.1 h.2.2 r hr) (zo h.2.2)
theorem nb{m:Model}(h:fh m=true):m.rows.length≤40∧(∀r∈m.rows,kU r=true)∧m.rows.Pairwise (fun a b=>dA a b=true):=by
 simp only[fh,ai,decide_eq_true_eq] at h
 rw[Dh _ none (by simp)] at h
 exact⟨h.1,vj h.2,zo h.2⟩
def cut:List Row→Row→Nat
 | [],_=>0
 | r::rs,t=>if fl r t<0 then cut rs t+1 else 0
theorem QF:∀(rs:List Row)(t:Row),cut rs t≤rs.length
 | [],_=>by simp[cut]
 | r::rs,t=>by
   have:=QF rs t
   simp only[cut,aW]
   split<;>omega
def lL(rs:List Row)(t:Row):Prop:=rs.Pairwise (fun a b=>fl b t<0→fl a t<0)
theorem tC:∀{rs:List Row}{t:Row},lL rs t→∀(k:Nat)(h:k<rs.length),k<cut rs t↔fl rs[k] t<0
 | [],_,_,k,h=>by simp at h
 | r::rs,t,hm,k,h=>by
   obtain⟨h1,h2⟩:=n8.1 hm
   simp only[cut]
   cases k with
   | zero=>
     simp only[List.getElem_cons_zero]
     split<;>simp_all
   | succ k=>
     simp only[jy]
     have hk:k<rs.length:=by simpa using h
     have h3:=tC (rs:=rs) (t:=t) h2 k hk
     split
     ·rw[←h3];omega
     ·rename_i hn
      constructor
      ·intro x;omega
      ·intro x;exact absurd (h1 _ (List.getElem_mem hk) x) hn
theorem aaH{rs:List Row}{t:Row}(hm:lL rs t){i:Nat}(hi:i≤rs.length)(h1:∀(k:Nat)(h:k<rs.length),k<i→fl rs[k] t<0)(h2:∀(k:Nat)(h:k<rs.length),i≤k→¬fl rs[k] t<0):cut rs t=i:=by
 have h3:=QF rs t
 rcases Nat.lt_trichotomy (cut rs t) i with h|h|h
 ·have h4:=(tC hm (cut rs t) (by omega)).2 (h1 _ (by omega) h)
  omega
 ·exact h
 ·have h4:=(tC hm i (by omega)).1 h
  exact absurd h4 (h2 i (by omega) (Nat.le_refl i))
theorem Yr{m:Model}{t:Row}(h:fh m=true)(ht:dN t.args=true):lL m.rows t:=by
 obtain⟨_,h1,h2⟩:=nb h
 refine List.Pairwise.imp_of_mem ?_ h2
 intro a b ha hb hab hbt
 have wa:=lD (h1 a ha)
 have wb:=lD (h1 b hb)
 rw[lH wb ht] at hbt
 rw[lH wa ht]
 exact qc wa wb ht hab hbt
def found(rs:List Row)(t:Row):Bool:=match rs[cut rs t]? with|some r=>decide (fl r t=0)|none=>false
theorem Oi:∀{rs:List Row}{t:Row},(∀r∈rs,dN r.args=true)→dN t.args=true→rs.Pairwise (fun a b=>dA a b=true) →
 rs.find? (fun r=>decide (r.name=t.name∧r.args=t.args))=if found rs t then rs[cut rs t]? else none
 | [],_,_,_,_=>by simp[found]
 | r::rs,t,hr,ht,hp=>by
   obtain⟨h1,h2⟩:=n8.1 hp
   have ih:=Oi (rs:=rs) (t:=t) (fun x hx=>hr x (bh _ hx)) ht h2
   have wr:=hr r (by simp)
   have hz:=qM wr ht
   rw[List.find?_cons]
   rcases aa (r.name=t.name∧r.args=t.args) with e|e
   ·have hc:=hz.2 e
    have hcut:cut (r::rs) t=0:=by simp[cut,hc]
    simp[e,found,hcut,hc]
   ·simp only[e,decide_false]
    rw[ih]
    rcases aa (fl r t<0) with hn|hn
    ·have hc2:cut (r::rs) t=cut rs t+1:=by simp[cut,hn]
     have hf2:found (r::rs) t=found rs t:=by simp only[found,hc2,lr]
     rw[hf2,hc2,lr]
    ·have hcut:cut (r::rs) t=0:=by simp[cut,hn]
     have hf:found (r::rs) t=false:=by simp[found,hcut,hz,e]
     rw[hf]
     have:found rs t=false:=by
      unfold found
      split
      ·rename_i q hq
       have hq':q∈rs:=List.mem_of_getElem? hq
       simp only[decide_eq_false_iff_not]
       intro hc
       have hb:=(qM (hr q (bh _ hq')) ht).1 hc
       have hl:=h1 q hq'
       apply hn
       rw[lH wr ht]
       have:dA r q=dA r t:=by simp only[dA,hb.1,hb.2]
       rw[←this];exact hl
      ·rfl
     simp[this]
theorem P8{m:Model}{t:Row}(h:fh m=true)(ht:dN t.args=true):lookup m.rows t.name t.args=if found m.rows t then(m.rows.getD (cut m.rows t) t).val else⟨0,1⟩:=by
 obtain⟨_,h1,h2⟩:=nb h
 unfold lookup
 rw[Oi (fun r hr=>lD (h1 r hr)) ht h2]
 cases hf:found m.rows t
 ·simp
 ·unfold found at hf
  cases hx:m.rows[cut m.rows t]? with
  | none=>simp[hx] at hf
  | some r=>simp[hx,ct]
theorem abE:bW ⟨0,1⟩=true:=by decide
theorem T2{m:Model}(h:fh m=true)(n:nE)(as:List Rat):bW (lookup m.rows n as)=true:=by
 obtain⟨_,h1,_⟩:=nb h
 unfold lookup
 split
 ·rename_i r hr
  have:=h1 r (ff hr)
  simp only[kU,ai] at this
  exact this.2.2.1
 ·exact abE
theorem HV(m:Model)(t:Term):value m t=lookup m.rows t.name (values m t.kids):=by cases t;rfl
theorem mV(m:Model):∀(ts:List Term),values m ts=ts.map (value m)
 | []=>rfl
 | t::ts=>by simp only[values,List.map_cons,mV m ts]
theorem H3{m:Model}(h:fh m=true)(t:Term):bW (value m t)=true:=by rw[HV];exact T2 h _ _
theorem Jt{m:Model}(h:fh m=true)(ts:List Term):dN (values m ts)=true:=by
 rw[mV]
 simp only[dN,List.all_map,cg,Function.comp]
 intro t _
 exact H3 h t
theorem GG(m:Model)(ts:List Term):(values m ts).length=ts.length:=by rw[mV];simp
theorem qy{n:Int}(h1:-1000000000≤n)(h2:n≤1000000000):bW (whole n)=true:=by
 rw[om]
 exact⟨⟨h1,h2⟩,⟨Int.le_refl 1,by show(1:Int)≤1000000000;omega⟩,Int.gcd_one_right n⟩
theorem Ko{n d:Int}(h:(iw n d).2=true):bW (iw n d).1=true:=by
 unfold iw at h⊢
 split
 ·rename_i h0;rw[if_pos h0] at h;cases h
 ·rename_i h0
  rw[if_neg h0] at h
  simp only at h⊢
  generalize (⟨_,_⟩:Rat)=x at h⊢
  cases hx:bW x
  ·simp[hx] at h
  ·simp[hx]
theorem Jx{a b:Rat}(h:(df a b).2=true):bW (df a b).1=true:=by
 unfold df at h⊢
 split
 ·rename_i h0;rw[if_pos h0] at h;exact Ko h
 ·rename_i h0;rw[if_neg h0] at h;cases h
theorem RN{a v:Rat}{c:Int}(h:(plus a c v).2=true):bW (plus a c v).1=true:=by
 unfold plus at h⊢
 split
 ·rename_i h0;rw[if_pos h0] at h;exact Jx h
 ·rename_i h0;rw[if_neg h0] at h;cases h
theorem NF{a:Rat}{n:Int}(ha:bW a=true)(h1:-1000000000≤n)(h2:n≤1000000000)(st:Bool):below a n st=(c8 a (whole n)||(!st&&decide (a=whole n))):=by
 have hw:=qy h1 h2
 unfold below
 cases st
 ·simp only[aw,if_false,Bool.not_false,aE]
  rcases aa (a=whole n) with e|e
  ·subst e
   have:c8 (whole n) (whole n)=false:=by
    cases h:c8 (whole n) (whole n)
    ·rfl
    ·rw[fJ hw hw] at h;omega
   simp[this]
  ·have jD:¬a.N*(whole n).D=(whole n).N*a.D:=fun h=>e (C6 ha hw h)
   cases hl:c8 a (whole n)<;>cases hr:c8 (whole n) a<;>simp[e]
   ·have:¬ (a.N*(whole n).D<(whole n).N*a.D):=fun h=>by rw[(fJ ha hw).2 h] at hl;cases hl
    have:¬ ((whole n).N*a.D<a.N*(whole n).D):=fun h=>by rw[(fJ hw ha).2 h] at hr;cases hr
    omega
   ·rw[fJ ha hw] at hl
    rw[fJ hw ha] at hr
    omega
 ·simp
theorem NP{m:Model}:∀{ts:List Term}{ns:List Int}{sum r:Rat},bW sum=true→mr m ts ns sum=some r→bW r=true
 | [],_,sum,r,h,e=>by simp only[mr,Option.some.injEq] at e;rw[←e];exact h
 | _::_,[],sum,r,h,e=>by simp only[mr,Option.some.injEq] at e;rw[←e];exact h
 | t::ts,n::ns,sum,r,h,e=>by
   simp only[mr] at e
   split at e
   ·rename_i h1;exact NP (RN h1) e
   ·cases e
theorem Qt{m:Model}{ts:List Term}{ns:List Int}{i:Nat}(h:i<ts.length)(h':i<ns.length)(sum:Rat) :
 mr m (ts.drop i) (ns.drop i) sum=if(plus sum ns[i] (value m ts[i])).2 then mr m (ts.drop (i+1)) (ns.drop (i+1)) (plus sum ns[i] (value m ts[i])).1 else none:=by
 rw[ah h,ah h'];rfl
theorem Tw{m:Model}{ts:List Term}{ns:List Int}{i:Nat}(h:ts.length≤i)(sum:Rat):mr m (ts.drop i) (ns.drop i) sum=some sum:=by
 rw[List.drop_of_length_le h];rfl
def at0:List Int→Int→Int
 | [],_=>0
 | x::xs,n=>if x=n then 1 else if x = -n then -1 else at0 xs n
def rz(n:Int):Int:=if n < -1000000000 then 1000000001 else if 1000000000<n then 1000000001 else if n<0 then -n else n
theorem tz{n:Int}:rz n≤1000000000 ↔ -1000000000≤n∧n≤1000000000:=by
 unfold rz;split
 ·omega
 ·split
  ·omega
  ·split<;>omega
theorem XH(n:Int):0≤rz n:=by
 unfold rz;split
 ·omega
 ·split
  ·omega
  ·split<;>omega
theorem N1{n:Int}(h:-1000000000≤n∧n≤1000000000)(d:Int):bM (rz n) d=bM n d:=by
 have e:(rz n).natAbs=n.natAbs:=by
  unfold rz
  rw[if_neg (by omega),if_neg (by omega)]
  split<;>omega
 simp only[bM,e]
theorem Lr(n d:Int):bM (-n) d=bM n d:=by simp only[bM,Int.natAbs_neg]
theorem OT{p q:Int}(hp:0≤p)(hq:0<q):0≤p.tmod q∧p.tmod q<q∧bM q (p.tmod q)=bM p q:=by
 have e:p.tmod q=((p.natAbs % q.natAbs:Nat):Int):=by
  rw[Int.tmod_eq_emod_of_nonneg hp]
  have h1:(p.natAbs:Int)=p:=by omega
  have h2:(q.natAbs:Int)=q:=by omega
  rw[Int.natCast_emod,h1,h2]
 have lQ:p.natAbs % q.natAbs<q.natAbs:=Nat.mod_lt _ (by omega)
 refine⟨by omega,by omega,?_⟩
 rw[e]
 simp only[bM,Int.natAbs_natCast]
 rw[Nat.gcd_comm p.natAbs,Nat.gcd_rec q.natAbs p.natAbs,Nat.gcd_comm]
theorem gcd_zero{p:Int}(hp:0≤p):((bM p 0:Nat):Int)=p:=by
 simp only[bM,Int.natAbs_zero,Nat.gcd_zero_right]
 omega
theorem Md{n d:Int}(h:0<d):0<(bM n d:Int):=by
 have:0<bM n d:=Int.gcd_pos_of_ne_zero_right n (by omega)
 omega
theorem pH{n g k:Int}(hg:0<g)(h:-k≤n∧n≤k):-k≤n.tdiv g∧n.tdiv g≤k:=by
 have e:(n.tdiv g).natAbs=n.natAbs / g.natAbs:=Int.natAbs_tdiv n g
 have h2:n.natAbs / g.natAbs≤n.natAbs:=Nat.div_le_self _ _
 omega
theorem prod_bound{m b k l:Int}(h1:-k≤m∧m≤k)(h2:-l≤b∧b≤l):-(k*l)≤m*b∧m*b≤k*l:=by
 have e:(m*b).natAbs=m.natAbs*b.natAbs:=Int.natAbs_mul m b
 have h3:m.natAbs*b.natAbs≤k.natAbs*l.natAbs:=Nat.mul_le_mul (by omega) (by omega)
 have h4:(k*l).natAbs=k.natAbs*l.natAbs:=Int.natAbs_mul k l
 have h5:0≤k*l:=Int.mul_nonneg (by omega) (by omega)
 omega
theorem rR{m b:Int}(h1:-1000000000≤m∧m≤1000000000)(h2:-1000000000≤b∧b≤1000000000):-1000000000000000000≤m*b∧m*b≤1000000000000000000:=by
 have:=prod_bound h1 h2
 omega
theorem Sx{m b:Int}(h1:1≤m∧m≤1000000000)(h2:1≤b∧b≤1000000000):1≤m*b∧m*b≤1000000000000000000:=by
 have:=rR (m:=m) (b:=b) (by omega) (by omega)
 have:=Int.mul_pos (a:=m) (b:=b) (by omega) (by omega)
 omega
theorem AB{n d:Int}(hd:1≤d):iw n d=if bW ⟨n.tdiv (bM n d),d.tdiv (bM n d)⟩ then(⟨n.tdiv (bM n d),d.tdiv (bM n d)⟩,true) else(jO,false):=by
 unfold iw
 rw[if_neg (by omega)]
 simp only[if_neg (show ¬d<0 by omega)]
theorem pD(x y:Rat):oz x.N x.D y.N y.D=decide (x=y):=by
 cases x;cases y;simp only[oz,Rat.mk.injEq,Bool.decide_and];rfl
theorem Cl{m:Model}{ts:List Term}{i:Nat}(h:i<ts.length):br (values m (ts.take i))++[eY (value m ts[i])]=br (values m (ts.take (i+1))):=by
 have e:ts.take (i+1)=ts.take i++[ts[i]]:=by rw[bq,af h];rfl
 rw[mV,mV,e,List.map_append,←tl]
 rfl
end Go.Mod
