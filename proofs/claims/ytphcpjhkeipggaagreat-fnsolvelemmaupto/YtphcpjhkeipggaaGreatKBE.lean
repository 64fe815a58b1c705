/-
  The data of the program as plain Lean types, and how they lie in memory, cell by cell. No program is walked here.
-/
import Derived.Test.YtphcpjhkeipggaaGreatKBD
set_option linter.unusedVariables false
set_option linter.unusedSimpArgs false
open Bool renaming and_eq_true→ah,false_eq_true→au,true_and→aA
open Classical renaming em→aa
open Int renaming gcd→b9,mul_assoc→pY
open List renaming drop_eq_getElem_cons→ae,getElem?_eq_getElem→af,drop_of_length_le→ak,mem_cons→az,mem_append→aO,length_append→aP,map_cons→aV,length_cons→aY,not_mem_nil→bf,mem_cons_of_mem→bw,take_add_one→bz,append_assoc→bC,append_nil→bE,cons_append→bI,mem_map→bN,getD→ct,all_cons→cC,all_eq_true→cV,length_nil→c8,nodup_cons→da,take_succ_cons→dv,map_append→dM,map_nil→dS,filter_cons→fP,mem_of_find?_eq_some→gj,mem_filter→gy,foldl_cons→gX,flatMap_cons→kN,getElem_cons_succ→ll,pairwise_cons→lP,foldl_append→mr,getElem?_cons_succ→nj
open Nat renaming le_refl→aK,mul_le_mul_right→bu,add_mul→dx,pow_le_pow_right→dJ,one_le_two_pow→eH,add_assoc→ki,pow_succ→lk
namespace Go.Mod
open Go.Eng
abbrev pL:=List UInt8
def bm(ns:List Int):List (List D):=ns.map fun n=>[.val (.int .i64 n)]
def ue(ns:List Bool):List (List D):=ns.map fun n=>[.val (.bool n)]
def oz(ns:List pL):List (List D):=ns.map fun n=>[.str n]
def QB(ns:List (List Int)):List (List D):=ns.map fun n=>[.eC (bm n)]
theorem oe(ns:List Int):(bm ns).length=ns.length:=by simp[bm]
theorem Ga{ns:List Int}{i:Nat}(h:i<ns.length):row (bm ns) i=[.val (.int .i64 ns[i])]:=by simp[bm,row,ct,af h]
theorem jN(ns:List Int):∀y∈bm ns,y.length=1:=by intro y hy;rw[show bm ns=ns.map _ from rfl] at hy;obtain⟨t,_,rfl⟩:=bN.1 hy;rfl
theorem vr(ns:List Int)(i:Nat):(bm ns).take i=bm (ns.take i):=by simp[bm]
theorem Mb(ns:List Int)(i:Nat):(bm ns).drop i=bm (ns.drop i):=by simp[bm]
theorem iO(ns ms:List Int):bm ns++bm ms=bm (ns++ms):=by simp[bm]
theorem BP:bm []=[]:=rfl
theorem kQ(n:Int)(ns:List Int):bm (n::ns)=[.val (.int .i64 n)]::bm ns:=rfl
theorem XX(ns:List Bool):(ue ns).length=ns.length:=by simp[ue]
theorem X7{ns:List Bool}{i:Nat}(h:i<ns.length):row (ue ns) i=[.val (.bool ns[i])]:=by simp[ue,row,ct,af h]
theorem YA(ns:List Bool):∀y∈ue ns,y.length=1:=by intro y hy;rw[show ue ns=ns.map _ from rfl] at hy;obtain⟨t,_,rfl⟩:=bN.1 hy;rfl
theorem NJ(ns ms:List Bool):ue ns++ue ms=ue (ns++ms):=by simp[ue]
theorem NZ(ns:List pL):(oz ns).length=ns.length:=by simp[oz]
theorem OW{ns:List pL}{i:Nat}(h:i<ns.length):row (oz ns) i=[.str ns[i]]:=by simp[oz,row,ct,af h]
theorem Yb(ns ms:List pL):oz ns++oz ms=oz (ns++ms):=by simp[oz]
theorem YY:oz []=[]:=rfl
theorem Up(ns:List (List Int)):∀y∈QB ns,y.length=1:=by intro y hy;rw[show QB ns=ns.map _ from rfl] at hy;obtain⟨t,_,rfl⟩:=bN.1 hy;rfl
inductive ax where
 | mk(name:pL)(ar:List ax)
def ax.name:ax→pL
 | .mk x _=>x
def ax.ar:ax→List ax
 | .mk _ x=>x
theorem ax.ind{P:ax→Prop}(h:∀name ar,(∀k∈ar,P k)→P (.mk name ar)):∀t,P t:=by intro t;refine ax.rec (motive_1:=P) (motive_2:=fun ks=>∀k∈ks,P k) (fun name ar ih=>h name ar ih) (by simp) (fun t ts h1 h2=>?_) t;intro k hk;rcases az.1 hk with rfl|hk;exact h1;exact h2 k hk
mutual
def ag5:ax→List D
 | .mk name ar=>[.str name,.eC (aU ar)]
def aU:List ax→List (List D)
 | []=>[]
 | t::ts=>ag5 t::aU ts
end
def cT(t:ax):List D:=[.str t.name,.eC (aU t.ar)]
theorem aep(t:ax):ag5 t=cT t:=by cases t;rfl
theorem nb:∀(ts:List ax),aU ts=ts.map cT
 | []=>rfl
 | t::ts=>by simp[aU,aep,nb ts]
theorem uZ(ns:List ax):(aU ns).length=ns.length:=by simp[nb]
theorem Gi{ns:List ax}{i:Nat}(h:i<ns.length):row (aU ns) i=cT ns[i]:=by simp[nb,row,ct,af h]
theorem YS(ns:List ax):∀y∈aU ns,y.length=2:=by intro y hy;rw[show aU ns=ns.map _ from nb ns] at hy;obtain⟨t,_,rfl⟩:=bN.1 hy;rfl
theorem Uk(ns:List ax)(i:Nat):(aU ns).take i=aU (ns.take i):=by simp[nb]
theorem ng(ns ms:List ax):aU ns++aU ms=aU (ns++ms):=by simp[nb]
theorem il:aU []=[]:=rfl
theorem eZ(n:ax)(ns:List ax):aU (n::ns)=cT n::aU ns:=by simp[nb]
theorem rV{ns:List ax}{i:Nat}(h:i<ns.length):aU (ns.take i)++[cT ns[i]]=aU (ns.take (i+1)):=by
 have e:ns.take (i+1)=ns.take i++[ns[i]]:=by rw[bz,af h];rfl
 rw[e,←ng,eZ,il]
mutual
def aaM:ax→ax→Bool
 | .mk name1 kids1,.mk name2 kids2=>decide (name1=name2)&&DE kids1 kids2
def DE:List ax→List ax→Bool
 | [],[]=>true
 | x::xs,y::ys=>aaM x y&&DE xs ys
 | _,_=>false
end
mutual
theorem OJ:∀(a b:ax),aaM a b=true↔a=b
 | .mk name1 kids1,.mk name2 kids2=>by simp[aaM,LG]
theorem LG:∀(a b:List ax),DE a b=true↔a=b
 | [],[]=>by simp[DE]
 | [],_::_=>by simp[DE]
 | _::_,[]=>by simp[DE]
 | x::xs,y::ys=>by simp[DE,OJ x y,LG xs ys]
end
instance:DecidableEq ax:=fun a b=>decidable_of_iff _ (OJ a b)
structure Sym where
 name:pL
 args:List Int
 sort:Int
 deriving DecidableEq
def zT(t:Sym):List D:=[.str t.name,.eC (bm t.args),.val (.int .i64 t.sort)]
def fq(l:List Sym):List (List D):=l.map zT
theorem Tp(ns:List Sym):(fq ns).length=ns.length:=by simp[fq]
theorem H9{ns:List Sym}{i:Nat}(h:i<ns.length):row (fq ns) i=zT ns[i]:=by simp[fq,row,ct,af h]
theorem wB(ns ms:List Sym):fq ns++fq ms=fq (ns++ms):=by simp[fq]
structure eM where
 cQ:List Sym
 deriving DecidableEq
def eP(t:eM):List D:=[.eC (fq t.cQ)]
structure cR where
 kind:Int
 A:ax
 B:ax
 ai:List ax
 a8:List Int
 bj:Int
 bJ:Bool
 deriving DecidableEq
def fC(t:cR):List D:=[.val (.int .i64 t.kind),.str t.A.name,.eC (aU t.A.ar),.str t.B.name,.eC (aU t.B.ar),.eC (aU t.ai),.eC (bm t.a8),.val (.int .i64 t.bj),.val (.bool t.bJ)]
def bx(l:List cR):List (List D):=l.map fC
theorem QJ(ns:List cR):(bx ns).length=ns.length:=by simp[bx]
theorem Ru{ns:List cR}{i:Nat}(h:i<ns.length):row (bx ns) i=fC ns[i]:=by simp[bx,row,ct,af h]
theorem Pt(ns:List cR):∀y∈bx ns,y.length=9:=by intro y hy;rw[show bx ns=ns.map _ from rfl] at hy;obtain⟨t,_,rfl⟩:=bN.1 hy;rfl
theorem um(ns ms:List cR):bx ns++bx ms=bx (ns++ms):=by simp[bx]
theorem uy:bx []=[]:=rfl
theorem xE(n:cR)(ns:List cR):bx (n::ns)=fC n::bx ns:=rfl
structure bL where
 aN:cR
 no:Bool
 deriving DecidableEq
def r9(t:bL):List D:=[.val (.int .i64 t.aN.kind),.str t.aN.A.name,.eC (aU t.aN.A.ar),.str t.aN.B.name,.eC (aU t.aN.B.ar),.eC (aU t.aN.ai),.eC (bm t.aN.a8),.val (.int .i64 t.aN.bj),.val (.bool t.aN.bJ),.val (.bool t.no)]
def bh(l:List bL):List (List D):=l.map r9
theorem Hy(ns:List bL):(bh ns).length=ns.length:=by simp[bh]
theorem RH{ns:List bL}{i:Nat}(h:i<ns.length):row (bh ns) i=r9 ns[i]:=by simp[bh,row,ct,af h]
theorem Ij(ns:List bL):∀y∈bh ns,y.length=10:=by intro y hy;rw[show bh ns=ns.map _ from rfl] at hy;obtain⟨t,_,rfl⟩:=bN.1 hy;rfl
theorem lu(ns ms:List bL):bh ns++bh ms=bh (ns++ms):=by simp[bh]
theorem wT:bh []=[]:=rfl
theorem pg(n:bL)(ns:List bL):bh (n::ns)=r9 n::bh ns:=rfl
inductive lH where
 | mk(kD:Int)(n:Int)(t:ax)(ar:List lH)
def lH.kD:lH→Int
 | .mk x _ _ _=>x
def lH.n:lH→Int
 | .mk _ x _ _=>x
def lH.t:lH→ax
 | .mk _ _ x _=>x
def lH.ar:lH→List lH
 | .mk _ _ _ x=>x
theorem lH.ind{P:lH→Prop}(h:∀kD n t ar,(∀k∈ar,P k)→P (.mk kD n t ar)):∀t,P t:=by intro t;refine lH.rec (motive_1:=P) (motive_2:=fun ks=>∀k∈ks,P k) (fun kD n t ar ih=>h kD n t ar ih) (by simp) (fun t ts h1 h2=>?_) t;intro k hk;rcases az.1 hk with rfl|hk;exact h1;exact h2 k hk
mutual
def ZK:lH→List D
 | .mk kD n t ar=>[.val (.int .i64 kD),.val (.int .i64 n),.str t.name,.eC (aU t.ar),.eC (fA ar)]
def fA:List lH→List (List D)
 | []=>[]
 | t::ts=>ZK t::fA ts
end
def jn(t:lH):List D:=[.val (.int .i64 t.kD),.val (.int .i64 t.n),.str t.t.name,.eC (aU t.t.ar),.eC (fA t.ar)]
theorem Y9(t:lH):ZK t=jn t:=by cases t;rfl
theorem tx:∀(ts:List lH),fA ts=ts.map jn
 | []=>rfl
 | t::ts=>by simp[fA,Y9,tx ts]
theorem Sw(ns:List lH):(fA ns).length=ns.length:=by simp[tx]
theorem SD{ns:List lH}{i:Nat}(h:i<ns.length):row (fA ns) i=jn ns[i]:=by simp[tx,row,ct,af h]
theorem HL(ns ms:List lH):fA ns++fA ms=fA (ns++ms):=by simp[tx]
theorem nw:fA []=[]:=rfl
theorem me(n:lH)(ns:List lH):fA (n::ns)=jn n::fA ns:=by simp[tx]
mutual
def Q0:lH→lH→Bool
 | .mk rule1 n1 t1 kids1,.mk rule2 n2 t2 kids2=>decide (rule1=rule2)&&decide (n1=n2)&&decide (t1=t2)&&vI kids1 kids2
def vI:List lH→List lH→Bool
 | [],[]=>true
 | x::xs,y::ys=>Q0 x y&&vI xs ys
 | _,_=>false
end
mutual
theorem Ht:∀(a b:lH),Q0 a b=true↔a=b
 | .mk rule1 n1 t1 kids1,.mk rule2 n2 t2 kids2=>by simp[Q0,Fs,and_assoc]
theorem Fs:∀(a b:List lH),vI a b=true↔a=b
 | [],[]=>by simp[vI]
 | [],_::_=>by simp[vI]
 | _::_,[]=>by simp[vI]
 | x::xs,y::ys=>by simp[vI,Ht x y,Fs xs ys]
end
instance:DecidableEq lH:=fun a b=>decidable_of_iff _ (Ht a b)
inductive eJ where
 | mk(kind:Int)(n:Int)(tq:lH)(a8:List Int)(A:ax)(B:ax)(ar:List eJ)
def eJ.kind:eJ→Int
 | .mk x _ _ _ _ _ _=>x
def eJ.n:eJ→Int
 | .mk _ x _ _ _ _ _=>x
def eJ.tq:eJ→lH
 | .mk _ _ x _ _ _ _=>x
def eJ.a8:eJ→List Int
 | .mk _ _ _ x _ _ _=>x
def eJ.A:eJ→ax
 | .mk _ _ _ _ x _ _=>x
def eJ.B:eJ→ax
 | .mk _ _ _ _ _ x _=>x
def eJ.ar:eJ→List eJ
 | .mk _ _ _ _ _ _ x=>x
theorem eJ.ind{P:eJ→Prop}(h:∀kind n tq a8 A B ar,(∀k∈ar,P k)→P (.mk kind n tq a8 A B ar)):∀t,P t:=by intro t;refine eJ.rec (motive_1:=P) (motive_2:=fun ks=>∀k∈ks,P k) (fun kind n tq a8 A B ar ih=>h kind n tq a8 A B ar ih) (by simp) (fun t ts h1 h2=>?_) t;intro k hk;rcases az.1 hk with rfl|hk;exact h1;exact h2 k hk
mutual
def Xn:eJ→List D
 | .mk kind n tq a8 A B ar=>[.val (.int .i64 kind),.val (.int .i64 n),.val (.int .i64 tq.kD),.val (.int .i64 tq.n),.str tq.t.name,.eC (aU tq.t.ar),.eC (fA tq.ar),.eC (bm a8),.str A.name,.eC (aU A.ar),.str B.name,.eC (aU B.ar),.eC (ia ar)]
def ia:List eJ→List (List D)
 | []=>[]
 | t::ts=>Xn t::ia ts
end
def iL(t:eJ):List D:=[.val (.int .i64 t.kind),.val (.int .i64 t.n),.val (.int .i64 t.tq.kD),.val (.int .i64 t.tq.n),.str t.tq.t.name,.eC (aU t.tq.t.ar),.eC (fA t.tq.ar),.eC (bm t.a8),.str t.A.name,.eC (aU t.A.ar),.str t.B.name,.eC (aU t.B.ar),.eC (ia t.ar)]
theorem UM(t:eJ):Xn t=iL t:=by cases t;rfl
theorem qL:∀(ts:List eJ),ia ts=ts.map iL
 | []=>rfl
 | t::ts=>by simp[ia,UM,qL ts]
theorem Rp(ns:List eJ):(ia ns).length=ns.length:=by simp[qL]
theorem QF{ns:List eJ}{i:Nat}(h:i<ns.length):row (ia ns) i=iL ns[i]:=by simp[qL,row,ct,af h]
theorem Ea(ns ms:List eJ):ia ns++ia ms=ia (ns++ms):=by simp[qL]
theorem qO:ia []=[]:=rfl
theorem sX(n:eJ)(ns:List eJ):ia (n::ns)=iL n::ia ns:=by simp[qL]
mutual
def K5:eJ→eJ→Bool
 | .mk kind1 n1 why1 times1 A1 B1 kids1,.mk kind2 n2 why2 times2 A2 B2 kids2=>decide (kind1=kind2)&&decide (n1=n2)&&decide (why1=why2)&&decide (times1=times2)&&decide (A1=A2)&&decide (B1=B2)&&rP kids1 kids2
def rP:List eJ→List eJ→Bool
 | [],[]=>true
 | x::xs,y::ys=>K5 x y&&rP xs ys
 | _,_=>false
end
mutual
theorem FB:∀(a b:eJ),K5 a b=true↔a=b
 | .mk kind1 n1 why1 times1 A1 B1 kids1,.mk kind2 n2 why2 times2 A2 B2 kids2=>by simp[K5,C8,and_assoc]
theorem C8:∀(a b:List eJ),rP a b=true↔a=b
 | [],[]=>by simp[rP]
 | [],_::_=>by simp[rP]
 | _::_,[]=>by simp[rP]
 | x::xs,y::ys=>by simp[rP,FB x y,C8 xs ys]
end
instance:DecidableEq eJ:=fun a b=>decidable_of_iff _ (FB a b)
inductive bU where
 | mk(kind:Int)(lit:bL)(ar:List bU)
def bU.kind:bU→Int
 | .mk x _ _=>x
def bU.lit:bU→bL
 | .mk _ x _=>x
def bU.ar:bU→List bU
 | .mk _ _ x=>x
theorem bU.ind{P:bU→Prop}(h:∀kind lit ar,(∀k∈ar,P k)→P (.mk kind lit ar)):∀t,P t:=by intro t;refine bU.rec (motive_1:=P) (motive_2:=fun ks=>∀k∈ks,P k) (fun kind lit ar ih=>h kind lit ar ih) (by simp) (fun t ts h1 h2=>?_) t;intro k hk;rcases az.1 hk with rfl|hk;exact h1;exact h2 k hk
mutual
def Xr:bU→List D
 | .mk kind lit ar=>[.val (.int .i64 kind),.val (.int .i64 lit.aN.kind),.str lit.aN.A.name,.eC (aU lit.aN.A.ar),.str lit.aN.B.name,.eC (aU lit.aN.B.ar),.eC (aU lit.aN.ai),.eC (bm lit.aN.a8),.val (.int .i64 lit.aN.bj),.val (.bool lit.aN.bJ),.val (.bool lit.no),.eC (cG ar)]
def cG:List bU→List (List D)
 | []=>[]
 | t::ts=>Xr t::cG ts
end
def ir(t:bU):List D:=[.val (.int .i64 t.kind),.val (.int .i64 t.lit.aN.kind),.str t.lit.aN.A.name,.eC (aU t.lit.aN.A.ar),.str t.lit.aN.B.name,.eC (aU t.lit.aN.B.ar),.eC (aU t.lit.aN.ai),.eC (bm t.lit.aN.a8),.val (.int .i64 t.lit.aN.bj),.val (.bool t.lit.aN.bJ),.val (.bool t.lit.no),.eC (cG t.ar)]
theorem U3(t:bU):Xr t=ir t:=by cases t;rfl
theorem pq:∀(ts:List bU),cG ts=ts.map ir
 | []=>rfl
 | t::ts=>by simp[cG,U3,pq ts]
theorem Q7(ns:List bU):(cG ns).length=ns.length:=by simp[pq]
theorem PZ{ns:List bU}{i:Nat}(h:i<ns.length):row (cG ns) i=ir ns[i]:=by simp[pq,row,ct,af h]
theorem FA(ns:List bU):∀y∈cG ns,y.length=12:=by intro y hy;rw[show cG ns=ns.map _ from pq ns] at hy;obtain⟨t,_,rfl⟩:=bN.1 hy;rfl
theorem yj(ns ms:List bU):cG ns++cG ms=cG (ns++ms):=by simp[pq]
theorem uj:cG []=[]:=rfl
theorem sF(n:bU)(ns:List bU):cG (n::ns)=ir n::cG ns:=by simp[pq]
mutual
def Md:bU→bU→Bool
 | .mk kind1 lit1 kids1,.mk kind2 lit2 kids2=>decide (kind1=kind2)&&decide (lit1=lit2)&&r8 kids1 kids2
def r8:List bU→List bU→Bool
 | [],[]=>true
 | x::xs,y::ys=>Md x y&&r8 xs ys
 | _,_=>false
end
mutual
theorem Em:∀(a b:bU),Md a b=true↔a=b
 | .mk kind1 lit1 kids1,.mk kind2 lit2 kids2=>by simp[Md,C1,and_assoc]
theorem C1:∀(a b:List bU),r8 a b=true↔a=b
 | [],[]=>by simp[r8]
 | [],_::_=>by simp[r8]
 | _::_,[]=>by simp[r8]
 | x::xs,y::ys=>by simp[r8,Em x y,C1 xs ys]
end
instance:DecidableEq bU:=fun a b=>decidable_of_iff _ (Em a b)
def afO(ns:List (List bU)):List (List D):=ns.map fun n=>[.eC (cG n)]
structure Rat where
 N:Int
 D:Int
 deriving DecidableEq
def fZ(t:Rat):List D:=[.val (.int .i64 t.N),.val (.int .i64 t.D)]
def bQ(l:List Rat):List (List D):=l.map fZ
theorem AI(ns:List Rat):(bQ ns).length=ns.length:=by simp[bQ]
theorem A6{ns:List Rat}{i:Nat}(h:i<ns.length):row (bQ ns) i=fZ ns[i]:=by simp[bQ,row,ct,af h]
theorem TQ(ns:List Rat):∀y∈bQ ns,y.length=2:=by intro y hy;rw[show bQ ns=ns.map _ from rfl] at hy;obtain⟨t,_,rfl⟩:=bN.1 hy;rfl
theorem wY(ns ms:List Rat):bQ ns++bQ ms=bQ (ns++ms):=by simp[bQ]
theorem w5:bQ []=[]:=rfl
theorem zr(n:Rat)(ns:List Rat):bQ (n::ns)=fZ n::bQ ns:=rfl
structure Row where
 name:pL
 args:List Rat
 val:Rat
 deriving DecidableEq
def tn(t:Row):List D:=[.str t.name,.eC (bQ t.args),.val (.int .i64 t.val.N),.val (.int .i64 t.val.D)]
def cu(l:List Row):List (List D):=l.map tn
theorem SO(ns:List Row):(cu ns).length=ns.length:=by simp[cu]
theorem TA{ns:List Row}{i:Nat}(h:i<ns.length):row (cu ns) i=tn ns[i]:=by simp[cu,row,ct,af h]
theorem Ax(ns:List Row):∀y∈cu ns,y.length=4:=by intro y hy;rw[show cu ns=ns.map _ from rfl] at hy;obtain⟨t,_,rfl⟩:=bN.1 hy;rfl
theorem SG:cu []=[]:=rfl
structure dQ where
 aw:List Row
 deriving DecidableEq
def fX(t:dQ):List D:=[.eC (cu t.aw)]
structure j8 where
 aW:List Int
 bj:Int
 bJ:Bool
 deriving DecidableEq
def gY(t:j8):List D:=[.eC (bm t.aW),.val (.int .i64 t.bj),.val (.bool t.bJ)]
def eE(l:List j8):List (List D):=l.map gY
theorem SL(ns:List j8):(eE ns).length=ns.length:=by simp[eE]
theorem Tc{ns:List j8}{i:Nat}(h:i<ns.length):row (eE ns) i=gY ns[i]:=by simp[eE,row,ct,af h]
theorem R9(ns:List j8):∀y∈eE ns,y.length=3:=by intro y hy;rw[show eE ns=ns.map _ from rfl] at hy;obtain⟨t,_,rfl⟩:=bN.1 hy;rfl
theorem oN(ns ms:List j8):eE ns++eE ms=eE (ns++ms):=by simp[eE]
theorem nr:eE []=[]:=rfl
theorem kg(n:j8)(ns:List j8):eE (n::ns)=gY n::eE ns:=rfl
structure hY where
 A:ax
 B:ax
 deriving DecidableEq
def FV(t:hY):List D:=[.str t.A.name,.eC (aU t.A.ar),.str t.B.name,.eC (aU t.B.ar)]
def dF(l:List hY):List (List D):=l.map FV
theorem Vm(ns:List hY):(dF ns).length=ns.length:=by simp[dF]
theorem VV{ns:List hY}{i:Nat}(h:i<ns.length):row (dF ns) i=FV ns[i]:=by simp[dF,row,ct,af h]
theorem T2(ns:List hY):∀y∈dF ns,y.length=4:=by intro y hy;rw[show dF ns=ns.map _ from rfl] at hy;obtain⟨t,_,rfl⟩:=bN.1 hy;rfl
theorem nK(ns ms:List hY):dF ns++dF ms=dF (ns++ms):=by simp[dF]
theorem lJ:dF []=[]:=rfl
theorem lr(n:hY)(ns:List hY):dF (n::ns)=FV n::dF ns:=rfl
structure Step where
 A:Int
 B:Int
 given:Int
 deriving DecidableEq
def Wt(t:Step):List D:=[.val (.int .i64 t.A),.val (.int .i64 t.B),.val (.int .i64 t.given)]
def bD(l:List Step):List (List D):=l.map Wt
theorem QN(ns:List Step):(bD ns).length=ns.length:=by simp[bD]
theorem Qt{ns:List Step}{i:Nat}(h:i<ns.length):row (bD ns) i=Wt ns[i]:=by simp[bD,row,ct,af h]
theorem Pb(ns:List Step):∀y∈bD ns,y.length=3:=by intro y hy;rw[show bD ns=ns.map _ from rfl] at hy;obtain⟨t,_,rfl⟩:=bN.1 hy;rfl
theorem ze(ns ms:List Step):bD ns++bD ms=bD (ns++ms):=by simp[bD]
theorem uP:bD []=[]:=rfl
theorem xr(n:Step)(ns:List Step):bD (n::ns)=Wt n::bD ns:=rfl
structure wo where
 dL:Int
 aS:List (List Int)
 deriving DecidableEq
def ahK(t:wo):List D:=[.val (.int .i64 t.dL),.eC (QB t.aS)]
structure nY where
 marks:List Int
 case:eJ
 deriving DecidableEq
def qX(t:nY):List D:=[.eC (bm t.marks),.val (.int .i64 t.case.kind),.val (.int .i64 t.case.n),.val (.int .i64 t.case.tq.kD),.val (.int .i64 t.case.tq.n),.str t.case.tq.t.name,.eC (aU t.case.tq.t.ar),.eC (fA t.case.tq.ar),.eC (bm t.case.a8),.str t.case.A.name,.eC (aU t.case.A.ar),.str t.case.B.name,.eC (aU t.case.B.ar),.eC (ia t.case.ar)]
def Yz(l:List nY):List (List D):=l.map qX
structure Kw where
 FW:List nY
 log:List (List Int)
 deriving DecidableEq
def ae5(t:Kw):List D:=[.eC (Yz t.FW),.eC (QB t.log)]
structure ZQ where
 sig:eM
 Wf:List (List bU)
 deriving DecidableEq
def afF(t:ZQ):List D:=[.eC (fq t.sig.cQ),.eC (afO t.Wf)]
def av(cs:List D):PV:=.agg (dm cs)
theorem ag6(cs:List D):(av cs).lt 0=true:=by simp only[av,PV.lt];exact aaJ 0 cs
attribute [go_sem] oe XX NZ uZ Tp QJ Hy Sw Rp Q7 AI SO SL Vm QN
attribute [go_sem] Ga X7 OW Gi H9 Ru RH SD QF PZ A6 TA Tc VV Qt
attribute [go_sem] BP YY il uy wT nw qO uj w5 SG nr lJ uP
attribute [go_sem] av cT zT eP fC r9 jn iL ir fZ tn fX gY FV Wt ahK qX ae5 afF Int.toNat_natCast
end Go.Mod
namespace Go.Eng
open Go.Mod
theorem sA{p q:Prop}(k:q)(h:p=q:=by simp -implicitDefEqProofs only[go_sem];exact rfl):p:=h▸k
theorem sB{p q:Prop}(k:q)(h:p=q:=by simp -implicitDefEqProofs only[go_sem,Int.reduceEq,Int.reduceLT,Int.reduceLE,Int.reduceToNat];exact rfl):p:=h▸k
theorem sC{p:Prop}(h:p:=by simp -implicitDefEqProofs only[go_sem]):p:=h
theorem sD{p:Prop}(h:p:=by simp -implicitDefEqProofs only[go_sem,Int.reduceEq,Int.reduceLT,Int.reduceLE,Int.reduceToNat]):p:=h
theorem iK{os:List Oper}{L:List Ky}{p:Prop}(hp:p)(h:PS os L=true:=by kernel_rfl):indep os L=true∧p:=⟨Hf h,hp⟩
section
variable{m:Option (List Ky)}{gs:Option Nat}{d:Nat}{ty:TypeId}{pos:String}{fK:Array Edge}{gd:Option (Nat×Bool)}{E:Env}{g:G}{rest:uW→Option (List Ky)→G→Prop}{oE:Operand}{xs:List Operand}{tys:Array TypeId}{f:FuncId}(cap:List PV)
theorem aC{dh:List PV}{res:PV}{q:Prop}
 (hC:C E.P f dh [] (jF res [])) (k:q) (h:g.ev oE= .fn f cap∧Io (TU g xs++cap) dh∧wj 0 dh=true∧res.lt 0=true:=by simp -implicitDefEqProofs only[go_sem])
 (hr:rest .on (nx m (pE (wg gs ⟨ez oE++Ci xs,[]⟩) ⟨some (d,res),[]⟩)) (g.app ⟨some (d,res),[]⟩)=q:=by simp -implicitDefEqProofs only[go_sem];exact rfl):tR E m gs ⟨some d,.call ⟨.value oE,⟨xs⟩,tys⟩,ty,pos,fK,gd⟩ g rest:=
 dy cap hC h (hr▸k)
theorem aD{dh:List PV}{res:PV}{q:Prop}
 (hC:C E.P f dh [] (jF res [])) (k:q) (h:g.ev oE= .fn f cap∧Io (TU g xs++cap) dh∧wj 0 dh=true∧res.lt 0=true:=by simp -implicitDefEqProofs only[go_sem,Int.reduceEq,Int.reduceLT,Int.reduceLE,Int.reduceToNat])
 (hr:rest .on (nx m (pE (wg gs ⟨ez oE++Ci xs,[]⟩) ⟨some (d,res),[]⟩)) (g.app ⟨some (d,res),[]⟩)=q:=by simp -implicitDefEqProofs only[go_sem,Int.reduceEq,Int.reduceLT,Int.reduceLE,Int.reduceToNat];exact rfl):tR E m gs ⟨some d,.call ⟨.value oE,⟨xs⟩,tys⟩,ty,pos,fK,gd⟩ g rest:=
 dy cap hC h (hr▸k)
theorem oC(M:List Nat){dh:List PV}{fG st':List (Option En)}{res:PV}{q:Prop}
 (hC:C E.P f dh fG (jF res st')) (k:q) (h:g.ev oE= .fn f cap∧Io (TU g xs++cap) (tu M dh)∧wj (lX fG) dh=true∧Qw M=true∧zY (lX fG) (Gk M)=true∧zY (lX fG) (lX st')=true∧zY (lX st') (Gk M)=true∧pP g M (lX fG) M fG∧jP g (lX fG) M:=by simp -implicitDefEqProofs only[go_sem])
 (hr:rest .on (nx m (pE (wg gs ⟨ez oE++Ci xs,M⟩) ⟨some (d,res.nZ M),mF M M st'⟩)) (g.app ⟨some (d,res.nZ M),mF M M st'⟩)=q:=by simp -implicitDefEqProofs only[go_sem];exact rfl):tR E m gs ⟨some d,.call ⟨.value oE,⟨xs⟩,tys⟩,ty,pos,fK,gd⟩ g rest:=
 lx cap M hC h (hr▸k)
theorem oD(M:List Nat){dh:List PV}{fG st':List (Option En)}{res:PV}{q:Prop}
 (hC:C E.P f dh fG (jF res st')) (k:q) (h:g.ev oE= .fn f cap∧Io (TU g xs++cap) (tu M dh)∧wj (lX fG) dh=true∧Qw M=true∧zY (lX fG) (Gk M)=true∧zY (lX fG) (lX st')=true∧zY (lX st') (Gk M)=true∧pP g M (lX fG) M fG∧jP g (lX fG) M:=by simp -implicitDefEqProofs only[go_sem,Int.reduceEq,Int.reduceLT,Int.reduceLE,Int.reduceToNat])
 (hr:rest .on (nx m (pE (wg gs ⟨ez oE++Ci xs,M⟩) ⟨some (d,res.nZ M),mF M M st'⟩)) (g.app ⟨some (d,res.nZ M),mF M M st'⟩)=q:=by simp -implicitDefEqProofs only[go_sem,Int.reduceEq,Int.reduceLT,Int.reduceLE,Int.reduceToNat];exact rfl):tR E m gs ⟨some d,.call ⟨.value oE,⟨xs⟩,tys⟩,ty,pos,fK,gd⟩ g rest:=
 lx cap M hC h (hr▸k)
end
theorem gS{E:Env}(nt:Nat)(rs:List ResultVar)(hm:E.P.follows .mixedOrders=true){f:FuncId}{fn:Func}{c:Code}{args:List PV}{fG:List (Option En)}{R:PV→List (Option En)→Prop}{L q:Prop}(hf:E.P.funcs[f]?=some fn)(k:L→D6 fG→LB=1099511627776→q)
 (hb : fn.body = some c := by rfl) (hname : (fn.name == "runtime.NumGoroutine") = false := by rfl) (hnt : fn.ntmps = nt := by rfl) (hrs : fn.results.toList = rs := by rfl) (hn : zY (Al args) nt = true := by rfl)
 (e1:tN args=L:=by simp -implicitDefEqProofs only[go_sem];exact rfl) (e2:My E (lX fG) c .on ⟨dN nt .undef (ixs 0 args),fG⟩ (fun _=>VJ (yl E rs (lX fG) R))=q:=by simp -implicitDefEqProofs only[go_sem];exact rfl):C E.P f args fG R:=
 vE hm hf hb hname hnt hrs hn fun h1 h2=>e2▸k (e1▸h1) h2 rfl
theorem gT{E:Env}(nt:Nat)(rs:List ResultVar)(hm:E.P.follows .mixedOrders=true){f:FuncId}{fn:Func}{c:Code}{args:List PV}{fG:List (Option En)}{R:PV→List (Option En)→Prop}{L q:Prop}(hf:E.P.funcs[f]?=some fn)(k:L→D6 fG→LB=1099511627776→q)
 (hb : fn.body = some c := by rfl) (hname : (fn.name == "runtime.NumGoroutine") = false := by rfl) (hnt : fn.ntmps = nt := by rfl) (hrs : fn.results.toList = rs := by rfl) (hn : zY (Al args) nt = true := by rfl)
 (e1:tN args=L:=by simp -implicitDefEqProofs only[go_sem,Int.reduceEq,Int.reduceLT,Int.reduceLE,Int.reduceToNat];exact rfl) (e2:My E (lX fG) c .on ⟨dN nt .undef (ixs 0 args),fG⟩ (fun _=>VJ (yl E rs (lX fG) R))=q:=by simp -implicitDefEqProofs only[go_sem,Int.reduceEq,Int.reduceLT,Int.reduceLE,Int.reduceToNat];exact rfl):C E.P f args fG R:=
 vE hm hf hb hname hnt hrs hn fun h1 h2=>e2▸k (e1▸h1) h2 rfl
theorem sO{p:Prop}(h:p:=by first|(with_reducible exact Hf (by kernel_rfl))|omega|assumption|exact⟨YS _,by omega⟩|exact⟨jN _,by omega⟩|exact⟨Ij _,by omega⟩|exact⟨R9 _,by omega⟩|exact⟨T2 _,by omega⟩|rfl|(simp[*];done)|(simp;omega)|exact⟨TQ _,by omega⟩|exact⟨Pt _,by omega⟩|exact⟨YA _,by omega⟩|exact⟨FA _,by omega⟩|exact⟨Up _,by omega⟩):p:=h
theorem sV{p:Prop}(h:p:=by(simp -implicitDefEqProofs only[go_sem,Int.reduceEq,Int.reduceLT,Int.reduceLE,Int.reduceToNat];repeat'(first|exact wq.nil|apply wq.cons|exact Vw.same (by first|rfl|simp -implicitDefEqProofs only[go_sem,Int.reduceEq,Int.reduceLT,Int.reduceLE,Int.reduceToNat])|exact Vw.aX rfl rfl|exact Vw.gD rfl rfl (by simp -implicitDefEqProofs only[go_sem,Int.reduceEq,Int.reduceLT,Int.reduceLE,Int.reduceToNat])|exact Vw.nil|apply Vw.agg|apply Vw.fn|refine Vw.box rfl rfl ?_))):p:=h
structure Hd(q:Prop):Prop where k:q
theorem sQ{p q:Prop}(k:q)(h:Hd q→p:=by intro k;(repeat(with_reducible apply And.intro;exact sO));exact k.k):p:=h ⟨k⟩
theorem sI{p q:Prop}(k:q)(h:Hd q→p:=by intro k;(try with_reducible refine iK ?_);exact k.k):p:=h ⟨k⟩
theorem sJ{p q:Prop}(k:q)(h:Hd q→p:=by intro k;(try with_reducible refine iK ?_);(repeat(with_reducible apply And.intro;exact sO));exact k.k):p:=h ⟨k⟩
theorem sL{p:Prop}(h:p:=by show _ < _;omega):p:=h
theorem sK{p q:Prop}(k:q)(h:Hd q→p:=by intro k;(repeat(first|with_reducible refine L7 (by kernel_rfl) ?_|(with_reducible apply And.intro;exact sO)));exact k.k):p:=h ⟨k⟩
theorem sW{p q:Prop}(k:q)(h:Hd q→p:=by intro k;(try with_reducible refine L7 (by kernel_rfl) ?_);exact k.k):p:=h ⟨k⟩
theorem sM{p:Prop}(h:p:=by first|(simp[a7, *];done)|(simp[a7];done)|(simp;omega)):p:=h
theorem gZ{E:Env}{rs:List ResultVar}{g:G}{q:PV}{r:Prop}(k:r)(h:((yv E g rs).elim False fun ps=>wk ⟨[jd ps],g.st⟩ [] (jd ps) q)=r:=by simp -implicitDefEqProofs only[go_sem];exact rfl):yl E rs 0 (jF q []) g:=fD (h▸k)
theorem gA_{E:Env}{rs:List ResultVar}{n0:Nat}{g:G}{q:PV}{st2:List (Option En)}(m:List (Option Nat)){r:Prop}(k:r)(h:((yv E g rs).elim False fun ps=>CR ⟨[jd ps],g.st⟩ m [jd ps] [q]∧nd ⟨[jd ps],g.st⟩ m m st2)=r:=by simp -implicitDefEqProofs only[go_sem];exact rfl)(h3:AA m st2=true:=by rfl)(h4:keeps n0 0 m=true:=by rfl):yl E rs n0 (jF q st2) g:=bX m (h▸k) h3 h4
theorem oW{E:Env}{rs:List ResultVar}{g:G}{q:PV}{r:Prop}(k:r)(h:((yv E g rs).elim False fun ps=>wk ⟨[jd ps],g.st⟩ [] (jd ps) q)=r:=by simp -implicitDefEqProofs only[go_sem,Int.reduceEq,Int.reduceLT,Int.reduceLE,Int.reduceToNat];exact rfl):yl E rs 0 (jF q []) g:=fD (h▸k)
theorem gB_{E:Env}{rs:List ResultVar}{n0:Nat}{g:G}{q:PV}{st2:List (Option En)}(m:List (Option Nat)){r:Prop}(k:r)(h:((yv E g rs).elim False fun ps=>CR ⟨[jd ps],g.st⟩ m [jd ps] [q]∧nd ⟨[jd ps],g.st⟩ m m st2)=r:=by simp -implicitDefEqProofs only[go_sem,Int.reduceEq,Int.reduceLT,Int.reduceLE,Int.reduceToNat];exact rfl)(h3:AA m st2=true:=by rfl)(h4:keeps n0 0 m=true:=by rfl):yl E rs n0 (jF q st2) g:=bX m (h▸k) h3 h4
theorem agH{p q:Prop}(k:q)(h:p=q:=by simp -implicitDefEqProofs only[go_sem,Option.isSome_none,Option.getD_none,Option.isSome_some,Option.getD_some];exact rfl):p:=h.mpr k
theorem agM{p q:Prop}(k:q)(h:Hd q→p:=by intro b0;(first|with_reducible refine iK ?_|(with_reducible apply And.intro;exact sO)|with_reducible refine fD ?_|refine agH ?_);exact b0.k):p:=h ⟨k⟩
theorem zx{p q:Prop}(k:q)(h:Hd q→p:=by intro b0;(try refine agH ?_);exact b0.k):p:=h ⟨k⟩
theorem bt{p q:Prop}(k:q)(h:Hd q→p:=by intro b0;(repeat refine agM ?_);exact b0.k):p:=h ⟨k⟩
theorem tY{p:Prop}(h:p:=by(repeat refine agM ?_);first|done|trivial|((repeat' apply And.intro)<;>first|rfl|assumption)|(simp;done)|(simp[*];done)|(simp;omega)):p:=h
theorem agZ{p1 p q:Prop}(a1:p1)(k:q)(h:let b1:=a1;p=q:=by intro b1;simp -implicitDefEqProofs only[go_sem,Option.isSome_none,Option.getD_none,Option.isSome_some,Option.getD_some,b1];exact rfl):p:=h.mpr k
theorem agB{p1 p q:Prop}(a1:p1)(k:q)(h:let b1:=a1;Hd q→p:=by intro b1 b0;(first|with_reducible refine iK ?_|(with_reducible apply And.intro;exact sO)|with_reducible refine fD ?_|refine agZ b1 ?_);exact b0.k):p:=h ⟨k⟩
theorem bH{p1 p q:Prop}(a1:p1)(k:q)(h:let b1:=a1;Hd q→p:=by intro b1 b0;(try refine agZ b1 ?_);exact b0.k):p:=h ⟨k⟩
theorem du{p1 p q:Prop}(a1:p1)(k:q)(h:let b1:=a1;Hd q→p:=by intro b1 b0;(repeat refine agB b1 ?_);exact b0.k):p:=h ⟨k⟩
theorem dD{p1 p:Prop}(a1:p1)(h:let b1:=a1;p:=by intro b1;(repeat refine agB b1 ?_);first|done|trivial|((repeat' apply And.intro)<;>first|rfl|assumption)|(simp[b1];done)|(simp[*];done)|(simp[b1];omega)):p:=h
theorem iI{p1 p2 p q:Prop}(a1:p1)(a2:p2)(k:q)(h:let b1:=a1;let b2:=a2;Hd q→p:=by intro b1 b2 b0;refine bH (And.intro b1 b2) ?_;exact b0.k):p:=h ⟨k⟩
theorem oH{p1 p2 p q:Prop}(a1:p1)(a2:p2)(k:q)(h:let b1:=a1;let b2:=a2;Hd q→p:=by intro b1 b2 b0;refine du (And.intro b1 b2) ?_;exact b0.k):p:=h ⟨k⟩
theorem gG{p1 p2 p:Prop}(a1:p1)(a2:p2)(h:let b1:=a1;let b2:=a2;p:=by intro b1 b2;exact dD (And.intro b1 b2)):p:=h
theorem ot{p1 p2 p3 p q:Prop}(a1:p1)(a2:p2)(a3:p3)(k:q)(h:let b1:=a1;let b2:=a2;let b3:=a3;Hd q→p:=by intro b1 b2 b3 b0;refine bH (And.intro b1 (And.intro b2 b3)) ?_;exact b0.k):p:=h ⟨k⟩
theorem gL{p1 p2 p3 p q:Prop}(a1:p1)(a2:p2)(a3:p3)(k:q)(h:let b1:=a1;let b2:=a2;let b3:=a3;Hd q→p:=by intro b1 b2 b3 b0;refine du (And.intro b1 (And.intro b2 b3)) ?_;exact b0.k):p:=h ⟨k⟩
theorem mH{p1 p2 p3 p:Prop}(a1:p1)(a2:p2)(a3:p3)(h:let b1:=a1;let b2:=a2;let b3:=a3;p:=by intro b1 b2 b3;exact dD (And.intro b1 (And.intro b2 b3))):p:=h
theorem ah6{p q:Prop}(k:q)(h:p=q:=by simp -implicitDefEqProofs only[go_sem,Int.reduceEq,Int.reduceLT,Int.reduceLE,Int.reduceToNat,Option.isSome_none,Option.getD_none,Option.isSome_some,Option.getD_some];exact rfl):p:=h.mpr k
theorem afg{p q:Prop}(k:q)(h:Hd q→p:=by intro b0;(first|with_reducible refine iK ?_|(with_reducible apply And.intro;exact sO)|with_reducible refine fD ?_|refine ah6 ?_);exact b0.k):p:=h ⟨k⟩
theorem GL{p q:Prop}(k:q)(h:Hd q→p:=by intro b0;(repeat refine afg ?_);exact b0.k):p:=h ⟨k⟩
theorem ahc{p1 p q:Prop}(a1:p1)(k:q)(h:let b1:=a1;p=q:=by intro b1;simp -implicitDefEqProofs only[go_sem,Int.reduceEq,Int.reduceLT,Int.reduceLE,Int.reduceToNat,Option.isSome_none,Option.getD_none,Option.isSome_some,Option.getD_some,b1];exact rfl):p:=h.mpr k
theorem ahn{p1 p q:Prop}(a1:p1)(k:q)(h:let b1:=a1;Hd q→p:=by intro b1 b0;(first|with_reducible refine iK ?_|(with_reducible apply And.intro;exact sO)|with_reducible refine fD ?_|refine ahc b1 ?_);exact b0.k):p:=h ⟨k⟩
theorem GZ{p1 p q:Prop}(a1:p1)(k:q)(h:let b1:=a1;Hd q→p:=by intro b1 b0;(try refine ahc b1 ?_);exact b0.k):p:=h ⟨k⟩
theorem rM{p1 p q:Prop}(a1:p1)(k:q)(h:let b1:=a1;Hd q→p:=by intro b1 b0;(repeat refine ahn b1 ?_);exact b0.k):p:=h ⟨k⟩
theorem afE{p1 p:Prop}(a1:p1)(h:let b1:=a1;p:=by intro b1;(repeat refine ahn b1 ?_);first|done|trivial|((repeat' apply And.intro)<;>first|rfl|assumption)|(simp[b1];done)|(simp[*];done)|(simp[b1];omega)):p:=h
theorem ahr{p1 p2 p q:Prop}(a1:p1)(a2:p2)(k:q)(h:let b1:=a1;let b2:=a2;Hd q→p:=by intro b1 b2 b0;refine GZ (And.intro b1 b2) ?_;exact b0.k):p:=h ⟨k⟩
theorem RY{p1 p2 p q:Prop}(a1:p1)(a2:p2)(k:q)(h:let b1:=a1;let b2:=a2;Hd q→p:=by intro b1 b2 b0;refine rM (And.intro b1 b2) ?_;exact b0.k):p:=h ⟨k⟩
theorem Cc{p1 p2 p:Prop}(a1:p1)(a2:p2)(h:let b1:=a1;let b2:=a2;p:=by intro b1 b2;exact afE (And.intro b1 b2)):p:=h
theorem V7{p1 p2 p3 p q:Prop}(a1:p1)(a2:p2)(a3:p3)(k:q)(h:let b1:=a1;let b2:=a2;let b3:=a3;Hd q→p:=by intro b1 b2 b3 b0;refine GZ (And.intro b1 (And.intro b2 b3)) ?_;exact b0.k):p:=h ⟨k⟩
theorem P6{p1 p2 p3 p q:Prop}(a1:p1)(a2:p2)(a3:p3)(k:q)(h:let b1:=a1;let b2:=a2;let b3:=a3;Hd q→p:=by intro b1 b2 b3 b0;refine rM (And.intro b1 (And.intro b2 b3)) ?_;exact b0.k):p:=h ⟨k⟩
theorem Tf{p1 p2 p3 p:Prop}(a1:p1)(a2:p2)(a3:p3)(h:let b1:=a1;let b2:=a2;let b3:=a3;p:=by intro b1 b2 b3;exact afE (And.intro b1 (And.intro b2 b3))):p:=h
theorem cM{P:Program}{n0 n:Nat}(m:List (Option Nat)){p:PV}{ch ch':List (Nat×PV)}{st st':List (Option En)}(h1:wkC ⟨dN n p ch,st⟩ m ch p ch':=by first|(simp -implicitDefEqProofs only[go_sem];done)|(try simp -implicitDefEqProofs only[go_sem,Int.reduceEq,Int.reduceLT,Int.reduceLE,Int.reduceToNat];first|done|assumption|((repeat' apply And.intro)<;>first|rfl|assumption)|(simp[*];done)|(simp[a7, *];done)|(simp;omega)))(h2:nd ⟨dN n p ch,st⟩ m m st':=by first|(simp -implicitDefEqProofs only[go_sem];done)|(try simp -implicitDefEqProofs only[go_sem,Int.reduceEq,Int.reduceLT,Int.reduceLE,Int.reduceToNat];first|done|assumption|((repeat' apply And.intro)<;>first|rfl|assumption)|(simp[*];done)|(simp[a7, *];done)|(simp;omega)))(h3:AA m st'=true:=by rfl)(h4:keeps n0 0 m=true:=by rfl):pS P n0 ⟨dN n p ch,st⟩ ⟨dN n .any ch',st'⟩:=aZ m h1 h2 h3 h4
theorem nB_{P:Program}{n0 n:Nat}(m:List (Option Nat)){p:PV}{ch ch':List (Nat×PV)}{st st':List (Option En)}{a:Prop}(e0:a)(h1:let e:=e0;wkC ⟨dN n p ch,st⟩ m ch p ch':=by intro e;first|(simp -implicitDefEqProofs only[go_sem];done)|(try simp -implicitDefEqProofs only[go_sem,Int.reduceEq,Int.reduceLT,Int.reduceLE,Int.reduceToNat];first|exact e|(rw[e];done)|(simp[e];done)|((repeat' apply And.intro)<;>first|rfl|exact e)|(simp[a7, *];done)))(h2:let e:=e0;nd ⟨dN n p ch,st⟩ m m st':=by intro e;first|(simp -implicitDefEqProofs only[go_sem];done)|(try simp -implicitDefEqProofs only[go_sem,Int.reduceEq,Int.reduceLT,Int.reduceLE,Int.reduceToNat];first|exact e|(rw[e];done)|(simp[e];done)|((repeat' apply And.intro)<;>first|rfl|exact e)|(simp[a7, *];done)))(h3:AA m st'=true:=by rfl)(h4:keeps n0 0 m=true:=by rfl):pS P n0 ⟨dN n p ch,st⟩ ⟨dN n .any ch',st'⟩:=aZ m h1 h2 h3 h4
section
variable{m:Option (List Ky)}{gs:Option Nat}{d:Nat}{ty:TypeId}{pos:String}{fK:Array Edge}{gd:Option (Nat×Bool)}{E:Env}{g:G}{rest:uW→Option (List Ky)→G→Prop}{oE:Operand}{xs:List Operand}{tys:Array TypeId}{f:FuncId}(cap:List PV)
theorem AQ(ks:List Nat){dh:List PV}{res:PV}{q:Prop}
 (hC:C E.P f dh [] (jF res [])) (k:q) (h1:g.ev oE= .fn f cap:=by rfl) (h2:wq g ks (TU g xs++cap) dh:=by exact sV) (h3:sc res=true:=by simp -implicitDefEqProofs only[go_sem])
 (hr:rest .on (nx m (pE (wg gs ⟨ez oE++Ci xs,ks⟩) ⟨some (d,res),[]⟩)) (g.app ⟨some (d,res),[]⟩)=q:=by simp -implicitDefEqProofs only[go_sem];exact rfl):tR E m gs ⟨some d,.call ⟨.value oE,⟨xs⟩,tys⟩,ty,pos,fK,gd⟩ g rest:=
 qj cap ks hC h1 h2 h3 (hr▸k)
theorem sa{dh:List PV}{res:PV}{q:Prop}
 (hC:C E.P f dh [] (jF res [])) (k:q) (h:g.ev oE= .fn f cap∧Io (TU g xs++cap) dh∧wj 0 dh=true∧res.lt 0=true:=by simp -implicitDefEqProofs only[go_sem,Int.reduceEq,Int.reduceLT,Int.reduceLE,Int.reduceToNat])
 (hr:Hd q→rest .on (nx m (pE (wg gs ⟨ez oE++Ci xs,[]⟩) ⟨some (d,res),[]⟩)) (g.app ⟨some (d,res),[]⟩):=by intro b0;(repeat refine afg ?_);exact b0.k):tR E m gs ⟨some d,.call ⟨.value oE,⟨xs⟩,tys⟩,ty,pos,fK,gd⟩ g rest:=
 dy cap hC h (hr ⟨k⟩)
theorem Mw(M:List Nat){dh:List PV}{fG st':List (Option En)}{res:PV}{q:Prop}
 (hC:C E.P f dh fG (jF res st')) (k:q) (h:g.ev oE= .fn f cap∧Io (TU g xs++cap) (tu M dh)∧wj (lX fG) dh=true∧Qw M=true∧zY (lX fG) (Gk M)=true∧zY (lX fG) (lX st')=true∧zY (lX st') (Gk M)=true∧pP g M (lX fG) M fG∧jP g (lX fG) M:=by simp -implicitDefEqProofs only[go_sem,Int.reduceEq,Int.reduceLT,Int.reduceLE,Int.reduceToNat])
 (hr:Hd q→rest .on (nx m (pE (wg gs ⟨ez oE++Ci xs,M⟩) ⟨some (d,res.nZ M),mF M M st'⟩)) (g.app ⟨some (d,res.nZ M),mF M M st'⟩):=by intro b0;(repeat refine afg ?_);exact b0.k):tR E m gs ⟨some d,.call ⟨.value oE,⟨xs⟩,tys⟩,ty,pos,fK,gd⟩ g rest:=
 lx cap M hC h (hr ⟨k⟩)
end
theorem jr{E:Env}{n0:Nat}{g:G}{c:Code}{Q:Ex→G→Prop}(hm:E.P.follows .mixedOrders=true)(N:Nat)(T:Nat→G)(h0:pS E.P n0 g (T 0))(round:∀a,a≤N→My E n0 c .on (T a) (fun _=>qU E.P n0 (fun a=>a≤N) T (fun a=>N-a) a Q)):W E.P n0 (.loop c) g Q:=cS hm (fun a=>a≤N) T (fun a=>N-a) 0 (Nat.zero_le _) h0 round
theorem kC{E:Env}{n0:Nat}{g:G}{c:Code}{Q:Ex→G→Prop}(hm:E.P.follows .mixedOrders=true)(N:Nat)(I:Nat→Prop)(T:Nat→G)(hi:0≤N∧I 0)(h0:pS E.P n0 g (T 0))(round:∀a,(a≤N∧I a)→My E n0 c .on (T a) (fun _=>qU E.P n0 (fun a=>a≤N∧I a) T (fun a=>N-a) a Q)):W E.P n0 (.loop c) g Q:=cS hm (fun a=>a≤N∧I a) T (fun a=>N-a) 0 hi h0 round
theorem ry{E:Env}{n0:Nat}{g:G}{c:Code}{Q:Ex→G→Prop}(hm:E.P.follows .mixedOrders=true){B:Type}(N:Nat)(I:Nat→B→Prop)(T:Nat→B→G)(b0:B)(hi:0≤N∧I 0 b0)(h0:pS E.P n0 g (T 0 b0))(round:∀a b,(a≤N∧I a b)→My E n0 c .on (T a b) (fun _=>Dy E.P n0 (fun a b=>a≤N∧I a b) T (fun a _=>N-a) a b Q)):W E.P n0 (.loop c) g Q:=jI hm (fun a b=>a≤N∧I a b) T (fun a _=>N-a) 0 b0 hi h0 round
theorem aaR{E:Env}{n0:Nat}{g:G}{c:Code}{Q:Ex→G→Prop}(hm:E.P.follows .mixedOrders=true){B D:Type}(N:Nat)(I:Nat→B→D→Prop)(T:Nat→B→D→G)(b0:B)(d0:D)(hi:0≤N∧I 0 b0 d0)(h0:pS E.P n0 g (T 0 b0 d0))(round:∀a b d,(a≤N∧I a b d)→My E n0 c .on (T a b d) (fun _=>LH E.P n0 (fun a b d=>a≤N∧I a b d) T (fun a _ _=>N-a) a b d Q)):W E.P n0 (.loop c) g Q:=n6 hm (fun a b d=>a≤N∧I a b d) T (fun a _ _=>N-a) 0 b0 d0 hi h0 round
def fe:List (Option Nat):=[some 0]
def kR:List (Option Nat):=[some 0,some 1]
def rC:List (Option Nat):=[some 0,some 1,some 2]
def wM:List (Option Nat):=[some 0,some 1,some 2,some 3]
def im5:List (Option Nat):=[some 0,some 1,some 2,some 3,some 4]
def im6:List (Option Nat):=[some 0,some 1,some 2,some 3,some 4,some 5]
def im7:List (Option Nat):=[some 0,some 1,some 2,some 3,some 4,some 5,some 6]
def im8:List (Option Nat):=[some 0,some 1,some 2,some 3,some 4,some 5,some 6,some 7]
def im9:List (Option Nat):=[some 0,some 1,some 2,some 3,some 4,some 5,some 6,some 7,some 8]
attribute [go_sem] fe kR rC wM im5 im6 im7 im8 im9
theorem sR{p:Prop}(h:p:=by(repeat' apply And.intro)<;>rfl):p:=h

theorem uA{p q:Prop}(k:q)(h:p=q:=by simp -implicitDefEqProofs only[go_sem,h1];exact rfl):p:=h▸k
theorem uB{p q:Prop}(k:q)(h:p=q:=by simp -implicitDefEqProofs only[go_sem,h2];exact rfl):p:=h▸k
theorem uC{p q:Prop}(k:q)(h:p=q:=by simp -implicitDefEqProofs only[go_sem,h3];exact rfl):p:=h▸k
theorem uD{p q:Prop}(k:q)(h:p=q:=by simp -implicitDefEqProofs only[go_sem,h4];exact rfl):p:=h▸k
theorem uE{p q:Prop}(k:q)(h:p=q:=by simp -implicitDefEqProofs only[go_sem,h5];exact rfl):p:=h▸k
theorem uF{p q:Prop}(k:q)(h:p=q:=by simp -implicitDefEqProofs only[go_sem,h];exact rfl):p:=h▸k
theorem uG{p q:Prop}(k:q)(h:p=q:=by simp -implicitDefEqProofs only[go_sem,k];exact rfl):p:=h▸k
theorem uH{p q:Prop}(k:q)(h:p=q:=by simp -implicitDefEqProofs only[go_sem,k0];exact rfl):p:=h▸k
theorem uI{p q:Prop}(k:q)(h:p=q:=by simp -implicitDefEqProofs only[go_sem,g1];exact rfl):p:=h▸k
theorem uJ{p q:Prop}(k:q)(h:p=q:=by simp -implicitDefEqProofs only[go_sem,h1,h2];exact rfl):p:=h▸k
theorem uK{p q:Prop}(k:q)(h:p=q:=by simp -implicitDefEqProofs only[go_sem,Option.isSome_none,Option.getD_none];exact rfl):p:=h▸k
theorem uL{p q:Prop}(k:q)(h:p=q:=by simp -implicitDefEqProofs only[go_sem,Option.isSome_some,Option.getD_some];exact rfl):p:=h▸k
theorem yA{p q:Prop}(k:q)(h:p=q:=by simp -implicitDefEqProofs only[go_sem,Int.reduceEq,Int.reduceLT,Int.reduceLE,Int.reduceToNat,h1];exact rfl):p:=h▸k
theorem yB{p q:Prop}(k:q)(h:p=q:=by simp -implicitDefEqProofs only[go_sem,Int.reduceEq,Int.reduceLT,Int.reduceLE,Int.reduceToNat,h2];exact rfl):p:=h▸k
theorem yC{p q:Prop}(k:q)(h:p=q:=by simp -implicitDefEqProofs only[go_sem,Int.reduceEq,Int.reduceLT,Int.reduceLE,Int.reduceToNat,h3];exact rfl):p:=h▸k
theorem yD{p q:Prop}(k:q)(h:p=q:=by simp -implicitDefEqProofs only[go_sem,Int.reduceEq,Int.reduceLT,Int.reduceLE,Int.reduceToNat,h4];exact rfl):p:=h▸k
theorem yE{p q:Prop}(k:q)(h:p=q:=by simp -implicitDefEqProofs only[go_sem,Int.reduceEq,Int.reduceLT,Int.reduceLE,Int.reduceToNat,h5];exact rfl):p:=h▸k
theorem yF{p q:Prop}(k:q)(h:p=q:=by simp -implicitDefEqProofs only[go_sem,Int.reduceEq,Int.reduceLT,Int.reduceLE,Int.reduceToNat,h];exact rfl):p:=h▸k
theorem yG{p q:Prop}(k:q)(h:p=q:=by simp -implicitDefEqProofs only[go_sem,Int.reduceEq,Int.reduceLT,Int.reduceLE,Int.reduceToNat,k];exact rfl):p:=h▸k
theorem yH{p q:Prop}(k:q)(h:p=q:=by simp -implicitDefEqProofs only[go_sem,Int.reduceEq,Int.reduceLT,Int.reduceLE,Int.reduceToNat,k0];exact rfl):p:=h▸k
theorem yI{p q:Prop}(k:q)(h:p=q:=by simp -implicitDefEqProofs only[go_sem,Int.reduceEq,Int.reduceLT,Int.reduceLE,Int.reduceToNat,g1];exact rfl):p:=h▸k
theorem yJ{p q:Prop}(k:q)(h:p=q:=by simp -implicitDefEqProofs only[go_sem,Int.reduceEq,Int.reduceLT,Int.reduceLE,Int.reduceToNat,h1,h2];exact rfl):p:=h▸k
end Go.Eng
namespace Go.Mod
open Go.Eng
def cK(n lo hi:Int):Bool:=decide (lo≤n)&&decide (n≤hi)
theorem dB{n lo hi:Int}:cK n lo hi=true↔lo≤n∧n≤hi:=by simp[cK]
def fj{α:Type}(p:α→Bool):List α→Int→Int
 | [],_=>-1
 | x::xs,i=>if p x then i else fj p xs (i+1)
def idxOf{α:Type}(p:α→Bool)(xs:List α):Int:=fj p xs 0
def cP(a:Rat):Bool:=cK a.N (-1000000000) 1000000000&&(cK a.D 1 1000000000&&decide ((b9 a.N a.D:Int)=1))
def lW:Rat:=⟨0,0⟩
def jO(n d:Int):Rat×Bool:=
 if d=0 then(lW,false) else
 let n1:=if d<0 then -n else n
 let d1:=if d<0 then -d else d
 let a:Rat:=⟨n1.tdiv (b9 n1 d1),d1.tdiv (b9 n1 d1)⟩
 if cP a then(a,true) else(lW,false)
def ny(n d:Int):Rat×Bool:=if cK n (-1000000000) 1000000000&&cK d (-1000000000) 1000000000 then jO n d else(lW,false)
def eL(a b:Rat):Rat×Bool:=if cP a&&cP b then jO (a.N*b.D+b.N*a.D) (a.D*b.D) else(lW,false)
def dt(a b:Rat):Rat×Bool:=if cP a&&cP b then jO (a.N*b.N) (a.D*b.D) else(lW,false)
def eF(a b:Rat):Bool:=cP a&&(cP b&&decide (a.N*b.D<b.N*a.D))
def tF(a b:Rat):Rat×Bool:=if(eL a b).2 then dt (eL a b).1 ⟨1,2⟩ else(lW,false)
def ql(n:Int):Bool:=cK n (-1000000) 1000000
def fF(l:j8):Bool:=l.aW.all ql&&(decide (l.aW.length=4)&&ql l.bj)
def qo:j8:=⟨[],0,false⟩
def tV(l:j8):j8:=if fF l then⟨l.aW.map fun c=>-c,-l.bj,!l.bJ⟩ else qo
def iC(m n:Int):List Int→List Int→List Int
 | a::as,b::bs=>(m*a+n*b)::iC m n as bs
 | _,_=>[]
def mG(a:j8)(m:Int)(b:j8)(n:Int):j8:=⟨iC m n a.aW b.aW,m*a.bj+n*b.bj,(decide (0<m)&&a.bJ)||(decide (0<n)&&b.bJ)⟩
def nO(a:j8)(m:Int)(b:j8)(n:Int):j8×Bool:=if fF (mG a m b n) then(mG a m b n,true) else(qo,false)
def fL(a:j8)(m:Int)(b:j8)(n:Int):j8×Bool:=if fF a&&fF b&&cK m 0 1000000&&cK n 0 1000000 then nO a m b n else(qo,false)
def flat(l:j8):Bool:=l.aW.all fun c=>decide (c=0)
def lM(l:j8):Bool:=fF l&&(flat l&&(decide (l.bj<0)||(decide (l.bj=0)&&l.bJ)))
def whole(n:Int):Rat:=⟨n,1⟩
def plus(sum:Rat)(c:Int)(val:Rat):Rat×Bool:=if(dt (whole c) val).2 then eL sum (dt (whole c) val).1 else(lW,false)
def iU(aS:List j8):Bool:=decide (aS.length≤20)&&aS.all fF
def rD:List j8→List Int→j8→j8×Bool
 | l::ls,t::ts,out=>if(fL out 1 l t).2 then rD ls ts (fL out 1 l t).1 else(qo,false)
 | _,_,out=>(out,true)
def mv(aS:List j8)(a8:List Int):j8×Bool:=if iU aS&&decide (a8.length=aS.length) then rD aS a8 ⟨[0,0,0,0],0,false⟩ else(qo,false)
def vY(aS:List j8)(a8:List Int):Bool:=(mv aS a8).2&&lM (mv aS a8).1
def kE(c:UInt8):Bool:=decide ((97:Int)≤(c.toNat:Int))&&decide ((c.toNat:Int)≤122)
def gO(s:pL):Bool:=cK s.length 1 2&&s.all kE
def isSort(n:Int):Bool:=decide (n=0)||decide (n=1)
def qt(x:Sym):Bool:=gO x.name&&(decide (x.args.length≤2)&&(isSort x.sort&&x.args.all isSort))
def iQ(a b:pL):Bool:=Op.bytesLess a b
def tX:Option pL→List Sym→Bool
 | _,[]=>true
 | p,x::xs=>qt x&&((match p with|none=>true|some q=>iQ q x.name)&&tX (some x.name) xs)
def gC(s:eM):Bool:=tX none s.cQ&&decide (s.cQ.length≤7)
def symbol(s:eM)(name:pL):Option Sym:=s.cQ.find? fun x=>decide (x.name=name)
def zw:Sym:=⟨[],[],0⟩
mutual
def nh:ax→Nat→Nat
 | .mk n ks,bn=>if gO n&&decide (ks.length≤2)&&decide (bn≤4) then 1+hQ ks (bn+1) else 13
def hQ:List ax→Nat→Nat
 | [],_=>0
 | t::ts,bn=>nh t bn+hQ ts bn
end
def bG(t:ax):Bool:=decide (nh t 1≤12)
mutual
def cd:ax→Nat→Bool
 | _,0=>false
 | .mk n ks,d+1=>gO n&&(decide (ks.length≤2)&&dz ks d)
def dz:List ax→Nat→Bool
 | [],_=>true
 | t::ts,d=>cd t d&&dz ts d
end
mutual
def dL:ax→Nat→Nat
 | _,0=>1
 | .mk _ ks,d+1=>1+ow ks d
def ow:List ax→Nat→Nat
 | [],_=>0
 | t::ts,d=>dL t d+ow ts d
end
mutual
def ic(s:eM):ax→Option Int
 | .mk n ks=>match symbol s n with
   | none=>none
   | some x=>if decide (x.args.length=ks.length)&&ja s ks x.args then some x.sort else none
def ja(s:eM):List ax→List Int→Bool
 | k::ks,a::as=>decide (ic s k=some a)&&ja s ks as
 | _,_=>true
end
def gK(s:eM)(t:ax):Option Int:=if gC s&&bG t then ic s t else none
def lY:List pL→pL
 | []=>[]
 | [t]=>t
 | t::ts=>t++(44::lY ts)
mutual
def aR:ax→pL
 | .mk n []=>n
 | .mk n (k::ks)=>n++(40::(lY (aR k::im ks)++[41]))
def im:List ax→List pL
 | []=>[]
 | t::ts=>aR t::im ts
end
def b8(aS:List ax)(t:ax):Int:=idxOf (fun u=>decide (t=u)) aS
mutual
def dY(aS:List ax):ax→List ax
 | .mk n ks=>let l:=bp aS ks;if b8 l (.mk n ks)<0 then l++[.mk n ks] else l
def bp(aS:List ax):List ax→List ax
 | []=>aS
 | t::ts=>bp (dY aS t) ts
end
def oB:List ax→List ax→List ax
 | [],out=>out
 | t::ts,out=>if bG t then oB ts (dY out t) else []
def kL(aS:List ax):List ax:=oB aS []
def s6(bB:List hY):List ax:=bB.flatMap fun e=>[e.A,e.B]
def iP(s:eM)(e:hY):Bool:=(gK s e.A).isSome&&decide (gK s e.A=gK s e.B)
def pC(s:eM)(bB:List hY):Bool:=gC s&&decide (bB.length≤12)&&bB.all (iP s)&&decide ((kL (s6 bB)).length≤24)
def aQ:ax:=.mk [] []
def isNone(t:ax):Bool:=decide (t.name=[])&&decide (t.ar=[])
def xL:hY:=⟨aQ,aQ⟩
def wv:lH:=.mk 0 0 aQ []
def bZ(bB:List hY)(kD n:Int)(t:ax)(ar:List hY):hY×Bool:=
 if(kD≠2∧n≠0)∨(kD≠1∧kD≠5∧isNone t=false) then(xL,false) else
 if kD=1 then(⟨t,t⟩,decide (ar.length=0)&&bG t) else
 if kD=2 then(if 0<ar.length∨cK n 0 (bB.length-1)=false then(xL,false) else(bB.getD n.toNat xL,true)) else
 if kD=3 then(if ar.length=1 then(⟨(ar.getD 0 xL).B,(ar.getD 0 xL).A⟩,true) else(xL,false)) else
 if kD=4 then(if ar.length=2∧(ar.getD 0 xL).B=(ar.getD 1 xL).A then(⟨(ar.getD 0 xL).A,(ar.getD 1 xL).B⟩,true) else(xL,false)) else
 if kD=5 then(if ar.length=0∨gO t.name=false∨0<t.ar.length then(xL,false) else
  (⟨.mk t.name (ar.map (·.A)),.mk t.name (ar.map (·.B))⟩,bG (.mk t.name (ar.map (·.A)))&&bG (.mk t.name (ar.map (·.B))))) else
 (xL,false)
mutual
def cp(f:Int→Int→ax→List hY→hY×Bool):lH→Nat→hY×Bool
 | _,0=>(xL,false)
 | .mk r n t ks,d+1=>match dC f ks d with
   | none=>(xL,false)
   | some ar=>f r n t ar
def dC(f:Int→Int→ax→List hY→hY×Bool):List lH→Nat→Option (List hY)
 | [],_=>some []
 | w::ws,d=>if(cp f w d).2 then(dC f ws d).map fun es=>(cp f w d).1::es else none
end
def mc(s:eM)(bB:List hY)(w:lH):Option hY:=
 if pC s bB&&((cp (bZ bB) w 400).2&&pC s [(cp (bZ bB) w 400).1]) then some (cp (bZ bB) w 400).1 else none
def mU:Option ax→List ax→List Int→Bool
 | p,t::ts,n::ns=>bG t&&(cK n (-50) 50&&(decide (n≠0)&&((match p with|none=>true|some q=>iQ (aR q) (aR t))&&mU (some t) ts ns)))
 | _,_,_=>true
def dq(a:cR):Bool:=
 if a.kind=1 then bG a.A&&(bG a.B&&(decide (a.ai.length=0)&&(decide (a.a8.length=0)&&(decide (a.bj=0)&& !a.bJ)))) else
 if a.kind=2 then isNone a.A&&(isNone a.B&&(cK a.ai.length 1 4&&(decide (a.a8.length=a.ai.length)&&(cK a.bj (-1000) 1000&&mU none a.ai a.a8)))) else false
def eQ(s:eM)(t:ax):Bool:=decide (gK s t=some 1)
def gr(s:eM)(a:cR):Bool:=gC s&&(dq a&&(if a.kind=1 then iP s ⟨a.A,a.B⟩ else a.ai.all (eQ s)))
def cY(a:cR):List ax:=if a.kind=1 then [a.A,a.B] else a.ai
def aL(ab:List bL):List ax:=kL (ab.flatMap fun l=>cY l.aN)
def aG(s:eM)(ab:List bL):List ax:=(aL ab).filter (eQ s)
def gn(s:eM)(ab:List bL):Bool:=gC s&&decide (ab.length≤6)&&ab.all (fun l=>gr s l.aN)&&decide ((aL ab).length≤24)&&decide ((aG s ab).length≤4)
def br(ab:List bL):List hY:=ab.filterMap fun l=>if l.aN.kind=1∧l.no=false then some ⟨l.aN.A,l.aN.B⟩ else none
def oS:List Int→Int→Int→List Int
 | [],_,_=>[]
 | c::cs,i,v=>if i=0 then(c+v)::cs else c::oS cs (i-1) v
def l9(ai:List ax):List ax→List Int→List Int→List Int
 | t::ts,n::ns,cs=>l9 ai ts ns (oS cs (b8 ai t) n)
 | _,_,cs=>cs
def nX(ai aS:List ax)(a8:List Int)(bj:Int)(bJ:Bool):j8:=⟨l9 ai aS a8 [0,0,0,0],bj,bJ⟩
def kK(ai:List ax)(l:bL):List j8:=
 if l.aN.kind=2 then [if l.no then tV (nX ai l.aN.ai l.aN.a8 l.aN.bj l.aN.bJ) else nX ai l.aN.ai l.aN.a8 l.aN.bj l.aN.bJ]
 else if l.no=false∧0≤b8 ai l.aN.A then [nX ai [l.aN.A,l.aN.B] [1,-1] 0 false,nX ai [l.aN.A,l.aN.B] [-1,1] 0 false] else []
def fN(ai:List ax)(ab:List bL):List j8:=ab.flatMap (kK ai)
def Bp(a b:ax):cR:=⟨1,a,b,[],[],0,false⟩
def jf(a b:ax):bL:=⟨Bp a b,false⟩
def fa(a b:ax):bL:=if iQ (aR b) (aR a) then⟨⟨2,aQ,aQ,[b,a],[-1,1],0,true⟩,false⟩ else⟨⟨2,aQ,aQ,[a,b],[1,-1],0,true⟩,false⟩
def gv(a b:ax):List bL:=[jf a b,fa a b,fa b a]
def differ(ai:List ax)(a b:ax):Bool:=decide (0≤b8 ai a)&&(decide (0≤b8 ai b)&&decide (b8 ai a≠b8 ai b))
def bare(c:eJ)(n tq a8 ay:Bool)(ar:Nat):Bool:=
 (n||decide (c.n=0))&&((tq||decide (c.tq=wv))&&((a8||decide (c.a8.length=0))&&((ay||(isNone c.A&&isNone c.B))&&decide (c.ar.length=ar))))
theorem o3:aQ.name=[]:=rfl
theorem oU:aQ.ar=[]:=rfl
theorem Hz:xL.A=aQ:=rfl
theorem H5:xL.B=aQ:=rfl
theorem OV:zw.name=[]:=rfl
theorem ON:zw.args=[]:=rfl
theorem Oe:zw.sort=0:=rfl
theorem Lw:qo.aW=[]:=rfl
theorem Ln:qo.bj=0:=rfl
theorem HV:qo.bJ=false:=rfl
theorem acw:lW.N=0:=rfl
theorem aa0:lW.D=0:=rfl
theorem OQ:wv.kD=0:=rfl
theorem abk:wv.n=0:=rfl
theorem Z6:wv.t=aQ:=rfl
theorem NQ:wv.ar=[]:=rfl
attribute [simp] o3 oU Hz H5 OV ON Oe Lw Ln HV acw aa0 OQ abk Z6 NQ il BP lJ nw
attribute [go_sem] o3 oU Hz H5 OV ON Oe Lw Ln HV acw aa0 OQ abk Z6 NQ
theorem Ec(n:pL)(ks:List ax):(ax.mk n ks).name=n:=rfl
theorem EL(n:pL)(ks:List ax):(ax.mk n ks).ar=ks:=rfl
attribute [simp] Ec EL
attribute [go_sem] Ec EL
def rn(a b:Rat):Int:=if eF a b then -1 else if eF b a then 1 else 0
def jk:List Rat→List Rat→Int
 | [],[]=>0
 | [],_::_=>-1
 | _::_,[]=>1
 | a::as,b::bs=>if rn a b=0 then jk as bs else rn a b
def qe(a b:pL):Int:=if iQ a b then -1 else if iQ b a then 1 else 0
def qY(a b:Int):Int:=if a<b then -1 else if b<a then 1 else 0
def gx(a b:Row):Int:=if qe a.name b.name≠0 then qe a.name b.name else if qY a.args.length b.args.length≠0 then qY a.args.length b.args.length else jk a.args b.args
def mW(r:Row):Bool:=gO r.name&&(decide (r.args.length≤2)&&(cP r.val&&r.args.all cP))
def xj:Option Row→List Row→Bool
 | _,[]=>true
 | p,r::rs=>mW r&&((match p with|none=>true|some q=>decide (gx q r<0))&&xj (some r) rs)
def fS(m:dQ):Bool:=decide (m.aw.length≤40)&&xj none m.aw
def ud(a:Rat)(sort:Int):Bool:=decide (sort=1)||decide (a.D=1)
def kZ:List Rat→List Int→Bool
 | a::as,n::ns=>ud a n&&kZ as ns
 | _,_=>true
def lO(s:eM)(r:Row):Bool:=
 match symbol s r.name with
 | none=>false
 | some x=>decide (x.args.length=r.args.length)&&(ud r.val x.sort&&kZ r.args x.args)
def fR(s:eM)(m:dQ):Bool:=gC s&&(fS m&&m.aw.all (lO s))
def lookup(aw:List Row)(name:pL)(args:List Rat):Rat:=
 match aw.find? (fun r=>decide (r.name=name∧r.args=args)) with
 | some r=>r.val
 | none=>⟨0,1⟩
mutual
def value(m:dQ):ax→Rat
 | .mk n ks=>lookup m.aw n (values m ks)
def values(m:dQ):List ax→List Rat
 | []=>[]
 | t::ts=>value m t::values m ts
end
def ox(m:dQ):List ax→List Int→Rat→Option Rat
 | t::ts,n::ns,sum=>if(plus sum n (value m t)).2 then ox m ts ns (plus sum n (value m t)).1 else none
 | _,_,sum=>some sum
def below(a:Rat)(bj:Int)(bJ:Bool):Bool:=if bJ then eF a (whole bj) else !eF (whole bj) a
def qi(m:dQ)(a:cR):Option Bool:=if a.kind=1 then some (decide (value m a.A=value m a.B)) else(ox m a.ai a.a8 (whole 0)).map fun x=>below x a.bj a.bJ
def iy(s:eM)(m:dQ)(l:bL):Option Bool:=if fR s m&&gr s l.aN then(qi m l.aN).map fun b=>b != l.no else none
mutual
def jA(s:eM)(ai:List ax):eJ→List bL→Nat→Bool
 | .mk k n w ts a b ks,ab,bn=>
   if 14<bn then false else
   if k=1 then bare (.mk k n w ts a b ks) true true false false 0&&(cK n 0 (ab.length-1)&&(match mc s (br ab) w,ab[n.toNat]? with
    | some e,some l=>l.no&&(decide (l.aN.kind=1)&&(decide (e.A=l.aN.A)&&decide (e.B=l.aN.B)))
    | _,_=>false)) else
   if k=2 then bare (.mk k n w ts a b ks) false false true false 0&&vY (fN ai ab) ts else
   if k=3 then bare (.mk k n w ts a b ks) false true false false 1&&(match mc s (br ab) w with
    | some e=>differ ai e.A e.B&&kh s ai ks [ab++[jf e.A e.B]] (bn+1)
    | none=>false) else
   if k=4 then bare (.mk k n w ts a b ks) false false false true 3&&(differ ai a b&&kh s ai ks ((gv a b).map fun l=>ab++[l]) (bn+1)) else
   false
def kh(s:eM)(ai:List ax):List eJ→List (List bL)→Nat→Bool
 | c::cs,l::ls,bn=>jA s ai c l bn&&kh s ai cs ls bn
 | _,_,_=>true
end
def xk(s:eM)(ab:List bL)(c:eJ):Bool:=gn s ab&&jA s (aG s ab) c ab 1
def gw(kind:Int):Int:=if kind=1 then 0 else if kind=2 then 1 else if kind=3∨kind=4∨kind=5∨kind=6 then 2 else -1
def rF:cR:=⟨0,aQ,aQ,[],[],0,false⟩
def Gq:bL:=⟨rF,false⟩
def KB:bU:=.mk 0 Gq []
def ux(l:bL):Bool:=!l.no&&decide (l.aN=rF)
def kV(k:Int)(l:bL)(ks:List bU):Bool:=decide (gw k=ks.length)&&(if k=1 then dq l.aN else ux l)
mutual
def iR:bU→Nat→Nat
 | .mk k l ks,bn=>if decide (bn≤5)&&kV k l ks then 1+ik ks (bn+1) else 11
def ik:List bU→Nat→Nat
 | [],_=>0
 | t::ts,bn=>iR t bn+ik ts bn
end
mutual
def cJ:bU→Nat→Bool
 | _,0=>false
 | .mk k l ks,d+1=>kV k l ks&&di ks d
def di:List bU→Nat→Bool
 | [],_=>true
 | t::ts,d=>cJ t d&&di ts d
end
mutual
def jJ:bU→Nat→Nat
 | _,0=>1
 | .mk _ _ ks,d+1=>1+hJ ks d
def hJ:List bU→Nat→Nat
 | [],_=>0
 | t::ts,d=>jJ t d+hJ ts d
end
def jG(aS:List cR)(a:cR):Int:=idxOf (fun b=>decide (a=b)) aS
mutual
def dX(aS:List cR):bU→List cR
 | .mk k l ks=>if k=1 then(if jG aS l.aN<0 then aS++[l.aN] else aS) else ba aS ks
def ba(aS:List cR):List bU→List cR
 | []=>aS
 | t::ts=>ba (dX aS t) ts
end
def jB(f:bU):Bool:=decide (iR f 1≤10)&&decide ((dX [] f).length≤6)
def plain(aS:List cR):List bL:=aS.map fun a=>⟨a,false⟩
def ae2(s:eM)(f:bU):Bool:=jB f&&gn s (plain (dX [] f))
mutual
def holds(p:cR→Bool):bU→Bool
 | .mk k l ks=>afy k l (aaL p ks) p
def aaL(p:cR→Bool):List bU→List Bool
 | []=>[]
 | t::ts=>holds p t::aaL p ts
def afy(k:Int)(l:bL)(is:List Bool)(p:cR→Bool):Bool:=
 if k=1 then p l.aN != l.no else
 if k=2 then !(is.getD 0 false) else
 if k=3 then is.getD 0 false&&is.getD 1 false else
 if k=4 then is.getD 0 false||is.getD 1 false else
 if k=5 then !(is.getD 0 false)||is.getD 1 false else
 is.getD 0 false == is.getD 1 false
end
def afG(f:bU)(aF:List Bool):Option Bool:=
 if jB f&&decide ((dX [] f).length=aF.length) then some (holds (fun a=>aF.getD (jG (dX [] f) a).toNat false) f) else none
def aa7(s:eM)(m:dQ):List cR→Option (List Bool)
 | []=>some []
 | a::as=>match iy s m ⟨a,false⟩ with
   | none=>none
   | some b=>match aa7 s m as with
     | none=>none
     | some bs=>some (b::bs)
def Y3(s:eM)(m:dQ)(f:bU):Option Bool:=
 if ae2 s f then(match aa7 s m (dX [] f) with|none=>none|some aF=>afG f aF) else none
def Eg:List bU→List cR→List cR
 | [],out=>out
 | f::fs,out=>Eg fs (dX out f)
def fc(aS:List bU):Option (List cR):=
 if decide (aS.length≤5)&&(aS.all jB&&decide ((Eg aS []).length≤6)) then some (Eg aS []) else none
def hH(s:eM)(aS:List bU):Bool:=match fc aS with|none=>false|some atoms=>gC s&&gn s (plain atoms)
def oY(l dL:Int):Bool:=decide (l≠0)&&cK l (-dL) dL
def rq:List Int→List Int→Int→Bool
 | _,[],_=>true
 | before,m::ms,dL=>oY m dL&&(!(before.contains m)&&(!(before.contains (-m))&&rq (before++[m]) ms dL))
def gf(marks:List Int)(dL:Nat):Bool:=rq [] marks dL
def cH(marks:List Int)(atoms:List cR):List bL:=marks.map fun m=>⟨atoms.getD (m.natAbs-1) rF,decide (m<0)⟩
def yT(s:eM)(aS:List bU)(l:nY):Bool:=
 hH s aS&&(decide (0<l.marks.length)&&(gf l.marks ((fc aS).getD []).length&&xk s (cH l.marks ((fc aS).getD [])) l.case))
def ahh(s:eM)(m:dQ)(aS:List bU):Bool:=hH s aS&&(fR s m&&aS.all fun f=>decide (Y3 s m f=some true))
end Go.Mod
namespace Go.Proofs.YtphcpjhkeipggaaGreat
open Go.Eng Go.Mod
set_option maxRecDepth 100000
theorem Ku{n:Int}:(if n < -n then -n else n)=(n.natAbs:Int):=by split<;>omega
end Go.Proofs.YtphcpjhkeipggaaGreat
namespace Go.Mod
open Go.Eng
mutual
theorem w8:∀(t:ax)(d:Nat),d≤4→(cd t d=true→nh t (5-d)=dL t d)∧(cd t d=false→13≤nh t (5-d))
 | .mk n ks,0,_=>by simp[cd,nh]
 | .mk n ks,d+1,hd=>by obtain⟨h1,h2⟩:=EM ks d oM;have e:5-(d+1)+1=5-d:=oM;have e2:5-(d+1)≤4:=oM;simp only[cd,nh,dL,e,e2,decide_true,Bool.and_true];cases hn:gO n;simp;rcases aa (ks.length≤2) with hk|hk;simp only[hk,decide_true,Bool.and_self,aA,if_true];exact⟨fun h=>by rw[h1 h],fun h=>by have:=h2 h;omega⟩;simp[hk]
theorem EM:∀(ts:List ax)(d:Nat),d≤4→(dz ts d=true→hQ ts (5-d)=ow ts d)∧(dz ts d=false→13≤hQ ts (5-d))
 | [],_,_=>by simp[dz,hQ,ow]
 | t::ts,d,hd=>by obtain⟨h1,h2⟩:=w8 t d hd;obtain⟨h3,h4⟩:=EM ts d hd;simp only[dz,hQ,ow];cases ht:cd t d;have:=h2 ht;exact⟨fun h=>by simp at h,fun _=>by omega⟩;cases hts:dz ts d;have:=h4 hts;exact⟨fun h=>by simp at h,fun _=>by omega⟩;exact⟨fun _=>by rw[h1 ht,h3 hts],fun h=>by simp at h⟩
end
def right(t:ax):Bool:=cd t 4&&decide (dL t 4≤12)
theorem Ef(t:ax):right t=bG t:=by have h:=w8 t 4 oM;simp only[show 5-4=1 from rfl] at h;obtain⟨h1,h2⟩:=h;unfold right bG;cases h:cd t 4;have:=h2 h;simp only[Bool.false_and];symm;simp only[decide_eq_false_iff_not];omega;rw[←h1 h];simp
theorem jh{t:ax}(h:bG t=true):cd t 4=true:=by rw[←Ef] at h;simp only[right,ah] at h;exact h.1
mutual
theorem GV:∀(t:ax)(d:Nat),cd t d=true→cd t (d+1)=true
 | .mk n ks,0,h=>by simp[cd] at h
 | .mk n ks,d+1,h=>by simp only[cd,ah] at h⊢;exact⟨h.1,h.2.1,JT ks d h.2.2⟩
theorem JT:∀(ts:List ax)(d:Nat),dz ts d=true→dz ts (d+1)=true
 | [],_,_=>by simp[dz]
 | t::ts,d,h=>by simp only[dz,ah] at h⊢;exact⟨GV t d h.1,JT ts d h.2⟩
end
theorem qy:∀{ts:List ax}{d:Nat},dz ts d=true→∀t∈ts,cd t d=true
 | [],_,_,t,ht=>by simp at ht
 | a::ts,d,h,t,ht=>by simp only[dz,ah] at h;rcases az.1 ht with rfl|ht;exact h.1;exact qy h.2 t ht
theorem qp{t:ax}{d:Nat}(h:cd t (d+1)=true):gO t.name=true∧t.ar.length≤2∧dz t.ar d=true:=by
 cases t with
 | mk n ks=>simp only[cd,ah,decide_eq_true_eq] at h;exact⟨h.1,h.2.1,h.2.2⟩
mutual
theorem P3:∀(t:ax)(d:Nat),cd t d=true→dL t d+1≤2 ^ d
 | .mk n ks,0,h=>by simp[cd] at h
 | .mk n ks,d+1,h=>by simp only[cd,ah,decide_eq_true_eq] at h;have:=E6 ks d h.2.2;simp only[dL];have h3:ks.length*(2 ^ d-1)≤2*(2 ^ d-1):=bu _ h.2.1;have h4:1≤2 ^ d:=eH;rw[lk];omega
theorem E6:∀(ts:List ax)(d:Nat),dz ts d=true→ow ts d≤ts.length*(2 ^ d-1)
 | [],_,_=>by simp[ow]
 | t::ts,d,h=>by simp only[dz,ah] at h;have h1:=P3 t d h.1;have h2:=E6 ts d h.2;simp only[ow,aY,dx,Nat.one_mul];omega
end
mutual
theorem Hw:∀(t:ax)(bn:Nat),1≤bn→bn≤5→nh t bn+14≤27*2 ^ (5-bn)
 | .mk n ks,bn,h1,h5=>by simp only[nh];split;rename_i h;simp only[ah,decide_eq_true_eq] at h;have:=yo ks (bn+1) oM oM;have h3:ks.length*(27*2 ^ (5-(bn+1))-14)≤2*(27*2 ^ (5-(bn+1))-14):=bu _ h.1.2;have e:5-bn=(5-(bn+1))+1:=oM;have h4:1≤2 ^ (5-(bn+1)):=eH;rw[e,lk];omega;have h4:1≤2 ^ (5-bn):=eH;omega
theorem yo:∀(ts:List ax)(bn:Nat),1≤bn→bn≤5→hQ ts bn≤ts.length*(27*2 ^ (5-bn)-14)
 | [],_,_,_=>by simp[hQ]
 | t::ts,bn,h1,h5=>by have h2:=Hw t bn h1 h5;have h3:=yo ts bn h1 h5;simp only[hQ,aY,dx,Nat.one_mul];omega
end
theorem iE:∀(ts l:List ax),bp l ts=ts.foldl dY l
 | [],_=>rfl
 | t::ts,l=>by simp only[bp,gX,iE ts]
theorem tG{ts:List ax}{i:Nat}(h:i<ts.length)(l:List ax):bp l (ts.take (i+1))=dY (bp l (ts.take i)) ts[i]:=by
 have e:ts.take (i+1)=ts.take i++[ts[i]]:=by rw[bz,af h];rfl
 rw[e,iE,iE,mr];rfl
theorem uS(l:List ax)(t:ax):dY l t=if b8 (bp l t.ar) t<0 then bp l t.ar++[t] else bp l t.ar:=by cases t;rfl
mutual
theorem CF:∀(t:ax)(d:Nat)(l:List ax),cd t d=true→(dY l t).length≤l.length+dL t d
 | .mk n ks,0,l,h=>by simp[cd] at h
 | .mk n ks,d+1,l,h=>by simp only[cd,ah] at h;have:=v8 ks d l h.2.2;simp only[dY,dL];split;simp only[aP,aY,c8];omega;omega
theorem v8:∀(ts:List ax)(d:Nat)(l:List ax),dz ts d=true→(bp l ts).length≤l.length+ow ts d
 | [],_,_,_=>by simp[bp]
 | t::ts,d,l,h=>by simp only[dz,ah] at h;have h1:=CF t d l h.1;have h2:=v8 ts d (dY l t) h.2;simp only[bp,ow];omega
end
theorem uv:∀{ts:List ax}{d:Nat},dz ts d=true→∀i,dz (ts.take i) d=true
 | [],_,_,i=>by simp[dz]
 | t::ts,d,h,0=>by simp[dz]
 | t::ts,d,h,i+1=>by simp only[dz,ah,dv] at h⊢;exact⟨h.1,uv h.2 i⟩
theorem yr{t:ax}{d:Nat}{l:List ax}(h:cd t d=true)(hd:d≤4):(dY l t).length≤l.length+15:=by have h1:=CF t d l h;have h2:=P3 t d h;have h3:2 ^ d≤2 ^ 4:=dJ oM hd;omega
theorem CD{t:ax}{d:Nat}{l:List ax}(h:cd t (d+1)=true)(hd:d≤3)(i:Nat):(bp l (t.ar.take i)).length≤l.length+14:=by
 obtain⟨_,h1,h2⟩:=qp h;have h3:=v8 (t.ar.take i) d l (uv h2 i);have h4:=E6 (t.ar.take i) d (uv h2 i);have h5:2 ^ d≤2 ^ 3:=dJ oM hd;have h6:(t.ar.take i).length≤2:=by simp;omega
 have h7:(t.ar.take i).length*(2 ^ d-1)≤2*(2 ^ d-1):=bu _ h6;omega
theorem Ki{n:Int}:isSort n=true↔n=0∨n=1:=by simp[isSort]
theorem LF:∀{l:List Sym}{p:Option pL},tX p l=true→∀x∈l,qt x=true
 | [],_,_,x,hx=>by simp at hx
 | a::l,p,h,x,hx=>by simp only[tX,ah] at h;rcases az.1 hx with rfl|hx;exact h.1;exact LF h.2.2 x hx
theorem Od{s:eM}{n:pL}{x:Sym}(hs:gC s=true)(h:symbol s n=some x):qt x=true:=by simp only[gC,ah] at hs;exact LF hs.1 x (gj h)
theorem L6{x:Sym}(h:qt x=true):isSort x.sort=true∧∀n∈x.args,isSort n=true:=by simp only[qt,ah,cV] at h;exact⟨h.2.2.1,h.2.2.2⟩
theorem RU{s:eM}{t:ax}{n:Int}(hs:gC s=true)(h:ic s t=some n):isSort n=true:=by
 cases t with
 | mk nm ks=>
  simp only[ic] at h;cases hx:symbol s nm with
  | none=>rw[hx] at h;cases h
  | some x=>rw[hx] at h;simp only at h;split at h;cases h;exact(L6 (Od hs hx)).1;cases h
theorem BX:kE 40=false:=by decide
theorem BN:kE 41=false:=by decide
theorem B9:kE 44=false:=by decide
def Xl(r:pL):Prop:=∀c x,r=c::x→kE c=false
def R6(r:pL):Prop:=∀c x,r=c::x→kE c=false∧c≠40
theorem yK{c:UInt8}{x:pL}(h:kE c=false):Xl (c::x):=by intro c' x' e;cases e;exact h
theorem oZ{c:UInt8}{x:pL}(h:kE c=false)(h2:c≠40):R6 (c::x):=by intro c' x' e;cases e;exact⟨h,h2⟩
theorem R6.n{r:pL}(h:R6 r):Xl r:=fun c x e=>(h c x e).1
theorem tl:∀{a b r r':pL},a.all kE=true→b.all kE=true→Xl r→Xl r'→a++r=b++r'→a=b∧r=r'
 | [],[],r,r',_,_,_,_,h=>⟨rfl,by simpa using h⟩
 | [],c::b,r,r',_,hb,hr,_,h=>by simp only[cC,ah] at hb;have:=hr c (b++r') (by simpa using h);rw[this] at hb;simp at hb
 | c::a,[],r,r',ha,_,_,hr',h=>by simp only[cC,ah] at ha;have:=hr' c (a++r) (by simpa using h.symm);rw[this] at ha;simp at ha
 | c::a,d::b,r,r',ha,hb,hr,hr',h=>by simp only[cC,ah] at ha hb;simp only[bI,List.cons.injEq] at h;obtain⟨h1,h2⟩:=tl ha.2 hb.2 hr hr' h.2;exact⟨by rw[h.1,h1],h2⟩
theorem Kb{n:pL}(h:gO n=true):n.all kE=true:=by simp only[gO,ah] at h;exact h.2
mutual
theorem A3:∀(t u:ax)(d:Nat)(r r':pL),cd t d=true→cd u d=true→R6 r→R6 r'→aR t++r=aR u++r'→t=u∧r=r'
 | t,u,0,r,r',ht,_,_,_,_=>by simp[cd] at ht
 | .mk n ks,.mk m js,d+1,r,r',ht,hu,hr,hr',h=>by
   simp only[cd,ah] at ht hu
   have hn:=Kb ht.1
   have hm:=Kb hu.1
   match ks,js,ht,hu,h with
   | [],[],ht,hu,h=>simp only[aR] at h;obtain⟨h1,h2⟩:=tl hn hm hr.n hr'.n h;exact⟨by rw[h1],h2⟩
   | [],k::js,ht,hu,h=>simp only[aR,bC,bI] at h;obtain⟨h1,h2⟩:=tl hn hm hr.n (yK BX) h;exact absurd rfl ((hr _ _ h2).2)
   | k::ks,[],ht,hu,h=>simp only[aR,bC,bI] at h;obtain⟨h1,h2⟩:=tl hn hm (yK BX) hr'.n h;exact absurd rfl ((hr' _ _ h2.symm).2)
   | k::ks,j::js,ht,hu,h=>simp only[aR,bC,bI] at h;obtain⟨h1,h2⟩:=tl hn hm (yK BX) (yK BX) h;simp only[List.cons.injEq,true_and] at h2;obtain⟨h3,h4⟩:=Ol (k::ks) (j::js) d r r' ht.2.2 hu.2.2 (by simp) (by simp) (by simpa[im] using h2);exact⟨by rw[h1,h3],h4⟩
theorem Ol:∀(ts us:List ax)(d:Nat)(r r':pL),dz ts d=true→dz us d=true→ts≠[]→us≠[]→lY (im ts)++41::r=lY (im us)++41::r'→ts=us∧r=r'
 | [],_,_,_,_,_,_,h,_,_=>absurd rfl h
 | _::_,[],_,_,_,_,_,_,h,_=>absurd rfl h
 | [t],[u],d,r,r',ht,hu,_,_,h=>by simp only[dz,ah] at ht hu;simp only[im,lY] at h;obtain⟨h1,h2⟩:=A3 t u d _ _ ht.1 hu.1 (oZ BN (by decide)) (oZ BN (by decide)) h;simp only[List.cons.injEq,true_and] at h2;exact⟨by rw[h1],h2⟩
 | [t],u::v::us,d,r,r',ht,hu,_,_,h=>by simp only[dz,ah] at ht hu;simp only[im,lY,bC,bI] at h;obtain⟨h1,h2⟩:=A3 t u d _ _ ht.1 hu.1 (oZ BN (by decide)) (oZ B9 (by decide)) h;simp at h2
 | t::w::ts,[u],d,r,r',ht,hu,_,_,h=>by simp only[dz,ah] at ht hu;simp only[im,lY,bC,bI] at h;obtain⟨h1,h2⟩:=A3 t u d _ _ ht.1 hu.1 (oZ B9 (by decide)) (oZ BN (by decide)) h;simp at h2
 | t::w::ts,u::v::us,d,r,r',ht,hu,_,_,h=>by simp only[dz,ah] at ht hu;simp only[im,lY,bC,bI] at h;obtain⟨h1,h2⟩:=A3 t u d _ _ ht.1 hu.1 (oZ B9 (by decide)) (oZ B9 (by decide)) h;simp only[List.cons.injEq,true_and] at h2;obtain⟨h3,h4⟩:=Ol (w::ts) (v::us) d r r' (by simp only[dz,ah];exact ht.2) (by simp only[dz,ah];exact hu.2) (by simp) (by simp) (by simpa[im] using h2);exact⟨by rw[h1,h3],h4⟩
end
theorem EU{t u:ax}(ht:bG t=true)(hu:bG u=true)(h:aR t=aR u):t=u:=
 (A3 t u 4 [] [] (jh ht) (jh hu) (fun _ _ e=>by cases e) (fun _ _ e=>by cases e) (by rw[h])).1
mutual
theorem Lg:∀(t:ax)(d:Nat),cd t d=true→(aR t).length+6≤8*2 ^ d
 | t,0,h=>by simp[cd] at h
 | .mk n [],d+1,h=>by simp only[cd,ah] at h;have h1:n.length≤2:=(by have:=h.1;simp only[gO,ah] at this;have:=dB.1 this.1;omega);have h4:1≤2 ^ d:=eH;simp only[aR,lk];omega
 | .mk n (k::ks),d+1,h=>by simp only[cd,ah,decide_eq_true_eq] at h;have h1:n.length≤2:=(by have:=h.1;simp only[gO,ah] at this;have:=dB.1 this.1;omega);have h2:=OU (k::ks) d h.2.2;have h4:1≤2 ^ d:=eH;simp only[im] at h2;simp only[aR,aP,aY,c8,lk];have h3:(k::ks).length*(8*2 ^ d-5)≤2*(8*2 ^ d-5):=bu _ h.2.1;omega
theorem OU:∀(ts:List ax)(d:Nat),dz ts d=true→(lY (im ts)).length≤ts.length*(8*2 ^ d-5)
 | [],_,_=>by simp[im,lY]
 | [t],d,h=>by simp only[dz,ah] at h;have:=Lg t d h.1;simp only[im,lY,aY,c8];omega
 | t::u::ts,d,h=>by simp only[dz,ah] at h;have h1:=Lg t d h.1;have h2:=OU (u::ts) d (by simp only[dz,ah];exact h.2);simp only[im] at h2;simp only[im,lY,aP,aY] at h2⊢;have e:(ts.length+1+1)*(8*2 ^ d-5)=(ts.length+1)*(8*2 ^ d-5)+(8*2 ^ d-5):=(by rw[dx (ts.length+1) 1];omega);rw[e];omega
end
theorem zg{t:ax}{d:Nat}(h:cd t d=true)(hd:d≤4):(aR t).length≤122:=by have h1:=Lg t d h;have h2:2 ^ d≤2 ^ 4:=dJ oM hd;omega
theorem RZ{α:Type}{p:α→Bool}:∀{xs:List α}{i:Int},0≤i→(0≤fj p xs i↔∃x∈xs,p x=true)
 | [],i,h=>by simp[fj]
 | x::xs,i,h=>by simp only[fj,az,exists_eq_or_imp];split;rename_i hx;simp[hx,h];rename_i hx;rw[RZ oM];simp[hx]
theorem Au{α:Type}{p:α→Bool}:∀{xs:List α}{i:Int},0≤i→fj p xs i=if fj p xs 0<0 then -1 else fj p xs 0+i
 | [],i,h=>by simp[fj]
 | x::xs,i,h=>by simp only[fj];split;simp;rw[Au (i:=i+1) oM,Au (i:=0+1) oM];rcases aa (fj p xs 0<0) with hc|hc;simp[hc];simp only[hc,if_false];rw[if_neg oM];omega
theorem Ry{α:Type}{p:α→Bool}:∀{xs:List α}{i:Int},fj p xs i<i+xs.length∨fj p xs i = -1
 | [],i=>by simp[fj]
 | x::xs,i=>by simp only[fj,aY];split;left;omega;rcases Ry (p:=p) (xs:=xs) (i:=i+1) with h|h;left;omega;right;exact h
theorem dE{l:List ax}{t:ax}:0≤b8 l t↔t∈l:=by unfold b8 idxOf;rw[RZ oM];simp
theorem qf{l:List ax}{t:ax}(h:t∈l):(b8 l t).toNat<l.length:=by have h1:=dE.2 h;rcases Ry (p:=fun u=>decide (t=u)) (xs:=l) (i:=0) with h2|h2;unfold b8 idxOf at h1⊢;omega;unfold b8 idxOf at h1;omega
theorem kz{t:ax}:∀{l:List ax},t∈l→l[(b8 l t).toNat]?=some t
 | [],h=>by simp at h
 | x::xs,h=>by unfold b8 idxOf;simp only[fj];rcases aa (t=x) with hx|hx;simp[hx];have hm:t∈xs:=(by simpa[hx] using h);have h0:=dE.2 hm;have ih:=kz hm;unfold b8 idxOf at ih h0;simp only[hx,decide_false,au,if_false];rw[Au oM,if_neg oM];have e:(fj (fun u=>decide (t=u)) xs 0+(0+1)).toNat=(fj (fun u=>decide (t=u)) xs 0).toNat+1:=oM;rw[e,nj,ih]
theorem Hn{l:List ax}{t u:ax}(ht:t∈l)(hu:u∈l)(h:b8 l t=b8 l u):t=u:=by have h1:=kz ht;have h2:=kz hu;rw[h,h2] at h1;exact(Option.some.inj h1).symm
theorem rJ{ai:List ax}{a b:ax}:differ ai a b=true↔a∈ai∧b∈ai∧a≠b:=by simp only[differ,ah,decide_eq_true_eq,dE];constructor;rintro⟨h1,h2,h3⟩;exact⟨h1,h2,fun h=>h3 (by rw[h])⟩;rintro⟨h1,h2,h3⟩;exact⟨h1,h2,fun h=>h3 (Hn h1 h2 h)⟩
theorem x7:∀{cs:List Int}{i:Int}(v:Int),0≤i→oS cs i v=cs.set i.toNat (cs.getD i.toNat 0+v)
 | [],i,v,h=>by simp[oS]
 | c::cs,i,v,h=>by simp only[oS];rcases aa (i=0) with h0|h0;subst h0;simp;rw[if_neg h0,x7 v oM];have e:i.toNat=(i-1).toNat+1:=oM;rw[e];simp
theorem BO:∀{cs:List Int}{i v:Int},(oS cs i v).length=cs.length
 | [],i,v=>rfl
 | c::cs,i,v=>by simp only[oS];split;simp;simp[BO (cs:=cs)]
theorem Mt:∀{cs:List Int}{i k v w:Int},oS (oS cs i v) k w=oS (oS cs k w) i v
 | [],i,k,v,w=>rfl
 | c::cs,i,k,v,w=>by simp only[oS];rcases aa (i=0) with hi|hi;rcases aa (k=0) with hk|hk;simp only[hi,hk,if_true,oS];congr 1;omega;simp only[hi,hk,if_true,if_false,oS];rcases aa (k=0) with hk|hk;simp only[hi,hk,if_true,if_false,oS];simp only[hi,hk,if_false,oS];rw[Mt (cs:=cs)]
def qx(ai:List ax):List ax→List Int→List Int→List Int
 | t::ts,n::ns,cs=>qx ai ts ns (cs.set (b8 ai t).toNat n)
 | _,_,cs=>cs
theorem getD_set_ne{cs:List Int}{i k:Nat}{v:Int}(h:i≠k):(cs.set i v).getD k 0=cs.getD k 0:=by simp[ct,List.getElem?_set_ne h]
theorem SQ{ai:List ax}:∀{ts:List ax}{ns cs:List Int},ts.Nodup→(∀t∈ts,t∈ai∧cs.getD (b8 ai t).toNat 0=0)→qx ai ts ns cs=l9 ai ts ns cs
 | [],_,_,_,_=>by simp[qx,l9]
 | _::_,[],_,_,_=>by simp[qx,l9]
 | t::ts,n::ns,cs,hd,h=>by simp only[qx,l9];have ht:=h t (by simp);rw[x7 n (dE.2 ht.1),ht.2,Int.zero_add];refine SQ (da.1 hd).2 fun u hu=>?_;have hu':=h u (by simp[hu]);refine⟨hu'.1,?_⟩;rw[getD_set_ne,hu'.2];intro e;have h1:=dE.2 ht.1;have h2:=dE.2 hu'.1;have:t=u:=Hn ht.1 hu'.1 oM;subst this;exact(da.1 hd).1 hu
theorem aa3(k:Nat):([0,0,0,0]:List Int).getD k 0=0:=by
 match k with
 | 0=>rfl
 | 1=>rfl
 | 2=>rfl
 | 3=>rfl
 | k+4=>rfl
theorem TX{n:Int}:ql n=true ↔ -1000000≤n∧n≤1000000:=dB
theorem iM{l:j8}:fF l=true↔l.aW.length=4∧(∀c∈l.aW,-1000000≤c∧c≤1000000)∧(-1000000≤l.bj∧l.bj≤1000000):=by simp only[fF,ah,cV,decide_eq_true_eq,TX];constructor;rintro⟨h1,h2,h3⟩;exact⟨h2,h1,h3⟩;rintro⟨h1,h2,h3⟩;exact⟨h2,h1,h3⟩
theorem gh{m b:Int}(h0:0≤m)(h1:m≤1000000)(h2:-1000000≤b∧b≤1000000):-1000000000000≤m*b∧m*b≤1000000000000:=by have a1:m*b≤m*1000000:=Int.mul_le_mul_of_nonneg_left h2.2 h0;have a2:m*(-1000000)≤m*b:=Int.mul_le_mul_of_nonneg_left h2.1 h0;omega
theorem pW:∀{m n:Int}{as bs:List Int},as.length=bs.length→(iC m n as bs).length=as.length
 | _,_,[],[],_=>rfl
 | _,_,[],_::_,h=>by simp at h
 | _,_,_::_,[],h=>by simp at h
 | m,n,a::as,b::bs,h=>by simp only[iC,aY];rw[pW (by simpa using h)]
theorem lB:∀{m n:Int}{as bs:List Int}{i:Nat}(h:i<as.length)(h':i<bs.length),iC m n (as.take (i+1)) (bs.take (i+1))=iC m n (as.take i) (bs.take i)++[m*as[i]+n*bs[i]]
 | _,_,[],_,i,h,_=>by simp at h
 | _,_,_::_,[],i,_,h=>by simp at h
 | m,n,a::as,b::bs,0,h,h'=>by simp[iC]
 | m,n,a::as,b::bs,i+1,h,h'=>by have:=lB (m:=m) (n:=n) (as:=as) (bs:=bs) (i:=i) (by simpa using h) (by simpa using h');simp only[dv,iC,bI,ll] at this⊢;rw[this]
theorem Gl{a b:j8}{m n:Int}(h1:fF a=true)(h2:fF b=true)(h3:cK m 0 1000000=true)(h4:cK n 0 1000000=true):fL a m b n=nO a m b n:=by simp[fL,h1,h2,h3,h4]
theorem Lo{ls:List j8}{ts:List Int}{i:Nat}(h:i<ls.length)(h':i<ts.length)(out:j8):rD (ls.drop i) (ts.drop i) out=if(fL out 1 ls[i] ts[i]).2 then rD (ls.drop (i+1)) (ts.drop (i+1)) (fL out 1 ls[i] ts[i]).1 else(qo,false):=by rw[ae h,ae h',rD]
theorem od{α:Type}{xs:List α}{i:Nat}(h:i<xs.length):xs.take (i+1)=xs.take i++[xs[i]]:=by rw[bz,af h];rfl
theorem tg(p:Option ax)(t:ax)(ts:List ax)(n:Int)(ns:List Int):mU p (t::ts) (n::ns)=(bG t&&(cK n (-50) 50&&(decide (n≠0)&&((match p with|none=>true|some q=>iQ (aR q) (aR t))&&mU (some t) ts ns)))):=rfl
theorem yn:∀{ts:List ax}{ns:List Int}{p:Option ax},mU p ts ns=true→ns.length=ts.length→(∀t∈ts,bG t=true)∧(∀n∈ns,-50≤n∧n≤50)
 | [],[],_,_,_=>by simp
 | [],_::_,_,_,h=>by simp at h
 | _::_,[],_,_,h=>by simp at h
 | t::ts,n::ns,p,h,hl=>by rw[tg] at h;simp only[ah] at h;obtain⟨h1,h2⟩:=yn h.2.2.2.2 (by simpa using hl);have h3:=dB.1 h.2.1;refine⟨fun u hu=>?_,fun m hm=>?_⟩;rcases az.1 hu with rfl|hu;exact h.1;exact h1 u hu;rcases az.1 hm with rfl|hm;exact h3;exact h2 m hm
theorem oX{a:cR}(h:dq a=true)(k:a.kind=2):isNone a.A=true∧isNone a.B=true∧a.ai.length≤4∧a.a8.length=a.ai.length∧(-1000≤a.bj∧a.bj≤1000)∧mU none a.ai a.a8=true:=by rw[dq,if_neg oM,if_pos k] at h;simp only[ah,decide_eq_true_eq] at h;have h3:=dB.1 h.2.2.1;have h5:=dB.1 h.2.2.2.2.1;exact⟨h.1,h.2.1,oM,h.2.2.2.1,h5,h.2.2.2.2.2⟩
theorem ml{a:cR}(h:dq a=true):a.kind=1∨a.kind=2:=by rcases aa (a.kind=1) with k1|k1;exact .inl k1;rcases aa (a.kind=2) with k2|k2;exact .inr k2;simp[dq,k1,k2] at h
theorem N6{a:cR}(h:dq a=true)(k:a.kind=1):bG a.A=true∧bG a.B=true:=by simp only[dq,k,if_true,ah] at h;exact⟨h.1,h.2.1⟩
theorem pr{a:cR}(h:dq a=true):(cY a).length≤4∧∀t∈cY a,bG t=true:=by unfold cY;rcases aa (a.kind=1) with k1|k1;rw[if_pos k1];have:=N6 h k1;refine⟨by simp,fun t ht=>?_⟩;simp only[az,bf,or_false] at ht;rcases ht with rfl|rfl;exact this.1;exact this.2;rw[if_neg k1];have k2:a.kind=2:=(ml h).resolve_left k1;have:=oX h k2;exact⟨this.2.2.1,(yn this.2.2.2.2.2 this.2.2.2.1).1⟩
def fO(ab:List bL):List ax:=ab.flatMap fun l=>cY l.aN
theorem nI(ab:List bL):aL ab=kL (fO ab):=rfl
theorem xu{ab:List bL}{i:Nat}(h:i<ab.length):fO (ab.take (i+1))=fO (ab.take i)++cY ab[i].aN:=by rw[od h];simp only[fO,List.flatMap_append,kN,List.flatMap_nil,bE]
theorem kp:∀{ab:List bL},(∀l∈ab,dq l.aN=true)→(fO ab).length≤4*ab.length∧∀t∈fO ab,bG t=true
 | [],_=>by simp[fO]
 | l::ls,h=>by obtain⟨h1,h2⟩:=kp (ab:=ls) fun x hx=>h x (by simp[hx]);obtain⟨h3,h4⟩:=pr (h l (by simp));simp only[fO,kN,aP,aY,aO] at h1 h2⊢;refine⟨oM,fun t ht=>?_⟩;rcases ht with ht|ht;exact h4 t ht;exact h2 t ht
theorem Hu:∀{ts out:List ax},(∀t∈ts,bG t=true)→oB ts out=bp out ts
 | [],_,_=>by simp[oB,bp]
 | t::ts,out,h=>by simp only[oB,bp,h t (by simp),if_true];exact Hu fun u hu=>h u (by simp[hu])
theorem mC{ts:List ax}(h:∀t∈ts,bG t=true):kL ts=bp [] ts:=Hu h
mutual
theorem CW:∀(t:ax)(l:List ax),(∀u∈l,u∈dY l t)∧t∈dY l t
 | .mk n ks,l=>by have h:=vO ks l;simp only[dY];split;exact⟨fun u hu=>by simp[h u hu],by simp⟩;rename_i hx;exact⟨h,dE.1 oM⟩
theorem vO:∀(ts:List ax)(l:List ax),∀u∈l,u∈bp l ts
 | [],l,u,h=>by simpa[bp] using h
 | t::ts,l,u,h=>by simp only[bp];exact vO ts _ u ((CW t l).1 u h)
end
theorem vG:∀(ts:List ax)(l:List ax),∀t∈ts,t∈bp l ts
 | [],_,t,h=>by simp at h
 | a::ts,l,t,h=>by simp only[bp];rcases az.1 h with rfl|h;exact vO ts _ _ (CW _ l).2;exact vG ts _ t h
mutual
theorem zJ:∀(t:ax)(d:Nat)(l:List ax),d≤4→cd t d=true→dL t d≤12→(∀u∈l,bG u=true)→∀u∈dY l t,bG u=true
 | .mk n ks,0,l,_,h,_,_,u,_=>by simp[cd] at h
 | .mk n ks,d+1,l,hd,h,hm,hl,u,hu=>by
  have h':=h;simp only[cd,ah] at h';have hk:=xI ks d l oM h'.2.2 (by simp only[dL] at hm;omega) hl;simp only[dY] at hu;split at hu;simp only[aO,az,bf,or_false] at hu;rcases hu with hu|rfl;exact hk u hu;rw[←Ef];have up:∀(k:Nat)(t:ax)(d:Nat),d+k≤4→cd t d=true→cd t (d+k)=true:=by
   intro k;induction k with
   | zero=>intro t d _ h;exact h
   | succ k ih=>intro t d hk h;rw[←ki];exact GV _ _ (ih t d oM h)
  have s4:=up (4-(d+1)) _ (d+1) oM h;rw[show d+1+(4-(d+1))=4 by omega] at s4;have m1:=(w8 (.mk n ks) (d+1) hd).1 h;have m2:=(w8 (.mk n ks) 4 oM).1 s4;simp only[right,s4,aA,decide_eq_true_eq];have mm:∀(k:Nat)(t:ax)(d:Nat),d+k≤4→cd t d=true→dL t (d+k)=dL t d:=by
   intro k;induction k with
   | zero=>intro t d _ _;rfl
   | succ k ih=>
    intro t d hk h;have h1:=ih t d oM h;have:∀(d:Nat)(t:ax),cd t d=true→dL t (d+1)=dL t d:=by
     intro d;induction d with
     | zero=>intro t h;cases t;simp[cd] at h
     | succ d ihd=>
      intro t h;cases t with
      | mk n ks=>
       simp only[cd,ah] at h;have hs:∀(ks:List ax),dz ks d=true→ow ks (d+1)=ow ks d:=by
        intro ks;induction ks with
        | nil=>intro _;simp[ow]
        | cons a as iha=>intro h;simp only[dz,ah] at h;simp only[ow,ihd a h.1,iha h.2]
       simp only[dL,hs ks h.2.2]
    rw[←ki,this (d+k) t (up k t d oM h),h1]
  have:=mm (4-(d+1)) (.mk n ks) (d+1) oM h;rw[show d+1+(4-(d+1))=4 by omega] at this;omega;exact hk u hu
theorem xI:∀(ts:List ax)(d:Nat)(l:List ax),d≤4→dz ts d=true→ow ts d≤12→(∀u∈l,bG u=true)→∀u∈bp l ts,bG u=true
 | [],_,l,_,_,_,hl,u,hu=>hl u (by simpa[bp] using hu)
 | t::ts,d,l,hd,h,hm,hl,u,hu=>by simp only[dz,ah] at h;simp only[ow] at hm;simp only[bp] at hu;exact xI ts d _ hd h.2 oM (zJ t d l hd h.1 oM hl) u hu
end
theorem xK:∀(ts l:List ax),(∀t∈ts,bG t=true)→(∀u∈l,bG u=true)→∀u∈bp l ts,bG u=true
 | [],l,_,hl,u,hu=>hl u (by simpa[bp] using hu)
 | t::ts,l,ht,hl,u,hu=>by simp only[bp] at hu;have h4:=ht t (by simp);have hr:=h4;rw[←Ef] at hr;simp only[right,ah,decide_eq_true_eq] at hr;exact xK ts _ (fun x hx=>ht x (by simp[hx])) (zJ t 4 l oM hr.1 hr.2 hl) u hu
theorem tI{ts:List ax}(h:∀t∈ts,bG t=true):∀u∈kL ts,bG u=true:=by rw[mC h];exact xK ts [] h (by simp)
theorem Cm{ts:List ax}(h:∀t∈ts,bG t=true):∀t∈ts,t∈kL ts:=by rw[mC h];exact vG ts []
theorem Lj{ab:List bL}{i:Nat}(h:i<ab.length):br (ab.take (i+1))=br (ab.take i)++(if ab[i].aN.kind=1∧ab[i].no=false then [⟨ab[i].aN.A,ab[i].aN.B⟩] else []):=by rw[od h];simp only[br,List.filterMap_append,List.filterMap_cons,List.filterMap_nil];split<;>simp_all
theorem O6(ab:List bL):(br ab).length≤ab.length:=by unfold br;exact List.length_filterMap_le ..
theorem J5{ai:List ax}:∀{ts:List ax}{ns cs:List Int}{i:Nat}(h:i<ts.length)(h':i<ns.length),l9 ai (ts.take (i+1)) (ns.take (i+1)) cs=oS (l9 ai (ts.take i) (ns.take i) cs) (b8 ai ts[i]) ns[i]
 | [],_,_,_,h,_=>by simp at h
 | _::_,[],_,_,_,h=>by simp at h
 | t::ts,n::ns,cs,0,_,_=>by simp[l9]
 | t::ts,n::ns,cs,i+1,h,h'=>by simp only[dv,l9,ll];exact J5 (by simpa using h) (by simpa using h')
theorem NS{ai:List ax}:∀{ts:List ax}{ns cs:List Int},(l9 ai ts ns cs).length=cs.length
 | [],_,_=>by simp[l9]
 | _::_,[],_=>by simp[l9]
 | t::ts,n::ns,cs=>by simp only[l9];rw[NS,BO]
theorem H7:∀{cs:List Int}{i v m k:Int},(∀c∈cs,-m≤c∧c≤m) → -k≤v→v≤k→0≤k→∀c∈oS cs i v,-(m+k)≤c∧c≤m+k
 | [],i,v,m,k,_,_,_,_,c,hc=>by simp[oS] at hc
 | a::cs,i,v,m,k,h,h1,h2,h3,c,hc=>by have ha:=h a (by simp);simp only[oS] at hc;split at hc;rcases az.1 hc with rfl|hc;omega;have:=h c (by simp[hc]);omega;rcases az.1 hc with rfl|hc;omega;exact H7 (fun x hx=>h x (by simp[hx])) h1 h2 h3 c hc
theorem Ho{ai:List ax}:∀{ts:List ax}{ns cs:List Int}{m:Int},(∀c∈cs,-m≤c∧c≤m)→(∀n∈ns,-50≤n∧n≤50)→0≤m→∀c∈l9 ai ts ns cs,-(m+50*ts.length)≤c∧c≤m+50*ts.length
 | [],_,cs,m,h,_,_,c,hc=>by simp only[l9] at hc;have:=h c hc;simp;omega
 | _::_,[],cs,m,h,_,_,c,hc=>by simp only[l9] at hc;have:=h c hc;omega
 | t::ts,n::ns,cs,m,h,hn,hm,c,hc=>by simp only[l9] at hc;have h1:=hn n (by simp);have:=Ho (m:=m+50) (H7 h h1.1 h1.2 oM) (fun x hx=>hn x (by simp[hx])) oM c hc;simp only[aY];omega
theorem Hk{cs:List Int}{i:Nat}{v:Int}(h:i<cs.length):(bm cs).set i [.val (.int .i64 v)]=bm (cs.set i v):=by simp[bm,List.map_set]
theorem HM{ai:List ax}{ab:List bL}{i:Nat}(h:i<ab.length):fN ai (ab.take (i+1))=fN ai (ab.take i)++kK ai ab[i]:=by rw[od h];simp only[fN,List.flatMap_append,kN,List.flatMap_nil,bE]
theorem RF(ai:List ax)(l:bL):(kK ai l).length≤2:=by unfold kK;split;simp;split<;>simp
theorem Dx(ai:List ax):∀(ab:List bL),(fN ai ab).length≤2*ab.length
 | []=>by simp[fN]
 | l::ls=>by have h1:=RF ai l;have h2:=Dx ai ls;simp only[fN,kN,aP,aY] at h2⊢;omega
structure Fit(ai:List ax)(l:bL):Prop where
 wf:dq l.aN=true
 sum:l.aN.kind=2→∀t∈l.aN.ai,t∈ai
 eq:l.aN.kind=1→(l.aN.A∈ai↔l.aN.B∈ai)
theorem aao(a b:UInt8):(a<b∧¬b<a∧a≠b)∨(a=b∧¬a<b∧¬b<a)∨(b<a∧¬a<b∧a≠b):=by simp only[UInt8.lt_iff_toNat_lt,ne_eq,←UInt8.toNat_inj];omega
theorem JL:∀(a b:List UInt8),(!(Op.bytesLess a b||decide (a=b)))=Op.bytesLess b a
 | [],[]=>by simp[Op.bytesLess]
 | [],_::_=>by simp[Op.bytesLess]
 | _::_,[]=>by simp[Op.bytesLess]
 | a::x,b::y=>by have ih:=JL x y;rcases aao a b with⟨h1,h2,h3⟩|⟨rfl,h1,h2⟩|⟨h1,h2,h3⟩;have h4:¬b=a:=fun h=>h3 h.symm;simp[Op.bytesLess,h1,h2,h4];simp[Op.bytesLess,h1,←ih];have h4:¬b=a:=fun h=>h3 h.symm;simp[Op.bytesLess,h1,h2,h3]
theorem wW:∀(a:List UInt8),Op.bytesLess a a=false
 | []=>rfl
 | a::x=>by simp[Op.bytesLess,wW x]
theorem yk:∀{a b c:List UInt8},Op.bytesLess a b=true→Op.bytesLess b c=true→Op.bytesLess a c=true
 | _,[],_,h,_=>by simp[Op.bytesLess] at h
 | _,_::_,[],_,h=>by simp[Op.bytesLess] at h
 | [],_::_,_::_,_,_=>by simp[Op.bytesLess]
 | a::x,b::y,c::z,h1,h2=>by simp only[Op.bytesLess,Bool.or_eq_true,decide_eq_true_eq,ah,beq_iff_eq] at h1 h2⊢;rcases h1 with h1|⟨rfl,h1⟩;rcases h2 with h2|⟨rfl,h2⟩;left;rw[UInt8.lt_iff_toNat_lt] at *;omega;exact .inl h1;rcases h2 with h2|⟨rfl,h2⟩;exact .inl h2;exact .inr ⟨rfl,yk h1 h2⟩
theorem Q5{a b:List UInt8}(h:Op.bytesLess a b=true):a≠b:=by rintro rfl;rw[wW] at h;cases h
theorem DP{a b:List UInt8}(h:a≠b)(h2:Op.bytesLess a b=false):Op.bytesLess b a=true:=by rw[←JL a b,h2];simp[h]
theorem N8:∀{ts:List ax}{ns:List Int}{q:ax},mU (some q) ts ns=true→ns.length=ts.length→∀t∈ts,iQ (aR q) (aR t)=true
 | [],_,_,_,_=>by simp
 | _::_,[],_,_,hl=>by simp at hl
 | t::ts,n::ns,q,h,hl=>by rw[tg] at h;simp only[ah] at h;intro u hu;rcases az.1 hu with rfl|hu;exact h.2.2.2.1;exact yk h.2.2.2.1 (N8 h.2.2.2.2 (by simpa using hl) u hu)
theorem EK:∀{ts:List ax}{ns:List Int}{p:Option ax},mU p ts ns=true→ns.length=ts.length→ts.Nodup
 | [],_,_,_,_=>by simp
 | _::_,[],_,_,hl=>by simp at hl
 | t::ts,n::ns,p,h,hl=>by rw[tg] at h;simp only[ah] at h;have hl:ns.length=ts.length:=(by simpa using hl);refine da.2 ⟨fun hm=>?_,EK h.2.2.2.2 hl⟩;exact Q5 (N8 h.2.2.2.2 hl t hm) rfl
def aii(bB:List hY)(kD n:Int)(t:ax)(ar:List hY):hY×Bool:=
 if kD≠2∧n≠0 then(xL,false) else
 if kD=1∧ar.length=0 then(⟨t,t⟩,bG t) else
 if kD=2∧ar.length=0∧isNone t=true∧0≤n∧n<bB.length then(bB.getD n.toNat xL,true) else
 if kD=3∧ar.length=1∧isNone t=true then(⟨(ar.getD 0 xL).B,(ar.getD 0 xL).A⟩,true) else
 if kD=4∧ar.length=2∧isNone t=true then(⟨(ar.getD 0 xL).A,(ar.getD 1 xL).B⟩,decide ((ar.getD 0 xL).B=(ar.getD 1 xL).A)) else
 if kD=5∧0<ar.length∧t.ar.length=0 then(⟨.mk t.name (ar.map (·.A)),.mk t.name (ar.map (·.B))⟩,bG (.mk t.name (ar.map (·.A)))&&bG (.mk t.name (ar.map (·.B)))) else
 (xL,false)
def Alike(x y:hY×Bool):Prop:=x.2=y.2∧(x.2=true→x.1=y.1)
theorem TB{n:pL}{ks:List ax}(h:bG (.mk n ks)=true):gO n=true:=by have:=jh h;simp only[cd,ah] at this;exact this.1
theorem N3{ai:List ax}:∀{ts:List ax}{ns cs:List Int},(qx ai ts ns cs).length=cs.length
 | [],_,_=>by simp[qx]
 | _::_,[],_=>by simp[qx]
 | t::ts,n::ns,cs=>by simp only[qx];rw[N3,List.length_set]
theorem Di{ai:List ax}:∀{ts:List ax}{ns cs:List Int}{i:Nat}(h:i<ts.length)(h':i<ns.length),qx ai (ts.take (i+1)) (ns.take (i+1)) cs=(qx ai (ts.take i) (ns.take i) cs).set (b8 ai ts[i]).toNat ns[i]
 | [],_,_,_,h,_=>by simp at h
 | _::_,[],_,_,_,h=>by simp at h
 | t::ts,n::ns,cs,0,_,_=>by simp[qx]
 | t::ts,n::ns,cs,i+1,h,h'=>by simp only[dv,qx,ll];exact Di (by simpa using h) (by simpa using h')
theorem YV{ai ts:List ax}{ns:List Int}{b:Int}{st:Bool}(hn:mU none ts ns=true)(hl:ns.length=ts.length)(kI:∀t∈ts,t∈ai):nX ai ts ns b st=⟨qx ai ts ns [0,0,0,0],b,st⟩:=by rw[nX,SQ (EK hn hl) fun t ht=>⟨kI t ht,aa3 _⟩]
theorem UJ(ai:List ax)(a b:ax):nX ai [a,b] [-1,1] 0 false=nX ai [b,a] [1,-1] 0 false:=by simp only[nX,l9];rw[Mt]
theorem K6{ai:List ax}{a b:ax}(ha:a∈ai)(hb:b∈ai)(ta:bG a=true)(tb:bG b=true):Fit ai (jf a b):=by refine⟨?_,fun h=>?_,fun _=>?_⟩;simp[dq,jf,Bp,ta,tb];simp[jf,Bp] at h;simp[jf,Bp,ha,hb]
theorem XK{a b:ax}(ta:bG a=true)(tb:bG b=true)(h:iQ (aR a) (aR b)=true)(m n:Int)(hm:cK m (-50) 50=true)(hn:cK n (-50) 50=true)(hm0:m≠0)(hn0:n≠0):dq ⟨2,aQ,aQ,[a,b],[m,n],0,true⟩=true:=by
 have h2:mU none [a,b] [m,n]=true:=by rw[tg,tg];have e:mU (some b) [] []=true:=rfl;simp[ta,tb,hm,hn,hm0,hn0,h,e]
 have e:dq ⟨2,aQ,aQ,[a,b],[m,n],0,true⟩=(isNone aQ&&(isNone aQ&&(cK ([a,b].length:Int) 1 4&&(decide ([m,n].length=[a,b].length)&&(cK 0 (-1000) 1000&&mU none [a,b] [m,n]))))):=rfl;rw[e,h2];rfl
theorem AX{ai:List ax}{a b:ax}(ha:a∈ai)(hb:b∈ai)(ta:bG a=true)(tb:bG b=true)(lj:a≠b):Fit ai (fa a b):=by have ht:aR a≠aR b:=fun h=>lj (EU ta tb h);unfold fa;cases h:iQ (aR b) (aR a);have h2:iQ (aR a) (aR b)=true:=DP (a:=aR b) (b:=aR a) (fun e=>ht e.symm) h;refine⟨XK ta tb h2 1 (-1) rfl rfl oM oM,fun _ t hm=>?_,fun h=>?_⟩;simp only[au,if_false,az,bf,or_false] at hm;rcases hm with rfl|rfl;exact ha;exact hb;simp at h;refine⟨XK tb ta h (-1) 1 rfl rfl oM oM,fun _ t hm=>?_,fun h=>?_⟩;simp only[if_true,az,bf,or_false] at hm;rcases hm with rfl|rfl;exact hb;exact ha;simp at h
theorem xS{s:eM}{ab:List bL}(h:gn s ab=true):(∀l∈ab,Fit (aG s ab) l)∧(∀t∈aG s ab,bG t=true)∧(aG s ab).length≤4∧ab.length≤6∧gC s=true∧(∀l∈ab,dq l.aN=true)∧(∀t∈aL ab,bG t=true)∧(aL ab).length≤24:=by
 simp only[gn,ah,decide_eq_true_eq,cV] at h;obtain⟨⟨⟨⟨hs,h6⟩,hA⟩,h24⟩,h4⟩:=h;have hw:∀l∈ab,dq l.aN=true:=by intro l hl;have:=hA l hl;simp only[gr,ah] at this;exact this.2.1
 have fy:=(kp hw).2;have htt:∀t∈aL ab,bG t=true:=by rw[nI];exact tI fy
 have kI:∀l∈ab,∀t∈cY l.aN,t∈aL ab:=by intro l hl t ht;rw[nI];exact Cm fy t (List.mem_flatMap.2 ⟨l,hl,ht⟩)
 have hnum:∀t,t∈aG s ab↔t∈aL ab∧eQ s t=true:=fun t=>gy;refine⟨fun l hl=>⟨hw l hl,fun k t ht=>?_,fun k=>?_⟩,fun t ht=>htt t ((hnum t).1 ht).1,h4,h6,hs,hw,htt,h24⟩;have hk1:¬l.aN.kind=1:=oM;have ha:=hA l hl;simp only[gr,ah,hk1,if_false,cV] at ha;have hm:t∈cY l.aN:=by simp only[cY,hk1,if_false];exact ht
 exact(hnum t).2 ⟨kI l hl t hm,ha.2.2 t ht⟩;have ha:=hA l hl;simp only[gr,ah,k,if_true,iP,decide_eq_true_eq] at ha;have hm:l.aN.A∈aL ab∧l.aN.B∈aL ab:=by have:cY l.aN=[l.aN.A,l.aN.B]:=(by simp[cY,k]);exact⟨kI l hl _ (by rw[this];simp),kI l hl _ (by rw[this];simp)⟩
 rw[hnum,hnum];simp only[hm.1,hm.2,true_and,eQ,ha.2.2.2]
theorem u6(s:eM)(ai:List ax)(c:eJ)(ab:List bL)(bn:Nat):jA s ai c ab bn =
 if 14<bn then false else
 if c.kind=1 then bare c true true false false 0&&(cK c.n 0 (ab.length-1)&&(match mc s (br ab) c.tq,ab[c.n.toNat]? with
  | some e,some l=>l.no&&(decide (l.aN.kind=1)&&(decide (e.A=l.aN.A)&&decide (e.B=l.aN.B)))
  | _,_=>false)) else
 if c.kind=2 then bare c false false true false 0&&vY (fN ai ab) c.a8 else
 if c.kind=3 then bare c false true false false 1&&(match mc s (br ab) c.tq with
  | some e=>Mod.differ ai e.A e.B&&kh s ai c.ar [ab++[jf e.A e.B]] (bn+1)
  | none=>false) else
 if c.kind=4 then bare c false false false true 3&&(Mod.differ ai c.A c.B&&kh s ai c.ar ((gv c.A c.B).map fun l=>ab++[l]) (bn+1)) else
 false:=by
 cases c
 simp only[jA]
 rfl
theorem Zi(s:eM)(ai:List ax)(c:eJ)(cs:List eJ)(l:List bL)(d:Nat)(h:cs=[c]):kh s ai cs [l] d=jA s ai c l d:=by rw[h];simp[kh]
theorem af2{α:Type}{l:List α}(h:l.length=1)(h0:0<l.length):l=[l[0]]:=by
 match l,h with
 | [a],_=>rfl
theorem Yn(k:Int):gw k≤2:=by unfold gw;split<;>(try split)<;>(try split)<;>omega
theorem rl{k:Int}{l:bL}{ks:List bU}(h:kV k l ks=true):ks.length≤2:=by simp only[kV,ah,decide_eq_true_eq] at h;have:=Yn k;omega
mutual
theorem vf:∀(f:bU)(d:Nat),d≤5→(cJ f d=true→iR f (6-d)=jJ f d)∧(cJ f d=false→11≤iR f (6-d))
 | .mk k l ks,0,_=>by simp[cJ,iR]
 | .mk k l ks,d+1,hd=>by obtain⟨h1,h2⟩:=zH ks d oM;have e:6-(d+1)+1=6-d:=oM;have e2:6-(d+1)≤5:=oM;simp only[cJ,iR,jJ,e,e2,decide_true,aA];cases hn:kV k l ks;simp;simp only[aA,if_true];exact⟨fun h=>by rw[h1 h],fun h=>by have:=h2 h;omega⟩
theorem zH:∀(ts:List bU)(d:Nat),d≤5→(di ts d=true→ik ts (6-d)=hJ ts d)∧(di ts d=false→11≤ik ts (6-d))
 | [],_,_=>by simp[di,ik,hJ]
 | t::ts,d,hd=>by obtain⟨h1,h2⟩:=vf t d hd;obtain⟨h3,h4⟩:=zH ts d hd;simp only[di,ik,hJ];cases ht:cJ t d;have:=h2 ht;exact⟨fun h=>by simp at h,fun _=>by omega⟩;cases hts:di ts d;have:=h4 hts;exact⟨fun h=>by simp at h,fun _=>by omega⟩;exact⟨fun _=>by rw[h1 ht,h3 hts],fun h=>by simp at h⟩
end
def Q2(f:bU):Bool:=cJ f 5&&(decide (jJ f 5≤10)&&decide ((dX [] f).length≤6))
theorem N4(f:bU):Q2 f=jB f:=by have h:=vf f 5 oM;simp only[show 6-5=1 from rfl] at h;obtain⟨h1,h2⟩:=h;unfold Q2 jB;cases h:cJ f 5;have:=h2 h;have:¬iR f 1≤10:=oM;simp[this];rw[←h1 h];simp
theorem yS{f:bU}(h:jB f=true):cJ f 5=true∧jJ f 5≤10∧(dX [] f).length≤6:=by rw[←N4] at h;simpa[Q2] using h
theorem lN:∀{ts:List bU}{d:Nat},di ts d=true→∀t∈ts,cJ t d=true
 | [],_,_,t,ht=>by simp at ht
 | a::ts,d,h,t,ht=>by simp only[di,ah] at h;rcases az.1 ht with rfl|ht;exact h.1;exact lN h.2 t ht
theorem ko{f:bU}{d:Nat}(h:cJ f (d+1)=true):kV f.kind f.lit f.ar=true∧f.ar.length≤2∧di f.ar d=true:=by
 cases f with
 | mk k l ks=>simp only[cJ,ah] at h;exact⟨h.1,rl h.1,h.2⟩
mutual
theorem HW:∀(f:bU)(d:Nat),cJ f d=true→jJ f d+1≤2 ^ d
 | .mk k l ks,0,h=>by simp[cJ] at h
 | .mk k l ks,d+1,h=>by simp only[cJ,ah] at h;have:=rm ks d h.2;simp only[jJ];have h3:ks.length*(2 ^ d-1)≤2*(2 ^ d-1):=bu _ (rl h.1);have h4:1≤2 ^ d:=eH;rw[lk];omega
theorem rm:∀(ts:List bU)(d:Nat),di ts d=true→hJ ts d≤ts.length*(2 ^ d-1)
 | [],_,_=>by simp[hJ]
 | t::ts,d,h=>by simp only[di,ah] at h;have h1:=HW t d h.1;have h2:=rm ts d h.2;simp only[hJ,aY,dx,Nat.one_mul];omega
end
mutual
theorem AG:∀(f:bU)(bn:Nat),1≤bn→bn≤6→iR f bn+12≤23*2 ^ (6-bn)
 | .mk k l ks,bn,h1,h5=>by simp only[iR];split;rename_i h;simp only[ah,decide_eq_true_eq] at h;have:=uu ks (bn+1) oM oM;have h3:ks.length*(23*2 ^ (6-(bn+1))-12)≤2*(23*2 ^ (6-(bn+1))-12):=bu _ (rl h.2);have e:6-bn=(6-(bn+1))+1:=oM;have h4:1≤2 ^ (6-(bn+1)):=eH;rw[e,lk];omega;have h4:1≤2 ^ (6-bn):=eH;omega
theorem uu:∀(ts:List bU)(bn:Nat),1≤bn→bn≤6→ik ts bn≤ts.length*(23*2 ^ (6-bn)-12)
 | [],_,_,_=>by simp[ik]
 | t::ts,bn,h1,h5=>by have h2:=AG t bn h1 h5;have h3:=uu ts bn h1 h5;simp only[ik,aY,dx,Nat.one_mul];omega
end
theorem tU:∀(ts:List bU)(l:List cR),ba l ts=ts.foldl dX l
 | [],_=>rfl
 | t::ts,l=>by simp only[ba,gX,tU ts]
theorem iG{ts:List bU}{i:Nat}(h:i<ts.length)(l:List cR):ba l (ts.take (i+1))=dX (ba l (ts.take i)) ts[i]:=by
 have e:ts.take (i+1)=ts.take i++[ts[i]]:=by rw[bz,af h];rfl
 rw[e,tU,tU,mr];rfl
theorem iD(l:List cR)(f:bU):dX l f=if f.kind=1 then(if jG l f.lit.aN<0 then l++[f.lit.aN] else l) else ba l f.ar:=by cases f;rfl
theorem D2{a:cR}:∀{l:List cR}{i:Int},0≤i→(0≤fj (fun b=>decide (a=b)) l i↔a∈l)
 | [],i,_=>by simp[fj]
 | x::xs,i,h=>by simp only[fj,decide_eq_true_eq,az];split;rename_i e;simp[e,h];rename_i e;rw[D2 (l:=xs) oM];simp[e]
theorem Kc{l:List cR}{a:cR}:0≤jG l a↔a∈l:=D2 oM
def inside(l:List cR)(f:bU):Prop:=∀u∈dX [] f,u∈l
mutual
theorem Co:∀(f:bU)(d:Nat)(l:List cR),cJ f d=true→(dX l f).length≤l.length+jJ f d
 | .mk k x ks,0,_,h=>by simp[cJ] at h
 | .mk k x ks,d+1,l,h=>by simp only[cJ,ah] at h;simp only[dX,jJ];split;split;simp;omega;have:=qZ ks d l h.2;omega
theorem qZ:∀(ts:List bU)(d:Nat)(l:List cR),di ts d=true→(ba l ts).length≤l.length+hJ ts d
 | [],_,_,_=>by simp[ba,hJ]
 | t::ts,d,l,h=>by simp only[di,ah] at h;have h1:=Co t d l h.1;have h2:=qZ ts d (dX l t) h.2;simp only[ba,hJ];omega
end
theorem Dt{l:List cR}{i:Nat}(h:i<l.length):plain (l.take (i+1))=plain (l.take i)++[⟨l[i],false⟩]:=by
 have e:l.take (i+1)=l.take i++[l[i]]:=by rw[bz,af h];rfl
 simp only[plain,e,dM,aV,dS]
theorem G6(l:List cR):(plain l).length=l.length:=by simp[plain]
theorem qw{a:Rat}:cP a=true↔(-1000000000≤a.N∧a.N≤1000000000)∧(1≤a.D∧a.D≤1000000000)∧b9 a.N a.D=1:=by simp only[cP,ah,dB,decide_eq_true_eq];constructor;rintro⟨h1,h2,h3⟩;exact⟨h1,h2,oM⟩;rintro⟨h1,h2,h3⟩;exact⟨h1,h2,oM⟩
theorem ady{a b:Rat}(h1:a.N=b.N)(h2:a.D=b.D):a=b:=by cases a;cases b;simp_all
theorem Gn{a b:Rat}(ha:cP a=true)(hb:cP b=true)(h:a.N*b.D=b.N*a.D):a=b:=by
 rw[qw] at ha hb;obtain⟨_,⟨a1,_⟩,ag⟩:=ha;obtain⟨_,⟨b1,_⟩,bg⟩:=hb;have hn:a.N.natAbs*b.D.natAbs=b.N.natAbs*a.D.natAbs:=by rw[←Int.natAbs_mul,←Int.natAbs_mul,h]
 have ca:Nat.Coprime a.D.natAbs a.N.natAbs:=by rw[Nat.Coprime,Nat.gcd_comm];exact ag
 have cb:Nat.Coprime b.D.natAbs b.N.natAbs:=by rw[Nat.Coprime,Nat.gcd_comm];exact bg
 have d1:a.D.natAbs∣b.D.natAbs:=ca.dvd_of_dvd_mul_left ⟨b.N.natAbs,by rw[hn,Nat.mul_comm]⟩;have d2:b.D.natAbs∣a.D.natAbs:=cb.dvd_of_dvd_mul_left ⟨a.N.natAbs,by rw[←hn,Nat.mul_comm]⟩;have e:a.D.natAbs=b.D.natAbs:=Nat.dvd_antisymm d1 d2;have eD:a.D=b.D:=oM;refine ady ?_ eD;rw[eD] at h;exact Int.eq_of_mul_eq_mul_right oM h
theorem gP{a b:Rat}(ha:cP a=true)(hb:cP b=true):eF a b=true↔a.N*b.D<b.N*a.D:=by simp[eF,ha,hb]
theorem HO{a b:Rat}(ha:cP a=true)(hb:cP b=true):rn a b=0↔a=b:=by
 constructor;intro h;unfold rn at h;split at h;omega;rename_i h1;split at h;omega;rename_i h2;rw[gP ha hb] at h1;rw[gP hb ha] at h2;exact Gn ha hb oM;rintro rfl;have:eF a a=false:=by cases h:eF a a;rfl;rw[gP ha ha] at h;omega
 simp[rn,this]
theorem T6{a b:Rat}:rn a b<0↔eF a b=true:=by unfold rn;split;rename_i h;simp[h];rename_i h;split<;>simp_all
theorem MQ{a b c:Rat}(ha:cP a=true)(hb:cP b=true)(hc:cP c=true)(h1:eF a b=true)(h2:eF b c=true):eF a c=true:=by
 rw[gP ha hb] at h1;rw[gP hb hc] at h2;rw[gP ha hc];rw[qw] at ha hb hc;have e1:a.N*b.D*c.D<b.N*a.D*c.D:=Int.mul_lt_mul_of_pos_right h1 oM;have e2:b.N*c.D*a.D<c.N*b.D*a.D:=Int.mul_lt_mul_of_pos_right h2 oM;have e3:b.N*a.D*c.D=b.N*c.D*a.D:=by rw[pY,Int.mul_comm a.D,←pY]
 have e4:a.N*c.D*b.D<c.N*a.D*b.D:=by rw[pY,Int.mul_comm c.D,←pY,pY c.N,Int.mul_comm a.D,←pY];omega
 exact Int.lt_of_mul_lt_mul_right e4 oM
def fg(as:List Rat):Bool:=as.all cP
theorem y0:∀{as bs:List Rat},fg as=true→fg bs=true→(jk as bs=0↔as=bs)
 | [],[],_,_=>by simp[jk]
 | [],b::bs,_,_=>by simp[jk]
 | a::as,[],_,_=>by simp[jk]
 | a::as,b::bs,ha,hb=>by simp only[fg,cC,ah] at ha hb;have h:=HO ha.1 hb.1;have h2:=y0 (as:=as) (bs:=bs) ha.2 hb.2;simp only[jk];split;rename_i e;rw[h2,List.cons.injEq,h.1 e];simp;rename_i e;constructor;intro e2;exact absurd e2 e;intro e2;rw[List.cons.injEq] at e2;exact absurd (h.2 e2.1) e
def iu:List Rat→List Rat→Bool
 | a::as,b::bs=>if a=b then iu as bs else eF a b
 | _,_=>false
def eS(a b:Row):Bool:=if a.name=b.name then(if a.args.length=b.args.length then iu a.args b.args else decide (a.args.length<b.args.length)) else iQ a.name b.name
theorem HU:∀{as bs:List Rat},fg as=true→fg bs=true→as.length=bs.length→(jk as bs<0↔iu as bs=true)
 | [],[],_,_,_=>by simp[jk,iu]
 | [],b::bs,_,_,h=>by simp at h
 | a::as,[],_,_,h=>by simp at h
 | a::as,b::bs,ha,hb,hl=>by simp only[fg,cC,ah] at ha hb;have h:=HO ha.1 hb.1;have h2:=HU (as:=as) (bs:=bs) ha.2 hb.2 (by simpa using hl);simp only[jk,iu];split;rename_i e;rw[if_pos (h.1 e),h2];rename_i e;rw[if_neg (fun x=>e (h.2 x)),T6]
theorem s8{a b:pL}:qe a b=0↔a=b:=by unfold qe;constructor;intro h;split at h;omega;rename_i h1;split at h;omega;rename_i h2;rcases aa (a=b) with e|e;exact e;exact absurd (DP e (by simpa[iQ] using h1)) h2;rintro rfl;simp[iQ,wW]
theorem U9{a b:pL}:qe a b<0↔iQ a b=true:=by unfold qe;split;rename_i h;simp[h];rename_i h;split<;>simp_all
theorem Bl{a b:Int}:qY a b=0↔a=b:=by unfold qY;split<;>(try split)<;>omega
theorem T0{a b:Int}:qY a b<0↔a<b:=by unfold qY;split<;>(try split)<;>omega
theorem s9{a b:Row}(ha:fg a.args=true)(hb:fg b.args=true):gx a b=0↔a.name=b.name∧a.args=b.args:=by unfold gx;constructor;intro h;split at h;rename_i e;exact absurd h e;rename_i e;split at h;rename_i e2;exact absurd h e2;exact⟨s8.1 (Classical.not_not.1 e),(y0 ha hb).1 h⟩;rintro⟨e,e2⟩;have h1:qe a.name b.name=0:=s8.2 e;have h2:qY a.args.length b.args.length=0:=Bl.2 (by rw[e2]);have h3:jk a.args b.args=0:=(y0 ha hb).2 e2;simp[h1,h2,h3]
theorem nF{a b:Row}(ha:fg a.args=true)(hb:fg b.args=true):gx a b<0↔eS a b=true:=by unfold gx eS;split;rename_i e;rw[if_neg (fun x=>e (s8.2 x)),U9];rename_i e;rw[if_pos (s8.1 (Classical.not_not.1 e))];split;rename_i e2;have:¬a.args.length=b.args.length:=fun x=>e2 (Bl.2 (by rw[x]));rw[if_neg this,T0];simp;rename_i e2;have:=Bl.1 (Classical.not_not.1 e2);have h3:a.args.length=b.args.length:=oM;rw[if_pos h3,HU ha hb h3]
theorem Br:∀{as bs cs:List Rat},fg as=true→fg bs=true→fg cs=true→iu as bs=true→iu bs cs=true→iu as cs=true
 | [],_,_,_,_,_,h,_=>by simp[iu] at h
 | _::_,[],_,_,_,_,h,_=>by simp[iu] at h
 | _::_,_::_,[],_,_,_,_,h=>by simp[iu] at h
 | a::as,b::bs,c::cs,ha,hb,hc,h1,h2=>by simp only[fg,cC,ah] at ha hb hc;simp only[iu] at h1 h2⊢;split at h1;rename_i e;subst e;split at h2;rename_i e2;rw[if_pos e2];exact Br ha.2 hb.2 hc.2 h1 h2;rename_i e2;rw[if_neg e2];exact h2;rename_i e;split at h2;rename_i e2;subst e2;rw[if_neg e];exact h1;have h3:=MQ ha.1 hb.1 hc.1 h1 h2;have:¬a=c:=(by rintro rfl;rw[gP ha.1 ha.1] at h3;omega);rw[if_neg this];exact h3
theorem sZ{a b c:Row}(ha:fg a.args=true)(hb:fg b.args=true)(hc:fg c.args=true)(h1:eS a b=true)(h2:eS b c=true):eS a c=true:=by unfold eS at h1 h2⊢;split at h1;rename_i e;rw[e];split at h2;rename_i e2;rw[if_pos e2];split at h1;rename_i l1;rw[l1];split at h2;rename_i l2;rw[if_pos l2];exact Br ha hb hc h1 h2;rename_i l2;rw[if_neg l2];exact h2;rename_i l1;simp only[decide_eq_true_eq] at h1;split at h2;rename_i l2;rw[if_neg oM];simp;omega;simp only[decide_eq_true_eq] at h2;rw[if_neg oM];simp;omega;rename_i e2;rw[if_neg e2];exact h2;rename_i e;split at h2;rename_i e2;rw[←e2,if_neg e];exact h1;have h3:iQ a.name c.name=true:=yk h1 h2;rw[if_neg (Q5 h3)];exact h3
theorem nG{r:Row}(h:mW r=true):fg r.args=true:=by simp only[mW,ah] at h;exact h.2.2.2
def mh:Option Row→List Row→Bool
 | _,[]=>true
 | p,r::rs=>mW r&&((match p with|none=>true|some q=>eS q r)&&mh (some r) rs)
theorem Gm:∀(rs:List Row)(p:Option Row),(∀q,p=some q→mW q=true)→xj p rs=mh p rs
 | [],_,_=>rfl
 | r::rs,p,hp=>by
  simp only[xj,mh];cases hr:mW r;rfl;rw[Gm rs (some r) (fun q e=>by cases e;exact hr)];cases p with
  | none=>rfl
  | some q=>have h:=nF (nG (hp q rfl)) (nG hr);have:decide (gx q r<0)=eS q r:=(by cases hl:eS q r;simp only[decide_eq_false_iff_not];rw[h,hl];simp;simp only[decide_eq_true_eq];rw[h,hl]);simp only[this]
theorem zi:∀{rs:List Row}{p:Option Row},mh p rs=true→∀r∈rs,mW r=true
 | [],_,_,r,hr=>by simp at hr
 | a::rs,p,h,r,hr=>by simp only[mh,ah] at h;rcases az.1 hr with rfl|hr;exact h.1;exact zi h.2.2 r hr
theorem CK:∀{rs:List Row}{q:Row},mW q=true→mh (some q) rs=true→∀r∈rs,eS q r=true
 | [],_,_,_,r,hr=>by simp at hr
 | a::rs,q,hq,h,r,hr=>by simp only[mh,ah] at h;rcases az.1 hr with rfl|hr;exact h.2.1;exact sZ (nG hq) (nG h.1) (nG (zi h.2.2 r hr)) h.2.1 (CK h.1 h.2.2 r hr)
theorem C0:∀{rs:List Row}{p:Option Row},mh p rs=true→rs.Pairwise (fun a b=>eS a b=true)
 | [],_,_=>List.Pairwise.nil
 | a::rs,p,h=>by simp only[mh,ah] at h;exact List.Pairwise.cons (fun r hr=>CK h.1 h.2.2 r hr) (C0 h.2.2)
theorem pf{m:dQ}(h:fS m=true):m.aw.length≤40∧(∀r∈m.aw,mW r=true)∧m.aw.Pairwise (fun a b=>eS a b=true):=by simp only[fS,ah,decide_eq_true_eq] at h;rw[Gm _ none (by simp)] at h;exact⟨h.1,zi h.2,C0 h.2⟩
def cut:List Row→Row→Nat
 | [],_=>0
 | r::rs,t=>if gx r t<0 then cut rs t+1 else 0
theorem VI:∀(rs:List Row)(t:Row),cut rs t≤rs.length
 | [],_=>by simp[cut]
 | r::rs,t=>by have:=VI rs t;simp only[cut,aY];split<;>omega
def nH(rs:List Row)(t:Row):Prop:=rs.Pairwise (fun a b=>gx b t<0→gx a t<0)
theorem wU:∀{rs:List Row}{t:Row},nH rs t→∀(k:Nat)(h:k<rs.length),k<cut rs t↔gx rs[k] t<0
 | [],_,_,k,h=>by simp at h
 | r::rs,t,hm,k,h=>by
  obtain⟨h1,h2⟩:=lP.1 hm;simp only[cut];cases k with
  | zero=>simp only[List.getElem_cons_zero];split<;>simp_all
  | succ k=>simp only[ll];have hk:k<rs.length:=(by simpa using h);have h3:=wU (rs:=rs) (t:=t) h2 k hk;split;rw[←h3];omega;rename_i hn;constructor;intro x;omega;intro x;exact absurd (h1 _ (List.getElem_mem hk) x) hn
theorem afT{rs:List Row}{t:Row}(hm:nH rs t){i:Nat}(hi:i≤rs.length)(h1:∀(k:Nat)(h:k<rs.length),k<i→gx rs[k] t<0)(h2:∀(k:Nat)(h:k<rs.length),i≤k→¬gx rs[k] t<0):cut rs t=i:=by have h3:=VI rs t;rcases Nat.lt_trichotomy (cut rs t) i with h|h|h;have h4:=(wU hm (cut rs t) oM).2 (h1 _ oM h);omega;exact h;have h4:=(wU hm i oM).1 h;exact absurd h4 (h2 i oM (aK i))
theorem ad0{m:dQ}{t:Row}(h:fS m=true)(ht:fg t.args=true):nH m.aw t:=by obtain⟨_,h1,h2⟩:=pf h;refine List.Pairwise.imp_of_mem ?_ h2;intro a b ha hb hab hbt;have wa:=nG (h1 a ha);have wb:=nG (h1 b hb);rw[nF wb ht] at hbt;rw[nF wa ht];exact sZ wa wb ht hab hbt
def found(rs:List Row)(t:Row):Bool:=match rs[cut rs t]? with|some r=>decide (gx r t=0)|none=>false
theorem Si:∀{rs:List Row}{t:Row},(∀r∈rs,fg r.args=true)→fg t.args=true→rs.Pairwise (fun a b=>eS a b=true) →
 rs.find? (fun r=>decide (r.name=t.name∧r.args=t.args))=if found rs t then rs[cut rs t]? else none
 | [],_,_,_,_=>by simp[found]
 | r::rs,t,hr,ht,hp=>by obtain⟨h1,h2⟩:=lP.1 hp;have ih:=Si (rs:=rs) (t:=t) (fun x hx=>hr x (bw _ hx)) ht h2;have wr:=hr r (by simp);have hz:=s9 wr ht;rw[List.find?_cons];rcases aa (r.name=t.name∧r.args=t.args) with e|e;have hc:=hz.2 e;have hcut:cut (r::rs) t=0:=(by simp[cut,hc]);simp[e,found,hcut,hc];simp only[e,decide_false];rw[ih];rcases aa (gx r t<0) with hn|hn;have hc2:cut (r::rs) t=cut rs t+1:=(by simp[cut,hn]);have hf2:found (r::rs) t=found rs t:=(by simp only[found,hc2,nj]);rw[hf2,hc2,nj];have hcut:cut (r::rs) t=0:=(by simp[cut,hn]);have hf:found (r::rs) t=false:=(by simp[found,hcut,hz,e]);rw[hf];have:found rs t=false:=(by unfold found;split;rename_i q hq;have hq':q∈rs:=List.mem_of_getElem? hq;simp only[decide_eq_false_iff_not];intro hc;have hb:=(s9 (hr q (bw _ hq')) ht).1 hc;have hl:=h1 q hq';apply hn;rw[nF wr ht];have:eS r q=eS r t:=(by simp only[eS,hb.1,hb.2]);rw[←this];exact hl;rfl);simp[this]
theorem Vu{m:dQ}{t:Row}(h:fS m=true)(ht:fg t.args=true):lookup m.aw t.name t.args=if found m.aw t then(m.aw.getD (cut m.aw t) t).val else⟨0,1⟩:=by
 obtain⟨_,h1,h2⟩:=pf h;unfold lookup;rw[Si (fun r hr=>nG (h1 r hr)) ht h2];cases hf:found m.aw t;simp;unfold found at hf;cases hx:m.aw[cut m.aw t]? with
 | none=>simp[hx] at hf
 | some r=>simp[hx,ct]
theorem agL:cP ⟨0,1⟩=true:=by decide
theorem XM{m:dQ}(h:fS m=true)(n:pL)(as:List Rat):cP (lookup m.aw n as)=true:=by obtain⟨_,h1,_⟩:=pf h;unfold lookup;split;rename_i r hr;have:=h1 r (gj hr);simp only[mW,ah] at this;exact this.2.2.1;exact agL
theorem JY(m:dQ)(t:ax):value m t=lookup m.aw t.name (values m t.ar):=by cases t;rfl
theorem oT(m:dQ):∀(ts:List ax),values m ts=ts.map (value m)
 | []=>rfl
 | t::ts=>by simp only[values,aV,oT m ts]
theorem KK{m:dQ}(h:fS m=true)(t:ax):cP (value m t)=true:=by rw[JY];exact XM h _ _
theorem Ow{m:dQ}(h:fS m=true)(ts:List ax):fg (values m ts)=true:=by rw[oT];simp only[fg,List.all_map,cV,Function.comp];intro t _;exact KK h t
theorem KH(m:dQ)(ts:List ax):(values m ts).length=ts.length:=by rw[oT];simp
theorem s7{n:Int}(h1:-1000000000≤n)(h2:n≤1000000000):cP (whole n)=true:=by rw[qw];exact⟨⟨h1,h2⟩,⟨Int.le_refl 1,by show(1:Int)≤1000000000;omega⟩,Int.gcd_one_right n⟩
theorem NM{n d:Int}(h:(jO n d).2=true):cP (jO n d).1=true:=by unfold jO at h⊢;split;rename_i h0;rw[if_pos h0] at h;cases h;rename_i h0;rw[if_neg h0] at h;simp only at h⊢;generalize (⟨_,_⟩:Rat)=x at h⊢;cases hx:cP x;simp[hx] at h;simp[hx]
theorem NW{a b:Rat}(h:(eL a b).2=true):cP (eL a b).1=true:=by unfold eL at h⊢;split;rename_i h0;rw[if_pos h0] at h;exact NM h;rename_i h0;rw[if_neg h0] at h;cases h
theorem Xw{a v:Rat}{c:Int}(h:(plus a c v).2=true):cP (plus a c v).1=true:=by unfold plus at h⊢;split;rename_i h0;rw[if_pos h0] at h;exact NW h;rename_i h0;rw[if_neg h0] at h;cases h
theorem TN{a:Rat}{n:Int}(ha:cP a=true)(h1:-1000000000≤n)(h2:n≤1000000000)(st:Bool):below a n st=(eF a (whole n)||(!st&&decide (a=whole n))):=by
 have hw:=s7 h1 h2;unfold below;cases st;simp only[au,if_false,Bool.not_false,aA];rcases aa (a=whole n) with e|e;subst e;have:eF (whole n) (whole n)=false:=by cases h:eF (whole n) (whole n);rfl;rw[gP hw hw] at h;omega
 simp[this];have lj:¬a.N*(whole n).D=(whole n).N*a.D:=fun h=>e (Gn ha hw h);cases hl:eF a (whole n)<;>cases hr:eF (whole n) a<;>simp[e];have:¬ (a.N*(whole n).D<(whole n).N*a.D):=fun h=>by rw[(gP ha hw).2 h] at hl;cases hl
 have:¬ ((whole n).N*a.D<a.N*(whole n).D):=fun h=>by rw[(gP hw ha).2 h] at hr;cases hr
 omega;rw[gP ha hw] at hl;rw[gP hw ha] at hr;omega;simp
theorem RS{m:dQ}:∀{ts:List ax}{ns:List Int}{sum r:Rat},cP sum=true→ox m ts ns sum=some r→cP r=true
 | [],_,sum,r,h,e=>by simp only[ox,Option.some.injEq] at e;rw[←e];exact h
 | _::_,[],sum,r,h,e=>by simp only[ox,Option.some.injEq] at e;rw[←e];exact h
 | t::ts,n::ns,sum,r,h,e=>by simp only[ox] at e;split at e;rename_i h1;exact RS (Xw h1) e;cases e
theorem We{m:dQ}{ts:List ax}{ns:List Int}{i:Nat}(h:i<ts.length)(h':i<ns.length)(sum:Rat) :
 ox m (ts.drop i) (ns.drop i) sum=if(plus sum ns[i] (value m ts[i])).2 then ox m (ts.drop (i+1)) (ns.drop (i+1)) (plus sum ns[i] (value m ts[i])).1 else none:=by
 rw[ae h,ae h'];rfl
theorem Ys{m:dQ}{ts:List ax}{ns:List Int}{i:Nat}(h:ts.length≤i)(sum:Rat):ox m (ts.drop i) (ns.drop i) sum=some sum:=by rw[ak h];rfl
theorem Kk{marks:List Int}{i:Nat}(h:i<marks.length)(dL:Int) :
 rq (marks.take i) (marks.drop i) dL=(oY marks[i] dL&&(!((marks.take i).contains marks[i])&&(!((marks.take i).contains (-marks[i]))&&rq (marks.take (i+1)) (marks.drop (i+1)) dL))):=by
 have e:marks.take (i+1)=marks.take i++[marks[i]]:=by rw[bz,af h];rfl
 rw[ae h,e];rfl
theorem OS{marks:List Int}{i:Nat}(h:marks.length≤i)(dL:Int):rq (marks.take i) (marks.drop i) dL=true:=by rw[ak h];rfl
def Zc:List Int→Int→Int
 | [],_=>0
 | x::xs,n=>if x=n then 1 else if x = -n then -1 else Zc xs n
theorem Tb:∀{l:List Int}{n:Int},Zc l n=0↔l.contains n=false∧l.contains (-n)=false
 | [],n=>by simp[Zc]
 | x::xs,n=>by have ih:=Tb (l:=xs) (n:=n);simp only[Zc,List.contains_cons,Bool.or_eq_false_iff];split;rename_i h;simp[h];rename_i h;split;rename_i h2;simp[h2];rename_i h2;rw[ih];have e1:(n == x)=false:=(by simpa using fun e=>h e.symm);have e2:(-n == x)=false:=(by simpa using fun e=>h2 e.symm);simp[e1,e2]
theorem n5{marks:List Int}{dL:Nat}(h:gf marks dL=true):∀m∈marks,m≠0 ∧ -(dL:Int)≤m∧m≤dL:=by
 have key:∀{ms before:List Int},rq before ms dL=true→∀m∈ms,m≠0 ∧ -(dL:Int)≤m∧m≤dL:=by
  intro ms;induction ms with
  | nil=>intro _ _ m hm;simp at hm
  | cons a ms ih=>intro before h m hm;simp only[rq,ah] at h;rcases az.1 hm with rfl|hm;have:=h.1;simp only[oY,ah,decide_eq_true_eq,dB] at this;exact this;exact ih h.2.2.2 m hm
 exact key h
theorem pU{marks:List Int}{atoms:List cR}{i:Nat}(h:i<marks.length):cH (marks.take (i+1)) atoms=cH (marks.take i) atoms++[⟨atoms.getD (marks[i].natAbs-1) rF,decide (marks[i]<0)⟩]:=by
 have e:marks.take (i+1)=marks.take i++[marks[i]]:=by rw[bz,af h];rfl
 simp only[cH,e,dM,aV,dS]
theorem EX:∀(fs:List bU)(out:List cR),Eg fs out=ba out fs
 | [],_=>rfl
 | f::fs,out=>by simp only[Eg,ba,EX fs]
theorem rZ:∀(fs:List bU)(l:List cR),(∀f∈fs,jB f=true)→(ba l fs).length≤l.length+10*fs.length
 | [],l,_=>by simp[ba]
 | f::fs,l,h=>by have h0:=yS (h f (by simp));have h1:=Co f 5 l h0.1;have h2:=rZ fs (dX l f) fun x hx=>h x (by simp[hx]);simp only[ba,aY];omega
theorem n9(aS:List bU):fc aS=if aS.length≤5∧aS.all jB=true∧(ba [] aS).length≤6 then some (ba [] aS) else none:=by unfold fc;rw[EX];simp only[ah,decide_eq_true_eq]
def ui(n:Int):Int:=if n < -1000000000 then 1000000001 else if 1000000000<n then 1000000001 else if n<0 then -n else n
theorem wO{n:Int}:ui n≤1000000000 ↔ -1000000000≤n∧n≤1000000000:=by unfold ui;split;omega;split;omega;split<;>omega
theorem acQ(n:Int):0≤ui n:=by unfold ui;split;omega;split;omega;split<;>omega
theorem SA{n:Int}(h:-1000000000≤n∧n≤1000000000)(d:Int):b9 (ui n) d=b9 n d:=by
 have e:(ui n).natAbs=n.natAbs:=by unfold ui;rw[if_neg oM,if_neg oM];split<;>omega
 simp only[b9,e]
theorem Rg(n d:Int):b9 (-n) d=b9 n d:=by simp only[b9,Int.natAbs_neg]
theorem To{p q:Int}(hp:0≤p)(hq:0<q):0≤p.tmod q∧p.tmod q<q∧b9 q (p.tmod q)=b9 p q:=by
 have e:p.tmod q=((p.natAbs % q.natAbs:Nat):Int):=by rw[Int.tmod_eq_emod_of_nonneg hp];have h1:(p.natAbs:Int)=p:=oM;have h2:(q.natAbs:Int)=q:=oM;rw[Int.natCast_emod,h1,h2]
 have nS:p.natAbs % q.natAbs<q.natAbs:=Nat.mod_lt _ oM;refine⟨oM,oM,?_⟩;rw[e];simp only[b9,Int.natAbs_natCast];rw[Nat.gcd_comm p.natAbs,Nat.gcd_rec q.natAbs p.natAbs,Nat.gcd_comm]
theorem gcd_zero{p:Int}(hp:0≤p):((b9 p 0:Nat):Int)=p:=by simp only[b9,Int.natAbs_zero,Nat.gcd_zero_right];omega
theorem Po{n d:Int}(h:0<d):0<(b9 n d:Int):=by have:0<b9 n d:=Int.gcd_pos_of_ne_zero_right n oM;omega
theorem rR{n g k:Int}(hg:0<g)(h:-k≤n∧n≤k):-k≤n.tdiv g∧n.tdiv g≤k:=by have e:(n.tdiv g).natAbs=n.natAbs / g.natAbs:=Int.natAbs_tdiv n g;have h2:n.natAbs / g.natAbs≤n.natAbs:=Nat.div_le_self _ _;omega
theorem prod_bound{m b k l:Int}(h1:-k≤m∧m≤k)(h2:-l≤b∧b≤l):-(k*l)≤m*b∧m*b≤k*l:=by have e:(m*b).natAbs=m.natAbs*b.natAbs:=Int.natAbs_mul m b;have h3:m.natAbs*b.natAbs≤k.natAbs*l.natAbs:=Nat.mul_le_mul oM oM;have h4:(k*l).natAbs=k.natAbs*l.natAbs:=Int.natAbs_mul k l;have h5:0≤k*l:=Int.mul_nonneg oM oM;omega
theorem vU{m b:Int}(h1:-1000000000≤m∧m≤1000000000)(h2:-1000000000≤b∧b≤1000000000):-1000000000000000000≤m*b∧m*b≤1000000000000000000:=by have:=prod_bound h1 h2;omega
theorem Xh{m b:Int}(h1:1≤m∧m≤1000000000)(h2:1≤b∧b≤1000000000):1≤m*b∧m*b≤1000000000000000000:=by have:=vU (m:=m) (b:=b) oM oM;have:=Int.mul_pos (a:=m) (b:=b) oM oM;omega
theorem Dg{n d:Int}(hd:1≤d):jO n d=if cP ⟨n.tdiv (b9 n d),d.tdiv (b9 n d)⟩ then(⟨n.tdiv (b9 n d),d.tdiv (b9 n d)⟩,true) else(lW,false):=by unfold jO;rw[if_neg oM];simp only[if_neg (show ¬d<0 by omega)]
theorem sj(x y:Rat):rj x.N x.D y.N y.D=decide (x=y):=by cases x;cases y;simp only[rj,Rat.mk.injEq,Bool.decide_and];rfl
theorem Es{m:dQ}{ts:List ax}{i:Nat}(h:i<ts.length):bQ (values m (ts.take i))++[fZ (value m ts[i])]=bQ (values m (ts.take (i+1))):=by
 have e:ts.take (i+1)=ts.take i++[ts[i]]:=by rw[bz,af h];rfl
 rw[oT,oT,e,dM,←wY];rfl
theorem CM:∀{l:List Nat}(k:Nat),l.Pairwise (fun a b=>a≠b)→l.length≤(l.filter fun x=>decide (x≠k)).length+1
 | [],_,_=>by simp
 | a::l,k,h=>by
  obtain⟨h1,h2⟩:=lP.1 h;rcases aa (a=k) with e|e;have hf:(l.filter fun x=>decide (x≠k))=l:=List.filter_eq_self.2 fun x hx=>by have:=h1 x hx;rw[e] at this;simpa using fun hh=>this hh.symm
  rw[fP,if_neg (by simp[e]),hf,aY];exact aK _;have ih:=CM k h2;rw[fP,if_pos (by simp[e])];simp only[aY];omega
theorem J6:∀(k:Nat)(l:List Nat),l.Pairwise (fun a b=>a≠b)→(∀x∈l,x<k)→l.length≤k
 | 0,l,_,h=>by
  cases l with
  | nil=>simp
  | cons a l=>exact absurd (h a (by simp)) oM
 | k+1,l,hp,h=>by
  have h1:=CM k hp;have h2:=J6 k (l.filter fun x=>decide (x≠k)) (hp.filter _) fun x hx=>by obtain⟨hx1,hx2⟩:=gy.1 hx;have:=h x hx1;have:x≠k:=(by simpa using hx2);omega
  omega
theorem yN{dL:Int}:∀{ms before:List Int},rq before ms dL=true→ms.Pairwise (fun a b=>a≠b)∧∀m∈ms,m∉before
 | [],_,_=>⟨List.Pairwise.nil,fun m hm=>by simp at hm⟩
 | a::ms,before,h=>by simp only[rq,ah,Bool.not_eq_true'] at h;obtain⟨i1,i2⟩:=yN h.2.2.2;have ha:a∉before:=(by intro kI;have:=List.contains_iff_mem.2 kI;rw[h.2.1] at this;cases this);refine⟨lP.2 ⟨fun b hb e=>i2 b hb (by simp[e]),i1⟩,fun m hm=>?_⟩;rcases az.1 hm with rfl|hm;exact ha;exact fun hb=>i2 m hm (List.mem_append_left _ hb)
theorem adm{marks:List Int}{dL:Nat}(h:gf marks dL=true)(hm1:dL≤60):marks.length≤900000:=by
 have hmem:=n5 h;have hp:=(yN (dL:=dL) (before:=[]) h).1;have h1:=J6 121 (marks.map fun m=>(m+60).toNat) (by
  rw[List.pairwise_map]
  refine List.Pairwise.imp_of_mem ?_ hp
  intro a b ha hb hab e
  have:=hmem a ha
  have:=hmem b hb
  exact hab oM) (fun x hx=>by
  obtain⟨m,hm,rfl⟩:=bN.1 hx
  have:=hmem m hm
  omega)
 rw[List.length_map] at h1;omega
end Go.Mod
