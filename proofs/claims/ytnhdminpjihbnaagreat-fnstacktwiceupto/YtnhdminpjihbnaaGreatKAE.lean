/-
  The data of the program as plain Lean types, and how they lie in memory, cell by cell. No program is walked here.
-/
import Derived.Test.YtnhdminpjihbnaaGreatKAD
set_option linter.unusedVariables false
set_option linter.unusedSimpArgs false
open Bool renaming and_eq_true→ab,false_eq_true→aw,true_and→aN
open Classical renaming em→aa
open Int renaming gcd→dK
open List renaming getElem?_eq_getElem→ae,drop_eq_getElem_cons→ai,drop_of_length_le→al,mem_cons→ax,length_append→ay,length_cons→aG,map_cons→aJ,mem_append→aM,mem_cons_of_mem→bf,all_eq_true→bh,append_assoc→bm,take_add_one→bn,mem_map→bq,cons_append→bu,not_mem_nil→bB,append_nil→bV,getD→b9,map_nil→cL,pairwise_cons→cS,mem_filter→cX,all_cons→cY,map_append→dA,take_succ_cons→dE,mem_append_left→dH,length_nil→dW,filter_cons→fB,mem_of_find?_eq_some→im,foldl_cons→iW,flatMap_cons→kT,foldl_append→kW,getElem_cons_succ→lA,getElem?_cons_succ→nG
open Nat renaming le_refl→aH,mul_le_mul_right→bD,pow_le_pow_right→cI,add_mul→da,one_le_two_pow→dq,pow_succ→jL,add_assoc→kv
namespace Go.Mod
open Go.Eng
abbrev p8:=List UInt8
def bj(ns:List Int):List (List D):=ns.map fun n=>[.val (.int .i64 n)]
def rV(ns:List Bool):List (List D):=ns.map fun n=>[.val (.bool n)]
def oE(ns:List p8):List (List D):=ns.map fun n=>[.str n]
def dS(ns:List (List Int)):List (List D):=ns.map fun n=>[.eP (bj n)]
theorem j6(ns:List Int):(bj ns).length=ns.length:=by simp[bj]
theorem Ce{ns:List Int}{i:Nat}(h:i<ns.length):row (bj ns) i=[.val (.int .i64 ns[i])]:=by simp[bj,row,b9,ae h]
theorem ny(ns:List Int):∀y∈bj ns,y.length=1:=by intro y hy;rw[show bj ns=ns.map _ from rfl] at hy;obtain⟨t,_,rfl⟩:=bq.1 hy;rfl
theorem Ed(ns:List Int)(i:Nat):(bj ns).take i=bj (ns.take i):=by simp[bj]
theorem fa(ns ms:List Int):bj ns++bj ms=bj (ns++ms):=by simp[bj]
theorem iG:bj []=[]:=rfl
theorem dP(n:Int)(ns:List Int):bj (n::ns)=[.val (.int .i64 n)]::bj ns:=rfl
theorem aap(ns:List Bool):(rV ns).length=ns.length:=by simp[rV]
theorem Zr{ns:List Bool}{i:Nat}(h:i<ns.length):row (rV ns) i=[.val (.bool ns[i])]:=by simp[rV,row,b9,ae h]
theorem Zm(ns:List Bool):∀y∈rV ns,y.length=1:=by intro y hy;rw[show rV ns=ns.map _ from rfl] at hy;obtain⟨t,_,rfl⟩:=bq.1 hy;rfl
theorem Z9:rV []=[]:=rfl
theorem PQ(ns:List p8):(oE ns).length=ns.length:=by simp[oE]
theorem Pk{ns:List p8}{i:Nat}(h:i<ns.length):row (oE ns) i=[.str ns[i]]:=by simp[oE,row,b9,ae h]
theorem Zk(ns ms:List p8):oE ns++oE ms=oE (ns++ms):=by simp[oE]
theorem Ze:oE []=[]:=rfl
theorem U5(ns:List (List Int)):(dS ns).length=ns.length:=by simp[dS]
theorem XU{ns:List (List Int)}{i:Nat}(h:i<ns.length):row (dS ns) i=[.eP (bj ns[i])]:=by simp[dS,row,b9,ae h]
theorem XM(ns:List (List Int)):∀y∈dS ns,y.length=1:=by intro y hy;rw[show dS ns=ns.map _ from rfl] at hy;obtain⟨t,_,rfl⟩:=bq.1 hy;rfl
theorem W4:dS []=[]:=rfl
inductive az where
 | mk(name:p8)(ar:List az)
def az.name:az→p8
 | .mk x _=>x
def az.ar:az→List az
 | .mk _ x=>x
theorem az.ind{P:az→Prop}(h:∀name ar,(∀k∈ar,P k)→P (.mk name ar)):∀t,P t:=by intro t;refine az.rec (motive_1:=P) (motive_2:=fun ks=>∀k∈ks,P k) (fun name ar ih=>h name ar ih) (by simp) (fun t ts h1 h2=>?_) t;intro k hk;rcases ax.1 hk with rfl|hk;exact h1;exact h2 k hk
mutual
def ajs:az→List D
 | .mk name ar=>[.str name,.eP (ba ar)]
def ba:List az→List (List D)
 | []=>[]
 | t::ts=>ajs t::ba ts
end
def cT(t:az):List D:=[.str t.name,.eP (ba t.ar)]
theorem agA(t:az):ajs t=cT t:=by cases t;rfl
theorem ph:∀(ts:List az),ba ts=ts.map cT
 | []=>rfl
 | t::ts=>by simp[ba,agA,ph ts]
theorem vm(ns:List az):(ba ns).length=ns.length:=by simp[ph]
theorem G7{ns:List az}{i:Nat}(h:i<ns.length):row (ba ns) i=cT ns[i]:=by simp[ph,row,b9,ae h]
theorem ZE(ns:List az):∀y∈ba ns,y.length=2:=by intro y hy;rw[show ba ns=ns.map _ from ph ns] at hy;obtain⟨t,_,rfl⟩:=bq.1 hy;rfl
theorem VR(ns:List az)(i:Nat):(ba ns).take i=ba (ns.take i):=by simp[ph]
theorem oq(ns ms:List az):ba ns++ba ms=ba (ns++ms):=by simp[ph]
theorem om:ba []=[]:=rfl
theorem iu(n:az)(ns:List az):ba (n::ns)=cT n::ba ns:=by simp[ph]
theorem r8{ns:List az}{i:Nat}(h:i<ns.length):ba (ns.take i)++[cT ns[i]]=ba (ns.take (i+1)):=by
 have e:ns.take (i+1)=ns.take i++[ns[i]]:=by rw[bn,ae h];rfl
 rw[e,←oq,iu,om]
mutual
def acI:az→az→Bool
 | .mk name1 kids1,.mk name2 kids2=>decide (name1=name2)&&DR kids1 kids2
def DR:List az→List az→Bool
 | [],[]=>true
 | x::xs,y::ys=>acI x y&&DR xs ys
 | _,_=>false
end
mutual
theorem PB:∀(a b:az),acI a b=true↔a=b
 | .mk name1 kids1,.mk name2 kids2=>by simp[acI,Le]
theorem Le:∀(a b:List az),DR a b=true↔a=b
 | [],[]=>by simp[DR]
 | [],_::_=>by simp[DR]
 | _::_,[]=>by simp[DR]
 | x::xs,y::ys=>by simp[DR,PB x y,Le xs ys]
end
instance:DecidableEq az:=fun a b=>decidable_of_iff _ (PB a b)
structure Sym where
 name:p8
 args:List Int
 sort:Int
 deriving DecidableEq
def Bt(t:Sym):List D:=[.str t.name,.eP (bj t.args),.val (.int .i64 t.sort)]
def ij(l:List Sym):List (List D):=l.map Bt
theorem Uc(ns:List Sym):(ij ns).length=ns.length:=by simp[ij]
theorem IV{ns:List Sym}{i:Nat}(h:i<ns.length):row (ij ns) i=Bt ns[i]:=by simp[ij,row,b9,ae h]
theorem xd(ns ms:List Sym):ij ns++ij ms=ij (ns++ms):=by simp[ij]
structure eV where
 cq:List Sym
 deriving DecidableEq
def gi(t:eV):List D:=[.eP (ij t.cq)]
structure bz where
 kind:Int
 A:az
 B:az
 an:List az
 bt:List Int
 bJ:Int
 cz:Bool
 deriving DecidableEq
def iA(t:bz):List D:=[.val (.int .i64 t.kind),.str t.A.name,.eP (ba t.A.ar),.str t.B.name,.eP (ba t.B.ar),.eP (ba t.an),.eP (bj t.bt),.val (.int .i64 t.bJ),.val (.bool t.cz)]
def bC(l:List bz):List (List D):=l.map iA
theorem P7(ns:List bz):(bC ns).length=ns.length:=by simp[bC]
theorem Qs{ns:List bz}{i:Nat}(h:i<ns.length):row (bC ns) i=iA ns[i]:=by simp[bC,row,b9,ae h]
theorem Qv(ns:List bz):∀y∈bC ns,y.length=9:=by intro y hy;rw[show bC ns=ns.map _ from rfl] at hy;obtain⟨t,_,rfl⟩:=bq.1 hy;rfl
theorem uW(ns ms:List bz):bC ns++bC ms=bC (ns++ms):=by simp[bC]
theorem vh:bC []=[]:=rfl
theorem xM(n:bz)(ns:List bz):bC (n::ns)=iA n::bC ns:=rfl
structure cC where
 aY:bz
 no:Bool
 deriving DecidableEq
def Af(t:cC):List D:=[.val (.int .i64 t.aY.kind),.str t.aY.A.name,.eP (ba t.aY.A.ar),.str t.aY.B.name,.eP (ba t.aY.B.ar),.eP (ba t.aY.an),.eP (bj t.aY.bt),.val (.int .i64 t.aY.bJ),.val (.bool t.aY.cz),.val (.bool t.no)]
def cO(l:List cC):List (List D):=l.map Af
theorem IZ(ns:List cC):(cO ns).length=ns.length:=by simp[cO]
theorem To{ns:List cC}{i:Nat}(h:i<ns.length):row (cO ns) i=Af ns[i]:=by simp[cO,row,b9,ae h]
theorem I8(ns:List cC):∀y∈cO ns,y.length=10:=by intro y hy;rw[show cO ns=ns.map _ from rfl] at hy;obtain⟨t,_,rfl⟩:=bq.1 hy;rfl
theorem qK(ns ms:List cC):cO ns++cO ms=cO (ns++ms):=by simp[cO]
theorem Bi:cO []=[]:=rfl
theorem rq(n:cC)(ns:List cC):cO (n::ns)=Af n::cO ns:=rfl
inductive o8 where
 | mk(pF:Int)(n:Int)(t:az)(ar:List o8)
def o8.pF:o8→Int
 | .mk x _ _ _=>x
def o8.n:o8→Int
 | .mk _ x _ _=>x
def o8.t:o8→az
 | .mk _ _ x _=>x
def o8.ar:o8→List o8
 | .mk _ _ _ x=>x
theorem o8.ind{P:o8→Prop}(h:∀pF n t ar,(∀k∈ar,P k)→P (.mk pF n t ar)):∀t,P t:=by intro t;refine o8.rec (motive_1:=P) (motive_2:=fun ks=>∀k∈ks,P k) (fun pF n t ar ih=>h pF n t ar ih) (by simp) (fun t ts h1 h2=>?_) t;intro k hk;rcases ax.1 hk with rfl|hk;exact h1;exact h2 k hk
mutual
def aea:o8→List D
 | .mk pF n t ar=>[.val (.int .i64 pF),.val (.int .i64 n),.str t.name,.eP (ba t.ar),.eP (mc ar)]
def mc:List o8→List (List D)
 | []=>[]
 | t::ts=>aea t::mc ts
end
def DX(t:o8):List D:=[.val (.int .i64 t.pF),.val (.int .i64 t.n),.str t.t.name,.eP (ba t.t.ar),.eP (mc t.ar)]
theorem Zs(t:o8):aea t=DX t:=by cases t;rfl
theorem xh:∀(ts:List o8),mc ts=ts.map DX
 | []=>rfl
 | t::ts=>by simp[mc,Zs,xh ts]
theorem SF(ns:List o8):(mc ns).length=ns.length:=by simp[xh]
theorem Ug(ns ms:List o8):mc ns++mc ms=mc (ns++ms):=by simp[xh]
theorem tH:mc []=[]:=rfl
theorem uy(n:o8)(ns:List o8):mc (n::ns)=DX n::mc ns:=by simp[xh]
mutual
def R3:o8→o8→Bool
 | .mk rule1 n1 t1 kids1,.mk rule2 n2 t2 kids2=>decide (rule1=rule2)&&decide (n1=n2)&&decide (t1=t2)&&wm kids1 kids2
def wm:List o8→List o8→Bool
 | [],[]=>true
 | x::xs,y::ys=>R3 x y&&wm xs ys
 | _,_=>false
end
mutual
theorem IQ:∀(a b:o8),R3 a b=true↔a=b
 | .mk rule1 n1 t1 kids1,.mk rule2 n2 t2 kids2=>by simp[R3,FU,and_assoc]
theorem FU:∀(a b:List o8),wm a b=true↔a=b
 | [],[]=>by simp[wm]
 | [],_::_=>by simp[wm]
 | _::_,[]=>by simp[wm]
 | x::xs,y::ys=>by simp[wm,IQ x y,FU xs ys]
end
instance:DecidableEq o8:=fun a b=>decidable_of_iff _ (IQ a b)
inductive fL where
 | mk(kind:Int)(n:Int)(xU:o8)(bt:List Int)(A:az)(B:az)(ar:List fL)
def fL.kind:fL→Int
 | .mk x _ _ _ _ _ _=>x
def fL.n:fL→Int
 | .mk _ x _ _ _ _ _=>x
def fL.xU:fL→o8
 | .mk _ _ x _ _ _ _=>x
def fL.bt:fL→List Int
 | .mk _ _ _ x _ _ _=>x
def fL.A:fL→az
 | .mk _ _ _ _ x _ _=>x
def fL.B:fL→az
 | .mk _ _ _ _ _ x _=>x
def fL.ar:fL→List fL
 | .mk _ _ _ _ _ _ x=>x
theorem fL.ind{P:fL→Prop}(h:∀kind n xU bt A B ar,(∀k∈ar,P k)→P (.mk kind n xU bt A B ar)):∀t,P t:=by intro t;refine fL.rec (motive_1:=P) (motive_2:=fun ks=>∀k∈ks,P k) (fun kind n xU bt A B ar ih=>h kind n xU bt A B ar ih) (by simp) (fun t ts h1 h2=>?_) t;intro k hk;rcases ax.1 hk with rfl|hk;exact h1;exact h2 k hk
mutual
def YW:fL→List D
 | .mk kind n xU bt A B ar=>[.val (.int .i64 kind),.val (.int .i64 n),.val (.int .i64 xU.pF),.val (.int .i64 xU.n),.str xU.t.name,.eP (ba xU.t.ar),.eP (mc xU.ar),.eP (bj bt),.str A.name,.eP (ba A.ar),.str B.name,.eP (ba B.ar),.eP (lX ar)]
def lX:List fL→List (List D)
 | []=>[]
 | t::ts=>YW t::lX ts
end
def Df(t:fL):List D:=[.val (.int .i64 t.kind),.val (.int .i64 t.n),.val (.int .i64 t.xU.pF),.val (.int .i64 t.xU.n),.str t.xU.t.name,.eP (ba t.xU.t.ar),.eP (mc t.xU.ar),.eP (bj t.bt),.str t.A.name,.eP (ba t.A.ar),.str t.B.name,.eP (ba t.B.ar),.eP (lX t.ar)]
theorem WQ(t:fL):YW t=Df t:=by cases t;rfl
theorem uX:∀(ts:List fL),lX ts=ts.map Df
 | []=>rfl
 | t::ts=>by simp[lX,WQ,uX ts]
theorem Rl(ns:List fL):(lX ns).length=ns.length:=by simp[uX]
theorem Qg(ns ms:List fL):lX ns++lX ms=lX (ns++ms):=by simp[uX]
theorem ze:lX []=[]:=rfl
theorem Dj(n:fL)(ns:List fL):lX (n::ns)=Df n::lX ns:=by simp[uX]
mutual
def MR:fL→fL→Bool
 | .mk kind1 n1 why1 times1 A1 B1 kids1,.mk kind2 n2 why2 times2 A2 B2 kids2=>decide (kind1=kind2)&&decide (n1=n2)&&decide (why1=why2)&&decide (times1=times2)&&decide (A1=A2)&&decide (B1=B2)&&se kids1 kids2
def se:List fL→List fL→Bool
 | [],[]=>true
 | x::xs,y::ys=>MR x y&&se xs ys
 | _,_=>false
end
mutual
theorem Fq:∀(a b:fL),MR a b=true↔a=b
 | .mk kind1 n1 why1 times1 A1 B1 kids1,.mk kind2 n2 why2 times2 A2 B2 kids2=>by simp[MR,Dw,and_assoc]
theorem Dw:∀(a b:List fL),se a b=true↔a=b
 | [],[]=>by simp[se]
 | [],_::_=>by simp[se]
 | _::_,[]=>by simp[se]
 | x::xs,y::ys=>by simp[se,Fq x y,Dw xs ys]
end
instance:DecidableEq fL:=fun a b=>decidable_of_iff _ (Fq a b)
inductive aU where
 | mk(kind:Int)(lit:cC)(ar:List aU)
def aU.kind:aU→Int
 | .mk x _ _=>x
def aU.lit:aU→cC
 | .mk _ x _=>x
def aU.ar:aU→List aU
 | .mk _ _ x=>x
theorem aU.ind{P:aU→Prop}(h:∀kind lit ar,(∀k∈ar,P k)→P (.mk kind lit ar)):∀t,P t:=by intro t;refine aU.rec (motive_1:=P) (motive_2:=fun ks=>∀k∈ks,P k) (fun kind lit ar ih=>h kind lit ar ih) (by simp) (fun t ts h1 h2=>?_) t;intro k hk;rcases ax.1 hk with rfl|hk;exact h1;exact h2 k hk
mutual
def YF:aU→List D
 | .mk kind lit ar=>[.val (.int .i64 kind),.val (.int .i64 lit.aY.kind),.str lit.aY.A.name,.eP (ba lit.aY.A.ar),.str lit.aY.B.name,.eP (ba lit.aY.B.ar),.eP (ba lit.aY.an),.eP (bj lit.aY.bt),.val (.int .i64 lit.aY.bJ),.val (.bool lit.aY.cz),.val (.bool lit.no),.eP (bc ar)]
def bc:List aU→List (List D)
 | []=>[]
 | t::ts=>YF t::bc ts
end
def eE(t:aU):List D:=[.val (.int .i64 t.kind),.val (.int .i64 t.lit.aY.kind),.str t.lit.aY.A.name,.eP (ba t.lit.aY.A.ar),.str t.lit.aY.B.name,.eP (ba t.lit.aY.B.ar),.eP (ba t.lit.aY.an),.eP (bj t.lit.aY.bt),.val (.int .i64 t.lit.aY.bJ),.val (.bool t.lit.aY.cz),.val (.bool t.lit.no),.eP (bc t.ar)]
theorem WI(t:aU):YF t=eE t:=by cases t;rfl
theorem pr:∀(ts:List aU),bc ts=ts.map eE
 | []=>rfl
 | t::ts=>by simp[bc,WI,pr ts]
theorem eL(ns:List aU):(bc ns).length=ns.length:=by simp[pr]
theorem Ry{ns:List aU}{i:Nat}(h:i<ns.length):row (bc ns) i=eE ns[i]:=by simp[pr,row,b9,ae h]
theorem u9(ns:List aU):∀y∈bc ns,y.length=12:=by intro y hy;rw[show bc ns=ns.map _ from pr ns] at hy;obtain⟨t,_,rfl⟩:=bq.1 hy;rfl
theorem lq(ns ms:List aU):bc ns++bc ms=bc (ns++ms):=by simp[pr]
theorem nV:bc []=[]:=rfl
theorem lC(n:aU)(ns:List aU):bc (n::ns)=eE n::bc ns:=by simp[pr]
theorem s7{ns:List aU}{i:Nat}(h:i<ns.length):bc (ns.take i)++[eE ns[i]]=bc (ns.take (i+1)):=by
 have e:ns.take (i+1)=ns.take i++[ns[i]]:=by rw[bn,ae h];rfl
 rw[e,←lq,lC,nV]
mutual
def Mq:aU→aU→Bool
 | .mk kind1 lit1 kids1,.mk kind2 lit2 kids2=>decide (kind1=kind2)&&decide (lit1=lit2)&&rY kids1 kids2
def rY:List aU→List aU→Bool
 | [],[]=>true
 | x::xs,y::ys=>Mq x y&&rY xs ys
 | _,_=>false
end
mutual
theorem Gv:∀(a b:aU),Mq a b=true↔a=b
 | .mk kind1 lit1 kids1,.mk kind2 lit2 kids2=>by simp[Mq,C5,and_assoc]
theorem C5:∀(a b:List aU),rY a b=true↔a=b
 | [],[]=>by simp[rY]
 | [],_::_=>by simp[rY]
 | _::_,[]=>by simp[rY]
 | x::xs,y::ys=>by simp[rY,Gv x y,C5 xs ys]
end
instance:DecidableEq aU:=fun a b=>decidable_of_iff _ (Gv a b)
def fM(ns:List (List aU)):List (List D):=ns.map fun n=>[.eP (bc n)]
theorem VB(ns:List (List aU)):(fM ns).length=ns.length:=by simp[fM]
theorem VO{ns:List (List aU)}{i:Nat}(h:i<ns.length):row (fM ns) i=[.eP (bc ns[i])]:=by simp[fM,row,b9,ae h]
theorem WV(ns:List (List aU)):∀y∈fM ns,y.length=1:=by intro y hy;rw[show fM ns=ns.map _ from rfl] at hy;obtain⟨t,_,rfl⟩:=bq.1 hy;rfl
theorem UP(ns:List (List aU))(i:Nat):(fM ns).take i=fM (ns.take i):=by simp[fM]
theorem Vi(ns ms:List (List aU)):fM ns++fM ms=fM (ns++ms):=by simp[fM]
theorem Ni:fM []=[]:=rfl
theorem Sq(n:(List aU))(ns:List (List aU)):fM (n::ns)=[.eP (bc n)]::fM ns:=rfl
theorem I9{ns:List (List aU)}{i:Nat}(h:i<ns.length):fM (ns.take i)++[[.eP (bc ns[i])]]=fM (ns.take (i+1)):=by
 have e:ns.take (i+1)=ns.take i++[ns[i]]:=by rw[bn,ae h];rfl
 rw[e,←Vi,Sq,Ni]
structure Rat where
 N:Int
 D:Int
 deriving DecidableEq
def lM(t:Rat):List D:=[.val (.int .i64 t.N),.val (.int .i64 t.D)]
def dC(l:List Rat):List (List D):=l.map lM
theorem I7(ns:List Rat):(dC ns).length=ns.length:=by simp[dC]
theorem Ii{ns:List Rat}{i:Nat}(h:i<ns.length):row (dC ns) i=lM ns[i]:=by simp[dC,row,b9,ae h]
theorem TG(ns:List Rat):∀y∈dC ns,y.length=2:=by intro y hy;rw[show dC ns=ns.map _ from rfl] at hy;obtain⟨t,_,rfl⟩:=bq.1 hy;rfl
theorem Ie(ns ms:List Rat):dC ns++dC ms=dC (ns++ms):=by simp[dC]
theorem Ic:dC []=[]:=rfl
theorem Rj(n:Rat)(ns:List Rat):dC (n::ns)=lM n::dC ns:=rfl
structure Row where
 name:p8
 args:List Rat
 val:Rat
 deriving DecidableEq
def BJ(t:Row):List D:=[.str t.name,.eP (dC t.args),.val (.int .i64 t.val.N),.val (.int .i64 t.val.D)]
def fm(l:List Row):List (List D):=l.map BJ
theorem Td(ns:List Row):(fm ns).length=ns.length:=by simp[fm]
theorem S6{ns:List Row}{i:Nat}(h:i<ns.length):row (fm ns) i=BJ ns[i]:=by simp[fm,row,b9,ae h]
theorem T2:fm []=[]:=rfl
structure dZ where
 aK:List Row
 deriving DecidableEq
def nY(t:dZ):List D:=[.eP (fm t.aK)]
structure mM where
 bw:List Int
 bJ:Int
 cz:Bool
 deriving DecidableEq
def mY(t:mM):List D:=[.eP (bj t.bw),.val (.int .i64 t.bJ),.val (.bool t.cz)]
def gq(l:List mM):List (List D):=l.map mY
theorem T5(ns:List mM):(gq ns).length=ns.length:=by simp[gq]
theorem UX{ns:List mM}{i:Nat}(h:i<ns.length):row (gq ns) i=mY ns[i]:=by simp[gq,row,b9,ae h]
theorem UW(ns:List mM):∀y∈gq ns,y.length=3:=by intro y hy;rw[show gq ns=ns.map _ from rfl] at hy;obtain⟨t,_,rfl⟩:=bq.1 hy;rfl
theorem Au(ns ms:List mM):gq ns++gq ms=gq (ns++ms):=by simp[gq]
theorem wN:gq []=[]:=rfl
theorem u6(n:mM)(ns:List mM):gq (n::ns)=mY n::gq ns:=rfl
structure lH where
 A:az
 B:az
 deriving DecidableEq
def cEq(t:lH):List D:=[.str t.A.name,.eP (ba t.A.ar),.str t.B.name,.eP (ba t.B.ar)]
def lU(l:List lH):List (List D):=l.map cEq
theorem Vk(ns:List lH):(lU ns).length=ns.length:=by simp[lU]
theorem VZ{ns:List lH}{i:Nat}(h:i<ns.length):row (lU ns) i=cEq ns[i]:=by simp[lU,row,b9,ae h]
theorem WK(ns:List lH):∀y∈lU ns,y.length=4:=by intro y hy;rw[show lU ns=ns.map _ from rfl] at hy;obtain⟨t,_,rfl⟩:=bq.1 hy;rfl
theorem XW(ns ms:List lH):lU ns++lU ms=lU (ns++ms):=by simp[lU]
theorem Eg:lU []=[]:=rfl
theorem UD(n:lH)(ns:List lH):lU (n::ns)=cEq n::lU ns:=rfl
structure Step where
 A:Int
 B:Int
 given:Int
 deriving DecidableEq
def Yt(t:Step):List D:=[.val (.int .i64 t.A),.val (.int .i64 t.B),.val (.int .i64 t.given)]
def b8(l:List Step):List (List D):=l.map Yt
theorem Rs(ns:List Step):(b8 ns).length=ns.length:=by simp[b8]
theorem Qq{ns:List Step}{i:Nat}(h:i<ns.length):row (b8 ns) i=Yt ns[i]:=by simp[b8,row,b9,ae h]
theorem QC(ns:List Step):∀y∈b8 ns,y.length=3:=by intro y hy;rw[show b8 ns=ns.map _ from rfl] at hy;obtain⟨t,_,rfl⟩:=bq.1 hy;rfl
theorem Sd(ns ms:List Step):b8 ns++b8 ms=b8 (ns++ms):=by simp[b8]
theorem FH:b8 []=[]:=rfl
theorem NS(n:Step)(ns:List Step):b8 (n::ns)=Yt n::b8 ns:=rfl
structure gI where
 aP:Int
 au:List (List Int)
 deriving DecidableEq
def acH(t:gI):List D:=[.val (.int .i64 t.aP),.eP (dS t.au)]
structure mh where
 marks:List Int
 case:fL
 deriving DecidableEq
def Mo(t:mh):List D:=[.eP (bj t.marks),.val (.int .i64 t.case.kind),.val (.int .i64 t.case.n),.val (.int .i64 t.case.xU.pF),.val (.int .i64 t.case.xU.n),.str t.case.xU.t.name,.eP (ba t.case.xU.t.ar),.eP (mc t.case.xU.ar),.eP (bj t.case.bt),.str t.case.A.name,.eP (ba t.case.A.ar),.str t.case.B.name,.eP (ba t.case.B.ar),.eP (lX t.case.ar)]
def kS(l:List mh):List (List D):=l.map Mo
theorem NP(ns:List mh):(kS ns).length=ns.length:=by simp[kS]
theorem N3{ns:List mh}{i:Nat}(h:i<ns.length):row (kS ns) i=Mo ns[i]:=by simp[kS,row,b9,ae h]
theorem Ov(ns ms:List mh):kS ns++kS ms=kS (ns++ms):=by simp[kS]
theorem ND:kS []=[]:=rfl
structure F8 where
 ke:List mh
 log:List (List Int)
 deriving DecidableEq
def ads(t:F8):List D:=[.eP (kS t.ke),.eP (dS t.log)]
structure e7 where
 sig:eV
 aA:List (List aU)
 deriving DecidableEq
def ic(t:e7):List D:=[.eP (ij t.sig.cq),.eP (fM t.aA)]
def av(cs:List D):PV:=.agg (fy cs)
attribute [go_sem] j6 aap PQ U5 VB vm Uc P7 IZ SF Rl eL I7 Td T5 Vk Rs NP
attribute [go_sem] Ce Zr Pk XU VO G7 IV Qs To Ry Ii S6 UX VZ Qq N3
attribute [go_sem] iG Z9 Ze W4 Ni om vh Bi tH ze nV Ic T2 wN Eg FH ND
attribute [go_sem] av cT Bt gi iA Af DX Df eE lM BJ nY mY cEq Yt acH Mo ads ic Int.toNat_natCast
end Go.Mod
namespace Go.Eng
open Go.Mod
theorem sA{p q:Prop}(k:q)(h:p=q:=by simp -implicitDefEqProofs only[go_sem];exact rfl):p:=h▸k
theorem sB{p q:Prop}(k:q)(h:p=q:=by simp -implicitDefEqProofs only[go_sem,Int.reduceEq,Int.reduceLT,Int.reduceLE,Int.reduceToNat];exact rfl):p:=h▸k
theorem sC{p:Prop}(h:p:=by simp -implicitDefEqProofs only[go_sem]):p:=h
theorem sD{p:Prop}(h:p:=by simp -implicitDefEqProofs only[go_sem,Int.reduceEq,Int.reduceLT,Int.reduceLE,Int.reduceToNat]):p:=h
theorem iK{os:List Oper}{L:List Ky}{p:Prop}(hp:p)(h:QK os L=true:=by kernel_rfl):indep os L=true∧p:=⟨HS h,hp⟩
theorem aC{m:Option (List Ky)}{gs:Option Nat}{d:Nat}{ty:TypeId}{pos:String}{fI:Array Edge}{gd:Option (Nat×Bool)}{E:Env}{g:G}{rest:sH→Option (List Ky)→G→Prop}{nZ:Operand}{xs:List Operand}{tys:Array TypeId}{f:FuncId}(cap:List PV){de:List PV}{res:PV}{q:Prop}
 (hC:C E.P f de [] (gR res [])) (k:q) (h:g.ev nZ= .fn f cap∧JF (U1 g xs++cap) de∧wB 0 de=true∧res.lt 0=true:=by simp -implicitDefEqProofs only[go_sem])
 (hr:rest .on (n9 m (pZ (wD gs ⟨eu nZ++CQ xs,[]⟩) ⟨some (d,res),[]⟩)) (g.app ⟨some (d,res),[]⟩)=q:=by simp -implicitDefEqProofs only[go_sem];exact rfl):tm E m gs ⟨some d,.call ⟨.value nZ,⟨xs⟩,tys⟩,ty,pos,fI,gd⟩ g rest:=
 eh cap hC h (hr▸k)
theorem aD{m:Option (List Ky)}{gs:Option Nat}{d:Nat}{ty:TypeId}{pos:String}{fI:Array Edge}{gd:Option (Nat×Bool)}{E:Env}{g:G}{rest:sH→Option (List Ky)→G→Prop}{nZ:Operand}{xs:List Operand}{tys:Array TypeId}{f:FuncId}(cap:List PV){de:List PV}{res:PV}{q:Prop}
 (hC:C E.P f de [] (gR res [])) (k:q) (h:g.ev nZ= .fn f cap∧JF (U1 g xs++cap) de∧wB 0 de=true∧res.lt 0=true:=by simp -implicitDefEqProofs only[go_sem,Int.reduceEq,Int.reduceLT,Int.reduceLE,Int.reduceToNat])
 (hr:rest .on (n9 m (pZ (wD gs ⟨eu nZ++CQ xs,[]⟩) ⟨some (d,res),[]⟩)) (g.app ⟨some (d,res),[]⟩)=q:=by simp -implicitDefEqProofs only[go_sem,Int.reduceEq,Int.reduceLT,Int.reduceLE,Int.reduceToNat];exact rfl):tm E m gs ⟨some d,.call ⟨.value nZ,⟨xs⟩,tys⟩,ty,pos,fI,gd⟩ g rest:=
 eh cap hC h (hr▸k)
theorem oC{m:Option (List Ky)}{gs:Option Nat}{d:Nat}{ty:TypeId}{pos:String}{fI:Array Edge}{gd:Option (Nat×Bool)}{E:Env}{g:G}{rest:sH→Option (List Ky)→G→Prop}{nZ:Operand}{xs:List Operand}{tys:Array TypeId}{f:FuncId}(cap:List PV)(M:List Nat){de:List PV}{fR st':List (Option En)}{res:PV}{q:Prop}
 (hC:C E.P f de fR (gR res st')) (k:q) (h:g.ev nZ= .fn f cap∧JF (U1 g xs++cap) (tx M de)∧wB (mj fR) de=true∧RT M=true∧Ae (mj fR) (Hg M)=true∧Ae (mj fR) (mj st')=true∧Ae (mj st') (Hg M)=true∧pU g M (mj fR) M fR∧kd g (mj fR) M:=by simp -implicitDefEqProofs only[go_sem])
 (hr:rest .on (n9 m (pZ (wD gs ⟨eu nZ++CQ xs,M⟩) ⟨some (d,res.oh M),mL M M st'⟩)) (g.app ⟨some (d,res.oh M),mL M M st'⟩)=q:=by simp -implicitDefEqProofs only[go_sem];exact rfl):tm E m gs ⟨some d,.call ⟨.value nZ,⟨xs⟩,tys⟩,ty,pos,fI,gd⟩ g rest:=
 ff cap M hC h (hr▸k)
theorem oD{m:Option (List Ky)}{gs:Option Nat}{d:Nat}{ty:TypeId}{pos:String}{fI:Array Edge}{gd:Option (Nat×Bool)}{E:Env}{g:G}{rest:sH→Option (List Ky)→G→Prop}{nZ:Operand}{xs:List Operand}{tys:Array TypeId}{f:FuncId}(cap:List PV)(M:List Nat){de:List PV}{fR st':List (Option En)}{res:PV}{q:Prop}
 (hC:C E.P f de fR (gR res st')) (k:q) (h:g.ev nZ= .fn f cap∧JF (U1 g xs++cap) (tx M de)∧wB (mj fR) de=true∧RT M=true∧Ae (mj fR) (Hg M)=true∧Ae (mj fR) (mj st')=true∧Ae (mj st') (Hg M)=true∧pU g M (mj fR) M fR∧kd g (mj fR) M:=by simp -implicitDefEqProofs only[go_sem,Int.reduceEq,Int.reduceLT,Int.reduceLE,Int.reduceToNat])
 (hr:rest .on (n9 m (pZ (wD gs ⟨eu nZ++CQ xs,M⟩) ⟨some (d,res.oh M),mL M M st'⟩)) (g.app ⟨some (d,res.oh M),mL M M st'⟩)=q:=by simp -implicitDefEqProofs only[go_sem,Int.reduceEq,Int.reduceLT,Int.reduceLE,Int.reduceToNat];exact rfl):tm E m gs ⟨some d,.call ⟨.value nZ,⟨xs⟩,tys⟩,ty,pos,fI,gd⟩ g rest:=
 ff cap M hC h (hr▸k)
theorem gS{E:Env}(nt:Nat)(rs:List ResultVar)(hm:E.P.follows .mixedOrders=true){f:FuncId}{fn:Func}{c:Code}{args:List PV}{fR:List (Option En)}{R:PV→List (Option En)→Prop}{L q:Prop}(hf:E.P.funcs[f]?=some fn)(k:L→Gg fR→LB=1099511627776→q)
 (hb : fn.body = some c := by rfl) (hname : (fn.name == "runtime.NumGoroutine") = false := by rfl) (hnt : fn.ntmps = nt := by rfl) (hrs : fn.results.toList = rs := by rfl) (hn : Ae (Ao args) nt = true := by rfl)
 (e1:tS args=L:=by simp -implicitDefEqProofs only[go_sem];exact rfl) (e2:Nv E (mj fR) c .on ⟨fk nt .undef (ixs 0 args),fR⟩ (fun _=>Vd (zm E rs (mj fR) R))=q:=by simp -implicitDefEqProofs only[go_sem];exact rfl):C E.P f args fR R:=
 tI hm hf hb hname hnt hrs hn fun h1 h2=>e2▸k (e1▸h1) h2 rfl
theorem gT{E:Env}(nt:Nat)(rs:List ResultVar)(hm:E.P.follows .mixedOrders=true){f:FuncId}{fn:Func}{c:Code}{args:List PV}{fR:List (Option En)}{R:PV→List (Option En)→Prop}{L q:Prop}(hf:E.P.funcs[f]?=some fn)(k:L→Gg fR→LB=1099511627776→q)
 (hb : fn.body = some c := by rfl) (hname : (fn.name == "runtime.NumGoroutine") = false := by rfl) (hnt : fn.ntmps = nt := by rfl) (hrs : fn.results.toList = rs := by rfl) (hn : Ae (Ao args) nt = true := by rfl)
 (e1:tS args=L:=by simp -implicitDefEqProofs only[go_sem,Int.reduceEq,Int.reduceLT,Int.reduceLE,Int.reduceToNat];exact rfl) (e2:Nv E (mj fR) c .on ⟨fk nt .undef (ixs 0 args),fR⟩ (fun _=>Vd (zm E rs (mj fR) R))=q:=by simp -implicitDefEqProofs only[go_sem,Int.reduceEq,Int.reduceLT,Int.reduceLE,Int.reduceToNat];exact rfl):C E.P f args fR R:=
 tI hm hf hb hname hnt hrs hn fun h1 h2=>e2▸k (e1▸h1) h2 rfl
theorem sO{p:Prop}(h:p:=by first|(with_reducible exact HS (by kernel_rfl))|omega|assumption|exact⟨ZE _,by omega⟩|exact⟨ny _,by omega⟩|exact⟨I8 _,by omega⟩|exact⟨UW _,by omega⟩|exact⟨WK _,by omega⟩|rfl|(simp[*];done)|(simp;omega)|exact⟨TG _,by omega⟩|exact⟨Qv _,by omega⟩|exact⟨Zm _,by omega⟩|exact⟨u9 _,by omega⟩|exact⟨XM _,by omega⟩):p:=h
theorem sV{p:Prop}(h:p:=by(simp -implicitDefEqProofs only[go_sem,Int.reduceEq,Int.reduceLT,Int.reduceLE,Int.reduceToNat];repeat'(first|exact qn.nil|apply qn.cons|exact Vw.same (by first|rfl|simp -implicitDefEqProofs only[go_sem,Int.reduceEq,Int.reduceLT,Int.reduceLE,Int.reduceToNat])|exact Vw.aW rfl rfl|exact Vw.e9 rfl rfl (by simp -implicitDefEqProofs only[go_sem,Int.reduceEq,Int.reduceLT,Int.reduceLE,Int.reduceToNat])|exact Vw.nil|apply Vw.agg|apply Vw.fn|refine Vw.box rfl rfl ?_))):p:=h
structure Hd(q:Prop):Prop where k:q
theorem sQ{p q:Prop}(k:q)(h:Hd q→p:=by intro k;(repeat(with_reducible apply And.intro;exact sO));exact k.k):p:=h ⟨k⟩
theorem sI{p q:Prop}(k:q)(h:Hd q→p:=by intro k;(try with_reducible refine iK ?_);exact k.k):p:=h ⟨k⟩
theorem sJ{p q:Prop}(k:q)(h:Hd q→p:=by intro k;(try with_reducible refine iK ?_);(repeat(with_reducible apply And.intro;exact sO));exact k.k):p:=h ⟨k⟩
theorem sL{p:Prop}(h:p:=by show _ < _;omega):p:=h
theorem sK{p q:Prop}(k:q)(h:Hd q→p:=by intro k;(repeat(first|with_reducible refine SZ (by kernel_rfl) ?_|(with_reducible apply And.intro;exact sO)));exact k.k):p:=h ⟨k⟩
theorem sW{p q:Prop}(k:q)(h:Hd q→p:=by intro k;(try with_reducible refine SZ (by kernel_rfl) ?_);exact k.k):p:=h ⟨k⟩
theorem sM{p:Prop}(h:p:=by first|(simp[aR, *];done)|(simp[aR];done)|(simp;omega)):p:=h
theorem An{E:Env}{rs:List ResultVar}{g:G}{q:PV}{r:Prop}(k:r)(h:((zE E g rs).elim False fun ps=>wk ⟨[jm ps],g.st⟩ [] (jm ps) q)=r:=by simp -implicitDefEqProofs only[go_sem];exact rfl):zm E rs 0 (gR q []) g:=fv (h▸k)
theorem Et{E:Env}{rs:List ResultVar}{n0:Nat}{g:G}{q:PV}{st2:List (Option En)}(m:List (Option Nat)){r:Prop}(k:r)(h:((zE E g rs).elim False fun ps=>Dm ⟨[jm ps],g.st⟩ m [jm ps] [q]∧np ⟨[jm ps],g.st⟩ m m st2)=r:=by simp -implicitDefEqProofs only[go_sem];exact rfl)(h3:AI m st2=true:=by rfl)(h4:keeps n0 0 m=true:=by rfl):zm E rs n0 (gR q st2) g:=bM m (h▸k) h3 h4
theorem fB_{E:Env}{rs:List ResultVar}{g:G}{q:PV}{r:Prop}(k:r)(h:((zE E g rs).elim False fun ps=>wk ⟨[jm ps],g.st⟩ [] (jm ps) q)=r:=by simp -implicitDefEqProofs only[go_sem,Int.reduceEq,Int.reduceLT,Int.reduceLE,Int.reduceToNat];exact rfl):zm E rs 0 (gR q []) g:=fv (h▸k)
theorem gB_{E:Env}{rs:List ResultVar}{n0:Nat}{g:G}{q:PV}{st2:List (Option En)}(m:List (Option Nat)){r:Prop}(k:r)(h:((zE E g rs).elim False fun ps=>Dm ⟨[jm ps],g.st⟩ m [jm ps] [q]∧np ⟨[jm ps],g.st⟩ m m st2)=r:=by simp -implicitDefEqProofs only[go_sem,Int.reduceEq,Int.reduceLT,Int.reduceLE,Int.reduceToNat];exact rfl)(h3:AI m st2=true:=by rfl)(h4:keeps n0 0 m=true:=by rfl):zm E rs n0 (gR q st2) g:=bM m (h▸k) h3 h4
theorem CJ{ p q:Prop}(k:q)(h:p=q:=by(try simp -implicitDefEqProofs only[go_sem,Option.isSome_none,Option.getD_none,Option.isSome_some,Option.getD_some]);exact rfl):p:=(h).mpr k
theorem bI{ p q:Prop}(k:q)(h:Hd q→p:=by intro b0;(repeat(first|with_reducible refine iK ?_|(with_reducible apply And.intro;exact sO)|with_reducible refine fv ?_|simp -implicitDefEqProofs only[go_sem,Option.isSome_none,Option.getD_none,Option.isSome_some,Option.getD_some]));exact b0.k):p:=h ⟨k⟩
theorem qE{ p:Prop}(h:p:=by(repeat(first|with_reducible refine iK ?_|(with_reducible apply And.intro;exact sO)|with_reducible refine fv ?_|simp -implicitDefEqProofs only[go_sem,Option.isSome_none,Option.getD_none,Option.isSome_some,Option.getD_some]));first|done|((repeat' apply And.intro)<;>first|rfl|assumption)|(simp;done)|(simp[*];done)|(simp;omega)):p:=h
theorem bS{p1 p q:Prop}(a1:p1)(k:q)(h:p1→p=q:=by intro b1;(try simp -implicitDefEqProofs only[go_sem,Option.isSome_none,Option.getD_none,Option.isSome_some,Option.getD_some,b1]);exact rfl):p:=(h a1).mpr k
theorem dB{p1 p q:Prop}(a1:p1)(k:q)(h:p1→Hd q→p:=by intro b1;intro b0;(repeat(first|with_reducible refine iK ?_|(with_reducible apply And.intro;exact sO)|with_reducible refine fv ?_|simp -implicitDefEqProofs only[go_sem,Option.isSome_none,Option.getD_none,Option.isSome_some,Option.getD_some,b1]));exact b0.k):p:=h a1 ⟨k⟩
theorem fA{p1 p:Prop}(a1:p1)(h:p1→p:=by intro b1;(repeat(first|with_reducible refine iK ?_|(with_reducible apply And.intro;exact sO)|with_reducible refine fv ?_|simp -implicitDefEqProofs only[go_sem,Option.isSome_none,Option.getD_none,Option.isSome_some,Option.getD_some,b1]));first|done|((repeat' apply And.intro)<;>first|rfl|assumption)|(simp[b1];done)|(simp[*];done)|(simp[b1];omega)):p:=h a1
theorem lf{p1 p2 p q:Prop}(a1:p1)(a2:p2)(k:q)(h:p1→p2→p=q:=by intro b1 b2;(try simp -implicitDefEqProofs only[go_sem,Option.isSome_none,Option.getD_none,Option.isSome_some,Option.getD_some,b1,b2]);exact rfl):p:=(h a1 a2).mpr k
theorem pV{p1 p2 p q:Prop}(a1:p1)(a2:p2)(k:q)(h:p1→p2→Hd q→p:=by intro b1 b2;intro b0;(repeat(first|with_reducible refine iK ?_|(with_reducible apply And.intro;exact sO)|with_reducible refine fv ?_|simp -implicitDefEqProofs only[go_sem,Option.isSome_none,Option.getD_none,Option.isSome_some,Option.getD_some,b1,b2]));exact b0.k):p:=h a1 a2 ⟨k⟩
theorem lJ{p1 p2 p:Prop}(a1:p1)(a2:p2)(h:p1→p2→p:=by intro b1 b2;(repeat(first|with_reducible refine iK ?_|(with_reducible apply And.intro;exact sO)|with_reducible refine fv ?_|simp -implicitDefEqProofs only[go_sem,Option.isSome_none,Option.getD_none,Option.isSome_some,Option.getD_some,b1,b2]));first|done|((repeat' apply And.intro)<;>first|rfl|assumption)|(simp[b1,b2];done)|(simp[*];done)|(simp[b1,b2];omega)):p:=h a1 a2
theorem xE{p1 p2 p3 p q:Prop}(a1:p1)(a2:p2)(a3:p3)(k:q)(h:p1→p2→p3→p=q:=by intro b1 b2 b3;(try simp -implicitDefEqProofs only[go_sem,Option.isSome_none,Option.getD_none,Option.isSome_some,Option.getD_some,b1,b2,b3]);exact rfl):p:=(h a1 a2 a3).mpr k
theorem kY{p1 p2 p3 p q:Prop}(a1:p1)(a2:p2)(a3:p3)(k:q)(h:p1→p2→p3→Hd q→p:=by intro b1 b2 b3;intro b0;(repeat(first|with_reducible refine iK ?_|(with_reducible apply And.intro;exact sO)|with_reducible refine fv ?_|simp -implicitDefEqProofs only[go_sem,Option.isSome_none,Option.getD_none,Option.isSome_some,Option.getD_some,b1,b2,b3]));exact b0.k):p:=h a1 a2 a3 ⟨k⟩
theorem p9{p1 p2 p3 p:Prop}(a1:p1)(a2:p2)(a3:p3)(h:p1→p2→p3→p:=by intro b1 b2 b3;(repeat(first|with_reducible refine iK ?_|(with_reducible apply And.intro;exact sO)|with_reducible refine fv ?_|simp -implicitDefEqProofs only[go_sem,Option.isSome_none,Option.getD_none,Option.isSome_some,Option.getD_some,b1,b2,b3]));first|done|((repeat' apply And.intro)<;>first|rfl|assumption)|(simp[b1,b2,b3];done)|(simp[*];done)|(simp[b1,b2,b3];omega)):p:=h a1 a2 a3
theorem me{ p q:Prop}(k:q)(h:Hd q→p:=by intro b0;(repeat(first|with_reducible refine iK ?_|(with_reducible apply And.intro;exact sO)|with_reducible refine fv ?_|simp -implicitDefEqProofs only[go_sem,Int.reduceEq,Int.reduceLT,Int.reduceLE,Int.reduceToNat,Option.isSome_none,Option.getD_none,Option.isSome_some,Option.getD_some]));exact b0.k):p:=h ⟨k⟩
theorem CG{ p:Prop}(h:p:=by(repeat(first|with_reducible refine iK ?_|(with_reducible apply And.intro;exact sO)|with_reducible refine fv ?_|simp -implicitDefEqProofs only[go_sem,Int.reduceEq,Int.reduceLT,Int.reduceLE,Int.reduceToNat,Option.isSome_none,Option.getD_none,Option.isSome_some,Option.getD_some]));first|done|((repeat' apply And.intro)<;>first|rfl|assumption)|(simp;done)|(simp[*];done)|(simp;omega)):p:=h
theorem ae0{p1 p q:Prop}(a1:p1)(k:q)(h:p1→p=q:=by intro b1;(try simp -implicitDefEqProofs only[go_sem,Int.reduceEq,Int.reduceLT,Int.reduceLE,Int.reduceToNat,Option.isSome_none,Option.getD_none,Option.isSome_some,Option.getD_some,b1]);exact rfl):p:=(h a1).mpr k
theorem kD{p1 p q:Prop}(a1:p1)(k:q)(h:p1→Hd q→p:=by intro b1;intro b0;(repeat(first|with_reducible refine iK ?_|(with_reducible apply And.intro;exact sO)|with_reducible refine fv ?_|simp -implicitDefEqProofs only[go_sem,Int.reduceEq,Int.reduceLT,Int.reduceLE,Int.reduceToNat,Option.isSome_none,Option.getD_none,Option.isSome_some,Option.getD_some,b1]));exact b0.k):p:=h a1 ⟨k⟩
theorem Qr{p1 p:Prop}(a1:p1)(h:p1→p:=by intro b1;(repeat(first|with_reducible refine iK ?_|(with_reducible apply And.intro;exact sO)|with_reducible refine fv ?_|simp -implicitDefEqProofs only[go_sem,Int.reduceEq,Int.reduceLT,Int.reduceLE,Int.reduceToNat,Option.isSome_none,Option.getD_none,Option.isSome_some,Option.getD_some,b1]));first|done|((repeat' apply And.intro)<;>first|rfl|assumption)|(simp[b1];done)|(simp[*];done)|(simp[b1];omega)):p:=h a1
theorem ajo{p1 p2 p q:Prop}(a1:p1)(a2:p2)(k:q)(h:p1→p2→p=q:=by intro b1 b2;(try simp -implicitDefEqProofs only[go_sem,Int.reduceEq,Int.reduceLT,Int.reduceLE,Int.reduceToNat,Option.isSome_none,Option.getD_none,Option.isSome_some,Option.getD_some,b1,b2]);exact rfl):p:=(h a1 a2).mpr k
theorem Rz{p1 p2 p q:Prop}(a1:p1)(a2:p2)(k:q)(h:p1→p2→Hd q→p:=by intro b1 b2;intro b0;(repeat(first|with_reducible refine iK ?_|(with_reducible apply And.intro;exact sO)|with_reducible refine fv ?_|simp -implicitDefEqProofs only[go_sem,Int.reduceEq,Int.reduceLT,Int.reduceLE,Int.reduceToNat,Option.isSome_none,Option.getD_none,Option.isSome_some,Option.getD_some,b1,b2]));exact b0.k):p:=h a1 a2 ⟨k⟩
theorem EN{p1 p2 p:Prop}(a1:p1)(a2:p2)(h:p1→p2→p:=by intro b1 b2;(repeat(first|with_reducible refine iK ?_|(with_reducible apply And.intro;exact sO)|with_reducible refine fv ?_|simp -implicitDefEqProofs only[go_sem,Int.reduceEq,Int.reduceLT,Int.reduceLE,Int.reduceToNat,Option.isSome_none,Option.getD_none,Option.isSome_some,Option.getD_some,b1,b2]));first|done|((repeat' apply And.intro)<;>first|rfl|assumption)|(simp[b1,b2];done)|(simp[*];done)|(simp[b1,b2];omega)):p:=h a1 a2
theorem ago{p1 p2 p3 p q:Prop}(a1:p1)(a2:p2)(a3:p3)(k:q)(h:p1→p2→p3→Hd q→p:=by intro b1 b2 b3;intro b0;(repeat(first|with_reducible refine iK ?_|(with_reducible apply And.intro;exact sO)|with_reducible refine fv ?_|simp -implicitDefEqProofs only[go_sem,Int.reduceEq,Int.reduceLT,Int.reduceLE,Int.reduceToNat,Option.isSome_none,Option.getD_none,Option.isSome_some,Option.getD_some,b1,b2,b3]));exact b0.k):p:=h a1 a2 a3 ⟨k⟩
theorem SV{p1 p2 p3 p:Prop}(a1:p1)(a2:p2)(a3:p3)(h:p1→p2→p3→p:=by intro b1 b2 b3;(repeat(first|with_reducible refine iK ?_|(with_reducible apply And.intro;exact sO)|with_reducible refine fv ?_|simp -implicitDefEqProofs only[go_sem,Int.reduceEq,Int.reduceLT,Int.reduceLE,Int.reduceToNat,Option.isSome_none,Option.getD_none,Option.isSome_some,Option.getD_some,b1,b2,b3]));first|done|((repeat' apply And.intro)<;>first|rfl|assumption)|(simp[b1,b2,b3];done)|(simp[*];done)|(simp[b1,b2,b3];omega)):p:=h a1 a2 a3
theorem c9{P:Program}{n0 n:Nat}(m:List (Option Nat)){p:PV}{ch ch':List (Nat×PV)}{st st':List (Option En)}(h1:wkC ⟨fk n p ch,st⟩ m ch p ch':=by first|(simp -implicitDefEqProofs only[go_sem];done)|(try simp -implicitDefEqProofs only[go_sem,Int.reduceEq,Int.reduceLT,Int.reduceLE,Int.reduceToNat];first|done|assumption|((repeat' apply And.intro)<;>first|rfl|assumption)|(simp[*];done)|(simp[aR, *];done)|(simp;omega)))(h2:np ⟨fk n p ch,st⟩ m m st':=by first|(simp -implicitDefEqProofs only[go_sem];done)|(try simp -implicitDefEqProofs only[go_sem,Int.reduceEq,Int.reduceLT,Int.reduceLE,Int.reduceToNat];first|done|assumption|((repeat' apply And.intro)<;>first|rfl|assumption)|(simp[*];done)|(simp[aR, *];done)|(simp;omega)))(h3:AI m st'=true:=by rfl)(h4:keeps n0 0 m=true:=by rfl):pG P n0 ⟨fk n p ch,st⟩ ⟨fk n .any ch',st'⟩:=bW m h1 h2 h3 h4
theorem nB_{P:Program}{n0 n:Nat}(m:List (Option Nat)){p:PV}{ch ch':List (Nat×PV)}{st st':List (Option En)}{a:Prop}(e:a)(h1:a→wkC ⟨fk n p ch,st⟩ m ch p ch':=by intro e;first|(simp -implicitDefEqProofs only[go_sem];done)|(try simp -implicitDefEqProofs only[go_sem,Int.reduceEq,Int.reduceLT,Int.reduceLE,Int.reduceToNat];first|exact e|(rw[e];done)|(simp[e];done)|((repeat' apply And.intro)<;>first|rfl|exact e)|(simp[aR, *];done)))(h2:a→np ⟨fk n p ch,st⟩ m m st':=by intro e;first|(simp -implicitDefEqProofs only[go_sem];done)|(try simp -implicitDefEqProofs only[go_sem,Int.reduceEq,Int.reduceLT,Int.reduceLE,Int.reduceToNat];first|exact e|(rw[e];done)|(simp[e];done)|((repeat' apply And.intro)<;>first|rfl|exact e)|(simp[aR, *];done)))(h3:AI m st'=true:=by rfl)(h4:keeps n0 0 m=true:=by rfl):pG P n0 ⟨fk n p ch,st⟩ ⟨fk n .any ch',st'⟩:=bW m (h1 e) (h2 e) h3 h4
theorem CM{m:Option (List Ky)}{gs:Option Nat}{d:Nat}{ty:TypeId}{pos:String}{fI:Array Edge}{gd:Option (Nat×Bool)}{E:Env}{g:G}{rest:sH→Option (List Ky)→G→Prop}{nZ:Operand}{xs:List Operand}{tys:Array TypeId}{f:FuncId}(cap:List PV)(ks:List Nat){de:List PV}{res:PV}{q:Prop}
 (hC:C E.P f de [] (gR res [])) (k:q) (h1:g.ev nZ= .fn f cap:=by rfl) (h2:qn g ks (U1 g xs++cap) de:=by exact sV) (h3:sc res=true:=by simp -implicitDefEqProofs only[go_sem])
 (hr:rest .on (n9 m (pZ (wD gs ⟨eu nZ++CQ xs,ks⟩) ⟨some (d,res),[]⟩)) (g.app ⟨some (d,res),[]⟩)=q:=by simp -implicitDefEqProofs only[go_sem];exact rfl):tm E m gs ⟨some d,.call ⟨.value nZ,⟨xs⟩,tys⟩,ty,pos,fI,gd⟩ g rest:=
 ox cap ks hC h1 h2 h3 (hr▸k)
theorem oL{m:Option (List Ky)}{gs:Option Nat}{d:Nat}{ty:TypeId}{pos:String}{fI:Array Edge}{gd:Option (Nat×Bool)}{E:Env}{g:G}{rest:sH→Option (List Ky)→G→Prop}{nZ:Operand}{xs:List Operand}{tys:Array TypeId}{f:FuncId}(cap:List PV){de:List PV}{res:PV}{q:Prop}
 (hC:C E.P f de [] (gR res [])) (k:q) (h:g.ev nZ= .fn f cap∧JF (U1 g xs++cap) de∧wB 0 de=true∧res.lt 0=true:=by simp -implicitDefEqProofs only[go_sem,Int.reduceEq,Int.reduceLT,Int.reduceLE,Int.reduceToNat])
 (hr:Hd q→rest .on (n9 m (pZ (wD gs ⟨eu nZ++CQ xs,[]⟩) ⟨some (d,res),[]⟩)) (g.app ⟨some (d,res),[]⟩):=by intro b0;(repeat(first|with_reducible refine iK ?_|(with_reducible apply And.intro;exact sO)|with_reducible refine fv ?_|simp -implicitDefEqProofs only[go_sem,Int.reduceEq,Int.reduceLT,Int.reduceLE,Int.reduceToNat,Option.isSome_none,Option.getD_none,Option.isSome_some,Option.getD_some]));exact b0.k):tm E m gs ⟨some d,.call ⟨.value nZ,⟨xs⟩,tys⟩,ty,pos,fI,gd⟩ g rest:=
 eh cap hC h (hr ⟨k⟩)
theorem xN{m:Option (List Ky)}{gs:Option Nat}{d:Nat}{ty:TypeId}{pos:String}{fI:Array Edge}{gd:Option (Nat×Bool)}{E:Env}{g:G}{rest:sH→Option (List Ky)→G→Prop}{nZ:Operand}{xs:List Operand}{tys:Array TypeId}{f:FuncId}(cap:List PV)(M:List Nat){de:List PV}{fR st':List (Option En)}{res:PV}{q:Prop}
 (hC:C E.P f de fR (gR res st')) (k:q) (h:g.ev nZ= .fn f cap∧JF (U1 g xs++cap) (tx M de)∧wB (mj fR) de=true∧RT M=true∧Ae (mj fR) (Hg M)=true∧Ae (mj fR) (mj st')=true∧Ae (mj st') (Hg M)=true∧pU g M (mj fR) M fR∧kd g (mj fR) M:=by simp -implicitDefEqProofs only[go_sem,Int.reduceEq,Int.reduceLT,Int.reduceLE,Int.reduceToNat])
 (hr:Hd q→rest .on (n9 m (pZ (wD gs ⟨eu nZ++CQ xs,M⟩) ⟨some (d,res.oh M),mL M M st'⟩)) (g.app ⟨some (d,res.oh M),mL M M st'⟩):=by intro b0;(repeat(first|with_reducible refine iK ?_|(with_reducible apply And.intro;exact sO)|with_reducible refine fv ?_|simp -implicitDefEqProofs only[go_sem,Int.reduceEq,Int.reduceLT,Int.reduceLE,Int.reduceToNat,Option.isSome_none,Option.getD_none,Option.isSome_some,Option.getD_some]));exact b0.k):tm E m gs ⟨some d,.call ⟨.value nZ,⟨xs⟩,tys⟩,ty,pos,fI,gd⟩ g rest:=
 ff cap M hC h (hr ⟨k⟩)
theorem jf{E:Env}{n0:Nat}{g:G}{c:Code}{Q:Ex→G→Prop}(hm:E.P.follows .mixedOrders=true)(N:Nat)(T:Nat→G)(h0:pG E.P n0 g (T 0))(round:∀a,a≤N→Nv E n0 c .on (T a) (fun _=>tW E.P n0 (fun a=>a≤N) T (fun a=>N-a) a Q)):W E.P n0 (.loop c) g Q:=hJ hm (fun a=>a≤N) T (fun a=>N-a) 0 (Nat.zero_le _) h0 round
theorem lZ{E:Env}{n0:Nat}{g:G}{c:Code}{Q:Ex→G→Prop}(hm:E.P.follows .mixedOrders=true)(N:Nat)(I:Nat→Prop)(T:Nat→G)(hi:0≤N∧I 0)(h0:pG E.P n0 g (T 0))(round:∀a,(a≤N∧I a)→Nv E n0 c .on (T a) (fun _=>tW E.P n0 (fun a=>a≤N∧I a) T (fun a=>N-a) a Q)):W E.P n0 (.loop c) g Q:=hJ hm (fun a=>a≤N∧I a) T (fun a=>N-a) 0 hi h0 round
theorem Ag{E:Env}{n0:Nat}{g:G}{c:Code}{Q:Ex→G→Prop}(hm:E.P.follows .mixedOrders=true){B:Type}(N:Nat)(I:Nat→B→Prop)(T:Nat→B→G)(b0:B)(hi:0≤N∧I 0 b0)(h0:pG E.P n0 g (T 0 b0))(round:∀a b,(a≤N∧I a b)→Nv E n0 c .on (T a b) (fun _=>DP E.P n0 (fun a b=>a≤N∧I a b) T (fun a _=>N-a) a b Q)):W E.P n0 (.loop c) g Q:=pY hm (fun a b=>a≤N∧I a b) T (fun a _=>N-a) 0 b0 hi h0 round
theorem aeg{E:Env}{n0:Nat}{g:G}{c:Code}{Q:Ex→G→Prop}(hm:E.P.follows .mixedOrders=true){B D:Type}(N:Nat)(I:Nat→B→D→Prop)(T:Nat→B→D→G)(b0:B)(d0:D)(hi:0≤N∧I 0 b0 d0)(h0:pG E.P n0 g (T 0 b0 d0))(round:∀a b d,(a≤N∧I a b d)→Nv E n0 c .on (T a b d) (fun _=>No E.P n0 (fun a b d=>a≤N∧I a b d) T (fun a _ _=>N-a) a b d Q)):W E.P n0 (.loop c) g Q:=tG hm (fun a b d=>a≤N∧I a b d) T (fun a _ _=>N-a) 0 b0 d0 hi h0 round
def gE:List (Option Nat):=[some 0]
def qR:List (Option Nat):=[some 0,some 1]
def sa:List (Option Nat):=[some 0,some 1,some 2]
def Aj:List (Option Nat):=[some 0,some 1,some 2,some 3]
def im5:List (Option Nat):=[some 0,some 1,some 2,some 3,some 4]
def im6:List (Option Nat):=[some 0,some 1,some 2,some 3,some 4,some 5]
def im7:List (Option Nat):=[some 0,some 1,some 2,some 3,some 4,some 5,some 6]
def im8:List (Option Nat):=[some 0,some 1,some 2,some 3,some 4,some 5,some 6,some 7]
def im9:List (Option Nat):=[some 0,some 1,some 2,some 3,some 4,some 5,some 6,some 7,some 8]
attribute [go_sem] gE qR sa Aj im5 im6 im7 im8 im9

theorem uA{p q:Prop}(k:q)(h:p=q:=by simp -implicitDefEqProofs only[go_sem,h1];exact rfl):p:=h▸k
theorem uB{p q:Prop}(k:q)(h:p=q:=by simp -implicitDefEqProofs only[go_sem,h2];exact rfl):p:=h▸k
theorem uC{p q:Prop}(k:q)(h:p=q:=by simp -implicitDefEqProofs only[go_sem,h3];exact rfl):p:=h▸k
theorem uD{p q:Prop}(k:q)(h:p=q:=by simp -implicitDefEqProofs only[go_sem,h4];exact rfl):p:=h▸k
theorem uE{p q:Prop}(k:q)(h:p=q:=by simp -implicitDefEqProofs only[go_sem,h5];exact rfl):p:=h▸k
theorem uF{p q:Prop}(k:q)(h:p=q:=by simp -implicitDefEqProofs only[go_sem,h];exact rfl):p:=h▸k
theorem uG{p q:Prop}(k:q)(h:p=q:=by simp -implicitDefEqProofs only[go_sem,k];exact rfl):p:=h▸k
theorem uH{p q:Prop}(k:q)(h:p=q:=by simp -implicitDefEqProofs only[go_sem,k0];exact rfl):p:=h▸k
theorem uI{p q:Prop}(k:q)(h:p=q:=by simp -implicitDefEqProofs only[go_sem,g1];exact rfl):p:=h▸k
theorem uJ{p q:Prop}(k:q)(h:p=q:=by simp -implicitDefEqProofs only[go_sem,h1,h2];exact rfl):p:=h▸k
theorem uK{p q:Prop}(k:q)(h:p=q:=by simp -implicitDefEqProofs only[go_sem,Option.isSome_none,Option.getD_none];exact rfl):p:=h▸k
theorem uL{p q:Prop}(k:q)(h:p=q:=by simp -implicitDefEqProofs only[go_sem,Option.isSome_some,Option.getD_some];exact rfl):p:=h▸k
theorem yA{p q:Prop}(k:q)(h:p=q:=by simp -implicitDefEqProofs only[go_sem,Int.reduceEq,Int.reduceLT,Int.reduceLE,Int.reduceToNat,h1];exact rfl):p:=h▸k
theorem yB{p q:Prop}(k:q)(h:p=q:=by simp -implicitDefEqProofs only[go_sem,Int.reduceEq,Int.reduceLT,Int.reduceLE,Int.reduceToNat,h2];exact rfl):p:=h▸k
theorem yC{p q:Prop}(k:q)(h:p=q:=by simp -implicitDefEqProofs only[go_sem,Int.reduceEq,Int.reduceLT,Int.reduceLE,Int.reduceToNat,h3];exact rfl):p:=h▸k
theorem yD{p q:Prop}(k:q)(h:p=q:=by simp -implicitDefEqProofs only[go_sem,Int.reduceEq,Int.reduceLT,Int.reduceLE,Int.reduceToNat,h4];exact rfl):p:=h▸k
theorem yE{p q:Prop}(k:q)(h:p=q:=by simp -implicitDefEqProofs only[go_sem,Int.reduceEq,Int.reduceLT,Int.reduceLE,Int.reduceToNat,h5];exact rfl):p:=h▸k
theorem yF{p q:Prop}(k:q)(h:p=q:=by simp -implicitDefEqProofs only[go_sem,Int.reduceEq,Int.reduceLT,Int.reduceLE,Int.reduceToNat,h];exact rfl):p:=h▸k
theorem yG{p q:Prop}(k:q)(h:p=q:=by simp -implicitDefEqProofs only[go_sem,Int.reduceEq,Int.reduceLT,Int.reduceLE,Int.reduceToNat,k];exact rfl):p:=h▸k
theorem yH{p q:Prop}(k:q)(h:p=q:=by simp -implicitDefEqProofs only[go_sem,Int.reduceEq,Int.reduceLT,Int.reduceLE,Int.reduceToNat,k0];exact rfl):p:=h▸k
theorem yI{p q:Prop}(k:q)(h:p=q:=by simp -implicitDefEqProofs only[go_sem,Int.reduceEq,Int.reduceLT,Int.reduceLE,Int.reduceToNat,g1];exact rfl):p:=h▸k
theorem yJ{p q:Prop}(k:q)(h:p=q:=by simp -implicitDefEqProofs only[go_sem,Int.reduceEq,Int.reduceLT,Int.reduceLE,Int.reduceToNat,h1,h2];exact rfl):p:=h▸k
end Go.Eng
namespace Go.Mod
open Go.Eng
def c8(n lo hi:Int):Bool:=decide (lo≤n)&&decide (n≤hi)
theorem dM{n lo hi:Int}:c8 n lo hi=true↔lo≤n∧n≤hi:=by simp[c8]
def eM{α:Type}(p:α→Bool):List α→Int→Int
 | [],_=>-1
 | x::xs,i=>if p x then i else eM p xs (i+1)
def idxOf{α:Type}(p:α→Bool)(xs:List α):Int:=eM p xs 0
def eC(a:Rat):Bool:=c8 a.N (-1000000000) 1000000000&&(c8 a.D 1 1000000000&&decide ((dK a.N a.D:Int)=1))
def ue:Rat:=⟨0,0⟩
def nw(n d:Int):Rat×Bool:=
 if d=0 then(ue,false) else
 let n1:=if d<0 then -n else n
 let d1:=if d<0 then -d else d
 let a:Rat:=⟨n1.tdiv (dK n1 d1),d1.tdiv (dK n1 d1)⟩
 if eC a then(a,true) else(ue,false)
def BD(n d:Int):Rat×Bool:=if c8 n (-1000000000) 1000000000&&c8 d (-1000000000) 1000000000 then nw n d else(ue,false)
def ml(a b:Rat):Rat×Bool:=if eC a&&eC b then nw (a.N*b.D+b.N*a.D) (a.D*b.D) else(ue,false)
def nz(a b:Rat):Rat×Bool:=if eC a&&eC b then nw (a.N*b.N) (a.D*b.D) else(ue,false)
def gW(a b:Rat):Bool:=eC a&&(eC b&&decide (a.N*b.D<b.N*a.D))
def Bu(a b:Rat):Rat×Bool:=if(ml a b).2 then nz (ml a b).1 ⟨1,2⟩ else(ue,false)
def zq(n:Int):Bool:=c8 n (-1000000) 1000000
def jz(l:mM):Bool:=l.bw.all zq&&(decide (l.bw.length=4)&&zq l.bJ)
def uZ:mM:=⟨[],0,false⟩
def Ee(l:mM):mM:=if jz l then⟨l.bw.map fun c=>-c,-l.bJ,!l.cz⟩ else uZ
def jW(m n:Int):List Int→List Int→List Int
 | a::as,b::bs=>(m*a+n*b)::jW m n as bs
 | _,_=>[]
def rA(a:mM)(m:Int)(b:mM)(n:Int):mM:=⟨jW m n a.bw b.bw,m*a.bJ+n*b.bJ,(decide (0<m)&&a.cz)||(decide (0<n)&&b.cz)⟩
def va(a:mM)(m:Int)(b:mM)(n:Int):mM×Bool:=if jz (rA a m b n) then(rA a m b n,true) else(uZ,false)
def jP(a:mM)(m:Int)(b:mM)(n:Int):mM×Bool:=if jz a&&jz b&&c8 m 0 1000000&&c8 n 0 1000000 then va a m b n else(uZ,false)
def flat(l:mM):Bool:=l.bw.all fun c=>decide (c=0)
def tN(l:mM):Bool:=jz l&&(flat l&&(decide (l.bJ<0)||(decide (l.bJ=0)&&l.cz)))
def whole(n:Int):Rat:=⟨n,1⟩
def plus(sum:Rat)(c:Int)(val:Rat):Rat×Bool:=if(nz (whole c) val).2 then ml sum (nz (whole c) val).1 else(ue,false)
def oa(au:List mM):Bool:=decide (au.length≤20)&&au.all jz
def wz:List mM→List Int→mM→mM×Bool
 | l::ls,t::ts,out=>if(jP out 1 l t).2 then wz ls ts (jP out 1 l t).1 else(uZ,false)
 | _,_,out=>(out,true)
def tX(au:List mM)(bt:List Int):mM×Bool:=if oa au&&decide (bt.length=au.length) then wz au bt ⟨[0,0,0,0],0,false⟩ else(uZ,false)
def Dd(au:List mM)(bt:List Int):Bool:=(tX au bt).2&&tN (tX au bt).1
def kF(c:UInt8):Bool:=decide ((97:Int)≤(c.toNat:Int))&&decide ((c.toNat:Int)≤122)
def ig(s:p8):Bool:=c8 s.length 1 2&&s.all kF
def isSort(n:Int):Bool:=decide (n=0)||decide (n=1)
def qd(x:Sym):Bool:=ig x.name&&(decide (x.args.length≤2)&&(isSort x.sort&&x.args.all isSort))
def kn(a b:p8):Bool:=Op.bytesLess a b
def rH:Option p8→List Sym→Bool
 | _,[]=>true
 | p,x::xs=>qd x&&((match p with|none=>true|some q=>kn q x.name)&&rH (some x.name) xs)
def gy(s:eV):Bool:=rH none s.cq&&decide (s.cq.length≤7)
def symbol(s:eV)(name:p8):Option Sym:=s.cq.find? fun x=>decide (x.name=name)
def zz:Sym:=⟨[],[],0⟩
mutual
def nr:az→Nat→Nat
 | .mk n ks,cE=>if ig n&&decide (ks.length≤2)&&decide (cE≤4) then 1+ie ks (cE+1) else 13
def ie:List az→Nat→Nat
 | [],_=>0
 | t::ts,cE=>nr t cE+ie ts cE
end
def bR(t:az):Bool:=decide (nr t 1≤12)
mutual
def bX:az→Nat→Bool
 | _,0=>false
 | .mk n ks,d+1=>ig n&&(decide (ks.length≤2)&&dj ks d)
def dj:List az→Nat→Bool
 | [],_=>true
 | t::ts,d=>bX t d&&dj ts d
end
mutual
def aP:az→Nat→Nat
 | _,0=>1
 | .mk _ ks,d+1=>1+oA ks d
def oA:List az→Nat→Nat
 | [],_=>0
 | t::ts,d=>aP t d+oA ts d
end
mutual
def ir(s:eV):az→Option Int
 | .mk n ks=>match symbol s n with
   | none=>none
   | some x=>if decide (x.args.length=ks.length)&&jj s ks x.args then some x.sort else none
def jj(s:eV):List az→List Int→Bool
 | k::ks,a::as=>decide (ir s k=some a)&&jj s ks as
 | _,_=>true
end
def gJ(s:eV)(t:az):Option Int:=if gy s&&bR t then ir s t else none
def mi:List p8→p8
 | []=>[]
 | [t]=>t
 | t::ts=>t++(44::mi ts)
mutual
def a7:az→p8
 | .mk n []=>n
 | .mk n (k::ks)=>n++(40::(mi (a7 k::iE ks)++[41]))
def iE:List az→List p8
 | []=>[]
 | t::ts=>a7 t::iE ts
end
def dN(au:List az)(t:az):Int:=idxOf (fun u=>decide (t=u)) au
mutual
def eF(au:List az):az→List az
 | .mk n ks=>let l:=bp au ks;if dN l (.mk n ks)<0 then l++[.mk n ks] else l
def bp(au:List az):List az→List az
 | []=>au
 | t::ts=>bp (eF au t) ts
end
def s8:List az→List az→List az
 | [],out=>out
 | t::ts,out=>if bR t then s8 ts (eF out t) else []
def ov(au:List az):List az:=s8 au []
def MI(dx:List lH):List az:=dx.flatMap fun e=>[e.A,e.B]
def kG(s:eV)(e:lH):Bool:=(gJ s e.A).isSome&&decide (gJ s e.A=gJ s e.B)
def BS(s:eV)(dx:List lH):Bool:=gy s&&decide (dx.length≤12)&&dx.all (kG s)&&decide ((ov (MI dx)).length≤24)
def aX:az:=.mk [] []
def isNone(t:az):Bool:=decide (t.name=[])&&decide (t.ar=[])
def Km:lH:=⟨aX,aX⟩
def E1:o8:=.mk 0 0 aX []
def qM(dx:List lH)(pF n:Int)(t:az)(ar:List lH):lH×Bool:=
 if(pF≠2∧n≠0)∨(pF≠1∧pF≠5∧isNone t=false) then(Km,false) else
 if pF=1 then(⟨t,t⟩,decide (ar.length=0)&&bR t) else
 if pF=2 then(if 0<ar.length∨c8 n 0 (dx.length-1)=false then(Km,false) else(dx.getD n.toNat Km,true)) else
 if pF=3 then(if ar.length=1 then(⟨(ar.getD 0 Km).B,(ar.getD 0 Km).A⟩,true) else(Km,false)) else
 if pF=4 then(if ar.length=2∧(ar.getD 0 Km).B=(ar.getD 1 Km).A then(⟨(ar.getD 0 Km).A,(ar.getD 1 Km).B⟩,true) else(Km,false)) else
 if pF=5 then(if ar.length=0∨ig t.name=false∨0<t.ar.length then(Km,false) else
  (⟨.mk t.name (ar.map (·.A)),.mk t.name (ar.map (·.B))⟩,bR (.mk t.name (ar.map (·.A)))&&bR (.mk t.name (ar.map (·.B))))) else
 (Km,false)
mutual
def lQ(f:Int→Int→az→List lH→lH×Bool):o8→Nat→lH×Bool
 | _,0=>(Km,false)
 | .mk r n t ks,d+1=>match jF f ks d with
   | none=>(Km,false)
   | some ar=>f r n t ar
def jF(f:Int→Int→az→List lH→lH×Bool):List o8→Nat→Option (List lH)
 | [],_=>some []
 | w::ws,d=>if(lQ f w d).2 then(jF f ws d).map fun es=>(lQ f w d).1::es else none
end
def vQ(s:eV)(dx:List lH)(w:o8):Option lH:=
 if BS s dx&&((lQ (qM dx) w 400).2&&BS s [(lQ (qM dx) w 400).1]) then some (lQ (qM dx) w 400).1 else none
def oP:Option az→List az→List Int→Bool
 | p,t::ts,n::ns=>bR t&&(c8 n (-50) 50&&(decide (n≠0)&&((match p with|none=>true|some q=>kn (a7 q) (a7 t))&&oP (some t) ts ns)))
 | _,_,_=>true
def dh(a:bz):Bool:=
 if a.kind=1 then bR a.A&&(bR a.B&&(decide (a.an.length=0)&&(decide (a.bt.length=0)&&(decide (a.bJ=0)&& !a.cz)))) else
 if a.kind=2 then isNone a.A&&(isNone a.B&&(c8 a.an.length 1 4&&(decide (a.bt.length=a.an.length)&&(c8 a.bJ (-1000) 1000&&oP none a.an a.bt)))) else false
def eQ(s:eV)(t:az):Bool:=decide (gJ s t=some 1)
def hU(s:eV)(a:bz):Bool:=gy s&&(dh a&&(if a.kind=1 then kG s ⟨a.A,a.B⟩ else a.an.all (eQ s)))
def cZ(a:bz):List az:=if a.kind=1 then [a.A,a.B] else a.an
def aQ(af:List cC):List az:=ov (af.flatMap fun l=>cZ l.aY)
def aO(s:eV)(af:List cC):List az:=(aQ af).filter (eQ s)
def gO(s:eV)(af:List cC):Bool:=gy s&&decide (af.length≤6)&&af.all (fun l=>hU s l.aY)&&decide ((aQ af).length≤24)&&decide ((aO s af).length≤4)
def cG(af:List cC):List lH:=af.filterMap fun l=>if l.aY.kind=1∧l.no=false then some ⟨l.aY.A,l.aY.B⟩ else none
def wY:List Int→Int→Int→List Int
 | [],_,_=>[]
 | c::cs,i,v=>if i=0 then(c+v)::cs else c::wY cs (i-1) v
def o0(an:List az):List az→List Int→List Int→List Int
 | t::ts,n::ns,cs=>o0 an ts ns (wY cs (dN an t) n)
 | _,_,cs=>cs
def vI(an au:List az)(bt:List Int)(bJ:Int)(cz:Bool):mM:=⟨o0 an au bt [0,0,0,0],bJ,cz⟩
def nd(an:List az)(l:cC):List mM:=
 if l.aY.kind=2 then [if l.no then Ee (vI an l.aY.an l.aY.bt l.aY.bJ l.aY.cz) else vI an l.aY.an l.aY.bt l.aY.bJ l.aY.cz]
 else if l.no=false∧0≤dN an l.aY.A then [vI an [l.aY.A,l.aY.B] [1,-1] 0 false,vI an [l.aY.A,l.aY.B] [-1,1] 0 false] else []
def iL(an:List az)(af:List cC):List mM:=af.flatMap (nd an)
def HG(a b:az):bz:=⟨1,a,b,[],[],0,false⟩
def kQ(a b:az):cC:=⟨HG a b,false⟩
def gC(a b:az):cC:=if kn (a7 b) (a7 a) then⟨⟨2,aX,aX,[b,a],[-1,1],0,true⟩,false⟩ else⟨⟨2,aX,aX,[a,b],[1,-1],0,true⟩,false⟩
def lr(a b:az):List cC:=[kQ a b,gC a b,gC b a]
def differ(an:List az)(a b:az):Bool:=decide (0≤dN an a)&&(decide (0≤dN an b)&&decide (dN an a≠dN an b))
def bare(c:fL)(n xU bt aI:Bool)(ar:Nat):Bool:=
 (n||decide (c.n=0))&&((xU||decide (c.xU=E1))&&((bt||decide (c.bt.length=0))&&((aI||(isNone c.A&&isNone c.B))&&decide (c.ar.length=ar))))
theorem L6:aX.name=[]:=rfl
theorem MM:aX.ar=[]:=rfl
theorem O4:zz.name=[]:=rfl
theorem Pq:zz.args=[]:=rfl
theorem OZ:zz.sort=0:=rfl
theorem Lj:uZ.bw=[]:=rfl
theorem KC:uZ.bJ=0:=rfl
theorem IB:uZ.cz=false:=rfl
theorem ady:ue.N=0:=rfl
theorem adG:ue.D=0:=rfl
theorem O6:E1.pF=0:=rfl
theorem abb:E1.n=0:=rfl
theorem aa4:E1.t=aX:=rfl
theorem OW:E1.ar=[]:=rfl
attribute [simp] L6 MM O4 Pq OZ Lj KC IB ady adG O6 abb aa4 OW om iG Eg tH
attribute [go_sem] L6 MM O4 Pq OZ Lj KC IB ady adG O6 abb aa4 OW
theorem EA(n:p8)(ks:List az):(az.mk n ks).name=n:=rfl
theorem F3(n:p8)(ks:List az):(az.mk n ks).ar=ks:=rfl
attribute [simp] EA F3
attribute [go_sem] EA F3
def rk(a b:Rat):Int:=if gW a b then -1 else if gW b a then 1 else 0
def jC:List Rat→List Rat→Int
 | [],[]=>0
 | [],_::_=>-1
 | _::_,[]=>1
 | a::as,b::bs=>if rk a b=0 then jC as bs else rk a b
def qw(a b:p8):Int:=if kn a b then -1 else if kn b a then 1 else 0
def rJ(a b:Int):Int:=if a<b then -1 else if b<a then 1 else 0
def gP(a b:Row):Int:=if qw a.name b.name≠0 then qw a.name b.name else if rJ a.args.length b.args.length≠0 then rJ a.args.length b.args.length else jC a.args b.args
def tv(r:Row):Bool:=ig r.name&&(decide (r.args.length≤2)&&(eC r.val&&r.args.all eC))
def yz:Option Row→List Row→Bool
 | _,[]=>true
 | p,r::rs=>tv r&&((match p with|none=>true|some q=>decide (gP q r<0))&&yz (some r) rs)
def jk(m:dZ):Bool:=decide (m.aK.length≤40)&&yz none m.aK
def F4(a:Rat)(sort:Int):Bool:=decide (sort=1)||decide (a.D=1)
def rN:List Rat→List Int→Bool
 | a::as,n::ns=>F4 a n&&rN as ns
 | _,_=>true
def tD(s:eV)(r:Row):Bool:=
 match symbol s r.name with
 | none=>false
 | some x=>decide (x.args.length=r.args.length)&&(F4 r.val x.sort&&rN r.args x.args)
def ly(s:eV)(m:dZ):Bool:=gy s&&(jk m&&m.aK.all (tD s))
def lookup(aK:List Row)(name:p8)(args:List Rat):Rat:=
 match aK.find? (fun r=>decide (r.name=name∧r.args=args)) with
 | some r=>r.val
 | none=>⟨0,1⟩
mutual
def value(m:dZ):az→Rat
 | .mk n ks=>lookup m.aK n (values m ks)
def values(m:dZ):List az→List Rat
 | []=>[]
 | t::ts=>value m t::values m ts
end
def wu(m:dZ):List az→List Int→Rat→Option Rat
 | t::ts,n::ns,sum=>if(plus sum n (value m t)).2 then wu m ts ns (plus sum n (value m t)).1 else none
 | _,_,sum=>some sum
def below(a:Rat)(bJ:Int)(cz:Bool):Bool:=if cz then gW a (whole bJ) else !gW (whole bJ) a
def tM(m:dZ)(a:bz):Option Bool:=if a.kind=1 then some (decide (value m a.A=value m a.B)) else(wu m a.an a.bt (whole 0)).map fun x=>below x a.bJ a.cz
def gj(s:eV)(m:dZ)(l:cC):Option Bool:=if ly s m&&hU s l.aY then(tM m l.aY).map fun b=>b != l.no else none
mutual
def xD(s:eV)(an:List az):fL→List cC→Nat→Bool
 | .mk k n w ts a b ks,af,cE=>
   if 14<cE then false else
   if k=1 then bare (.mk k n w ts a b ks) true true false false 0&&(c8 n 0 (af.length-1)&&(match vQ s (cG af) w,af[n.toNat]? with
    | some e,some l=>l.no&&(decide (l.aY.kind=1)&&(decide (e.A=l.aY.A)&&decide (e.B=l.aY.B)))
    | _,_=>false)) else
   if k=2 then bare (.mk k n w ts a b ks) false false true false 0&&Dd (iL an af) ts else
   if k=3 then bare (.mk k n w ts a b ks) false true false false 1&&(match vQ s (cG af) w with
    | some e=>differ an e.A e.B&&qh s an ks [af++[kQ e.A e.B]] (cE+1)
    | none=>false) else
   if k=4 then bare (.mk k n w ts a b ks) false false false true 3&&(differ an a b&&qh s an ks ((lr a b).map fun l=>af++[l]) (cE+1)) else
   false
def qh(s:eV)(an:List az):List fL→List (List cC)→Nat→Bool
 | c::cs,l::ls,cE=>xD s an c l cE&&qh s an cs ls cE
 | _,_,_=>true
end
def LV(s:eV)(af:List cC)(c:fL):Bool:=gO s af&&xD s (aO s af) c af 1
def fG(kind:Int):Int:=if kind=1 then 0 else if kind=2 then 1 else if kind=3∨kind=4∨kind=5∨kind=6 then 2 else -1
def tz:bz:=⟨0,aX,aX,[],[],0,false⟩
def Hc:cC:=⟨tz,false⟩
def Dq:aU:=.mk 0 Hc []
def uY(l:cC):Bool:=!l.no&&decide (l.aY=tz)
def jB(k:Int)(l:cC)(ks:List aU):Bool:=decide (fG k=ks.length)&&(if k=1 then dh l.aY else uY l)
mutual
def jg:aU→Nat→Nat
 | .mk k l ks,cE=>if decide (cE≤5)&&jB k l ks then 1+iD ks (cE+1) else 11
def iD:List aU→Nat→Nat
 | [],_=>0
 | t::ts,cE=>jg t cE+iD ts cE
end
mutual
def bH:aU→Nat→Bool
 | _,0=>false
 | .mk k l ks,d+1=>jB k l ks&&cQ ks d
def cQ:List aU→Nat→Bool
 | [],_=>true
 | t::ts,d=>bH t d&&cQ ts d
end
mutual
def dY:aU→Nat→Nat
 | _,0=>1
 | .mk _ _ ks,d+1=>1+dp ks d
def dp:List aU→Nat→Nat
 | [],_=>0
 | t::ts,d=>dY t d+dp ts d
end
def dk(au:List bz)(a:bz):Int:=idxOf (fun b=>decide (a=b)) au
mutual
def ct(au:List bz):aU→List bz
 | .mk k l ks=>if k=1 then(if dk au l.aY<0 then au++[l.aY] else au) else bF au ks
def bF(au:List bz):List aU→List bz
 | []=>au
 | t::ts=>bF (ct au t) ts
end
def jq(f:aU):Bool:=decide (jg f 1≤10)&&decide ((ct [] f).length≤6)
def plain(au:List bz):List cC:=au.map fun a=>⟨a,false⟩
def zL(s:eV)(f:aU):Bool:=jq f&&gO s (plain (ct [] f))
mutual
def holds(p:bz→Bool):aU→Bool
 | .mk k l ks=>yx k l (sg p ks) p
def sg(p:bz→Bool):List aU→List Bool
 | []=>[]
 | t::ts=>holds p t::sg p ts
def yx(k:Int)(l:cC)(is:List Bool)(p:bz→Bool):Bool:=
 if k=1 then p l.aY != l.no else
 if k=2 then !(is.getD 0 false) else
 if k=3 then is.getD 0 false&&is.getD 1 false else
 if k=4 then is.getD 0 false||is.getD 1 false else
 if k=5 then !(is.getD 0 false)||is.getD 1 false else
 is.getD 0 false == is.getD 1 false
end
def R4(f:aU)(aV:List Bool):Option Bool:=
 if jq f&&decide ((ct [] f).length=aV.length) then some (holds (fun a=>aV.getD (dk (ct [] f) a).toNat false) f) else none
def xK(s:eV)(m:dZ):List bz→Option (List Bool)
 | []=>some []
 | a::as=>match gj s m ⟨a,false⟩ with
   | none=>none
   | some b=>match xK s m as with
     | none=>none
     | some bs=>some (b::bs)
def pa(s:eV)(m:dZ)(f:aU):Option Bool:=
 if zL s f then(match xK s m (ct [] f) with|none=>none|some aV=>R4 f aV) else none
def EP:List aU→List bz→List bz
 | [],out=>out
 | f::fs,out=>EP fs (ct out f)
def cR(au:List aU):Option (List bz):=
 if decide (au.length≤5)&&(au.all jq&&decide ((EP au []).length≤6)) then some (EP au []) else none
def gl(s:eV)(au:List aU):Bool:=match cR au with|none=>false|some atoms=>gy s&&gO s (plain atoms)
def iq(l aP:Int):Bool:=decide (l≠0)&&c8 l (-aP) aP
def xp:List Int→List Int→Int→Bool
 | _,[],_=>true
 | before,m::ms,aP=>iq m aP&&(!(before.contains m)&&(!(before.contains (-m))&&xp (before++[m]) ms aP))
def iz(marks:List Int)(aP:Nat):Bool:=xp [] marks aP
def fl(marks:List Int)(atoms:List bz):List cC:=marks.map fun m=>⟨atoms.getD (m.natAbs-1) tz,decide (m<0)⟩
def af7(s:eV)(au:List aU)(l:mh):Bool:=
 gl s au&&(decide (0<l.marks.length)&&(iz l.marks ((cR au).getD []).length&&LV s (fl l.marks ((cR au).getD [])) l.case))
def lS(s:eV)(m:dZ)(au:List aU):Bool:=gl s au&&(ly s m&&au.all fun f=>decide (pa s m f=some true))
end Go.Mod
namespace Go.Proofs.YtnhdminpjihbnaaGreat
open Go.Eng Go.Mod
set_option maxRecDepth 100000
theorem L9{n:Int}:(if n < -n then -n else n)=(n.natAbs:Int):=by split<;>omega
end Go.Proofs.YtnhdminpjihbnaaGreat
namespace Go.Mod
open Go.Eng
mutual
theorem xk:∀(t:az)(d:Nat),d≤4→(bX t d=true→nr t (5-d)=aP t d)∧(bX t d=false→13≤nr t (5-d))
 | .mk n ks,0,_=>by simp[bX,nr]
 | .mk n ks,d+1,hd=>by obtain⟨h1,h2⟩:=FQ ks d oM;have e:5-(d+1)+1=5-d:=oM;have e2:5-(d+1)≤4:=oM;simp only[bX,nr,aP,e,e2,decide_true,Bool.and_true];cases hn:ig n;simp;rcases aa (ks.length≤2) with hk|hk;simp only[hk,decide_true,Bool.and_self,aN,if_true];exact⟨fun h=>by rw[h1 h],fun h=>by have:=h2 h;omega⟩;simp[hk]
theorem FQ:∀(ts:List az)(d:Nat),d≤4→(dj ts d=true→ie ts (5-d)=oA ts d)∧(dj ts d=false→13≤ie ts (5-d))
 | [],_,_=>by simp[dj,ie,oA]
 | t::ts,d,hd=>by obtain⟨h1,h2⟩:=xk t d hd;obtain⟨h3,h4⟩:=FQ ts d hd;simp only[dj,ie,oA];cases ht:bX t d;have:=h2 ht;exact⟨fun h=>by simp at h,fun _=>by omega⟩;cases hts:dj ts d;have:=h4 hts;exact⟨fun h=>by simp at h,fun _=>by omega⟩;exact⟨fun _=>by rw[h1 ht,h3 hts],fun h=>by simp at h⟩
end
def right(t:az):Bool:=bX t 4&&decide (aP t 4≤12)
theorem FL(t:az):right t=bR t:=by have h:=xk t 4 oM;simp only[show 5-4=1 from rfl] at h;obtain⟨h1,h2⟩:=h;unfold right bR;cases h:bX t 4;have:=h2 h;simp only[Bool.false_and];symm;simp only[decide_eq_false_iff_not];omega;rw[←h1 h];simp
theorem jt{t:az}(h:bR t=true):bX t 4=true:=by rw[←FL] at h;simp only[right,ab] at h;exact h.1
mutual
theorem HZ:∀(t:az)(d:Nat),bX t d=true→bX t (d+1)=true
 | .mk n ks,0,h=>by simp[bX] at h
 | .mk n ks,d+1,h=>by simp only[bX,ab] at h⊢;exact⟨h.1,h.2.1,KJ ks d h.2.2⟩
theorem KJ:∀(ts:List az)(d:Nat),dj ts d=true→dj ts (d+1)=true
 | [],_,_=>by simp[dj]
 | t::ts,d,h=>by simp only[dj,ab] at h⊢;exact⟨HZ t d h.1,KJ ts d h.2⟩
end
theorem qG:∀{ts:List az}{d:Nat},dj ts d=true→∀t∈ts,bX t d=true
 | [],_,_,t,ht=>by simp at ht
 | a::ts,d,h,t,ht=>by simp only[dj,ab] at h;rcases ax.1 ht with rfl|ht;exact h.1;exact qG h.2 t ht
theorem qI{t:az}{d:Nat}(h:bX t (d+1)=true):ig t.name=true∧t.ar.length≤2∧dj t.ar d=true:=by
 cases t with
 | mk n ks=>simp only[bX,ab,decide_eq_true_eq] at h;exact⟨h.1,h.2.1,h.2.2⟩
mutual
theorem QD:∀(t:az)(d:Nat),bX t d=true→aP t d+1≤2 ^ d
 | .mk n ks,0,h=>by simp[bX] at h
 | .mk n ks,d+1,h=>by simp only[bX,ab,decide_eq_true_eq] at h;have:=FG ks d h.2.2;simp only[aP];have h3:ks.length*(2 ^ d-1)≤2*(2 ^ d-1):=bD _ h.2.1;have h4:1≤2 ^ d:=dq;rw[jL];omega
theorem FG:∀(ts:List az)(d:Nat),dj ts d=true→oA ts d≤ts.length*(2 ^ d-1)
 | [],_,_=>by simp[oA]
 | t::ts,d,h=>by simp only[dj,ab] at h;have h1:=QD t d h.1;have h2:=FG ts d h.2;simp only[oA,aG,da,Nat.one_mul];omega
end
mutual
theorem Ir:∀(t:az)(cE:Nat),1≤cE→cE≤5→nr t cE+14≤27*2 ^ (5-cE)
 | .mk n ks,cE,h1,h5=>by simp only[nr];split;rename_i h;simp only[ab,decide_eq_true_eq] at h;have:=yQ ks (cE+1) oM oM;have h3:ks.length*(27*2 ^ (5-(cE+1))-14)≤2*(27*2 ^ (5-(cE+1))-14):=bD _ h.1.2;have e:5-cE=(5-(cE+1))+1:=oM;have h4:1≤2 ^ (5-(cE+1)):=dq;rw[e,jL];omega;have h4:1≤2 ^ (5-cE):=dq;omega
theorem yQ:∀(ts:List az)(cE:Nat),1≤cE→cE≤5→ie ts cE≤ts.length*(27*2 ^ (5-cE)-14)
 | [],_,_,_=>by simp[ie]
 | t::ts,cE,h1,h5=>by have h2:=Ir t cE h1 h5;have h3:=yQ ts cE h1 h5;simp only[ie,aG,da,Nat.one_mul];omega
end
theorem iR:∀(ts l:List az),bp l ts=ts.foldl eF l
 | [],_=>rfl
 | t::ts,l=>by simp only[bp,iW,iR ts]
theorem tP{ts:List az}{i:Nat}(h:i<ts.length)(l:List az):bp l (ts.take (i+1))=eF (bp l (ts.take i)) ts[i]:=by
 have e:ts.take (i+1)=ts.take i++[ts[i]]:=by rw[bn,ae h];rfl
 rw[e,iR,iR,kW];rfl
theorem uz(l:List az)(t:az):eF l t=if dN (bp l t.ar) t<0 then bp l t.ar++[t] else bp l t.ar:=by cases t;rfl
mutual
theorem C9:∀(t:az)(d:Nat)(l:List az),bX t d=true→(eF l t).length≤l.length+aP t d
 | .mk n ks,0,l,h=>by simp[bX] at h
 | .mk n ks,d+1,l,h=>by simp only[bX,ab] at h;have:=wq ks d l h.2.2;simp only[eF,aP];split;simp only[ay,aG,dW];omega;omega
theorem wq:∀(ts:List az)(d:Nat)(l:List az),dj ts d=true→(bp l ts).length≤l.length+oA ts d
 | [],_,_,_=>by simp[bp]
 | t::ts,d,l,h=>by simp only[dj,ab] at h;have h1:=C9 t d l h.1;have h2:=wq ts d (eF l t) h.2;simp only[bp,oA];omega
end
theorem uS:∀{ts:List az}{d:Nat},dj ts d=true→∀i,dj (ts.take i) d=true
 | [],_,_,i=>by simp[dj]
 | t::ts,d,h,0=>by simp[dj]
 | t::ts,d,h,i+1=>by simp only[dj,ab,dE] at h⊢;exact⟨h.1,uS h.2 i⟩
theorem E4{t:az}{d:Nat}{l:List az}(h:bX t d=true)(hd:d≤4):(eF l t).length≤l.length+15:=by have h1:=C9 t d l h;have h2:=QD t d h;have h3:2 ^ d≤2 ^ 4:=cI oM hd;omega
theorem Dg{t:az}{d:Nat}{l:List az}(h:bX t (d+1)=true)(hd:d≤3)(i:Nat):(bp l (t.ar.take i)).length≤l.length+14:=by
 obtain⟨_,h1,h2⟩:=qI h;have h3:=wq (t.ar.take i) d l (uS h2 i);have h4:=FG (t.ar.take i) d (uS h2 i);have h5:2 ^ d≤2 ^ 3:=cI oM hd;have h6:(t.ar.take i).length≤2:=by simp;omega
 have h7:(t.ar.take i).length*(2 ^ d-1)≤2*(2 ^ d-1):=bD _ h6;omega
theorem K4{n:Int}:isSort n=true↔n=0∨n=1:=by simp[isSort]
theorem MS:∀{l:List Sym}{p:Option p8},rH p l=true→∀x∈l,qd x=true
 | [],_,_,x,hx=>by simp at hx
 | a::l,p,h,x,hx=>by simp only[rH,ab] at h;rcases ax.1 hx with rfl|hx;exact h.1;exact MS h.2.2 x hx
theorem Po{s:eV}{n:p8}{x:Sym}(hs:gy s=true)(h:symbol s n=some x):qd x=true:=by simp only[gy,ab] at hs;exact MS hs.1 x (im h)
theorem KA{x:Sym}(h:qd x=true):isSort x.sort=true∧∀n∈x.args,isSort n=true:=by simp only[qd,ab,bh] at h;exact⟨h.2.2.1,h.2.2.2⟩
theorem TN{s:eV}{t:az}{n:Int}(hs:gy s=true)(h:ir s t=some n):isSort n=true:=by
 cases t with
 | mk nm ks=>
  simp only[ir] at h;cases hx:symbol s nm with
  | none=>rw[hx] at h;cases h
  | some x=>rw[hx] at h;simp only at h;split at h;cases h;exact(KA (Po hs hx)).1;cases h
theorem CC:kF 40=false:=by decide
theorem Cv:kF 41=false:=by decide
theorem Cz:kF 44=false:=by decide
def Y3(r:p8):Prop:=∀c x,r=c::x→kF c=false
def TA(r:p8):Prop:=∀c x,r=c::x→kF c=false∧c≠40
theorem zJ{c:UInt8}{x:p8}(h:kF c=false):Y3 (c::x):=by intro c' x' e;cases e;exact h
theorem o5{c:UInt8}{x:p8}(h:kF c=false)(h2:c≠40):TA (c::x):=by intro c' x' e;cases e;exact⟨h,h2⟩
theorem TA.n{r:p8}(h:TA r):Y3 r:=fun c x e=>(h c x e).1
theorem tj:∀{a b r r':p8},a.all kF=true→b.all kF=true→Y3 r→Y3 r'→a++r=b++r'→a=b∧r=r'
 | [],[],r,r',_,_,_,_,h=>⟨rfl,by simpa using h⟩
 | [],c::b,r,r',_,hb,hr,_,h=>by simp only[cY,ab] at hb;have:=hr c (b++r') (by simpa using h);rw[this] at hb;simp at hb
 | c::a,[],r,r',ha,_,_,hr',h=>by simp only[cY,ab] at ha;have:=hr' c (a++r) (by simpa using h.symm);rw[this] at ha;simp at ha
 | c::a,d::b,r,r',ha,hb,hr,hr',h=>by simp only[cY,ab] at ha hb;simp only[bu,List.cons.injEq] at h;obtain⟨h1,h2⟩:=tj ha.2 hb.2 hr hr' h.2;exact⟨by rw[h.1,h1],h2⟩
theorem Ns{n:p8}(h:ig n=true):n.all kF=true:=by simp only[ig,ab] at h;exact h.2
mutual
theorem Ay:∀(t u:az)(d:Nat)(r r':p8),bX t d=true→bX u d=true→TA r→TA r'→a7 t++r=a7 u++r'→t=u∧r=r'
 | t,u,0,r,r',ht,_,_,_,_=>by simp[bX] at ht
 | .mk n ks,.mk m js,d+1,r,r',ht,hu,hr,hr',h=>by
   simp only[bX,ab] at ht hu
   have hn:=Ns ht.1
   have hm:=Ns hu.1
   match ks,js,ht,hu,h with
   | [],[],ht,hu,h=>simp only[a7] at h;obtain⟨h1,h2⟩:=tj hn hm hr.n hr'.n h;exact⟨by rw[h1],h2⟩
   | [],k::js,ht,hu,h=>simp only[a7,bm,bu] at h;obtain⟨h1,h2⟩:=tj hn hm hr.n (zJ CC) h;exact absurd rfl ((hr _ _ h2).2)
   | k::ks,[],ht,hu,h=>simp only[a7,bm,bu] at h;obtain⟨h1,h2⟩:=tj hn hm (zJ CC) hr'.n h;exact absurd rfl ((hr' _ _ h2.symm).2)
   | k::ks,j::js,ht,hu,h=>simp only[a7,bm,bu] at h;obtain⟨h1,h2⟩:=tj hn hm (zJ CC) (zJ CC) h;simp only[List.cons.injEq,true_and] at h2;obtain⟨h3,h4⟩:=PN (k::ks) (j::js) d r r' ht.2.2 hu.2.2 (by simp) (by simp) (by simpa[iE] using h2);exact⟨by rw[h1,h3],h4⟩
theorem PN:∀(ts us:List az)(d:Nat)(r r':p8),dj ts d=true→dj us d=true→ts≠[]→us≠[]→mi (iE ts)++41::r=mi (iE us)++41::r'→ts=us∧r=r'
 | [],_,_,_,_,_,_,h,_,_=>absurd rfl h
 | _::_,[],_,_,_,_,_,_,h,_=>absurd rfl h
 | [t],[u],d,r,r',ht,hu,_,_,h=>by simp only[dj,ab] at ht hu;simp only[iE,mi] at h;obtain⟨h1,h2⟩:=Ay t u d _ _ ht.1 hu.1 (o5 Cv (by decide)) (o5 Cv (by decide)) h;simp only[List.cons.injEq,true_and] at h2;exact⟨by rw[h1],h2⟩
 | [t],u::v::us,d,r,r',ht,hu,_,_,h=>by simp only[dj,ab] at ht hu;simp only[iE,mi,bm,bu] at h;obtain⟨h1,h2⟩:=Ay t u d _ _ ht.1 hu.1 (o5 Cv (by decide)) (o5 Cz (by decide)) h;simp at h2
 | t::w::ts,[u],d,r,r',ht,hu,_,_,h=>by simp only[dj,ab] at ht hu;simp only[iE,mi,bm,bu] at h;obtain⟨h1,h2⟩:=Ay t u d _ _ ht.1 hu.1 (o5 Cz (by decide)) (o5 Cv (by decide)) h;simp at h2
 | t::w::ts,u::v::us,d,r,r',ht,hu,_,_,h=>by simp only[dj,ab] at ht hu;simp only[iE,mi,bm,bu] at h;obtain⟨h1,h2⟩:=Ay t u d _ _ ht.1 hu.1 (o5 Cz (by decide)) (o5 Cz (by decide)) h;simp only[List.cons.injEq,true_and] at h2;obtain⟨h3,h4⟩:=PN (w::ts) (v::us) d r r' (by simp only[dj,ab];exact ht.2) (by simp only[dj,ab];exact hu.2) (by simp) (by simp) (by simpa[iE] using h2);exact⟨by rw[h1,h3],h4⟩
end
theorem Sh{t u:az}(ht:bR t=true)(hu:bR u=true)(h:a7 t=a7 u):t=u:=
 (Ay t u 4 [] [] (jt ht) (jt hu) (fun _ _ e=>by cases e) (fun _ _ e=>by cases e) (by rw[h])).1
mutual
theorem MW:∀(t:az)(d:Nat),bX t d=true→(a7 t).length+6≤8*2 ^ d
 | t,0,h=>by simp[bX] at h
 | .mk n [],d+1,h=>by simp only[bX,ab] at h;have h1:n.length≤2:=(by have:=h.1;simp only[ig,ab] at this;have:=dM.1 this.1;omega);have h4:1≤2 ^ d:=dq;simp only[a7,jL];omega
 | .mk n (k::ks),d+1,h=>by simp only[bX,ab,decide_eq_true_eq] at h;have h1:n.length≤2:=(by have:=h.1;simp only[ig,ab] at this;have:=dM.1 this.1;omega);have h2:=O2 (k::ks) d h.2.2;have h4:1≤2 ^ d:=dq;simp only[iE] at h2;simp only[a7,ay,aG,dW,jL];have h3:(k::ks).length*(8*2 ^ d-5)≤2*(8*2 ^ d-5):=bD _ h.2.1;omega
theorem O2:∀(ts:List az)(d:Nat),dj ts d=true→(mi (iE ts)).length≤ts.length*(8*2 ^ d-5)
 | [],_,_=>by simp[iE,mi]
 | [t],d,h=>by simp only[dj,ab] at h;have:=MW t d h.1;simp only[iE,mi,aG,dW];omega
 | t::u::ts,d,h=>by simp only[dj,ab] at h;have h1:=MW t d h.1;have h2:=O2 (u::ts) d (by simp only[dj,ab];exact h.2);simp only[iE] at h2;simp only[iE,mi,ay,aG] at h2⊢;have e:(ts.length+1+1)*(8*2 ^ d-5)=(ts.length+1)*(8*2 ^ d-5)+(8*2 ^ d-5):=(by rw[da (ts.length+1) 1];omega);rw[e];omega
end
theorem zH{t:az}{d:Nat}(h:bX t d=true)(hd:d≤4):(a7 t).length≤122:=by have h1:=MW t d h;have h2:2 ^ d≤2 ^ 4:=cI oM hd;omega
theorem SH{α:Type}{p:α→Bool}:∀{xs:List α}{i:Int},0≤i→(0≤eM p xs i↔∃x∈xs,p x=true)
 | [],i,h=>by simp[eM]
 | x::xs,i,h=>by simp only[eM,ax,exists_eq_or_imp];split;rename_i hx;simp[hx,h];rename_i hx;rw[SH oM];simp[hx]
theorem w6{α:Type}{p:α→Bool}:∀{xs:List α}{i:Int},0≤i→eM p xs i=if eM p xs 0<0 then -1 else eM p xs 0+i
 | [],i,h=>by simp[eM]
 | x::xs,i,h=>by simp only[eM];split;simp;rw[w6 (i:=i+1) oM,w6 (i:=0+1) oM];rcases aa (eM p xs 0<0) with hc|hc;simp[hc];simp only[hc,if_false];rw[if_neg oM];omega
theorem M0{α:Type}{p:α→Bool}:∀{xs:List α}{i:Int},eM p xs i<i+xs.length∨eM p xs i = -1
 | [],i=>by simp[eM]
 | x::xs,i=>by simp only[eM,aG];split;left;omega;rcases M0 (p:=p) (xs:=xs) (i:=i+1) with h|h;left;omega;right;exact h
theorem gm{l:List az}{t:az}:0≤dN l t↔t∈l:=by unfold dN idxOf;rw[SH oM];simp
theorem zj{l:List az}{t:az}(h:t∈l):(dN l t).toNat<l.length:=by have h1:=gm.2 h;rcases M0 (p:=fun u=>decide (t=u)) (xs:=l) (i:=0) with h2|h2;unfold dN idxOf at h1⊢;omega;unfold dN idxOf at h1;omega
theorem lB{t:az}:∀{l:List az},t∈l→l[(dN l t).toNat]?=some t
 | [],h=>by simp at h
 | x::xs,h=>by unfold dN idxOf;simp only[eM];rcases aa (t=x) with hx|hx;simp[hx];have hm:t∈xs:=(by simpa[hx] using h);have h0:=gm.2 hm;have ih:=lB hm;unfold dN idxOf at ih h0;simp only[hx,decide_false,aw,if_false];rw[w6 oM,if_neg oM];have e:(eM (fun u=>decide (t=u)) xs 0+(0+1)).toNat=(eM (fun u=>decide (t=u)) xs 0).toNat+1:=oM;rw[e,nG,ih]
theorem Uj{l:List az}{t u:az}(ht:t∈l)(hu:u∈l)(h:dN l t=dN l u):t=u:=by have h1:=lB ht;have h2:=lB hu;rw[h,h2] at h1;exact(Option.some.inj h1).symm
theorem y6{an:List az}{a b:az}:differ an a b=true↔a∈an∧b∈an∧a≠b:=by simp only[differ,ab,decide_eq_true_eq,gm];constructor;rintro⟨h1,h2,h3⟩;exact⟨h1,h2,fun h=>h3 (by rw[h])⟩;rintro⟨h1,h2,h3⟩;exact⟨h1,h2,fun h=>h3 (Uj h1 h2 h)⟩
theorem OX:∀{cs:List Int}{i:Int}(v:Int),0≤i→wY cs i v=cs.set i.toNat (cs.getD i.toNat 0+v)
 | [],i,v,h=>by simp[wY]
 | c::cs,i,v,h=>by simp only[wY];rcases aa (i=0) with h0|h0;subst h0;simp;rw[if_neg h0,OX v oM];have e:i.toNat=(i-1).toNat+1:=oM;rw[e];simp
theorem Ct:∀{cs:List Int}{i v:Int},(wY cs i v).length=cs.length
 | [],i,v=>rfl
 | c::cs,i,v=>by simp only[wY];split;simp;simp[Ct (cs:=cs)]
def ajE(an:List az):List az→List Int→List Int→List Int
 | t::ts,n::ns,cs=>ajE an ts ns (cs.set (dN an t).toNat n)
 | _,_,cs=>cs
theorem getD_set_ne{cs:List Int}{i k:Nat}{v:Int}(h:i≠k):(cs.set i v).getD k 0=cs.getD k 0:=by simp[b9,List.getElem?_set_ne h]
theorem XN{n:Int}:zq n=true ↔ -1000000≤n∧n≤1000000:=dM
theorem pn{l:mM}:jz l=true↔l.bw.length=4∧(∀c∈l.bw,-1000000≤c∧c≤1000000)∧(-1000000≤l.bJ∧l.bJ≤1000000):=by simp only[jz,ab,bh,decide_eq_true_eq,XN];constructor;rintro⟨h1,h2,h3⟩;exact⟨h2,h1,h3⟩;rintro⟨h1,h2,h3⟩;exact⟨h2,h1,h3⟩
theorem jO{m b:Int}(h0:0≤m)(h1:m≤1000000)(h2:-1000000≤b∧b≤1000000):-1000000000000≤m*b∧m*b≤1000000000000:=by have a1:m*b≤m*1000000:=Int.mul_le_mul_of_nonneg_left h2.2 h0;have a2:m*(-1000000)≤m*b:=Int.mul_le_mul_of_nonneg_left h2.1 h0;omega
theorem tF:∀{m n:Int}{as bs:List Int},as.length=bs.length→(jW m n as bs).length=as.length
 | _,_,[],[],_=>rfl
 | _,_,[],_::_,h=>by simp at h
 | _,_,_::_,[],h=>by simp at h
 | m,n,a::as,b::bs,h=>by simp only[jW,aG];rw[tF (by simpa using h)]
theorem kP:∀{m n:Int}{as bs:List Int}{i:Nat}(h:i<as.length)(h':i<bs.length),jW m n (as.take (i+1)) (bs.take (i+1))=jW m n (as.take i) (bs.take i)++[m*as[i]+n*bs[i]]
 | _,_,[],_,i,h,_=>by simp at h
 | _,_,_::_,[],i,_,h=>by simp at h
 | m,n,a::as,b::bs,0,h,h'=>by simp[jW]
 | m,n,a::as,b::bs,i+1,h,h'=>by have:=kP (m:=m) (n:=n) (as:=as) (bs:=bs) (i:=i) (by simpa using h) (by simpa using h');simp only[dE,jW,bu,lA] at this⊢;rw[this]
theorem xY{a b:mM}{m n:Int}(h1:jz a=true)(h2:jz b=true)(h3:c8 m 0 1000000=true)(h4:c8 n 0 1000000=true):jP a m b n=va a m b n:=by simp[jP,h1,h2,h3,h4]
theorem Wu{ls:List mM}{ts:List Int}{i:Nat}(h:i<ls.length)(h':i<ts.length)(out:mM):wz (ls.drop i) (ts.drop i) out=if(jP out 1 ls[i] ts[i]).2 then wz (ls.drop (i+1)) (ts.drop (i+1)) (jP out 1 ls[i] ts[i]).1 else(uZ,false):=by rw[ai h,ai h',wz]
theorem jN{α:Type}{xs:List α}{i:Nat}(h:i<xs.length):xs.take (i+1)=xs.take i++[xs[i]]:=by rw[bn,ae h];rfl
theorem BM(p:Option az)(t:az)(ts:List az)(n:Int)(ns:List Int):oP p (t::ts) (n::ns)=(bR t&&(c8 n (-50) 50&&(decide (n≠0)&&((match p with|none=>true|some q=>kn (a7 q) (a7 t))&&oP (some t) ts ns)))):=rfl
theorem zc:∀{ts:List az}{ns:List Int}{p:Option az},oP p ts ns=true→ns.length=ts.length→(∀t∈ts,bR t=true)∧(∀n∈ns,-50≤n∧n≤50)
 | [],[],_,_,_=>by simp
 | [],_::_,_,_,h=>by simp at h
 | _::_,[],_,_,h=>by simp at h
 | t::ts,n::ns,p,h,hl=>by rw[BM] at h;simp only[ab] at h;obtain⟨h1,h2⟩:=zc h.2.2.2.2 (by simpa using hl);have h3:=dM.1 h.2.1;refine⟨fun u hu=>?_,fun m hm=>?_⟩;rcases ax.1 hu with rfl|hu;exact h.1;exact h1 u hu;rcases ax.1 hm with rfl|hm;exact h3;exact h2 m hm
theorem qC{a:bz}(h:dh a=true)(k:a.kind=2):isNone a.A=true∧isNone a.B=true∧a.an.length≤4∧a.bt.length=a.an.length∧(-1000≤a.bJ∧a.bJ≤1000)∧oP none a.an a.bt=true:=by rw[dh,if_neg oM,if_pos k] at h;simp only[ab,decide_eq_true_eq] at h;have h3:=dM.1 h.2.2.1;have h5:=dM.1 h.2.2.2.2.1;exact⟨h.1,h.2.1,oM,h.2.2.2.1,h5,h.2.2.2.2.2⟩
theorem nM{a:bz}(h:dh a=true):a.kind=1∨a.kind=2:=by rcases aa (a.kind=1) with k1|k1;exact .inl k1;rcases aa (a.kind=2) with k2|k2;exact .inr k2;simp[dh,k1,k2] at h
theorem GI{a:bz}(h:dh a=true)(k:a.kind=1):bR a.A=true∧bR a.B=true:=by simp only[dh,k,if_true,ab] at h;exact⟨h.1,h.2.1⟩
theorem nX{a:bz}(h:dh a=true):(cZ a).length≤4∧∀t∈cZ a,bR t=true:=by unfold cZ;rcases aa (a.kind=1) with k1|k1;rw[if_pos k1];have:=GI h k1;refine⟨by simp,fun t ht=>?_⟩;simp only[ax,bB,or_false] at ht;rcases ht with rfl|rfl;exact this.1;exact this.2;rw[if_neg k1];have k2:a.kind=2:=(nM h).resolve_left k1;have:=qC h k2;exact⟨this.2.2.1,(zc this.2.2.2.2.2 this.2.2.2.1).1⟩
def fC(af:List cC):List az:=af.flatMap fun l=>cZ l.aY
theorem lW(af:List cC):aQ af=ov (fC af):=rfl
theorem xF{af:List cC}{i:Nat}(h:i<af.length):fC (af.take (i+1))=fC (af.take i)++cZ af[i].aY:=by rw[jN h];simp only[fC,List.flatMap_append,kT,List.flatMap_nil,bV]
theorem kC:∀{af:List cC},(∀l∈af,dh l.aY=true)→(fC af).length≤4*af.length∧∀t∈fC af,bR t=true
 | [],_=>by simp[fC]
 | l::ls,h=>by obtain⟨h1,h2⟩:=kC (af:=ls) fun x hx=>h x (by simp[hx]);obtain⟨h3,h4⟩:=nX (h l (by simp));simp only[fC,kT,ay,aG,aM] at h1 h2⊢;refine⟨oM,fun t ht=>?_⟩;rcases ht with ht|ht;exact h4 t ht;exact h2 t ht
theorem IP:∀{ts out:List az},(∀t∈ts,bR t=true)→s8 ts out=bp out ts
 | [],_,_=>by simp[s8,bp]
 | t::ts,out,h=>by simp only[s8,bp,h t (by simp),if_true];exact IP fun u hu=>h u (by simp[hu])
theorem kp{ts:List az}(h:∀t∈ts,bR t=true):ov ts=bp [] ts:=IP h
mutual
theorem Dx:∀(t:az)(l:List az),(∀u∈l,u∈eF l t)∧t∈eF l t
 | .mk n ks,l=>by have h:=vr ks l;simp only[eF];split;exact⟨fun u hu=>by simp[h u hu],by simp⟩;rename_i hx;exact⟨h,gm.1 oM⟩
theorem vr:∀(ts:List az)(l:List az),∀u∈l,u∈bp l ts
 | [],l,u,h=>by simpa[bp] using h
 | t::ts,l,u,h=>by simp only[bp];exact vr ts _ u ((Dx t l).1 u h)
end
theorem vY:∀(ts:List az)(l:List az),∀t∈ts,t∈bp l ts
 | [],_,t,h=>by simp at h
 | a::ts,l,t,h=>by simp only[bp];rcases ax.1 h with rfl|h;exact vr ts _ _ (Dx _ l).2;exact vY ts _ t h
mutual
theorem zU:∀(t:az)(d:Nat)(l:List az),d≤4→bX t d=true→aP t d≤12→(∀u∈l,bR u=true)→∀u∈eF l t,bR u=true
 | .mk n ks,0,l,_,h,_,_,u,_=>by simp[bX] at h
 | .mk n ks,d+1,l,hd,h,hm,hl,u,hu=>by
  have h':=h;simp only[bX,ab] at h';have hk:=ya ks d l oM h'.2.2 (by simp only[aP] at hm;omega) hl;simp only[eF] at hu;split at hu;simp only[aM,ax,bB,or_false] at hu;rcases hu with hu|rfl;exact hk u hu;rw[←FL];have up:∀(k:Nat)(t:az)(d:Nat),d+k≤4→bX t d=true→bX t (d+k)=true:=by
   intro k;induction k with
   | zero=>intro t d _ h;exact h
   | succ k ih=>intro t d hk h;rw[←kv];exact HZ _ _ (ih t d oM h)
  have s4:=up (4-(d+1)) _ (d+1) oM h;rw[show d+1+(4-(d+1))=4 by omega] at s4;have m1:=(xk (.mk n ks) (d+1) hd).1 h;have m2:=(xk (.mk n ks) 4 oM).1 s4;simp only[right,s4,aN,decide_eq_true_eq];have mm:∀(k:Nat)(t:az)(d:Nat),d+k≤4→bX t d=true→aP t (d+k)=aP t d:=by
   intro k;induction k with
   | zero=>intro t d _ _;rfl
   | succ k ih=>
    intro t d hk h;have h1:=ih t d oM h;have:∀(d:Nat)(t:az),bX t d=true→aP t (d+1)=aP t d:=by
     intro d;induction d with
     | zero=>intro t h;cases t;simp[bX] at h
     | succ d ihd=>
      intro t h;cases t with
      | mk n ks=>
       simp only[bX,ab] at h;have hs:∀(ks:List az),dj ks d=true→oA ks (d+1)=oA ks d:=by
        intro ks;induction ks with
        | nil=>intro _;simp[oA]
        | cons a as iha=>intro h;simp only[dj,ab] at h;simp only[oA,ihd a h.1,iha h.2]
       simp only[aP,hs ks h.2.2]
    rw[←kv,this (d+k) t (up k t d oM h),h1]
  have:=mm (4-(d+1)) (.mk n ks) (d+1) oM h;rw[show d+1+(4-(d+1))=4 by omega] at this;omega;exact hk u hu
theorem ya:∀(ts:List az)(d:Nat)(l:List az),d≤4→dj ts d=true→oA ts d≤12→(∀u∈l,bR u=true)→∀u∈bp l ts,bR u=true
 | [],_,l,_,_,_,hl,u,hu=>hl u (by simpa[bp] using hu)
 | t::ts,d,l,hd,h,hm,hl,u,hu=>by simp only[dj,ab] at h;simp only[oA] at hm;simp only[bp] at hu;exact ya ts d _ hd h.2 oM (zU t d l hd h.1 oM hl) u hu
end
theorem x8:∀(ts l:List az),(∀t∈ts,bR t=true)→(∀u∈l,bR u=true)→∀u∈bp l ts,bR u=true
 | [],l,_,hl,u,hu=>hl u (by simpa[bp] using hu)
 | t::ts,l,ht,hl,u,hu=>by simp only[bp] at hu;have h4:=ht t (by simp);have hr:=h4;rw[←FL] at hr;simp only[right,ab,decide_eq_true_eq] at hr;exact x8 ts _ (fun x hx=>ht x (by simp[hx])) (zU t 4 l oM hr.1 hr.2 hl) u hu
theorem tR{ts:List az}(h:∀t∈ts,bR t=true):∀u∈ov ts,bR u=true:=by rw[kp h];exact x8 ts [] h (by simp)
theorem CY{ts:List az}(h:∀t∈ts,bR t=true):∀t∈ts,t∈ov ts:=by rw[kp h];exact vY ts []
theorem VL{af:List cC}{i:Nat}(h:i<af.length):cG (af.take (i+1))=cG (af.take i)++(if af[i].aY.kind=1∧af[i].no=false then [⟨af[i].aY.A,af[i].aY.B⟩] else []):=by rw[jN h];simp only[cG,List.filterMap_append,List.filterMap_cons,List.filterMap_nil];split<;>simp_all
theorem aaR(af:List cC):(cG af).length≤af.length:=by unfold cG;exact List.length_filterMap_le ..
theorem Me{an:List az}:∀{ts:List az}{ns cs:List Int}{i:Nat}(h:i<ts.length)(h':i<ns.length),o0 an (ts.take (i+1)) (ns.take (i+1)) cs=wY (o0 an (ts.take i) (ns.take i) cs) (dN an ts[i]) ns[i]
 | [],_,_,_,h,_=>by simp at h
 | _::_,[],_,_,_,h=>by simp at h
 | t::ts,n::ns,cs,0,_,_=>by simp[o0]
 | t::ts,n::ns,cs,i+1,h,h'=>by simp only[dE,o0,lA];exact Me (by simpa using h) (by simpa using h')
theorem PZ{an:List az}:∀{ts:List az}{ns cs:List Int},(o0 an ts ns cs).length=cs.length
 | [],_,_=>by simp[o0]
 | _::_,[],_=>by simp[o0]
 | t::ts,n::ns,cs=>by simp only[o0];rw[PZ,Ct]
theorem I2:∀{cs:List Int}{i v m k:Int},(∀c∈cs,-m≤c∧c≤m) → -k≤v→v≤k→0≤k→∀c∈wY cs i v,-(m+k)≤c∧c≤m+k
 | [],i,v,m,k,_,_,_,_,c,hc=>by simp[wY] at hc
 | a::cs,i,v,m,k,h,h1,h2,h3,c,hc=>by have ha:=h a (by simp);simp only[wY] at hc;split at hc;rcases ax.1 hc with rfl|hc;omega;have:=h c (by simp[hc]);omega;rcases ax.1 hc with rfl|hc;omega;exact I2 (fun x hx=>h x (by simp[hx])) h1 h2 h3 c hc
theorem I5{an:List az}:∀{ts:List az}{ns cs:List Int}{m:Int},(∀c∈cs,-m≤c∧c≤m)→(∀n∈ns,-50≤n∧n≤50)→0≤m→∀c∈o0 an ts ns cs,-(m+50*ts.length)≤c∧c≤m+50*ts.length
 | [],_,cs,m,h,_,_,c,hc=>by simp only[o0] at hc;have:=h c hc;simp;omega
 | _::_,[],cs,m,h,_,_,c,hc=>by simp only[o0] at hc;have:=h c hc;omega
 | t::ts,n::ns,cs,m,h,hn,hm,c,hc=>by simp only[o0] at hc;have h1:=hn n (by simp);have:=I5 (m:=m+50) (I2 h h1.1 h1.2 oM) (fun x hx=>hn x (by simp[hx])) oM c hc;simp only[aG];omega
theorem yg{cs:List Int}{i:Nat}{v:Int}(h:i<cs.length):(bj cs).set i [.val (.int .i64 v)]=bj (cs.set i v):=by simp[bj,List.map_set]
theorem TF{an:List az}{af:List cC}{i:Nat}(h:i<af.length):iL an (af.take (i+1))=iL an (af.take i)++nd an af[i]:=by rw[jN h];simp only[iL,List.flatMap_append,kT,List.flatMap_nil,bV]
theorem TR(an:List az)(l:cC):(nd an l).length≤2:=by unfold nd;split;simp;split<;>simp
theorem MQ(an:List az):∀(af:List cC),(iL an af).length≤2*af.length
 | []=>by simp[iL]
 | l::ls=>by have h1:=TR an l;have h2:=MQ an ls;simp only[iL,kT,ay,aG] at h2⊢;omega
structure Fit(an:List az)(l:cC):Prop where
 wf:dh l.aY=true
 sum:l.aY.kind=2→∀t∈l.aY.an,t∈an
 eq:l.aY.kind=1→(l.aY.A∈an↔l.aY.B∈an)
theorem adD(a b:UInt8):(a<b∧¬b<a∧a≠b)∨(a=b∧¬a<b∧¬b<a)∨(b<a∧¬a<b∧a≠b):=by simp only[UInt8.lt_iff_toNat_lt,ne_eq,←UInt8.toNat_inj];omega
theorem J2:∀(a b:List UInt8),(!(Op.bytesLess a b||decide (a=b)))=Op.bytesLess b a
 | [],[]=>by simp[Op.bytesLess]
 | [],_::_=>by simp[Op.bytesLess]
 | _::_,[]=>by simp[Op.bytesLess]
 | a::x,b::y=>by have ih:=J2 x y;rcases adD a b with⟨h1,h2,h3⟩|⟨rfl,h1,h2⟩|⟨h1,h2,h3⟩;have h4:¬b=a:=fun h=>h3 h.symm;simp[Op.bytesLess,h1,h2,h4];simp[Op.bytesLess,h1,←ih];have h4:¬b=a:=fun h=>h3 h.symm;simp[Op.bytesLess,h1,h2,h3]
theorem A4:∀(a:List UInt8),Op.bytesLess a a=false
 | []=>rfl
 | a::x=>by simp[Op.bytesLess,A4 x]
theorem L7:∀{a b c:List UInt8},Op.bytesLess a b=true→Op.bytesLess b c=true→Op.bytesLess a c=true
 | _,[],_,h,_=>by simp[Op.bytesLess] at h
 | _,_::_,[],_,h=>by simp[Op.bytesLess] at h
 | [],_::_,_::_,_,_=>by simp[Op.bytesLess]
 | a::x,b::y,c::z,h1,h2=>by simp only[Op.bytesLess,Bool.or_eq_true,decide_eq_true_eq,ab,beq_iff_eq] at h1 h2⊢;rcases h1 with h1|⟨rfl,h1⟩;rcases h2 with h2|⟨rfl,h2⟩;left;rw[UInt8.lt_iff_toNat_lt] at *;omega;exact .inl h1;rcases h2 with h2|⟨rfl,h2⟩;exact .inl h2;exact .inr ⟨rfl,L7 h1 h2⟩
theorem afc{a b:List UInt8}(h:Op.bytesLess a b=true):a≠b:=by rintro rfl;rw[A4] at h;cases h
theorem Md{a b:List UInt8}(h:a≠b)(h2:Op.bytesLess a b=false):Op.bytesLess b a=true:=by rw[←J2 a b,h2];simp[h]
def akq(dx:List lH)(pF n:Int)(t:az)(ar:List lH):lH×Bool:=
 if pF≠2∧n≠0 then(Km,false) else
 if pF=1∧ar.length=0 then(⟨t,t⟩,bR t) else
 if pF=2∧ar.length=0∧isNone t=true∧0≤n∧n<dx.length then(dx.getD n.toNat Km,true) else
 if pF=3∧ar.length=1∧isNone t=true then(⟨(ar.getD 0 Km).B,(ar.getD 0 Km).A⟩,true) else
 if pF=4∧ar.length=2∧isNone t=true then(⟨(ar.getD 0 Km).A,(ar.getD 1 Km).B⟩,decide ((ar.getD 0 Km).B=(ar.getD 1 Km).A)) else
 if pF=5∧0<ar.length∧t.ar.length=0 then(⟨.mk t.name (ar.map (·.A)),.mk t.name (ar.map (·.B))⟩,bR (.mk t.name (ar.map (·.A)))&&bR (.mk t.name (ar.map (·.B)))) else
 (Km,false)
def Alike(x y:lH×Bool):Prop:=x.2=y.2∧(x.2=true→x.1=y.1)
theorem S1{n:p8}{ks:List az}(h:bR (.mk n ks)=true):ig n=true:=by have:=jt h;simp only[bX,ab] at this;exact this.1
theorem Xa{an:List az}{a b:az}(ha:a∈an)(hb:b∈an)(ta:bR a=true)(tb:bR b=true):Fit an (kQ a b):=by refine⟨?_,fun h=>?_,fun _=>?_⟩;simp[dh,kQ,HG,ta,tb];simp[kQ,HG] at h;simp[kQ,HG,ha,hb]
theorem Yi{a b:az}(ta:bR a=true)(tb:bR b=true)(h:kn (a7 a) (a7 b)=true)(m n:Int)(hm:c8 m (-50) 50=true)(hn:c8 n (-50) 50=true)(hm0:m≠0)(hn0:n≠0):dh ⟨2,aX,aX,[a,b],[m,n],0,true⟩=true:=by
 have h2:oP none [a,b] [m,n]=true:=by rw[BM,BM];have e:oP (some b) [] []=true:=rfl;simp[ta,tb,hm,hn,hm0,hn0,h,e]
 have e:dh ⟨2,aX,aX,[a,b],[m,n],0,true⟩=(isNone aX&&(isNone aX&&(c8 ([a,b].length:Int) 1 4&&(decide ([m,n].length=[a,b].length)&&(c8 0 (-1000) 1000&&oP none [a,b] [m,n]))))):=rfl;rw[e,h2];rfl
theorem Nl{an:List az}{a b:az}(ha:a∈an)(hb:b∈an)(ta:bR a=true)(tb:bR b=true)(nI:a≠b):Fit an (gC a b):=by have ht:a7 a≠a7 b:=fun h=>nI (Sh ta tb h);unfold gC;cases h:kn (a7 b) (a7 a);have h2:kn (a7 a) (a7 b)=true:=Md (a:=a7 b) (b:=a7 a) (fun e=>ht e.symm) h;refine⟨Yi ta tb h2 1 (-1) rfl rfl oM oM,fun _ t hm=>?_,fun h=>?_⟩;simp only[aw,if_false,ax,bB,or_false] at hm;rcases hm with rfl|rfl;exact ha;exact hb;simp at h;refine⟨Yi tb ta h (-1) 1 rfl rfl oM oM,fun _ t hm=>?_,fun h=>?_⟩;simp only[if_true,ax,bB,or_false] at hm;rcases hm with rfl|rfl;exact hb;exact ha;simp at h
theorem KZ{s:eV}{af:List cC}(h:gO s af=true):(∀l∈af,Fit (aO s af) l)∧(∀t∈aO s af,bR t=true)∧(aO s af).length≤4∧af.length≤6∧gy s=true∧(∀l∈af,dh l.aY=true)∧(∀t∈aQ af,bR t=true)∧(aQ af).length≤24:=by
 simp only[gO,ab,decide_eq_true_eq,bh] at h;obtain⟨⟨⟨⟨hs,h6⟩,hA⟩,h24⟩,h4⟩:=h;have hw:∀l∈af,dh l.aY=true:=by intro l hl;have:=hA l hl;simp only[hU,ab] at this;exact this.2.1
 have dL:=(kC hw).2;have htt:∀t∈aQ af,bR t=true:=by rw[lW];exact tR dL
 have jY:∀l∈af,∀t∈cZ l.aY,t∈aQ af:=by intro l hl t ht;rw[lW];exact CY dL t (List.mem_flatMap.2 ⟨l,hl,ht⟩)
 have hnum:∀t,t∈aO s af↔t∈aQ af∧eQ s t=true:=fun t=>cX;refine⟨fun l hl=>⟨hw l hl,fun k t ht=>?_,fun k=>?_⟩,fun t ht=>htt t ((hnum t).1 ht).1,h4,h6,hs,hw,htt,h24⟩;have hk1:¬l.aY.kind=1:=oM;have ha:=hA l hl;simp only[hU,ab,hk1,if_false,bh] at ha;have hm:t∈cZ l.aY:=by simp only[cZ,hk1,if_false];exact ht
 exact(hnum t).2 ⟨jY l hl t hm,ha.2.2 t ht⟩;have ha:=hA l hl;simp only[hU,ab,k,if_true,kG,decide_eq_true_eq] at ha;have hm:l.aY.A∈aQ af∧l.aY.B∈aQ af:=by have:cZ l.aY=[l.aY.A,l.aY.B]:=(by simp[cZ,k]);exact⟨jY l hl _ (by rw[this];simp),jY l hl _ (by rw[this];simp)⟩
 rw[hnum,hnum];simp only[hm.1,hm.2,true_and,eQ,ha.2.2.2]
theorem Zu(k:Int):fG k≤2:=by unfold fG;split<;>(try split)<;>(try split)<;>omega
theorem qU{k:Int}{l:cC}{ks:List aU}(h:jB k l ks=true):ks.length≤2:=by simp only[jB,ab,decide_eq_true_eq] at h;have:=Zu k;omega
mutual
theorem vC:∀(f:aU)(d:Nat),d≤5→(bH f d=true→jg f (6-d)=dY f d)∧(bH f d=false→11≤jg f (6-d))
 | .mk k l ks,0,_=>by simp[bH,jg]
 | .mk k l ks,d+1,hd=>by obtain⟨h1,h2⟩:=z7 ks d oM;have e:6-(d+1)+1=6-d:=oM;have e2:6-(d+1)≤5:=oM;simp only[bH,jg,dY,e,e2,decide_true,aN];cases hn:jB k l ks;simp;simp only[aN,if_true];exact⟨fun h=>by rw[h1 h],fun h=>by have:=h2 h;omega⟩
theorem z7:∀(ts:List aU)(d:Nat),d≤5→(cQ ts d=true→iD ts (6-d)=dp ts d)∧(cQ ts d=false→11≤iD ts (6-d))
 | [],_,_=>by simp[cQ,iD,dp]
 | t::ts,d,hd=>by obtain⟨h1,h2⟩:=vC t d hd;obtain⟨h3,h4⟩:=z7 ts d hd;simp only[cQ,iD,dp];cases ht:bH t d;have:=h2 ht;exact⟨fun h=>by simp at h,fun _=>by omega⟩;cases hts:cQ ts d;have:=h4 hts;exact⟨fun h=>by simp at h,fun _=>by omega⟩;exact⟨fun _=>by rw[h1 ht,h3 hts],fun h=>by simp at h⟩
end
def RI(f:aU):Bool:=bH f 5&&(decide (dY f 5≤10)&&decide ((ct [] f).length≤6))
theorem PI(f:aU):RI f=jq f:=by have h:=vC f 5 oM;simp only[show 6-5=1 from rfl] at h;obtain⟨h1,h2⟩:=h;unfold RI jq;cases h:bH f 5;have:=h2 h;have:¬jg f 1≤10:=oM;simp[this];rw[←h1 h];simp
theorem nT{f:aU}(h:jq f=true):bH f 5=true∧dY f 5≤10∧(ct [] f).length≤6:=by rw[←PI] at h;simpa[RI] using h
theorem dF:∀{ts:List aU}{d:Nat},cQ ts d=true→∀t∈ts,bH t d=true
 | [],_,_,t,ht=>by simp at ht
 | a::ts,d,h,t,ht=>by simp only[cQ,ab] at h;rcases ax.1 ht with rfl|ht;exact h.1;exact dF h.2 t ht
theorem fY{f:aU}{d:Nat}(h:bH f (d+1)=true):jB f.kind f.lit f.ar=true∧f.ar.length≤2∧cQ f.ar d=true:=by
 cases f with
 | mk k l ks=>simp only[bH,ab] at h;exact⟨h.1,qU h.1,h.2⟩
mutual
theorem nJ:∀(f:aU)(d:Nat),bH f d=true→dY f d+1≤2 ^ d
 | .mk k l ks,0,h=>by simp[bH] at h
 | .mk k l ks,d+1,h=>by simp only[bH,ab] at h;have:=rb ks d h.2;simp only[dY];have h3:ks.length*(2 ^ d-1)≤2*(2 ^ d-1):=bD _ (qU h.1);have h4:1≤2 ^ d:=dq;rw[jL];omega
theorem rb:∀(ts:List aU)(d:Nat),cQ ts d=true→dp ts d≤ts.length*(2 ^ d-1)
 | [],_,_=>by simp[dp]
 | t::ts,d,h=>by simp only[cQ,ab] at h;have h1:=nJ t d h.1;have h2:=rb ts d h.2;simp only[dp,aG,da,Nat.one_mul];omega
end
mutual
theorem BA:∀(f:aU)(cE:Nat),1≤cE→cE≤6→jg f cE+12≤23*2 ^ (6-cE)
 | .mk k l ks,cE,h1,h5=>by simp only[jg];split;rename_i h;simp only[ab,decide_eq_true_eq] at h;have:=uN ks (cE+1) oM oM;have h3:ks.length*(23*2 ^ (6-(cE+1))-12)≤2*(23*2 ^ (6-(cE+1))-12):=bD _ (qU h.2);have e:6-cE=(6-(cE+1))+1:=oM;have h4:1≤2 ^ (6-(cE+1)):=dq;rw[e,jL];omega;have h4:1≤2 ^ (6-cE):=dq;omega
theorem uN:∀(ts:List aU)(cE:Nat),1≤cE→cE≤6→iD ts cE≤ts.length*(23*2 ^ (6-cE)-12)
 | [],_,_,_=>by simp[iD]
 | t::ts,cE,h1,h5=>by have h2:=BA t cE h1 h5;have h3:=uN ts cE h1 h5;simp only[iD,aG,da,Nat.one_mul];omega
end
theorem tO:∀(ts:List aU)(l:List bz),bF l ts=ts.foldl ct l
 | [],_=>rfl
 | t::ts,l=>by simp only[bF,iW,tO ts]
theorem kX{ts:List aU}{i:Nat}(h:i<ts.length)(l:List bz):bF l (ts.take (i+1))=ct (bF l (ts.take i)) ts[i]:=by
 have e:ts.take (i+1)=ts.take i++[ts[i]]:=by rw[bn,ae h];rfl
 rw[e,tO,tO,kW];rfl
theorem jA(l:List bz)(f:aU):ct l f=if f.kind=1 then(if dk l f.lit.aY<0 then l++[f.lit.aY] else l) else bF l f.ar:=by cases f;rfl
theorem EO{a:bz}:∀{l:List bz}{i:Int},0≤i→(0≤eM (fun b=>decide (a=b)) l i↔a∈l)
 | [],i,_=>by simp[eM]
 | x::xs,i,h=>by simp only[eM,decide_eq_true_eq,ax];split;rename_i e;simp[e,h];rename_i e;rw[EO (l:=xs) oM];simp[e]
theorem oN{l:List bz}{a:bz}:0≤dk l a↔a∈l:=EO oM
theorem E8{a:bz}:∀{l:List bz}{i:Int},eM (fun b=>decide (a=b)) l i<i+l.length∨eM (fun b=>decide (a=b)) l i = -1
 | [],i=>by simp[eM]
 | x::xs,i=>by simp only[eM,aG];split;left;omega;rcases E8 (a:=a) (l:=xs) (i:=i+1) with h|h;left;omega;right;exact h
theorem LQ{l:List bz}{a:bz}(h:a∈l):(dk l a).toNat<l.length:=by have h1:=oN.2 h;have h2:=E8 (a:=a) (l:=l) (i:=0);simp only[dk,idxOf] at h1⊢;omega
mutual
theorem Jq:∀(f:aU)(l:List bz),∀u∈l,u∈ct l f
 | .mk k x ks,l,u,hu=>by simp only[ct];split;split;exact dH _ hu;exact hu;exact so ks l u hu
theorem so:∀(ts:List aU)(l:List bz),∀u∈l,u∈bF l ts
 | [],_,_,hu=>hu
 | t::ts,l,u,hu=>so ts _ u (Jq t l u hu)
end
def inside(l:List bz)(f:aU):Prop:=∀u∈ct [] f,u∈l
mutual
theorem Ds:∀(f:aU)(d:Nat)(l:List bz),bH f d=true→(ct l f).length≤l.length+dY f d
 | .mk k x ks,0,_,h=>by simp[bH] at h
 | .mk k x ks,d+1,l,h=>by simp only[bH,ab] at h;simp only[ct,dY];split;split;simp;omega;have:=rm ks d l h.2;omega
theorem rm:∀(ts:List aU)(d:Nat)(l:List bz),cQ ts d=true→(bF l ts).length≤l.length+dp ts d
 | [],_,_,_=>by simp[bF,dp]
 | t::ts,d,l,h=>by simp only[cQ,ab] at h;have h1:=Ds t d l h.1;have h2:=rm ts d (ct l t) h.2;simp only[bF,dp];omega
end
theorem C8(l:List bz)(f:aU)(h:f.kind=1):f.lit.aY∈ct l f:=by rw[jA,if_pos h];split;simp;rename_i hx;exact oN.1 oM
mutual
theorem CT:∀(f:aU)(l l':List bz),(∀u∈l,u∈l')→∀u∈ct l f,u∈ct l' f
 | .mk k x ks,l,l',h,u,hu=>by simp only[ct] at hu⊢;split at hu;rename_i hk;simp only[hk,if_true];have jY:∀v,v∈l'∨v=x.aY→v∈(if dk l' x.aY<0 then l'++[x.aY] else l'):=(by intro v hv;split;rcases hv with hv|hv;exact dH _ hv;simp[hv];rename_i hx;rcases hv with hv|hv;exact hv;rw[hv];exact oN.1 oM);split at hu;rcases aM.1 hu with hu|hu;exact jY u (.inl (h u hu));exact jY u (.inr (by simpa using hu));exact jY u (.inl (h u hu));rename_i hk;simp only[hk,if_false];exact A3 ks l l' h u hu
theorem A3:∀(ts:List aU)(l l':List bz),(∀u∈l,u∈l')→∀u∈bF l ts,u∈bF l' ts
 | [],_,_,h,u,hu=>h u hu
 | t::ts,l,l',h,u,hu=>A3 ts _ _ (CT t l l' h) u hu
end
theorem ry:∀(ts:List aU)(l:List bz),∀t∈ts,∀u∈ct [] t,u∈bF l ts
 | [],_,t,ht,_,_=>by simp at ht
 | a::ts,l,t,ht,u,hu=>by rcases ax.1 ht with rfl|ht;exact so ts _ u (CT t [] l (by simp) u hu);exact ry ts _ t ht u hu
theorem gH{l:List bz}{f:aU}(h:inside l f)(hk:f.kind≠1):∀t∈f.ar,inside l t:=by intro t ht u hu;apply h;rw[jA,if_neg hk];exact ry f.ar [] t ht u hu
theorem zD{l:List bz}{f:aU}(h:inside l f)(hk:f.kind=1):f.lit.aY∈l:=h _ (C8 [] f hk)
theorem D5{l:List bz}{i:Nat}(h:i<l.length):plain (l.take (i+1))=plain (l.take i)++[⟨l[i],false⟩]:=by
 have e:l.take (i+1)=l.take i++[l[i]]:=by rw[bn,ae h];rfl
 simp only[plain,e,dA,aJ,cL]
theorem HD(l:List bz):(plain l).length=l.length:=by simp[plain]
theorem xW{a:Rat}:eC a=true↔(-1000000000≤a.N∧a.N≤1000000000)∧(1≤a.D∧a.D≤1000000000)∧dK a.N a.D=1:=by simp only[eC,ab,dM,decide_eq_true_eq];constructor;rintro⟨h1,h2,h3⟩;exact⟨h1,h2,oM⟩;rintro⟨h1,h2,h3⟩;exact⟨h1,h2,oM⟩
theorem afm{a b:Rat}(h1:a.N=b.N)(h2:a.D=b.D):a=b:=by cases a;cases b;simp_all
theorem O1{a b:Rat}(ha:eC a=true)(hb:eC b=true)(h:a.N*b.D=b.N*a.D):a=b:=by
 rw[xW] at ha hb;obtain⟨_,⟨a1,_⟩,ag⟩:=ha;obtain⟨_,⟨b1,_⟩,bg⟩:=hb;have hn:a.N.natAbs*b.D.natAbs=b.N.natAbs*a.D.natAbs:=by rw[←Int.natAbs_mul,←Int.natAbs_mul,h]
 have ca:Nat.Coprime a.D.natAbs a.N.natAbs:=by rw[Nat.Coprime,Nat.gcd_comm];exact ag
 have cb:Nat.Coprime b.D.natAbs b.N.natAbs:=by rw[Nat.Coprime,Nat.gcd_comm];exact bg
 have d1:a.D.natAbs∣b.D.natAbs:=ca.dvd_of_dvd_mul_left ⟨b.N.natAbs,by rw[hn,Nat.mul_comm]⟩;have d2:b.D.natAbs∣a.D.natAbs:=cb.dvd_of_dvd_mul_left ⟨a.N.natAbs,by rw[←hn,Nat.mul_comm]⟩;have e:a.D.natAbs=b.D.natAbs:=Nat.dvd_antisymm d1 d2;have eD:a.D=b.D:=oM;refine afm ?_ eD;rw[eD] at h;exact Int.eq_of_mul_eq_mul_right oM h
theorem lD{a b:Rat}(ha:eC a=true)(hb:eC b=true):gW a b=true↔a.N*b.D<b.N*a.D:=by simp[gW,ha,hb]
theorem Iw{a b:Rat}(ha:eC a=true)(hb:eC b=true):rk a b=0↔a=b:=by
 constructor;intro h;unfold rk at h;split at h;omega;rename_i h1;split at h;omega;rename_i h2;rw[lD ha hb] at h1;rw[lD hb ha] at h2;exact O1 ha hb oM;rintro rfl;have:gW a a=false:=by cases h:gW a a;rfl;rw[lD ha ha] at h;omega
 simp[rk,this]
theorem VX{a b:Rat}:rk a b<0↔gW a b=true:=by unfold rk;split;rename_i h;simp[h];rename_i h;split<;>simp_all
theorem NJ{a b c:Rat}(ha:eC a=true)(hb:eC b=true)(hc:eC c=true)(h1:gW a b=true)(h2:gW b c=true):gW a c=true:=by
 rw[lD ha hb] at h1;rw[lD hb hc] at h2;rw[lD ha hc];rw[xW] at ha hb hc;have e1:a.N*b.D*c.D<b.N*a.D*c.D:=Int.mul_lt_mul_of_pos_right h1 oM;have e2:b.N*c.D*a.D<c.N*b.D*a.D:=Int.mul_lt_mul_of_pos_right h2 oM;have e3:b.N*a.D*c.D=b.N*c.D*a.D:=by rw[Int.mul_assoc,Int.mul_comm a.D,←Int.mul_assoc]
 have e4:a.N*c.D*b.D<c.N*a.D*b.D:=by rw[Int.mul_assoc,Int.mul_comm c.D,←Int.mul_assoc,Int.mul_assoc c.N,Int.mul_comm a.D,←Int.mul_assoc];omega
 exact Int.lt_of_mul_lt_mul_right e4 oM
def fN(as:List Rat):Bool:=as.all eC
theorem yT:∀{as bs:List Rat},fN as=true→fN bs=true→(jC as bs=0↔as=bs)
 | [],[],_,_=>by simp[jC]
 | [],b::bs,_,_=>by simp[jC]
 | a::as,[],_,_=>by simp[jC]
 | a::as,b::bs,ha,hb=>by simp only[fN,cY,ab] at ha hb;have h:=Iw ha.1 hb.1;have h2:=yT (as:=as) (bs:=bs) ha.2 hb.2;simp only[jC];split;rename_i e;rw[h2,List.cons.injEq,h.1 e];simp;rename_i e;constructor;intro e2;exact absurd e2 e;intro e2;rw[List.cons.injEq] at e2;exact absurd (h.2 e2.1) e
def lP:List Rat→List Rat→Bool
 | a::as,b::bs=>if a=b then lP as bs else gW a b
 | _,_=>false
def gL(a b:Row):Bool:=if a.name=b.name then(if a.args.length=b.args.length then lP a.args b.args else decide (a.args.length<b.args.length)) else kn a.name b.name
theorem Ib:∀{as bs:List Rat},fN as=true→fN bs=true→as.length=bs.length→(jC as bs<0↔lP as bs=true)
 | [],[],_,_,_=>by simp[jC,lP]
 | [],b::bs,_,_,h=>by simp at h
 | a::as,[],_,_,h=>by simp at h
 | a::as,b::bs,ha,hb,hl=>by simp only[fN,cY,ab] at ha hb;have h:=Iw ha.1 hb.1;have h2:=Ib (as:=as) (bs:=bs) ha.2 hb.2 (by simpa using hl);simp only[jC,lP];split;rename_i e;rw[if_pos (h.1 e),h2];rename_i e;rw[if_neg (fun x=>e (h.2 x)),VX]
theorem th{a b:p8}:qw a b=0↔a=b:=by unfold qw;constructor;intro h;split at h;omega;rename_i h1;split at h;omega;rename_i h2;rcases aa (a=b) with e|e;exact e;exact absurd (Md e (by simpa[kn] using h1)) h2;rintro rfl;simp[kn,A4]
theorem WX{a b:p8}:qw a b<0↔kn a b=true:=by unfold qw;split;rename_i h;simp[h];rename_i h;split<;>simp_all
theorem Aq{a b:Int}:rJ a b=0↔a=b:=by unfold rJ;split<;>(try split)<;>omega
theorem Xg{a b:Int}:rJ a b<0↔a<b:=by unfold rJ;split<;>(try split)<;>omega
theorem wG{a b:Row}(ha:fN a.args=true)(hb:fN b.args=true):gP a b=0↔a.name=b.name∧a.args=b.args:=by unfold gP;constructor;intro h;split at h;rename_i e;exact absurd h e;rename_i e;split at h;rename_i e2;exact absurd h e2;exact⟨th.1 (Classical.not_not.1 e),(yT ha hb).1 h⟩;rintro⟨e,e2⟩;have h1:qw a.name b.name=0:=th.2 e;have h2:rJ a.args.length b.args.length=0:=Aq.2 (by rw[e2]);have h3:jC a.args b.args=0:=(yT ha hb).2 e2;simp[h1,h2,h3]
theorem oT{a b:Row}(ha:fN a.args=true)(hb:fN b.args=true):gP a b<0↔gL a b=true:=by unfold gP gL;split;rename_i e;rw[if_neg (fun x=>e (th.2 x)),WX];rename_i e;rw[if_pos (th.1 (Classical.not_not.1 e))];split;rename_i e2;have:¬a.args.length=b.args.length:=fun x=>e2 (Aq.2 (by rw[x]));rw[if_neg this,Xg];simp;rename_i e2;have:=Aq.1 (Classical.not_not.1 e2);have h3:a.args.length=b.args.length:=oM;rw[if_pos h3,Ib ha hb h3]
theorem Ak:∀{as bs cs:List Rat},fN as=true→fN bs=true→fN cs=true→lP as bs=true→lP bs cs=true→lP as cs=true
 | [],_,_,_,_,_,h,_=>by simp[lP] at h
 | _::_,[],_,_,_,_,h,_=>by simp[lP] at h
 | _::_,_::_,[],_,_,_,_,h=>by simp[lP] at h
 | a::as,b::bs,c::cs,ha,hb,hc,h1,h2=>by simp only[fN,cY,ab] at ha hb hc;simp only[lP] at h1 h2⊢;split at h1;rename_i e;subst e;split at h2;rename_i e2;rw[if_pos e2];exact Ak ha.2 hb.2 hc.2 h1 h2;rename_i e2;rw[if_neg e2];exact h2;rename_i e;split at h2;rename_i e2;subst e2;rw[if_neg e];exact h1;have h3:=NJ ha.1 hb.1 hc.1 h1 h2;have:¬a=c:=(by rintro rfl;rw[lD ha.1 ha.1] at h3;omega);rw[if_neg this];exact h3
theorem sy{a b c:Row}(ha:fN a.args=true)(hb:fN b.args=true)(hc:fN c.args=true)(h1:gL a b=true)(h2:gL b c=true):gL a c=true:=by unfold gL at h1 h2⊢;split at h1;rename_i e;rw[e];split at h2;rename_i e2;rw[if_pos e2];split at h1;rename_i l1;rw[l1];split at h2;rename_i l2;rw[if_pos l2];exact Ak ha hb hc h1 h2;rename_i l2;rw[if_neg l2];exact h2;rename_i l1;simp only[decide_eq_true_eq] at h1;split at h2;rename_i l2;rw[if_neg oM];simp;omega;simp only[decide_eq_true_eq] at h2;rw[if_neg oM];simp;omega;rename_i e2;rw[if_neg e2];exact h2;rename_i e;split at h2;rename_i e2;rw[←e2,if_neg e];exact h1;have h3:kn a.name c.name=true:=L7 h1 h2;rw[if_neg (afc h3)];exact h3
theorem oW{r:Row}(h:tv r=true):fN r.args=true:=by simp only[tv,ab] at h;exact h.2.2.2
def qY:Option Row→List Row→Bool
 | _,[]=>true
 | p,r::rs=>tv r&&((match p with|none=>true|some q=>gL q r)&&qY (some r) rs)
theorem PR:∀(rs:List Row)(p:Option Row),(∀q,p=some q→tv q=true)→yz p rs=qY p rs
 | [],_,_=>rfl
 | r::rs,p,hp=>by
  simp only[yz,qY];cases hr:tv r;rfl;rw[PR rs (some r) (fun q e=>by cases e;exact hr)];cases p with
  | none=>rfl
  | some q=>have h:=oT (oW (hp q rfl)) (oW hr);have:decide (gP q r<0)=gL q r:=(by cases hl:gL q r;simp only[decide_eq_false_iff_not];rw[h,hl];simp;simp only[decide_eq_true_eq];rw[h,hl]);simp only[this]
theorem yO:∀{rs:List Row}{p:Option Row},qY p rs=true→∀r∈rs,tv r=true
 | [],_,_,r,hr=>by simp at hr
 | a::rs,p,h,r,hr=>by simp only[qY,ab] at h;rcases ax.1 hr with rfl|hr;exact h.1;exact yO h.2.2 r hr
theorem C2:∀{rs:List Row}{q:Row},tv q=true→qY (some q) rs=true→∀r∈rs,gL q r=true
 | [],_,_,_,r,hr=>by simp at hr
 | a::rs,q,hq,h,r,hr=>by simp only[qY,ab] at h;rcases ax.1 hr with rfl|hr;exact h.2.1;exact sy (oW hq) (oW h.1) (oW (yO h.2.2 r hr)) h.2.1 (C2 h.1 h.2.2 r hr)
theorem Dr:∀{rs:List Row}{p:Option Row},qY p rs=true→rs.Pairwise (fun a b=>gL a b=true)
 | [],_,_=>List.Pairwise.nil
 | a::rs,p,h=>by simp only[qY,ab] at h;exact List.Pairwise.cons (fun r hr=>C2 h.1 h.2.2 r hr) (Dr h.2.2)
theorem ra{m:dZ}(h:jk m=true):m.aK.length≤40∧(∀r∈m.aK,tv r=true)∧m.aK.Pairwise (fun a b=>gL a b=true):=by simp only[jk,ab,decide_eq_true_eq] at h;rw[PR _ none (by simp)] at h;exact⟨h.1,yO h.2,Dr h.2⟩
def cut:List Row→Row→Nat
 | [],_=>0
 | r::rs,t=>if gP r t<0 then cut rs t+1 else 0
theorem VT:∀(rs:List Row)(t:Row),cut rs t≤rs.length
 | [],_=>by simp[cut]
 | r::rs,t=>by have:=VT rs t;simp only[cut,aG];split<;>omega
def mZ(rs:List Row)(t:Row):Prop:=rs.Pairwise (fun a b=>gP b t<0→gP a t<0)
theorem xo:∀{rs:List Row}{t:Row},mZ rs t→∀(k:Nat)(h:k<rs.length),k<cut rs t↔gP rs[k] t<0
 | [],_,_,k,h=>by simp at h
 | r::rs,t,hm,k,h=>by
  obtain⟨h1,h2⟩:=cS.1 hm;simp only[cut];cases k with
  | zero=>simp only[List.getElem_cons_zero];split<;>simp_all
  | succ k=>simp only[lA];have hk:k<rs.length:=(by simpa using h);have h3:=xo (rs:=rs) (t:=t) h2 k hk;split;rw[←h3];omega;rename_i hn;constructor;intro x;omega;intro x;exact absurd (h1 _ (List.getElem_mem hk) x) hn
theorem aiv{rs:List Row}{t:Row}(hm:mZ rs t){i:Nat}(hi:i≤rs.length)(h1:∀(k:Nat)(h:k<rs.length),k<i→gP rs[k] t<0)(h2:∀(k:Nat)(h:k<rs.length),i≤k→¬gP rs[k] t<0):cut rs t=i:=by have h3:=VT rs t;rcases Nat.lt_trichotomy (cut rs t) i with h|h|h;have h4:=(xo hm (cut rs t) oM).2 (h1 _ oM h);omega;exact h;have h4:=(xo hm i oM).1 h;exact absurd h4 (h2 i oM (aH i))
theorem aeU{m:dZ}{t:Row}(h:jk m=true)(ht:fN t.args=true):mZ m.aK t:=by obtain⟨_,h1,h2⟩:=ra h;refine List.Pairwise.imp_of_mem ?_ h2;intro a b ha hb hab hbt;have wa:=oW (h1 a ha);have wb:=oW (h1 b hb);rw[oT wb ht] at hbt;rw[oT wa ht];exact sy wa wb ht hab hbt
def found(rs:List Row)(t:Row):Bool:=match rs[cut rs t]? with|some r=>decide (gP r t=0)|none=>false
theorem Sn:∀{rs:List Row}{t:Row},(∀r∈rs,fN r.args=true)→fN t.args=true→rs.Pairwise (fun a b=>gL a b=true) →
 rs.find? (fun r=>decide (r.name=t.name∧r.args=t.args))=if found rs t then rs[cut rs t]? else none
 | [],_,_,_,_=>by simp[found]
 | r::rs,t,hr,ht,hp=>by obtain⟨h1,h2⟩:=cS.1 hp;have ih:=Sn (rs:=rs) (t:=t) (fun x hx=>hr x (bf _ hx)) ht h2;have wr:=hr r (by simp);have hz:=wG wr ht;rw[List.find?_cons];rcases aa (r.name=t.name∧r.args=t.args) with e|e;have hc:=hz.2 e;have hcut:cut (r::rs) t=0:=(by simp[cut,hc]);simp[e,found,hcut,hc];simp only[e,decide_false];rw[ih];rcases aa (gP r t<0) with hn|hn;have hc2:cut (r::rs) t=cut rs t+1:=(by simp[cut,hn]);have hf2:found (r::rs) t=found rs t:=(by simp only[found,hc2,nG]);rw[hf2,hc2,nG];have hcut:cut (r::rs) t=0:=(by simp[cut,hn]);have hf:found (r::rs) t=false:=(by simp[found,hcut,hz,e]);rw[hf];have:found rs t=false:=(by unfold found;split;rename_i q hq;have hq':q∈rs:=List.mem_of_getElem? hq;simp only[decide_eq_false_iff_not];intro hc;have hb:=(wG (hr q (bf _ hq')) ht).1 hc;have hl:=h1 q hq';apply hn;rw[oT wr ht];have:gL r q=gL r t:=(by simp only[gL,hb.1,hb.2]);rw[←this];exact hl;rfl);simp[this]
theorem VK{m:dZ}{t:Row}(h:jk m=true)(ht:fN t.args=true):lookup m.aK t.name t.args=if found m.aK t then(m.aK.getD (cut m.aK t) t).val else⟨0,1⟩:=by
 obtain⟨_,h1,h2⟩:=ra h;unfold lookup;rw[Sn (fun r hr=>oW (h1 r hr)) ht h2];cases hf:found m.aK t;simp;unfold found at hf;cases hx:m.aK[cut m.aK t]? with
 | none=>simp[hx] at hf
 | some r=>simp[hx,b9]
theorem aju:eC ⟨0,1⟩=true:=by decide
theorem aaN{m:dZ}(h:jk m=true)(n:p8)(as:List Rat):eC (lookup m.aK n as)=true:=by obtain⟨_,h1,_⟩:=ra h;unfold lookup;split;rename_i r hr;have:=h1 r (im hr);simp only[tv,ab] at this;exact this.2.2.1;exact aju
theorem SY(m:dZ)(t:az):value m t=lookup m.aK t.name (values m t.ar):=by cases t;rfl
theorem oU(m:dZ):∀(ts:List az),values m ts=ts.map (value m)
 | []=>rfl
 | t::ts=>by simp only[values,aJ,oU m ts]
theorem L1{m:dZ}(h:jk m=true)(t:az):eC (value m t)=true:=by rw[SY];exact aaN h _ _
theorem OD{m:dZ}(h:jk m=true)(ts:List az):fN (values m ts)=true:=by rw[oU];simp only[fN,List.all_map,bh,Function.comp];intro t _;exact L1 h t
theorem VH(m:dZ)(ts:List az):(values m ts).length=ts.length:=by rw[oU];simp
theorem xV{n:Int}(h1:-1000000000≤n)(h2:n≤1000000000):eC (whole n)=true:=by rw[xW];exact⟨⟨h1,h2⟩,⟨Int.le_refl 1,by show(1:Int)≤1000000000;omega⟩,Int.gcd_one_right n⟩
theorem O9{n d:Int}(h:(nw n d).2=true):eC (nw n d).1=true:=by unfold nw at h⊢;split;rename_i h0;rw[if_pos h0] at h;cases h;rename_i h0;rw[if_neg h0] at h;simp only at h⊢;generalize (⟨_,_⟩:Rat)=x at h⊢;cases hx:eC x;simp[hx] at h;simp[hx]
theorem Z0{a b:Rat}(h:(ml a b).2=true):eC (ml a b).1=true:=by unfold ml at h⊢;split;rename_i h0;rw[if_pos h0] at h;exact O9 h;rename_i h0;rw[if_neg h0] at h;cases h
theorem U4{m:dZ}{ts:List az}{ns:List Int}{i:Nat}(h:i<ts.length)(h':i<ns.length)(sum:Rat) :
 wu m (ts.drop i) (ns.drop i) sum=if(plus sum ns[i] (value m ts[i])).2 then wu m (ts.drop (i+1)) (ns.drop (i+1)) (plus sum ns[i] (value m ts[i])).1 else none:=by
 rw[ai h,ai h'];rfl
theorem ZA{m:dZ}{ts:List az}{ns:List Int}{i:Nat}(h:ts.length≤i)(sum:Rat):wu m (ts.drop i) (ns.drop i) sum=some sum:=by rw[al h];rfl
theorem Wr{marks:List Int}{i:Nat}(h:i<marks.length)(aP:Int) :
 xp (marks.take i) (marks.drop i) aP=(iq marks[i] aP&&(!((marks.take i).contains marks[i])&&(!((marks.take i).contains (-marks[i]))&&xp (marks.take (i+1)) (marks.drop (i+1)) aP))):=by
 have e:marks.take (i+1)=marks.take i++[marks[i]]:=by rw[bn,ae h];rfl
 rw[ai h,e];rfl
theorem aar{marks:List Int}{i:Nat}(h:marks.length≤i)(aP:Int):xp (marks.take i) (marks.drop i) aP=true:=by rw[al h];rfl
def at0:List Int→Int→Int
 | [],_=>0
 | x::xs,n=>if x=n then 1 else if x = -n then -1 else at0 xs n
theorem zZ{marks:List Int}{aP:Nat}(h:iz marks aP=true):∀m∈marks,m≠0 ∧ -(aP:Int)≤m∧m≤aP:=by
 have key:∀{ms before:List Int},xp before ms aP=true→∀m∈ms,m≠0 ∧ -(aP:Int)≤m∧m≤aP:=by
  intro ms;induction ms with
  | nil=>intro _ _ m hm;simp at hm
  | cons a ms ih=>intro before h m hm;simp only[xp,ab] at h;rcases ax.1 hm with rfl|hm;have:=h.1;simp only[iq,ab,decide_eq_true_eq,dM] at this;exact this;exact ih h.2.2.2 m hm
 exact key h
theorem C3{marks:List Int}{atoms:List bz}{i:Nat}(h:i<marks.length):fl (marks.take (i+1)) atoms=fl (marks.take i) atoms++[⟨atoms.getD (marks[i].natAbs-1) tz,decide (marks[i]<0)⟩]:=by
 have e:marks.take (i+1)=marks.take i++[marks[i]]:=by rw[bn,ae h];rfl
 simp only[fl,e,dA,aJ,cL]
theorem FO:∀(fs:List aU)(out:List bz),EP fs out=bF out fs
 | [],_=>rfl
 | f::fs,out=>by simp only[EP,bF,FO fs]
theorem sr:∀(fs:List aU)(l:List bz),(∀f∈fs,jq f=true)→(bF l fs).length≤l.length+10*fs.length
 | [],l,_=>by simp[bF]
 | f::fs,l,h=>by have h0:=nT (h f (by simp));have h1:=Ds f 5 l h0.1;have h2:=sr fs (ct l f) fun x hx=>h x (by simp[hx]);simp only[bF,aG];omega
theorem pX(au:List aU):cR au=if au.length≤5∧au.all jq=true∧(bF [] au).length≤6 then some (bF [] au) else none:=by unfold cR;rw[FO];simp only[ab,decide_eq_true_eq]
def akF(n:Int):Int:=if n < -1000000000 then 1000000001 else if 1000000000<n then 1000000001 else if n<0 then -n else n
theorem acR{p q:Int}(hp:0≤p)(hq:0<q):0≤p.tmod q∧p.tmod q<q∧dK q (p.tmod q)=dK p q:=by
 have e:p.tmod q=((p.natAbs % q.natAbs:Nat):Int):=by rw[Int.tmod_eq_emod_of_nonneg hp];have h1:(p.natAbs:Int)=p:=oM;have h2:(q.natAbs:Int)=q:=oM;rw[Int.natCast_emod,h1,h2]
 have pz:p.natAbs % q.natAbs<q.natAbs:=Nat.mod_lt _ oM;refine⟨oM,oM,?_⟩;rw[e];simp only[dK,Int.natAbs_natCast];rw[Nat.gcd_comm p.natAbs,Nat.gcd_rec q.natAbs p.natAbs,Nat.gcd_comm]
theorem gcd_zero{p:Int}(hp:0≤p):((dK p 0:Nat):Int)=p:=by simp only[dK,Int.natAbs_zero,Nat.gcd_zero_right];omega
theorem X2{n d:Int}(h:0<d):0<(dK n d:Int):=by have:0<dK n d:=Int.gcd_pos_of_ne_zero_right n oM;omega
theorem yN{n g k:Int}(hg:0<g)(h:-k≤n∧n≤k):-k≤n.tdiv g∧n.tdiv g≤k:=by have e:(n.tdiv g).natAbs=n.natAbs / g.natAbs:=Int.natAbs_tdiv n g;have h2:n.natAbs / g.natAbs≤n.natAbs:=Nat.div_le_self _ _;omega
theorem prod_bound{m b k l:Int}(h1:-k≤m∧m≤k)(h2:-l≤b∧b≤l):-(k*l)≤m*b∧m*b≤k*l:=by have e:(m*b).natAbs=m.natAbs*b.natAbs:=Int.natAbs_mul m b;have h3:m.natAbs*b.natAbs≤k.natAbs*l.natAbs:=Nat.mul_le_mul oM oM;have h4:(k*l).natAbs=k.natAbs*l.natAbs:=Int.natAbs_mul k l;have h5:0≤k*l:=Int.mul_nonneg oM oM;omega
theorem Fj{m b:Int}(h1:-1000000000≤m∧m≤1000000000)(h2:-1000000000≤b∧b≤1000000000):-1000000000000000000≤m*b∧m*b≤1000000000000000000:=by have:=prod_bound h1 h2;omega
theorem aga{m b:Int}(h1:1≤m∧m≤1000000000)(h2:1≤b∧b≤1000000000):1≤m*b∧m*b≤1000000000000000000:=by have:=Fj (m:=m) (b:=b) oM oM;have:=Int.mul_pos (a:=m) (b:=b) oM oM;omega
theorem L3{n d:Int}(hd:1≤d):nw n d=if eC ⟨n.tdiv (dK n d),d.tdiv (dK n d)⟩ then(⟨n.tdiv (dK n d),d.tdiv (dK n d)⟩,true) else(ue,false):=by unfold nw;rw[if_neg oM];simp only[if_neg (show ¬d<0 by omega)]
theorem WY(x y:Rat):Av x.N x.D y.N y.D=decide (x=y):=by cases x;cases y;simp only[Av,Rat.mk.injEq,Bool.decide_and];rfl
theorem QH{s:eV}{m:dZ}{f:aU}(h:zL s f=false):pa s m f=none:=by simp[pa,h]
theorem Lg{s:eV}{m:dZ}{f:aU}(h:xK s m (ct [] f)=none):pa s m f=none:=by unfold pa;split;rw[h];rfl
theorem ME{s:eV}{m:dZ}{f:aU}{v:List Bool}(hf:zL s f=true)(h:xK s m (ct [] f)=some v):pa s m f=R4 f v:=by unfold pa;rw[if_pos hf,h]
theorem RP{m:dZ}{ts:List az}{i:Nat}(h:i<ts.length):dC (values m (ts.take i))++[lM (value m ts[i])]=dC (values m (ts.take (i+1))):=by
 have e:ts.take (i+1)=ts.take i++[ts[i]]:=by rw[bn,ae h];rfl
 rw[oU,oU,e,dA,←Ie];rfl
theorem Di:∀{l:List Nat}(k:Nat),l.Pairwise (fun a b=>a≠b)→l.length≤(l.filter fun x=>decide (x≠k)).length+1
 | [],_,_=>by simp
 | a::l,k,h=>by
  obtain⟨h1,h2⟩:=cS.1 h;rcases aa (a=k) with e|e;have hf:(l.filter fun x=>decide (x≠k))=l:=List.filter_eq_self.2 fun x hx=>by have:=h1 x hx;rw[e] at this;simpa using fun hh=>this hh.symm
  rw[fB,if_neg (by simp[e]),hf,aG];exact aH _;have ih:=Di k h2;rw[fB,if_pos (by simp[e])];simp only[aG];omega
theorem QJ:∀(k:Nat)(l:List Nat),l.Pairwise (fun a b=>a≠b)→(∀x∈l,x<k)→l.length≤k
 | 0,l,_,h=>by
  cases l with
  | nil=>simp
  | cons a l=>exact absurd (h a (by simp)) oM
 | k+1,l,hp,h=>by
  have h1:=Di k hp;have h2:=QJ k (l.filter fun x=>decide (x≠k)) (hp.filter _) fun x hx=>by obtain⟨hx1,hx2⟩:=cX.1 hx;have:=h x hx1;have:x≠k:=(by simpa using hx2);omega
  omega
theorem MC{aP:Int}:∀{ms before:List Int},xp before ms aP=true→ms.Pairwise (fun a b=>a≠b)∧∀m∈ms,m∉before
 | [],_,_=>⟨List.Pairwise.nil,fun m hm=>by simp at hm⟩
 | a::ms,before,h=>by simp only[xp,ab,Bool.not_eq_true'] at h;obtain⟨i1,i2⟩:=MC h.2.2.2;have ha:a∉before:=(by intro jY;have:=List.contains_iff_mem.2 jY;rw[h.2.1] at this;cases this);refine⟨cS.2 ⟨fun b hb e=>i2 b hb (by simp[e]),i1⟩,fun m hm=>?_⟩;rcases ax.1 hm with rfl|hm;exact ha;exact fun hb=>i2 m hm (dH _ hb)
end Go.Mod
