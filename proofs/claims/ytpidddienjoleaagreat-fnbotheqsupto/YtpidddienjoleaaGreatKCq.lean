/-
  Slices that share nothing, as trees: numbers, terms, words, formulas. A step towards the exact laws.
-/
import Derived.Test.YtpidddienjoleaaGreatKCF
import Derived.Test.YtpidddienjoleaaGreatKCEa
import Derived.Test.YtpidddienjoleaaGreatKCDa
import Derived.Test.YtpidddienjoleaaGreatKCX
set_option linter.unusedVariables false
set_option linter.unusedSimpArgs false
namespace Go.Proofs.YtpidddienjoleaaGreat
open Go.Eng Go.Mod
set_option maxRecDepth 100000
def pX(ns:List Int):List (List T):=ns.map fun n=>[.leaf (.val (.int .i64 n))]
theorem rn(ns:List Int):lift (aO ns)=pX ns:=by simp[lift,aO,pX]
mutual
def tT:Term→List T
 | .mk name kids=>[.leaf (.str name),.own 35 (mC kids)]
def mC:List Term→List (List T)
 | []=>[]
 | t::ts=>tT t::mC ts
end
def Q5(t:Term):List T:=[.leaf (.str t.name),.own 35 (mC t.kids)]
theorem Qn(t:Term):tT t=Q5 t:=by cases t;rfl
theorem wJ:∀(ts:List Term),mC ts=ts.map Q5
 | []=>rfl
 | t::ts=>by simp[mC,Qn,wJ ts]
def uG(s:Sym):List T:=[.leaf (.str s.name),.own 3 (pX s.args),.leaf (.val (.int .i64 s.sort))]
def oG(l:List Sym):List (List T):=l.map uG
mutual
def fT:Mod.Form→List T
 | .mk kind l kids=>[.leaf (.val (.int .i64 kind)),.leaf (.val (.int .i64 l.atom.kind)),.leaf (.str l.atom.A.name),.own 35 (mC l.atom.A.kids),.leaf (.str l.atom.B.name),.own 35 (mC l.atom.B.kids),.own 35 (mC l.atom.nums),.own 3 (pX l.atom.times),.leaf (.val (.int .i64 l.atom.bound)),.leaf (.val (.bool l.atom.strict)),.leaf (.val (.bool l.no)),.own 112 (QG kids)]
def QG:List Mod.Form→List (List T)
 | []=>[]
 | t::ts=>fT t::QG ts
end
def R0(t:Mod.Form):List T:=[.leaf (.val (.int .i64 t.kind)),.leaf (.val (.int .i64 t.lit.atom.kind)),.leaf (.str t.lit.atom.A.name),.own 35 (mC t.lit.atom.A.kids),.leaf (.str t.lit.atom.B.name),.own 35 (mC t.lit.atom.B.kids),.own 35 (mC t.lit.atom.nums),.own 3 (pX t.lit.atom.times),.leaf (.val (.int .i64 t.lit.atom.bound)),.leaf (.val (.bool t.lit.atom.strict)),.leaf (.val (.bool t.lit.no)),.own 112 (QG t.kids)]
def RT(fs:List Mod.Form):List T:=[.own 112 (QG fs)]
def lT(l:List (List Mod.Form)):List (List T):=l.map RT
theorem xk(ns:List Int):aU (pX ns)=some (aO ns):=by rw[←rn,fQ]
mutual
theorem OU:∀(t:Term),bX (tT t)=some (cT t)
 | .mk name kids=>by
   have:=nk kids
   simp[tT,bX,T.yF,this,cT,Term.name,Term.kids]
theorem nk:∀(ts:List Term),aU (mC ts)=some (ai ts)
 | []=>rfl
 | t::ts=>by
   have h1:=OU t
   have h2:=nk ts
   simp[mC,aU,h1,h2,ba]
end
theorem oA:∀(l:List Sym),aU (oG l)=some (cM l)
 | []=>rfl
 | s::l=>by
   have:=oA l
   simp only[oG,List.map_cons] at this⊢
   simp[aU,bX,T.yF,uG,xk,this,cM,oh]
mutual
theorem Qq:∀(t:Term),Pu (tT t)=true
 | .mk name kids=>by
   have:=GK kids
   simp[tT,Pu,T.sd,Ot,this]
theorem GK:∀(ts:List Term),Eg (mC ts)=true
 | []=>rfl
 | t::ts=>by
   have h1:=Qq t
   have h2:=GK ts
   simp[mC,Eg,h1,h2]
end
attribute [go_sem] xk nk oA GK rn Option.isSome_some
mutual
theorem JV{m:List Nat}:∀(t:T),t.yF.isSome=true→t.fl m=t
 | .leaf d,_=>rfl
 | .ref j,h=>by simp[T.yF] at h
 | .own e xs,h=>by
   have:(aU xs).isSome=true:=by
    cases hx:aU xs with
    | none=>simp[T.yF,hx] at h
    | some y=>rfl
   simp only[T.fl,tC xs this]
theorem Ax{m:List Nat}:∀(ts:List T),(bX ts).isSome=true→e7 m ts=ts
 | [],_=>rfl
 | t::ts,h=>by
   simp only[bX] at h
   cases h1:t.yF with
   | none=>simp[h1] at h
   | some d=>cases h2:bX ts with
     | none=>simp[h1,h2] at h
     | some ds=>simp only[e7,JV t (by rw[h1];rfl),Ax ts (by rw[h2];rfl)]
theorem tC{m:List Nat}:∀(xs:List (List T)),(aU xs).isSome=true→eu m xs=xs
 | [],_=>rfl
 | x::xs,h=>by
   simp only[aU] at h
   cases h1:bX x with
   | none=>simp[h1] at h
   | some d=>cases h2:aU xs with
     | none=>simp[h1,h2] at h
     | some ds=>simp only[eu,Ax x (by rw[h1];rfl),tC xs (by rw[h2];rfl)]
end
theorem NQ(m:List Nat)(l:List Term):eu m (mC l)=mC l:=tC _ (by rw[nk];rfl)
attribute [go_sem] NQ
theorem lY(l:List Sym):oG l=l.map uG:=rfl
def RK(n:Int):List T:=[.leaf (.val (.int .i64 n))]
theorem tR(l:List Int):pX l=l.map RK:=rfl
theorem L0(l:List Int):(pX l).length=l.length:=by rw[tR];simp
theorem Jz(l:List Int)(t:Int):pX l++[RK t]=pX (l++[t]):=by rw[tR,tR];simp
theorem HY(l:List Term):(mC l).length=l.length:=by rw[wJ];simp
theorem Oe(l:List Term)(t:Term):mC l++[Q5 t]=mC (l++[t]):=by rw[wJ,wJ];simp
theorem Eu{l:List Term}{i:Nat}(h:i<l.length):mC (l.take i)++[Q5 l[i]]=mC (l.take (i+1)):=by
 have e:l.take (i+1)=l.take i++[l[i]]:=by rw[List.take_add_one,List.getElem?_eq_getElem h];rfl
 rw[Oe,e]
theorem Py(l:List Term):(aU (mC l)).isSome=true:=by rw[nk];rfl
theorem xm(l:List Sym):(oG l).length=l.length:=by rw[lY];simp
theorem Mm{l:List Sym}{i:Nat}(h:i<l.length):hJ (oG l) i=uG l[i]:=by rw[lY];simp[hJ,List.getD,List.getElem?_eq_getElem h]
theorem Mf(l:List Sym)(i:Nat)(t:Sym):(oG l).set i (uG t)=oG (l.set i t):=by rw[lY,lY,List.map_set]
theorem Lr(l:List Sym)(t:Sym):oG l++[uG t]=oG (l++[t]):=by rw[lY,lY];simp
theorem A7{l:List Sym}{i:Nat}(h:i<l.length):oG (l.take i)++[uG l[i]]=oG (l.take (i+1)):=by
 have e:l.take (i+1)=l.take i++[l[i]]:=by rw[List.take_add_one,List.getElem?_eq_getElem h];rfl
 rw[Lr,e]
theorem MU(l:List Sym):(aU (oG l)).isSome=true:=by rw[oA];rfl
attribute [go_sem] L0 HY xm
end Go.Proofs.YtpidddienjoleaaGreat
namespace Go.Proofs.YtpidddienjoleaaGreat
open Go.Eng Go.Mod
set_option maxRecDepth 100000
set_option maxHeartbeats 400000
def RB(xs:List (List T))(z:List T)(i:Nat):List (List T):=xs.take i++List.replicate (xs.length-i) z
theorem Bu:∀{xs ys:List (List T)}{a b:List (List D)},aU xs=some a→aU ys=some b→aU (xs++ys)=some (a++b)
 | [],ys,a,b,h,h'=>by
   simp only[aU,Option.some.injEq] at h
   subst h
   exact h'
 | x::xs,ys,a,b,h,h'=>by
   simp only[aU] at h
   split at h
   ·rename_i y ys' h1 h2
    obtain rfl:=Option.some.inj h
    have:=Bu h2 h'
    simp[aU,h1,this]
   ·cases h
def QT(t:Atom)(n:Nat):List PV:=[iv t.kind,sv t.A.name,.acc n,sv t.B.name,.acc (n+1),.acc (n+2),.acc (n+3),iv t.bound,bv t.strict]
def QY(t:Atom):List (Option En):=[some (.bM 35 (mC t.A.kids)),some (.bM 35 (mC t.B.kids)),some (.bM 35 (mC t.nums)),some (.bM 3 (pX t.times))]
def QH(t:Mod.Form)(n:Nat):List PV:=[iv t.kind,iv t.lit.atom.kind,sv t.lit.atom.A.name,.acc n,sv t.lit.atom.B.name,.acc (n+1),.acc (n+2),.acc (n+3),iv t.lit.atom.bound,bv t.lit.atom.strict,bv t.lit.no,.acc (n+4)]
def QL(t:Mod.Form):List (Option En):=[some (.bM 35 (mC t.lit.atom.A.kids)),some (.bM 35 (mC t.lit.atom.B.kids)),some (.bM 35 (mC t.lit.atom.nums)),some (.bM 3 (pX t.lit.atom.times)),some (.bM 112 (QG t.kids))]
attribute [go_sem] QT QY QH QL
end Go.Proofs.YtpidddienjoleaaGreat
