/-
  Slices that share nothing, as trees: numbers, terms, words, formulas. A step towards the exact laws.
-/
import Derived.Test.YtgpjhjalfakpoaaGreatKAEa
import Derived.Test.YtgpjhjalfakpoaaGreatKADa
import Derived.Test.YtgpjhjalfakpoaaGreatKAX
set_option linter.unusedVariables false
set_option linter.unusedSimpArgs false
open List renaming getElem?_eq_getElem→ab,take_add_one→br
namespace Go.Proofs.YtgpjhjalfakpoaaGreat
open Go.Eng Go.Mod
set_option maxRecDepth 100000
def sE(ns:List Int):List (List T):=ns.map fun n=>[.leaf (.val (.int .i64 n))]
theorem xU(ns:List Int):lift (aL ns)=sE ns:=by simp[lift,aL,sE]
mutual
def tT:Term→List T
 | .mk name kids=>[.leaf (.str name),.own 28 (ng kids)]
def ng:List Term→List (List T)
 | []=>[]
 | t::ts=>tT t::ng ts
end
def NW(t:Term):List T:=[.leaf (.str t.name),.own 28 (ng t.kids)]
theorem M1(t:Term):tT t=NW t:=by cases t;rfl
theorem vr:∀(ts:List Term),ng ts=ts.map NW
 | []=>rfl
 | t::ts=>by simp[ng,M1,vr ts]
def uh(s:Sym):List T:=[.leaf (.str s.name),.own 3 (sE s.args),.leaf (.val (.int .i64 s.sort))]
def oQ(l:List Sym):List (List T):=l.map uh
mutual
def fT:Mod.Form→List T
 | .mk kind l kids=>[.leaf (.val (.int .i64 kind)),.leaf (.val (.int .i64 l.atom.kind)),.leaf (.str l.atom.A.name),.own 28 (ng l.atom.A.kids),.leaf (.str l.atom.B.name),.own 28 (ng l.atom.B.kids),.own 28 (ng l.atom.aM),.own 3 (sE l.atom.times),.leaf (.val (.int .i64 l.atom.bound)),.leaf (.val (.bool l.atom.strict)),.leaf (.val (.bool l.no)),.own 36 (No kids)]
def No:List Mod.Form→List (List T)
 | []=>[]
 | t::ts=>fT t::No ts
end
def OS(t:Mod.Form):List T:=[.leaf (.val (.int .i64 t.kind)),.leaf (.val (.int .i64 t.lit.atom.kind)),.leaf (.str t.lit.atom.A.name),.own 28 (ng t.lit.atom.A.kids),.leaf (.str t.lit.atom.B.name),.own 28 (ng t.lit.atom.B.kids),.own 28 (ng t.lit.atom.aM),.own 3 (sE t.lit.atom.times),.leaf (.val (.int .i64 t.lit.atom.bound)),.leaf (.val (.bool t.lit.atom.strict)),.leaf (.val (.bool t.lit.no)),.own 36 (No t.kids)]
def OG(fs:List Mod.Form):List T:=[.own 36 (No fs)]
def lT(l:List (List Mod.Form)):List (List T):=l.map OG
theorem BD(ns:List Int):bW (sE ns)=some (aL ns):=by rw[←xU,la]
mutual
theorem LR:∀(t:Term),dQ (tT t)=some (cT t)
 | .mk name kids=>by
   have:=nB kids
   simp[tT,dQ,T.zh,this,cT,Term.name,Term.kids]
theorem nB:∀(ts:List Term),bW (ng ts)=some (aN ts)
 | []=>rfl
 | t::ts=>by
   have h1:=LR t
   have h2:=nB ts
   simp[ng,bW,h1,h2,eB]
end
theorem oX:∀(l:List Sym),bW (oQ l)=some (dW l)
 | []=>rfl
 | s::l=>by
   have:=oX l
   simp only[oQ,List.map_cons] at this⊢
   simp[bW,dQ,T.zh,uh,BD,this,dW,pB]
mutual
theorem NL:∀(t:Term),LY (tT t)=true
 | .mk name kids=>by
   have:=DH kids
   simp[tT,LY,T.sd,Le,this]
theorem DH:∀(ts:List Term),B8 (ng ts)=true
 | []=>rfl
 | t::ts=>by
   have h1:=NL t
   have h2:=DH ts
   simp[ng,B8,h1,h2]
end
attribute [go_sem] BD nB oX DH xU Option.isSome_some
mutual
theorem Ic{m:List Nat}:∀(t:T),t.zh.isSome=true→t.gN m=t
 | .leaf d,_=>rfl
 | .ref j,h=>by simp[T.zh] at h
 | .own e xs,h=>by
   have:(bW xs).isSome=true:=by
    cases hx:bW xs with
    | none=>simp[T.zh,hx] at h
    | some y=>rfl
   simp only[T.gN,sY xs this]
theorem zg{m:List Nat}:∀(ts:List T),(dQ ts).isSome=true→gw m ts=ts
 | [],_=>rfl
 | t::ts,h=>by
   simp only[dQ] at h
   cases h1:t.zh with
   | none=>simp[h1] at h
   | some d=>cases h2:dQ ts with
     | none=>simp[h1,h2] at h
     | some ds=>simp only[gw,Ic t (by rw[h1];rfl),zg ts (by rw[h2];rfl)]
theorem sY{m:List Nat}:∀(xs:List (List T)),(bW xs).isSome=true→fL m xs=xs
 | [],_=>rfl
 | x::xs,h=>by
   simp only[bW] at h
   cases h1:dQ x with
   | none=>simp[h1] at h
   | some d=>cases h2:bW xs with
     | none=>simp[h1,h2] at h
     | some ds=>simp only[fL,zg x (by rw[h1];rfl),sY xs (by rw[h2];rfl)]
end
theorem Jt(m:List Nat)(l:List Term):fL m (ng l)=ng l:=sY _ (by rw[nB];rfl)
attribute [go_sem] Jt
theorem nf(l:List Sym):oQ l=l.map uh:=rfl
def Ot(n:Int):List T:=[.leaf (.val (.int .i64 n))]
theorem s6(l:List Int):sE l=l.map Ot:=rfl
theorem GU(l:List Int):(sE l).length=l.length:=by rw[s6];simp
theorem Iq(l:List Int)(t:Int):sE l++[Ot t]=sE (l++[t]):=by rw[s6,s6];simp
theorem Fe(l:List Term):(ng l).length=l.length:=by rw[vr];simp
theorem JM(l:List Term)(t:Term):ng l++[NW t]=ng (l++[t]):=by rw[vr,vr];simp
theorem CF{l:List Term}{i:Nat}(h:i<l.length):ng (l.take i)++[NW l[i]]=ng (l.take (i+1)):=by
 have e:l.take (i+1)=l.take i++[l[i]]:=by rw[br,ab h];rfl
 rw[JM,e]
theorem LJ(l:List Term):(bW (ng l)).isSome=true:=by rw[nB];rfl
theorem wW(l:List Sym):(oQ l).length=l.length:=by rw[nf];simp
theorem Ip{l:List Sym}{i:Nat}(h:i<l.length):jF (oQ l) i=uh l[i]:=by rw[nf];simp[jF,List.getD,ab h]
theorem G6(l:List Sym)(i:Nat)(t:Sym):(oQ l).set i (uh t)=oQ (l.set i t):=by rw[nf,nf,List.map_set]
theorem Je(l:List Sym)(t:Sym):oQ l++[uh t]=oQ (l++[t]):=by rw[nf,nf];simp
theorem zC{l:List Sym}{i:Nat}(h:i<l.length):oQ (l.take i)++[uh l[i]]=oQ (l.take (i+1)):=by
 have e:l.take (i+1)=l.take i++[l[i]]:=by rw[br,ab h];rfl
 rw[Je,e]
theorem Ko(l:List Sym):(bW (oQ l)).isSome=true:=by rw[oX];rfl
attribute [go_sem] GU Fe wW
set_option maxHeartbeats 400000
def Ow(xs:List (List T))(z:List T)(i:Nat):List (List T):=xs.take i++List.replicate (xs.length-i) z
theorem AZ:∀{xs ys:List (List T)}{a b:List (List D)},bW xs=some a→bW ys=some b→bW (xs++ys)=some (a++b)
 | [],ys,a,b,h,h'=>by
   simp only[bW,Option.some.injEq] at h
   subst h
   exact h'
 | x::xs,ys,a,b,h,h'=>by
   simp only[bW] at h
   split at h
   ·rename_i y ys' h1 h2
    obtain rfl:=Option.some.inj h
    have:=AZ h2 h'
    simp[bW,h1,this]
   ·cases h
def Ns(t:Atom)(n:Nat):List PV:=[iv t.kind,sv t.A.name,.acc n,sv t.B.name,.acc (n+1),.acc (n+2),.acc (n+3),iv t.bound,bv t.strict]
def NN(t:Atom):List (Option En):=[some (.cU 28 (ng t.A.kids)),some (.cU 28 (ng t.B.kids)),some (.cU 28 (ng t.aM)),some (.cU 3 (sE t.times))]
def Ni(t:Mod.Form)(n:Nat):List PV:=[iv t.kind,iv t.lit.atom.kind,sv t.lit.atom.A.name,.acc n,sv t.lit.atom.B.name,.acc (n+1),.acc (n+2),.acc (n+3),iv t.lit.atom.bound,bv t.lit.atom.strict,bv t.lit.no,.acc (n+4)]
def Na(t:Mod.Form):List (Option En):=[some (.cU 28 (ng t.lit.atom.A.kids)),some (.cU 28 (ng t.lit.atom.B.kids)),some (.cU 28 (ng t.lit.atom.aM)),some (.cU 3 (sE t.lit.atom.times)),some (.cU 36 (No t.kids))]
attribute [go_sem] Ns NN Ni Na
end Go.Proofs.YtgpjhjalfakpoaaGreat
