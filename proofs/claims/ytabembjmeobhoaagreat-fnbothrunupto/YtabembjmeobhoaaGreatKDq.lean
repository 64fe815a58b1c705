/-
  Slices that share nothing, as trees: numbers, terms, words, formulas. A step towards the exact laws.
-/
import Derived.Test.YtabembjmeobhoaaGreatKDEa
import Derived.Test.YtabembjmeobhoaaGreatKDDa
import Derived.Test.YtabembjmeobhoaaGreatKDX
set_option linter.unusedVariables false
set_option linter.unusedSimpArgs false
open List renaming getElem?_eq_getElem→ah,take_add_one→bq
namespace Go.Proofs.YtabembjmeobhoaaGreat
open Go.Eng Go.Mod
set_option maxRecDepth 100000
def AX(ns:List Int):List (List T):=ns.map fun n=>[.leaf (.val (.int .i64 n))]
theorem Ab(ns:List Int):lift (bF ns)=AX ns:=by simp[lift,bF,AX]
mutual
def tT:Term→List T
 | .mk name kids=>[.leaf (.str name),.own 34 (zZ kids)]
def zZ:List Term→List (List T)
 | []=>[]
 | t::ts=>tT t::zZ ts
end
def cTT(t:Term):List T:=[.leaf (.str t.name),.own 34 (zZ t.kids)]
theorem aa4(t:Term):tT t=cTT t:=by cases t;rfl
theorem Fo:∀(ts:List Term),zZ ts=ts.map cTT
 | []=>rfl
 | t::ts=>by simp[zZ,aa4,Fo ts]
def DL(s:Sym):List T:=[.leaf (.str s.name),.own 3 (AX s.args),.leaf (.val (.int .i64 s.sort))]
def w9(l:List Sym):List (List T):=l.map DL
theorem HP(ns:List Int):cX (AX ns)=some (bF ns):=by rw[←Ab,nc]
mutual
theorem Zz:∀(t:Term),gi (tT t)=some (cT t)
 | .mk name kids=>by
   have:=vq kids
   simp[tT,gi,T.G0,this,cT,Term.name,Term.kids]
theorem vq:∀(ts:List Term),cX (zZ ts)=some (aN ts)
 | []=>rfl
 | t::ts=>by
   have h1:=Zz t
   have h2:=vq ts
   simp[zZ,cX,h1,h2,dC]
end
theorem xO:∀(l:List Sym),cX (w9 l)=some (dY l)
 | []=>rfl
 | s::l=>by
   have:=xO l
   simp only[w9,List.map_cons] at this⊢
   simp[cX,gi,T.G0,DL,HP,this,dY,wK]
mutual
theorem abj:∀(t:Term),Zn (tT t)=true
 | .mk name kids=>by
   have:=Qb kids
   simp[tT,Zn,T.sd,Y9,this]
theorem Qb:∀(ts:List Term),MS (zZ ts)=true
 | []=>rfl
 | t::ts=>by
   have h1:=abj t
   have h2:=Qb ts
   simp[zZ,MS,h1,h2]
end
attribute [go_sem] HP vq xO Qb Ab Option.isSome_some
mutual
theorem TZ{m:List Nat}:∀(t:T),t.G0.isSome=true→t.mc m=t
 | .leaf d,_=>rfl
 | .ref j,h=>by simp[T.G0] at h
 | .own e xs,h=>by
   have:(cX xs).isSome=true:=by
    cases hx:cX xs with
    | none=>simp[T.G0,hx] at h
    | some y=>rfl
   simp only[T.mc,Cm xs this]
theorem I6{m:List Nat}:∀(ts:List T),(gi ts).isSome=true→lM m ts=ts
 | [],_=>rfl
 | t::ts,h=>by
   simp only[gi] at h
   cases h1:t.G0 with
   | none=>simp[h1] at h
   | some d=>cases h2:gi ts with
     | none=>simp[h1,h2] at h
     | some ds=>simp only[lM,TZ t (by rw[h1];rfl),I6 ts (by rw[h2];rfl)]
theorem Cm{m:List Nat}:∀(xs:List (List T)),(cX xs).isSome=true→kK m xs=xs
 | [],_=>rfl
 | x::xs,h=>by
   simp only[cX] at h
   cases h1:gi x with
   | none=>simp[h1] at h
   | some d=>cases h2:cX xs with
     | none=>simp[h1,h2] at h
     | some ds=>simp only[kK,I6 x (by rw[h1];rfl),Cm xs (by rw[h2];rfl)]
end
theorem XL(m:List Nat)(l:List Term):kK m (zZ l)=zZ l:=Cm _ (by rw[vq];rfl)
attribute [go_sem] XL
theorem uM(l:List Sym):w9 l=l.map DL:=rfl
def cIT(n:Int):List T:=[.leaf (.val (.int .i64 n))]
theorem C4(l:List Int):AX l=l.map cIT:=rfl
theorem VK(l:List Int):(AX l).length=l.length:=by rw[C4];simp
theorem WR(l:List Int)(t:Int):AX l++[cIT t]=AX (l++[t]):=by rw[C4,C4];simp
theorem RN(l:List Term):(zZ l).length=l.length:=by rw[Fo];simp
theorem YJ(l:List Term)(t:Term):zZ l++[cTT t]=zZ (l++[t]):=by rw[Fo,Fo];simp
theorem NU{l:List Term}{i:Nat}(h:i<l.length):zZ (l.take i)++[cTT l[i]]=zZ (l.take (i+1)):=by
 have e:l.take (i+1)=l.take i++[l[i]]:=by rw[bq,ah h];rfl
 rw[YJ,e]
theorem Zj(l:List Term):(cX (zZ l)).isSome=true:=by rw[vq];rfl
theorem G6(l:List Sym):(w9 l).length=l.length:=by rw[uM];simp
theorem WE{l:List Sym}{i:Nat}(h:i<l.length):oQ (w9 l) i=DL l[i]:=by rw[uM];simp[oQ,List.getD,ah h]
theorem UU(l:List Sym)(i:Nat)(t:Sym):(w9 l).set i (DL t)=w9 (l.set i t):=by rw[uM,uM,List.map_set]
theorem VM(l:List Sym)(t:Sym):w9 l++[DL t]=w9 (l++[t]):=by rw[uM,uM];simp
theorem JU{l:List Sym}{i:Nat}(h:i<l.length):w9 (l.take i)++[DL l[i]]=w9 (l.take (i+1)):=by
 have e:l.take (i+1)=l.take i++[l[i]]:=by rw[bq,ah h];rfl
 rw[VM,e]
theorem Xh(l:List Sym):(cX (w9 l)).isSome=true:=by rw[xO];rfl
attribute [go_sem] VK RN G6
set_option maxHeartbeats 400000
def ab3(xs:List (List T))(z:List T)(i:Nat):List (List T):=xs.take i++List.replicate (xs.length-i) z
theorem Ku:∀{xs ys:List (List T)}{a b:List (List D)},cX xs=some a→cX ys=some b→cX (xs++ys)=some (a++b)
 | [],ys,a,b,h,h'=>by
   simp only[cX,Option.some.injEq] at h
   subst h
   exact h'
 | x::xs,ys,a,b,h,h'=>by
   simp only[cX] at h
   split at h
   ·rename_i y ys' h1 h2
    obtain rfl:=Option.some.inj h
    have:=Ku h2 h'
    simp[cX,h1,this]
   ·cases h
def abc(t:Atom)(n:Nat):List PV:=[iv t.kind,sv t.A.name,.acc n,sv t.B.name,.acc (n+1),.acc (n+2),.acc (n+3),iv t.bound,bv t.strict]
def aaK(t:Atom):List (Option En):=[some (.fk 34 (zZ t.A.kids)),some (.fk 34 (zZ t.B.kids)),some (.fk 34 (zZ t.nums)),some (.fk 3 (AX t.times))]
def abt(t:Mod.Form)(n:Nat):List PV:=[iv t.kind,iv t.lit.atom.kind,sv t.lit.atom.A.name,.acc n,sv t.lit.atom.B.name,.acc (n+1),.acc (n+2),.acc (n+3),iv t.lit.atom.bound,bv t.lit.atom.strict,bv t.lit.no,.acc (n+4)]
attribute [go_sem] abc aaK abt
end Go.Proofs.YtabembjmeobhoaaGreat
