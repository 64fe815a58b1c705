/-
  Slices that share nothing, as trees: numbers, terms, words, formulas. A step towards the exact laws.
-/
import Derived.Test.YtgpjhjalfakpoaaGreatKBEa
import Derived.Test.YtgpjhjalfakpoaaGreatKBDa
import Derived.Test.YtgpjhjalfakpoaaGreatKBX
set_option linter.unusedVariables false
set_option linter.unusedSimpArgs false
open List renaming getElem?_eq_getElem→ab,take_add_one→bu
namespace Go.Proofs.YtgpjhjalfakpoaaGreat
open Go.Eng Go.Mod
set_option maxRecDepth 100000
def tC(ns:List Int):List (List T):=ns.map fun n=>[.leaf (.val (.int .i64 n))]
theorem wK(ns:List Int):lift (aM ns)=tC ns:=by simp[lift,aM,tC]
mutual
def tT:Term→List T
 | .mk name kids=>[.leaf (.str name),.own 28 (nG kids)]
def nG:List Term→List (List T)
 | []=>[]
 | t::ts=>tT t::nG ts
end
def OM(t:Term):List T:=[.leaf (.str t.name),.own 28 (nG t.kids)]
theorem Oz(t:Term):tT t=OM t:=by cases t;rfl
theorem v8:∀(ts:List Term),nG ts=ts.map OM
 | []=>rfl
 | t::ts=>by simp[nG,Oz,v8 ts]
def um(s:Sym):List T:=[.leaf (.str s.name),.own 3 (tC s.args),.leaf (.val (.int .i64 s.sort))]
def pn(l:List Sym):List (List T):=l.map um
mutual
def fT:Mod.Form→List T
 | .mk kind l kids=>[.leaf (.val (.int .i64 kind)),.leaf (.val (.int .i64 l.atom.kind)),.leaf (.str l.atom.A.name),.own 28 (nG l.atom.A.kids),.leaf (.str l.atom.B.name),.own 28 (nG l.atom.B.kids),.own 28 (nG l.atom.aP),.own 3 (tC l.atom.times),.leaf (.val (.int .i64 l.atom.bound)),.leaf (.val (.bool l.atom.strict)),.leaf (.val (.bool l.no)),.own 36 (Oa kids)]
def Oa:List Mod.Form→List (List T)
 | []=>[]
 | t::ts=>fT t::Oa ts
end
def PE(t:Mod.Form):List T:=[.leaf (.val (.int .i64 t.kind)),.leaf (.val (.int .i64 t.lit.atom.kind)),.leaf (.str t.lit.atom.A.name),.own 28 (nG t.lit.atom.A.kids),.leaf (.str t.lit.atom.B.name),.own 28 (nG t.lit.atom.B.kids),.own 28 (nG t.lit.atom.aP),.own 3 (tC t.lit.atom.times),.leaf (.val (.int .i64 t.lit.atom.bound)),.leaf (.val (.bool t.lit.atom.strict)),.leaf (.val (.bool t.lit.no)),.own 36 (Oa t.kids)]
def Pz(fs:List Mod.Form):List T:=[.own 36 (Oa fs)]
def lT(l:List (List Mod.Form)):List (List T):=l.map Pz
theorem CM(ns:List Int):b6 (tC ns)=some (aM ns):=by rw[←wK,lD]
mutual
theorem Nz:∀(t:Term),eb (tT t)=some (cT t)
 | .mk name kids=>by
   have:=oa kids
   simp[tT,eb,T.zr,this,cT,Term.name,Term.kids]
theorem oa:∀(ts:List Term),b6 (nG ts)=some (aQ ts)
 | []=>rfl
 | t::ts=>by
   have h1:=Nz t
   have h2:=oa ts
   simp[nG,b6,h1,h2,eW]
end
theorem oQ:∀(l:List Sym),b6 (pn l)=some (eB l)
 | []=>rfl
 | s::l=>by
   have:=oQ l
   simp only[pn,List.map_cons] at this⊢
   simp[b6,eb,T.zr,um,CM,this,eB,qa]
mutual
theorem Oi:∀(t:Term),Na (tT t)=true
 | .mk name kids=>by
   have:=EJ kids
   simp[tT,Na,T.sd,Mg,this]
theorem EJ:∀(ts:List Term),BP (nG ts)=true
 | []=>rfl
 | t::ts=>by
   have h1:=Oi t
   have h2:=EJ ts
   simp[nG,BP,h1,h2]
end
attribute [go_sem] CM oa oQ EJ wK Option.isSome_some
mutual
theorem J1{m:List Nat}:∀(t:T),t.zr.isSome=true→t.gZ m=t
 | .leaf d,_=>rfl
 | .ref j,h=>by simp[T.zr] at h
 | .own e xs,h=>by
   have:(b6 xs).isSome=true:=by
    cases hx:b6 xs with
    | none=>simp[T.zr,hx] at h
    | some y=>rfl
   simp only[T.gZ,tc xs this]
theorem zD{m:List Nat}:∀(ts:List T),(eb ts).isSome=true→gH m ts=ts
 | [],_=>rfl
 | t::ts,h=>by
   simp only[eb] at h
   cases h1:t.zr with
   | none=>simp[h1] at h
   | some d=>cases h2:eb ts with
     | none=>simp[h1,h2] at h
     | some ds=>simp only[gH,J1 t (by rw[h1];rfl),zD ts (by rw[h2];rfl)]
theorem tc{m:List Nat}:∀(xs:List (List T)),(b6 xs).isSome=true→fZ m xs=xs
 | [],_=>rfl
 | x::xs,h=>by
   simp only[b6] at h
   cases h1:eb x with
   | none=>simp[h1] at h
   | some d=>cases h2:b6 xs with
     | none=>simp[h1,h2] at h
     | some ds=>simp only[fZ,zD x (by rw[h1];rfl),tc xs (by rw[h2];rfl)]
end
theorem LG(m:List Nat)(l:List Term):fZ m (nG l)=nG l:=tc _ (by rw[oa];rfl)
attribute [go_sem] LG
theorem nF(l:List Sym):pn l=l.map um:=rfl
def Pq(n:Int):List T:=[.leaf (.val (.int .i64 n))]
theorem ub(l:List Int):tC l=l.map Pq:=rfl
theorem J0(l:List Int):(tC l).length=l.length:=by rw[ub];simp
theorem HZ(l:List Int)(t:Int):tC l++[Pq t]=tC (l++[t]):=by rw[ub,ub];simp
theorem Ff(l:List Term):(nG l).length=l.length:=by rw[v8];simp
theorem K9(l:List Term)(t:Term):nG l++[OM t]=nG (l++[t]):=by rw[v8,v8];simp
theorem CB{l:List Term}{i:Nat}(h:i<l.length):nG (l.take i)++[OM l[i]]=nG (l.take (i+1)):=by
 have e:l.take (i+1)=l.take i++[l[i]]:=by rw[bu,ab h];rfl
 rw[K9,e]
theorem NH(l:List Term):(b6 (nG l)).isSome=true:=by rw[oa];rfl
theorem xm(l:List Sym):(pn l).length=l.length:=by rw[nF];simp
theorem Ib{l:List Sym}{i:Nat}(h:i<l.length):jR (pn l) i=um l[i]:=by rw[nF];simp[jR,List.getD,ab h]
theorem JS(l:List Sym)(i:Nat)(t:Sym):(pn l).set i (um t)=pn (l.set i t):=by rw[nF,nF,List.map_set]
theorem IJ(l:List Sym)(t:Sym):pn l++[um t]=pn (l++[t]):=by rw[nF,nF];simp
theorem zZ{l:List Sym}{i:Nat}(h:i<l.length):pn (l.take i)++[um l[i]]=pn (l.take (i+1)):=by
 have e:l.take (i+1)=l.take i++[l[i]]:=by rw[bu,ab h];rfl
 rw[IJ,e]
theorem Lg(l:List Sym):(b6 (pn l)).isSome=true:=by rw[oQ];rfl
attribute [go_sem] J0 Ff xm
set_option maxHeartbeats 400000
def Pg(xs:List (List T))(z:List T)(i:Nat):List (List T):=xs.take i++List.replicate (xs.length-i) z
theorem BG:∀{xs ys:List (List T)}{a b:List (List D)},b6 xs=some a→b6 ys=some b→b6 (xs++ys)=some (a++b)
 | [],ys,a,b,h,h'=>by
   simp only[b6,Option.some.injEq] at h
   subst h
   exact h'
 | x::xs,ys,a,b,h,h'=>by
   simp only[b6] at h
   split at h
   ·rename_i y ys' h1 h2
    obtain rfl:=Option.some.inj h
    have:=BG h2 h'
    simp[b6,h1,this]
   ·cases h
def OG(t:Atom)(n:Nat):List PV:=[iv t.kind,sv t.A.name,.acc n,sv t.B.name,.acc (n+1),.acc (n+2),.acc (n+3),iv t.bound,bv t.strict]
def Ov(t:Atom):List (Option En):=[some (.cY 28 (nG t.A.kids)),some (.cY 28 (nG t.B.kids)),some (.cY 28 (nG t.aP)),some (.cY 3 (tC t.times))]
def N2(t:Mod.Form)(n:Nat):List PV:=[iv t.kind,iv t.lit.atom.kind,sv t.lit.atom.A.name,.acc n,sv t.lit.atom.B.name,.acc (n+1),.acc (n+2),.acc (n+3),iv t.lit.atom.bound,bv t.lit.atom.strict,bv t.lit.no,.acc (n+4)]
def NR(t:Mod.Form):List (Option En):=[some (.cY 28 (nG t.lit.atom.A.kids)),some (.cY 28 (nG t.lit.atom.B.kids)),some (.cY 28 (nG t.lit.atom.aP)),some (.cY 3 (tC t.lit.atom.times)),some (.cY 36 (Oa t.kids))]
attribute [go_sem] OG Ov N2 NR
end Go.Proofs.YtgpjhjalfakpoaaGreat
