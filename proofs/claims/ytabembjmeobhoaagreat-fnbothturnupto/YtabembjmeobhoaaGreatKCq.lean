/-
  Slices that share nothing, as trees: numbers, terms, words, formulas. A step towards the exact laws.
-/
import Derived.Test.YtabembjmeobhoaaGreatKCEa
import Derived.Test.YtabembjmeobhoaaGreatKCDa
import Derived.Test.YtabembjmeobhoaaGreatKCX
set_option linter.unusedVariables false
set_option linter.unusedSimpArgs false
open List renaming getElem?_eq_getElem→af,take_add_one→bq
namespace Go.Proofs.YtabembjmeobhoaaGreat
open Go.Eng Go.Mod
set_option maxRecDepth 100000
def BG(ns:List Int):List (List T):=ns.map fun n=>[.leaf (.val (.int .i64 n))]
theorem Ay(ns:List Int):lift (bI ns)=BG ns:=by simp[lift,bI,BG]
mutual
def tT:Term→List T
 | .mk name kids=>[.leaf (.str name),.own 34 (zZ kids)]
def zZ:List Term→List (List T)
 | []=>[]
 | t::ts=>tT t::zZ ts
end
def cTT(t:Term):List T:=[.leaf (.str t.name),.own 34 (zZ t.kids)]
theorem abm(t:Term):tT t=cTT t:=by cases t;rfl
theorem Fc:∀(ts:List Term),zZ ts=ts.map cTT
 | []=>rfl
 | t::ts=>by simp[zZ,abm,Fc ts]
def Dx(s:Sym):List T:=[.leaf (.str s.name),.own 3 (BG s.args),.leaf (.val (.int .i64 s.sort))]
def xP(l:List Sym):List (List T):=l.map Dx
theorem F3(ns:List Int):cZ (BG ns)=some (bI ns):=by rw[←Ay,nh]
mutual
theorem aas:∀(t:Term),gm (tT t)=some (cT t)
 | .mk name kids=>by
   have:=we kids
   simp[tT,gm,T.Gl,this,cT,Term.name,Term.kids]
theorem we:∀(ts:List Term),cZ (zZ ts)=some (aN ts)
 | []=>rfl
 | t::ts=>by
   have h1:=aas t
   have h2:=we ts
   simp[zZ,cZ,h1,h2,dJ]
end
theorem xO:∀(l:List Sym),cZ (xP l)=some (eF l)
 | []=>rfl
 | s::l=>by
   have:=xO l
   simp only[xP,List.map_cons] at this⊢
   simp[cZ,gm,T.Gl,Dx,F3,this,eF,wH]
mutual
theorem abD:∀(t:Term),ZP (tT t)=true
 | .mk name kids=>by
   have:=P5 kids
   simp[tT,ZP,T.sd,Zr,this]
theorem P5:∀(ts:List Term),Oy (zZ ts)=true
 | []=>rfl
 | t::ts=>by
   have h1:=abD t
   have h2:=P5 ts
   simp[zZ,Oy,h1,h2]
end
attribute [go_sem] F3 we xO P5 Ay Option.isSome_some
mutual
theorem VF{m:List Nat}:∀(t:T),t.Gl.isSome=true→t.mo m=t
 | .leaf d,_=>rfl
 | .ref j,h=>by simp[T.Gl] at h
 | .own e xs,h=>by
   have:(cZ xs).isSome=true:=by
    cases hx:cZ xs with
    | none=>simp[T.Gl,hx] at h
    | some y=>rfl
   simp only[T.mo,CA xs this]
theorem Km{m:List Nat}:∀(ts:List T),(gm ts).isSome=true→lV m ts=ts
 | [],_=>rfl
 | t::ts,h=>by
   simp only[gm] at h
   cases h1:t.Gl with
   | none=>simp[h1] at h
   | some d=>cases h2:gm ts with
     | none=>simp[h1,h2] at h
     | some ds=>simp only[lV,VF t (by rw[h1];rfl),Km ts (by rw[h2];rfl)]
theorem CA{m:List Nat}:∀(xs:List (List T)),(cZ xs).isSome=true→kN m xs=xs
 | [],_=>rfl
 | x::xs,h=>by
   simp only[cZ] at h
   cases h1:gm x with
   | none=>simp[h1] at h
   | some d=>cases h2:cZ xs with
     | none=>simp[h1,h2] at h
     | some ds=>simp only[kN,Km x (by rw[h1];rfl),CA xs (by rw[h2];rfl)]
end
theorem Ze(m:List Nat)(l:List Term):kN m (zZ l)=zZ l:=CA _ (by rw[we];rfl)
attribute [go_sem] Ze
theorem uX(l:List Sym):xP l=l.map Dx:=rfl
def cIT(n:Int):List T:=[.leaf (.val (.int .i64 n))]
theorem Df(l:List Int):BG l=l.map cIT:=rfl
theorem VQ(l:List Int):(BG l).length=l.length:=by rw[Df];simp
theorem Uw(l:List Int)(t:Int):BG l++[cIT t]=BG (l++[t]):=by rw[Df,Df];simp
theorem SG(l:List Term):(zZ l).length=l.length:=by rw[Fc];simp
theorem YS(l:List Term)(t:Term):zZ l++[cTT t]=zZ (l++[t]):=by rw[Fc,Fc];simp
theorem OM{l:List Term}{i:Nat}(h:i<l.length):zZ (l.take i)++[cTT l[i]]=zZ (l.take (i+1)):=by
 have e:l.take (i+1)=l.take i++[l[i]]:=by rw[bq,af h];rfl
 rw[YS,e]
theorem aaj(l:List Term):(cZ (zZ l)).isSome=true:=by rw[we];rfl
theorem Hb(l:List Sym):(xP l).length=l.length:=by rw[uX];simp
theorem US{l:List Sym}{i:Nat}(h:i<l.length):oN (xP l) i=Dx l[i]:=by rw[uX];simp[oN,List.getD,af h]
theorem Up(l:List Sym)(i:Nat)(t:Sym):(xP l).set i (Dx t)=xP (l.set i t):=by rw[uX,uX,List.map_set]
theorem UU(l:List Sym)(t:Sym):xP l++[Dx t]=xP (l++[t]):=by rw[uX,uX];simp
theorem KE{l:List Sym}{i:Nat}(h:i<l.length):xP (l.take i)++[Dx l[i]]=xP (l.take (i+1)):=by
 have e:l.take (i+1)=l.take i++[l[i]]:=by rw[bq,af h];rfl
 rw[UU,e]
theorem YE(l:List Sym):(cZ (xP l)).isSome=true:=by rw[xO];rfl
attribute [go_sem] VQ SG Hb
set_option maxHeartbeats 400000
def acH(xs:List (List T))(z:List T)(i:Nat):List (List T):=xs.take i++List.replicate (xs.length-i) z
theorem Lm:∀{xs ys:List (List T)}{a b:List (List D)},cZ xs=some a→cZ ys=some b→cZ (xs++ys)=some (a++b)
 | [],ys,a,b,h,h'=>by
   simp only[cZ,Option.some.injEq] at h
   subst h
   exact h'
 | x::xs,ys,a,b,h,h'=>by
   simp only[cZ] at h
   split at h
   ·rename_i y ys' h1 h2
    obtain rfl:=Option.some.inj h
    have:=Lm h2 h'
    simp[cZ,h1,this]
   ·cases h
def abq(t:Atom)(n:Nat):List PV:=[iv t.kind,sv t.A.name,.acc n,sv t.B.name,.acc (n+1),.acc (n+2),.acc (n+3),iv t.bound,bv t.strict]
def abw(t:Atom):List (Option En):=[some (.fw 34 (zZ t.A.kids)),some (.fw 34 (zZ t.B.kids)),some (.fw 34 (zZ t.nums)),some (.fw 3 (BG t.times))]
def abR(t:Mod.Form)(n:Nat):List PV:=[iv t.kind,iv t.lit.atom.kind,sv t.lit.atom.A.name,.acc n,sv t.lit.atom.B.name,.acc (n+1),.acc (n+2),.acc (n+3),iv t.lit.atom.bound,bv t.lit.atom.strict,bv t.lit.no,.acc (n+4)]
attribute [go_sem] abq abw abR
end Go.Proofs.YtabembjmeobhoaaGreat
