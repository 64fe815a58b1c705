/-
  Slices that share nothing, as trees: numbers, terms, words, formulas. A step towards the exact laws.
-/
import Derived.Test.YtabembjmeobhoaaGreatKBEa
import Derived.Test.YtabembjmeobhoaaGreatKBDa
import Derived.Test.YtabembjmeobhoaaGreatKBX
set_option linter.unusedVariables false
set_option linter.unusedSimpArgs false
open List renaming getElem?_eq_getElem→ah,take_add_one→bC
namespace Go.Proofs.YtabembjmeobhoaaGreat
open Go.Eng Go.Mod
set_option maxRecDepth 100000
def zZ(ns:List Int):List (List T):=ns.map fun n=>[.leaf (.val (.int .i64 n))]
theorem yY(ns:List Int):lift (bG ns)=zZ ns:=by simp[lift,bG,zZ]
mutual
def tT:Term→List T
 | .mk name kids=>[.leaf (.str name),.own 34 (zA kids)]
def zA:List Term→List (List T)
 | []=>[]
 | t::ts=>tT t::zA ts
end
def cTT(t:Term):List T:=[.leaf (.str t.name),.own 34 (zA t.kids)]
theorem aaq(t:Term):tT t=cTT t:=by cases t;rfl
theorem Ek:∀(ts:List Term),zA ts=ts.map cTT
 | []=>rfl
 | t::ts=>by simp[zA,aaq,Ek ts]
def CD(s:Sym):List T:=[.leaf (.str s.name),.own 3 (zZ s.args),.leaf (.val (.int .i64 s.sort))]
def vU(l:List Sym):List (List T):=l.map CD
theorem EM(ns:List Int):cR (zZ ns)=some (bG ns):=by rw[←yY,mT]
mutual
theorem Yw:∀(t:Term),fT (tT t)=some (cT t)
 | .mk name kids=>by
   have:=vx kids
   simp[tT,fT,T.FD,this,cT,Term.name,Term.kids]
theorem vx:∀(ts:List Term),cR (zA ts)=some (aP ts)
 | []=>rfl
 | t::ts=>by
   have h1:=Yw t
   have h2:=vx ts
   simp[zA,cR,h1,h2,dM]
end
theorem xq:∀(l:List Sym),cR (vU l)=some (hX l)
 | []=>rfl
 | s::l=>by
   have:=xq l
   simp only[vU,List.map_cons] at this⊢
   simp[cR,fT,T.FD,CD,EM,this,hX,vP]
mutual
theorem aaB:∀(t:Term),Yu (tT t)=true
 | .mk name kids=>by
   have:=Pw kids
   simp[tT,Yu,T.sd,Yk,this]
theorem Pw:∀(ts:List Term),L5 (zA ts)=true
 | []=>rfl
 | t::ts=>by
   have h1:=aaB t
   have h2:=Pw ts
   simp[zA,L5,h1,h2]
end
attribute [go_sem] EM vx xq Pw yY Option.isSome_some
mutual
theorem Vx{m:List Nat}:∀(t:T),t.FD.isSome=true→t.mc m=t
 | .leaf d,_=>rfl
 | .ref j,h=>by simp[T.FD] at h
 | .own e xs,h=>by
   have:(cR xs).isSome=true:=by
    cases hx:cR xs with
    | none=>simp[T.FD,hx] at h
    | some y=>rfl
   simp only[T.mc,Ci xs this]
theorem Jb{m:List Nat}:∀(ts:List T),(fT ts).isSome=true→lH m ts=ts
 | [],_=>rfl
 | t::ts,h=>by
   simp only[fT] at h
   cases h1:t.FD with
   | none=>simp[h1] at h
   | some d=>cases h2:fT ts with
     | none=>simp[h1,h2] at h
     | some ds=>simp only[lH,Vx t (by rw[h1];rfl),Jb ts (by rw[h2];rfl)]
theorem Ci{m:List Nat}:∀(xs:List (List T)),(cR xs).isSome=true→kJ m xs=xs
 | [],_=>rfl
 | x::xs,h=>by
   simp only[cR] at h
   cases h1:fT x with
   | none=>simp[h1] at h
   | some d=>cases h2:cR xs with
     | none=>simp[h1,h2] at h
     | some ds=>simp only[kJ,Jb x (by rw[h1];rfl),Ci xs (by rw[h2];rfl)]
end
theorem XG(m:List Nat)(l:List Term):kJ m (zA l)=zA l:=Ci _ (by rw[vx];rfl)
attribute [go_sem] XG
theorem uy(l:List Sym):vU l=l.map CD:=rfl
def cIT(n:Int):List T:=[.leaf (.val (.int .i64 n))]
theorem BS(l:List Int):zZ l=l.map cIT:=rfl
theorem VC(l:List Int):(zZ l).length=l.length:=by rw[BS];simp
theorem UH(l:List Int)(t:Int):zZ l++[cIT t]=zZ (l++[t]):=by rw[BS,BS];simp
theorem Qn(l:List Term):(zA l).length=l.length:=by rw[Ek];simp
theorem Wo(l:List Term)(t:Term):zA l++[cTT t]=zA (l++[t]):=by rw[Ek,Ek];simp
theorem Mq{l:List Term}{i:Nat}(h:i<l.length):zA (l.take i)++[cTT l[i]]=zA (l.take (i+1)):=by
 have e:l.take (i+1)=l.take i++[l[i]]:=by rw[bC,ah h];rfl
 rw[Wo,e]
theorem YE(l:List Term):(cR (zA l)).isSome=true:=by rw[vx];rfl
theorem Fe(l:List Sym):(vU l).length=l.length:=by rw[uy];simp
theorem Ua{l:List Sym}{i:Nat}(h:i<l.length):ow (vU l) i=CD l[i]:=by rw[uy];simp[ow,List.getD,ah h]
theorem Ve(l:List Sym)(i:Nat)(t:Sym):(vU l).set i (CD t)=vU (l.set i t):=by rw[uy,uy,List.map_set]
theorem U3(l:List Sym)(t:Sym):vU l++[CD t]=vU (l++[t]):=by rw[uy,uy];simp
theorem IB{l:List Sym}{i:Nat}(h:i<l.length):vU (l.take i)++[CD l[i]]=vU (l.take (i+1)):=by
 have e:l.take (i+1)=l.take i++[l[i]]:=by rw[bC,ah h];rfl
 rw[U3,e]
theorem XS(l:List Sym):(cR (vU l)).isSome=true:=by rw[xq];rfl
attribute [go_sem] VC Qn Fe
set_option maxHeartbeats 400000
def abh(xs:List (List T))(z:List T)(i:Nat):List (List T):=xs.take i++List.replicate (xs.length-i) z
theorem Ld:∀{xs ys:List (List T)}{a b:List (List D)},cR xs=some a→cR ys=some b→cR (xs++ys)=some (a++b)
 | [],ys,a,b,h,h'=>by
   simp only[cR,Option.some.injEq] at h
   subst h
   exact h'
 | x::xs,ys,a,b,h,h'=>by
   simp only[cR] at h
   split at h
   ·rename_i y ys' h1 h2
    obtain rfl:=Option.some.inj h
    have:=Ld h2 h'
    simp[cR,h1,this]
   ·cases h
def aab(t:Atom)(n:Nat):List PV:=[iv t.kind,sv t.A.name,.acc n,sv t.B.name,.acc (n+1),.acc (n+2),.acc (n+3),iv t.bound,bv t.strict]
def aap(t:Atom):List (Option En):=[some (.fg 34 (zA t.A.kids)),some (.fg 34 (zA t.B.kids)),some (.fg 34 (zA t.nums)),some (.fg 3 (zZ t.times))]
def aau(t:Mod.Form)(n:Nat):List PV:=[iv t.kind,iv t.lit.atom.kind,sv t.lit.atom.A.name,.acc n,sv t.lit.atom.B.name,.acc (n+1),.acc (n+2),.acc (n+3),iv t.lit.atom.bound,bv t.lit.atom.strict,bv t.lit.no,.acc (n+4)]
attribute [go_sem] aab aap aau
end Go.Proofs.YtabembjmeobhoaaGreat
