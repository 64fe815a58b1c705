/-
  Slices that share nothing, as trees: numbers, terms, words, formulas. A step towards the exact laws.
-/
import Derived.Test.YtabembjmeobhoaaGreatKAEa
import Derived.Test.YtabembjmeobhoaaGreatKADa
import Derived.Test.YtabembjmeobhoaaGreatKAX
set_option linter.unusedVariables false
set_option linter.unusedSimpArgs false
open List renaming getElem?_eq_getElem→ah,take_add_one→bC
namespace Go.Proofs.YtabembjmeobhoaaGreat
open Go.Eng Go.Mod
set_option maxRecDepth 100000
def AO(ns:List Int):List (List T):=ns.map fun n=>[.leaf (.val (.int .i64 n))]
theorem zA(ns:List Int):lift (bG ns)=AO ns:=by simp[lift,bG,AO]
mutual
def tT:Term→List T
 | .mk name kids=>[.leaf (.str name),.own 34 (zw kids)]
def zw:List Term→List (List T)
 | []=>[]
 | t::ts=>tT t::zw ts
end
def cTT(t:Term):List T:=[.leaf (.str t.name),.own 34 (zw t.kids)]
theorem aax(t:Term):tT t=cTT t:=by cases t;rfl
theorem El:∀(ts:List Term),zw ts=ts.map cTT
 | []=>rfl
 | t::ts=>by simp[zw,aax,El ts]
def C0(s:Sym):List T:=[.leaf (.str s.name),.own 3 (AO s.args),.leaf (.val (.int .i64 s.sort))]
def wL(l:List Sym):List (List T):=l.map C0
theorem GS(ns:List Int):cR (AO ns)=some (bG ns):=by rw[←zA,mV]
mutual
theorem ZE:∀(t:Term),fW (tT t)=some (cT t)
 | .mk name kids=>by
   have:=uG kids
   simp[tT,fW,T.Fe,this,cT,Term.name,Term.kids]
theorem uG:∀(ts:List Term),cR (zw ts)=some (aP ts)
 | []=>rfl
 | t::ts=>by
   have h1:=ZE t
   have h2:=uG ts
   simp[zw,cR,h1,h2,dM]
end
theorem vQ:∀(l:List Sym),cR (wL l)=some (hX l)
 | []=>rfl
 | s::l=>by
   have:=vQ l
   simp only[wL,List.map_cons] at this⊢
   simp[cR,fW,T.Fe,C0,GS,this,hX,vK]
mutual
theorem aar:∀(t:Term),Y6 (tT t)=true
 | .mk name kids=>by
   have:=O7 kids
   simp[tT,Y6,T.sd,Ya,this]
theorem O7:∀(ts:List Term),Nt (zw ts)=true
 | []=>rfl
 | t::ts=>by
   have h1:=aar t
   have h2:=O7 ts
   simp[zw,Nt,h1,h2]
end
attribute [go_sem] GS uG vQ O7 zA Option.isSome_some
mutual
theorem TV{m:List Nat}:∀(t:T),t.Fe.isSome=true→t.l8 m=t
 | .leaf d,_=>rfl
 | .ref j,h=>by simp[T.Fe] at h
 | .own e xs,h=>by
   have:(cR xs).isSome=true:=by
    cases hx:cR xs with
    | none=>simp[T.Fe,hx] at h
    | some y=>rfl
   simp only[T.l8,BI xs this]
theorem IT{m:List Nat}:∀(ts:List T),(fW ts).isSome=true→lN m ts=ts
 | [],_=>rfl
 | t::ts,h=>by
   simp only[fW] at h
   cases h1:t.Fe with
   | none=>simp[h1] at h
   | some d=>cases h2:fW ts with
     | none=>simp[h1,h2] at h
     | some ds=>simp only[lN,TV t (by rw[h1];rfl),IT ts (by rw[h2];rfl)]
theorem BI{m:List Nat}:∀(xs:List (List T)),(cR xs).isSome=true→kG m xs=xs
 | [],_=>rfl
 | x::xs,h=>by
   simp only[cR] at h
   cases h1:fW x with
   | none=>simp[h1] at h
   | some d=>cases h2:cR xs with
     | none=>simp[h1,h2] at h
     | some ds=>simp only[kG,IT x (by rw[h1];rfl),BI xs (by rw[h2];rfl)]
end
theorem Xm(m:List Nat)(l:List Term):kG m (zw l)=zw l:=BI _ (by rw[uG];rfl)
attribute [go_sem] Xm
theorem ue(l:List Sym):wL l=l.map C0:=rfl
def cIT(n:Int):List T:=[.leaf (.val (.int .i64 n))]
theorem Cn(l:List Int):AO l=l.map cIT:=rfl
theorem VS(l:List Int):(AO l).length=l.length:=by rw[Cn];simp
theorem Tn(l:List Int)(t:Int):AO l++[cIT t]=AO (l++[t]):=by rw[Cn,Cn];simp
theorem Rf(l:List Term):(zw l).length=l.length:=by rw[El];simp
theorem Wt(l:List Term)(t:Term):zw l++[cTT t]=zw (l++[t]):=by rw[El,El];simp
theorem MA{l:List Term}{i:Nat}(h:i<l.length):zw (l.take i)++[cTT l[i]]=zw (l.take (i+1)):=by
 have e:l.take (i+1)=l.take i++[l[i]]:=by rw[bC,ah h];rfl
 rw[Wt,e]
theorem Yy(l:List Term):(cR (zw l)).isSome=true:=by rw[uG];rfl
theorem EE(l:List Sym):(wL l).length=l.length:=by rw[ue];simp
theorem UK{l:List Sym}{i:Nat}(h:i<l.length):oj (wL l) i=C0 l[i]:=by rw[ue];simp[oj,List.getD,ah h]
theorem S5(l:List Sym)(i:Nat)(t:Sym):(wL l).set i (C0 t)=wL (l.set i t):=by rw[ue,ue,List.map_set]
theorem V9(l:List Sym)(t:Sym):wL l++[C0 t]=wL (l++[t]):=by rw[ue,ue];simp
theorem IZ{l:List Sym}{i:Nat}(h:i<l.length):wL (l.take i)++[C0 l[i]]=wL (l.take (i+1)):=by
 have e:l.take (i+1)=l.take i++[l[i]]:=by rw[bC,ah h];rfl
 rw[V9,e]
theorem Xp(l:List Sym):(cR (wL l)).isSome=true:=by rw[vQ];rfl
attribute [go_sem] VS Rf EE
set_option maxHeartbeats 400000
def abl(xs:List (List T))(z:List T)(i:Nat):List (List T):=xs.take i++List.replicate (xs.length-i) z
theorem KA:∀{xs ys:List (List T)}{a b:List (List D)},cR xs=some a→cR ys=some b→cR (xs++ys)=some (a++b)
 | [],ys,a,b,h,h'=>by
   simp only[cR,Option.some.injEq] at h
   subst h
   exact h'
 | x::xs,ys,a,b,h,h'=>by
   simp only[cR] at h
   split at h
   ·rename_i y ys' h1 h2
    obtain rfl:=Option.some.inj h
    have:=KA h2 h'
    simp[cR,h1,this]
   ·cases h
def aad(t:Atom)(n:Nat):List PV:=[iv t.kind,sv t.A.name,.acc n,sv t.B.name,.acc (n+1),.acc (n+2),.acc (n+3),iv t.bound,bv t.strict]
def aas(t:Atom):List (Option En):=[some (.ff 34 (zw t.A.kids)),some (.ff 34 (zw t.B.kids)),some (.ff 34 (zw t.nums)),some (.ff 3 (AO t.times))]
def Z7(t:Mod.Form)(n:Nat):List PV:=[iv t.kind,iv t.lit.atom.kind,sv t.lit.atom.A.name,.acc n,sv t.lit.atom.B.name,.acc (n+1),.acc (n+2),.acc (n+3),iv t.lit.atom.bound,bv t.lit.atom.strict,bv t.lit.no,.acc (n+4)]
attribute [go_sem] aad aas Z7
end Go.Proofs.YtabembjmeobhoaaGreat
