/-
  Slices that share nothing, as trees: numbers, terms, words, formulas. A step towards the exact laws.
-/
import Derived.Test.YtpidddienjoleaaGreatKDF
import Derived.Test.YtpidddienjoleaaGreatKDEa
import Derived.Test.YtpidddienjoleaaGreatKDDa
import Derived.Test.YtpidddienjoleaaGreatKDX
set_option linter.unusedVariables false
set_option linter.unusedSimpArgs false
namespace Go.Proofs.YtpidddienjoleaaGreat
open Go.Eng Go.Mod
set_option maxRecDepth 100000
def qt(ns:List Int):List (List T):=ns.map fun n=>[.leaf (.val (.int .i64 n))]
theorem rC(ns:List Int):lift (aJ ns)=qt ns:=by simp[lift,aJ,qt]
mutual
def tT:Term→List T
 | .mk name kids=>[.leaf (.str name),.own 35 (na kids)]
def na:List Term→List (List T)
 | []=>[]
 | t::ts=>tT t::na ts
end
def SB(t:Term):List T:=[.leaf (.str t.name),.own 35 (na t.kids)]
theorem Sa(t:Term):tT t=SB t:=by cases t;rfl
theorem xK:∀(ts:List Term),na ts=ts.map SB
 | []=>rfl
 | t::ts=>by simp[na,Sa,xK ts]
def vL(s:Sym):List T:=[.leaf (.str s.name),.own 3 (qt s.args),.leaf (.val (.int .i64 s.sort))]
def ph(l:List Sym):List (List T):=l.map vL
mutual
def fT:Mod.Form→List T
 | .mk kind l kids=>[.leaf (.val (.int .i64 kind)),.leaf (.val (.int .i64 l.atom.kind)),.leaf (.str l.atom.A.name),.own 35 (na l.atom.A.kids),.leaf (.str l.atom.B.name),.own 35 (na l.atom.B.kids),.own 35 (na l.atom.nums),.own 3 (qt l.atom.times),.leaf (.val (.int .i64 l.atom.bound)),.leaf (.val (.bool l.atom.strict)),.leaf (.val (.bool l.no)),.own 112 (Se kids)]
def Se:List Mod.Form→List (List T)
 | []=>[]
 | t::ts=>fT t::Se ts
end
def Tt(t:Mod.Form):List T:=[.leaf (.val (.int .i64 t.kind)),.leaf (.val (.int .i64 t.lit.atom.kind)),.leaf (.str t.lit.atom.A.name),.own 35 (na t.lit.atom.A.kids),.leaf (.str t.lit.atom.B.name),.own 35 (na t.lit.atom.B.kids),.own 35 (na t.lit.atom.nums),.own 3 (qt t.lit.atom.times),.leaf (.val (.int .i64 t.lit.atom.bound)),.leaf (.val (.bool t.lit.atom.strict)),.leaf (.val (.bool t.lit.no)),.own 112 (Se t.kids)]
def Th(fs:List Mod.Form):List T:=[.own 112 (Se fs)]
def lT(l:List (List Mod.Form)):List (List T):=l.map Th
theorem xN(ns:List Int):aW (qt ns)=some (aJ ns):=by rw[←rC,gg]
mutual
theorem Qi:∀(t:Term),b8 (tT t)=some (cT t)
 | .mk name kids=>by
   have:=ny kids
   simp[tT,b8,T.yG,this,cT,Term.name,Term.kids]
theorem ny:∀(ts:List Term),aW (na ts)=some (aj ts)
 | []=>rfl
 | t::ts=>by
   have h1:=Qi t
   have h2:=ny ts
   simp[na,aW,h1,h2,bT]
end
theorem pg:∀(l:List Sym),aW (ph l)=some (cQ l)
 | []=>rfl
 | s::l=>by
   have:=pg l
   simp only[ph,List.map_cons] at this⊢
   simp[aW,b8,T.yG,vL,xN,this,cQ,oV]
mutual
theorem RH:∀(t:Term),QG (tT t)=true
 | .mk name kids=>by
   have:=GA kids
   simp[tT,QG,T.sd,PW,this]
theorem GA:∀(ts:List Term),DP (na ts)=true
 | []=>rfl
 | t::ts=>by
   have h1:=RH t
   have h2:=GA ts
   simp[na,DP,h1,h2]
end
attribute [go_sem] xN ny pg GA rC Option.isSome_some
mutual
theorem LF{m:List Nat}:∀(t:T),t.yG.isSome=true→t.fB m=t
 | .leaf d,_=>rfl
 | .ref j,h=>by simp[T.yG] at h
 | .own e xs,h=>by
   have:(aW xs).isSome=true:=by
    cases hx:aW xs with
    | none=>simp[T.yG,hx] at h
    | some y=>rfl
   simp only[T.fB,uH xs this]
theorem BL{m:List Nat}:∀(ts:List T),(b8 ts).isSome=true→fg m ts=ts
 | [],_=>rfl
 | t::ts,h=>by
   simp only[b8] at h
   cases h1:t.yG with
   | none=>simp[h1] at h
   | some d=>cases h2:b8 ts with
     | none=>simp[h1,h2] at h
     | some ds=>simp only[fg,LF t (by rw[h1];rfl),BL ts (by rw[h2];rfl)]
theorem uH{m:List Nat}:∀(xs:List (List T)),(aW xs).isSome=true→dZ m xs=xs
 | [],_=>rfl
 | x::xs,h=>by
   simp only[aW] at h
   cases h1:b8 x with
   | none=>simp[h1] at h
   | some d=>cases h2:aW xs with
     | none=>simp[h1,h2] at h
     | some ds=>simp only[dZ,BL x (by rw[h1];rfl),uH xs (by rw[h2];rfl)]
end
theorem Oe(m:List Nat)(l:List Term):dZ m (na l)=na l:=uH _ (by rw[ny];rfl)
attribute [go_sem] Oe
theorem mH(l:List Sym):ph l=l.map vL:=rfl
def S6(n:Int):List T:=[.leaf (.val (.int .i64 n))]
theorem vk(l:List Int):qt l=l.map S6:=rfl
theorem Nt(l:List Int):(qt l).length=l.length:=by rw[vk];simp
theorem Lf(l:List Int)(t:Int):qt l++[S6 t]=qt (l++[t]):=by rw[vk,vk];simp
theorem Il(l:List Term):(na l).length=l.length:=by rw[xK];simp
theorem OH(l:List Term)(t:Term):na l++[SB t]=na (l++[t]):=by rw[xK,xK];simp
theorem D7{l:List Term}{i:Nat}(h:i<l.length):na (l.take i)++[SB l[i]]=na (l.take (i+1)):=by
 have e:l.take (i+1)=l.take i++[l[i]]:=by rw[List.take_add_one,List.getElem?_eq_getElem h];rfl
 rw[OH,e]
theorem QZ(l:List Term):(aW (na l)).isSome=true:=by rw[ny];rfl
theorem yQ(l:List Sym):(ph l).length=l.length:=by rw[mH];simp
theorem Lw{l:List Sym}{i:Nat}(h:i<l.length):ij (ph l) i=vL l[i]:=by rw[mH];simp[ij,List.getD,List.getElem?_eq_getElem h]
theorem LW(l:List Sym)(i:Nat)(t:Sym):(ph l).set i (vL t)=ph (l.set i t):=by rw[mH,mH,List.map_set]
theorem Lh(l:List Sym)(t:Sym):ph l++[vL t]=ph (l++[t]):=by rw[mH,mH];simp
theorem Br{l:List Sym}{i:Nat}(h:i<l.length):ph (l.take i)++[vL l[i]]=ph (l.take (i+1)):=by
 have e:l.take (i+1)=l.take i++[l[i]]:=by rw[List.take_add_one,List.getElem?_eq_getElem h];rfl
 rw[Lh,e]
theorem Pv(l:List Sym):(aW (ph l)).isSome=true:=by rw[pg];rfl
attribute [go_sem] Nt Il yQ
end Go.Proofs.YtpidddienjoleaaGreat
namespace Go.Proofs.YtpidddienjoleaaGreat
open Go.Eng Go.Mod
set_option maxRecDepth 100000
set_option maxHeartbeats 400000
def Tb(xs:List (List T))(z:List T)(i:Nat):List (List T):=xs.take i++List.replicate (xs.length-i) z
theorem B7:∀{xs ys:List (List T)}{a b:List (List D)},aW xs=some a→aW ys=some b→aW (xs++ys)=some (a++b)
 | [],ys,a,b,h,h'=>by
   simp only[aW,Option.some.injEq] at h
   subst h
   exact h'
 | x::xs,ys,a,b,h,h'=>by
   simp only[aW] at h
   split at h
   ·rename_i y ys' h1 h2
    obtain rfl:=Option.some.inj h
    have:=B7 h2 h'
    simp[aW,h1,this]
   ·cases h
def RM(t:Atom)(n:Nat):List PV:=[iv t.kind,sv t.A.name,.acc n,sv t.B.name,.acc (n+1),.acc (n+2),.acc (n+3),iv t.bound,bv t.strict]
def Si(t:Atom):List (Option En):=[some (.bM 35 (na t.A.kids)),some (.bM 35 (na t.B.kids)),some (.bM 35 (na t.nums)),some (.bM 3 (qt t.times))]
def RL(t:Mod.Form)(n:Nat):List PV:=[iv t.kind,iv t.lit.atom.kind,sv t.lit.atom.A.name,.acc n,sv t.lit.atom.B.name,.acc (n+1),.acc (n+2),.acc (n+3),iv t.lit.atom.bound,bv t.lit.atom.strict,bv t.lit.no,.acc (n+4)]
def R5(t:Mod.Form):List (Option En):=[some (.bM 35 (na t.lit.atom.A.kids)),some (.bM 35 (na t.lit.atom.B.kids)),some (.bM 35 (na t.lit.atom.nums)),some (.bM 3 (qt t.lit.atom.times)),some (.bM 112 (Se t.kids))]
attribute [go_sem] RM Si RL R5
end Go.Proofs.YtpidddienjoleaaGreat
