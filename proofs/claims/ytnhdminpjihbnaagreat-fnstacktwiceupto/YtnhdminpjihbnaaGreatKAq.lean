/-
  Slices that share nothing, as trees: numbers, terms, words, formulas. A step towards the exact laws.
-/
import Derived.Test.YtnhdminpjihbnaaGreatKAEa
import Derived.Test.YtnhdminpjihbnaaGreatKADa
import Derived.Test.YtnhdminpjihbnaaGreatKAX
set_option linter.unusedVariables false
set_option linter.unusedSimpArgs false
open Bool renaming and_self→mW
open List renaming getElem?_eq_getElem→ae,map_cons→aJ,take_add_one→bn,getD→b9
namespace Go.Proofs.YtnhdminpjihbnaaGreat
open Go.Eng Go.Mod
set_option maxRecDepth 100000
def rE(ns:List Int):List (List T):=ns.map fun n=>[.eK (.val (.int .i64 n))]
theorem zw(ns:List Int):lift (bj ns)=rE ns:=by simp[lift,bj,rE]
mutual
def tT:az→List T
 | .mk name ar=>[.eK (.str name),.own 31 (rS ar)]
def rS:List az→List (List T)
 | []=>[]
 | t::ts=>tT t::rS ts
end
def cTT(t:az):List T:=[.eK (.str t.name),.own 31 (rS t.ar)]
theorem ai2(t:az):tT t=cTT t:=by cases t;rfl
theorem JX:∀(ts:List az),rS ts=ts.map cTT
 | []=>rfl
 | t::ts=>by simp[rS,ai2,JX ts]
def EE(s:Sym):List T:=[.eK (.str s.name),.own 3 (rE s.args),.eK (.val (.int .i64 s.sort))]
def rM(l:List Sym):List (List T):=l.map EE
mutual
def fT:Mod.aU→List T
 | .mk kind l ar=>[.eK (.val (.int .i64 kind)),.eK (.val (.int .i64 l.aY.kind)),.eK (.str l.aY.A.name),.own 31 (rS l.aY.A.ar),.eK (.str l.aY.B.name),.own 31 (rS l.aY.B.ar),.own 31 (rS l.aY.an),.own 3 (rE l.aY.bt),.eK (.val (.int .i64 l.aY.bJ)),.eK (.val (.bool l.aY.cz)),.eK (.val (.bool l.no)),.own 39 (Fl ar)]
def Fl:List Mod.aU→List (List T)
 | []=>[]
 | t::ts=>fT t::Fl ts
end
def cFT(t:Mod.aU):List T:=[.eK (.val (.int .i64 t.kind)),.eK (.val (.int .i64 t.lit.aY.kind)),.eK (.str t.lit.aY.A.name),.own 31 (rS t.lit.aY.A.ar),.eK (.str t.lit.aY.B.name),.own 31 (rS t.lit.aY.B.ar),.own 31 (rS t.lit.aY.an),.own 3 (rE t.lit.aY.bt),.eK (.val (.int .i64 t.lit.aY.bJ)),.eK (.val (.bool t.lit.aY.cz)),.eK (.val (.bool t.lit.no)),.own 39 (Fl t.ar)]
theorem ajB(t:Mod.aU):fT t=cFT t:=by cases t;rfl
theorem J0:∀(ts:List Mod.aU),Fl ts=ts.map cFT
 | []=>rfl
 | t::ts=>by simp[Fl,ajB,J0 ts]
def cLT(fs:List Mod.aU):List T:=[.own 39 (Fl fs)]
def lT(l:List (List Mod.aU)):List (List T):=l.map cLT
theorem yv(ns:List Int):bA (rE ns)=some (bj ns):=by rw[←zw,jy]
mutual
theorem aic:∀(t:az),dJ (tT t)=some (cT t)
 | .mk name ar=>by have:=wJ ar;simp[tT,dJ,T.Ah,this,cT,az.name,az.ar]
theorem wJ:∀(ts:List az),bA (rS ts)=some (ba ts)
 | []=>rfl
 | t::ts=>by have h1:=aic t;have h2:=wJ ts;simp[rS,bA,h1,h2,iu]
end
theorem qa:∀(l:List Sym),bA (rM l)=some (ij l)
 | []=>rfl
 | s::l=>by have:=qa l;simp only[rM,aJ] at this⊢;simp[bA,dJ,T.Ah,EE,yv,this,ij,Bt]
mutual
theorem ahL:∀(t:Mod.aU),dJ (fT t)=some (eE t)
 | .mk kind l ar=>by have:=xg ar;simp[fT,dJ,T.Ah,this,wJ,yv,eE,aU.kind,aU.lit,aU.ar]
theorem xg:∀(ts:List Mod.aU),bA (Fl ts)=some (bc ts)
 | []=>rfl
 | t::ts=>by have h1:=ahL t;have h2:=xg ts;simp[Fl,bA,h1,h2,lC]
end
theorem LJ:∀(l:List (List Mod.aU)),bA (lT l)=some (fM l)
 | []=>rfl
 | s::l=>by have:=LJ l;simp only[lT,aJ] at this⊢;simp[bA,dJ,T.Ah,cLT,xg,this,fM]
theorem Gt:∀(ns:List Int),Ad (rE ns)=true
 | []=>rfl
 | n::ns=>by have:=Gt ns;simp only[rE,aJ] at this⊢;simp[Ad,sdT,T.sd,sdD,this]
mutual
theorem aiY:∀(t:az),sdT (tT t)=true
 | .mk name ar=>by have:=RG ar;simp[tT,sdT,T.sd,sdD,this]
theorem RG:∀(ts:List az),Ad (rS ts)=true
 | []=>rfl
 | t::ts=>by have h1:=aiY t;have h2:=RG ts;simp[rS,Ad,h1,h2]
end
theorem X4:∀(l:List Sym),Ad (rM l)=true
 | []=>rfl
 | s::l=>by have:=X4 l;simp only[rM,aJ] at this⊢;simp[Ad,sdT,T.sd,sdD,EE,Gt,this]
mutual
theorem ajp:∀(t:Mod.aU),sdT (fT t)=true
 | .mk kind l ar=>by have:=Rc ar;simp[fT,sdT,T.sd,sdD,RG,Gt,this]
theorem Rc:∀(ts:List Mod.aU),Ad (Fl ts)=true
 | []=>rfl
 | t::ts=>by have h1:=ajp t;have h2:=Rc ts;simp[Fl,Ad,h1,h2]
end
theorem ag4:∀(l:List (List Mod.aU)),Ad (lT l)=true
 | []=>rfl
 | s::l=>by have:=ag4 l;simp only[lT,aJ] at this⊢;simp[Ad,sdT,T.sd,sdD,cLT,Rc,this]
attribute [go_sem] yv wJ qa xg LJ Gt RG X4 Rc ag4 zw Option.isSome_some
mutual
theorem ado{m:List Nat}:∀(t:T),t.Ah.isSome=true→t.oh m=t
 | .eK d,_=>rfl
 | .ref j,h=>by simp[T.Ah] at h
 | .own e xs,h=>by
  have:(bA xs).isSome=true:=by
   cases hx:bA xs with
   | none=>simp[T.Ah,hx] at h
   | some y=>rfl
  simp only[T.oh,pj xs this]
theorem Pe{m:List Nat}:∀(ts:List T),(dJ ts).isSome=true→ob m ts=ts
 | [],_=>rfl
 | t::ts,h=>by
  simp only[dJ] at h;cases h1:t.Ah with
  | none=>simp[h1] at h
  | some d=>cases h2:dJ ts with
    | none=>simp[h1,h2] at h
    | some ds=>simp only[ob,ado t (by rw[h1];rfl),Pe ts (by rw[h2];rfl)]
theorem pj{m:List Nat}:∀(xs:List (List T)),(bA xs).isSome=true→jU m xs=xs
 | [],_=>rfl
 | x::xs,h=>by
  simp only[bA] at h;cases h1:dJ x with
  | none=>simp[h1] at h
  | some d=>cases h2:bA xs with
    | none=>simp[h1,h2] at h
    | some ds=>simp only[jU,Pe x (by rw[h1];rfl),pj xs (by rw[h2];rfl)]
end
theorem adf(m:List Nat)(l:List Int):jU m (rE l)=rE l:=pj _ (by rw[yv];rfl)
theorem agD(m:List Nat)(l:List az):jU m (rS l)=rS l:=pj _ (by rw[wJ];rfl)
theorem ab0(m:List Nat)(l:List Sym):jU m (rM l)=rM l:=pj _ (by rw[qa];rfl)
theorem afo(m:List Nat)(l:List Mod.aU):jU m (Fl l)=Fl l:=pj _ (by rw[xg];rfl)
theorem aio(m:List Nat)(l:List (List Mod.aU)):jU m (lT l)=lT l:=pj _ (by rw[LJ];rfl)
mutual
theorem afN{n:Nat}:∀(t:T),t.Ah.isSome=true→t.lt n=true
 | .eK d,_=>rfl
 | .ref j,h=>by simp[T.Ah] at h
 | .own e xs,h=>by
  have:(bA xs).isSome=true:=by
   cases hx:bA xs with
   | none=>simp[T.Ah,hx] at h
   | some y=>rfl
  simp only[T.lt,Lr xs this]
theorem UN{n:Nat}:∀(ts:List T),(dJ ts).isSome=true→Cf n ts=true
 | [],_=>rfl
 | t::ts,h=>by
  simp only[dJ] at h;cases h1:t.Ah with
  | none=>simp[h1] at h
  | some d=>cases h2:dJ ts with
    | none=>simp[h1,h2] at h
    | some ds=>simp only[Cf,afN t (by rw[h1];rfl),UN ts (by rw[h2];rfl),mW]
theorem Lr{n:Nat}:∀(xs:List (List T)),(bA xs).isSome=true→AD n xs=true
 | [],_=>rfl
 | x::xs,h=>by
  simp only[bA] at h;cases h1:dJ x with
  | none=>simp[h1] at h
  | some d=>cases h2:bA xs with
    | none=>simp[h1,h2] at h
    | some ds=>simp only[AD,UN x (by rw[h1];rfl),Lr xs (by rw[h2];rfl),mW]
end
attribute [go_sem] adf agD ab0 afo aio
theorem yk(l:List Sym):rM l=l.map EE:=rfl
theorem Ql(l:List (List Mod.aU)):lT l=l.map cLT:=rfl
def cIT(n:Int):List T:=[.eK (.val (.int .i64 n))]
theorem GS(l:List Int):rE l=l.map cIT:=rfl
theorem aew(l:List Int):(rE l).length=l.length:=by rw[GS];simp
theorem adk(l:List Int)(t:Int):rE l++[cIT t]=rE (l++[t]):=by rw[GS,GS];simp
theorem RE(l:List az):(rS l).length=l.length:=by rw[JX];simp
theorem agJ(l:List az)(t:az):rS l++[cTT t]=rS (l++[t]):=by rw[JX,JX];simp
theorem EK{l:List az}{i:Nat}(h:i<l.length):rS (l.take i)++[cTT l[i]]=rS (l.take (i+1)):=by
 have e:l.take (i+1)=l.take i++[l[i]]:=by rw[bn,ae h];rfl
 rw[agJ,e]
theorem acw(l:List az):(bA (rS l)).isSome=true:=by rw[wJ];rfl
theorem AM(l:List Sym):(rM l).length=l.length:=by rw[yk];simp
theorem adi{l:List Sym}{i:Nat}(h:i<l.length):oJ (rM l) i=EE l[i]:=by rw[yk];simp[oJ,b9,ae h]
theorem abA(l:List Sym)(i:Nat)(t:Sym):(rM l).set i (EE t)=rM (l.set i t):=by rw[yk,yk,List.map_set]
theorem aa6(l:List Sym)(t:Sym):rM l++[EE t]=rM (l++[t]):=by rw[yk,yk];simp
theorem oo{l:List Sym}{i:Nat}(h:i<l.length):rM (l.take i)++[EE l[i]]=rM (l.take (i+1)):=by
 have e:l.take (i+1)=l.take i++[l[i]]:=by rw[bn,ae h];rfl
 rw[aa6,e]
theorem EL(l:List Sym):(bA (rM l)).isSome=true:=by rw[qa];rfl
theorem Q8(l:List Mod.aU):(Fl l).length=l.length:=by rw[J0];simp
theorem afi(l:List Mod.aU)(t:Mod.aU):Fl l++[cFT t]=Fl (l++[t]):=by rw[J0,J0];simp
theorem FP{l:List Mod.aU}{i:Nat}(h:i<l.length):Fl (l.take i)++[cFT l[i]]=Fl (l.take (i+1)):=by
 have e:l.take (i+1)=l.take i++[l[i]]:=by rw[bn,ae h];rfl
 rw[afi,e]
theorem aeD(l:List Mod.aU):(bA (Fl l)).isSome=true:=by rw[xg];rfl
theorem WW(l:List (List Mod.aU)):(lT l).length=l.length:=by rw[Ql];simp
theorem ahw{l:List (List Mod.aU)}{i:Nat}(h:i<l.length):oJ (lT l) i=cLT l[i]:=by rw[Ql];simp[oJ,b9,ae h]
theorem aiq(l:List (List Mod.aU))(t:(List Mod.aU)):lT l++[cLT t]=lT (l++[t]):=by rw[Ql,Ql];simp
theorem Ko{l:List (List Mod.aU)}{i:Nat}(h:i<l.length):lT (l.take i)++[cLT l[i]]=lT (l.take (i+1)):=by
 have e:l.take (i+1)=l.take i++[l[i]]:=by rw[bn,ae h];rfl
 rw[aiq,e]
theorem agW(l:List (List Mod.aU)):(bA (lT l)).isSome=true:=by rw[LJ];rfl
attribute [go_sem] aew RE AM Q8 WW
set_option maxHeartbeats 400000
def akz(xs:List (List T))(z:List T)(i:Nat):List (List T):=xs.take i++List.replicate (xs.length-i) z
theorem zd:∀{xs ys:List (List T)}{a b:List (List D)},bA xs=some a→bA ys=some b→bA (xs++ys)=some (a++b)
 | [],ys,a,b,h,h'=>by simp only[bA,Option.some.injEq] at h;subst h;exact h'
 | x::xs,ys,a,b,h,h'=>by simp only[bA] at h;split at h;rename_i y ys' h1 h2;obtain rfl:=Option.some.inj h;have:=zd h2 h';simp[bA,h1,this];cases h
def ag7(t:bz)(n:Nat):List PV:=[iv t.kind,sv t.A.name,.aW n,sv t.B.name,.aW (n+1),.aW (n+2),.aW (n+3),iv t.bJ,bv t.cz]
def agV(t:bz):List (Option En):=[some (.e9 31 (rS t.A.ar)),some (.e9 31 (rS t.B.ar)),some (.e9 31 (rS t.an)),some (.e9 3 (rE t.bt))]
def TJ(t:Mod.aU)(n:Nat):List PV:=[iv t.kind,iv t.lit.aY.kind,sv t.lit.aY.A.name,.aW n,sv t.lit.aY.B.name,.aW (n+1),.aW (n+2),.aW (n+3),iv t.lit.aY.bJ,bv t.lit.aY.cz,bv t.lit.no,.aW (n+4)]
def SG(t:Mod.aU):List (Option En):=[some (.e9 31 (rS t.lit.aY.A.ar)),some (.e9 31 (rS t.lit.aY.B.ar)),some (.e9 31 (rS t.lit.aY.an)),some (.e9 3 (rE t.lit.aY.bt)),some (.e9 39 (Fl t.ar))]
attribute [go_sem] ag7 agV TJ SG
end Go.Proofs.YtnhdminpjihbnaaGreat
