/-
  Slices that share nothing, as trees: numbers, terms, words, formulas. A step towards the exact laws.
-/
import Derived.Test.YtphcpjhkeipggaaGreatKBEa
import Derived.Test.YtphcpjhkeipggaaGreatKBDa
import Derived.Test.YtphcpjhkeipggaaGreatKBX
set_option linter.unusedVariables false
set_option linter.unusedSimpArgs false
open List renaming getElem?_eq_getElem→af,take_add_one→bz
namespace Go.Proofs.YtphcpjhkeipggaaGreat
open Go.Eng Go.Mod
set_option maxRecDepth 100000
def Aa(ns:List Int):List (List T):=ns.map fun n=>[.fM (.val (.int .i64 n))]
theorem Db(ns:List Int):lift (bm ns)=Aa ns:=by simp[lift,bm,Aa]
mutual
def tT:ax→List T
 | .mk name ar=>[.fM (.str name),.own 32 (yi ar)]
def yi:List ax→List (List T)
 | []=>[]
 | t::ts=>tT t::yi ts
end
def cTT(t:ax):List T:=[.fM (.str t.name),.own 32 (yi t.ar)]
theorem agO(t:ax):tT t=cTT t:=by cases t;rfl
theorem JF:∀(ts:List ax),yi ts=ts.map cTT
 | []=>rfl
 | t::ts=>by simp[yi,agO,JF ts]
def Hp(s:Sym):List T:=[.fM (.str s.name),.own 3 (Aa s.args),.fM (.val (.int .i64 s.sort))]
def Ah(l:List Sym):List (List T):=l.map Hp
mutual
def fT:Mod.bU→List T
 | .mk kind l ar=>[.fM (.val (.int .i64 kind)),.fM (.val (.int .i64 l.aN.kind)),.fM (.str l.aN.A.name),.own 32 (yi l.aN.A.ar),.fM (.str l.aN.B.name),.own 32 (yi l.aN.B.ar),.own 32 (yi l.aN.ai),.own 3 (Aa l.aN.a8),.fM (.val (.int .i64 l.aN.bj)),.fM (.val (.bool l.aN.bJ)),.fM (.val (.bool l.no)),.own 63 (fTs ar)]
def fTs:List Mod.bU→List (List T)
 | []=>[]
 | t::ts=>fT t::fTs ts
end
def cFT(t:Mod.bU):List T:=[.fM (.val (.int .i64 t.kind)),.fM (.val (.int .i64 t.lit.aN.kind)),.fM (.str t.lit.aN.A.name),.own 32 (yi t.lit.aN.A.ar),.fM (.str t.lit.aN.B.name),.own 32 (yi t.lit.aN.B.ar),.own 32 (yi t.lit.aN.ai),.own 3 (Aa t.lit.aN.a8),.fM (.val (.int .i64 t.lit.aN.bj)),.fM (.val (.bool t.lit.aN.bJ)),.fM (.val (.bool t.lit.no)),.own 63 (fTs t.ar)]
def cLT(fs:List Mod.bU):List T:=[.own 63 (fTs fs)]
def lT(l:List (List Mod.bU)):List (List T):=l.map cLT
theorem Lh(ns:List Int):dP (Aa ns)=some (bm ns):=by rw[←Db,o9]
mutual
theorem afo:∀(t:ax),iz (tT t)=some (cT t)
 | .mk name ar=>by have:=yt ar;simp[tT,iz,T.Kj,this,cT,ax.name,ax.ar]
theorem yt:∀(ts:List ax),dP (yi ts)=some (aU ts)
 | []=>rfl
 | t::ts=>by have h1:=afo t;have h2:=yt ts;simp[yi,dP,h1,h2,eZ]
end
theorem Bh:∀(l:List Sym),dP (Ah l)=some (fq l)
 | []=>rfl
 | s::l=>by have:=Bh l;simp only[Ah,List.map_cons] at this⊢;simp[dP,iz,T.Kj,Hp,Lh,this,fq,zT]
mutual
theorem ag1:∀(t:ax),sdT (tT t)=true
 | .mk name ar=>by have:=Wo ar;simp[tT,sdT,T.sd,sdD,this]
theorem Wo:∀(ts:List ax),SI (yi ts)=true
 | []=>rfl
 | t::ts=>by have h1:=ag1 t;have h2:=Wo ts;simp[yi,SI,h1,h2]
end
attribute [go_sem] Lh yt Bh Wo Db Option.isSome_some
mutual
theorem ZI{m:List Nat}:∀(t:T),t.Kj.isSome=true→t.nZ m=t
 | .fM d,_=>rfl
 | .ref j,h=>by simp[T.Kj] at h
 | .own e xs,h=>by
  have:(dP xs).isSome=true:=by
   cases hx:dP xs with
   | none=>simp[T.Kj,hx] at h
   | some y=>rfl
  simp only[T.nZ,G8 xs this]
theorem N0{m:List Nat}:∀(ts:List T),(iz ts).isSome=true→nV m ts=ts
 | [],_=>rfl
 | t::ts,h=>by
  simp only[iz] at h;cases h1:t.Kj with
  | none=>simp[h1] at h
  | some d=>cases h2:iz ts with
    | none=>simp[h1,h2] at h
    | some ds=>simp only[nV,ZI t (by rw[h1];rfl),N0 ts (by rw[h2];rfl)]
theorem G8{m:List Nat}:∀(xs:List (List T)),(dP xs).isSome=true→mO m xs=xs
 | [],_=>rfl
 | x::xs,h=>by
  simp only[dP] at h;cases h1:iz x with
  | none=>simp[h1] at h
  | some d=>cases h2:dP xs with
    | none=>simp[h1,h2] at h
    | some ds=>simp only[mO,N0 x (by rw[h1];rfl),G8 xs (by rw[h2];rfl)]
end
theorem acV(m:List Nat)(l:List ax):mO m (yi l)=yi l:=G8 _ (by rw[yt];rfl)
attribute [go_sem] acV
theorem xH(l:List Sym):Ah l=l.map Hp:=rfl
def cIT(n:Int):List T:=[.fM (.val (.int .i64 n))]
theorem GS(l:List Int):Aa l=l.map cIT:=rfl
theorem abo(l:List Int):(Aa l).length=l.length:=by rw[GS];simp
theorem acz(l:List Int)(t:Int):Aa l++[cIT t]=Aa (l++[t]):=by rw[GS,GS];simp
theorem Xp(l:List ax):(yi l).length=l.length:=by rw[JF];simp
theorem adt(l:List ax)(t:ax):yi l++[cTT t]=yi (l++[t]):=by rw[JF,JF];simp
theorem Sr{l:List ax}{i:Nat}(h:i<l.length):yi (l.take i)++[cTT l[i]]=yi (l.take (i+1)):=by
 have e:l.take (i+1)=l.take i++[l[i]]:=by rw[bz,af h];rfl
 rw[adt,e]
theorem af3(l:List ax):(dP (yi l)).isSome=true:=by rw[yt];rfl
theorem L2(l:List Sym):(Ah l).length=l.length:=by rw[xH];simp
theorem aau{l:List Sym}{i:Nat}(h:i<l.length):rb (Ah l) i=Hp l[i]:=by rw[xH];simp[rb,List.getD,af h]
theorem aaU(l:List Sym)(i:Nat)(t:Sym):(Ah l).set i (Hp t)=Ah (l.set i t):=by rw[xH,xH,List.map_set]
theorem ack(l:List Sym)(t:Sym):Ah l++[Hp t]=Ah (l++[t]):=by rw[xH,xH];simp
theorem OO{l:List Sym}{i:Nat}(h:i<l.length):Ah (l.take i)++[Hp l[i]]=Ah (l.take (i+1)):=by
 have e:l.take (i+1)=l.take i++[l[i]]:=by rw[bz,af h];rfl
 rw[ack,e]
theorem ac7(l:List Sym):(dP (Ah l)).isSome=true:=by rw[Bh];rfl
attribute [go_sem] abo Xp L2
set_option maxHeartbeats 400000
def aij(xs:List (List T))(z:List T)(i:Nat):List (List T):=xs.take i++List.replicate (xs.length-i) z
theorem Pk:∀{xs ys:List (List T)}{a b:List (List D)},dP xs=some a→dP ys=some b→dP (xs++ys)=some (a++b)
 | [],ys,a,b,h,h'=>by simp only[dP,Option.some.injEq] at h;subst h;exact h'
 | x::xs,ys,a,b,h,h'=>by simp only[dP] at h;split at h;rename_i y ys' h1 h2;obtain rfl:=Option.some.inj h;have:=Pk h2 h';simp[dP,h1,this];cases h
def agP(t:cR)(n:Nat):List PV:=[iv t.kind,sv t.A.name,.aX n,sv t.B.name,.aX (n+1),.aX (n+2),.aX (n+3),iv t.bj,bv t.bJ]
def ahp(t:cR):List (Option En):=[some (.gD 32 (yi t.A.ar)),some (.gD 32 (yi t.B.ar)),some (.gD 32 (yi t.ai)),some (.gD 3 (Aa t.a8))]
def agS(t:Mod.bU)(n:Nat):List PV:=[iv t.kind,iv t.lit.aN.kind,sv t.lit.aN.A.name,.aX n,sv t.lit.aN.B.name,.aX (n+1),.aX (n+2),.aX (n+3),iv t.lit.aN.bj,bv t.lit.aN.bJ,bv t.lit.no,.aX (n+4)]
def ag4(t:Mod.bU):List (Option En):=[some (.gD 32 (yi t.lit.aN.A.ar)),some (.gD 32 (yi t.lit.aN.B.ar)),some (.gD 32 (yi t.lit.aN.ai)),some (.gD 3 (Aa t.lit.aN.a8)),some (.gD 63 (fTs t.ar))]
attribute [go_sem] agP ahp agS ag4
end Go.Proofs.YtphcpjhkeipggaaGreat
