/-
  Plain laws on unit propagation: two ways to look at a clause are one; it ends. No program is walked here.
-/
import Derived.Test.YtabembjmeobhoaaGreatKDE
set_option linter.unusedVariables false
set_option linter.unusedSimpArgs false
open List renaming drop_eq_getElem_cons→ae,getElem?_eq_getElem→ah,drop_of_length_le→ai,getElem?_drop→dz,drop_drop→mV
open Nat renaming zero_le→bc
namespace Go.Mod
open Go.Eng
def acb(put:List Int):Prop:=put.Pairwise (fun a b=>a.natAbs≠b.natAbs)∧∀x∈put,x≠0∧x.natAbs≤60
def O8(put:List Int):List Int→Int→Int→Int×Int
 | [],n,left=>(n,left)
 | l::ls,n,left=>if at0 put l=1 then(2,0) else if at0 put l=0 then O8 put ls (n+1) (if n=0 then l else left) else O8 put ls n left
def left(put c:List Int):Int×Int:=O8 put c 0 0
set_option maxRecDepth 100000
def YU:Nat→Int→nz→nz
 | 0,_,s=>s
 | n+1,k,s=>if 0<k then YU n (k.tdiv 10) (UInt8.ofNat (48+k.tmod 10).toNat::s) else s
def Wn(k:Int):nz:=if k≤0 then [109,48] else 109::YU 20 k []
def DC{α:Type}(f:α→Int→α×Int):List α→Int→List α×Int
 | [],k=>([],k)
 | x::xs,k=>((f x k).1::(DC f xs (f x k).2).1,(DC f xs (f x k).2).2)
theorem RE{α:Type}(f:α→Int→α×Int):∀(xs:List α)(k:Int),(DC f xs k).1.length=xs.length
 | [],_=>rfl
 | x::xs,k=>by simp[DC,RE f xs]
def Mk{α:Type}(f:α→Int→α×Int)(ts:List α)(k:Int)(i:Nat)(zs:List α)(k':Int):Prop:=
 zs.length=ts.length∧i≤ts.length∧zs.drop i=ts.drop i∧DC f ts k=(zs.take i++(DC f (ts.drop i) k').1,(DC f (ts.drop i) k').2)
theorem Mk.zero{α:Type}(f:α→Int→α×Int)(ts:List α)(k:Int):Mk f ts k 0 ts k:=⟨rfl,bc _,rfl,by simp⟩
theorem Mk.len{α:Type}{f:α→Int→α×Int}{ts zs:List α}{k k':Int}{i:Nat}(h:Mk f ts k i zs k'):zs.length=ts.length:=h.1
theorem Mk.at{α:Type}{f:α→Int→α×Int}{ts zs:List α}{k k':Int}{i:Nat}(h:Mk f ts k i zs k')(hi:i<ts.length):zs[i]'(by rw[h.1];exact hi)=ts[i]:=by
 have h1:zs.drop i=ts.drop i:=h.2.2.1
 have e:(zs.drop i)[0]?=(ts.drop i)[0]?:=by rw[h1]
 rw[dz,dz,Nat.add_zero,ah hi,ah (by rw[h.1];exact hi)] at e
 exact Option.some.inj e
theorem Mk.step{α:Type}{f:α→Int→α×Int}{ts zs:List α}{k k':Int}{i:Nat}(h:Mk f ts k i zs k')(hi:i<ts.length):Mk f ts k (i+1) (zs.set i (f ts[i] k').1) (f ts[i] k').2:=by
 obtain⟨h1,h2,h3,h4⟩:=h
 have hd:ts.drop i=ts[i]::ts.drop (i+1):=ae hi
 refine⟨by simpa using h1,hi,?_,?_⟩
 ·rw[List.drop_set_of_lt (by omega)]
  have e1:zs.drop (i+1)=(zs.drop i).drop 1:=by rw[mV]
  have e2:ts.drop (i+1)=(ts.drop i).drop 1:=by rw[mV]
  rw[e1,e2,h3]
 ·rw[h4,hd]
  simp only[DC]
  have e:(zs.set i (f ts[i] k').1).take (i+1)=zs.take i++[(f ts[i] k').1]:=by
   rw[List.take_add_one,List.take_set_of_le (Nat.le_refl i),List.getElem?_set_self (by omega)]
   rfl
  rw[e]
  simp
theorem Mk.all{α:Type}{f:α→Int→α×Int}{ts zs:List α}{k k':Int}{i:Nat}(h:Mk f ts k i zs k')(hi:ts.length≤i):DC f ts k=(zs,k'):=by
 obtain⟨h1,h2,h3,h4⟩:=h
 rw[h4,ai hi,List.take_of_length_le (by omega)]
 simp[DC]
def mkI(n:Int)(k:Int):Int×Int:=(k,k+1)
mutual
def mkT:Term→Int→Term×Int
 | .mk _ ks,k=>(.mk (Wn k) (Wx ks (k+1)).1,(Wx ks (k+1)).2)
def Wx:List Term→Int→List Term×Int
 | [],k=>([],k)
 | t::ts,k=>((mkT t k).1::(Wx ts (mkT t k).2).1,(Wx ts (mkT t k).2).2)
end
def UD(s:Sym)(k:Int):Sym×Int:=(⟨Wn k,(DC mkI s.args (k+1)).1,(DC mkI s.args (k+1)).2⟩,(DC mkI s.args (k+1)).2+1)
def mkAtom(a:Atom)(k:Int):Atom×Int:=
 let A:=mkT a.A (k+1)
 let B:=mkT a.B A.2
 let N:=Wx a.nums B.2
 let I:=DC mkI a.times N.2
 (⟨k,A.1,B.1,N.1,I.1,I.2,decide ((I.2+1).tmod 3=0)⟩,I.2+1+1)
def mkLit(l:bm)(k:Int):bm×Int:=(⟨(mkAtom l.atom k).1,decide ((mkAtom l.atom k).2.tmod 3=0)⟩,(mkAtom l.atom k).2+1)
mutual
def Px:Form→Int→Form×Int
 | .mk _ l ks,k=>(.mk k (mkLit l (k+1)).1 (yw ks (mkLit l (k+1)).2).1,(yw ks (mkLit l (k+1)).2).2)
def yw:List Form→Int→List Form×Int
 | [],k=>([],k)
 | t::ts,k=>((Px t k).1::(yw ts (Px t k).2).1,(yw ts (Px t k).2).2)
end
def abC(s:Stack)(k:Int):Stack×Int:=(⟨⟨(DC UD s.sig.syms k).1⟩,(DC yw s.levels (DC UD s.sig.syms k).2).1⟩,(DC yw s.levels (DC UD s.sig.syms k).2).2)
mutual
def ctT:Term→Nat
 | .mk _ ks=>1+Zs ks
def Zs:List Term→Nat
 | []=>0
 | t::ts=>ctT t+Zs ts
end
def ab8(s:Sym):Nat:=s.args.length+2
def aa2(l:bm):Nat:=ctT l.atom.A+ctT l.atom.B+Zs l.atom.nums+l.atom.times.length+4
mutual
def Zk:Form→Nat
 | .mk _ l ks=>1+aa2 l+R8 ks
def R8:List Form→Nat
 | []=>0
 | t::ts=>Zk t+R8 ts
end
def ctL{α:Type}(c:α→Nat):List α→Nat
 | []=>0
 | x::xs=>c x+ctL c xs
def Hd{α:Type}(f:α→Int→α×Int)(ts zs:List α)(k:Int)(i:Nat)(q:Int):Prop:=
 zs.length=ts.length∧i≤ts.length∧zs.drop i=(DC f (ts.drop i) q).1∧(DC f ts k).2=(DC f (ts.drop i) q).2
theorem Hd.zero{α:Type}(f:α→Int→α×Int)(ts:List α)(k:Int):Hd f ts (DC f ts k).1 k 0 k:=⟨RE f ts k,bc _,by simp,by simp⟩
theorem Hd.at{α:Type}{f:α→Int→α×Int}{ts zs:List α}{k q:Int}{i:Nat}(h:Hd f ts zs k i q)(hi:i<ts.length):zs[i]'(by rw[h.1];exact hi)=(f ts[i] q).1:=by
 have h1:=h.2.2.1
 rw[ae hi,ae (by rw[h.1];exact hi)] at h1
 simp only[DC] at h1
 exact(List.cons.inj h1).1
theorem Hd.step{α:Type}{f:α→Int→α×Int}{ts zs:List α}{k q:Int}{i:Nat}(h:Hd f ts zs k i q)(hi:i<ts.length):Hd f ts zs k (i+1) (f ts[i] q).2:=by
 obtain⟨h1,h2,h3,h4⟩:=h
 rw[ae hi] at h3 h4
 rw[ae (by rw[h1];exact hi)] at h3
 simp only[DC] at h3 h4
 exact⟨h1,hi,(List.cons.inj h3).2,h4⟩
theorem Hd.all{α:Type}{f:α→Int→α×Int}{ts zs:List α}{k q:Int}{i:Nat}(h:Hd f ts zs k i q)(hi:ts.length≤i):(DC f ts k).2=q:=by
 rw[h.2.2.2,ai hi]
 rfl
end Go.Mod
