/-
  Plain laws on unit propagation: two ways to look at a clause are one; it ends. No program is walked here.
-/
import Derived.Test.YtpidddienjoleaaGreatKDE
set_option linter.unusedVariables false
set_option linter.unusedSimpArgs false
namespace Go.Mod
open Go.Eng
def S7(put:List Int):Prop:=put.Pairwise (fun a b=>a.natAbs≠b.natAbs)∧∀x∈put,x≠0∧x.natAbs≤60
def Gs(put:List Int):List Int→Int→Int→Int×Int
 | [],n,left=>(n,left)
 | l::ls,n,left=>if S3 put l=1 then(2,0) else if S3 put l=0 then Gs put ls (n+1) (if n=0 then l else left) else Gs put ls n left
def left(put c:List Int):Int×Int:=Gs put c 0 0
end Go.Mod
namespace Go.Mod
open Go.Eng
set_option maxRecDepth 100000
def PL:Nat→Int→gR→gR
 | 0,_,s=>s
 | n+1,k,s=>if 0<k then PL n (k.tdiv 10) (UInt8.ofNat (48+k.tmod 10).toNat::s) else s
def Nd(k:Int):gR:=if k≤0 then [109,48] else 109::PL 20 k []
def vI{α:Type}(f:α→Int→α×Int):List α→Int→List α×Int
 | [],k=>([],k)
 | x::xs,k=>((f x k).1::(vI f xs (f x k).2).1,(vI f xs (f x k).2).2)
theorem I4{α:Type}(f:α→Int→α×Int):∀(xs:List α)(k:Int),(vI f xs k).1.length=xs.length
 | [],_=>rfl
 | x::xs,k=>by simp[vI,I4 f xs]
def Mk{α:Type}(f:α→Int→α×Int)(ts:List α)(k:Int)(i:Nat)(zs:List α)(k':Int):Prop:=
 zs.length=ts.length∧i≤ts.length∧zs.drop i=ts.drop i∧vI f ts k=(zs.take i++(vI f (ts.drop i) k').1,(vI f (ts.drop i) k').2)
theorem Mk.zero{α:Type}(f:α→Int→α×Int)(ts:List α)(k:Int):Mk f ts k 0 ts k:=⟨rfl,Nat.zero_le _,rfl,by simp⟩
theorem Mk.len{α:Type}{f:α→Int→α×Int}{ts zs:List α}{k k':Int}{i:Nat}(h:Mk f ts k i zs k'):zs.length=ts.length:=h.1
theorem Mk.at{α:Type}{f:α→Int→α×Int}{ts zs:List α}{k k':Int}{i:Nat}(h:Mk f ts k i zs k')(hi:i<ts.length):zs[i]'(by rw[h.1];exact hi)=ts[i]:=by
 have h1:zs.drop i=ts.drop i:=h.2.2.1
 have e:(zs.drop i)[0]?=(ts.drop i)[0]?:=by rw[h1]
 rw[List.getElem?_drop,List.getElem?_drop,Nat.add_zero,List.getElem?_eq_getElem hi,List.getElem?_eq_getElem (by rw[h.1];exact hi)] at e
 exact Option.some.inj e
theorem Mk.step{α:Type}{f:α→Int→α×Int}{ts zs:List α}{k k':Int}{i:Nat}(h:Mk f ts k i zs k')(hi:i<ts.length):Mk f ts k (i+1) (zs.set i (f ts[i] k').1) (f ts[i] k').2:=by
 obtain⟨h1,h2,h3,h4⟩:=h
 have hd:ts.drop i=ts[i]::ts.drop (i+1):=List.drop_eq_getElem_cons hi
 refine⟨by simpa using h1,hi,?_,?_⟩
 ·rw[List.drop_set_of_lt (by omega)]
  have e1:zs.drop (i+1)=(zs.drop i).drop 1:=by rw[List.drop_drop]
  have e2:ts.drop (i+1)=(ts.drop i).drop 1:=by rw[List.drop_drop]
  rw[e1,e2,h3]
 ·rw[h4,hd]
  simp only[vI]
  have e:(zs.set i (f ts[i] k').1).take (i+1)=zs.take i++[(f ts[i] k').1]:=by
   rw[List.take_add_one,List.take_set_of_le (Nat.le_refl i),List.getElem?_set_self (by omega)]
   rfl
  rw[e]
  simp
theorem Mk.all{α:Type}{f:α→Int→α×Int}{ts zs:List α}{k k':Int}{i:Nat}(h:Mk f ts k i zs k')(hi:ts.length≤i):vI f ts k=(zs,k'):=by
 obtain⟨h1,h2,h3,h4⟩:=h
 rw[h4,List.drop_of_length_le hi,List.take_of_length_le (by omega)]
 simp[vI]
def Sw(n:Int)(k:Int):Int×Int:=(k,k+1)
mutual
def St:Term→Int→Term×Int
 | .mk _ ks,k=>(.mk (Nd k) (L6 ks (k+1)).1,(L6 ks (k+1)).2)
def L6:List Term→Int→List Term×Int
 | [],k=>([],k)
 | t::ts,k=>((St t k).1::(L6 ts (St t k).2).1,(L6 ts (St t k).2).2)
end
def KI(s:Sym)(k:Int):Sym×Int:=(⟨Nd k,(vI Sw s.args (k+1)).1,(vI Sw s.args (k+1)).2⟩,(vI Sw s.args (k+1)).2+1)
def mkAtom(a:Atom)(k:Int):Atom×Int:=
 let A:=St a.A (k+1)
 let B:=St a.B A.2
 let N:=L6 a.nums B.2
 let I:=vI Sw a.times N.2
 (⟨k,A.1,B.1,N.1,I.1,I.2,decide ((I.2+1).tmod 3=0)⟩,I.2+1+1)
def mkLit(l:aE)(k:Int):aE×Int:=(⟨(mkAtom l.atom k).1,decide ((mkAtom l.atom k).2.tmod 3=0)⟩,(mkAtom l.atom k).2+1)
mutual
def HR:Form→Int→Form×Int
 | .mk _ l ks,k=>(.mk k (mkLit l (k+1)).1 (qe ks (mkLit l (k+1)).2).1,(qe ks (mkLit l (k+1)).2).2)
def qe:List Form→Int→List Form×Int
 | [],k=>([],k)
 | t::ts,k=>((HR t k).1::(qe ts (HR t k).2).1,(qe ts (HR t k).2).2)
end
def SH(s:Stack)(k:Int):Stack×Int:=(⟨⟨(vI KI s.sig.syms k).1⟩,(vI qe s.levels (vI KI s.sig.syms k).2).1⟩,(vI qe s.levels (vI KI s.sig.syms k).2).2)
mutual
def SV:Term→Nat
 | .mk _ ks=>1+Qh ks
def Qh:List Term→Nat
 | []=>0
 | t::ts=>SV t+Qh ts
end
def S8(s:Sym):Nat:=s.args.length+2
def R2(l:aE):Nat:=SV l.atom.A+SV l.atom.B+Qh l.atom.nums+l.atom.times.length+4
mutual
def Qk:Form→Nat
 | .mk _ l ks=>1+R2 l+Je ks
def Je:List Form→Nat
 | []=>0
 | t::ts=>Qk t+Je ts
end
def Tl{α:Type}(c:α→Nat):List α→Nat
 | []=>0
 | x::xs=>c x+Tl c xs
def Hd{α:Type}(f:α→Int→α×Int)(ts zs:List α)(k:Int)(i:Nat)(q:Int):Prop:=
 zs.length=ts.length∧i≤ts.length∧zs.drop i=(vI f (ts.drop i) q).1∧(vI f ts k).2=(vI f (ts.drop i) q).2
theorem Hd.zero{α:Type}(f:α→Int→α×Int)(ts:List α)(k:Int):Hd f ts (vI f ts k).1 k 0 k:=⟨I4 f ts k,Nat.zero_le _,by simp,by simp⟩
theorem Hd.at{α:Type}{f:α→Int→α×Int}{ts zs:List α}{k q:Int}{i:Nat}(h:Hd f ts zs k i q)(hi:i<ts.length):zs[i]'(by rw[h.1];exact hi)=(f ts[i] q).1:=by
 have h1:=h.2.2.1
 rw[List.drop_eq_getElem_cons hi,List.drop_eq_getElem_cons (by rw[h.1];exact hi)] at h1
 simp only[vI] at h1
 exact(List.cons.inj h1).1
theorem Hd.step{α:Type}{f:α→Int→α×Int}{ts zs:List α}{k q:Int}{i:Nat}(h:Hd f ts zs k i q)(hi:i<ts.length):Hd f ts zs k (i+1) (f ts[i] q).2:=by
 obtain⟨h1,h2,h3,h4⟩:=h
 rw[List.drop_eq_getElem_cons hi] at h3 h4
 rw[List.drop_eq_getElem_cons (by rw[h1];exact hi)] at h3
 simp only[vI] at h3 h4
 exact⟨h1,hi,(List.cons.inj h3).2,h4⟩
theorem Hd.all{α:Type}{f:α→Int→α×Int}{ts zs:List α}{k q:Int}{i:Nat}(h:Hd f ts zs k i q)(hi:ts.length≤i):(vI f ts k).2=q:=by
 rw[h.2.2.2,List.drop_of_length_le hi]
 rfl
end Go.Mod
