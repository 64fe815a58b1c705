/-
  The stacks that are drawn, in plain Lean: how big they are. No program is walked here.
-/
import Derived.Test.YtnhdminpjihbnaaGreatKAEb
set_option linter.unusedVariables false
set_option linter.unusedSimpArgs false
open Bool renaming and_eq_true→ab
open Classical renaming em→aa
open Int renaming toNat_natCast→aS
open List renaming mem_cons→ax,length_append→ay,length_cons→aG,replicate→aL,not_mem_nil→bB,getD→b9
open Nat renaming pow_le_pow_right→cI,add_mul→da,one_le_two_pow→dq,pow_succ→jL
namespace Go.Mod
open Go.Eng
set_option maxRecDepth 100000
mutual
theorem RS:∀(t:az)(d:Nat),bX t d=true→U0 t+1≤2 ^ d
 | .mk _ ks,0,h=>by simp[bX] at h
 | .mk _ ks,d+1,h=>by simp only[bX,ab,decide_eq_true_eq] at h;have h1:=Y7 ks d h.2.2;have h2:ks.length*(2 ^ d-1)≤2*(2 ^ d-1):=Nat.mul_le_mul_right _ h.2.1;have h3:1≤2 ^ d:=dq;rw[U0,jL];omega
theorem Y7:∀(ts:List az)(d:Nat),dj ts d=true→vt ts≤ts.length*(2 ^ d-1)
 | [],_,_=>by simp[vt]
 | t::ts,d,h=>by simp only[dj,ab] at h;have h1:=RS t d h.1;have h2:=Y7 ts d h.2;rw[vt,aG,da,Nat.one_mul];omega
end
theorem DU{t:az}(h:bR t=true):U0 t≤15:=by have:=RS t 4 (jt h);omega
theorem Ia:∀(ts:List az),(∀t∈ts,bR t=true)→vt ts≤ts.length*15
 | [],_=>by simp[vt]
 | t::ts,h=>by have h1:=DU (h t (by simp));have h2:=Ia ts fun x hx=>h x (by simp[hx]);rw[vt,aG];omega
theorem S0{t:az}(h:isNone t=true):U0 t=1:=by
 cases t with
 | mk n ks=>simp only[isNone,ab,decide_eq_true_eq] at h;have h2:ks=[]:=h.2;rw[U0,h2,vt]
theorem ade{a:bz}(h:dh a=true)(no:Bool):tq ⟨a,no⟩≤80:=by unfold tq;rcases nM h with k|k;obtain⟨h1,h2⟩:=GI h k;have a1:=DU h1;have a2:=DU h2;rw[dh,if_pos k] at h;simp only[ab,decide_eq_true_eq] at h;have e:a.an=[]:=List.length_eq_zero_iff.1 oM;simp only[e,vt];omega;obtain⟨h1,h2,h3,h4,_,_⟩:=qC h k;have hn:=nX h;simp only[cZ,k,if_neg (show ¬ (2:Int)=1 by decide)] at hn;have a1:=S0 h1;have a2:=S0 h2;have a3:=Ia a.an hn.2;simp only;omega
theorem agH:tq Hc=6:=rfl
theorem abw(no:Bool):tq ⟨tz,no⟩=6:=rfl
def zO(l:List bz):Prop:=∀a∈l,dh a=true
theorem Ln{l:List bz}(h:zO l)(i:Nat)(no:Bool):tq ⟨l.getD i tz,no⟩≤80:=by
 rcases aa (i<l.length) with hi|hi;have e:l.getD i tz=l[i]:=by simp[b9,hi]
 rw[e];exact ade (h _ (List.getElem_mem hi)) no;have e:l.getD i tz=tz:=by simp[b9,List.getElem?_eq_none (Nat.le_of_not_lt hi)]
 rw[e,abw];omega
theorem Eu{b:List Int}(hb:rT b){atoms:List bz}(hw:zO atoms):∀(d:Nat)(p:Int),0≤p→1≤d→iw (jR b atoms d p).1+81≤81*2 ^ d
 | 0,p,_,h=>by omega
 | d+1,p,hp,_=>by
  have ih:=Eu hb hw d;have hN:(2:Nat) ^ (d+1)=2*2 ^ d:=(by rw[jL];omega);have hN1:=dq (n:=d);simp only[jR];split;have:=Ln hw (cP b p atoms.length).toNat (decide (cP b (p+1) 3=0));simp only[iw,dU];omega;rename_i hd0;have UJ:1≤d:=oM;have hd2:2≤2 ^ d:=(by have:=cI (n:=2) oM UJ;omega);split;have:=Ln hw (cP b (p+1) atoms.length).toNat (decide (cP b (p+2) 3=0));simp only[iw,dU];omega;have hk:=GA hb (p:=p+1) oM;generalize iI b (p+1) [3,4,4,5,3,6,2]=k at hk⊢;have key:∀(n:Nat)(q:Int),0≤q→dU (jl (fun(_:Unit) q=>jR b atoms d q) (aL n ()) q).1+n*81≤n*(81*2 ^ d):=by
   intro n;induction n with
   | zero=>intro q hq;simp[jl,dU]
   | succ n ihn=>intro q hq;have a3:=ih q hq UJ;have a1:=(DE hb (atoms:=atoms) d q hq).1;have b3:=ihn (jR b atoms d q).2 oM;simp only[List.replicate_succ,jl,dU];have e2:(n+1)*(81*2 ^ d)=n*(81*2 ^ d)+81*2 ^ d:=(by rw[da,Nat.one_mul]);omega
  have c3:=key (fG k).toNat (p+2) oM;simp only[iw,agH];have e3:(fG k).toNat=1∨(fG k).toNat=2:=oM;rcases e3 with e3|e3<;>(rw[e3] at c3⊢;omega)
theorem ZN{s:eV}{l:List bz}(h:gO s (plain l)=true):zO l:=by intro a ha;simp only[gO,ab] at h;have h1:=List.all_eq_true.1 h.1.1.2 ⟨a,false⟩ (List.mem_map.2 ⟨a,ha,rfl⟩);simp only[hU,ab] at h1;exact h1.2.1
theorem Ut{b:List Int}{s:eV}{l:List bz}{p:Int}(h:zO l):zO (ld b s l p).1:=by simp only[ld];split;rename_i dL;have hw:=ZN dL;split;exact hw;exact h;exact h
theorem SB{b:List Int}{s:eV}:∀(n:Nat)(l:List bz)(p:Int),zO l→zO (iY (ld b s) n l p).1
 | 0,l,p,h=>h
 | n+1,l,p,h=>by rw[iY];exact SB n _ _ (Ut h)
theorem Mj{b:List Int}{s:eV}{p:Int}:zO (mg b s p).1:=by have h:=SB (b:=b) (s:=s) (iI b p [2,3,4,5,1]).toNat [] (p+1) (by intro a ha;simp at ha);simp only[mg];split;intro a ha;rcases List.mem_append.1 ha with ha|ha;exact h a ha;simp only[ax,bB,or_false] at ha;subst ha;decide;exact h
def kz(s:eV):e7:=if gy s then⟨s,[[]]⟩ else⟨⟨[]⟩,[]⟩
def fJ(k:e7):e7×Bool:=
 if fc k then(if 4≤k.aA.length then(k,false) else(⟨k.sig,k.aA++[[]]⟩,true)) else(⟨⟨[]⟩,[]⟩,false)
def fO(x:e7×Bool)(k:e7):e7:=if x.2 then x.1 else k
def jT(b:List Int)(nC:List bz)(k:e7)(q:Int):e7×Int:=
 if cP b q 4=0 then(fO (fJ k) k,q+1) else
 if cP b q 4=1 then(if cP b (q+1) 2=0 then(fO (gN k) k,q+2) else(k,q+2)) else
 let f:=jR b nC (iI b (q+1) [1,2]).toNat (q+2)
 (fO (bZ k f.1) k,f.2)
theorem Ro{α:Type}(c:α→Nat):∀(a b:List α),tL c (a++b)=tL c a+tL c b
 | [],b=>by simp[tL]
 | x::a,b=>by simp only[List.cons_append,tL,Ro c a b];omega
theorem IA{α:Type}(c:α→Nat):∀(n:Nat)(l:List α),tL c (l.take n)≤tL c l
 | 0,l=>by simp[tL]
 | n+1,[]=>by simp[tL]
 | n+1,x::l=>by have:=IA c n l;simp only[List.take_succ_cons,tL];omega
theorem afw(k:e7):di (fO (fJ k) k)≤di k:=by
 rcases aa (fc k=true) with h1|h1;rcases aa (4≤k.aA.length) with h2|h2;simp[fO,fJ,h1,h2];have e:tL dU (k.aA++[[]])=tL dU k.aA:=by rw[Ro];simp[tL,dU]
 simp[fO,fJ,h1,h2,di,e];simp[fO,fJ,h1]
theorem ahd(k:e7):di (fO (gN k) k)≤di k:=by have:=IA dU (k.aA.length-1) k.aA;rcases aa (fc k=true) with h1|h1;rcases aa (k.aA.length=1) with h2|h2;simp[fO,gN,h1,h2];simp[fO,gN,h1,h2,di];exact this;simp[fO,gN,h1]
theorem Zo(k:e7)(f:aU):di (fO (bZ k f) k)≤di k+iw f:=by have:=Q4 k f;unfold fO;split;exact this;omega
theorem OY{b:List Int}(hb:rT b){nC:List bz}(hw:zO nC){k:e7}{q:Int}(hq:0≤q):q≤(jT b nC k q).2∧(jT b nC k q).2≤q+14∧di (jT b nC k q).1≤di k+243:=by
 have h1:=afw k;have h2:=ahd k;unfold jT;split;exact⟨by simp only;omega,by simp only;omega,by simp only;omega⟩;split;split;exact⟨by simp only;omega,by simp only;omega,by simp only;omega⟩;exact⟨by simp only;omega,by simp only;omega,by simp only;omega⟩;obtain⟨d,e,d1,d2⟩:∃d:Nat,iI b (q+1) [1,2]=d∧1≤d∧d≤2:=by have hm:=oQ hb (p:=q+1) (l:=[1,2]) oM (by simp);simp only[ax,bB,or_false] at hm;exact⟨(iI b (q+1) [1,2]).toNat,oM,oM,oM⟩
 have g1:=DE hb (atoms:=nC) d (q+2) oM;have g2:=Eu hb hw d (q+2) oM d1;have g3:81*2 ^ d≤81*2 ^ 2:=Nat.mul_le_mul_left _ (cI oM d2);have g4:=vS d2;have h3:=Zo k (jR b nC d (q+2)).1;simp only[e,aS];have e4:(2:Int) ^ 2=4:=by decide
 exact⟨oM,oM,oM⟩
theorem VP{b:List Int}(hb:rT b){nC:List bz}(hw:zO nC):∀(n:Nat)(k:e7)(q:Int),0≤q→q≤(iY (jT b nC) n k q).2∧(iY (jT b nC) n k q).2≤q+n*14∧di (iY (jT b nC) n k q).1≤di k+n*243
 | 0,k,q,_=>by simp[iY]
 | n+1,k,q,hq=>by have h1:=OY hb hw (k:=k) hq;have h2:=VP hb hw n (jT b nC k q).1 (jT b nC k q).2 oM;rw[iY];omega
theorem YQ{s:eV}(h:fe s):tL rR s.cq≤28:=by
 obtain⟨h1,h2⟩:=h;have key:∀l:List Sym,(∀x∈l,x.args.length≤2∧ig x.name=true)→tL rR l≤l.length*4:=by
  intro l;induction l with
  | nil=>intro _;simp[tL]
  | cons x l ih=>intro hx;have a1:=ih fun y hy=>hx y (by simp[hy]);have a2:=(hx x (by simp)).1;simp only[tL,rR,aG];omega
 have:=key s.cq h2;omega
theorem abd{s:eV}(h:fe s):di (kz s)≤28:=by have:=YQ h;unfold kz;split;simp only[di,tL,dU];omega;simp[di,tL]
def ib(b:List Int)(p:Int):e7×List bz×Int:=
 let s:=(nE b p).1
 let a:=mg b s (p+1)
 let r:=iY (jT b a.1) (iI b a.2 [3,4,6,2,0]).toNat (kz s) (a.2+1)
 (r.1,a.1,r.2)
theorem Qz{b:List Int}(hb:rT b){p:Int}(hp:0≤p):∃n:Nat,iI b p [3,4,6,2,0]=n∧n≤6:=by have hm:=oQ hb (p:=p) (l:=[3,4,6,2,0]) hp (by simp);simp only[ax,bB,or_false] at hm;exact⟨(iI b p [3,4,6,2,0]).toNat,oM,oM⟩
theorem B5{b:List Int}(hb:rT b){p:Int}(hp:0≤p):p≤(ib b p).2.2∧(ib b p).2.2≤p+600∧di (ib b p).1≤2000∧zO (ib b p).2.1∧1≤(ib b p).2.1.length∧(ib b p).2.1.length≤10:=by have h1:=Cg hb (s:=(nE b p).1) (nQ _) (p:=p+1) oM;obtain⟨n,e,hn⟩:=Qz hb (p:=(mg b (nE b p).1 (p+1)).2) oM;have hw:=Mj (b:=b) (s:=(nE b p).1) (p:=p+1);have h2:=VP hb hw n (kz (nE b p).1) ((mg b (nE b p).1 (p+1)).2+1) oM;have h3:=abd (s:=(nE b p).1) (nQ _);simp only[ib,e,aS];exact⟨oM,oM,oM,hw,oM,oM⟩
theorem Ej{x:e7×Bool}{k:e7}(h:x.2=true→x.1.sig=k.sig):(fO x k).sig=k.sig:=by unfold fO;split;rename_i h1;exact h h1;rfl
theorem acE(k:e7):(fO (fJ k) k).sig=k.sig:=Ej fun h=>by unfold fJ at h⊢;split at h;rename_i h1;rw[if_pos h1];split<;>rfl;simp at h
theorem afr(k:e7):(fO (gN k) k).sig=k.sig:=Ej fun h=>by unfold gN at h⊢;split at h;rename_i h1;rw[if_pos h1];split<;>rfl;simp at h
theorem acf(k:e7)(f:aU):(fO (bZ k f) k).sig=k.sig:=Ej fun h=>by unfold bZ at h⊢;split at h;rename_i h1;rw[if_pos h1];split<;>rfl;simp at h
theorem Tq(b:List Int)(nC:List bz)(k:e7)(q:Int):(jT b nC k q).1.aA.length≤k.aA.length+1:=by
 have h1:(fO (fJ k) k).aA.length≤k.aA.length+1:=by rcases aa (fc k=true) with h1|h1;rcases aa (4≤k.aA.length) with h2|h2;simp[fO,fJ,h1,h2];simp[fO,fJ,h1,h2];simp[fO,fJ,h1]
 have h2:(fO (gN k) k).aA.length≤k.aA.length+1:=by rcases aa (fc k=true) with h1|h1;rcases aa (k.aA.length=1) with h2|h2;simp[fO,gN,h1,h2];simp[fO,gN,h1,h2];omega;simp[fO,gN,h1]
 have h3:∀f,(fO (bZ k f) k).aA.length≤k.aA.length+1:=by intro f;have:=qT k.aA f;rcases aa (fc k=true) with h1|h1;rcases aa (fc ⟨k.sig,cM k.aA f⟩=true) with h2|h2;simp[fO,bZ,h1,h2];omega;simp[fO,bZ,h1,h2];simp[fO,bZ,h1]
 unfold jT;split;exact h1;split;split;exact h2;simp;exact h3 _
theorem Ty(b:List Int)(nC:List bz):∀(n:Nat)(k:e7)(q:Int),(iY (jT b nC) n k q).1.aA.length≤k.aA.length+n
 | 0,k,q=>by simp[iY]
 | n+1,k,q=>by have h1:=Ty b nC n (jT b nC k q).1 (jT b nC k q).2;have h2:=Tq b nC k q;rw[iY];omega
theorem UK{b:List Int}(hb:rT b){p:Int}(hp:0≤p):(ib b p).1.aA.length≤7:=by
 have h1:=Cg hb (s:=(nE b p).1) (nQ _) (p:=p+1) oM;obtain⟨n,e,hn⟩:=Qz hb (p:=(mg b (nE b p).1 (p+1)).2) oM;have h2:=Ty b (mg b (nE b p).1 (p+1)).1 n (kz (nE b p).1) ((mg b (nE b p).1 (p+1)).2+1);have h3:(kz (nE b p).1).aA.length≤1:=by unfold kz;split<;>simp
 simp only[ib,e,aS];omega
theorem UY(b:List Int)(nC:List bz)(k:e7)(q:Int):(jT b nC k q).1.sig=k.sig:=by unfold jT;split;exact acE k;split;split;exact afr k;rfl;exact acf k _
theorem UT(b:List Int)(nC:List bz):∀(n:Nat)(k:e7)(q:Int),(iY (jT b nC) n k q).1.sig=k.sig
 | 0,k,q=>rfl
 | n+1,k,q=>by rw[iY,UT b nC n,UY]
theorem abO{s:eV}(h:fe s):fe (kz s).sig:=by unfold kz;split;exact h;exact⟨by simp,by simp⟩
theorem QV(b:List Int)(p:Int):fe (ib b p).1.sig:=by simp only[ib,UT];exact abO (nQ _)
def u5(b:List Int)(k:e7)(p:Int):e7×Int:=
 if cP b p 40=0 then(⟨k.sig,[]⟩,p+1) else
 if cP b p 40=1 then(⟨k.sig,k.aA++aL (5-k.aA.length) []⟩,p+1) else
 if cP b p 40=2 then(⟨(jV b (jV b k.sig (p+1)).1 (jV b k.sig (p+1)).2).1,k.aA⟩,(jV b (jV b k.sig (p+1)).1 (jV b k.sig (p+1)).2).2) else
 if cP b p 40=3 then(⟨k.sig,match k.aA with | []=>[]|x::l=>(x++[Dq])::l⟩,p+1) else(k,p+1)
theorem Rb{b:List Int}{k:e7}{p:Int}(h:di k≤3000):(u5 b k p).1.aA.flatten.length≤8000000:=by
 have h1:=gM k.aA;rw[di] at h;unfold u5;split;simp;split;rw[List.flatten_append,ay];have:∀n,(aL n ([]:List aU)).flatten.length=0:=by intro n;simp
 rw[this];omega;split;simp only;omega;split
 ·cases hk:k.aA with
  | nil=>simp
  | cons x l=>rw[hk] at h h1;simp only[List.flatten_cons,ay,aG,List.length_nil] at h1⊢;omega
 simp only;omega
def od(c:List Int):e7×aU:=
 let r:=ib c 0
 let f:=jR c r.2.1 (iI c r.2.2 [1,2]).toNat (r.2.2+1)
 let g:=if cP c f.2 12=0 then((uo c (f.2+1)).2.1,(uo c (f.2+1)).2.2) else(f.1,f.2+1)
 ((u5 c r.1 g.2).1,g.1)
theorem Mf{c:List Int}(hb:rT c):∃d:Nat,iI c (ib c 0).2.2 [1,2]=d∧1≤d∧d≤2:=by have h:=B5 hb (p:=0) oM;have hm:=oQ hb (p:=(ib c 0).2.2) (l:=[1,2]) oM (by simp);simp only[ax,bB,or_false] at hm;exact⟨(iI c (ib c 0).2.2 [1,2]).toNat,oM,oM,oM⟩
theorem Oj{c:List Int}(hb:rT c):(od c).1.aA.flatten.length≤8000000:=by have h:=B5 hb (p:=0) oM;simp only[od];exact Rb oM
end Go.Mod
