/-
  The reference: the walks of formulas. A step towards the exact laws.
-/
import Derived.Test.YtphcpjhkeipggaaGreatKBT
set_option linter.unusedVariables false
set_option linter.unusedSimpArgs false
open Int renaming reduceEq→Z1,reduceLT→Z2,reduceLE→Z3,reduceToNat→Z4
open And renaming intro→an
open Bool renaming true_and→aA,false_and→aI,and_true→lz
open Classical renaming em→aa
open List renaming drop_eq_getElem_cons→ae,getElem_mem→aj,drop_of_length_le→ak,take_of_length_le→aq,length_take→bl
open Nat renaming mul_le_mul_right→bu,one_le_two_pow→eH
namespace Go.Proofs.YtphcpjhkeipggaaGreat
open Go.Eng Go.Mod
set_option maxRecDepth 100000
set_option maxHeartbeats 3200000
theorem sn(a b:cR):(a=b)=(a.kind=b.kind∧a.A=b.A∧a.B=b.B∧a.ai=b.ai∧a.a8=b.a8∧a.bj=b.bj∧a.bJ=b.bJ):=by cases a;cases b;simp only[cR.mk.injEq]
theorem tK(a b:cR):CN 247 [av (fC a),av (fC b)] (bv (decide (a=b))):=by
 refine gS 97 [.tmp 4] hm Tryz.func247 fun hl he cf=>?_;rcases aa (a.kind=b.kind) with h1|h1;rotate_left;refine du h1 ?_;simp[sn,h1];have k1:=eq_true h1;refine bH k1 ?_;refine aC [] (p9 a.A b.A) ?_;rcases aa (a.A=b.A) with h2|h2;rotate_left;refine du h2 ?_;simp[sn,h2];have k2:=eq_true h2;refine bH k2 ?_;refine aC [] (p9 a.B b.B) ?_;rcases aa (a.B=b.B) with h3|h3;rotate_left;refine du h3 ?_;simp[sn,h3];have k3:=eq_true h3;refine bH k3 ?_;rcases aa (a.ai.length=b.ai.length) with h4|h4;rotate_left;have e:¬a.ai=b.ai:=fun hh=>h4 (by rw[hh]);refine du h4 ?_;simp[sn,e];have k4:=eq_true h4;refine bH k4 ?_;rcases aa (a.a8.length=b.a8.length) with h5|h5;rotate_left;have e:¬a.a8=b.a8:=fun hh=>h5 (by rw[hh]);refine du h5 ?_;simp[sn,e];have k5:=eq_true h5;refine bH k5 ?_;rcases aa (a.bj=b.bj) with h6|h6;rotate_left;refine du h6 ?_;simp[sn,h6];have k6:=eq_true h6;refine bH k6 ?_;rcases aa (a.bJ=b.bJ) with h7|h7;rotate_left;have h7':(a.bJ == b.bJ)=false:=by simpa using h7
 refine du h7' ?_;simp[sn,h7];have h7':(a.bJ == b.bJ)=true:=by simpa using h7
 refine bH h7' ?_;refine kC hm a.ai.length (fun(i:Nat)=>(a.ai=b.ai↔a.ai.drop i=b.ai.drop i)) (fun i=>⟨dN 97 .any [(2,.bA 0 0),(3,.bA 1 0),(5,iv i)],[some (.box (dm (fC a))),some (.box (dm (fC b)))]⟩) ?_ (cM kR) ?_;simp;rintro i ⟨hi,hg⟩;rcases aa (i<a.ai.length) with q1|q1;have q2:i<b.ai.length:=oM;rw[drop_eq q1 q2] at hg;simp -implicitDefEqProofs only[go_sem,q1,q2];refine aC [] (p9 a.ai[i] b.ai[i]) ?_;refine bt ?_;rcases aa (a.ai[i]=b.ai[i]) with q3|q3;have k:=eq_true q3;refine du k ?_;refine⟨i+1,?_,sL,cM kR⟩;refine⟨oM,?_⟩;rw[hg];simp[q3];have e:¬a.ai=b.ai:=fun hh=>q3 (hg.1 hh).1;refine du q3 ?_;simp[sn,e];rw[ak oM,ak oM] at hg;have h8:a.ai=b.ai:=hg.2 rfl;refine bH q1 ?_;refine kC hm a.a8.length (fun(j:Nat)=>(a.a8=b.a8↔a.a8.drop j=b.a8.drop j)) (fun j=>⟨dN 97 .any [(2,.bA 0 0),(3,.bA 1 0),(6,iv j)],[some (.box (dm (fC a))),some (.box (dm (fC b)))]⟩) ?_ (cM kR) ?_;simp;rintro j ⟨hj,hk⟩;rcases aa (j<a.a8.length) with q1' | q1';have q2:j<b.a8.length:=oM;rw[drop_eq q1' q2] at hk;rcases aa (a.a8[j]=b.a8[j]) with q3|q3;have k:=eq_true q3;simp -implicitDefEqProofs only[go_sem,q1',q2,k];refine iK ?_;refine sQ ?_;refine⟨j+1,?_,sL,aZ kR sC sC rfl rfl⟩;refine⟨oM,?_⟩;rw[hk];simp[q3];have e:¬a.a8=b.a8:=fun hh=>q3 (hk.1 hh).1;refine gL q1' q2 q3 ?_;simp[sn,e];rw[ak oM,ak oM] at hk;refine du q1' ?_;simp[sn,h1,h2,h3,h8,h6,h7,hk]
theorem Lr(l:bL):CN 174 [av (r9 l)] (bv (ux l)):=by refine gS 12 [.tmp 2] hm Tryz.func174 fun hl he cf=>?_;cases h1:l.no;have hc:=tK l.aN rF;refine sA ?_;refine dy [] hc ?_ ?_<;>simp -implicitDefEqProofs only[go_sem];exact⟨rfl,rfl,rfl,rfl,rfl,rfl,rfl,rfl,rfl⟩;refine bt ?_;simp[ux,h1];refine bt ?_;simp[ux,h1]
theorem Cr(k:Int):CN 169 [iv k] (iv (gw k)):=by refine gS 13 [.tmp 2] hm Tryz.func169 fun hl he cf=>?_;rcases aa (k=1) with h1|h1;have q:=eq_true h1;refine du q ?_;simp[gw,h1];rcases aa (k=2) with h2|h2;have q:=eq_true h2;refine oH h1 q ?_;simp[gw,h2];rcases aa (k=3) with h3|h3;have q:=eq_true h3;refine gL h1 h2 q ?_;simp[gw,h3];rcases aa (k=4) with h4|h4;have q:=eq_true h4;refine gL h1 h2 (an h3 q) ?_;simp[gw,h4];rcases aa (k=5) with h5|h5;have q:=eq_true h5;refine gL h1 h2 (an h3 (an h4 q)) ?_;simp[gw,h5];rcases aa (k=6) with h6|h6;have q:=eq_true h6;refine gL h1 h2 (an h3 (an h4 (an h5 q))) ?_;simp[gw,h6];refine gL h1 h2 (an h3 (an h4 (an h5 h6))) ?_;simp[gw,h1,h2,h3,h4,h5,h6]
theorem Pc(t:Mod.bU)(d:Nat):cJ t (d+1)=(kV t.kind t.lit t.ar&&di t.ar d):=by cases t;rfl
theorem IQ{ts:List Mod.bU}{i:Nat}(h:i<ts.length)(d:Nat):di (ts.drop i) d=(cJ ts[i] d&&di (ts.drop (i+1)) d):=by rw[ae h,di]
theorem IT(t:Mod.bU)(ih:∀k∈t.ar,∀d:Nat,d≤5→CN 96 [av (ir k),iv d] (bv (cJ k d)))(d:Nat)(hd:d≤5) :
 CN 96 [av (ir t),iv d] (bv (cJ t d)):=by
 cases d with
 | zero=>have e:cJ t 0=false:=(by cases t;rfl);have cf:=qq;refine vE (nt:=43) (rs:=[.tmp 4]) hm Tryz.func96 rfl rfl rfl rfl rfl (fun hl he=>?_);simp -implicitDefEqProofs only[go_sem,Z2] at hl⊢;exact dD e
 | succ d=>have e:=Pc t d;unfold kV at e;refine gS 43 [.tmp 4] hm Tryz.func96 fun hl he cf=>?_;have h0:¬ (d:Int)+1<1:=oM;refine bH h0 ?_;refine sa [] (Cr t.kind) ?_;rcases aa (gw t.kind=t.ar.length) with h1|h1;rotate_left;simp only[h1,decide_false,aI] at e;exact gG h1 e;have k1:=eq_true h1;simp only[h1,decide_true,aA] at e;rcases aa (t.kind=1) with h2|h2;have k2:=eq_true h2;have hz:t.ar=[]:=(by rw[h2] at h1;have:(t.ar.length:Int)=0:=(by rw[←h1];rfl);exact List.length_eq_zero_iff.1 oM);rw[if_pos h2,hz,di,lz] at e;refine iI k1 k2 ?_;refine aC [] (vD t.lit.aN) ?_;exact dD e;rw[if_neg h2] at e;refine iI k1 h2 ?_;refine kC hm t.ar.length (fun(i:Nat)=>di t.ar d=di (t.ar.drop i) d) (fun i=>⟨dN 43 .any [(1,iv ((d:Int)+1)),(2,.bA 0 0),(5,iv i)],[some (.box (dm (ir t)))]⟩) ?_ (cM fe) ?_;simp;rintro i ⟨hi,hg⟩;rcases aa (i<t.ar.length) with h3|h3;rw[IQ h3] at hg;have e2:(d:Int)+1-1=(d:Int):=oM;simp -implicitDefEqProofs only[go_sem,h3,e2];refine sQ ?_;have hc:=ih t.ar[i] (aj h3) d oM;refine aC [] hc ?_;cases h4:cJ t.ar[i] d;rw[h4,aI] at hg;rw[hg,Bool.and_false] at e;exact dD e;rw[h4,aA] at hg;refine bt ?_;exact⟨i+1,⟨oM,hg⟩,sL,cM fe⟩;rw[ak oM,di] at hg;rw[hg,lz] at e;refine bH h3 ?_;refine aC [] (Lr t.lit) ?_;exact dD e
theorem Ly:∀(t:Mod.bU)(d:Nat),d≤5→CN 96 [av (ir t),iv d] (bv (cJ t d)):=
 bU.ind fun k x ks ih d hd=>IT (.mk k x ks) ih d hd
theorem JS{ts:List Mod.bU}{i:Nat}(h:i<ts.length)(d:Nat):hJ (ts.take (i+1)) d=hJ (ts.take i) d+jJ ts[i] d:=by
 have key:∀(xs:List Mod.bU),hJ (xs++[ts[i]]) d=hJ xs d+jJ ts[i] d:=by
  intro xs;induction xs with
  | nil=>simp[hJ]
  | cons a xs ih=>simp only[List.cons_append,hJ,ih];omega
 rw[od h,key]
theorem qa:∀{ts:List Mod.bU}{d:Nat},di ts d=true→∀i,di (ts.take i) d=true
 | [],_,_,i=>by simp[di]
 | t::ts,d,h,0=>by simp[di]
 | t::ts,d,h,i+1=>by simp only[di,Bool.and_eq_true] at h;simp only[List.take_succ_cons,di,h.1,aA];exact qa h.2 i
theorem LI(t:Mod.bU)(ih:∀k∈t.ar,∀d:Nat,d≤5→cJ k d=true→CN 97 [av (ir k),iv d] (iv (jJ k d)))(d:Nat)(hd:d≤5)(hs:cJ t d=true) :
 CN 97 [av (ir t),iv d] (iv (jJ t d)):=by
 cases d with
 | zero=>cases t;simp[cJ] at hs
 | succ d=>have hk:=ko hs;have e:jJ t (d+1)=1+hJ t.ar d:=(by cases t;rfl);refine gS 29 [.tmp 4] hm Tryz.func97 fun hl he cf=>?_;refine jr hm t.ar.length (fun i=>⟨dN 29 .any [(1,iv ((d:Int)+1)),(2,.bA 0 0),(5,iv ((1+hJ (t.ar.take i) d:Nat):Int)),(6,iv i)],[some (.box (dm (ir t)))]⟩) (cM fe) ?_;rintro i hi;have b1:=rm (t.ar.take i) d (qa hk.2.2 i);have b2:(t.ar.take i).length≤2:=(by rw[bl];omega);have b3:(2:Nat) ^ d≤2 ^ 5:=Nat.pow_le_pow_right oM oM;have b4:(t.ar.take i).length*(2 ^ d-1)≤2*(2 ^ d-1):=bu _ b2;rcases aa (i<t.ar.length) with h1|h1;have hsk:=lN hk.2.2 _ (aj h1);have b5:=HW t.ar[i] d hsk;have e2:(d:Int)+1-1=(d:Int):=oM;have e3:(0:Int)<(d:Int)+1:=oM;simp -implicitDefEqProofs only[go_sem,h1,e3,e2];refine sQ ?_;have hc:=ih t.ar[i] (aj h1) d oM hsk;refine aC [] hc ?_;refine sQ ?_;exact⟨i+1,h1,sL,aZ fe (by refine sA ?_;(simp only[JS h1];simp;omega)) sC rfl rfl⟩;have et:t.ar.take i=t.ar:=aq oM;exact mH h1 et e
theorem NF:∀(t:Mod.bU)(d:Nat),d≤5→cJ t d=true→CN 97 [av (ir t),iv d] (iv (jJ t d)):=
 bU.ind fun k x ks ih d hd hs=>LI (.mk k x ks) ih d hd hs
theorem z8(xs:List cR)(a:cR):CN 155 [lv (bx xs),av (fC a)] (iv (jG xs a)):=by refine gS 19 [.tmp 4] hm Tryz.func155 fun hl he cf=>?_;refine kC hm xs.length (fun(i:Nat)=>jG xs a=fj (fun u=>decide (a=u)) (xs.drop i) i) (fun i=>⟨dN 19 .any [(0,lv (bx xs)),(3,.bA 0 0),(5,iv i)],[some (.box (dm (fC a)))]⟩) ?_ (cM fe) ?_;simp[jG,idxOf];rintro i ⟨hi,hg⟩;rcases aa (i<xs.length) with h1|h1;rw[ae h1,fj] at hg;refine uA ?_;refine aC [] (tK xs[i] a) ?_;refine bt ?_;rcases aa (xs[i]=a) with h2|h2;have k:=eq_true h2;simp only[h2,decide_true,if_true] at hg;exact gG k hg;have h3:¬a=xs[i]:=fun h=>h2 h.symm;simp only[h3,decide_false,Bool.false_eq_true,if_false] at hg;refine du h2 ?_;exact⟨i+1,⟨oM,by rw[hg];rfl⟩,sL,cM fe⟩;rw[ak oM,fj] at hg;exact gG h1 hg
def addAtom(l:List cR)(a:cR):List cR:=if jG l a<0 then l++[a] else l
theorem zB(l:List cR)(a:cR)(hl1:l.length≤900000):C E.P 98 [.aX 0,av (fC a)] [some (.aX 59 (bx l))] (jF (.aX 1) [some .dead,some (.aX 59 (bx (addAtom l a)))]):=by refine gS 14 [.tmp 4] hm Tryz.func98 fun hl he cf=>?_;refine AQ [] [0] (z8 l a) ?_;rcases aa (0≤jG l a) with hx|hx;have hx':¬jG l a<0:=oM;refine bH hx ?_;refine bX [some 0,some 0] ?_ rfl rfl;refine bt ?_;rw[addAtom,if_neg hx'];have hx':jG l a<0:=oM;refine du hx ?_;refine gA_ [some 0,some 2] ?_;rw[addAtom,if_pos hx',←um,xE,uy];rfl
theorem GX(a:cR):C E.P 98 [.bW,av (fC a)] [] (jF (.aX 0) [some (.aX 59 (bx [a]))]):=by
 refine gS 14 [.tmp 4] hm Tryz.func98 fun hl he cf=>?_;refine aC [] (z8 [] a) ?_;have hx:¬0≤jG [] a:=by rw[Kc];simp
 refine du hx ?_;refine gA_ [some 1] ?_;rfl
theorem Ml{t:Mod.bU}{d:Nat}{l:List cR}(hsh:cJ t (d+1)=true)(hl1:l.length+2 ^ (d+1)≤900000)(i:Nat)(hi:i<t.ar.length):(ba l (t.ar.take i)).length+2 ^ d≤900000:=by
 have hk:=ko hsh;have hp:(2:Nat) ^ (d+1)=2*2 ^ d:=by rw[Nat.pow_succ];omega
 have hp1:1≤(2:Nat) ^ d:=eH;have h1:=qZ (t.ar.take i) d l (qa hk.2.2 i);have h2:=rm (t.ar.take i) d (qa hk.2.2 i);have h3:(t.ar.take i).length≤1:=by rw[bl];omega
 have h4:(t.ar.take i).length*(2 ^ d-1)≤1*(2 ^ d-1):=bu _ h3;omega
theorem IX(t:Mod.bU)(ih:∀k∈t.ar,∀(d:Nat)(l:List cR),cJ k d=true→l.length+2 ^ d≤900000→C E.P 48 [.aX 0,av (ir k)] [some (.aX 59 (bx l))] (jF (.aX 1) [some .dead,some (.aX 59 (bx (dX l k)))]))(d:Nat)(l:List cR)
 (hsh:cJ t d=true) (hl1:l.length+2 ^ d≤900000) :
 C E.P 48 [.aX 0,av (ir t)] [some (.aX 59 (bx l))] (jF (.aX 1) [some .dead,some (.aX 59 (bx (dX l t)))]):=by
 cases d with
 | zero=>cases t;simp[cJ] at hsh
 | succ d=>
 have hk:=ko hsh
 have hroom:=Ml hsh hl1
 have hp1:1≤(2:Nat) ^ (d+1):=eH
 refine gS 29 [.tmp 4] hm Tryz.func48 fun hl he cf=>?_
 rcases aa (t.kind=1) with hkind|hkind
 ·have kk:=eq_true hkind
  refine bH kk ?_
  refine oC [] [0,2] (zB l t.lit.aN oM) ?_
  refine bX [some 0,some 2] ?_ rfl rfl
  refine bt ?_
  rw[iD,if_pos hkind,addAtom]
 ·refine bH hkind ?_
  refine jr hm t.ar.length (fun i=>⟨dN 29 .any [(0,.aX 2),(3,.bA 1 0),(5,iv i)],[some .dead,some (.box (dm (ir t))),some (.aX 59 (bx (ba l (t.ar.take i))))]⟩) (cM [some 0,some 1,some 0]) ?_
  ·rintro i hi
   rcases aa (i<t.ar.length) with h1|h1
   ·refine uA ?_
    have hc:=ih t.ar[i] (aj h1) d (ba l (t.ar.take i)) (lN hk.2.2 _ (aj h1)) (hroom i h1)
    refine oC [] [2,3] hc ?_
    refine bt ?_
    exact⟨i+1,h1,sL,aZ [some 0,some 1,some 3] sC (by refine sA ?_;simp only[iG h1]) rfl rfl⟩
   ·have e:t.ar.take i=t.ar:=aq oM
    refine iI h1 e ?_
    refine bX [some 0,some 2] ?_ rfl rfl
    refine bt ?_
    rw[iD,if_neg hkind]
theorem Aj:∀(t:Mod.bU)(d:Nat)(l:List cR),cJ t d=true→l.length+2 ^ d≤900000→C E.P 48 [.aX 0,av (ir t)] [some (.aX 59 (bx l))] (jF (.aX 1) [some .dead,some (.aX 59 (bx (dX l t)))]):=
 bU.ind fun k x ks ih d l h1 h2=>IX (.mk k x ks) ih d l h1 h2
theorem C9(t:Mod.bU)(hsh:cJ t 5=true):CN 48 [.bW,av (ir t)] (lv (bx (dX [] t))):=by have hk:=ko hsh;have hroom:=Ml (l:=[]) hsh (by simp);refine gS 29 [.tmp 4] hm Tryz.func48 fun hl he cf=>?_;rcases aa (t.kind=1) with hkind|hkind;have kk:=eq_true hkind;refine bH kk ?_;refine Mw [] [1] (GX t.lit.aN) ?_;rw[iD,if_pos hkind];rfl;refine bH hkind ?_;refine jr hm t.ar.length (fun i=>⟨dN 29 .any [(0,.aX 1),(3,.bA 0 0),(5,iv i)],[some (.box (dm (ir t))),some (.aX 59 (bx (ba [] (t.ar.take i))))]⟩) (cM [some 0,none]) ?_;rintro i hi;rcases aa (i<t.ar.length) with h1|h1;refine uA ?_;have hc:=Aj t.ar[i] 4 (ba [] (t.ar.take i)) (lN hk.2.2 _ (aj h1)) (hroom i h1);refine oC [] [1,2] hc ?_;refine bt ?_;exact⟨i+1,h1,sL,aZ [some 0,some 2] sC (by refine sA ?_;simp only[iG h1]) rfl rfl⟩;have e:t.ar.take i=t.ar:=aq oM;refine oH h1 e ?_;rw[iD,if_neg hkind]
theorem Bg(t:Mod.bU):CN 47 [av (ir t)] (bv (jB t)):=by have e:=N4 t;unfold Q2 at e;refine gS 16 [.tmp 2] hm Tryz.func47 fun hl he cf=>?_;have hc:=Ly t 5 oM;refine aC [] hc ?_;cases h:cJ t 5;refine bt ?_;simp[←e,h];have hc:=NF t 5 oM h;refine sA ?_;refine aC [] hc ?_;rcases aa ((jJ t 5:Int)≤10) with h2|h2;have h2':jJ t 5≤10:=oM;refine bH h2 ?_;refine sa [] (C9 t h) ?_;rw[←e,h];simp[h2'];omega;have h2':¬jJ t 5≤10:=oM;refine du h2 ?_;simp[←e,h,h2']
theorem MG(l:List cR)(hl1:l.length≤900000):CN 66 [lv (bx l)] (lv (bh (plain l))):=by
 refine gS 21 [.tmp 2] hm Tryz.func66 fun hl he cf=>?_;refine jr hm l.length (fun i=>⟨dN 21 .any [(0,lv (bx l)),(3,.aX 0),(4,iv i)],[some (.aX 61 (bh (plain (l.take i))))]⟩) (cM fe) ?_;rintro i hi;have hv:=G6 (l.take i);have oI:(l.take i).length=i:=by rw[bl];omega
 rcases aa (i<l.length) with h1|h1;refine uA ?_;refine sQ ?_;exact⟨i+1,h1,sL,aZ [some 1] sC (by refine sA ?_;(rw[Dt h1,←lu];rfl)) rfl rfl⟩;have et:l.take i=l:=aq oM;refine iI h1 et ?_;refine fD ?_;exact sC
end Go.Proofs.YtphcpjhkeipggaaGreat
