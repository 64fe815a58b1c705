/-
  The reference: the walks of formulas. A step towards the exact laws.
-/
import Derived.Test.YtnhdminpjihbnaaGreatKAP
set_option linter.unusedVariables false
set_option linter.unusedSimpArgs false
open Int renaming reduceEq→Z1,reduceLT→Z2,reduceLE→Z3,reduceToNat→Z4
open And renaming intro→aq
open Bool renaming true_and→aN,false_and→aZ,and_true→iP
open Classical renaming em→aa
open List renaming getElem_mem→ah,drop_eq_getElem_cons→ai,take_of_length_le→ak,drop_of_length_le→al,length_take→a6
open Nat renaming mul_le_mul_right→bD,one_le_two_pow→dq
namespace Go.Proofs.YtnhdminpjihbnaaGreat
open Go.Eng Go.Mod
set_option maxRecDepth 100000
set_option maxHeartbeats 800000
theorem sN(a b:bz):(a=b)=(a.kind=b.kind∧a.A=b.A∧a.B=b.B∧a.an=b.an∧a.bt=b.bt∧a.bJ=b.bJ∧a.cz=b.cz):=by cases a;cases b;simp only[bz.mk.injEq]
theorem zY(a b:bz):CN 126 [av (iA a),av (iA b)] (bv (decide (a=b))):=by
 refine gS 97 [.tmp 4] hm Tryz.func126 fun hl he cV=>?_;rcases aa (a.kind=b.kind) with h1|h1;rotate_left;refine dB h1 ?_;simp[sN,h1];have k1:=eq_true h1;refine bS k1 ?_;refine aC [] (qi a.A b.A) ?_;rcases aa (a.A=b.A) with h2|h2;rotate_left;refine dB h2 ?_;simp[sN,h2];have k2:=eq_true h2;refine bS k2 ?_;refine aC [] (qi a.B b.B) ?_;rcases aa (a.B=b.B) with h3|h3;rotate_left;refine dB h3 ?_;simp[sN,h3];have k3:=eq_true h3;refine bS k3 ?_;rcases aa (a.an.length=b.an.length) with h4|h4;rotate_left;have e:¬a.an=b.an:=fun hh=>h4 (by rw[hh]);refine dB h4 ?_;simp[sN,e];have k4:=eq_true h4;refine bS k4 ?_;rcases aa (a.bt.length=b.bt.length) with h5|h5;rotate_left;have e:¬a.bt=b.bt:=fun hh=>h5 (by rw[hh]);refine dB h5 ?_;simp[sN,e];have k5:=eq_true h5;refine bS k5 ?_;rcases aa (a.bJ=b.bJ) with h6|h6;rotate_left;refine dB h6 ?_;simp[sN,h6];have k6:=eq_true h6;refine bS k6 ?_;rcases aa (a.cz=b.cz) with h7|h7;rotate_left;have h7':(a.cz == b.cz)=false:=by simpa using h7
 refine dB h7' ?_;simp[sN,h7];have h7':(a.cz == b.cz)=true:=by simpa using h7
 refine bS h7' ?_;refine lZ hm a.an.length (fun(i:Nat)=>(a.an=b.an↔a.an.drop i=b.an.drop i)) (fun i=>⟨fk 97 .any [(2,.bK 0 0),(3,.bK 1 0),(5,iv i)],[some (.box (fy (iA a))),some (.box (fy (iA b)))]⟩) ?_ (c9 qR) ?_;simp;rintro i ⟨hi,hg⟩;rcases aa (i<a.an.length) with q1|q1;have q2:i<b.an.length:=oM;rw[drop_eq q1 q2] at hg;simp -implicitDefEqProofs only[go_sem,q1,q2];refine aC [] (qi a.an[i] b.an[i]) ?_;refine bI ?_;rcases aa (a.an[i]=b.an[i]) with q3|q3;have k:=eq_true q3;refine dB k ?_;refine⟨i+1,?_,sL,c9 qR⟩;refine⟨oM,?_⟩;rw[hg];simp[q3];have e:¬a.an=b.an:=fun hh=>q3 (hg.1 hh).1;refine dB q3 ?_;simp[sN,e];rw[al oM,al oM] at hg;have h8:a.an=b.an:=hg.2 rfl;refine bS q1 ?_;refine lZ hm a.bt.length (fun(j:Nat)=>(a.bt=b.bt↔a.bt.drop j=b.bt.drop j)) (fun j=>⟨fk 97 .any [(2,.bK 0 0),(3,.bK 1 0),(6,iv j)],[some (.box (fy (iA a))),some (.box (fy (iA b)))]⟩) ?_ (c9 qR) ?_;simp;rintro j ⟨hj,hk⟩;rcases aa (j<a.bt.length) with q1' | q1';have q2:j<b.bt.length:=oM;rw[drop_eq q1' q2] at hk;rcases aa (a.bt[j]=b.bt[j]) with q3|q3;have k:=eq_true q3;simp -implicitDefEqProofs only[go_sem,q1',q2,k];refine iK ?_;refine sQ ?_;refine⟨j+1,?_,sL,bW qR sC sC rfl rfl⟩;refine⟨oM,?_⟩;rw[hk];simp[q3];have e:¬a.bt=b.bt:=fun hh=>q3 (hk.1 hh).1;refine kY q1' q2 q3 ?_;simp[sN,e];rw[al oM,al oM] at hk;refine dB q1' ?_;simp[sN,h1,h2,h3,h8,h6,h7,hk]
theorem LG(l:cC):CN 185 [av (Af l)] (bv (uY l)):=by refine gS 12 [.tmp 2] hm Tryz.func185 fun hl he cV=>?_;cases h1:l.no;have hc:=zY l.aY tz;refine sA ?_;refine eh [] hc ?_ ?_<;>simp -implicitDefEqProofs only[go_sem];exact⟨rfl,rfl,rfl,rfl,rfl,rfl,rfl,rfl,rfl⟩;refine bI ?_;simp[uY,h1];refine bI ?_;simp[uY,h1]
theorem C7(k:Int):CN 27 [iv k] (iv (fG k)):=by refine gS 13 [.tmp 2] hm Tryz.func27 fun hl he cV=>?_;rcases aa (k=1) with h1|h1;have q:=eq_true h1;refine dB q ?_;simp[fG,h1];rcases aa (k=2) with h2|h2;have q:=eq_true h2;refine pV h1 q ?_;simp[fG,h2];rcases aa (k=3) with h3|h3;have q:=eq_true h3;refine kY h1 h2 q ?_;simp[fG,h3];rcases aa (k=4) with h4|h4;have q:=eq_true h4;refine kY h1 h2 (aq h3 q) ?_;simp[fG,h4];rcases aa (k=5) with h5|h5;have q:=eq_true h5;refine kY h1 h2 (aq h3 (aq h4 q)) ?_;simp[fG,h5];rcases aa (k=6) with h6|h6;have q:=eq_true h6;refine kY h1 h2 (aq h3 (aq h4 (aq h5 q))) ?_;simp[fG,h6];refine kY h1 h2 (aq h3 (aq h4 (aq h5 h6))) ?_;simp[fG,h1,h2,h3,h4,h5,h6]
theorem QB(t:Mod.aU)(d:Nat):bH t (d+1)=(jB t.kind t.lit t.ar&&cQ t.ar d):=by cases t;rfl
theorem JM{ts:List Mod.aU}{i:Nat}(h:i<ts.length)(d:Nat):cQ (ts.drop i) d=(bH ts[i] d&&cQ (ts.drop (i+1)) d):=by rw[ai h,cQ]
theorem Jt(t:Mod.aU)(ih:∀k∈t.ar,∀d:Nat,d≤5→CN 136 [av (eE k),iv d] (bv (bH k d)))(d:Nat)(hd:d≤5) :
 CN 136 [av (eE t),iv d] (bv (bH t d)):=by
 cases d with
 | zero=>have e:bH t 0=false:=(by cases t;rfl);have cV:=oc;refine tI (nt:=43) (rs:=[.tmp 4]) hm Tryz.func136 rfl rfl rfl rfl rfl (fun hl he=>?_);simp -implicitDefEqProofs only[go_sem,Z2] at hl⊢;exact fA e
 | succ d=>have e:=QB t d;unfold jB at e;refine gS 43 [.tmp 4] hm Tryz.func136 fun hl he cV=>?_;have h0:¬ (d:Int)+1<1:=oM;refine bS h0 ?_;refine oL [] (C7 t.kind) ?_;rcases aa (fG t.kind=t.ar.length) with h1|h1;rotate_left;simp only[h1,decide_false,aZ] at e;exact lJ h1 e;have k1:=eq_true h1;simp only[h1,decide_true,aN] at e;rcases aa (t.kind=1) with h2|h2;have k2:=eq_true h2;have hz:t.ar=[]:=(by rw[h2] at h1;have:(t.ar.length:Int)=0:=(by rw[←h1];rfl);exact List.length_eq_zero_iff.1 oM);rw[if_pos h2,hz,cQ,iP] at e;refine lf k1 k2 ?_;refine aC [] (vK t.lit.aY) ?_;exact fA e;rw[if_neg h2] at e;refine lf k1 h2 ?_;refine lZ hm t.ar.length (fun(i:Nat)=>cQ t.ar d=cQ (t.ar.drop i) d) (fun i=>⟨fk 43 .any [(1,iv ((d:Int)+1)),(2,.bK 0 0),(5,iv i)],[some (.box (fy (eE t)))]⟩) ?_ (c9 gE) ?_;simp;rintro i ⟨hi,hg⟩;rcases aa (i<t.ar.length) with h3|h3;rw[JM h3] at hg;have e2:(d:Int)+1-1=(d:Int):=oM;simp -implicitDefEqProofs only[go_sem,h3,e2];refine sQ ?_;have hc:=ih t.ar[i] (ah h3) d oM;refine aC [] hc ?_;cases h4:bH t.ar[i] d;rw[h4,aZ] at hg;rw[hg,Bool.and_false] at e;exact fA e;rw[h4,aN] at hg;refine bI ?_;exact⟨i+1,⟨oM,hg⟩,sL,c9 gE⟩;rw[al oM,cQ] at hg;rw[hg,iP] at e;refine bS h3 ?_;refine aC [] (LG t.lit) ?_;exact fA e
theorem Nh:∀(t:Mod.aU)(d:Nat),d≤5→CN 136 [av (eE t),iv d] (bv (bH t d)):=
 aU.ind fun k x ks ih d hd=>Jt (.mk k x ks) ih d hd
theorem Lw{ts:List Mod.aU}{i:Nat}(h:i<ts.length)(d:Nat):dp (ts.take (i+1)) d=dp (ts.take i) d+dY ts[i] d:=by
 have key:∀(xs:List Mod.aU),dp (xs++[ts[i]]) d=dp xs d+dY ts[i] d:=by
  intro xs;induction xs with
  | nil=>simp[dp]
  | cons a xs ih=>simp only[List.cons_append,dp,ih];omega
 rw[jN h,key]
theorem qm:∀{ts:List Mod.aU}{d:Nat},cQ ts d=true→∀i,cQ (ts.take i) d=true
 | [],_,_,i=>by simp[cQ]
 | t::ts,d,h,0=>by simp[cQ]
 | t::ts,d,h,i+1=>by simp only[cQ,Bool.and_eq_true] at h;simp only[List.take_succ_cons,cQ,h.1,aN];exact qm h.2 i
theorem Ma(t:Mod.aU)(ih:∀k∈t.ar,∀d:Nat,d≤5→bH k d=true→CN 137 [av (eE k),iv d] (iv (dY k d)))(d:Nat)(hd:d≤5)(hs:bH t d=true) :
 CN 137 [av (eE t),iv d] (iv (dY t d)):=by
 cases d with
 | zero=>cases t;simp[bH] at hs
 | succ d=>have hk:=fY hs;have e:dY t (d+1)=1+dp t.ar d:=(by cases t;rfl);refine gS 29 [.tmp 4] hm Tryz.func137 fun hl he cV=>?_;refine jf hm t.ar.length (fun i=>⟨fk 29 .any [(1,iv ((d:Int)+1)),(2,.bK 0 0),(5,iv ((1+dp (t.ar.take i) d:Nat):Int)),(6,iv i)],[some (.box (fy (eE t)))]⟩) (c9 gE) ?_;rintro i hi;have b1:=rb (t.ar.take i) d (qm hk.2.2 i);have b2:(t.ar.take i).length≤2:=(by rw[a6];omega);have b3:(2:Nat) ^ d≤2 ^ 5:=Nat.pow_le_pow_right oM oM;have b4:(t.ar.take i).length*(2 ^ d-1)≤2*(2 ^ d-1):=bD _ b2;rcases aa (i<t.ar.length) with h1|h1;have hsk:=dF hk.2.2 _ (ah h1);have b5:=nJ t.ar[i] d hsk;have e2:(d:Int)+1-1=(d:Int):=oM;have e3:(0:Int)<(d:Int)+1:=oM;simp -implicitDefEqProofs only[go_sem,h1,e3,e2];refine sQ ?_;have hc:=ih t.ar[i] (ah h1) d oM hsk;refine aC [] hc ?_;refine sQ ?_;exact⟨i+1,h1,sL,bW gE (by refine sA ?_;(simp only[Lw h1];simp;omega)) sC rfl rfl⟩;have et:t.ar.take i=t.ar:=ak oM;exact p9 h1 et e
theorem NZ:∀(t:Mod.aU)(d:Nat),d≤5→bH t d=true→CN 137 [av (eE t),iv d] (iv (dY t d)):=
 aU.ind fun k x ks ih d hd hs=>Ma (.mk k x ks) ih d hd hs
theorem A8(xs:List bz)(a:bz):CN 79 [lv (bC xs),av (iA a)] (iv (dk xs a)):=by refine gS 19 [.tmp 4] hm Tryz.func79 fun hl he cV=>?_;refine lZ hm xs.length (fun(i:Nat)=>dk xs a=eM (fun u=>decide (a=u)) (xs.drop i) i) (fun i=>⟨fk 19 .any [(0,lv (bC xs)),(3,.bK 0 0),(5,iv i)],[some (.box (fy (iA a)))]⟩) ?_ (c9 gE) ?_;simp[dk,idxOf];rintro i ⟨hi,hg⟩;rcases aa (i<xs.length) with h1|h1;rw[ai h1,eM] at hg;refine uA ?_;refine aC [] (zY xs[i] a) ?_;refine bI ?_;rcases aa (xs[i]=a) with h2|h2;have k:=eq_true h2;simp only[h2,decide_true,if_true] at hg;exact lJ k hg;have h3:¬a=xs[i]:=fun h=>h2 h.symm;simp only[h3,decide_false,Bool.false_eq_true,if_false] at hg;refine dB h2 ?_;exact⟨i+1,⟨oM,by rw[hg];rfl⟩,sL,c9 gE⟩;rw[al oM,eM] at hg;exact lJ h1 hg
def addAtom(l:List bz)(a:bz):List bz:=if dk l a<0 then l++[a] else l
theorem EX(l:List bz)(a:bz)(hl1:l.length≤900000):C E.P 50 [.aW 0,av (iA a)] [some (.aW 34 (bC l))] (gR (.aW 1) [some .dead,some (.aW 34 (bC (addAtom l a)))]):=by refine gS 14 [.tmp 4] hm Tryz.func50 fun hl he cV=>?_;refine CM [] [0] (A8 l a) ?_;rcases aa (0≤dk l a) with hx|hx;have hx':¬dk l a<0:=oM;refine bS hx ?_;refine bM [some 0,some 0] ?_ rfl rfl;refine bI ?_;rw[addAtom,if_neg hx'];have hx':dk l a<0:=oM;refine dB hx ?_;refine Et [some 0,some 2] ?_;rw[addAtom,if_pos hx',←uW,xM,vh];rfl
theorem GP(a:bz):C E.P 50 [.bE,av (iA a)] [] (gR (.aW 0) [some (.aW 34 (bC [a]))]):=by
 refine gS 14 [.tmp 4] hm Tryz.func50 fun hl he cV=>?_;refine aC [] (A8 [] a) ?_;have hx:¬0≤dk [] a:=by rw[oN];simp
 refine dB hx ?_;refine Et [some 1] ?_;rfl
theorem Mu{t:Mod.aU}{d:Nat}{l:List bz}(hsh:bH t (d+1)=true)(hl1:l.length+2 ^ (d+1)≤900000)(i:Nat)(hi:i<t.ar.length):(bF l (t.ar.take i)).length+2 ^ d≤900000:=by
 have hk:=fY hsh;have hp:(2:Nat) ^ (d+1)=2*2 ^ d:=by rw[Nat.pow_succ];omega
 have hp1:1≤(2:Nat) ^ d:=dq;have h1:=rm (t.ar.take i) d l (qm hk.2.2 i);have h2:=rb (t.ar.take i) d (qm hk.2.2 i);have h3:(t.ar.take i).length≤1:=by rw[a6];omega
 have h4:(t.ar.take i).length*(2 ^ d-1)≤1*(2 ^ d-1):=bD _ h3;omega
theorem JJ(t:Mod.aU)(ih:∀k∈t.ar,∀(d:Nat)(l:List bz),bH k d=true→l.length+2 ^ d≤900000→C E.P 86 [.aW 0,av (eE k)] [some (.aW 34 (bC l))] (gR (.aW 1) [some .dead,some (.aW 34 (bC (ct l k)))]))(d:Nat)(l:List bz)
 (hsh:bH t d=true) (hl1:l.length+2 ^ d≤900000) :
 C E.P 86 [.aW 0,av (eE t)] [some (.aW 34 (bC l))] (gR (.aW 1) [some .dead,some (.aW 34 (bC (ct l t)))]):=by
 cases d with
 | zero=>cases t;simp[bH] at hsh
 | succ d=>
 have hk:=fY hsh
 have hroom:=Mu hsh hl1
 have hp1:1≤(2:Nat) ^ (d+1):=dq
 refine gS 29 [.tmp 4] hm Tryz.func86 fun hl he cV=>?_
 rcases aa (t.kind=1) with hkind|hkind
 ·have kk:=eq_true hkind
  refine bS kk ?_
  refine oC [] [0,2] (EX l t.lit.aY oM) ?_
  refine bM [some 0,some 2] ?_ rfl rfl
  refine bI ?_
  rw[jA,if_pos hkind,addAtom]
 ·refine bS hkind ?_
  refine jf hm t.ar.length (fun i=>⟨fk 29 .any [(0,.aW 2),(3,.bK 1 0),(5,iv i)],[some .dead,some (.box (fy (eE t))),some (.aW 34 (bC (bF l (t.ar.take i))))]⟩) (c9 [some 0,some 1,some 0]) ?_
  ·rintro i hi
   rcases aa (i<t.ar.length) with h1|h1
   ·refine uA ?_
    have hc:=ih t.ar[i] (ah h1) d (bF l (t.ar.take i)) (dF hk.2.2 _ (ah h1)) (hroom i h1)
    refine oC [] [2,3] hc ?_
    refine bI ?_
    exact⟨i+1,h1,sL,bW [some 0,some 1,some 3] sC (by refine sA ?_;simp only[kX h1]) rfl rfl⟩
   ·have e:t.ar.take i=t.ar:=ak oM
    refine lf h1 e ?_
    refine bM [some 0,some 2] ?_ rfl rfl
    refine bI ?_
    rw[jA,if_neg hkind]
theorem Bf:∀(t:Mod.aU)(d:Nat)(l:List bz),bH t d=true→l.length+2 ^ d≤900000→C E.P 86 [.aW 0,av (eE t)] [some (.aW 34 (bC l))] (gR (.aW 1) [some .dead,some (.aW 34 (bC (ct l t)))]):=
 aU.ind fun k x ks ih d l h1 h2=>JJ (.mk k x ks) ih d l h1 h2
theorem Er(t:Mod.aU)(hsh:bH t 5=true):CN 86 [.bE,av (eE t)] (lv (bC (ct [] t))):=by have hk:=fY hsh;have hroom:=Mu (l:=[]) hsh (by simp);refine gS 29 [.tmp 4] hm Tryz.func86 fun hl he cV=>?_;rcases aa (t.kind=1) with hkind|hkind;have kk:=eq_true hkind;refine bS kk ?_;refine xN [] [1] (GP t.lit.aY) ?_;rw[jA,if_pos hkind];rfl;refine bS hkind ?_;refine jf hm t.ar.length (fun i=>⟨fk 29 .any [(0,.aW 1),(3,.bK 0 0),(5,iv i)],[some (.box (fy (eE t))),some (.aW 34 (bC (bF [] (t.ar.take i))))]⟩) (c9 [some 0,none]) ?_;rintro i hi;rcases aa (i<t.ar.length) with h1|h1;refine uA ?_;have hc:=Bf t.ar[i] 4 (bF [] (t.ar.take i)) (dF hk.2.2 _ (ah h1)) (hroom i h1);refine oC [] [1,2] hc ?_;refine bI ?_;exact⟨i+1,h1,sL,bW [some 0,some 2] sC (by refine sA ?_;simp only[kX h1]) rfl rfl⟩;have e:t.ar.take i=t.ar:=ak oM;refine pV h1 e ?_;rw[jA,if_neg hkind]
theorem KH(t:Mod.aU):CN 85 [av (eE t)] (bv (jq t)):=by have e:=PI t;unfold RI at e;refine gS 16 [.tmp 2] hm Tryz.func85 fun hl he cV=>?_;have hc:=Nh t 5 oM;refine aC [] hc ?_;cases h:bH t 5;refine bI ?_;simp[←e,h];have hc:=NZ t 5 oM h;refine sA ?_;refine aC [] hc ?_;rcases aa ((dY t 5:Int)≤10) with h2|h2;have h2':dY t 5≤10:=oM;refine bS h2 ?_;refine oL [] (Er t h) ?_;rw[←e,h];simp[h2'];omega;have h2':¬dY t 5≤10:=oM;refine dB h2 ?_;simp[←e,h,h2']
theorem NY(l:List bz)(hl1:l.length≤900000):CN 49 [lv (bC l)] (lv (cO (plain l))):=by
 refine gS 21 [.tmp 2] hm Tryz.func49 fun hl he cV=>?_;refine jf hm l.length (fun i=>⟨fk 21 .any [(0,lv (bC l)),(3,.aW 0),(4,iv i)],[some (.aW 36 (cO (plain (l.take i))))]⟩) (c9 gE) ?_;rintro i hi;have hv:=HD (l.take i);have pJ:(l.take i).length=i:=by rw[a6];omega
 rcases aa (i<l.length) with h1|h1;refine uA ?_;refine sQ ?_;exact⟨i+1,h1,sL,bW [some 1] sC (by refine sA ?_;(rw[D5 h1,←qK];rfl)) rfl rfl⟩;have et:l.take i=l:=ak oM;refine lf h1 et ?_;refine fv ?_;exact sC
end Go.Proofs.YtnhdminpjihbnaaGreat
