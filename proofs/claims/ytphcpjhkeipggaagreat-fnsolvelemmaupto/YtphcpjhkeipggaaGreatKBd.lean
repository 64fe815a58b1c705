/-
  The program: the walks of formulas. A step towards the exact laws.
-/
import Derived.Test.YtphcpjhkeipggaaGreatKBN
set_option linter.unusedVariables false
set_option linter.unusedSimpArgs false
open Int renaming reduceEq→Z1,reduceLT→Z2,reduceLE→Z3,reduceToNat→Z4
open And renaming intro→an
open Bool renaming and_eq_true→ah,false_eq_true→au,true_and→aA,false_and→aI
open Classical renaming em→aa
open List renaming drop_eq_getElem_cons→ae,getElem_mem→aj,drop_of_length_le→ak,take_of_length_le→aq,length_take→bl
open Nat renaming mul_le_mul_right→bu,pow_le_pow_right→dJ,one_le_two_pow→eH
namespace Go.Proofs.YtphcpjhkeipggaaGreat
open Go.Eng Go.Mod
set_option maxRecDepth 100000
set_option maxHeartbeats 3200000
theorem Hh(f:Nat)(cap:List PV)(lF:wj 0 cap=true)(p:cR→Bool)(xs:List cR)(hf:∀x∈xs,C E.P f (av (fC x)::cap) [] (jF (bv (p x)) [])) :
 CN 178 [lv (bx xs),.fn f cap] (iv (idxOf p xs)):=by
 refine gS 19 [.tmp 4] hm Tryz.func178 fun hl he cf=>?_
 refine kC hm xs.length (fun(i:Nat)=>idxOf p xs=fj p (xs.drop i) i) (fun i=>⟨dN 19 .any [(0,lv (bx xs)),(1,.fn f cap),(7,iv xs.length),(8,iv i)],[]⟩) ?_ (cM []) ?_
 ·simp[idxOf]
 ·rintro i ⟨hi,hg⟩
  rcases aa (i<xs.length) with h1|h1
  ·rw[ae h1,fj] at hg
   refine uA ?_
   have hc:=hf xs[i] (aj h1)
   refine dy cap hc ?_ ?_<;>simp -implicitDefEqProofs only[go_sem,lF]
   cases h2:p xs[i]
   ·rw[h2] at hg
    simp only[au,if_false] at hg
    refine sA ?_
    refine⟨oM,?_⟩
    exact⟨i+1,⟨oM,hg⟩,sL,cM []⟩
   ·rw[h2] at hg
    simp only[if_true] at hg
    exact dD hg
  ·rw[ak oM,fj] at hg
   exact gG h1 hg
theorem HP(a b:List Int):CN 35 [lv (bm a),lv (bm b)] (bv (decide (a=b))):=by refine gS 26 [.tmp 4] hm Tryz.func35 fun hl he cf=>?_;rcases aa (a.length=b.length) with h2|h2;have k2:=eq_true h2;refine bH k2 ?_;refine kC hm a.length (fun(i:Nat)=>(a=b↔a.drop i=b.drop i)) (fun i=>⟨dN 26 .any [(0,lv (bm a)),(1,lv (bm b)),(12,iv a.length),(13,iv i)],[]⟩) ?_ (cM []) ?_;simp;rintro i ⟨hi,hg⟩;rcases aa (i<a.length) with h3|h3;have h4:i<b.length:=oM;rw[ae h3,ae h4,List.cons.injEq] at hg;rcases aa (a[i]=b[i]) with h5|h5;have k5:=eq_true h5;simp -implicitDefEqProofs only[go_sem,h3,h4,k5];refine iK ?_;refine sQ ?_;refine⟨i+1,?_,sL,aZ [] sC sC rfl rfl⟩;refine⟨oM,?_⟩;rw[hg];simp[h5];have e:¬a=b:=fun hh=>h5 (hg.1 hh).1;exact mH h3 h4 (an h5 e);rw[ak oM,ak oM] at hg;exact gG h3 hg;have e:¬a=b:=fun hh=>h2 (by rw[hh]);exact gG h2 e
theorem vn(a b:cR):(a=b)=(a.kind=b.kind∧a.A=b.A∧a.B=b.B∧a.ai=b.ai∧a.a8=b.a8∧a.bj=b.bj∧a.bJ=b.bJ):=by cases a;cases b;simp only[cR.mk.injEq]
theorem tC(a b:cR):CN 180 [av (fC a),av (fC b)] (bv (decide (a=b))):=by
 refine gS 52 [.tmp 4] hm Tryz.func180 fun hl he cf=>?_;rcases aa (a.kind=b.kind) with h1|h1;rotate_left;refine du h1 ?_;simp[vn,h1];have k1:=eq_true h1;refine bH k1 ?_;refine aC [] (gV a.A b.A) ?_;rcases aa (a.A=b.A) with h2|h2;rotate_left;refine du h2 ?_;simp[vn,h2];have k2:=eq_true h2;refine bH k2 ?_;refine aC [] (gV a.B b.B) ?_;rcases aa (a.B=b.B) with h3|h3;rotate_left;refine du h3 ?_;simp[vn,h3];have k3:=eq_true h3;refine bH k3 ?_;refine aC [] (xJ 36 a.ai b.ai (fun x _ y=>gV x y)) ?_;rcases aa (a.ai=b.ai) with h4|h4;rotate_left;refine du h4 ?_;simp[vn,h4];have k4:=eq_true h4;refine bH k4 ?_;refine aC [] (HP a.a8 b.a8) ?_;rcases aa (a.a8=b.a8) with h5|h5;rotate_left;refine du h5 ?_;simp[vn,h5];have k5:=eq_true h5;refine bH k5 ?_;rcases aa (a.bj=b.bj) with h6|h6;rotate_left;refine du h6 ?_;simp[vn,h6];have k6:=eq_true h6;have e:decide (a=b)=(a.bJ == b.bJ):=by rw[Bool.beq_eq_decide_eq];exact decide_eq_decide.2 (by rw[vn];simp[h1,h2,h3,h4,h5,h6])
 exact gG k6 e
theorem DF(t u:cR):CN 179 [av (fC u),.ib [fC t] 0 0] (bv (decide (t=u))):=by refine gS 7 [.tmp 3] hm Tryz.func179 fun hl he cf=>?_;refine aC [] (tC t u) ?_;refine fD ?_;exact sC
theorem xV(ts:List cR)(t:cR):CN 100 [lv (bx ts),av (fC t)] (iv (jG ts t)):=by refine gS 8 [.tmp 4] hm Tryz.func100 fun hl he cf=>?_;refine AQ [] [0] (Hh 179 [.ib [fC t] 0 0] rfl (fun u=>decide (t=u)) ts (fun u _=>DF t u)) ?_;refine bt ?_;simp[jG]
theorem II:CN 60 [.bW] (lv (bm [])):=by refine gS 8 [.tmp 2] hm Tryz.func60 fun hl he cf=>?_;refine D9 3 _ true rfl rfl (by simp -implicitDefEqProofs only[go_sem]) F5 ?_;refine sA ?_;refine fD ?_;exact sC
theorem Iq(a:Addr)(c:Nat):CN 60 [.d (.val (.slice (some a) 0 c))] (lv (bm [])):=by refine gS 8 [.tmp 2] hm Tryz.func60 fun hl he cf=>?_;refine D9 3 _ false rfl rfl (p:=.d (.val (.slice (some a) 0 c))) (by simp -implicitDefEqProofs only[go_sem]) (Gt _ _ _) ?_;refine sA ?_;refine sQ ?_;refine fD ?_;exact sC
theorem Hc(r:List D)(rs:List (List D))(hl1:rs.length≤1000)(h1:∀y∈r::rs,y.length=1):CN 60 [.d (.eC (r::rs))] (lv (r::rs)):=by refine gS 8 [.tmp 2] hm Tryz.func60 fun hl he cf=>?_;refine D9 3 _ false rfl rfl (p:=.d (.eC (r::rs))) (by simp -implicitDefEqProofs only[go_sem]) G0 ?_;refine sA ?_;refine an ⟨?_,oM,oM⟩ ?_;simpa using h1;refine fD ?_;exact sC
theorem Bd(ns:List Int)(hl1:ns.length≤1000):CN 60 [lv (bm ns)] (lv (bm ns)):=by
 cases ns with
 | nil=>exact Qf II Iq
 | cons x xs=>have h1:=jN (x::xs);rw[kQ] at h1⊢;exact Hc _ (bm xs) (by rw[oe];simp at hl1;omega) h1
theorem zE(a:cR)(hl1:a.a8.length≤1000):CN 101 [av (fC a)] (av (fC a)):=by refine gS 20 [.cell 2 59] hm Tryz.func101 fun hl he cf=>?_;refine aC [] (gq a.A) ?_;refine aC [] (gq a.B) ?_;refine aC [] (IZ a.ai) ?_;refine aC [] (Bd a.a8 hl1) ?_;refine iK ?_;refine fD ?_;exact sC
theorem uf{a:cR}(h:dq a=true):a.a8.length≤4:=by rcases ml h with k|k;rw[dq,if_pos k] at h;simp only[ah,decide_eq_true_eq] at h;have:=h.2.2.2.1;omega;obtain⟨_,_,h3,h4,_⟩:=oX h k;omega
theorem M3(k:Int):CN 175 [iv k] (iv (gw k)):=by refine gS 13 [.tmp 2] hm Tryz.func175 fun hl he cf=>?_;rcases aa (k=1) with h1|h1;have q:=eq_true h1;refine du q ?_;simp[gw,h1];rcases aa (k=2) with h2|h2;have q:=eq_true h2;refine oH h1 q ?_;simp[gw,h2];rcases aa (k=3) with h3|h3;have q:=eq_true h3;refine gL h1 h2 q ?_;simp[gw,h3];rcases aa (k=4) with h4|h4;have q:=eq_true h4;refine gL h1 h2 (an h3 q) ?_;simp[gw,h4];rcases aa (k=5) with h5|h5;have q:=eq_true h5;refine gL h1 h2 (an h3 (an h4 q)) ?_;simp[gw,h5];rcases aa (k=6) with h6|h6;have q:=eq_true h6;refine gL h1 h2 (an h3 (an h4 (an h5 q))) ?_;simp[gw,h6];refine gL h1 h2 (an h3 (an h4 (an h5 h6))) ?_;simp[gw,h1,h2,h3,h4,h5,h6]
theorem L3(l:bL):CN 177 [av (r9 l)] (bv (ux l)):=by refine gS 12 [.tmp 2] hm Tryz.func177 fun hl he cf=>?_;cases h1:l.no;have hc:=tC l.aN rF;refine sA ?_;refine dy [] hc ?_ ?_<;>simp -implicitDefEqProofs only[go_sem];exact⟨rfl,rfl,rfl,rfl,rfl,rfl,rfl,rfl,rfl⟩;refine bt ?_;simp[ux,h1];refine bt ?_;simp[ux,h1]
theorem Tg(t:Mod.bU)(bn:Nat):iR t bn=if decide (bn≤5)&&kV t.kind t.lit t.ar then 1+ik t.ar (bn+1) else 11:=by cases t;rfl
theorem Kl{ts:List Mod.bU}{i:Nat}(h:i<ts.length)(d:Nat):ik (ts.take (i+1)) d=ik (ts.take i) d+iR ts[i] d:=by
 have key:∀(xs:List Mod.bU),ik (xs++[ts[i]]) d=ik xs d+iR ts[i] d:=by
  intro xs;induction xs with
  | nil=>simp[ik]
  | cons a xs ih=>simp only[List.cons_append,ik,ih];omega
 rw[od h,key]
theorem Ap{k:Int}:gw k=0↔k=1:=by unfold gw;constructor;intro h;split at h;assumption;split at h;omega;split at h<;>omega;intro h;rw[if_pos h]
theorem Gg(t:Mod.bU)(ih:∀k∈t.ar,∀bn:Nat,1≤bn→bn≤6→CN 99 [av (ir k),iv bn] (iv (iR k bn)))(bn:Nat)(g1:1≤bn)(g5:bn≤6) :
 CN 99 [av (ir t),iv bn] (iv (iR t bn)):=by
 have ht:=Tg t bn
 refine gS 57 [.tmp 4] hm Tryz.func99 fun hl he cf=>?_
 refine aC [] (M3 t.kind) ?_
 rcases aa ((5:Int)<(bn:Int)) with h4|h4
 ·have h4':¬bn≤5:=oM
  simp only[h4',decide_false,aI,au,if_false] at ht
  exact gG h4 ht
 have h4':bn≤5:=oM
 simp only[h4',decide_true,aA] at ht
 rcases aa (gw t.kind=t.ar.length) with h1|h1
 rotate_left
 ·have hh:kV t.kind t.lit t.ar=false:=by simp[kV,h1]
  rw[hh] at ht
  simp only[au,if_false] at ht
  exact mH h4 h1 ht
 have k1:=eq_true h1
 rcases aa (t.kind=1) with h2|h2
 ·have hz:gw t.kind=0:=Ap.2 h2
  have hz2:=eq_true hz
  have hh:kV t.kind t.lit t.ar=dq t.lit.aN:=by unfold kV;rw[if_pos h2];simp[h1]
  rw[hh] at ht
  refine ot h4 k1 hz2 ?_
  refine aC [] (BA t.lit.aN) ?_
  cases h3:dq t.lit.aN
  ·rw[h3] at ht
   simp only[au,if_false] at ht
   exact dD ht
  ·rw[h3] at ht
   simp only[if_true] at ht
   have hl2:t.ar.length≤2:=rl (by rw[hh,h3])
   refine bH hz2 ?_
   refine jr hm t.ar.length (fun i=>⟨dN 57 .any [(1,iv bn),(6,iv ((1+ik (t.ar.take i) (bn+1):Nat):Int)),(43,lv (cG t.ar)),(44,iv t.ar.length),(45,iv i)],[]⟩) (cM []) ?_
   ·rintro i hi
    have hb:=uu (t.ar.take i) (bn+1) oM oM
    have hp:(2:Nat) ^ (6-(bn+1))≤2 ^ 5:=dJ oM oM
    have hq:(t.ar.take i).length*(23*2 ^ (6-(bn+1))-12)≤2*(23*2 ^ (6-(bn+1))-12):=bu _ (by rw[bl];omega)
    rcases aa (i<t.ar.length) with h9|h9
    ·have hk:=AG t.ar[i] (bn+1) oM oM
     simp -implicitDefEqProofs only[go_sem,h9]
     refine sQ ?_
     have hc:=ih t.ar[i] (aj h9) (bn+1) oM oM
     refine aC [] hc ?_
     refine sQ ?_
     exact⟨i+1,h9,sL,cM []⟩
    ·have et:t.ar.take i=t.ar:=aq oM
     exact mH h9 et ht
 ·have hz:¬gw t.kind=0:=fun e=>h2 (Ap.1 e)
  have hh:kV t.kind t.lit t.ar=ux t.lit:=by unfold kV;rw[if_neg h2];simp[h1]
  rw[hh] at ht
  refine ot h4 k1 hz ?_
  refine aC [] (L3 t.lit) ?_
  cases h3:ux t.lit
  ·rw[h3] at ht
   simp only[au,if_false] at ht
   exact dD ht
  ·rw[h3] at ht
   simp only[if_true] at ht
   have hl2:t.ar.length≤2:=rl (by rw[hh,h3])
   refine sA ?_
   refine jr hm t.ar.length (fun i=>⟨dN 57 .any [(1,iv bn),(6,iv ((1+ik (t.ar.take i) (bn+1):Nat):Int)),(43,lv (cG t.ar)),(44,iv t.ar.length),(45,iv i)],[]⟩) (cM []) ?_
   ·rintro i hi
    have hb:=uu (t.ar.take i) (bn+1) oM oM
    have hp:(2:Nat) ^ (6-(bn+1))≤2 ^ 5:=dJ oM oM
    have hq:(t.ar.take i).length*(23*2 ^ (6-(bn+1))-12)≤2*(23*2 ^ (6-(bn+1))-12):=bu _ (by rw[bl];omega)
    rcases aa (i<t.ar.length) with h9|h9
    ·have hk:=AG t.ar[i] (bn+1) oM oM
     simp -implicitDefEqProofs only[go_sem,h9]
     refine sQ ?_
     have hc:=ih t.ar[i] (aj h9) (bn+1) oM oM
     refine aC [] hc ?_
     refine sQ ?_
     exact⟨i+1,h9,sL,aZ [] (by refine sA ?_;(simp only[Kl h9];simp;omega)) sC rfl rfl⟩
    ·have et:t.ar.take i=t.ar:=aq oM
     exact mH h9 et ht
theorem IU:∀(t:Mod.bU)(bn:Nat),1≤bn→bn≤6→CN 99 [av (ir t),iv bn] (iv (iR t bn)):=
 bU.ind fun k x ks ih bn h1 h2=>Gg (.mk k x ks) ih bn h1 h2
theorem rO:∀{ts:List Mod.bU}{d:Nat},di ts d=true→∀i,di (ts.take i) d=true
 | [],_,_,i=>by simp[di]
 | t::ts,d,h,0=>by simp[di]
 | t::ts,d,h,i+1=>by simp only[di,ah] at h;simp only[List.take_succ_cons,di,h.1,aA];exact rO h.2 i
theorem HZ{t:Mod.bU}{d:Nat}{l:List cR}(hsh:cJ t (d+1)=true)(hl1:l.length+2 ^ (d+1)≤900000)(i:Nat)(hi:i<t.ar.length):(ba l (t.ar.take i)).length+2 ^ d≤900000:=by
 have hk:=ko hsh;have hp:(2:Nat) ^ (d+1)=2*2 ^ d:=by rw[Nat.pow_succ];omega
 have hp1:1≤(2:Nat) ^ d:=eH;have h1:=qZ (t.ar.take i) d l (rO hk.2.2 i);have h2:=rm (t.ar.take i) d (rO hk.2.2 i);have h3:(t.ar.take i).length≤1:=by rw[bl];omega
 have h4:(t.ar.take i).length*(2 ^ d-1)≤1*(2 ^ d-1):=bu _ h3;omega
theorem TL{t:Mod.bU}{d:Nat}(hsh:cJ t (d+1)=true)(h1:t.kind=1):t.ar=[]∧dq t.lit.aN=true:=by have hk:=(ko hsh).1;simp only[kV,ah,decide_eq_true_eq] at hk;have ha:=hk.2;rw[if_pos h1] at ha;refine⟨?_,ha⟩;have hz:gw t.kind=0:=Ap.2 h1;exact List.length_eq_zero_iff.1 oM
theorem D8(t:Mod.bU)(ih:∀k∈t.ar,∀(d:Nat)(l:List cR),cJ k d=true→l.length+2 ^ d≤900000→C E.P 50 [.aX 0,av (ir k)] [some (.aX 59 (bx l))] (jF (.aX 1) [some .dead,some (.aX 59 (bx (dX l k)))]))(d:Nat)(l:List cR)
 (hsh:cJ t d=true) (hl1:l.length+2 ^ d≤900000) :
 C E.P 50 [.aX 0,av (ir t)] [some (.aX 59 (bx l))] (jF (.aX 1) [some .dead,some (.aX 59 (bx (dX l t)))]):=by
 cases d with
 | zero=>cases t;simp[cJ] at hsh
 | succ d=>
 have hk:=ko hsh
 have hroom:=HZ hsh hl1
 have hp1:1≤(2:Nat) ^ (d+1):=eH
 refine gS 37 [.tmp 4] hm Tryz.func50 fun hl he cf=>?_
 rcases aa (t.kind=1) with hkind|hkind
 ·have kk:=eq_true hkind
  obtain⟨hz,hwf⟩:=TL hsh hkind
  have htm:=uf hwf
  refine bH kk ?_
  refine AQ [] [0] (xV l t.lit.aN) ?_
  rcases aa (jG l t.lit.aN<0) with hx|hx
  ·refine bH hx ?_
   refine sa [] (zE t.lit.aN oM) ?_
   refine gA_ [some 0,some 2] ?_
   rw[iD,if_pos hkind,if_pos hx,←um,xE,uy]
   rfl
  ·have he9:ba l t.ar=dX l t:=by rw[iD,if_pos hkind,if_neg hx,hz];rfl
   refine bH hx ?_
   refine jr hm t.ar.length (fun i=>⟨dN 37 .any [(0,.aX 1),(26,lv (cG t.ar)),(27,iv t.ar.length),(28,iv i)],[some .dead,some (.aX 59 (bx (ba l (t.ar.take i))))]⟩) (cM [some 0,some 0]) ?_
   ·rintro i hi
    rcases aa (i<t.ar.length) with h9|h9
    ·simp -implicitDefEqProofs only[go_sem,h9]
     have hc:=ih t.ar[i] (aj h9) d (ba l (t.ar.take i)) (lN hk.2.2 _ (aj h9)) (hroom i h9)
     refine oC [] [1,3] hc ?_
     refine bt ?_
     exact⟨i+1,h9,sL,aZ [some 0,some 3] sC (by refine sA ?_;simp only[iG h9]) rfl rfl⟩
    ·have e:t.ar.take i=t.ar:=aq oM
     refine iI h9 e ?_
     refine bX kR ?_ rfl rfl
     exact dD he9
 ·have he9:ba l t.ar=dX l t:=by rw[iD,if_neg hkind]
  refine bH hkind ?_
  refine jr hm t.ar.length (fun i=>⟨dN 37 .any [(0,.aX 1),(26,lv (cG t.ar)),(27,iv t.ar.length),(28,iv i)],[some .dead,some (.aX 59 (bx (ba l (t.ar.take i))))]⟩) (cM [some 0,some 0]) ?_
  ·rintro i hi
   rcases aa (i<t.ar.length) with h9|h9
   ·simp -implicitDefEqProofs only[go_sem,h9]
    have hc:=ih t.ar[i] (aj h9) d (ba l (t.ar.take i)) (lN hk.2.2 _ (aj h9)) (hroom i h9)
    refine oC [] [1,3] hc ?_
    refine bt ?_
    exact⟨i+1,h9,sL,aZ [some 0,some 3] sC (by refine sA ?_;simp only[iG h9]) rfl rfl⟩
   ·have e:t.ar.take i=t.ar:=aq oM
    refine iI h9 e ?_
    refine bX kR ?_ rfl rfl
    exact dD he9
theorem yd:∀(t:Mod.bU)(d:Nat)(l:List cR),cJ t d=true→l.length+2 ^ d≤900000→C E.P 50 [.aX 0,av (ir t)] [some (.aX 59 (bx l))] (jF (.aX 1) [some .dead,some (.aX 59 (bx (dX l t)))]):=
 bU.ind fun k x ks ih d l h1 h2=>D8 (.mk k x ks) ih d l h1 h2
theorem Bz(t:Mod.bU)(hsh:cJ t 5=true):CN 50 [.bW,av (ir t)] (lv (bx (dX [] t))):=by
 have hk:=ko hsh;have hroom:=HZ (l:=[]) hsh (by simp);refine gS 37 [.tmp 4] hm Tryz.func50 fun hl he cf=>?_;rcases aa (t.kind=1) with hkind|hkind;have kk:=eq_true hkind;obtain⟨hz,hwf⟩:=TL hsh hkind;have htm:=uf hwf;have hx:jG [] t.lit.aN<0:=by rcases Int.lt_or_le (jG [] t.lit.aN) 0 with h|h;exact h;have:=Kc.1 h;simp at this
 refine bH kk ?_;refine aC [] (xV [] t.lit.aN) ?_;refine bH hx ?_;refine sa [] (zE t.lit.aN oM) ?_;rw[iD,if_pos hkind,if_pos hx];rfl;refine bH hkind ?_;refine jr hm t.ar.length (fun i=>⟨dN 37 .any [(0,.aX 0),(26,lv (cG t.ar)),(27,iv t.ar.length),(28,iv i)],[some (.aX 59 (bx (ba [] (t.ar.take i))))]⟩) (cM [none]) ?_;rintro i hi;rcases aa (i<t.ar.length) with h9|h9;simp -implicitDefEqProofs only[go_sem,h9];have hc:=yd t.ar[i] 4 (ba [] (t.ar.take i)) (lN hk.2.2 _ (aj h9)) (hroom i h9);refine oC [] [0,2] hc ?_;refine bt ?_;exact⟨i+1,h9,sL,aZ [some 2] sC (by refine sA ?_;simp only[iG h9]) rfl rfl⟩;have e:t.ar.take i=t.ar:=aq oM;refine oH h9 e ?_;rw[iD,if_neg hkind]
theorem M0(t:Mod.bU):CN 49 [av (ir t)] (bv (jB t)):=by
 have hsz:=vf t 5 oM;refine gS 12 [.tmp 2] hm Tryz.func49 fun hl he cf=>?_;have hc:=IU t 1 oM oM;refine aC [] hc ?_;rcases aa ((iR t 1:Int)≤10) with h1|h1;have h1':iR t 1≤10:=oM;have hsh:cJ t 5=true:=by cases h:cJ t 5;have:=hsz.2 h;have h2:iR t (6-5)=iR t 1:=rfl;omega;rfl
 refine bH h1 ?_;refine sa [] (Bz t hsh) ?_;simp[jB,h1'];omega;have h1':¬iR t 1≤10:=oM;refine du h1 ?_;simp[jB,h1']
theorem Qx(l:List cR)(hl1:l.length≤900000):CN 53 [lv (bx l)] (lv (bh (plain l))):=by
 refine gS 19 [.tmp 2] hm Tryz.func53 fun hl he cf=>?_;refine jr hm l.length (fun i=>⟨dN 19 .any [(3,.aX 0),(6,lv (bx l)),(7,iv l.length),(8,iv i)],[some (.aX 61 (bh (plain (l.take i))))]⟩) (cM [none]) ?_;rintro i hi;have hv:=G6 (l.take i);have oI:(l.take i).length=i:=by rw[bl];omega
 rcases aa (i<l.length) with h1|h1;refine uA ?_;refine sQ ?_;exact⟨i+1,h1,sL,aZ [some 2] sC (by refine sA ?_;(rw[Dt h1,←lu];rfl)) rfl rfl⟩;have et:l.take i=l:=aq oM;refine iI h1 et ?_;refine fD ?_;exact sC
theorem re(aS:List Mod.bU):CN 23 [lv (cG aS)] (.iZ [lv (bx ((fc aS).getD [])),bv (fc aS).isSome]):=by
 have e:=n9 aS;refine gS 27 [.tmp 2,.tmp 3] hm Tryz.func23 fun hl he cf=>?_;rcases aa ((5:Int)<(aS.length:Int)) with h0|h0;rw[if_neg (fun hh=>by have:=hh.1;omega)] at e;refine du h0 ?_;rw[e];exact⟨rfl,rfl⟩;have h0':aS.length≤5:=oM;refine bH h0 ?_;refine kC hm aS.length (fun(i:Nat)=>aS.all jB=(aS.drop i).all jB∧(∀f∈aS.take i,jB f=true)) (fun i=>⟨dN 27 .any [(4,.aX 0),(10,lv (cG aS)),(11,iv aS.length),(12,iv i)],[some (.aX 59 (bx (ba [] (aS.take i))))]⟩) ?_ (cM [none]) ?_;simp;rintro i ⟨hi,hg,hp⟩;have hl2:(aS.take i).length=i:=by rw[bl];omega
 have b1:=rZ (aS.take i) [] hp;simp only[List.length_nil] at b1;rcases aa (i<aS.length) with h1|h1;rw[ae h1,List.all_cons] at hg;refine uA ?_;refine aC [] (M0 aS[i]) ?_;cases h2:jB aS[i];rw[h2,aI] at hg;rw[if_neg (fun hh=>by rw[hh.2.1] at hg;cases hg)] at e;refine bt ?_;rw[e];exact⟨rfl,rfl⟩;rw[h2,aA] at hg;have hs:=yS h2;refine sA ?_;refine Mw [] [0,2] (yd aS[i] 5 (ba [] (aS.take i)) hs.1 oM) ?_;refine⟨i+1,?_,sL,aZ [some 2] sC (by refine sA ?_;simp only[iG h1]) rfl rfl⟩;refine⟨oM,hg,fun f hf=>?_⟩;rw[od h1] at hf;rcases List.mem_append.1 hf with hf|hf;exact hp f hf;simp only[List.mem_cons,List.not_mem_nil,or_false] at hf;rw[hf];exact h2;have et:aS.take i=aS:=aq oM;rw[ak oM,List.all_nil] at hg;rw[et] at b1;rcases aa ((6:Int)<((ba [] aS).length:Int)) with h3|h3;rw[if_neg (fun hh=>by have:=hh.2.2;omega)] at e;refine gL h1 et h3 ?_;rw[e];exact⟨rfl,rfl⟩;rw[if_pos ⟨h0',hg,oM⟩] at e;refine ot h1 et h3 ?_;refine gZ ?_;rw[e];exact⟨rfl,rfl⟩
theorem Bw(s:eM)(aS:List Mod.bU):CN 24 [av (eP s),lv (cG aS)] (bv (hH s aS)):=by
 refine gS 23 [.tmp 4] hm Tryz.func24 fun hl he cf=>?_;refine aC [] (re aS) ?_;refine aC [] (pj s) ?_;cases h1:gC s;have e2:hH s aS=false:=by unfold hH;split<;>simp[h1]
 exact dD e2;cases h2:fc aS with
 | none=>have e2:hH s aS=false:=(by unfold hH;rw[h2]);exact dD e2
 | some xs=>have e2:hH s aS=gn s (plain xs):=(by unfold hH;rw[h2,h1];rfl);have eO:xs.length≤6:=(by have e:=n9 aS;rw[h2] at e;rcases aa (aS.length≤5∧aS.all jB=true∧(ba [] aS).length≤6) with hc|hc;rw[if_pos hc] at e;rw[Option.some.inj e];exact hc.2.2;rw[if_neg hc] at e;cases e);refine zx ?_;refine aC [] (Qx xs oM) ?_;refine aC [] (xx s (plain xs)) ?_;exact dD e2
end Go.Proofs.YtphcpjhkeipggaaGreat
