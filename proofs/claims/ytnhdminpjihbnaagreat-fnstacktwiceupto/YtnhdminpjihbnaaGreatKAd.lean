/-
  The program: the walks of formulas. A step towards the exact laws.
-/
import Derived.Test.YtnhdminpjihbnaaGreatKAN
set_option linter.unusedVariables false
set_option linter.unusedSimpArgs false
open Int renaming reduceEq→Z1,reduceLT→Z2,reduceLE→Z3,reduceToNat→Z4
open And renaming intro→aq
open Bool renaming and_eq_true→ab,false_eq_true→aw,true_and→aN,false_and→aZ
open Classical renaming em→aa
open List renaming getElem_mem→ah,drop_eq_getElem_cons→ai,take_of_length_le→ak,drop_of_length_le→al,length_take→a6
open Nat renaming mul_le_mul_right→bD,pow_le_pow_right→cI,one_le_two_pow→dq
namespace Go.Proofs.YtnhdminpjihbnaaGreat
open Go.Eng Go.Mod
set_option maxRecDepth 100000
set_option maxHeartbeats 800000
theorem HJ(f:Nat)(cap:List PV)(jX:wB 0 cap=true)(p:bz→Bool)(xs:List bz)(hf:∀x∈xs,C E.P f (av (iA x)::cap) [] (gR (bv (p x)) [])) :
 CN 140 [lv (bC xs),.fn f cap] (iv (idxOf p xs)):=by
 refine gS 19 [.tmp 4] hm Tryz.func140 fun hl he cV=>?_
 refine lZ hm xs.length (fun(i:Nat)=>idxOf p xs=eM p (xs.drop i) i) (fun i=>⟨fk 19 .any [(0,lv (bC xs)),(1,.fn f cap),(7,iv xs.length),(8,iv i)],[]⟩) ?_ (c9 []) ?_
 ·simp[idxOf]
 ·rintro i ⟨hi,hg⟩
  rcases aa (i<xs.length) with h1|h1
  ·rw[ai h1,eM] at hg
   refine uA ?_
   have hc:=hf xs[i] (ah h1)
   refine eh cap hc ?_ ?_<;>simp -implicitDefEqProofs only[go_sem,jX]
   cases h2:p xs[i]
   ·rw[h2] at hg
    simp only[aw,if_false] at hg
    refine sA ?_
    refine⟨oM,?_⟩
    exact⟨i+1,⟨oM,hg⟩,sL,c9 []⟩
   ·rw[h2] at hg
    simp only[if_true] at hg
    exact fA hg
  ·rw[al oM,eM] at hg
   exact lJ h1 hg
theorem T1(a b:List Int):CN 188 [lv (bj a),lv (bj b)] (bv (decide (a=b))):=by refine gS 26 [.tmp 4] hm Tryz.func188 fun hl he cV=>?_;rcases aa (a.length=b.length) with h2|h2;have k2:=eq_true h2;refine bS k2 ?_;refine lZ hm a.length (fun(i:Nat)=>(a=b↔a.drop i=b.drop i)) (fun i=>⟨fk 26 .any [(0,lv (bj a)),(1,lv (bj b)),(12,iv a.length),(13,iv i)],[]⟩) ?_ (c9 []) ?_;simp;rintro i ⟨hi,hg⟩;rcases aa (i<a.length) with h3|h3;have h4:i<b.length:=oM;rw[ai h3,ai h4,List.cons.injEq] at hg;rcases aa (a[i]=b[i]) with h5|h5;have k5:=eq_true h5;simp -implicitDefEqProofs only[go_sem,h3,h4,k5];refine iK ?_;refine sQ ?_;refine⟨i+1,?_,sL,bW [] sC sC rfl rfl⟩;refine⟨oM,?_⟩;rw[hg];simp[h5];have e:¬a=b:=fun hh=>h5 (hg.1 hh).1;exact p9 h3 h4 (aq h5 e);rw[al oM,al oM] at hg;exact lJ h3 hg;have e:¬a=b:=fun hh=>h2 (by rw[hh]);exact lJ h2 e
theorem vy(a b:bz):(a=b)=(a.kind=b.kind∧a.A=b.A∧a.B=b.B∧a.an=b.an∧a.bt=b.bt∧a.bJ=b.bJ∧a.cz=b.cz):=by cases a;cases b;simp only[bz.mk.injEq]
theorem tY(a b:bz):CN 142 [av (iA a),av (iA b)] (bv (decide (a=b))):=by
 refine gS 52 [.tmp 4] hm Tryz.func142 fun hl he cV=>?_;rcases aa (a.kind=b.kind) with h1|h1;rotate_left;refine dB h1 ?_;simp[vy,h1];have k1:=eq_true h1;refine bS k1 ?_;refine aC [] (qp a.A b.A) ?_;rcases aa (a.A=b.A) with h2|h2;rotate_left;refine dB h2 ?_;simp[vy,h2];have k2:=eq_true h2;refine bS k2 ?_;refine aC [] (qp a.B b.B) ?_;rcases aa (a.B=b.B) with h3|h3;rotate_left;refine dB h3 ?_;simp[vy,h3];have k3:=eq_true h3;refine bS k3 ?_;refine aC [] (yf 186 a.an b.an (fun x _ y=>qp x y)) ?_;rcases aa (a.an=b.an) with h4|h4;rotate_left;refine dB h4 ?_;simp[vy,h4];have k4:=eq_true h4;refine bS k4 ?_;refine aC [] (T1 a.bt b.bt) ?_;rcases aa (a.bt=b.bt) with h5|h5;rotate_left;refine dB h5 ?_;simp[vy,h5];have k5:=eq_true h5;refine bS k5 ?_;rcases aa (a.bJ=b.bJ) with h6|h6;rotate_left;refine dB h6 ?_;simp[vy,h6];have k6:=eq_true h6;have e:decide (a=b)=(a.cz == b.cz):=by rw[Bool.beq_eq_decide_eq];exact decide_eq_decide.2 (by rw[vy];simp[h1,h2,h3,h4,h5,h6])
 exact lJ k6 e
theorem Eb(t u:bz):CN 141 [av (iA u),.gQ [iA t] 0 0] (bv (decide (t=u))):=by refine gS 7 [.tmp 3] hm Tryz.func141 fun hl he cV=>?_;refine aC [] (tY t u) ?_;refine fv ?_;exact sC
theorem r6(ts:List bz)(t:bz):CN 88 [lv (bC ts),av (iA t)] (iv (dk ts t)):=by refine gS 8 [.tmp 4] hm Tryz.func88 fun hl he cV=>?_;refine CM [] [0] (HJ 141 [.gQ [iA t] 0 0] rfl (fun u=>decide (t=u)) ts (fun u _=>Eb t u)) ?_;refine bI ?_;simp[dk]
theorem Jp:CN 58 [.bE] (lv (bj [])):=by refine gS 8 [.tmp 2] hm Tryz.func58 fun hl he cV=>?_;refine wW 3 _ true rfl rfl (by simp -implicitDefEqProofs only[go_sem]) vl ?_;refine sA ?_;refine fv ?_;exact sC
theorem Jr(a:Addr)(c:Nat):CN 58 [.d (.val (.slice (some a) 0 c))] (lv (bj [])):=by refine gS 8 [.tmp 2] hm Tryz.func58 fun hl he cV=>?_;refine wW 3 _ false rfl rfl (p:=.d (.val (.slice (some a) 0 c))) (by simp -implicitDefEqProofs only[go_sem]) (B6 _ _ _) ?_;refine sA ?_;refine sQ ?_;refine fv ?_;exact sC
theorem Hb(r:List D)(rs:List (List D))(hl1:rs.length≤1000)(h1:∀y∈r::rs,y.length=1):CN 58 [.d (.eP (r::rs))] (lv (r::rs)):=by refine gS 8 [.tmp 2] hm Tryz.func58 fun hl he cV=>?_;refine wW 3 _ false rfl rfl (p:=.d (.eP (r::rs))) (by simp -implicitDefEqProofs only[go_sem]) CB ?_;refine sA ?_;refine aq ⟨?_,oM,oM⟩ ?_;simpa using h1;refine fv ?_;exact sC
theorem BN(ns:List Int)(hl1:ns.length≤1000):CN 58 [lv (bj ns)] (lv (bj ns)):=by
 cases ns with
 | nil=>exact ES Jp Jr
 | cons x xs=>have h1:=ny (x::xs);rw[dP] at h1⊢;exact Hb _ (bj xs) (by rw[j6];simp at hl1;omega) h1
theorem zV(a:bz)(hl1:a.bt.length≤1000):CN 84 [av (iA a)] (av (iA a)):=by refine gS 20 [.cell 2 34] hm Tryz.func84 fun hl he cV=>?_;refine aC [] (iU a.A) ?_;refine aC [] (iU a.B) ?_;refine aC [] (JH a.an) ?_;refine aC [] (BN a.bt hl1) ?_;refine iK ?_;refine fv ?_;exact sC
theorem zI{a:bz}(h:dh a=true):a.bt.length≤4:=by rcases nM h with k|k;rw[dh,if_pos k] at h;simp only[ab,decide_eq_true_eq] at h;have:=h.2.2.2.1;omega;obtain⟨_,_,h3,h4,_⟩:=qC h k;omega
theorem N5(k:Int):CN 138 [iv k] (iv (fG k)):=by refine gS 13 [.tmp 2] hm Tryz.func138 fun hl he cV=>?_;rcases aa (k=1) with h1|h1;have q:=eq_true h1;refine dB q ?_;simp[fG,h1];rcases aa (k=2) with h2|h2;have q:=eq_true h2;refine pV h1 q ?_;simp[fG,h2];rcases aa (k=3) with h3|h3;have q:=eq_true h3;refine kY h1 h2 q ?_;simp[fG,h3];rcases aa (k=4) with h4|h4;have q:=eq_true h4;refine kY h1 h2 (aq h3 q) ?_;simp[fG,h4];rcases aa (k=5) with h5|h5;have q:=eq_true h5;refine kY h1 h2 (aq h3 (aq h4 q)) ?_;simp[fG,h5];rcases aa (k=6) with h6|h6;have q:=eq_true h6;refine kY h1 h2 (aq h3 (aq h4 (aq h5 q))) ?_;simp[fG,h6];refine kY h1 h2 (aq h3 (aq h4 (aq h5 h6))) ?_;simp[fG,h1,h2,h3,h4,h5,h6]
theorem K7(l:cC):CN 139 [av (Af l)] (bv (uY l)):=by refine gS 12 [.tmp 2] hm Tryz.func139 fun hl he cV=>?_;cases h1:l.no;have hc:=tY l.aY tz;refine sA ?_;refine eh [] hc ?_ ?_<;>simp -implicitDefEqProofs only[go_sem];exact⟨rfl,rfl,rfl,rfl,rfl,rfl,rfl,rfl,rfl⟩;refine bI ?_;simp[uY,h1];refine bI ?_;simp[uY,h1]
theorem TD(t:Mod.aU)(cE:Nat):jg t cE=if decide (cE≤5)&&jB t.kind t.lit t.ar then 1+iD t.ar (cE+1) else 11:=by cases t;rfl
theorem Mn{ts:List Mod.aU}{i:Nat}(h:i<ts.length)(d:Nat):iD (ts.take (i+1)) d=iD (ts.take i) d+jg ts[i] d:=by
 have key:∀(xs:List Mod.aU),iD (xs++[ts[i]]) d=iD xs d+jg ts[i] d:=by
  intro xs;induction xs with
  | nil=>simp[iD]
  | cons a xs ih=>simp only[List.cons_append,iD,ih];omega
 rw[jN h,key]
theorem AS{k:Int}:fG k=0↔k=1:=by unfold fG;constructor;intro h;split at h;assumption;split at h;omega;split at h<;>omega;intro h;rw[if_pos h]
theorem Hs(t:Mod.aU)(ih:∀k∈t.ar,∀cE:Nat,1≤cE→cE≤6→CN 87 [av (eE k),iv cE] (iv (jg k cE)))(cE:Nat)(g1:1≤cE)(g5:cE≤6) :
 CN 87 [av (eE t),iv cE] (iv (jg t cE)):=by
 have ht:=TD t cE
 refine gS 57 [.tmp 4] hm Tryz.func87 fun hl he cV=>?_
 refine aC [] (N5 t.kind) ?_
 rcases aa ((5:Int)<(cE:Int)) with h4|h4
 ·have h4':¬cE≤5:=oM
  simp only[h4',decide_false,aZ,aw,if_false] at ht
  exact lJ h4 ht
 have h4':cE≤5:=oM
 simp only[h4',decide_true,aN] at ht
 rcases aa (fG t.kind=t.ar.length) with h1|h1
 rotate_left
 ·have hh:jB t.kind t.lit t.ar=false:=by simp[jB,h1]
  rw[hh] at ht
  simp only[aw,if_false] at ht
  exact p9 h4 h1 ht
 have k1:=eq_true h1
 rcases aa (t.kind=1) with h2|h2
 ·have hz:fG t.kind=0:=AS.2 h2
  have hz2:=eq_true hz
  have hh:jB t.kind t.lit t.ar=dh t.lit.aY:=by unfold jB;rw[if_pos h2];simp[h1]
  rw[hh] at ht
  refine xE h4 k1 hz2 ?_
  refine aC [] (AV t.lit.aY) ?_
  cases h3:dh t.lit.aY
  ·rw[h3] at ht
   simp only[aw,if_false] at ht
   exact fA ht
  ·rw[h3] at ht
   simp only[if_true] at ht
   have hl2:t.ar.length≤2:=qU (by rw[hh,h3])
   refine bS hz2 ?_
   refine jf hm t.ar.length (fun i=>⟨fk 57 .any [(1,iv cE),(6,iv ((1+iD (t.ar.take i) (cE+1):Nat):Int)),(43,lv (bc t.ar)),(44,iv t.ar.length),(45,iv i)],[]⟩) (c9 []) ?_
   ·rintro i hi
    have hb:=uN (t.ar.take i) (cE+1) oM oM
    have hp:(2:Nat) ^ (6-(cE+1))≤2 ^ 5:=cI oM oM
    have hq:(t.ar.take i).length*(23*2 ^ (6-(cE+1))-12)≤2*(23*2 ^ (6-(cE+1))-12):=bD _ (by rw[a6];omega)
    rcases aa (i<t.ar.length) with h9|h9
    ·have hk:=BA t.ar[i] (cE+1) oM oM
     simp -implicitDefEqProofs only[go_sem,h9]
     refine sQ ?_
     have hc:=ih t.ar[i] (ah h9) (cE+1) oM oM
     refine aC [] hc ?_
     refine sQ ?_
     exact⟨i+1,h9,sL,c9 []⟩
    ·have et:t.ar.take i=t.ar:=ak oM
     exact p9 h9 et ht
 ·have hz:¬fG t.kind=0:=fun e=>h2 (AS.1 e)
  have hh:jB t.kind t.lit t.ar=uY t.lit:=by unfold jB;rw[if_neg h2];simp[h1]
  rw[hh] at ht
  refine xE h4 k1 hz ?_
  refine aC [] (K7 t.lit) ?_
  cases h3:uY t.lit
  ·rw[h3] at ht
   simp only[aw,if_false] at ht
   exact fA ht
  ·rw[h3] at ht
   simp only[if_true] at ht
   have hl2:t.ar.length≤2:=qU (by rw[hh,h3])
   refine sA ?_
   refine jf hm t.ar.length (fun i=>⟨fk 57 .any [(1,iv cE),(6,iv ((1+iD (t.ar.take i) (cE+1):Nat):Int)),(43,lv (bc t.ar)),(44,iv t.ar.length),(45,iv i)],[]⟩) (c9 []) ?_
   ·rintro i hi
    have hb:=uN (t.ar.take i) (cE+1) oM oM
    have hp:(2:Nat) ^ (6-(cE+1))≤2 ^ 5:=cI oM oM
    have hq:(t.ar.take i).length*(23*2 ^ (6-(cE+1))-12)≤2*(23*2 ^ (6-(cE+1))-12):=bD _ (by rw[a6];omega)
    rcases aa (i<t.ar.length) with h9|h9
    ·have hk:=BA t.ar[i] (cE+1) oM oM
     simp -implicitDefEqProofs only[go_sem,h9]
     refine sQ ?_
     have hc:=ih t.ar[i] (ah h9) (cE+1) oM oM
     refine aC [] hc ?_
     refine sQ ?_
     exact⟨i+1,h9,sL,bW [] (by refine sA ?_;(simp only[Mn h9];simp;omega)) sC rfl rfl⟩
    ·have et:t.ar.take i=t.ar:=ak oM
     exact p9 h9 et ht
theorem Js:∀(t:Mod.aU)(cE:Nat),1≤cE→cE≤6→CN 87 [av (eE t),iv cE] (iv (jg t cE)):=
 aU.ind fun k x ks ih cE h1 h2=>Hs (.mk k x ks) ih cE h1 h2
theorem sj:∀{ts:List Mod.aU}{d:Nat},cQ ts d=true→∀i,cQ (ts.take i) d=true
 | [],_,_,i=>by simp[cQ]
 | t::ts,d,h,0=>by simp[cQ]
 | t::ts,d,h,i+1=>by simp only[cQ,ab] at h;simp only[List.take_succ_cons,cQ,h.1,aN];exact sj h.2 i
theorem I6{t:Mod.aU}{d:Nat}{l:List bz}(hsh:bH t (d+1)=true)(hl1:l.length+2 ^ (d+1)≤900000)(i:Nat)(hi:i<t.ar.length):(bF l (t.ar.take i)).length+2 ^ d≤900000:=by
 have hk:=fY hsh;have hp:(2:Nat) ^ (d+1)=2*2 ^ d:=by rw[Nat.pow_succ];omega
 have hp1:1≤(2:Nat) ^ d:=dq;have h1:=rm (t.ar.take i) d l (sj hk.2.2 i);have h2:=rb (t.ar.take i) d (sj hk.2.2 i);have h3:(t.ar.take i).length≤1:=by rw[a6];omega
 have h4:(t.ar.take i).length*(2 ^ d-1)≤1*(2 ^ d-1):=bD _ h3;omega
theorem UC{t:Mod.aU}{d:Nat}(hsh:bH t (d+1)=true)(h1:t.kind=1):t.ar=[]∧dh t.lit.aY=true:=by have hk:=(fY hsh).1;simp only[jB,ab,decide_eq_true_eq] at hk;have ha:=hk.2;rw[if_pos h1] at ha;refine⟨?_,ha⟩;have hz:fG t.kind=0:=AS.2 h1;exact List.length_eq_zero_iff.1 oM
theorem Gf(t:Mod.aU)(ih:∀k∈t.ar,∀(d:Nat)(l:List bz),bH k d=true→l.length+2 ^ d≤900000→C E.P 64 [.aW 0,av (eE k)] [some (.aW 34 (bC l))] (gR (.aW 1) [some .dead,some (.aW 34 (bC (ct l k)))]))(d:Nat)(l:List bz)
 (hsh:bH t d=true) (hl1:l.length+2 ^ d≤900000) :
 C E.P 64 [.aW 0,av (eE t)] [some (.aW 34 (bC l))] (gR (.aW 1) [some .dead,some (.aW 34 (bC (ct l t)))]):=by
 cases d with
 | zero=>cases t;simp[bH] at hsh
 | succ d=>
 have hk:=fY hsh
 have hroom:=I6 hsh hl1
 have hp1:1≤(2:Nat) ^ (d+1):=dq
 refine gS 37 [.tmp 4] hm Tryz.func64 fun hl he cV=>?_
 rcases aa (t.kind=1) with hkind|hkind
 ·have kk:=eq_true hkind
  obtain⟨hz,hwf⟩:=UC hsh hkind
  have htm:=zI hwf
  refine bS kk ?_
  refine CM [] [0] (r6 l t.lit.aY) ?_
  rcases aa (dk l t.lit.aY<0) with hx|hx
  ·refine bS hx ?_
   refine oL [] (zV t.lit.aY oM) ?_
   refine Et [some 0,some 2] ?_
   rw[jA,if_pos hkind,if_pos hx,←uW,xM,vh]
   rfl
  ·have he9:bF l t.ar=ct l t:=by rw[jA,if_pos hkind,if_neg hx,hz];rfl
   refine bS hx ?_
   refine jf hm t.ar.length (fun i=>⟨fk 37 .any [(0,.aW 1),(26,lv (bc t.ar)),(27,iv t.ar.length),(28,iv i)],[some .dead,some (.aW 34 (bC (bF l (t.ar.take i))))]⟩) (c9 [some 0,some 0]) ?_
   ·rintro i hi
    rcases aa (i<t.ar.length) with h9|h9
    ·simp -implicitDefEqProofs only[go_sem,h9]
     have hc:=ih t.ar[i] (ah h9) d (bF l (t.ar.take i)) (dF hk.2.2 _ (ah h9)) (hroom i h9)
     refine oC [] [1,3] hc ?_
     refine bI ?_
     exact⟨i+1,h9,sL,bW [some 0,some 3] sC (by refine sA ?_;simp only[kX h9]) rfl rfl⟩
    ·have e:t.ar.take i=t.ar:=ak oM
     refine lf h9 e ?_
     refine bM qR ?_ rfl rfl
     exact fA he9
 ·have he9:bF l t.ar=ct l t:=by rw[jA,if_neg hkind]
  refine bS hkind ?_
  refine jf hm t.ar.length (fun i=>⟨fk 37 .any [(0,.aW 1),(26,lv (bc t.ar)),(27,iv t.ar.length),(28,iv i)],[some .dead,some (.aW 34 (bC (bF l (t.ar.take i))))]⟩) (c9 [some 0,some 0]) ?_
  ·rintro i hi
   rcases aa (i<t.ar.length) with h9|h9
   ·simp -implicitDefEqProofs only[go_sem,h9]
    have hc:=ih t.ar[i] (ah h9) d (bF l (t.ar.take i)) (dF hk.2.2 _ (ah h9)) (hroom i h9)
    refine oC [] [1,3] hc ?_
    refine bI ?_
    exact⟨i+1,h9,sL,bW [some 0,some 3] sC (by refine sA ?_;simp only[kX h9]) rfl rfl⟩
   ·have e:t.ar.take i=t.ar:=ak oM
    refine lf h9 e ?_
    refine bM qR ?_ rfl rfl
    exact fA he9
theorem x7:∀(t:Mod.aU)(d:Nat)(l:List bz),bH t d=true→l.length+2 ^ d≤900000→C E.P 64 [.aW 0,av (eE t)] [some (.aW 34 (bC l))] (gR (.aW 1) [some .dead,some (.aW 34 (bC (ct l t)))]):=
 aU.ind fun k x ks ih d l h1 h2=>Gf (.mk k x ks) ih d l h1 h2
theorem Bh(t:Mod.aU)(hsh:bH t 5=true):CN 64 [.bE,av (eE t)] (lv (bC (ct [] t))):=by
 have hk:=fY hsh;have hroom:=I6 (l:=[]) hsh (by simp);refine gS 37 [.tmp 4] hm Tryz.func64 fun hl he cV=>?_;rcases aa (t.kind=1) with hkind|hkind;have kk:=eq_true hkind;obtain⟨hz,hwf⟩:=UC hsh hkind;have htm:=zI hwf;have hx:dk [] t.lit.aY<0:=by rcases Int.lt_or_le (dk [] t.lit.aY) 0 with h|h;exact h;have:=oN.1 h;simp at this
 refine bS kk ?_;refine aC [] (r6 [] t.lit.aY) ?_;refine bS hx ?_;refine oL [] (zV t.lit.aY oM) ?_;rw[jA,if_pos hkind,if_pos hx];rfl;refine bS hkind ?_;refine jf hm t.ar.length (fun i=>⟨fk 37 .any [(0,.aW 0),(26,lv (bc t.ar)),(27,iv t.ar.length),(28,iv i)],[some (.aW 34 (bC (bF [] (t.ar.take i))))]⟩) (c9 [none]) ?_;rintro i hi;rcases aa (i<t.ar.length) with h9|h9;simp -implicitDefEqProofs only[go_sem,h9];have hc:=x7 t.ar[i] 4 (bF [] (t.ar.take i)) (dF hk.2.2 _ (ah h9)) (hroom i h9);refine oC [] [0,2] hc ?_;refine bI ?_;exact⟨i+1,h9,sL,bW [some 2] sC (by refine sA ?_;simp only[kX h9]) rfl rfl⟩;have e:t.ar.take i=t.ar:=ak oM;refine pV h9 e ?_;rw[jA,if_neg hkind]
theorem N0(t:Mod.aU):CN 63 [av (eE t)] (bv (jq t)):=by
 have hsz:=vC t 5 oM;refine gS 12 [.tmp 2] hm Tryz.func63 fun hl he cV=>?_;have hc:=Js t 1 oM oM;refine aC [] hc ?_;rcases aa ((jg t 1:Int)≤10) with h1|h1;have h1':jg t 1≤10:=oM;have hsh:bH t 5=true:=by cases h:bH t 5;have:=hsz.2 h;have h2:jg t (6-5)=jg t 1:=rfl;omega;rfl
 refine bS h1 ?_;refine oL [] (Bh t hsh) ?_;simp[jq,h1'];omega;have h1':¬jg t 1≤10:=oM;refine dB h1 ?_;simp[jq,h1']
theorem Ra(l:List bz)(hl1:l.length≤900000):CN 57 [lv (bC l)] (lv (cO (plain l))):=by
 refine gS 19 [.tmp 2] hm Tryz.func57 fun hl he cV=>?_;refine jf hm l.length (fun i=>⟨fk 19 .any [(3,.aW 0),(6,lv (bC l)),(7,iv l.length),(8,iv i)],[some (.aW 36 (cO (plain (l.take i))))]⟩) (c9 [none]) ?_;rintro i hi;have hv:=HD (l.take i);have pJ:(l.take i).length=i:=by rw[a6];omega
 rcases aa (i<l.length) with h1|h1;refine uA ?_;refine sQ ?_;exact⟨i+1,h1,sL,bW [some 2] sC (by refine sA ?_;(rw[D5 h1,←qK];rfl)) rfl rfl⟩;have et:l.take i=l:=ak oM;refine lf h1 et ?_;refine fv ?_;exact sC
theorem oB(au:List Mod.aU):CN 40 [lv (bc au)] (.ko [lv (bC ((cR au).getD [])),bv (cR au).isSome]):=by
 have e:=pX au;refine gS 27 [.tmp 2,.tmp 3] hm Tryz.func40 fun hl he cV=>?_;rcases aa ((5:Int)<(au.length:Int)) with h0|h0;rw[if_neg (fun hh=>by have:=hh.1;omega)] at e;refine dB h0 ?_;rw[e];exact⟨rfl,rfl⟩;have h0':au.length≤5:=oM;refine bS h0 ?_;refine lZ hm au.length (fun(i:Nat)=>au.all jq=(au.drop i).all jq∧(∀f∈au.take i,jq f=true)) (fun i=>⟨fk 27 .any [(4,.aW 0),(10,lv (bc au)),(11,iv au.length),(12,iv i)],[some (.aW 34 (bC (bF [] (au.take i))))]⟩) ?_ (c9 [none]) ?_;simp;rintro i ⟨hi,hg,hp⟩;have hl2:(au.take i).length=i:=by rw[a6];omega
 have b1:=sr (au.take i) [] hp;simp only[List.length_nil] at b1;rcases aa (i<au.length) with h1|h1;rw[ai h1,List.all_cons] at hg;refine uA ?_;refine aC [] (N0 au[i]) ?_;cases h2:jq au[i];rw[h2,aZ] at hg;rw[if_neg (fun hh=>by rw[hh.2.1] at hg;cases hg)] at e;refine bI ?_;rw[e];exact⟨rfl,rfl⟩;rw[h2,aN] at hg;have hs:=nT h2;refine sA ?_;refine xN [] [0,2] (x7 au[i] 5 (bF [] (au.take i)) hs.1 oM) ?_;refine⟨i+1,?_,sL,bW [some 2] sC (by refine sA ?_;simp only[kX h1]) rfl rfl⟩;refine⟨oM,hg,fun f hf=>?_⟩;rw[jN h1] at hf;rcases List.mem_append.1 hf with hf|hf;exact hp f hf;simp only[List.mem_cons,List.not_mem_nil,or_false] at hf;rw[hf];exact h2;have et:au.take i=au:=ak oM;rw[al oM,List.all_nil] at hg;rw[et] at b1;rcases aa ((6:Int)<((bF [] au).length:Int)) with h3|h3;rw[if_neg (fun hh=>by have:=hh.2.2;omega)] at e;refine kY h1 et h3 ?_;rw[e];exact⟨rfl,rfl⟩;rw[if_pos ⟨h0',hg,oM⟩] at e;refine xE h1 et h3 ?_;refine An ?_;rw[e];exact⟨rfl,rfl⟩
theorem Bz(s:eV)(au:List Mod.aU):CN 32 [av (gi s),lv (bc au)] (bv (gl s au)):=by
 refine gS 23 [.tmp 4] hm Tryz.func32 fun hl he cV=>?_;refine aC [] (oB au) ?_;refine aC [] (rI s) ?_;cases h1:gy s;have e2:gl s au=false:=by unfold gl;split<;>simp[h1]
 exact fA e2;cases h2:cR au with
 | none=>have e2:gl s au=false:=(by unfold gl;rw[h2]);exact fA e2
 | some xs=>have e2:gl s au=gO s (plain xs):=(by unfold gl;rw[h2,h1];rfl);have fj:xs.length≤6:=(by have e:=pX au;rw[h2] at e;rcases aa (au.length≤5∧au.all jq=true∧(bF [] au).length≤6) with hc|hc;rw[if_pos hc] at e;rw[Option.some.inj e];exact hc.2.2;rw[if_neg hc] at e;cases e);refine CJ ?_;refine aC [] (Ra xs oM) ?_;refine aC [] (De s (plain xs)) ?_;exact fA e2
end Go.Proofs.YtnhdminpjihbnaaGreat
