/-
  The walks of texts of terms and of atoms. A step towards the exact laws.
-/
import Derived.Test.YtphcpjhkeipggaaGreatKBH
import Derived.Test.YtphcpjhkeipggaaGreatKBG
set_option linter.unusedVariables false
set_option linter.unusedSimpArgs false
open Int renaming reduceEq→Z1,reduceLT→Z2,reduceLE→Z3,reduceToNat→Z4
open And renaming intro→an
open Bool renaming true_and→aA,false_and→aI
open Classical renaming em→aa
open List renaming drop_eq_getElem_cons→ae,getElem_mem→aj,drop_of_length_le→ak,map_cons→aV
namespace Go.Proofs.YtphcpjhkeipggaaGreat
open Go.Eng Go.Mod
set_option maxRecDepth 100000
set_option maxHeartbeats 3200000
theorem AV(t:ax)(h:t.ar≠[]):aR t=t.name++(40::(Lib.join (t.ar.map aR) [44]++[41])):=by
 have key:∀ts,im ts=ts.map aR:=by
  intro ts;induction ts with
  | nil=>rfl
  | cons t ts ih=>simp only[im,aV,ih]
 match t,h with
 | .mk n (k::ks),_=>simp only[aR,ax.name,ax.ar,aV,←Ae,key]
theorem yO(t:ax)(h:t.ar=[]):aR t=t.name:=by
 match t,h with
 | .mk n [],_=>rfl
theorem acr{t:ax}{d:Nat}(h:cd t d=true)(hd:d≤4)(hk:t.ar≠[]):(Lib.join (t.ar.map aR) [44]).length≤122:=by have h1:=zg h hd;rw[AV t hk] at h1;simp only[List.length_append,List.length_cons] at h1;omega
theorem YL{xs:List ax}{i:Nat}(h:i<xs.length)(f:ax→pL):oz ((xs.take i).map f)++[[.str (f xs[i])]]=oz ((xs.take (i+1)).map f):=by
 have e:xs.take (i+1)=xs.take i++[xs[i]]:=by rw[List.take_add_one,List.getElem?_eq_getElem h];rfl
 rw[e,List.map_append,←Yb];rfl
theorem Wc{n:pL}(h:gO n=true):n.length≤2:=by simp only[gO,Bool.and_eq_true] at h;have:=dB.1 h.1;omega
theorem GH(t:ax)(ih:∀k∈t.ar,∀d:Nat,d≤4→cd k d=true→CN 269 [av (cT k)] (sv (aR k)))(d:Nat)(hd:d≤4)(hsh:cd t d=true) :
 CN 269 [av (cT t)] (sv (aR t)):=by
 cases d with
 | zero=>cases t;simp[cd] at hsh
 | succ d=>
 have hk:=qp hsh
 have hnm:=Wc hk.1
 refine gS 32 [.tmp 2] hm Tryz.func269 fun hl he cf=>?_
 rcases aa ((t.ar.length:Int)=0) with h0|h0
 ·have e:t.ar=[]:=List.length_eq_zero_iff.1 oM
  have k:=eq_true h0
  refine du k ?_
  simp[yO t e]
 ·have e:t.ar≠[]:=fun h=>h0 (by rw[h];rfl)
  have hj:=acr hsh hd e
  refine bH h0 ?_
  refine jr hm t.ar.length (fun i=>⟨dN 32 .any [(1,.bA 0 0),(3,.aX 1),(13,lv (aU t.ar)),(14,iv t.ar.length),(15,iv i)],[some (.box (dm (cT t))),some (.aX 9 (oz ((t.ar.take i).map aR)))]⟩) (cM [some 0,none]) ?_
  ·rintro i hi
   rcases aa (i<t.ar.length) with h1|h1
   ·refine uA ?_
    have hc:=ih t.ar[i] (aj h1) d oM (qy hk.2.2 _ (aj h1))
    refine aC [] hc ?_
    refine bt ?_
    exact⟨i+1,h1,sL,aZ [some 0,some 3] sC (by refine sA ?_;exact YL h1 _) rfl rfl⟩
   ·have et:t.ar.take i=t.ar:=List.take_of_length_le oM
    refine oH h1 et ?_
    refine AQ [] [1] (J7 (t.ar.map aR) [44] (by simp;omega) oM) ?_
    refine bt ?_
    simp[AV t e]
theorem Jd:∀(t:ax)(d:Nat),d≤4→cd t d=true→CN 269 [av (cT t)] (sv (aR t)):=
 ax.ind fun n ks ih d h1 h2=>GH (.mk n ks) ih d h1 h2
theorem Cg(s:eM)(t:ax):CN 188 [av (cT t),.ib [eP s] 0 0] (bv (!eQ s t)):=by refine gS 8 [.tmp 3] hm Tryz.func188 fun hl he cf=>?_;refine aC [] (zG s t) ?_;refine fD ?_;exact sC
def pX(l:List ax):Nat→Option ax
 | 0=>none
 | j+1=>l[j]?
theorem HG{p:Option ax}{ts:List ax}{ns:List Int}{i:Nat}(h:i<ts.length)(h':i<ns.length):mU p (ts.drop i) (ns.drop i)=(bG ts[i]&&(cK ns[i] (-50) 50&&(decide (ns[i]≠0)&&((match p with|none=>true|some q=>iQ (aR q) (aR ts[i]))&&mU (some ts[i]) (ts.drop (i+1)) (ns.drop (i+1)))))):=by rw[ae h,ae h'];rfl
theorem ph(t:ax)(h:bG t=true):CN 269 [av (cT t)] (sv (aR t)):=Jd t 4 oM (jh h)
theorem E4(a:cR)(k1:a.kind=1):CN 176 [av (fC a)] (bv (dq a)):=by
 have e:dq a=(bG a.A&&(bG a.B&&(decide (a.ai.length=0)&&(decide (a.a8.length=0)&&(decide (a.bj=0)&& !a.bJ))))):=by simp[dq,k1]
 refine gS 118 [.tmp 2] hm Tryz.func176 fun hl he cf=>?_;simp -implicitDefEqProofs only[go_sem,k1];refine aC [] (kd a.A) ?_;cases h1:bG a.A
 ·simp -implicitDefEqProofs only[go_sem];refine gZ ?_;all_goals(simp[e,h1];done)
 simp -implicitDefEqProofs only[go_sem];refine aC [] (kd a.B) ?_;cases h2:bG a.B;simp -implicitDefEqProofs only[go_sem];refine gZ ?_;simp[e,h1,h2];refine sA ?_;rcases aa ((a.ai.length:Int)=0) with h3|h3;have h3':a.ai.length=0:=oM;have k3:=eq_true h3;refine bH k3 ?_;rcases aa ((a.a8.length:Int)=0) with h4|h4;have h4':a.a8.length=0:=oM;have k4:=eq_true h4;refine bH k4 ?_;rcases aa (a.bj=0) with h5|h5;have k5:=eq_true h5;exact mH k5 e (an h1 (an h2 (an h3' (an h4' h5))));exact mH h5 e (an h1 (an h2 (an h3' h4')));have h4':¬a.a8.length=0:=oM;exact mH h4 e (an h1 (an h2 (an h3' h4')));have h3':¬a.ai.length=0:=oM;refine bH h3 ?_;refine gZ ?_;simp[e,h1,h2,h3']
theorem lZ{l:List ax}{i:Nat}(h:i<l.length):pX l (i+1)=some l[i]:=by simp[pX,h]
theorem DD(a:cR)(k2:a.kind=2):CN 176 [av (fC a)] (bv (dq a)):=by
 have e:dq a=(isNone a.A&&(isNone a.B&&(cK a.ai.length 1 4&&(decide (a.a8.length=a.ai.length)&&(cK a.bj (-1000) 1000&&mU none a.ai a.a8))))):=by simp[dq,k2]
 refine gS 118 [.tmp 2] hm Tryz.func176 fun hl he cf=>?_;simp -implicitDefEqProofs only[go_sem,Z1,k2];refine aC [] (gW a.A) ?_;cases h1:isNone a.A
 ·simp -implicitDefEqProofs only[go_sem];refine gZ ?_;all_goals(simp[e,h1];done)
 simp -implicitDefEqProofs only[go_sem];refine aC [] (gW a.B) ?_;cases h2:isNone a.B
 ·simp -implicitDefEqProofs only[go_sem];refine gZ ?_;all_goals(simp[e,h1,h2];done)
 simp -implicitDefEqProofs only[go_sem];refine aC [] (fQ a.ai.length 1 4) ?_;cases h3:cK a.ai.length 1 4
 ·simp -implicitDefEqProofs only[go_sem];refine fD ?_;simp -implicitDefEqProofs only[go_sem];all_goals(simp[e,h1,h2,h3];done)
 simp -implicitDefEqProofs only[go_sem];rcases aa (a.a8.length=a.ai.length) with h4|h4
 ·have k4:=eq_true h4;simp -implicitDefEqProofs only[go_sem,k4];refine aC [] (fQ a.bj (-1000) 1000) ?_;cases h5:cK a.bj (-1000) 1000
  ·refine sA ?_;refine gZ ?_;all_goals(simp[e,h1,h2,h3,h4,h5];done)
  have e:dq a=mU none a.ai a.a8:=(by simp[e,h1,h2,h3,h4,h5]);refine sA ?_;refine cS hm (fun(i:Nat)=> i≤a.ai.length∧dq a=mU (pX a.ai i) (a.ai.drop i) (a.a8.drop i)∧∀q,pX a.ai i=some q→bG q=true) (fun(i:Nat)=> ⟨dN 118 .any [(1,.bA 0 0),(74,lv (aU a.ai)),(75,iv a.ai.length),(76,iv i)],[some (.box (dm (fC a)))]⟩) (fun(i:Nat)=> a.ai.length-i) (0) ?_ (aZ fe ?_ ?_ rfl rfl) ?_;rotate_left;simp -implicitDefEqProofs only[go_sem]
  ·simp -implicitDefEqProofs only[go_sem];all_goals(simp[*];done)
  rotate_left;exact⟨oM,e,fun q h=>by cases h⟩;rintro i ⟨hi,hg,hp⟩;rcases aa (i<a.ai.length) with g1|g1
  ·have g2:i<a.a8.length:=oM;rw[HG g1 g2] at hg;refine uI ?_;refine aC [] (kd a.ai[i]) ?_;cases q1:bG a.ai[i]
   ·rw[q1,aI] at hg;simp -implicitDefEqProofs only[go_sem];refine iK ?_;refine fD ?_;simp -implicitDefEqProofs only[go_sem];all_goals(simp[hg];done)
   rw[q1,aA] at hg;simp -implicitDefEqProofs only[go_sem,g2];refine aC [] (fQ a.a8[i] (-50) 50) ?_;cases q2:cK a.a8[i] (-50) 50
   ·rw[q2,aI] at hg;simp -implicitDefEqProofs only[go_sem];refine iK ?_;refine gZ ?_;all_goals(simp[hg];done)
   rw[q2,aA] at hg;simp -implicitDefEqProofs only[go_sem,g2];rcases aa (a.a8[i]=0) with q3|q3
   ·have k3:=eq_true q3;simp only[k3,not_true,ne_eq,decide_false,aI] at hg;simp -implicitDefEqProofs only[go_sem,k3];refine iK ?_;refine gZ ?_;all_goals(simp[hg];done)
   simp only[q3,not_false_eq_true,ne_eq,decide_true,aA] at hg;cases i with
   | zero=>
    simp only[pX,aA] at hg;simp -implicitDefEqProofs only[go_sem,q3,Int.lt_irrefl];refine iK ?_;refine sQ ?_;refine⟨0+1,?_,sL,aZ fe ?_ ?_ rfl rfl⟩;rotate_left
    ·refine sA ?_;all_goals(simp[*];done)
    exact sC;refine⟨oM,?_,?_⟩;rw[hg,lZ g1];intro q hq;rw[lZ g1] at hq;cases hq;exact q1
   | succ j=>
    have hj:j<a.ai.length:=oM;have e1:((j:Int)+1-1)=(j:Int):=oM;have e2:(0:Int)<(j:Int)+1:=oM;have tp:=hp _ (lZ hj);rw[lZ hj] at hg;simp only at hg;simp -implicitDefEqProofs only[go_sem,q3,e1,e2,hj];refine sQ ?_;refine aC [] (ph a.ai[j] tp) ?_;refine aC [] (ph a.ai[j+1] q1) ?_;refine iK ?_;cases q4:iQ (aR a.ai[j]) (aR a.ai[j+1])
    ·rw[q4,aI] at hg;have h5:Op.bytesLess (aR a.ai[j]) (aR a.ai[j+1])=false:=q4;refine uE ?_;refine gZ ?_;all_goals(simp[hg];done)
    rw[q4,aA] at hg;have h5:Op.bytesLess (aR a.ai[j]) (aR a.ai[j+1])=true:=q4;refine uE ?_;refine sQ ?_;refine⟨j+1+1,?_,sL,aZ fe ?_ ?_ rfl rfl⟩;rotate_left;exact sC;exact sC;refine⟨oM,?_,?_⟩;rw[hg,lZ g1];intro q hq;rw[lZ g1] at hq;cases hq;exact q1
  rw[ak oM,ak oM] at hg;have hg:dq a=true:=(by rw[hg];cases pX a.ai i<;>rfl);refine uI ?_;refine gZ ?_;all_goals(simp[hg];done)
 refine uD ?_;refine gZ ?_;all_goals(simp[e,h1,h2,h3,h4];done)
theorem BA(a:cR):CN 176 [av (fC a)] (bv (dq a)):=by rcases aa (a.kind=1) with k1|k1;exact E4 a k1;rcases aa (a.kind=2) with k2|k2;exact DD a k2;refine gS 118 [.tmp 2] hm Tryz.func176 fun hl he cf=>?_;refine oH k1 k2 ?_;simp[dq,k1,k2]
theorem Cs(s:eM)(a:cR):CN 103 [av (eP s),av (fC a)] (bv (gr s a)):=by refine gS 28 [.tmp 4] hm Tryz.func103 fun hl he cf=>?_;refine aC [] (pj s) ?_;cases h1:gC s;refine bt ?_;simp[gr,h1];refine sA ?_;refine aC [] (BA a) ?_;cases h2:dq a;refine bt ?_;simp[gr,h1,h2];refine sA ?_;rcases aa (a.kind=1) with k1|k1;have k:=eq_true k1;refine bH k ?_;refine aC [] (xU ⟨a.A,a.B⟩ s) ?_;refine bt ?_;simp[gr,h1,h2,k1];refine bH k1 ?_;refine AQ [] [0] (Cf 188 [.ib [eP s] 0 0] rfl (fun t=>!eQ s t) a.ai (fun t _=>Cg s t)) ?_;refine bt ?_;simp[gr,h1,h2,k1,List.all_eq_not_any_not]
end Go.Proofs.YtphcpjhkeipggaaGreat
