/-
  The reference: the walks of what is drawn: forms. A step towards the laws.
-/
import Derived.Test.YtphcpjhkeipggaaGreatKBya
import Derived.Test.YtphcpjhkeipggaaGreatKBf
import Derived.Test.YtphcpjhkeipggaaGreatKBq
set_option linter.unusedVariables false
set_option linter.unusedSimpArgs false
open Int renaming reduceEq→Z1,reduceLT→Z2,reduceLE→Z3,reduceToNat→Z4
open And renaming intro→an
open Classical renaming em→aa
open Int renaming toNat_natCast→bc
open List renaming getElem?_eq_getElem→af,getElem_mem→aj,take_of_length_le→aq,mem_cons→az,getD_eq_getElem?_getD→aB,replicate→aE,length_append→aP,not_mem_nil→bf,length_take→bl,length_replicate→gH
namespace Go.Proofs.YtphcpjhkeipggaaGreat
open Go.Eng Go.Mod
set_option maxRecDepth 100000
set_option maxHeartbeats 3200000
theorem Nf(b:List Int)(hb:uq b)(atoms:List cR)(ha:1≤atoms.length)(ha9:atoms.length≤100)(d:Nat)(p:Int)(h1:0≤p)(h2:p+4*2 ^ (d+1)≤1000000000)
 (ih:1≤d→∀(q:Int),0≤q→q+4*2 ^ d≤1000000000→C E.P 93 [.bA 0 0,lv (bx atoms),iv d] [some (rz b q)] (jF (av (ir (kf b atoms d q).1)) [some (rz b (kf b atoms d q).2)])) :
 C E.P 93 [.bA 0 0,lv (bx atoms),iv ((d:Int)+1)] [some (rz b p)] (jF (av (ir (kf b atoms (d+1) p).1)) [some (rz b (kf b atoms (d+1) p).2)]):=by
 obtain⟨hp,hp2⟩:=two_pow_pos d
 have hdl:(d:Int)<2 ^ d:=by have:=Nat.lt_two_pow_self (n:=d);have e:(2:Int) ^ d=((2 ^ d:Nat):Int):=(by simp);omega
 have q2:p+1+1=p+2:=oM
 have q3:p+2+1=p+3:=oM
 have getAt:∀(k:Nat)(hk:k<atoms.length),atoms.getD k rF=atoms[k]:=fun k hk=>by rw[aB,af hk];rfl
 rcases aa (d=0) with hd|hd
 ·subst hd
  obtain⟨k,ek,hk⟩:=uV hb (p:=p) (n:=atoms.length) h1 ha
  have ea:kf b atoms (0+1) p=(.mk 1 ⟨atoms[k],decide (cF b (p+1) 3=0)⟩ [],p+2):=by rw[←getAt k hk,kf,if_pos rfl,ek,bc]
  rw[ea]
  have z1:((0:Int)+1)≤1:=oM
  refine gS 50 [.cell 6 63] hm Tryz.func93 fun hl he cf=>?_
  refine bH z1 ?_
  refine oC [] [0] (jR b p atoms.length hb h1 oM) ?_
  refine bH ek ?_
  simp -implicitDefEqProofs only[go_sem,hk]
  refine oC [] [0] (jR b (p+1) 3 hb oM oM) ?_
  refine bt ?_
  refine bX fe ?_ rfl rfl
  refine sA ?_
  exact⟨⟨rfl,rfl,rfl,rfl,rfl,rfl,rfl,rfl,rfl,rfl,rfl,rfl⟩,by rw[q2]⟩
 have z1:¬ (d:Int)+1≤1:=oM
 rcases aa (cF b p 4=0) with c0|c0
 ·have k0:=eq_true c0
  obtain⟨k,ek,hk⟩:=uV hb (p:=p+1) (n:=atoms.length) oM ha
  have ea:kf b atoms (d+1) p=(.mk 1 ⟨atoms[k],decide (cF b (p+2) 3=0)⟩ [],p+3):=by rw[←getAt k hk,kf,if_neg hd,if_pos c0,ek,bc]
  rw[ea]
  refine gS 50 [.cell 6 63] hm Tryz.func93 fun hl he cf=>?_
  refine bH z1 ?_
  refine oC [] [0] (jR b p 4 hb h1 oM) ?_
  refine bH k0 ?_
  refine oC [] [0] (jR b (p+1) atoms.length hb oM oM) ?_
  refine iI ek q2 ?_
  simp -implicitDefEqProofs only[go_sem,hk]
  refine oC [] [0] (jR b (p+2) 3 hb oM oM) ?_
  refine bt ?_
  refine bX fe ?_ rfl rfl
  refine sA ?_
  exact⟨⟨rfl,rfl,rfl,rfl,rfl,rfl,rfl,rfl,rfl,rfl,rfl,rfl⟩,by rw[q3]⟩
 ·obtain⟨k,ek⟩:∃k,jL b (p+1) [3,4,4,5,3,6,2]=k:=⟨_,rfl⟩
  have hk:=OH hb (p:=p+1) oM
  rw[ek] at hk
  obtain⟨n,en⟩:∃n:Nat,gw k=n:=⟨(gw k).toNat,oM⟩
  rw[en] at hk
  have ea:kf b atoms (d+1) p=(.mk k Gq (gM (fun(_:Unit) q=>kf b atoms d q) (aE n ()) (p+2)).1,(gM (fun(_:Unit) q=>kf b atoms d q) (aE n ()) (p+2)).2):=by rw[kf,if_neg hd,if_neg c0];simp only[ek,en,bc]
  rw[ea]
  refine gS 50 [.cell 6 63] hm Tryz.func93 fun hl he cf=>?_
  refine bH z1 ?_
  refine oC [] [0] (jR b p 4 hb h1 oM) ?_
  refine bH c0 ?_
  refine oC [] [0] (qu b (p+1) [3,4,4,5,3,6,2] hb oM oM (by simp) (by simp)) ?_
  refine iI ek q2 ?_
  refine jr hm n (fun i=>⟨dN 50 .any [(0,.bA 0 0),(1,lv (bx atoms)),(2,iv ((d:Int)+1)),(6,.bA 1 0),(7,.bA 2 0),(8,iv i)],[some (rz b (gM (fun(_:Unit) q=>kf b atoms d q) ((aE n ()).take i) (p+2)).2),some (.box [iv 0,iv 0,sv [],.bW,sv [],.bW,.bW,.bW,iv 0,bv false,bv false,.bW]),some (.box [iv k,iv 0,sv [],.bW,sv [],.bW,.bW,.bW,iv 0,bv false,bv false,.aX 3]),some (.aX 63 (cG (gM (fun(_:Unit) q=>kf b atoms d q) ((aE n ()).take i) (p+2)).1))]⟩) (cM [some 0,some 1,some 2,none]) ?_
  ·rintro i hi
   have hln:=vJ (fun(_:Unit) q=>kf b atoms d q) ((aE n ()).take i) (p+2)
   rw[bl,gH] at hln
   refine aC [] (Cr k) ?_
   refine bH en ?_
   rcases aa (i<n) with h5|h5
   ·have hq:p+2≤(gM (fun(_:Unit) q=>kf b atoms d q) ((aE n ()).take i) (p+2)).2∧(gM (fun(_:Unit) q=>kf b atoms d q) ((aE n ()).take i) (p+2)).2≤p+2+i*(4*(2 ^ d-1)):=by
     have key:∀(m:Nat)(q:Int),0≤q→q≤(gM (fun(_:Unit) q=>kf b atoms d q) (aE m ()) q).2∧(gM (fun(_:Unit) q=>kf b atoms d q) (aE m ()) q).2≤q+m*(4*(2 ^ d-1)):=by
      intro m;induction m with
      | zero=>intro q _;simp[gM]
      | succ m ihm=>intro q hq;have g1:=GO hb (atoms:=atoms) d q hq;have g2:=ihm (kf b atoms d q).2 oM;have e:((m+1:Nat):Int)*(4*(2 ^ d-1))=m*(4*(2 ^ d-1))+4*(2 ^ d-1):=(by rw[Int.natCast_add,Int.add_mul];simp);simp only[List.replicate_succ,gM];omega
     have e:(aE n ()).take i=aE i ():=by rw[List.take_replicate];congr 1;omega
     rw[e]
     exact key i (p+2) oM
    have hmul:(i:Int)*(4*(2 ^ d-1))≤1*(4*(2 ^ d-1)):=Int.mul_le_mul_of_nonneg_right oM oM
    have ld:=Gw (fun(_:Unit) q=>kf b atoms d q) (show i<(aE n ()).length by rw[gH];exact h5) (p+2)
    have hc:=ih oM (gM (fun(_:Unit) q=>kf b atoms d q) ((aE n ()).take i) (p+2)).2 oM oM
    have o4:((d:Int)+1-1)=(d:Int):=oM
    have hrows:cG (gM (fun(_:Unit) q=>kf b atoms d q) ((aE n ()).take i) (p+2)).1++[ir (kf b atoms d (gM (fun(_:Unit) q=>kf b atoms d q) ((aE n ()).take i) (p+2)).2).1]=cG (gM (fun(_:Unit) q=>kf b atoms d q) ((aE n ()).take (i+1)) (p+2)).1:=by rw[ld];exact(congrArg (cG (gM (fun(_:Unit) q=>kf b atoms d q) ((aE n ()).take i) (p+2)).1 ++ ·) (sF _ _).symm).trans (yj _ [_])
    have hq2:(kf b atoms d (gM (fun(_:Unit) q=>kf b atoms d q) ((aE n ()).take i) (p+2)).2).2=(gM (fun(_:Unit) q=>kf b atoms d q) ((aE n ()).take (i+1)) (p+2)).2:=by rw[ld]
    refine oH h5 o4 ?_
    refine Mw [] [0] hc ?_
    refine⟨i+1,?_,sL,aZ [some 0,some 1,some 2,some 4] sC (by refine sA ?_;exact⟨by rw[hq2],hrows⟩) rfl rfl⟩
    omega
   ·have et:(aE n ()).take i=aE n ():=aq (by rw[gH];omega)
    rw[et]
    refine bH h5 ?_
    refine bX fe ?_ rfl rfl
    refine sA ?_
    repeat' apply an
    all_goals rfl
theorem uO(b:List Int)(hb:uq b)(atoms:List cR)(ha:1≤atoms.length)(ha9:atoms.length≤100):∀(d:Nat)(p:Int),1≤d→0≤p→p+4*2 ^ d≤1000000000 →
 C E.P 93 [.bA 0 0,lv (bx atoms),iv d] [some (rz b p)] (jF (av (ir (kf b atoms d p).1)) [some (rz b (kf b atoms d p).2)])
 | 0,_,hd,_,_=>by omega
 | d+1,p,_,h1,h2=>Nf b hb atoms ha ha9 d p h1 h2 fun hd q g1 g2=>uO b hb atoms ha ha9 d q hd g1 g2
theorem I3(l:List cR)(hl1:l.length≤900000):C E.P 66 [.aX 0] [some (.aX 59 (bx l))] (jF (.aX 1) [some (.aX 59 (bx l)),some (.aX 61 (bh (plain l)))]):=by
 refine gS 21 [.tmp 2] hm Tryz.func66 fun hl he cf=>?_;refine jr hm l.length (fun i=>⟨dN 21 .any [(0,.aX 0),(3,.aX 1),(4,iv i)],[some (.aX 59 (bx l)),some (.aX 61 (bh (plain (l.take i))))]⟩) (cM kR) ?_;rintro i hi;have hv:=G6 (l.take i);have oI:(l.take i).length=i:=by rw[bl];omega
 rcases aa (i<l.length) with h1|h1;refine uA ?_;refine sQ ?_;exact⟨i+1,h1,sL,aZ [some 0,some 2] sC (by refine sA ?_;(rw[Dt h1,←lu];rfl)) rfl rfl⟩;have et:l.take i=l:=aq oM;refine iI h1 et ?_;refine bX kR ?_ rfl rfl;exact sC
theorem CE(b:List Int)(hb:uq b)(s:eM)(hs:gI s)(p:Int)(h1:0≤p)(h2:p≤800000000):C E.P 92 [.bA 0 0,av (eP s)] [some (rz b p)] (jF (lv (bx (nT b s p).1)) [some (rz b (nT b s p).2)]):=by
 have hmem:=ri hb (p:=p) (l:=[2,3,4,5,1]) h1 (by simp);simp only[az,bf,or_false] at hmem;obtain⟨N,eN⟩:∃N:Nat,jL b p [2,3,4,5,1]=N:=⟨(jL b p [2,3,4,5,1]).toNat,oM⟩;have hN:N≤5:=oM;obtain⟨y,e0⟩:∃y,nT b s p=y:=⟨_,rfl⟩;have ea:=e0;unfold nT at ea;simp only[eN,bc] at ea;rw[e0,←ea];refine gS 41 [.tmp 4] hm Tryz.func92 fun hl he cf=>?_;refine oC [] [0] (qu b p [2,3,4,5,1] hb h1 oM (by simp) (by simp)) ?_;refine bH eN ?_;refine n6 hm (fun(j:Nat) (q:Int) (out:List cR)=> j≤N∧0≤q∧q≤p+1+(N-j)*60∧out.length≤N-j∧kY (nc b s) N [] (p+1)=kY (nc b s) j out q) (fun j q out=> ⟨dN 41 .any [(0,.bA 0 0),(3,.bA 1 0),(5,.aX 2),(6,iv j)],[some (rz b q),some (.box (dm (eP s))),some (.aX 59 (bx out))]⟩) (fun j q out=> j) (N) (p+1) ([]) ?_ (cM rC) ?_;exact⟨Nat.le_refl _,oM,oM,by simp,rfl⟩;rintro j q out ⟨hj,hq1,hq2,hol,hg⟩;rcases aa ((0:Int)<(j:Int)) with h3|h3;obtain⟨j,rfl⟩:∃j',j=j'+1:=⟨j-1,oM⟩;have hA:=Qu hb hs (p:=q) hq1;rw[kY] at hg;have est:nc b s out q=(if gn s (plain (out++[(qh b s q).1])) then addAtom out (qh b s q).1 else out,(qh b s q).2):=rfl;rw[est] at hg;simp only at hg;have c1:=QM b hb s hs q hq1 oM;obtain⟨x,hx⟩:∃x,qh b s q=x:=⟨_,rfl⟩;rw[hx] at hg c1 hA;have hjs:((j:Int)+1-1)=(j:Int):=oM;have h3:(0:Int)<(j:Int)+1:=oM;have hlits:=I3 (out++[x.1]) (by simp;omega);rw[←um,xE,uy] at hlits;refine bH h3 ?_;refine Mw [] [0] c1 ?_;refine oC [] [6,7] hlits ?_;refine AQ [] [7] (xi s (plain (out++[x.1]))) ?_;refine iK ?_;cases h4:gn s (plain (out++[x.1]));rw[h4] at hg;refine du hjs ?_;exact⟨j,x.2,out,⟨oM,oM,oM,oM,hg⟩,sL,cM rC⟩;rw[h4] at hg;have hal:(addAtom out x.1).length≤out.length+1:=by unfold addAtom;split<;>simp
 refine sA ?_;refine Mw [] [2,8] (zB out x.1 oM) ?_;exact⟨j,x.2,addAtom out x.1,⟨oM,oM,oM,oM,hg⟩,sL,cM [some 0,some 1,some 8]⟩;obtain rfl:j=0:=oM;rw[kY] at hg;rw[hg];rcases aa (out.length=0) with h4|h4;have k4:((out.length:Int)=0)=True:=eq_true oM;simp only[if_pos h4];simp -implicitDefEqProofs only[go_sem,Z2,k4];refine sQ ?_;refine bX fe ?_ rfl rfl;refine sA ?_;exact⟨by rw[←um];rfl,rfl⟩;have h4':¬ (out.length:Int)=0:=oM;simp only[if_neg h4];simp -implicitDefEqProofs only[go_sem,Z2,h4'];refine bX fe ?_ rfl rfl;refine sA ?_;rfl
theorem Nr(b:List Int)(hb:uq b)(p:Int)(h1:0≤p)(h2:p≤700000000):C E.P 170 [.bA 0 0] [some (rz b p)] (jF (.iZ [av (eP (nz b p).1),av (ir (nz b p).2.1)]) [some (rz b (nz b p).2.2)]):=by have hs:gI (qG b p).1:=vC _;have hsp:(qG b p).2=p+1:=rfl;have hT:=JI hb hs (p:=p+1) oM;have cT:=CE b hb (qG b p).1 hs (p+1) oM oM;obtain⟨y,e0⟩:∃y,nz b p=y:=⟨_,rfl⟩;have ea:=e0;unfold nz at ea;simp only at ea;obtain⟨a,hta⟩:∃a,nT b (qG b p).1 (p+1)=a:=⟨_,rfl⟩;rw[hta] at ea hT cT;obtain⟨d,ed,d1,d2,d3⟩:=Tq hb (p:=a.2) oM (l:=[3,4,2,3,1]) (by simp) (by decide);simp only[ed,bc] at ea;have cA:=uO b hb a.1 oM oM d (a.2+1) d1 oM oM;rw[e0,←ea];refine gS 16 [.cell 2 25,.cell 3 63] hm Tryz.func170 fun hl he cf=>?_;refine oC [] [0] (Ev b p hb h1 oM) ?_;refine bH hsp ?_;refine oC [] [0] cT ?_;refine oC [] [0] (qu b a.2 [3,4,2,3,1] hb oM oM (by simp) (by simp)) ?_;refine bH ed ?_;refine Mw [] [0] cA ?_;refine bX fe ?_ rfl rfl;exact sC
theorem H2{l:List Sym}{k:Nat}(h:k<l.length)(x:Sym)(r:List D)(hr:r=zT x):(fq l).set k r=fq (l.set k x):=by rw[hr,fq,fq,List.map_set]
theorem sY(b:List Int)(hb:uq b)(s:eM)(qF:s.cQ.length≤100)(ha9:∀x∈s.cQ,x.args.length≤1000)(p:Int)(h1:0≤p)(h2:p≤900000000) :
 C E.P 95 [.bA 0 0,av (eP s)] [some (rz b p)] (jF (av (eP (kW b s p).1)) [some (rz b (kW b s p).2)]):=by
 have q2:p+1+1=p+2:=oM
 have q3:p+2+1=p+3:=oM
 have q4:p+3+1=p+4:=oM
 have cf:=qq
 refine Ic (nt:=116) (rs:=[.cell 4 25]) Tryz.func95 rfl rfl rfl rfl rfl (fun hl he=>?_)
 simp -implicitDefEqProofs only[go_sem] at hl⊢
 refine jm hm ?_
 refine sA ?_
 refine jr hm s.cQ.length (fun i=>⟨dN 116 .any [(0,.bA 0 0),(3,.bA 1 0),(4,.bA 2 0),(5,.bA 3 0),(6,iv i)],[some (rz b p),some (.box (dm (eP s))),some (.box [.bW]),some (.box [.aX 4]),some (.gD 155 (Ah (s.cQ.take i)))]⟩) (cM [some 0,some 1,some 2,some 4,some 3]) ?_
 ·rintro i hi
  have hp:(Ah (s.cQ.take i)).length=i:=by rw[L2,bl];omega
  rcases aa (i<s.cQ.length) with h3|h3
  ·have ha:=ha9 s.cQ[i] (aj h3)
   have nq:=jN s.cQ[i].args
   refine uC ?_
   refine sQ ?_
   refine⟨i+1,?_,?_,E7 9 i _ rfl (by rw[aP,hp];simp) (A0 hp) ?_⟩
   rotate_left
   ·show _ < _
    omega
   ·refine sA ?_
    refine aZ [some 0,some 1,some 2,some 3,some 9] ?_ ?_ rfl rfl
    ·exact sC
    ·refine sA ?_
     all_goals(rw[AJ hp];exact⟨OO h3,(congrArg (fun z=>(dP z).isSome) (OO h3)).trans (ac7 _)⟩)
   exact h3
  ·have et:s.cQ.take i=s.cQ:=aq oM
   rw[et]
   rcases aa (s.cQ.length=0) with h4|h4
   ·have e:kW b s p=(s,p):=by rw[kW,if_pos h4]
    have k4:((s.cQ.length:Int)=0)=True:=eq_true oM
    refine iI h3 k4 ?_
    refine fI ?_
    refine bX fe ?_ rfl rfl
    refine sA ?_
    rw[e]
    exact⟨⟨⟨_,rfl,rfl⟩,rfl⟩,rfl⟩
   have k4:¬ (s.cQ.length:Int)=0:=oM
   refine iI h3 k4 ?_
   refine oC [] [0] (jR b p 8 hb h1 oM) ?_
   rcases aa (0<cF b p 8) with h5|h5
   ·have e:kW b s p=(s,p+1):=by rw[kW,if_neg h4,if_pos h5]
    refine bH h5 ?_
    refine fI ?_
    refine bX fe ?_ rfl rfl
    refine sA ?_
    rw[e]
    exact⟨⟨⟨_,rfl,rfl⟩,rfl⟩,rfl⟩
   refine bH h5 ?_
   obtain⟨k,ek,hk⟩:=uV hb (p:=p+1) (n:=s.cQ.length) oM oM
   obtain⟨x,hx⟩:∃x,s.cQ[k]=x:=⟨_,rfl⟩
   have ex:s.cQ.getD k ⟨[],[],0⟩=x:=by rw[←hx,aB,af hk];rfl
   have rA:row (fq s.cQ) k=zT x:=by rw[H9 hk,hx]
   obtain⟨y,e0⟩:∃y,kW b s p=y:=⟨_,rfl⟩
   have ee:=e0
   unfold kW at ee
   simp only[if_neg h4,if_neg h5,ek,bc,ex] at ee
   refine oC [] [0] (jR b (p+1) s.cQ.length hb oM oM) ?_
   refine iI ek q2 ?_
   rcases aa (cF b (p+2) 5=1) with c1|c1
   ·have c0:¬cF b (p+2) 5=0:=oM
    have k1:=eq_true c1
    rw[if_neg c0,if_pos c1] at ee
    have hkT:k<(Ah s.cQ).length:=by rw[L2];exact hk
    have hrowT:rb (Ah s.cQ) k=[.fM (.str x.name),.own 3 (Aa x.args),.fM (.val (.int .i64 x.sort))]:=by rw[aau hk,hx];rfl
    have hrs:∀r,rb ((Ah s.cQ).set k r) k=r:=fun r=>ac9 hkT
    have hxa:x.args.length≤1000:=by rw[←hx];exact ha9 _ (aj hk)
    refine agU (abS 4 k _ rfl hkT hrowT) ?_
    refine sA ?_
    refine oC [] [0] (jR b (p+2) 5 hb oM oM) ?_
    refine ot c0 k1 (an q3 hrs) ?_
    refine sQ ?_
    refine oC [] [0] (qu b (p+3) [0,2,-1,1] hb oM oM (by simp) (by simp)) ?_
    refine iI q4 hrs ?_
    refine sQ ?_
    refine⟨_,DZ.RD (yq 4 k _ rfl (by rw[List.length_set];exact hkT) (hrs _)),?_⟩
    refine sA ?_
    refine bX fe ?_ rfl rfl
    refine sA ?_
    rw[e0,←ee]
    have ld:=aaU s.cQ k ⟨x.name,x.args++[jL b (p+3) [0,2,-1,1]],x.sort⟩
    rw[Hp,←acz] at ld
    exact⟨⟨⟨_,(congrArg dP ld).trans (Bh _),rfl⟩,rfl⟩,rfl⟩
   refine agU (W7 4 rfl (Bh _)) ?_
   refine sA ?_
   refine oC [] [0] (jR b (p+2) 5 hb oM oM) ?_
   refine bH q3 ?_
   rcases aa (cF b (p+2) 5=0) with c0|c0
   ·have k0:=eq_true c0
    rw[if_pos c0] at ee
    refine bH k0 ?_
    refine lx [] [0] (aeV b (p+3) [[],[65],[97,98,99],[122,122],[97]] hb oM oM (by simp) (by simp)) ?_ ?_<;>simp -implicitDefEqProofs only[go_sem,hk,q4]
    refine iK ?_
    refine fI ?_
    refine bX fe ?_ rfl rfl
    refine sA ?_
    rw[e0,←ee]
    exact⟨⟨(H2 hk ⟨Xm b (p+3) [[],[65],[97,98,99],[122,122],[97]],x.args,x.sort⟩ _ (by rw[hx];rfl)).symm,rfl⟩,rfl⟩
   rw[if_neg c0,if_neg c1] at ee
   rcases aa (cF b (p+2) 5=2) with c2|c2
   ·have k2:=eq_true c2
    rw[if_pos c2] at ee
    refine ot c0 c1 k2 ?_
    refine lx [] [0] (qu b (p+3) [1,2,-1,0] hb oM oM (by simp) (by simp)) ?_ ?_<;>simp -implicitDefEqProofs only[go_sem,hk,q4]
    refine iK ?_
    refine fI ?_
    refine bX fe ?_ rfl rfl
    refine sA ?_
    rw[e0,←ee]
    exact⟨⟨(H2 hk ⟨x.name,x.args,jL b (p+3) [1,2,-1,0]⟩ _ (by rw[hx];rfl)).symm,rfl⟩,rfl⟩
   rw[if_neg c2] at ee
   rcases aa (cF b (p+2) 5=3) with c3|c3
   ·have k3:=eq_true c3
    rw[if_pos c3] at ee
    refine gL c0 c1 (an c2 (an k3 (an hk rA))) ?_
    refine fI ?_
    refine bX fe ?_ rfl rfl
    refine sA ?_
    rw[e0,←ee]
    exact⟨⟨by rw[←wB];rfl,rfl⟩,rfl⟩
   rw[if_neg c3] at ee
   refine ot c0 c1 (an c2 c3) ?_
   refine jI hm (fun(l:List Sym) (q:Int)=> p+3≤q∧q≤p+3+l.length∧l.length≤100∧zP b (8-s.cQ.length) s.cQ (p+3)=zP b (8-l.length) l q) (fun l q=> ⟨dN 116 .any [(0,.bA 0 0),(4,.bA 2 0),(5,.bA 3 0)],[some (rz b q),some (.box (dm (eP s))),some (.box [.bW]),some (.box [.aX 4]),some (.aX 155 (fq l))]⟩) (fun l q=> 8-l.length) (s.cQ) (p+3) ?_ (cM im5) ?_
   ·exact⟨oM,oM,qF,rfl⟩
   ·rintro l q ⟨b1,b2,b3,hg⟩
    rcases aa (l.length≤7) with h6|h6
    ·have h6':(l.length:Int)≤7:=oM
     have e8:8-l.length=(8-(l.length+1))+1:=oM
     rw[e8,zP] at hg
     have hof:=aex hb (p:=q) (l:=[[97],[98],[122]]) oM (by simp)
     have hol:(Xm b q [[97],[98],[122]]).length=1:=by simp only[az,bf,or_false] at hof;rcases hof with e|e|e<;>rw[e]<;>rfl
     have hla:(l++[(⟨122::Xm b q [[97],[98],[122]],[],0⟩:Sym)]).length=l.length+1:=by simp
     refine bH h6' ?_
     refine Mw [] [0] (aeV b q [[97],[98],[122]] hb oM oM (by simp) (by simp)) ?_
     exact⟨l++[(⟨122::Xm b q [[97],[98],[122]],[],0⟩:Sym)],q+1,⟨oM,by simp;omega,by simp;omega,by simpa using hg⟩,sL,aZ [some 0,some 1,some 2,some 3,some 5] sC (by refine sA ?_;(rw[←wB];rfl)) rfl rfl⟩
    ·have h6':¬ (l.length:Int)≤7:=oM
     have e8:8-l.length=0:=oM
     rw[e8,zP] at hg
     rw[hg] at ee
     refine bH h6' ?_
     refine fI ?_
     refine bX fe ?_ rfl rfl
     refine sA ?_
     rw[e0,←ee]
     exact⟨⟨rfl,rfl⟩,rfl⟩
theorem aaI(A:List ax)(t:ax):dP (lift (aU A)++[[T.fM (D.str t.name),T.own 32 (yi t.ar)]])=some (aU (A++[t])):=by
 have h1:dP [[T.fM (D.str t.name),T.own 32 (yi t.ar)]]=some [cT t]:=by simp[dP,iz,T.Kj,yt,cT]
 rw[Pk (o9 _) h1,←ng,eZ,il]
theorem Yf(A:List ax)(t:ax):dP (lift (aU A)++[[T.fM (D.str t.name),T.own 32 (yi t.ar)],[T.fM (D.str t.name),T.own 32 (yi t.ar)]])=some (aU (A++[t,t])):=by
 have h1:dP [[T.fM (D.str t.name),T.own 32 (yi t.ar)],[T.fM (D.str t.name),T.own 32 (yi t.ar)]]=some [cT t,cT t]:=by simp[dP,iz,T.Kj,yt,cT]
 rw[Pk (o9 _) h1,←ng,eZ,eZ,il]
theorem GD(t:ax)(ih:∀k∈t.ar,C E.P 133 [av (cT k)] [] (jF (.agg [sv k.name,.aX 0]) [some (.gD 32 (yi k.ar))])):C E.P 133 [av (cT t)] [] (jF (.agg [sv t.name,.aX 0]) [some (.gD 32 (yi t.ar))]):=by
 refine gS 27 [.cell 2 32] hm Tryz.func133 fun hl he cf=>?_;refine jr hm t.ar.length (fun i=>⟨dN 27 .any [(1,.bA 0 0),(2,.bA 1 0),(3,.bA 2 0),(4,iv i)],[some (.box (dm (cT t))),some (.box (dm (cT aQ))),some (.box [.d (.str t.name),.aX 3]),some (.gD 32 (yi (t.ar.take i)))]⟩) (cM [some 0,some 1,some 2,none]) ?_;rintro i hi;have hp:(yi (t.ar.take i)).length=i:=by rw[Xp,bl];omega
 rcases aa (i<t.ar.length) with h1|h1
 ·refine uA ?_;have hc:=ih t.ar[i] (aj h1);refine oC [] [4] hc ?_;refine bt ?_;refine⟨i+1,?_,?_,E7 6 i _ rfl (by rw[aP,hp];simp) (A0 hp) ?_⟩;rotate_left;show _ < _;omega
  ·refine sA ?_;refine aZ [some 0,some 1,some 2,some 6] ?_ ?_ rfl rfl;exact sC;refine sA ?_;all_goals(rw[AJ hp];exact⟨Sr h1,(congrArg (fun z=>(dP z).isSome) (Sr h1)).trans (af3 _)⟩)
  exact h1
 have et:t.ar.take i=t.ar:=aq oM;refine iI h1 et ?_;refine bX [some 3] ?_ rfl rfl;exact sC
theorem tE:∀t,C E.P 133 [av (cT t)] [] (jF (.agg [sv t.name,.aX 0]) [some (.gD 32 (yi t.ar))]):=
 ax.ind fun n ks ih=>GD (.mk n ks) ih
theorem Ns(b:List Int)(hb:uq b)(s:eM)(hs:gI s)(p:Int)(h1:0≤p)(h2:p≤900000000):C E.P 266 [.bA 0 0,av (eP s)] [some (rz b p)] (jF (av (cT (E3 b s p).1)) [some (rz b (E3 b s p).2)]):=by
 obtain⟨d,ed,Kp,hd4⟩:∃d:Nat,jL b (p+1) [2,3,1,4]=d∧1≤d∧d≤4:=by have hm:=ri hb (p:=p+1) (l:=[2,3,1,4]) oM (by simp);simp only[az,bf,or_false] at hm;exact⟨(jL b (p+1) [2,3,1,4]).toNat,oM,oM,oM⟩
 have hpw:(2:Int) ^ d≤16:=by have:=Nat.pow_le_pow_right (n:=2) oM hd4;have e:(2:Int) ^ d=((2 ^ d:Nat):Int):=(by simp);omega
 have ha:=Gs (b:=b) hs d (cF b p 2) (p+2);obtain⟨y,e0⟩:∃y,E3 b s p=y:=⟨_,rfl⟩;have ee:=e0;unfold E3 at ee;simp only[ed,bc] at ee;obtain⟨r,hr⟩:∃r,jE b s d (cF b p 2) (p+2)=r:=⟨_,rfl⟩;have hO:=we b hb s hs d (cF b p 2) (p+2) Kp oM oM;have hk2:=Yd b hs d (cF b p 2) (p+2);rw[hr] at ee ha hO hk2;rw[e0,←ee];have hp:(lift (aU r.1.ar)).length=r.1.ar.length:=by simp[lift,uZ]
 have q2:p+1+1=p+2:=oM;have cf:=qq;refine Ic (nt:=49) (rs:=[.cell 4 32]) Tryz.func266 rfl rfl rfl rfl rfl (fun hl he=>?_);simp -implicitDefEqProofs only[go_sem] at hl⊢;refine jm hm ?_;refine oC [] [0] (jR b p 2 hb h1 oM) ?_;refine oC [] [0] (qu b (p+1) [2,3,1,4] hb oM oM (by simp) (by simp)) ?_;rw[ed,q2];refine Mw [] [0,3] hO ?_;refine oC [] [0] (jR b r.2 48 hb oM oM) ?_;rcases aa (cF b r.2 48=0) with c0|c0;have k0:=eq_true c0;rw[if_pos c0];refine bH k0 ?_;have qr:r.2+1+1=r.2+2:=oM;refine oC [] [0] (aeV b (r.2+1) [[],[65],[97,98,99],[102]] hb oM oM (by simp) (by simp)) ?_;refine bH qr ?_;refine fI ?_;refine bX fe ?_ rfl rfl;refine sA ?_;rfl;rw[if_neg c0];rcases aa (cF b r.2 48=1) with c1|c1
 ·have k1:=eq_true c1;rw[if_pos c1];refine iI c0 k1 ?_;refine Pm [] [3] [5] (tE r.1) rfl ?_ ?_ ?_;exact sV;all_goals simp -implicitDefEqProofs only[go_sem]
  refine sQ ?_;refine KZ (yq 8 r.1.ar.length _ rfl (by rw[aP,hp];simp) (A0 hp)) ?_;refine sA ?_;rw[AJ hp];refine fI ?_;refine bX fe ?_ rfl rfl;refine sA ?_;exact⟨⟨_,aaI _ _,rfl⟩,rfl⟩
 rw[if_neg c1];rcases aa (cF b r.2 48=2) with c2|c2
 ·have k2:=eq_true c2;rw[if_pos c2];refine ot c0 c1 k2 ?_;refine Pm [] [3] [5] (tE r.1) rfl ?_ ?_ ?_;exact sV;all_goals simp -implicitDefEqProofs only[go_sem]
  refine Pm [] [3] [7] (tE r.1) rfl ?_ ?_ ?_;exact sV;all_goals simp -implicitDefEqProofs only[go_sem]
  refine sQ ?_;refine KZ (yq 10 r.1.ar.length _ rfl (by rw[aP,hp];simp) (Zz hp)) ?_;refine sA ?_;rw[acH hp];refine KZ (yq 10 (r.1.ar.length+1) _ rfl (by rw[aP,hp];simp) (aaZ hp)) ?_;refine sA ?_;rw[Zv hp];refine fI ?_;refine bX fe ?_ rfl rfl;refine sA ?_;exact⟨⟨_,Yf _ _,rfl⟩,rfl⟩
 rw[if_neg c2];refine ot c0 c1 c2 ?_;refine fI ?_;refine bX fe ?_ rfl rfl;refine sA ?_;rfl
end Go.Proofs.YtphcpjhkeipggaaGreat
