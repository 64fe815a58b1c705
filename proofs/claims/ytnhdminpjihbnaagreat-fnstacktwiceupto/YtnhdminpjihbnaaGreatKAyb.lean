/-
  The reference: the walks of what is drawn: forms. A step towards the laws.
-/
import Derived.Test.YtnhdminpjihbnaaGreatKAya
import Derived.Test.YtnhdminpjihbnaaGreatKAf
import Derived.Test.YtnhdminpjihbnaaGreatKAq
set_option linter.unusedVariables false
set_option linter.unusedSimpArgs false
open Int renaming reduceEq→Z1,reduceLT→Z2,reduceLE→Z3,reduceToNat→Z4
open And renaming intro→aq
open Classical renaming em→aa
open Int renaming toNat_natCast→aS
open List renaming getElem?_eq_getElem→ae,getElem_mem→ah,take_of_length_le→ak,mem_cons→ax,length_append→ay,getD_eq_getElem?_getD→aE,replicate→aL,length_take→a6,not_mem_nil→bB,length_replicate→oy
namespace Go.Proofs.YtnhdminpjihbnaaGreat
open Go.Eng Go.Mod
set_option maxRecDepth 100000
set_option maxHeartbeats 800000
theorem NM(b:List Int)(hb:rT b)(atoms:List bz)(ha:1≤atoms.length)(ha9:atoms.length≤100)(d:Nat)(p:Int)(h1:0≤p)(h2:p+4*2 ^ (d+1)≤1000000000)
 (ih:1≤d→∀(q:Int),0≤q→q+4*2 ^ d≤1000000000→C E.P 10 [.bK 0 0,lv (bC atoms),iv d] [some (tn b q)] (gR (av (eE (jR b atoms d q).1)) [some (tn b (jR b atoms d q).2)])) :
 C E.P 10 [.bK 0 0,lv (bC atoms),iv ((d:Int)+1)] [some (tn b p)] (gR (av (eE (jR b atoms (d+1) p).1)) [some (tn b (jR b atoms (d+1) p).2)]):=by
 obtain⟨hp,hp2⟩:=two_pow_pos d
 have hdl:(d:Int)<2 ^ d:=by have:=Nat.lt_two_pow_self (n:=d);have e:(2:Int) ^ d=((2 ^ d:Nat):Int):=(by simp);omega
 have q2:p+1+1=p+2:=oM
 have q3:p+2+1=p+3:=oM
 have getAt:∀(k:Nat)(hk:k<atoms.length),atoms.getD k tz=atoms[k]:=fun k hk=>by rw[aE,ae hk];rfl
 rcases aa (d=0) with hd|hd
 ·subst hd
  obtain⟨k,ek,hk⟩:=u7 hb (p:=p) (n:=atoms.length) h1 ha
  have ea:jR b atoms (0+1) p=(.mk 1 ⟨atoms[k],decide (cP b (p+1) 3=0)⟩ [],p+2):=by rw[←getAt k hk,jR,if_pos rfl,ek,aS]
  rw[ea]
  have z1:((0:Int)+1)≤1:=oM
  refine gS 50 [.cell 6 39] hm Tryz.func10 fun hl he cV=>?_
  refine bS z1 ?_
  refine oC [] [0] (ia b p atoms.length hb h1 oM) ?_
  refine bS ek ?_
  simp -implicitDefEqProofs only[go_sem,hk]
  refine oC [] [0] (ia b (p+1) 3 hb oM oM) ?_
  refine bI ?_
  refine bM gE ?_ rfl rfl
  refine sA ?_
  exact⟨⟨rfl,rfl,rfl,rfl,rfl,rfl,rfl,rfl,rfl,rfl,rfl,rfl⟩,by rw[q2]⟩
 have z1:¬ (d:Int)+1≤1:=oM
 rcases aa (cP b p 4=0) with c0|c0
 ·have k0:=eq_true c0
  obtain⟨k,ek,hk⟩:=u7 hb (p:=p+1) (n:=atoms.length) oM ha
  have ea:jR b atoms (d+1) p=(.mk 1 ⟨atoms[k],decide (cP b (p+2) 3=0)⟩ [],p+3):=by rw[←getAt k hk,jR,if_neg hd,if_pos c0,ek,aS]
  rw[ea]
  refine gS 50 [.cell 6 39] hm Tryz.func10 fun hl he cV=>?_
  refine bS z1 ?_
  refine oC [] [0] (ia b p 4 hb h1 oM) ?_
  refine bS k0 ?_
  refine oC [] [0] (ia b (p+1) atoms.length hb oM oM) ?_
  refine lf ek q2 ?_
  simp -implicitDefEqProofs only[go_sem,hk]
  refine oC [] [0] (ia b (p+2) 3 hb oM oM) ?_
  refine bI ?_
  refine bM gE ?_ rfl rfl
  refine sA ?_
  exact⟨⟨rfl,rfl,rfl,rfl,rfl,rfl,rfl,rfl,rfl,rfl,rfl,rfl⟩,by rw[q3]⟩
 ·obtain⟨k,ek⟩:∃k,iI b (p+1) [3,4,4,5,3,6,2]=k:=⟨_,rfl⟩
  have hk:=GA hb (p:=p+1) oM
  rw[ek] at hk
  obtain⟨n,en⟩:∃n:Nat,fG k=n:=⟨(fG k).toNat,oM⟩
  rw[en] at hk
  have ea:jR b atoms (d+1) p=(.mk k Hc (jl (fun(_:Unit) q=>jR b atoms d q) (aL n ()) (p+2)).1,(jl (fun(_:Unit) q=>jR b atoms d q) (aL n ()) (p+2)).2):=by rw[jR,if_neg hd,if_neg c0];simp only[ek,en,aS]
  rw[ea]
  refine gS 50 [.cell 6 39] hm Tryz.func10 fun hl he cV=>?_
  refine bS z1 ?_
  refine oC [] [0] (ia b p 4 hb h1 oM) ?_
  refine bS c0 ?_
  refine oC [] [0] (qN b (p+1) [3,4,4,5,3,6,2] hb oM oM (by simp) (by simp)) ?_
  refine lf ek q2 ?_
  refine jf hm n (fun i=>⟨fk 50 .any [(0,.bK 0 0),(1,lv (bC atoms)),(2,iv ((d:Int)+1)),(6,.bK 1 0),(7,.bK 2 0),(8,iv i)],[some (tn b (jl (fun(_:Unit) q=>jR b atoms d q) ((aL n ()).take i) (p+2)).2),some (.box [iv 0,iv 0,sv [],.bE,sv [],.bE,.bE,.bE,iv 0,bv false,bv false,.bE]),some (.box [iv k,iv 0,sv [],.bE,sv [],.bE,.bE,.bE,iv 0,bv false,bv false,.aW 3]),some (.aW 39 (bc (jl (fun(_:Unit) q=>jR b atoms d q) ((aL n ()).take i) (p+2)).1))]⟩) (c9 [some 0,some 1,some 2,none]) ?_
  ·rintro i hi
   have hln:=Be (fun(_:Unit) q=>jR b atoms d q) ((aL n ()).take i) (p+2)
   rw[a6,oy] at hln
   refine aC [] (C7 k) ?_
   refine bS en ?_
   rcases aa (i<n) with h5|h5
   ·have hq:p+2≤(jl (fun(_:Unit) q=>jR b atoms d q) ((aL n ()).take i) (p+2)).2∧(jl (fun(_:Unit) q=>jR b atoms d q) ((aL n ()).take i) (p+2)).2≤p+2+i*(4*(2 ^ d-1)):=by
     have key:∀(m:Nat)(q:Int),0≤q→q≤(jl (fun(_:Unit) q=>jR b atoms d q) (aL m ()) q).2∧(jl (fun(_:Unit) q=>jR b atoms d q) (aL m ()) q).2≤q+m*(4*(2 ^ d-1)):=by
      intro m;induction m with
      | zero=>intro q _;simp[jl]
      | succ m ihm=>intro q hq;have g1:=DE hb (atoms:=atoms) d q hq;have g2:=ihm (jR b atoms d q).2 oM;have e:((m+1:Nat):Int)*(4*(2 ^ d-1))=m*(4*(2 ^ d-1))+4*(2 ^ d-1):=(by rw[Int.natCast_add,Int.add_mul];simp);simp only[List.replicate_succ,jl];omega
     have e:(aL n ()).take i=aL i ():=by rw[List.take_replicate];congr 1;omega
     rw[e]
     exact key i (p+2) oM
    have hmul:(i:Int)*(4*(2 ^ d-1))≤1*(4*(2 ^ d-1)):=Int.mul_le_mul_of_nonneg_right oM oM
    have gY:=PJ (fun(_:Unit) q=>jR b atoms d q) (show i<(aL n ()).length by rw[oy];exact h5) (p+2)
    have hc:=ih oM (jl (fun(_:Unit) q=>jR b atoms d q) ((aL n ()).take i) (p+2)).2 oM oM
    have vi:((d:Int)+1-1)=(d:Int):=oM
    have hrows:bc (jl (fun(_:Unit) q=>jR b atoms d q) ((aL n ()).take i) (p+2)).1++[eE (jR b atoms d (jl (fun(_:Unit) q=>jR b atoms d q) ((aL n ()).take i) (p+2)).2).1]=bc (jl (fun(_:Unit) q=>jR b atoms d q) ((aL n ()).take (i+1)) (p+2)).1:=by rw[gY];exact(congrArg (bc (jl (fun(_:Unit) q=>jR b atoms d q) ((aL n ()).take i) (p+2)).1 ++ ·) (lC _ _).symm).trans (lq _ [_])
    have hq2:(jR b atoms d (jl (fun(_:Unit) q=>jR b atoms d q) ((aL n ()).take i) (p+2)).2).2=(jl (fun(_:Unit) q=>jR b atoms d q) ((aL n ()).take (i+1)) (p+2)).2:=by rw[gY]
    refine pV h5 vi ?_
    refine xN [] [0] hc ?_
    refine⟨i+1,?_,sL,bW [some 0,some 1,some 2,some 4] sC (by refine sA ?_;exact⟨by rw[hq2],hrows⟩) rfl rfl⟩
    omega
   ·have et:(aL n ()).take i=aL n ():=ak (by rw[oy];omega)
    rw[et]
    refine bS h5 ?_
    refine bM gE ?_ rfl rfl
    refine sA ?_
    repeat' apply aq
    all_goals rfl
theorem uv(b:List Int)(hb:rT b)(atoms:List bz)(ha:1≤atoms.length)(ha9:atoms.length≤100):∀(d:Nat)(p:Int),1≤d→0≤p→p+4*2 ^ d≤1000000000 →
 C E.P 10 [.bK 0 0,lv (bC atoms),iv d] [some (tn b p)] (gR (av (eE (jR b atoms d p).1)) [some (tn b (jR b atoms d p).2)])
 | 0,_,hd,_,_=>by omega
 | d+1,p,_,h1,h2=>NM b hb atoms ha ha9 d p h1 h2 fun hd q g1 g2=>uv b hb atoms ha ha9 d q hd g1 g2
theorem Jz(l:List bz)(hl1:l.length≤900000):C E.P 49 [.aW 0] [some (.aW 34 (bC l))] (gR (.aW 1) [some (.aW 34 (bC l)),some (.aW 36 (cO (plain l)))]):=by
 refine gS 21 [.tmp 2] hm Tryz.func49 fun hl he cV=>?_;refine jf hm l.length (fun i=>⟨fk 21 .any [(0,.aW 0),(3,.aW 1),(4,iv i)],[some (.aW 34 (bC l)),some (.aW 36 (cO (plain (l.take i))))]⟩) (c9 qR) ?_;rintro i hi;have hv:=HD (l.take i);have pJ:(l.take i).length=i:=by rw[a6];omega
 rcases aa (i<l.length) with h1|h1;refine uA ?_;refine sQ ?_;exact⟨i+1,h1,sL,bW [some 0,some 2] sC (by refine sA ?_;(rw[D5 h1,←qK];rfl)) rfl rfl⟩;have et:l.take i=l:=ak oM;refine lf h1 et ?_;refine bM qR ?_ rfl rfl;exact sC
theorem Du(b:List Int)(hb:rT b)(s:eV)(hs:fe s)(p:Int)(h1:0≤p)(h2:p≤800000000):C E.P 23 [.bK 0 0,av (gi s)] [some (tn b p)] (gR (lv (bC (mg b s p).1)) [some (tn b (mg b s p).2)]):=by
 have hmem:=oQ hb (p:=p) (l:=[2,3,4,5,1]) h1 (by simp);simp only[ax,bB,or_false] at hmem;obtain⟨N,eN⟩:∃N:Nat,iI b p [2,3,4,5,1]=N:=⟨(iI b p [2,3,4,5,1]).toNat,oM⟩;have hN:N≤5:=oM;obtain⟨y,e0⟩:∃y,mg b s p=y:=⟨_,rfl⟩;have ea:=e0;unfold mg at ea;simp only[eN,aS] at ea;rw[e0,←ea];refine gS 41 [.tmp 4] hm Tryz.func23 fun hl he cV=>?_;refine oC [] [0] (qN b p [2,3,4,5,1] hb h1 oM (by simp) (by simp)) ?_;refine bS eN ?_;refine tG hm (fun(j:Nat) (q:Int) (out:List bz)=> j≤N∧0≤q∧q≤p+1+(N-j)*60∧out.length≤N-j∧iY (ld b s) N [] (p+1)=iY (ld b s) j out q) (fun j q out=> ⟨fk 41 .any [(0,.bK 0 0),(3,.bK 1 0),(5,.aW 2),(6,iv j)],[some (tn b q),some (.box (fy (gi s))),some (.aW 34 (bC out))]⟩) (fun j q out=> j) (N) (p+1) ([]) ?_ (c9 sa) ?_;exact⟨Nat.le_refl _,oM,oM,by simp,rfl⟩;rintro j q out ⟨hj,hq1,hq2,hol,hg⟩;rcases aa ((0:Int)<(j:Int)) with h3|h3;obtain⟨j,rfl⟩:∃j',j=j'+1:=⟨j-1,oM⟩;have hA:=Lu hb hs (p:=q) hq1;rw[iY] at hg;have est:ld b s out q=(if gO s (plain (out++[(ow b s q).1])) then addAtom out (ow b s q).1 else out,(ow b s q).2):=rfl;rw[est] at hg;simp only at hg;have c1:=Rk b hb s hs q hq1 oM;obtain⟨x,hx⟩:∃x,ow b s q=x:=⟨_,rfl⟩;rw[hx] at hg c1 hA;have hjs:((j:Int)+1-1)=(j:Int):=oM;have h3:(0:Int)<(j:Int)+1:=oM;have hlits:=Jz (out++[x.1]) (by simp;omega);rw[←uW,xM,vh] at hlits;refine bS h3 ?_;refine xN [] [0] c1 ?_;refine oC [] [6,7] hlits ?_;refine CM [] [7] (Dt s (plain (out++[x.1]))) ?_;refine iK ?_;cases h4:gO s (plain (out++[x.1]));rw[h4] at hg;refine dB hjs ?_;exact⟨j,x.2,out,⟨oM,oM,oM,oM,hg⟩,sL,c9 sa⟩;rw[h4] at hg;have hal:(addAtom out x.1).length≤out.length+1:=by unfold addAtom;split<;>simp
 refine sA ?_;refine xN [] [2,8] (EX out x.1 oM) ?_;exact⟨j,x.2,addAtom out x.1,⟨oM,oM,oM,oM,hg⟩,sL,c9 [some 0,some 1,some 8]⟩;obtain rfl:j=0:=oM;rw[iY] at hg;rw[hg];rcases aa (out.length=0) with h4|h4;have k4:((out.length:Int)=0)=True:=eq_true oM;simp only[if_pos h4];simp -implicitDefEqProofs only[go_sem,Z2,k4];refine sQ ?_;refine bM gE ?_ rfl rfl;refine sA ?_;exact⟨by rw[←uW];rfl,rfl⟩;have h4':¬ (out.length:Int)=0:=oM;simp only[if_neg h4];simp -implicitDefEqProofs only[go_sem,Z2,h4'];refine bM gE ?_ rfl rfl;refine sA ?_;rfl
theorem NG(b:List Int)(hb:rT b)(p:Int)(h1:0≤p)(h2:p≤700000000):C E.P 28 [.bK 0 0] [some (tn b p)] (gR (.ko [av (gi (lO b p).1),av (eE (lO b p).2.1)]) [some (tn b (lO b p).2.2)]):=by have hs:fe (nE b p).1:=nQ _;have hsp:(nE b p).2=p+1:=rfl;have hT:=Cg hb hs (p:=p+1) oM;have cT:=Du b hb (nE b p).1 hs (p+1) oM oM;obtain⟨y,e0⟩:∃y,lO b p=y:=⟨_,rfl⟩;have ea:=e0;unfold lO at ea;simp only at ea;obtain⟨a,hta⟩:∃a,mg b (nE b p).1 (p+1)=a:=⟨_,rfl⟩;rw[hta] at ea hT cT;obtain⟨d,ed,d1,d2,d3⟩:=Ym hb (p:=a.2) oM (l:=[3,4,2,3,1]) (by simp) (by decide);simp only[ed,aS] at ea;have cA:=uv b hb a.1 oM oM d (a.2+1) d1 oM oM;rw[e0,←ea];refine gS 16 [.cell 2 25,.cell 3 39] hm Tryz.func28 fun hl he cV=>?_;refine oC [] [0] (FC b p hb h1 oM) ?_;refine bS hsp ?_;refine oC [] [0] cT ?_;refine oC [] [0] (qN b a.2 [3,4,2,3,1] hb oM oM (by simp) (by simp)) ?_;refine bS ed ?_;refine xN [] [0] cA ?_;refine bM gE ?_ rfl rfl;exact sC
theorem Iz{l:List Sym}{k:Nat}(h:k<l.length)(x:Sym)(r:List D)(hr:r=Bt x):(ij l).set k r=ij (l.set k x):=by rw[hr,ij,ij,List.map_set]
theorem sP(b:List Int)(hb:rT b)(s:eV)(rP:s.cq.length≤100)(ha9:∀x∈s.cq,x.args.length≤1000)(p:Int)(h1:0≤p)(h2:p≤900000000) :
 C E.P 30 [.bK 0 0,av (gi s)] [some (tn b p)] (gR (av (gi (jV b s p).1)) [some (tn b (jV b s p).2)]):=by
 have q2:p+1+1=p+2:=oM
 have q3:p+2+1=p+3:=oM
 have q4:p+3+1=p+4:=oM
 have cV:=oc
 refine rF (nt:=116) (rs:=[.cell 4 25]) Tryz.func30 rfl rfl rfl rfl rfl (fun hl he=>?_)
 simp -implicitDefEqProofs only[go_sem] at hl⊢
 refine fh hm ?_
 refine sA ?_
 refine jf hm s.cq.length (fun i=>⟨fk 116 .any [(0,.bK 0 0),(3,.bK 1 0),(4,.bK 2 0),(5,.bK 3 0),(6,iv i)],[some (tn b p),some (.box (fy (gi s))),some (.box [.bE]),some (.box [.aW 4]),some (.e9 116 (rM (s.cq.take i)))]⟩) (c9 [some 0,some 1,some 2,some 4,some 3]) ?_
 ·rintro i hi
  have hp:(rM (s.cq.take i)).length=i:=by rw[AM,a6];omega
  rcases aa (i<s.cq.length) with h3|h3
  ·have ha:=ha9 s.cq[i] (ah h3)
   have l6:=ny s.cq[i].args
   refine uC ?_
   refine sQ ?_
   refine⟨i+1,?_,?_,pQ 9 i _ rfl (by rw[ay,hp];simp) (ll hp) ?_⟩
   rotate_left
   ·show _ < _
    omega
   ·refine sA ?_
    refine bW [some 0,some 1,some 2,some 3,some 9] ?_ ?_ rfl rfl
    ·exact sC
    ·refine sA ?_
     all_goals(rw[je hp];exact⟨oo h3,(congrArg (fun z=>(bA z).isSome) (oo h3)).trans (EL _)⟩)
   exact h3
  ·have et:s.cq.take i=s.cq:=ak oM
   rw[et]
   rcases aa (s.cq.length=0) with h4|h4
   ·have e:jV b s p=(s,p):=by rw[jV,if_pos h4]
    have k4:((s.cq.length:Int)=0)=True:=eq_true oM
    refine lf h3 k4 ?_
    refine dw ?_
    refine bM gE ?_ rfl rfl
    refine sA ?_
    rw[e]
    exact⟨⟨⟨_,rfl,rfl⟩,rfl⟩,rfl⟩
   have k4:¬ (s.cq.length:Int)=0:=oM
   refine lf h3 k4 ?_
   refine oC [] [0] (ia b p 8 hb h1 oM) ?_
   rcases aa (0<cP b p 8) with h5|h5
   ·have e:jV b s p=(s,p+1):=by rw[jV,if_neg h4,if_pos h5]
    refine bS h5 ?_
    refine dw ?_
    refine bM gE ?_ rfl rfl
    refine sA ?_
    rw[e]
    exact⟨⟨⟨_,rfl,rfl⟩,rfl⟩,rfl⟩
   refine bS h5 ?_
   obtain⟨k,ek,hk⟩:=u7 hb (p:=p+1) (n:=s.cq.length) oM oM
   obtain⟨x,hx⟩:∃x,s.cq[k]=x:=⟨_,rfl⟩
   have ex:s.cq.getD k ⟨[],[],0⟩=x:=by rw[←hx,aE,ae hk];rfl
   have qf:row (ij s.cq) k=Bt x:=by rw[IV hk,hx]
   obtain⟨y,e0⟩:∃y,jV b s p=y:=⟨_,rfl⟩
   have ee:=e0
   unfold jV at ee
   simp only[if_neg h4,if_neg h5,ek,aS,ex] at ee
   refine oC [] [0] (ia b (p+1) s.cq.length hb oM oM) ?_
   refine lf ek q2 ?_
   rcases aa (cP b (p+2) 5=1) with c1|c1
   ·have c0:¬cP b (p+2) 5=0:=oM
    have k1:=eq_true c1
    rw[if_neg c0,if_pos c1] at ee
    have hkT:k<(rM s.cq).length:=by rw[AM];exact hk
    have hrowT:oJ (rM s.cq) k=[.eK (.str x.name),.own 3 (rE x.args),.eK (.val (.int .i64 x.sort))]:=by rw[adi hk,hx];rfl
    have hrs:∀r,oJ ((rM s.cq).set k r) k=r:=fun r=>Kc hkT
    have hxa:x.args.length≤1000:=by rw[←hx];exact ha9 _ (ah hk)
    refine ai9 (Gm 4 k _ rfl hkT hrowT) ?_
    refine sA ?_
    refine oC [] [0] (ia b (p+2) 5 hb oM oM) ?_
    refine xE c0 k1 (aq q3 hrs) ?_
    refine sQ ?_
    refine oC [] [0] (qN b (p+3) [0,2,-1,1] hb oM oM (by simp) (by simp)) ?_
    refine lf q4 hrs ?_
    refine sQ ?_
    refine⟨_,wQ.wF (nc 4 k _ rfl (by rw[List.length_set];exact hkT) (hrs _)),?_⟩
    refine sA ?_
    refine bM gE ?_ rfl rfl
    refine sA ?_
    rw[e0,←ee]
    have gY:=abA s.cq k ⟨x.name,x.args++[iI b (p+3) [0,2,-1,1]],x.sort⟩
    rw[EE,←adk] at gY
    exact⟨⟨⟨_,(congrArg bA gY).trans (qa _),rfl⟩,rfl⟩,rfl⟩
   refine ai9 (R8 4 rfl (qa _)) ?_
   refine sA ?_
   refine oC [] [0] (ia b (p+2) 5 hb oM oM) ?_
   refine bS q3 ?_
   rcases aa (cP b (p+2) 5=0) with c0|c0
   ·have k0:=eq_true c0
    rw[if_pos c0] at ee
    refine bS k0 ?_
    refine ff [] [0] (ahT b (p+3) [[],[65],[97,98,99],[122,122],[97]] hb oM oM (by simp) (by simp)) ?_ ?_<;>simp -implicitDefEqProofs only[go_sem,hk,q4]
    refine iK ?_
    refine dw ?_
    refine bM gE ?_ rfl rfl
    refine sA ?_
    rw[e0,←ee]
    exact⟨⟨(Iz hk ⟨YY b (p+3) [[],[65],[97,98,99],[122,122],[97]],x.args,x.sort⟩ _ (by rw[hx];rfl)).symm,rfl⟩,rfl⟩
   rw[if_neg c0,if_neg c1] at ee
   rcases aa (cP b (p+2) 5=2) with c2|c2
   ·have k2:=eq_true c2
    rw[if_pos c2] at ee
    refine xE c0 c1 k2 ?_
    refine ff [] [0] (qN b (p+3) [1,2,-1,0] hb oM oM (by simp) (by simp)) ?_ ?_<;>simp -implicitDefEqProofs only[go_sem,hk,q4]
    refine iK ?_
    refine dw ?_
    refine bM gE ?_ rfl rfl
    refine sA ?_
    rw[e0,←ee]
    exact⟨⟨(Iz hk ⟨x.name,x.args,iI b (p+3) [1,2,-1,0]⟩ _ (by rw[hx];rfl)).symm,rfl⟩,rfl⟩
   rw[if_neg c2] at ee
   rcases aa (cP b (p+2) 5=3) with c3|c3
   ·have k3:=eq_true c3
    rw[if_pos c3] at ee
    refine kY c0 c1 (aq c2 (aq k3 (aq hk qf))) ?_
    refine dw ?_
    refine bM gE ?_ rfl rfl
    refine sA ?_
    rw[e0,←ee]
    exact⟨⟨by rw[←xd];rfl,rfl⟩,rfl⟩
   rw[if_neg c3] at ee
   refine xE c0 c1 (aq c2 c3) ?_
   refine pY hm (fun(l:List Sym) (q:Int)=> p+3≤q∧q≤p+3+l.length∧l.length≤100∧zX b (8-s.cq.length) s.cq (p+3)=zX b (8-l.length) l q) (fun l q=> ⟨fk 116 .any [(0,.bK 0 0),(4,.bK 2 0),(5,.bK 3 0)],[some (tn b q),some (.box (fy (gi s))),some (.box [.bE]),some (.box [.aW 4]),some (.aW 116 (ij l))]⟩) (fun l q=> 8-l.length) (s.cq) (p+3) ?_ (c9 im5) ?_
   ·exact⟨oM,oM,rP,rfl⟩
   ·rintro l q ⟨b1,b2,b3,hg⟩
    rcases aa (l.length≤7) with h6|h6
    ·have h6':(l.length:Int)≤7:=oM
     have e8:8-l.length=(8-(l.length+1))+1:=oM
     rw[e8,zX] at hg
     have hof:=ae4 hb (p:=q) (l:=[[97],[98],[122]]) oM (by simp)
     have hol:(YY b q [[97],[98],[122]]).length=1:=by simp only[ax,bB,or_false] at hof;rcases hof with e|e|e<;>rw[e]<;>rfl
     have hla:(l++[(⟨122::YY b q [[97],[98],[122]],[],0⟩:Sym)]).length=l.length+1:=by simp
     refine bS h6' ?_
     refine xN [] [0] (ahT b q [[97],[98],[122]] hb oM oM (by simp) (by simp)) ?_
     exact⟨l++[(⟨122::YY b q [[97],[98],[122]],[],0⟩:Sym)],q+1,⟨oM,by simp;omega,by simp;omega,by simpa using hg⟩,sL,bW [some 0,some 1,some 2,some 3,some 5] sC (by refine sA ?_;(rw[←xd];rfl)) rfl rfl⟩
    ·have h6':¬ (l.length:Int)≤7:=oM
     have e8:8-l.length=0:=oM
     rw[e8,zX] at hg
     rw[hg] at ee
     refine bS h6' ?_
     refine dw ?_
     refine bM gE ?_ rfl rfl
     refine sA ?_
     rw[e0,←ee]
     exact⟨⟨rfl,rfl⟩,rfl⟩
theorem ab6(A:List az)(t:az):bA (lift (ba A)++[[T.eK (D.str t.name),T.own 31 (rS t.ar)]])=some (ba (A++[t])):=by
 have h1:bA [[T.eK (D.str t.name),T.own 31 (rS t.ar)]]=some [cT t]:=by simp[bA,dJ,T.Ah,wJ,cT]
 rw[zd (jy _) h1,←oq,iu,om]
theorem aad(A:List az)(t:az):bA (lift (ba A)++[[T.eK (D.str t.name),T.own 31 (rS t.ar)],[T.eK (D.str t.name),T.own 31 (rS t.ar)]])=some (ba (A++[t,t])):=by
 have h1:bA [[T.eK (D.str t.name),T.own 31 (rS t.ar)],[T.eK (D.str t.name),T.own 31 (rS t.ar)]]=some [cT t,cT t]:=by simp[bA,dJ,T.Ah,wJ,cT]
 rw[zd (jy _) h1,←oq,iu,iu,om]
theorem Hj(t:az)(ih:∀k∈t.ar,C E.P 62 [av (cT k)] [] (gR (.agg [sv k.name,.aW 0]) [some (.e9 31 (rS k.ar))])):C E.P 62 [av (cT t)] [] (gR (.agg [sv t.name,.aW 0]) [some (.e9 31 (rS t.ar))]):=by
 refine gS 27 [.cell 2 31] hm Tryz.func62 fun hl he cV=>?_;refine jf hm t.ar.length (fun i=>⟨fk 27 .any [(1,.bK 0 0),(2,.bK 1 0),(3,.bK 2 0),(4,iv i)],[some (.box (fy (cT t))),some (.box (fy (cT aX))),some (.box [.d (.str t.name),.aW 3]),some (.e9 31 (rS (t.ar.take i)))]⟩) (c9 [some 0,some 1,some 2,none]) ?_;rintro i hi;have hp:(rS (t.ar.take i)).length=i:=by rw[RE,a6];omega
 rcases aa (i<t.ar.length) with h1|h1
 ·refine uA ?_;have hc:=ih t.ar[i] (ah h1);refine oC [] [4] hc ?_;refine bI ?_;refine⟨i+1,?_,?_,pQ 6 i _ rfl (by rw[ay,hp];simp) (ll hp) ?_⟩;rotate_left;show _ < _;omega
  ·refine sA ?_;refine bW [some 0,some 1,some 2,some 6] ?_ ?_ rfl rfl;exact sC;refine sA ?_;all_goals(rw[je hp];exact⟨EK h1,(congrArg (fun z=>(bA z).isSome) (EK h1)).trans (acw _)⟩)
  exact h1
 have et:t.ar.take i=t.ar:=ak oM;refine lf h1 et ?_;refine bM [some 3] ?_ rfl rfl;exact sC
theorem ud:∀t,C E.P 62 [av (cT t)] [] (gR (.agg [sv t.name,.aW 0]) [some (.e9 31 (rS t.ar))]):=
 az.ind fun n ks ih=>Hj (.mk n ks) ih
theorem Ob(b:List Int)(hb:rT b)(s:eV)(hs:fe s)(p:Int)(h1:0≤p)(h2:p≤900000000):C E.P 52 [.bK 0 0,av (gi s)] [some (tn b p)] (gR (av (cT (Bn b s p).1)) [some (tn b (Bn b s p).2)]):=by
 obtain⟨d,ed,UJ,hd4⟩:∃d:Nat,iI b (p+1) [2,3,1,4]=d∧1≤d∧d≤4:=by have hm:=oQ hb (p:=p+1) (l:=[2,3,1,4]) oM (by simp);simp only[ax,bB,or_false] at hm;exact⟨(iI b (p+1) [2,3,1,4]).toNat,oM,oM,oM⟩
 have hpw:(2:Int) ^ d≤16:=by have:=Nat.pow_le_pow_right (n:=2) oM hd4;have e:(2:Int) ^ d=((2 ^ d:Nat):Int):=(by simp);omega
 have ha:=G5 (b:=b) hs d (cP b p 2) (p+2);obtain⟨y,e0⟩:∃y,Bn b s p=y:=⟨_,rfl⟩;have ee:=e0;unfold Bn at ee;simp only[ed,aS] at ee;obtain⟨r,hr⟩:∃r,jx b s d (cP b p 2) (p+2)=r:=⟨_,rfl⟩;have hO:=vV b hb s hs d (cP b p 2) (p+2) UJ oM oM;have hk2:=aab b hs d (cP b p 2) (p+2);rw[hr] at ee ha hO hk2;rw[e0,←ee];have hp:(lift (ba r.1.ar)).length=r.1.ar.length:=by simp[lift,vm]
 have q2:p+1+1=p+2:=oM;have cV:=oc;refine rF (nt:=49) (rs:=[.cell 4 31]) Tryz.func52 rfl rfl rfl rfl rfl (fun hl he=>?_);simp -implicitDefEqProofs only[go_sem] at hl⊢;refine fh hm ?_;refine oC [] [0] (ia b p 2 hb h1 oM) ?_;refine oC [] [0] (qN b (p+1) [2,3,1,4] hb oM oM (by simp) (by simp)) ?_;rw[ed,q2];refine xN [] [0,3] hO ?_;refine oC [] [0] (ia b r.2 48 hb oM oM) ?_;rcases aa (cP b r.2 48=0) with c0|c0;have k0:=eq_true c0;rw[if_pos c0];refine bS k0 ?_;have qr:r.2+1+1=r.2+2:=oM;refine oC [] [0] (ahT b (r.2+1) [[],[65],[97,98,99],[102]] hb oM oM (by simp) (by simp)) ?_;refine bS qr ?_;refine dw ?_;refine bM gE ?_ rfl rfl;refine sA ?_;rfl;rw[if_neg c0];rcases aa (cP b r.2 48=1) with c1|c1
 ·have k1:=eq_true c1;rw[if_pos c1];refine lf c0 k1 ?_;refine Co [] [3] [5] (ud r.1) rfl ?_ ?_ ?_;exact sV;all_goals simp -implicitDefEqProofs only[go_sem]
  refine sQ ?_;refine MH (nc 8 r.1.ar.length _ rfl (by rw[ay,hp];simp) (ll hp)) ?_;refine sA ?_;rw[je hp];refine dw ?_;refine bM gE ?_ rfl rfl;refine sA ?_;exact⟨⟨_,ab6 _ _,rfl⟩,rfl⟩
 rw[if_neg c1];rcases aa (cP b r.2 48=2) with c2|c2
 ·have k2:=eq_true c2;rw[if_pos c2];refine xE c0 c1 k2 ?_;refine Co [] [3] [5] (ud r.1) rfl ?_ ?_ ?_;exact sV;all_goals simp -implicitDefEqProofs only[go_sem]
  refine Co [] [3] [7] (ud r.1) rfl ?_ ?_ ?_;exact sV;all_goals simp -implicitDefEqProofs only[go_sem]
  refine sQ ?_;refine MH (nc 10 r.1.ar.length _ rfl (by rw[ay,hp];simp) (aes hp)) ?_;refine sA ?_;rw[ad0 hp];refine MH (nc 10 (r.1.ar.length+1) _ rfl (by rw[ay,hp];simp) (adV hp)) ?_;refine sA ?_;rw[abM hp];refine dw ?_;refine bM gE ?_ rfl rfl;refine sA ?_;exact⟨⟨_,aad _ _,rfl⟩,rfl⟩
 rw[if_neg c2];refine xE c0 c1 c2 ?_;refine dw ?_;refine bM gE ?_ rfl rfl;refine sA ?_;rfl
end Go.Proofs.YtnhdminpjihbnaaGreat
