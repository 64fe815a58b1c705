/-
  The reference: the walks of what is drawn: forms. A step towards the laws.
-/
import Derived.Test.YtgpjhjalfakpoaaGreatKAya
import Derived.Test.YtgpjhjalfakpoaaGreatKAf
import Derived.Test.YtgpjhjalfakpoaaGreatKAq
set_option linter.unusedVariables false
set_option linter.unusedSimpArgs false
open Classical renaming em→aa
open Int renaming toNat_natCast→aF
open List renaming getElem?_eq_getElem→ab,getElem_mem→ai,length_append→an,take_of_length_le→ao,replicate→ar,mem_cons→aw,getD_eq_getElem?_getD→az,length_take→aO,not_mem_nil→ct,length_replicate→gO
namespace Go.Proofs.YtgpjhjalfakpoaaGreat
open Go.Eng Go.Mod
open Int renaming reduceEq→Z1,reduceLT→Z2,reduceLE→Z3,reduceToNat→Z4
set_option maxRecDepth 100000
set_option maxHeartbeats 800000
theorem x8(b:List Int)(hb:oa b)(atoms:List Atom)(ha:1≤atoms.length)(ha9:atoms.length≤100)(d:Nat)(p:Int)(h1:0≤p)(h2:p+4*2 ^ (d+1)≤1000000000)
 (ih:1≤d→∀(q:Int),0≤q→q+4*2 ^ d≤1000000000→C E.P 64 [.ptr 0 0,lv (aK atoms),iv d] [some (lq b q)] (bB (av (df (fg b atoms d q).1)) [some (lq b (fg b atoms d q).2)])) :
 C E.P 64 [.ptr 0 0,lv (aK atoms),iv ((d:Int)+1)] [some (lq b p)] (bB (av (df (fg b atoms (d+1) p).1)) [some (lq b (fg b atoms (d+1) p).2)]):=by
 obtain⟨hp,hp2⟩:=two_pow_pos d
 have hdl:(d:Int)<2 ^ d:=by
  have:=Nat.lt_two_pow_self (n:=d)
  have e:(2:Int) ^ d=((2 ^ d:Nat):Int):=by simp
  omega
 have q2:p+1+1=p+2:=by omega
 have q3:p+2+1=p+3:=by omega
 have getAt:∀(k:Nat)(hk:k<atoms.length),atoms.getD k tP=atoms[k]:=fun k hk=>by rw[az,ab hk];rfl
 rcases aa (d=0) with hd|hd
 ·subst hd
  obtain⟨k,ek,hk⟩:=kV hb (p:=p) (n:=atoms.length) h1 ha
  have ea:fg b atoms (0+1) p=(.mk 1 ⟨atoms[k],decide (bF b (p+1) 3=0)⟩ [],p+2):=by
   rw[←getAt k hk,fg,if_pos rfl,ek,aF]
  rw[ea]
  have z1:((0:Int)+1)≤1:=by omega
  refine gT (nt:=50) (rs:=[.cell 6 36]) hm Tryz.func64 fun hl he cx=>?_
  simp -implicitDefEqProofs only[go_sem,Z1,Z2,Z3,Z4,z1]
  refine b7 [] [0] (fD b p atoms.length hb h1 (by omega)) ?_ ?_<;>simp -implicitDefEqProofs only[go_sem,Z1,Z2,Z3,Z4,ek]
  simp -implicitDefEqProofs only[go_sem,Z1,Z2,Z3,Z4,hk]
  refine b7 [] [0] (fD b (p+1) 3 hb (by omega) (by omega)) ?_ ?_<;>simp -implicitDefEqProofs only[go_sem,Z1,Z2,Z3,Z4,hk]
  refine iK ?_
  refine bu [some 0] ?_ rfl rfl
  refine sB ?_
  exact⟨⟨rfl,rfl,rfl,rfl,rfl,rfl,rfl,rfl,rfl,rfl,rfl,rfl⟩,by rw[q2]⟩
 have z1:¬ (d:Int)+1≤1:=by omega
 rcases aa (bF b p 4=0) with c0|c0
 ·have k0:=eq_true c0
  obtain⟨k,ek,hk⟩:=kV hb (p:=p+1) (n:=atoms.length) (by omega) ha
  have ea:fg b atoms (d+1) p=(.mk 1 ⟨atoms[k],decide (bF b (p+2) 3=0)⟩ [],p+3):=by
   rw[←getAt k hk,fg,if_neg hd,if_pos c0,ek,aF]
  rw[ea]
  refine gT (nt:=50) (rs:=[.cell 6 36]) hm Tryz.func64 fun hl he cx=>?_
  simp -implicitDefEqProofs only[go_sem,Z1,Z2,Z3,Z4,z1]
  refine b7 [] [0] (fD b p 4 hb h1 (by omega)) ?_ ?_<;>simp -implicitDefEqProofs only[go_sem,Z1,Z2,Z3,Z4,k0]
  refine b7 [] [0] (fD b (p+1) atoms.length hb (by omega) (by omega)) ?_ ?_<;>simp -implicitDefEqProofs only[go_sem,Z1,Z2,Z3,Z4,ek,q2]
  simp -implicitDefEqProofs only[go_sem,Z1,Z2,Z3,Z4,hk]
  refine b7 [] [0] (fD b (p+2) 3 hb (by omega) (by omega)) ?_ ?_<;>simp -implicitDefEqProofs only[go_sem,Z1,Z2,Z3,Z4,hk]
  refine iK ?_
  refine bu [some 0] ?_ rfl rfl
  refine sB ?_
  exact⟨⟨rfl,rfl,rfl,rfl,rfl,rfl,rfl,rfl,rfl,rfl,rfl,rfl⟩,by rw[q3]⟩
 ·obtain⟨k,ek⟩:∃k,eV b (p+1) [3,4,4,5,3,6,2]=k:=⟨_,rfl⟩
  have hk:=y6 hb (p:=p+1) (by omega)
  rw[ek] at hk
  obtain⟨n,en⟩:∃n:Nat,cw k=n:=⟨(cw k).toNat,by omega⟩
  rw[en] at hk
  have ea:fg b atoms (d+1) p=(.mk k Jv (dI (fun(_:Unit) q=>fg b atoms d q) (ar n ()) (p+2)).1,(dI (fun(_:Unit) q=>fg b atoms d q) (ar n ()) (p+2)).2):=by
   rw[fg,if_neg hd,if_neg c0]
   simp only[ek,en,aF]
  rw[ea]
  refine gT (nt:=50) (rs:=[.cell 6 36]) hm Tryz.func64 fun hl he cx=>?_
  simp -implicitDefEqProofs only[go_sem,Z1,Z2,Z3,Z4,z1]
  refine b7 [] [0] (fD b p 4 hb h1 (by omega)) ?_ ?_<;>simp -implicitDefEqProofs only[go_sem,Z1,Z2,Z3,Z4,c0]
  refine b7 [] [0] (kj b (p+1) [3,4,4,5,3,6,2] hb (by omega) (by omega) (by simp) (by simp)) ?_ ?_<;>simp -implicitDefEqProofs only[go_sem,Z1,Z2,Z3,Z4,ek,q2]
  refine aG hm (fun(i:Nat)=> i≤n) (fun(i:Nat)=> ⟨eE 50 .any [(0,.ptr 0 0),(1,lv (aK atoms)),(2,iv ((d:Int)+1)),(6,.ptr 1 0),(7,.ptr 2 0),(8,iv i)],[some (lq b (dI (fun(_:Unit) q=>fg b atoms d q) ((ar n ()).take i) (p+2)).2),some (.box [iv 0,iv 0,sv [],.aY,sv [],.aY,.aY,.aY,iv 0,bv false,bv false,.aY]),some (.box [iv k,iv 0,sv [],.aY,sv [],.aY,.aY,.aY,iv 0,bv false,bv false,.acc 3]),some (.acc 36 (a7 (dI (fun(_:Unit) q=>fg b atoms d q) ((ar n ()).take i) (p+2)).1))]⟩) (fun(i:Nat)=> n-i) (0) ?_ (ax [some 0,some 1,some 2,none] ?_ ?_ rfl rfl) ?_
  rotate_left
  ·exact sD
  ·refine sB ?_
   all_goals(exact⟨rfl,rfl⟩)
  rotate_left
  ·omega
  ·rintro i hi
   have hln:=od (fun(_:Unit) q=>fg b atoms d q) ((ar n ()).take i) (p+2)
   rw[aO,gO] at hln
   refine e7 [] (pY k) ?_ ?_<;>simp -implicitDefEqProofs only[go_sem,Z1,Z2,Z3,Z4,en]
   rcases aa (i<n) with h5|h5
   ·have hq:p+2≤(dI (fun(_:Unit) q=>fg b atoms d q) ((ar n ()).take i) (p+2)).2∧(dI (fun(_:Unit) q=>fg b atoms d q) ((ar n ()).take i) (p+2)).2≤p+2+i*(4*(2 ^ d-1)):=by
     have key:∀(m:Nat)(q:Int),0≤q→q≤(dI (fun(_:Unit) q=>fg b atoms d q) (ar m ()) q).2∧(dI (fun(_:Unit) q=>fg b atoms d q) (ar m ()) q).2≤q+m*(4*(2 ^ d-1)):=by
      intro m
      induction m with
      | zero=>intro q _;simp[dI]
      | succ m ihm=>
        intro q hq
        have g1:=Ej hb (atoms:=atoms) d q hq
        have g2:=ihm (fg b atoms d q).2 (by omega)
        have e:((m+1:Nat):Int)*(4*(2 ^ d-1))=m*(4*(2 ^ d-1))+4*(2 ^ d-1):=by rw[Int.natCast_add,Int.add_mul];simp
        simp only[List.replicate_succ,dI]
        omega
     have e:(ar n ()).take i=ar i ():=by rw[List.take_replicate];congr 1;omega
     rw[e]
     exact key i (p+2) (by omega)
    have hmul:(i:Int)*(4*(2 ^ d-1))≤1*(4*(2 ^ d-1)):=Int.mul_le_mul_of_nonneg_right (by omega) (by omega)
    have dg:=yW (fun(_:Unit) q=>fg b atoms d q) (show i<(ar n ()).length by rw[gO];exact h5) (p+2)
    have hc:=ih (by omega) (dI (fun(_:Unit) q=>fg b atoms d q) ((ar n ()).take i) (p+2)).2 (by omega) (by omega)
    have CO:((d:Int)+1-1)=(d:Int):=by omega
    have hrows:a7 (dI (fun(_:Unit) q=>fg b atoms d q) ((ar n ()).take i) (p+2)).1++[df (fg b atoms d (dI (fun(_:Unit) q=>fg b atoms d q) ((ar n ()).take i) (p+2)).2).1]=a7 (dI (fun(_:Unit) q=>fg b atoms d q) ((ar n ()).take (i+1)) (p+2)).1:=by
     rw[dg]
     exact(congrArg (a7 (dI (fun(_:Unit) q=>fg b atoms d q) ((ar n ()).take i) (p+2)).1 ++ ·) (gE _ _).symm).trans (nA _ [_])
    have hq2:(fg b atoms d (dI (fun(_:Unit) q=>fg b atoms d q) ((ar n ()).take i) (p+2)).2).2=(dI (fun(_:Unit) q=>fg b atoms d q) ((ar n ()).take (i+1)) (p+2)).2:=by rw[dg]
    simp -implicitDefEqProofs only[go_sem,Z1,Z2,Z3,Z4,h5,CO]
    refine sQ ?_
    refine oD [] [0] hc ?_
    refine sQ ?_
    refine⟨i+1,?_,sL,ax [some 0,some 1,some 2,some 4] ?_ ?_ rfl rfl⟩
    rotate_left
    ·exact sD
    ·refine sB ?_
     all_goals(exact⟨by rw[hq2],hrows⟩)
    omega
   ·have et:(ar n ()).take i=ar n ():=ao (by rw[gO];omega)
    rw[et]
    refine yE ?_
    refine bu [some 0] ?_ rfl rfl
    refine sB ?_
    repeat' apply And.intro
    all_goals rfl
theorem rI(b:List Int)(hb:oa b)(atoms:List Atom)(ha:1≤atoms.length)(ha9:atoms.length≤100):∀(d:Nat)(p:Int),1≤d→0≤p→p+4*2 ^ d≤1000000000 →
 C E.P 64 [.ptr 0 0,lv (aK atoms),iv d] [some (lq b p)] (bB (av (df (fg b atoms d p).1)) [some (lq b (fg b atoms d p).2)])
 | 0,_,hd,_,_=>by omega
 | d+1,p,_,h1,h2=>x8 b hb atoms ha ha9 d p h1 h2 fun hd q g1 g2=>rI b hb atoms ha ha9 d q hd g1 g2
theorem u4(l:List Atom)(hl1:l.length≤900000):C E.P 21 [.acc 0] [some (.acc 31 (aK l))] (bB (.acc 1) [some (.acc 31 (aK l)),some (.acc 33 (cE (plain l)))]):=by
 refine gT (nt:=21) (rs:=[.tmp 2]) hm Tryz.func21 fun hl he cx=>?_
 refine aG hm (fun(i:Nat)=> i≤l.length) (fun(i:Nat)=> ⟨eE 21 .any [(0,.acc 0),(3,.acc 1),(4,iv i)],[some (.acc 31 (aK l)),some (.acc 33 (cE (plain (l.take i))))]⟩) (fun(i:Nat)=> l.length-i) (0) ?_ (ax [some 0,some 1] ?_ ?_ rfl rfl) ?_
 rotate_left
 ·exact sD
 ·refine sB ?_
  all_goals(simp[plain,cE])
 rotate_left
 ·omega
 ·rintro i hi
  have hv:=tc (l.take i)
  have jH:(l.take i).length=i:=by rw[aO];omega
  rcases aa (i<l.length) with h1|h1
  ·refine yA ?_
   refine sQ ?_
   refine⟨i+1,?_,sL,ax [some 0,some 2] ?_ ?_ rfl rfl⟩
   rotate_left
   ·exact sD
   ·refine sB ?_
    all_goals((rw[qe h1,←og];rfl))
   exact h1
  ·have et:l.take i=l:=ao (by omega)
   simp -implicitDefEqProofs only[go_sem,Z1,Z2,Z3,Z4,h1,et]
   refine bu [some 0,some 1] ?_ rfl rfl
   exact sD
theorem yL(b:List Int)(hb:oa b)(s:eD)(hs:dc s)(p:Int)(h1:0≤p)(h2:p≤800000000):C E.P 63 [.ptr 0 0,av (c8 s)] [some (lq b p)] (bB (lv (aK (lN b s p).1)) [some (lq b (lN b s p).2)]):=by
 have hmem:=mP hb (p:=p) (l:=[2,3,4,5,1]) h1 (by simp)
 simp only[aw,ct,or_false] at hmem
 obtain⟨N,eN⟩:∃N:Nat,eV b p [2,3,4,5,1]=N:=⟨(eV b p [2,3,4,5,1]).toNat,by omega⟩
 have hN:N≤5:=by omega
 obtain⟨y,e0⟩:∃y,lN b s p=y:=⟨_,rfl⟩
 have ea:=e0
 unfold lN at ea
 simp only[eN,aF] at ea
 rw[e0,←ea]
 refine gT (nt:=41) (rs:=[.tmp 4]) hm Tryz.func63 fun hl he cx=>?_
 refine b7 [] [0] (kj b p [2,3,4,5,1] hb h1 (by omega) (by simp) (by simp)) ?_ ?_<;>simp -implicitDefEqProofs only[go_sem,Z1,Z2,Z3,Z4,eN]
 refine lP hm (fun(j:Nat) (q:Int) (out:List Atom)=> j≤N∧0≤q∧q≤p+1+(N-j)*60∧out.length≤N-j∧ie (ga b s) N [] (p+1)=ie (ga b s) j out q) (fun(j:Nat) (q:Int) (out:List Atom)=> ⟨eE 41 .any [(0,.ptr 0 0),(3,.ptr 1 0),(5,.acc 2),(6,iv j)],[some (lq b q),some (.box (eZ (c8 s))),some (.acc 31 (aK out))]⟩) (fun(j:Nat) (q:Int) (out:List Atom)=> j) (N) (p+1) ([]) ?_ (ax [some 0,some 1,some 2] ?_ ?_ rfl rfl) ?_
 rotate_left
 ·exact sD
 ·exact sD
 rotate_left
 ·exact⟨Nat.le_refl _,by omega,by omega,by simp,rfl⟩
 ·rintro j q out ⟨hj,hq1,hq2,hol,hg⟩
  rcases aa ((0:Int)<(j:Int)) with h3|h3
  ·obtain⟨j,rfl⟩:∃j',j=j'+1:=⟨j-1,by omega⟩
   have hA:=CX hb hs (p:=q) hq1
   rw[ie] at hg
   have est:ga b s out q=(if fN s (plain (out++[(jA b s q).1])) then addAtom out (jA b s q).1 else out,(jA b s q).2):=rfl
   rw[est] at hg
   simp only at hg
   have c1:=Ag b hb s hs q hq1 (by omega)
   obtain⟨x,hx⟩:∃x,jA b s q=x:=⟨_,rfl⟩
   rw[hx] at hg c1 hA
   have hjs:((j:Int)+1-1)=(j:Int):=by omega
   have h3:(0:Int)<(j:Int)+1:=by omega
   have hlits:=u4 (out++[x.1]) (by simp;omega)
   rw[←kR,mD,kZ] at hlits
   refine yC ?_
   refine oD [] [0] c1 ?_
   refine sQ ?_
   refine oD [] [6,7] hlits ?_
   refine iO [] [7] (pP s (plain (out++[x.1]))) rfl ?_ ?_ ?_
   ·exact sV
   all_goals simp -implicitDefEqProofs only[go_sem,Z1,Z2,Z3,Z4]
   refine iK ?_
   cases h4:fN s (plain (out++[x.1]))
   ·rw[h4] at hg
    simp -implicitDefEqProofs only[go_sem,Z1,Z2,Z3,Z4,hjs]
    refine sQ ?_
    refine⟨j,x.2,out,?_,sL,ax [some 0,some 1,some 2] ?_ ?_ rfl rfl⟩
    rotate_left
    ·exact sD
    ·exact sD
    exact⟨by omega,by omega,by omega,by omega,hg⟩
   ·rw[h4] at hg
    have hal:(addAtom out x.1).length≤out.length+1:=by unfold addAtom;split<;>simp
    simp -implicitDefEqProofs only[go_sem,Z1,Z2,Z3,Z4,hjs]
    refine oD [] [2,8] (rJ out x.1 (by omega)) ?_
    refine sQ ?_
    refine⟨j,x.2,addAtom out x.1,?_,sL,ax [some 0,some 1,some 8] ?_ ?_ rfl rfl⟩
    rotate_left
    ·refine sB ?_
     all_goals(simp[aP, *];done)
    ·exact sD
    exact⟨by omega,by omega,by omega,by omega,hg⟩
  ·obtain rfl:j=0:=by omega
   rw[ie] at hg
   rw[hg]
   rcases aa (out.length=0) with h4|h4
   ·have k4:((out.length:Int)=0)=True:=eq_true (by omega)
    simp only[if_pos h4]
    simp -implicitDefEqProofs only[go_sem,Z1,Z2,Z3,Z4,h3,k4]
    refine sQ ?_
    refine bu [some 0] ?_ rfl rfl
    refine sB ?_
    exact⟨by rw[←kR];rfl,rfl⟩
   ·have h4':¬ (out.length:Int)=0:=by omega
    simp only[if_neg h4]
    simp -implicitDefEqProofs only[go_sem,Z1,Z2,Z3,Z4,h3,h4']
    refine bu [some 0] ?_ rfl rfl
    refine sB ?_
    rfl
theorem yj(b:List Int)(hb:oa b)(p:Int)(h1:0≤p)(h2:p≤700000000):C E.P 35 [.ptr 0 0] [some (lq b p)] (bB (.gL [av (c8 (nP b p).1),av (df (nP b p).2.1)]) [some (lq b (nP b p).2.2)]):=by
 have hs:dc (vb b p).1:=qP _
 have hsp:(vb b p).2=p+1:=rfl
 have hT:=EM hb hs (p:=p+1) (by omega)
 have cT:=yL b hb (vb b p).1 hs (p+1) (by omega) (by omega)
 obtain⟨y,e0⟩:∃y,nP b p=y:=⟨_,rfl⟩
 have ea:=e0
 unfold nP at ea
 simp only at ea
 obtain⟨a,hta⟩:∃a,lN b (vb b p).1 (p+1)=a:=⟨_,rfl⟩
 rw[hta] at ea hT cT
 obtain⟨d,ed,d1,d2,d3⟩:=Ff hb (p:=a.2) (by omega) (l:=[3,4,2,3,1]) (by simp) (by decide)
 simp only[ed,aF] at ea
 have cA:=rI b hb a.1 (by omega) (by omega) d (a.2+1) d1 (by omega) (by omega)
 rw[e0,←ea]
 refine gT (nt:=16) (rs:=[.cell 2 25,.cell 3 36]) hm Tryz.func35 fun hl he cx=>?_
 refine b7 [] [0] (AO b p hb h1 (by omega)) ?_ ?_<;>simp -implicitDefEqProofs only[go_sem,Z1,Z2,Z3,Z4,hsp]
 refine oD [] [0] cT ?_
 refine b7 [] [0] (kj b a.2 [3,4,2,3,1] hb (by omega) (by omega) (by simp) (by simp)) ?_ ?_<;>simp -implicitDefEqProofs only[go_sem,Z1,Z2,Z3,Z4,ed]
 refine oD [] [0] cA ?_
 refine iK ?_
 refine bu [some 0] ?_ rfl rfl
 exact sD
theorem tL{l:List Sym}{k:Nat}(h:k<l.length)(x:Sym)(r:List D)(hr:r=pB x):(dW l).set k r=dW (l.set k x):=by
 rw[hr,dW,dW,List.map_set]
theorem p8(b:List Int)(hb:oa b)(s:eD)(yV:s.syms.length≤100)(ha9:∀x∈s.syms,x.args.length≤1000)(p:Int)(h1:0≤p)(h2:p≤900000000) :
 C E.P 39 [.ptr 0 0,av (c8 s)] [some (lq b p)] (bB (av (c8 (fQ b s p).1)) [some (lq b (fQ b s p).2)]):=by
 have q2:p+1+1=p+2:=by omega
 have q3:p+2+1=p+3:=by omega
 have q4:p+3+1=p+4:=by omega
 have cx:=BZ
 refine zp (nt:=116) (rs:=[.cell 4 25]) Tryz.func39 rfl rfl rfl rfl rfl (fun hl he=>?_)
 simp -implicitDefEqProofs only[go_sem] at hl⊢
 refine kT hm ?_
 refine sA ?_
 refine aG hm (fun(i:Nat)=> i≤s.syms.length) (fun(i:Nat)=> ⟨eE 116 .any [(0,.ptr 0 0),(3,.ptr 1 0),(4,.ptr 2 0),(5,.ptr 3 0),(6,iv i)],[some (lq b p),some (.box (eZ (c8 s))),some (.box [.aY]),some (.box [.acc 4]),some (.cU 129 (oQ (s.syms.take i)))]⟩) (fun(i:Nat)=> s.syms.length-i) (0) ?_ (ax [some 0,some 1,some 2,some 4,some 3] ?_ ?_ rfl rfl) ?_
 rotate_left
 ·exact sC
 ·refine sA ?_
  all_goals(rfl)
 rotate_left
 ·omega
 ·rintro i hi
  have hp:(oQ (s.syms.take i)).length=i:=by rw[wW,aO];omega
  rcases aa (i<s.syms.length) with h3|h3
  ·have ha:=ha9 s.syms[i] (ai h3)
   have pa:=iZ s.syms[i].args
   refine uC ?_
   refine sQ ?_
   refine⟨i+1,?_,?_,CM 9 i _ rfl (by rw[an,hp];simp) (wa hp) ?_⟩
   rotate_left
   ·show _ < _
    omega
   ·refine sA ?_
    refine ax [some 0,some 1,some 2,some 3,some 9] ?_ ?_ rfl rfl
    ·exact sC
    ·refine sA ?_
     all_goals(rw[xk hp];exact⟨zC h3,(congrArg (fun z=>(bW z).isSome) (zC h3)).trans (Ko _)⟩)
   exact h3
  ·have et:s.syms.take i=s.syms:=ao (by omega)
   rw[et]
   rcases aa (s.syms.length=0) with h4|h4
   ·have e:fQ b s p=(s,p):=by rw[fQ,if_pos h4]
    have k4:((s.syms.length:Int)=0)=True:=eq_true (by omega)
    simp -implicitDefEqProofs only[go_sem,h3,k4]
    refine hY ?_
    refine bu [some 0] ?_ rfl rfl
    refine sA ?_
    rw[e]
    exact⟨⟨⟨_,rfl,rfl⟩,rfl⟩,rfl⟩
   have k4:¬ (s.syms.length:Int)=0:=by omega
   simp -implicitDefEqProofs only[go_sem,h3,k4]
   refine oC [] [0] (fD b p 8 hb h1 (by omega)) ?_
   rcases aa (0<bF b p 8) with h5|h5
   ·have e:fQ b s p=(s,p+1):=by rw[fQ,if_neg h4,if_pos h5]
    refine uE ?_
    refine hY ?_
    refine bu [some 0] ?_ rfl rfl
    refine sA ?_
    rw[e]
    exact⟨⟨⟨_,rfl,rfl⟩,rfl⟩,rfl⟩
   refine uE ?_
   obtain⟨k,ek,hk⟩:=kV hb (p:=p+1) (n:=s.syms.length) (by omega) (by omega)
   obtain⟨x,hx⟩:∃x,s.syms[k]=x:=⟨_,rfl⟩
   have ex:s.syms.getD k ⟨[],[],0⟩=x:=by rw[←hx,az,ab hk];rfl
   have kq:row (dW s.syms) k=pB x:=by rw[tR hk,hx]
   obtain⟨y,e0⟩:∃y,fQ b s p=y:=⟨_,rfl⟩
   have ee:=e0
   unfold fQ at ee
   simp only[if_neg h4,if_neg h5,ek,aF,ex] at ee
   refine b7 [] [0] (fD b (p+1) s.syms.length hb (by omega) (by omega)) ?_ ?_<;>simp -implicitDefEqProofs only[go_sem,ek,q2]
   rcases aa (bF b (p+2) 5=1) with c1|c1
   ·have c0:¬bF b (p+2) 5=0:=by omega
    have k1:=eq_true c1
    rw[if_neg c0,if_pos c1] at ee
    have hkT:k<(oQ s.syms).length:=by rw[wW];exact hk
    have hrowT:jF (oQ s.syms) k=[.leaf (.str x.name),.own 3 (sE x.args),.leaf (.val (.int .i64 x.sort))]:=by rw[Ip hk,hx];rfl
    have hrs:∀r,jF ((oQ s.syms).set k r) k=r:=fun r=>Kv hkT
    have hxa:x.args.length≤1000:=by rw[←hx];exact ha9 _ (ai hk)
    refine Np (HH 4 k _ rfl hkT hrowT) ?_
    refine sA ?_
    refine b7 [] [0] (fD b (p+2) 5 hb (by omega) (by omega)) ?_ ?_<;>simp -implicitDefEqProofs only[go_sem,c0,k1,q3,hrs]
    refine sQ ?_
    refine b7 [] [0] (kj b (p+3) [0,2,-1,1] hb (by omega) (by omega) (by simp) (by simp)) ?_ ?_<;>simp -implicitDefEqProofs only[go_sem,q4,hrs]
    refine sQ ?_
    refine⟨_,qT.Dx (rz 4 k _ rfl (by rw[List.length_set];exact hkT) (hrs _)),?_⟩
    refine sA ?_
    refine bu [some 0] ?_ rfl rfl
    refine sA ?_
    rw[e0,←ee]
    have dg:=G6 s.syms k ⟨x.name,x.args++[eV b (p+3) [0,2,-1,1]],x.sort⟩
    rw[uh,←Iq] at dg
    exact⟨⟨⟨_,(congrArg bW dg).trans (oX _),rfl⟩,rfl⟩,rfl⟩
   refine Np (Kf 4 rfl (oX _)) ?_
   refine sA ?_
   refine b7 [] [0] (fD b (p+2) 5 hb (by omega) (by omega)) ?_ ?_<;>simp -implicitDefEqProofs only[go_sem,q3]
   rcases aa (bF b (p+2) 5=0) with c0|c0
   ·have k0:=eq_true c0
    rw[if_pos c0] at ee
    refine uH ?_
    refine b7 [] [0] (Ms b (p+3) [[],[65],[97,98,99],[122,122],[97]] hb (by omega) (by omega) (by simp) (by simp)) ?_ ?_<;>simp -implicitDefEqProofs only[go_sem,hk,q4]
    refine iK ?_
    refine hY ?_
    refine bu [some 0] ?_ rfl rfl
    refine sA ?_
    rw[e0,←ee]
    exact⟨⟨(tL hk ⟨ED b (p+3) [[],[65],[97,98,99],[122,122],[97]],x.args,x.sort⟩ _ (by rw[hx];rfl)).symm,rfl⟩,rfl⟩
   rw[if_neg c0,if_neg c1] at ee
   rcases aa (bF b (p+2) 5=2) with c2|c2
   ·have k2:=eq_true c2
    rw[if_pos c2] at ee
    simp -implicitDefEqProofs only[go_sem,c0,c1,k2]
    refine b7 [] [0] (kj b (p+3) [1,2,-1,0] hb (by omega) (by omega) (by simp) (by simp)) ?_ ?_<;>simp -implicitDefEqProofs only[go_sem,hk,q4]
    refine iK ?_
    refine hY ?_
    refine bu [some 0] ?_ rfl rfl
    refine sA ?_
    rw[e0,←ee]
    exact⟨⟨(tL hk ⟨x.name,x.args,eV b (p+3) [1,2,-1,0]⟩ _ (by rw[hx];rfl)).symm,rfl⟩,rfl⟩
   rw[if_neg c2] at ee
   rcases aa (bF b (p+2) 5=3) with c3|c3
   ·have k3:=eq_true c3
    rw[if_pos c3] at ee
    simp -implicitDefEqProofs only[go_sem,c0,c1,c2,k3,hk,kq]
    refine sQ ?_
    refine hY ?_
    refine bu [some 0] ?_ rfl rfl
    refine sA ?_
    rw[e0,←ee]
    exact⟨⟨by rw[←mv];rfl,rfl⟩,rfl⟩
   rw[if_neg c3] at ee
   simp -implicitDefEqProofs only[go_sem,c0,c1,c2,c3]
   refine o5 hm (fun(l:List Sym) (q:Int)=> p+3≤q∧q≤p+3+l.length∧l.length≤100∧n8 b (8-s.syms.length) s.syms (p+3)=n8 b (8-l.length) l q) (fun(l:List Sym) (q:Int)=> ⟨eE 116 .any [(0,.ptr 0 0),(4,.ptr 2 0),(5,.ptr 3 0)],[some (lq b q),some (.box (eZ (c8 s))),some (.box [.aY]),some (.box [.acc 4]),some (.acc 129 (dW l))]⟩) (fun(l:List Sym) (q:Int)=> 8-l.length) (s.syms) (p+3) ?_ (ax [some 0,some 1,some 2,some 3,some 4] ?_ ?_ rfl rfl) ?_
   rotate_left
   ·exact sC
   ·exact sC
   rotate_left
   ·exact⟨by omega,by omega,yV,rfl⟩
   ·rintro l q ⟨b1,b2,b3,hg⟩
    rcases aa (l.length≤7) with h6|h6
    ·have h6':(l.length:Int)≤7:=by omega
     have e8:8-l.length=(8-(l.length+1))+1:=by omega
     rw[e8,n8] at hg
     have hof:=JR hb (p:=q) (l:=[[97],[98],[122]]) (by omega) (by simp)
     have hol:(ED b q [[97],[98],[122]]).length=1:=by
      simp only[aw,ct,or_false] at hof
      rcases hof with e|e|e<;>rw[e]<;>rfl
     have hla:(l++[(⟨122::ED b q [[97],[98],[122]],[],0⟩:Sym)]).length=l.length+1:=by simp
     simp -implicitDefEqProofs only[go_sem,h6']
     refine oC [] [0] (Ms b q [[97],[98],[122]] hb (by omega) (by omega) (by simp) (by simp)) ?_
     refine sQ ?_
     refine⟨l++[(⟨122::ED b q [[97],[98],[122]],[],0⟩:Sym)],q+1,?_,sL,ax [some 0,some 1,some 2,some 3,some 5] ?_ ?_ rfl rfl⟩
     rotate_left
     ·exact sC
     ·refine sA ?_
      all_goals((rw[←mv];rfl))
     exact⟨by omega,by simp;omega,by simp;omega,by simpa using hg⟩
    ·have h6':¬ (l.length:Int)≤7:=by omega
     have e8:8-l.length=0:=by omega
     rw[e8,n8] at hg
     rw[hg] at ee
     simp -implicitDefEqProofs only[go_sem,h6']
     refine hY ?_
     refine bu [some 0] ?_ rfl rfl
     refine sA ?_
     rw[e0,←ee]
     exact⟨⟨rfl,rfl⟩,rfl⟩
theorem Hm(A:List Term)(t:Term):bW (lift (aN A)++[[T.leaf (D.str t.name),T.own 28 (ng t.kids)]])=some (aN (A++[t])):=by
 have h1:bW [[T.leaf (D.str t.name),T.own 28 (ng t.kids)]]=some [cT t]:=by simp[bW,dQ,T.zh,nB,cT]
 rw[AZ (la _) h1,←hU,eB,gH]
theorem FK(A:List Term)(t:Term):bW (lift (aN A)++[[T.leaf (D.str t.name),T.own 28 (ng t.kids)],[T.leaf (D.str t.name),T.own 28 (ng t.kids)]])=some (aN (A++[t,t])):=by
 have h1:bW [[T.leaf (D.str t.name),T.own 28 (ng t.kids)],[T.leaf (D.str t.name),T.own 28 (ng t.kids)]]=some [cT t,cT t]:=by simp[bW,dQ,T.zh,nB,cT]
 rw[AZ (la _) h1,←hU,eB,eB,gH]
theorem s7(t:Term)(ih:∀k∈t.kids,C E.P 130 [av (cT k)] [] (bB (.agg [sv k.name,.acc 0]) [some (.cU 28 (ng k.kids))])):C E.P 130 [av (cT t)] [] (bB (.agg [sv t.name,.acc 0]) [some (.cU 28 (ng t.kids))]):=by
 refine gS (nt:=27) (rs:=[.cell 2 28]) hm Tryz.func130 fun hl he cx=>?_
 refine aG hm (fun(i:Nat)=> i≤t.kids.length) (fun(i:Nat)=> ⟨eE 27 .any [(1,.ptr 0 0),(2,.ptr 1 0),(3,.ptr 2 0),(4,iv i)],[some (.box (eZ (cT t))),some (.box (eZ (cT eX))),some (.box [.d (.str t.name),.acc 3]),some (.cU 28 (ng (t.kids.take i)))]⟩) (fun(i:Nat)=> t.kids.length-i) (0) ?_ (ax [some 0,some 1,some 2,none] ?_ ?_ rfl rfl) ?_
 rotate_left
 ·exact sC
 ·refine sA ?_
  all_goals(rfl)
 rotate_left
 ·omega
 ·rintro i hi
  have hp:(ng (t.kids.take i)).length=i:=by rw[Fe,aO];omega
  rcases aa (i<t.kids.length) with h1|h1
  ·refine uA ?_
   have hc:=ih t.kids[i] (ai h1)
   refine oC [] [4] hc ?_
   refine sQ ?_
   refine⟨i+1,?_,?_,CM 6 i _ rfl (by rw[an,hp];simp) (wa hp) ?_⟩
   rotate_left
   ·show _ < _
    omega
   ·refine sA ?_
    refine ax [some 0,some 1,some 2,some 6] ?_ ?_ rfl rfl
    ·exact sC
    ·refine sA ?_
     all_goals(rw[xk hp];exact⟨CF h1,(congrArg (fun z=>(bW z).isSome) (CF h1)).trans (LJ _)⟩)
   exact h1
  ·have et:t.kids.take i=t.kids:=ao (by omega)
   simp -implicitDefEqProofs only[go_sem,h1,et]
   refine bu [some 3] ?_ rfl rfl
   exact sC
theorem kD:∀t,C E.P 130 [av (cT t)] [] (bB (.agg [sv t.name,.acc 0]) [some (.cU 28 (ng t.kids))]):=
 Term.ind fun n ks ih=>s7 (.mk n ks) ih
theorem yt(b:List Int)(hb:oa b)(s:eD)(hs:dc s)(p:Int)(h1:0≤p)(h2:p≤900000000):C E.P 71 [.ptr 0 0,av (c8 s)] [some (lq b p)] (bB (av (cT (y3 b s p).1)) [some (lq b (y3 b s p).2)]):=by
 obtain⟨d,ed,Fa,hd4⟩:∃d:Nat,eV b (p+1) [2,3,1,4]=d∧1≤d∧d≤4:=by
  have hm:=mP hb (p:=p+1) (l:=[2,3,1,4]) (by omega) (by simp)
  simp only[aw,ct,or_false] at hm
  exact⟨(eV b (p+1) [2,3,1,4]).toNat,by omega,by omega,by omega⟩
 have hpw:(2:Int) ^ d≤16:=by
  have:=Nat.pow_le_pow_right (n:=2) (by omega) hd4
  have e:(2:Int) ^ d=((2 ^ d:Nat):Int):=by simp
  omega
 have ha:=wb (b:=b) hs d (bF b p 2) (p+2)
 obtain⟨y,e0⟩:∃y,y3 b s p=y:=⟨_,rfl⟩
 have ee:=e0
 unfold y3 at ee
 simp only[ed,aF] at ee
 obtain⟨r,hr⟩:∃r,dN b s d (bF b p 2) (p+2)=r:=⟨_,rfl⟩
 have hO:=lH b hb s hs d (bF b p 2) (p+2) Fa (by omega) (by omega)
 have hk2:=Gb b hs d (bF b p 2) (p+2)
 rw[hr] at ee ha hO hk2
 rw[e0,←ee]
 have hp:(lift (aN r.1.kids)).length=r.1.kids.length:=by simp[lift,lk]
 have q2:p+1+1=p+2:=by omega
 have cx:=BZ
 refine zp (nt:=49) (rs:=[.cell 4 28]) Tryz.func71 rfl rfl rfl rfl rfl (fun hl he=>?_)
 simp -implicitDefEqProofs only[go_sem] at hl⊢
 refine kT hm ?_
 refine oC [] [0] (fD b p 2 hb h1 (by omega)) ?_
 refine oC [] [0] (kj b (p+1) [2,3,1,4] hb (by omega) (by omega) (by simp) (by simp)) ?_
 rw[ed,q2]
 refine oC [] [0,3] hO ?_
 refine iK ?_
 refine oC [] [0] (fD b r.2 48 hb (by omega) (by omega)) ?_
 rcases aa (bF b r.2 48=0) with c0|c0
 ·have k0:=eq_true c0
  rw[if_pos c0]
  refine uH ?_
  have qr:r.2+1+1=r.2+2:=by omega
  refine b7 [] [0] (Ms b (r.2+1) [[],[65],[97,98,99],[102]] hb (by omega) (by omega) (by simp) (by simp)) ?_ ?_<;>simp -implicitDefEqProofs only[go_sem,qr]
  refine hY ?_
  refine bu [some 0] ?_ rfl rfl
  refine sA ?_
  rfl
 rw[if_neg c0]
 rcases aa (bF b r.2 48=1) with c1|c1
 ·have k1:=eq_true c1
  rw[if_pos c1]
  simp -implicitDefEqProofs only[go_sem,c0,k1]
  refine Ap [] [3] [5] (kD r.1) rfl ?_ ?_ ?_
  ·exact sV
  all_goals simp -implicitDefEqProofs only[go_sem]
  refine sQ ?_
  refine wK (rz 8 r.1.kids.length _ rfl (by rw[an,hp];simp) (wa hp)) ?_
  refine sA ?_
  rw[xk hp]
  refine hY ?_
  refine bu [some 0] ?_ rfl rfl
  refine sA ?_
  exact⟨⟨_,Hm _ _,rfl⟩,rfl⟩
 rw[if_neg c1]
 rcases aa (bF b r.2 48=2) with c2|c2
 ·have k2:=eq_true c2
  rw[if_pos c2]
  simp -implicitDefEqProofs only[go_sem,c0,c1,k2]
  refine Ap [] [3] [5] (kD r.1) rfl ?_ ?_ ?_
  ·exact sV
  all_goals simp -implicitDefEqProofs only[go_sem]
  refine Ap [] [3] [7] (kD r.1) rfl ?_ ?_ ?_
  ·exact sV
  all_goals simp -implicitDefEqProofs only[go_sem]
  refine sQ ?_
  refine wK (rz 10 r.1.kids.length _ rfl (by rw[an,hp];simp) (I7 hp)) ?_
  refine sA ?_
  rw[G5 hp]
  refine wK (rz 10 (r.1.kids.length+1) _ rfl (by rw[an,hp];simp) (Jl hp)) ?_
  refine sA ?_
  rw[Ii hp]
  refine hY ?_
  refine bu [some 0] ?_ rfl rfl
  refine sA ?_
  exact⟨⟨_,FK _ _,rfl⟩,rfl⟩
 ·rw[if_neg c2]
  simp -implicitDefEqProofs only[go_sem,c0,c1,c2]
  refine hY ?_
  refine bu [some 0] ?_ rfl rfl
  refine sA ?_
  rfl
end Go.Proofs.YtgpjhjalfakpoaaGreat
