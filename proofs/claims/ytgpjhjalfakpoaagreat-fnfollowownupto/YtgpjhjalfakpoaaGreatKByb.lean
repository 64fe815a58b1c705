/-
  The reference: the walks of what is drawn: forms. A step towards the laws.
-/
import Derived.Test.YtgpjhjalfakpoaaGreatKBya
import Derived.Test.YtgpjhjalfakpoaaGreatKBf
import Derived.Test.YtgpjhjalfakpoaaGreatKBq
set_option linter.unusedVariables false
set_option linter.unusedSimpArgs false
open Classical renaming em→aa
open Int renaming toNat_natCast→aA
open List renaming getElem?_eq_getElem→ab,getElem_mem→ah,take_of_length_le→an,length_append→ao,replicate→au,mem_cons→aw,getD_eq_getElem?_getD→aB,length_take→aO,not_mem_nil→b9,length_replicate→hH
namespace Go.Proofs.YtgpjhjalfakpoaaGreat
open Go.Eng Go.Mod
open Int renaming reduceEq→Z1,reduceLT→Z2,reduceLE→Z3,reduceToNat→Z4
set_option maxRecDepth 100000
set_option maxHeartbeats 800000
theorem y9(b:List Int)(hb:nh b)(atoms:List Atom)(ha:1≤atoms.length)(ha9:atoms.length≤100)(d:Nat)(p:Int)(h1:0≤p)(h2:p+4*2 ^ (d+1)≤1000000000)
 (ih:1≤d→∀(q:Int),0≤q→q+4*2 ^ d≤1000000000→C E.P 64 [.ptr 0 0,lv (aJ atoms),iv d] [some (la b q)] (bw (av (cx (eK b atoms d q).1)) [some (la b (eK b atoms d q).2)])) :
 C E.P 64 [.ptr 0 0,lv (aJ atoms),iv ((d:Int)+1)] [some (la b p)] (bw (av (cx (eK b atoms (d+1) p).1)) [some (la b (eK b atoms (d+1) p).2)]):=by
 obtain⟨hp,hp2⟩:=two_pow_pos d
 have hdl:(d:Int)<2 ^ d:=by
  have:=Nat.lt_two_pow_self (n:=d)
  have e:(2:Int) ^ d=((2 ^ d:Nat):Int):=by simp
  omega
 have q2:p+1+1=p+2:=by omega
 have q3:p+2+1=p+3:=by omega
 have getAt:∀(k:Nat)(hk:k<atoms.length),atoms.getD k uy=atoms[k]:=fun k hk=>by rw[aB,ab hk];rfl
 rcases aa (d=0) with hd|hd
 ·subst hd
  obtain⟨k,ek,hk⟩:=kq hb (p:=p) (n:=atoms.length) h1 ha
  have ea:eK b atoms (0+1) p=(.mk 1 ⟨atoms[k],decide (bo b (p+1) 3=0)⟩ [],p+2):=by
   rw[←getAt k hk,eK,if_pos rfl,ek,aA]
  rw[ea]
  have z1:((0:Int)+1)≤1:=by omega
  refine gT (nt:=50) (rs:=[.cell 6 36]) hm Tryz.func64 fun hl he cp=>?_
  simp -implicitDefEqProofs only[go_sem,Z1,Z2,Z3,Z4,z1]
  refine bT [] [0] (eO b p atoms.length hb h1 (by omega)) ?_ ?_<;>simp -implicitDefEqProofs only[go_sem,Z1,Z2,Z3,Z4,ek]
  simp -implicitDefEqProofs only[go_sem,Z1,Z2,Z3,Z4,hk]
  refine bT [] [0] (eO b (p+1) 3 hb (by omega) (by omega)) ?_ ?_<;>simp -implicitDefEqProofs only[go_sem,Z1,Z2,Z3,Z4,hk]
  refine iK ?_
  refine bh [some 0] ?_ rfl rfl
  refine sB ?_
  exact⟨⟨rfl,rfl,rfl,rfl,rfl,rfl,rfl,rfl,rfl,rfl,rfl,rfl⟩,by rw[q2]⟩
 have z1:¬ (d:Int)+1≤1:=by omega
 rcases aa (bo b p 4=0) with c0|c0
 ·have k0:=eq_true c0
  obtain⟨k,ek,hk⟩:=kq hb (p:=p+1) (n:=atoms.length) (by omega) ha
  have ea:eK b atoms (d+1) p=(.mk 1 ⟨atoms[k],decide (bo b (p+2) 3=0)⟩ [],p+3):=by
   rw[←getAt k hk,eK,if_neg hd,if_pos c0,ek,aA]
  rw[ea]
  refine gT (nt:=50) (rs:=[.cell 6 36]) hm Tryz.func64 fun hl he cp=>?_
  simp -implicitDefEqProofs only[go_sem,Z1,Z2,Z3,Z4,z1]
  refine bT [] [0] (eO b p 4 hb h1 (by omega)) ?_ ?_<;>simp -implicitDefEqProofs only[go_sem,Z1,Z2,Z3,Z4,k0]
  refine bT [] [0] (eO b (p+1) atoms.length hb (by omega) (by omega)) ?_ ?_<;>simp -implicitDefEqProofs only[go_sem,Z1,Z2,Z3,Z4,ek,q2]
  simp -implicitDefEqProofs only[go_sem,Z1,Z2,Z3,Z4,hk]
  refine bT [] [0] (eO b (p+2) 3 hb (by omega) (by omega)) ?_ ?_<;>simp -implicitDefEqProofs only[go_sem,Z1,Z2,Z3,Z4,hk]
  refine iK ?_
  refine bh [some 0] ?_ rfl rfl
  refine sB ?_
  exact⟨⟨rfl,rfl,rfl,rfl,rfl,rfl,rfl,rfl,rfl,rfl,rfl,rfl⟩,by rw[q3]⟩
 ·obtain⟨k,ek⟩:∃k,dG b (p+1) [3,4,4,5,3,6,2]=k:=⟨_,rfl⟩
  have hk:=Ad hb (p:=p+1) (by omega)
  rw[ek] at hk
  obtain⟨n,en⟩:∃n:Nat,cC k=n:=⟨(cC k).toNat,by omega⟩
  rw[en] at hk
  have ea:eK b atoms (d+1) p=(.mk k Gx (dR (fun(_:Unit) q=>eK b atoms d q) (au n ()) (p+2)).1,(dR (fun(_:Unit) q=>eK b atoms d q) (au n ()) (p+2)).2):=by
   rw[eK,if_neg hd,if_neg c0]
   simp only[ek,en,aA]
  rw[ea]
  refine gT (nt:=50) (rs:=[.cell 6 36]) hm Tryz.func64 fun hl he cp=>?_
  simp -implicitDefEqProofs only[go_sem,Z1,Z2,Z3,Z4,z1]
  refine bT [] [0] (eO b p 4 hb h1 (by omega)) ?_ ?_<;>simp -implicitDefEqProofs only[go_sem,Z1,Z2,Z3,Z4,c0]
  refine bT [] [0] (jh b (p+1) [3,4,4,5,3,6,2] hb (by omega) (by omega) (by simp) (by simp)) ?_ ?_<;>simp -implicitDefEqProofs only[go_sem,Z1,Z2,Z3,Z4,ek,q2]
  refine aI hm (fun(i:Nat)=> i≤n) (fun(i:Nat)=> ⟨eQ 50 .any [(0,.ptr 0 0),(1,lv (aJ atoms)),(2,iv ((d:Int)+1)),(6,.ptr 1 0),(7,.ptr 2 0),(8,iv i)],[some (la b (dR (fun(_:Unit) q=>eK b atoms d q) ((au n ()).take i) (p+2)).2),some (.box [iv 0,iv 0,sv [],.aV,sv [],.aV,.aV,.aV,iv 0,bv false,bv false,.aV]),some (.box [iv k,iv 0,sv [],.aV,sv [],.aV,.aV,.aV,iv 0,bv false,bv false,.acc 3]),some (.acc 36 (aN (dR (fun(_:Unit) q=>eK b atoms d q) ((au n ()).take i) (p+2)).1))]⟩) (fun(i:Nat)=> n-i) (0) ?_ (ax [some 0,some 1,some 2,none] ?_ ?_ rfl rfl) ?_
  rotate_left
  ·exact sD
  ·refine sB ?_
   all_goals(exact⟨rfl,rfl⟩)
  rotate_left
  ·omega
  ·rintro i hi
   have hln:=oV (fun(_:Unit) q=>eK b atoms d q) ((au n ()).take i) (p+2)
   rw[aO,hH] at hln
   refine fm [] (qx k) ?_ ?_<;>simp -implicitDefEqProofs only[go_sem,Z1,Z2,Z3,Z4,en]
   rcases aa (i<n) with h5|h5
   ·have hq:p+2≤(dR (fun(_:Unit) q=>eK b atoms d q) ((au n ()).take i) (p+2)).2∧(dR (fun(_:Unit) q=>eK b atoms d q) ((au n ()).take i) (p+2)).2≤p+2+i*(4*(2 ^ d-1)):=by
     have key:∀(m:Nat)(q:Int),0≤q→q≤(dR (fun(_:Unit) q=>eK b atoms d q) (au m ()) q).2∧(dR (fun(_:Unit) q=>eK b atoms d q) (au m ()) q).2≤q+m*(4*(2 ^ d-1)):=by
      intro m
      induction m with
      | zero=>intro q _;simp[dR]
      | succ m ihm=>
        intro q hq
        have g1:=xP hb (atoms:=atoms) d q hq
        have g2:=ihm (eK b atoms d q).2 (by omega)
        have e:((m+1:Nat):Int)*(4*(2 ^ d-1))=m*(4*(2 ^ d-1))+4*(2 ^ d-1):=by rw[Int.natCast_add,Int.add_mul];simp
        simp only[List.replicate_succ,dR]
        omega
     have e:(au n ()).take i=au i ():=by rw[List.take_replicate];congr 1;omega
     rw[e]
     exact key i (p+2) (by omega)
    have hmul:(i:Int)*(4*(2 ^ d-1))≤1*(4*(2 ^ d-1)):=Int.mul_le_mul_of_nonneg_right (by omega) (by omega)
    have dh:=zN (fun(_:Unit) q=>eK b atoms d q) (show i<(au n ()).length by rw[hH];exact h5) (p+2)
    have hc:=ih (by omega) (dR (fun(_:Unit) q=>eK b atoms d q) ((au n ()).take i) (p+2)).2 (by omega) (by omega)
    have Dg:((d:Int)+1-1)=(d:Int):=by omega
    have hrows:aN (dR (fun(_:Unit) q=>eK b atoms d q) ((au n ()).take i) (p+2)).1++[cx (eK b atoms d (dR (fun(_:Unit) q=>eK b atoms d q) ((au n ()).take i) (p+2)).2).1]=aN (dR (fun(_:Unit) q=>eK b atoms d q) ((au n ()).take (i+1)) (p+2)).1:=by
     rw[dh]
     exact(congrArg (aN (dR (fun(_:Unit) q=>eK b atoms d q) ((au n ()).take i) (p+2)).1 ++ ·) (dt _ _).symm).trans (jM _ [_])
    have hq2:(eK b atoms d (dR (fun(_:Unit) q=>eK b atoms d q) ((au n ()).take i) (p+2)).2).2=(dR (fun(_:Unit) q=>eK b atoms d q) ((au n ()).take (i+1)) (p+2)).2:=by rw[dh]
    simp -implicitDefEqProofs only[go_sem,Z1,Z2,Z3,Z4,h5,Dg]
    refine sQ ?_
    refine oD [] [0] hc ?_
    refine sQ ?_
    refine⟨i+1,?_,sL,ax [some 0,some 1,some 2,some 4] ?_ ?_ rfl rfl⟩
    rotate_left
    ·exact sD
    ·refine sB ?_
     all_goals(exact⟨by rw[hq2],hrows⟩)
    omega
   ·have et:(au n ()).take i=au n ():=an (by rw[hH];omega)
    rw[et]
    refine yE ?_
    refine bh [some 0] ?_ rfl rfl
    refine sB ?_
    repeat' apply And.intro
    all_goals rfl
theorem lk(b:List Int)(hb:nh b)(atoms:List Atom)(ha:1≤atoms.length)(ha9:atoms.length≤100):∀(d:Nat)(p:Int),1≤d→0≤p→p+4*2 ^ d≤1000000000 →
 C E.P 64 [.ptr 0 0,lv (aJ atoms),iv d] [some (la b p)] (bw (av (cx (eK b atoms d p).1)) [some (la b (eK b atoms d p).2)])
 | 0,_,hd,_,_=>by omega
 | d+1,p,_,h1,h2=>y9 b hb atoms ha ha9 d p h1 h2 fun hd q g1 g2=>lk b hb atoms ha ha9 d q hd g1 g2
theorem vh(l:List Atom)(hl1:l.length≤900000):C E.P 21 [.acc 0] [some (.acc 31 (aJ l))] (bw (.acc 1) [some (.acc 31 (aJ l)),some (.acc 33 (cH (plain l)))]):=by
 refine gT (nt:=21) (rs:=[.tmp 2]) hm Tryz.func21 fun hl he cp=>?_
 refine aI hm (fun(i:Nat)=> i≤l.length) (fun(i:Nat)=> ⟨eQ 21 .any [(0,.acc 0),(3,.acc 1),(4,iv i)],[some (.acc 31 (aJ l)),some (.acc 33 (cH (plain (l.take i))))]⟩) (fun(i:Nat)=> l.length-i) (0) ?_ (ax [some 0,some 1] ?_ ?_ rfl rfl) ?_
 rotate_left
 ·exact sD
 ·refine sB ?_
  all_goals(simp[plain,cH])
 rotate_left
 ·omega
 ·rintro i hi
  have hv:=tP (l.take i)
  have jT:(l.take i).length=i:=by rw[aO];omega
  rcases aa (i<l.length) with h1|h1
  ·refine yA ?_
   refine sQ ?_
   refine⟨i+1,?_,sL,ax [some 0,some 2] ?_ ?_ rfl rfl⟩
   rotate_left
   ·exact sD
   ·refine sB ?_
    all_goals((rw[qR h1,←o0];rfl))
   exact h1
  ·have et:l.take i=l:=an (by omega)
   simp -implicitDefEqProofs only[go_sem,Z1,Z2,Z3,Z4,h1,et]
   refine bh [some 0,some 1] ?_ rfl rfl
   exact sD
theorem qu(b:List Int)(hb:nh b)(s:eJ)(hs:c7 s)(p:Int)(h1:0≤p)(h2:p≤800000000):C E.P 63 [.ptr 0 0,av (dc s)] [some (la b p)] (bw (lv (aJ (dY b s p).1)) [some (la b (dY b s p).2)]):=by
 have hmem:=kH hb (p:=p) (l:=[2,3,4,5,1]) h1 (by simp)
 simp only[aw,b9,or_false] at hmem
 obtain⟨N,eN⟩:∃N:Nat,dG b p [2,3,4,5,1]=N:=⟨(dG b p [2,3,4,5,1]).toNat,by omega⟩
 have hN:N≤5:=by omega
 obtain⟨y,e0⟩:∃y,dY b s p=y:=⟨_,rfl⟩
 have ea:=e0
 unfold dY at ea
 simp only[eN,aA] at ea
 rw[e0,←ea]
 refine gT (nt:=41) (rs:=[.tmp 4]) hm Tryz.func63 fun hl he cp=>?_
 refine bT [] [0] (jh b p [2,3,4,5,1] hb h1 (by omega) (by simp) (by simp)) ?_ ?_<;>simp -implicitDefEqProofs only[go_sem,Z1,Z2,Z3,Z4,eN]
 refine kL hm (fun(j:Nat) (q:Int) (out:List Atom)=> j≤N∧0≤q∧q≤p+1+(N-j)*60∧out.length≤N-j∧dZ (gn b s) N [] (p+1)=dZ (gn b s) j out q) (fun(j:Nat) (q:Int) (out:List Atom)=> ⟨eQ 41 .any [(0,.ptr 0 0),(3,.ptr 1 0),(5,.acc 2),(6,iv j)],[some (la b q),some (.box (ff (dc s))),some (.acc 31 (aJ out))]⟩) (fun(j:Nat) (q:Int) (out:List Atom)=> j) (N) (p+1) ([]) ?_ (ax [some 0,some 1,some 2] ?_ ?_ rfl rfl) ?_
 rotate_left
 ·exact sD
 ·exact sD
 rotate_left
 ·exact⟨Nat.le_refl _,by omega,by omega,by simp,rfl⟩
 ·rintro j q out ⟨hj,hq1,hq2,hol,hg⟩
  rcases aa ((0:Int)<(j:Int)) with h3|h3
  ·obtain⟨j,rfl⟩:∃j',j=j'+1:=⟨j-1,by omega⟩
   have hA:=EV hb hs (p:=q) hq1
   rw[dZ] at hg
   have est:gn b s out q=(if fQ s (plain (out++[(jK b s q).1])) then addAtom out (jK b s q).1 else out,(jK b s q).2):=rfl
   rw[est] at hg
   simp only at hg
   have c1:=AN b hb s hs q hq1 (by omega)
   obtain⟨x,hx⟩:∃x,jK b s q=x:=⟨_,rfl⟩
   rw[hx] at hg c1 hA
   have hjs:((j:Int)+1-1)=(j:Int):=by omega
   have h3:(0:Int)<(j:Int)+1:=by omega
   have hlits:=vh (out++[x.1]) (by simp;omega)
   rw[←lx,na,lz] at hlits
   refine yC ?_
   refine oD [] [0] c1 ?_
   refine sQ ?_
   refine oD [] [6,7] hlits ?_
   refine ja [] [7] (qf s (plain (out++[x.1]))) rfl ?_ ?_ ?_
   ·exact sV
   all_goals simp -implicitDefEqProofs only[go_sem,Z1,Z2,Z3,Z4]
   refine iK ?_
   cases h4:fQ s (plain (out++[x.1]))
   ·rw[h4] at hg
    simp -implicitDefEqProofs only[go_sem,Z1,Z2,Z3,Z4,hjs]
    refine sQ ?_
    refine⟨j,x.2,out,?_,sL,ax [some 0,some 1,some 2] ?_ ?_ rfl rfl⟩
    rotate_left
    ·exact sD
    ·exact sD
    exact⟨by omega,by omega,by omega,by omega,hg⟩
   ·rw[h4] at hg
    have hal:(addAtom out x.1).length≤out.length+1:=by unfold addAtom;split<;>simp
    simp -implicitDefEqProofs only[go_sem,Z1,Z2,Z3,Z4,hjs]
    refine oD [] [2,8] (r7 out x.1 (by omega)) ?_
    refine sQ ?_
    refine⟨j,x.2,addAtom out x.1,?_,sL,ax [some 0,some 1,some 8] ?_ ?_ rfl rfl⟩
    rotate_left
    ·refine sB ?_
     all_goals(simp[aS, *];done)
    ·exact sD
    exact⟨by omega,by omega,by omega,by omega,hg⟩
  ·obtain rfl:j=0:=by omega
   rw[dZ] at hg
   rw[hg]
   rcases aa (out.length=0) with h4|h4
   ·have k4:((out.length:Int)=0)=True:=eq_true (by omega)
    simp only[if_pos h4]
    simp -implicitDefEqProofs only[go_sem,Z1,Z2,Z3,Z4,h3,k4]
    refine sQ ?_
    refine bh [some 0] ?_ rfl rfl
    refine sB ?_
    exact⟨by rw[←lx];rfl,rfl⟩
   ·have h4':¬ (out.length:Int)=0:=by omega
    simp only[if_neg h4]
    simp -implicitDefEqProofs only[go_sem,Z1,Z2,Z3,Z4,h3,h4']
    refine bh [some 0] ?_ rfl rfl
    refine sB ?_
    rfl
theorem yS(b:List Int)(hb:nh b)(p:Int)(h1:0≤p)(h2:p≤700000000):C E.P 35 [.ptr 0 0] [some (la b p)] (bw (.gN [av (dc (om b p).1),av (cx (om b p).2.1)]) [some (la b (om b p).2.2)]):=by
 have hs:c7 (gx b p).1:=lX _
 have hsp:(gx b p).2=p+1:=rfl
 have hT:=v7 hb hs (p:=p+1) (by omega)
 have cT:=qu b hb (gx b p).1 hs (p+1) (by omega) (by omega)
 obtain⟨y,e0⟩:∃y,om b p=y:=⟨_,rfl⟩
 have ea:=e0
 unfold om at ea
 simp only at ea
 obtain⟨a,hta⟩:∃a,dY b (gx b p).1 (p+1)=a:=⟨_,rfl⟩
 rw[hta] at ea hT cT
 obtain⟨d,ed,d1,d2,d3⟩:=zF hb (p:=a.2) (by omega) (l:=[3,4,2,3,1]) (by simp) (by decide)
 simp only[ed,aA] at ea
 have cA:=lk b hb a.1 (by omega) (by omega) d (a.2+1) d1 (by omega) (by omega)
 rw[e0,←ea]
 refine gT (nt:=16) (rs:=[.cell 2 25,.cell 3 36]) hm Tryz.func35 fun hl he cp=>?_
 refine bT [] [0] (sg b p hb h1 (by omega)) ?_ ?_<;>simp -implicitDefEqProofs only[go_sem,Z1,Z2,Z3,Z4,hsp]
 refine oD [] [0] cT ?_
 refine bT [] [0] (jh b a.2 [3,4,2,3,1] hb (by omega) (by omega) (by simp) (by simp)) ?_ ?_<;>simp -implicitDefEqProofs only[go_sem,Z1,Z2,Z3,Z4,ed]
 refine oD [] [0] cA ?_
 refine iK ?_
 refine bh [some 0] ?_ rfl rfl
 exact sD
theorem ur{l:List Sym}{k:Nat}(h:k<l.length)(x:Sym)(r:List D)(hr:r=qa x):(eB l).set k r=eB (l.set k x):=by
 rw[hr,eB,eB,List.map_set]
theorem fg(b:List Int)(hb:nh b)(s:eJ)(wA:s.syms.length≤100)(ha9:∀x∈s.syms,x.args.length≤1000)(p:Int)(h1:0≤p)(h2:p≤900000000) :
 C E.P 39 [.ptr 0 0,av (dc s)] [some (la b p)] (bw (av (dc (dK b s p).1)) [some (la b (dK b s p).2)]):=by
 have q2:p+1+1=p+2:=by omega
 have q3:p+2+1=p+3:=by omega
 have q4:p+3+1=p+4:=by omega
 have cp:=CA
 refine Ah (nt:=116) (rs:=[.cell 4 25]) Tryz.func39 rfl rfl rfl rfl rfl (fun hl he=>?_)
 simp -implicitDefEqProofs only[go_sem] at hl⊢
 refine lu hm ?_
 refine sA ?_
 refine aI hm (fun(i:Nat)=> i≤s.syms.length) (fun(i:Nat)=> ⟨eQ 116 .any [(0,.ptr 0 0),(3,.ptr 1 0),(4,.ptr 2 0),(5,.ptr 3 0),(6,iv i)],[some (la b p),some (.box (ff (dc s))),some (.box [.aV]),some (.box [.acc 4]),some (.cY 129 (pn (s.syms.take i)))]⟩) (fun(i:Nat)=> s.syms.length-i) (0) ?_ (ax [some 0,some 1,some 2,some 4,some 3] ?_ ?_ rfl rfl) ?_
 rotate_left
 ·exact sC
 ·refine sA ?_
  all_goals(rfl)
 rotate_left
 ·omega
 ·rintro i hi
  have hp:(pn (s.syms.take i)).length=i:=by rw[xm,aO];omega
  rcases aa (i<s.syms.length) with h3|h3
  ·have ha:=ha9 s.syms[i] (ah h3)
   have mr:=jo s.syms[i].args
   refine uC ?_
   refine sQ ?_
   refine⟨i+1,?_,?_,CF 9 i _ rfl (by rw[ao,hp];simp) (w8 hp) ?_⟩
   rotate_left
   ·show _ < _
    omega
   ·refine sA ?_
    refine ax [some 0,some 1,some 2,some 3,some 9] ?_ ?_ rfl rfl
    ·exact sC
    ·refine sA ?_
     all_goals(rw[yK hp];exact⟨zZ h3,(congrArg (fun z=>(b6 z).isSome) (zZ h3)).trans (Lg _)⟩)
   exact h3
  ·have et:s.syms.take i=s.syms:=an (by omega)
   rw[et]
   rcases aa (s.syms.length=0) with h4|h4
   ·have e:dK b s p=(s,p):=by rw[dK,if_pos h4]
    have k4:((s.syms.length:Int)=0)=True:=eq_true (by omega)
    simp -implicitDefEqProofs only[go_sem,h3,k4]
    refine iu ?_
    refine bh [some 0] ?_ rfl rfl
    refine sA ?_
    rw[e]
    exact⟨⟨⟨_,rfl,rfl⟩,rfl⟩,rfl⟩
   have k4:¬ (s.syms.length:Int)=0:=by omega
   simp -implicitDefEqProofs only[go_sem,h3,k4]
   refine oC [] [0] (eO b p 8 hb h1 (by omega)) ?_
   rcases aa (0<bo b p 8) with h5|h5
   ·have e:dK b s p=(s,p+1):=by rw[dK,if_neg h4,if_pos h5]
    refine uE ?_
    refine iu ?_
    refine bh [some 0] ?_ rfl rfl
    refine sA ?_
    rw[e]
    exact⟨⟨⟨_,rfl,rfl⟩,rfl⟩,rfl⟩
   refine uE ?_
   obtain⟨k,ek,hk⟩:=kq hb (p:=p+1) (n:=s.syms.length) (by omega) (by omega)
   obtain⟨x,hx⟩:∃x,s.syms[k]=x:=⟨_,rfl⟩
   have ex:s.syms.getD k ⟨[],[],0⟩=x:=by rw[←hx,aB,ab hk];rfl
   have kM:row (eB s.syms) k=qa x:=by rw[u7 hk,hx]
   obtain⟨y,e0⟩:∃y,dK b s p=y:=⟨_,rfl⟩
   have ee:=e0
   unfold dK at ee
   simp only[if_neg h4,if_neg h5,ek,aA,ex] at ee
   refine bT [] [0] (eO b (p+1) s.syms.length hb (by omega) (by omega)) ?_ ?_<;>simp -implicitDefEqProofs only[go_sem,ek,q2]
   rcases aa (bo b (p+2) 5=1) with c1|c1
   ·have c0:¬bo b (p+2) 5=0:=by omega
    have k1:=eq_true c1
    rw[if_neg c0,if_pos c1] at ee
    have hkT:k<(pn s.syms).length:=by rw[xm];exact hk
    have hrowT:jR (pn s.syms) k=[.leaf (.str x.name),.own 3 (tC x.args),.leaf (.val (.int .i64 x.sort))]:=by rw[Ib hk,hx];rfl
    have hrs:∀r,jR ((pn s.syms).set k r) k=r:=fun r=>Lw hkT
    have hxa:x.args.length≤1000:=by rw[←hx];exact ha9 _ (ah hk)
    refine OH (J4 4 k _ rfl hkT hrowT) ?_
    refine sA ?_
    refine bT [] [0] (eO b (p+2) 5 hb (by omega) (by omega)) ?_ ?_<;>simp -implicitDefEqProofs only[go_sem,c0,k1,q3,hrs]
    refine sQ ?_
    refine bT [] [0] (jh b (p+3) [0,2,-1,1] hb (by omega) (by omega) (by simp) (by simp)) ?_ ?_<;>simp -implicitDefEqProofs only[go_sem,q4,hrs]
    refine sQ ?_
    refine⟨_,rA.EH (rT 4 k _ rfl (by rw[List.length_set];exact hkT) (hrs _)),?_⟩
    refine sA ?_
    refine bh [some 0] ?_ rfl rfl
    refine sA ?_
    rw[e0,←ee]
    have dh:=JS s.syms k ⟨x.name,x.args++[dG b (p+3) [0,2,-1,1]],x.sort⟩
    rw[um,←HZ] at dh
    exact⟨⟨⟨_,(congrArg b6 dh).trans (oQ _),rfl⟩,rfl⟩,rfl⟩
   refine OH (Kq 4 rfl (oQ _)) ?_
   refine sA ?_
   refine bT [] [0] (eO b (p+2) 5 hb (by omega) (by omega)) ?_ ?_<;>simp -implicitDefEqProofs only[go_sem,q3]
   rcases aa (bo b (p+2) 5=0) with c0|c0
   ·have k0:=eq_true c0
    rw[if_pos c0] at ee
    refine uH ?_
    refine bT [] [0] (Ns b (p+3) [[],[65],[97,98,99],[122,122],[97]] hb (by omega) (by omega) (by simp) (by simp)) ?_ ?_<;>simp -implicitDefEqProofs only[go_sem,hk,q4]
    refine iK ?_
    refine iu ?_
    refine bh [some 0] ?_ rfl rfl
    refine sA ?_
    rw[e0,←ee]
    exact⟨⟨(ur hk ⟨E5 b (p+3) [[],[65],[97,98,99],[122,122],[97]],x.args,x.sort⟩ _ (by rw[hx];rfl)).symm,rfl⟩,rfl⟩
   rw[if_neg c0,if_neg c1] at ee
   rcases aa (bo b (p+2) 5=2) with c2|c2
   ·have k2:=eq_true c2
    rw[if_pos c2] at ee
    simp -implicitDefEqProofs only[go_sem,c0,c1,k2]
    refine bT [] [0] (jh b (p+3) [1,2,-1,0] hb (by omega) (by omega) (by simp) (by simp)) ?_ ?_<;>simp -implicitDefEqProofs only[go_sem,hk,q4]
    refine iK ?_
    refine iu ?_
    refine bh [some 0] ?_ rfl rfl
    refine sA ?_
    rw[e0,←ee]
    exact⟨⟨(ur hk ⟨x.name,x.args,dG b (p+3) [1,2,-1,0]⟩ _ (by rw[hx];rfl)).symm,rfl⟩,rfl⟩
   rw[if_neg c2] at ee
   rcases aa (bo b (p+2) 5=3) with c3|c3
   ·have k3:=eq_true c3
    rw[if_pos c3] at ee
    simp -implicitDefEqProofs only[go_sem,c0,c1,c2,k3,hk,kM]
    refine sQ ?_
    refine iu ?_
    refine bh [some 0] ?_ rfl rfl
    refine sA ?_
    rw[e0,←ee]
    exact⟨⟨by rw[←mJ];rfl,rfl⟩,rfl⟩
   rw[if_neg c3] at ee
   simp -implicitDefEqProofs only[go_sem,c0,c1,c2,c3]
   refine pr hm (fun(l:List Sym) (q:Int)=> p+3≤q∧q≤p+3+l.length∧l.length≤100∧oh b (8-s.syms.length) s.syms (p+3)=oh b (8-l.length) l q) (fun(l:List Sym) (q:Int)=> ⟨eQ 116 .any [(0,.ptr 0 0),(4,.ptr 2 0),(5,.ptr 3 0)],[some (la b q),some (.box (ff (dc s))),some (.box [.aV]),some (.box [.acc 4]),some (.acc 129 (eB l))]⟩) (fun(l:List Sym) (q:Int)=> 8-l.length) (s.syms) (p+3) ?_ (ax [some 0,some 1,some 2,some 3,some 4] ?_ ?_ rfl rfl) ?_
   rotate_left
   ·exact sC
   ·exact sC
   rotate_left
   ·exact⟨by omega,by omega,wA,rfl⟩
   ·rintro l q ⟨b1,b2,b3,hg⟩
    rcases aa (l.length≤7) with h6|h6
    ·have h6':(l.length:Int)≤7:=by omega
     have e8:8-l.length=(8-(l.length+1))+1:=by omega
     rw[e8,oh] at hg
     have hof:=LA hb (p:=q) (l:=[[97],[98],[122]]) (by omega) (by simp)
     have hol:(E5 b q [[97],[98],[122]]).length=1:=by
      simp only[aw,b9,or_false] at hof
      rcases hof with e|e|e<;>rw[e]<;>rfl
     have hla:(l++[(⟨122::E5 b q [[97],[98],[122]],[],0⟩:Sym)]).length=l.length+1:=by simp
     simp -implicitDefEqProofs only[go_sem,h6']
     refine oC [] [0] (Ns b q [[97],[98],[122]] hb (by omega) (by omega) (by simp) (by simp)) ?_
     refine sQ ?_
     refine⟨l++[(⟨122::E5 b q [[97],[98],[122]],[],0⟩:Sym)],q+1,?_,sL,ax [some 0,some 1,some 2,some 3,some 5] ?_ ?_ rfl rfl⟩
     rotate_left
     ·exact sC
     ·refine sA ?_
      all_goals((rw[←mJ];rfl))
     exact⟨by omega,by simp;omega,by simp;omega,by simpa using hg⟩
    ·have h6':¬ (l.length:Int)≤7:=by omega
     have e8:8-l.length=0:=by omega
     rw[e8,oh] at hg
     rw[hg] at ee
     simp -implicitDefEqProofs only[go_sem,h6']
     refine iu ?_
     refine bh [some 0] ?_ rfl rfl
     refine sA ?_
     rw[e0,←ee]
     exact⟨⟨rfl,rfl⟩,rfl⟩
theorem Ja(A:List Term)(t:Term):b6 (lift (aQ A)++[[T.leaf (D.str t.name),T.own 28 (nG t.kids)]])=some (aQ (A++[t])):=by
 have h1:b6 [[T.leaf (D.str t.name),T.own 28 (nG t.kids)]]=some [cT t]:=by simp[b6,eb,T.zr,oa,cT]
 rw[BG (lD _) h1,←iw,eW,gQ]
theorem Gq(A:List Term)(t:Term):b6 (lift (aQ A)++[[T.leaf (D.str t.name),T.own 28 (nG t.kids)],[T.leaf (D.str t.name),T.own 28 (nG t.kids)]])=some (aQ (A++[t,t])):=by
 have h1:b6 [[T.leaf (D.str t.name),T.own 28 (nG t.kids)],[T.leaf (D.str t.name),T.own 28 (nG t.kids)]]=some [cT t,cT t]:=by simp[b6,eb,T.zr,oa,cT]
 rw[BG (lD _) h1,←iw,eW,eW,gQ]
theorem te(t:Term)(ih:∀k∈t.kids,C E.P 130 [av (cT k)] [] (bw (.agg [sv k.name,.acc 0]) [some (.cY 28 (nG k.kids))])):C E.P 130 [av (cT t)] [] (bw (.agg [sv t.name,.acc 0]) [some (.cY 28 (nG t.kids))]):=by
 refine gS (nt:=27) (rs:=[.cell 2 28]) hm Tryz.func130 fun hl he cp=>?_
 refine aI hm (fun(i:Nat)=> i≤t.kids.length) (fun(i:Nat)=> ⟨eQ 27 .any [(1,.ptr 0 0),(2,.ptr 1 0),(3,.ptr 2 0),(4,iv i)],[some (.box (ff (cT t))),some (.box (ff (cT fq))),some (.box [.d (.str t.name),.acc 3]),some (.cY 28 (nG (t.kids.take i)))]⟩) (fun(i:Nat)=> t.kids.length-i) (0) ?_ (ax [some 0,some 1,some 2,none] ?_ ?_ rfl rfl) ?_
 rotate_left
 ·exact sC
 ·refine sA ?_
  all_goals(rfl)
 rotate_left
 ·omega
 ·rintro i hi
  have hp:(nG (t.kids.take i)).length=i:=by rw[Ff,aO];omega
  rcases aa (i<t.kids.length) with h1|h1
  ·refine uA ?_
   have hc:=ih t.kids[i] (ah h1)
   refine oC [] [4] hc ?_
   refine sQ ?_
   refine⟨i+1,?_,?_,CF 6 i _ rfl (by rw[ao,hp];simp) (w8 hp) ?_⟩
   rotate_left
   ·show _ < _
    omega
   ·refine sA ?_
    refine ax [some 0,some 1,some 2,some 6] ?_ ?_ rfl rfl
    ·exact sC
    ·refine sA ?_
     all_goals(rw[yK hp];exact⟨CB h1,(congrArg (fun z=>(b6 z).isSome) (CB h1)).trans (NH _)⟩)
   exact h1
  ·have et:t.kids.take i=t.kids:=an (by omega)
   simp -implicitDefEqProofs only[go_sem,h1,et]
   refine bh [some 3] ?_ rfl rfl
   exact sC
theorem kS:∀t,C E.P 130 [av (cT t)] [] (bw (.agg [sv t.name,.acc 0]) [some (.cY 28 (nG t.kids))]):=
 Term.ind fun n ks ih=>te (.mk n ks) ih
theorem zo(b:List Int)(hb:nh b)(s:eJ)(hs:c7 s)(p:Int)(h1:0≤p)(h2:p≤900000000):C E.P 71 [.ptr 0 0,av (dc s)] [some (la b p)] (bw (av (cT (zJ b s p).1)) [some (la b (zJ b s p).2)]):=by
 obtain⟨d,ed,FQ,hd4⟩:∃d:Nat,dG b (p+1) [2,3,1,4]=d∧1≤d∧d≤4:=by
  have hm:=kH hb (p:=p+1) (l:=[2,3,1,4]) (by omega) (by simp)
  simp only[aw,b9,or_false] at hm
  exact⟨(dG b (p+1) [2,3,1,4]).toNat,by omega,by omega,by omega⟩
 have hpw:(2:Int) ^ d≤16:=by
  have:=Nat.pow_le_pow_right (n:=2) (by omega) hd4
  have e:(2:Int) ^ d=((2 ^ d:Nat):Int):=by simp
  omega
 have ha:=x6 (b:=b) hs d (bo b p 2) (p+2)
 obtain⟨y,e0⟩:∃y,zJ b s p=y:=⟨_,rfl⟩
 have ee:=e0
 unfold zJ at ee
 simp only[ed,aA] at ee
 obtain⟨r,hr⟩:∃r,dW b s d (bo b p 2) (p+2)=r:=⟨_,rfl⟩
 have hO:=l9 b hb s hs d (bo b p 2) (p+2) FQ (by omega) (by omega)
 have hk2:=GH b hs d (bo b p 2) (p+2)
 rw[hr] at ee ha hO hk2
 rw[e0,←ee]
 have hp:(lift (aQ r.1.kids)).length=r.1.kids.length:=by simp[lift,lJ]
 have q2:p+1+1=p+2:=by omega
 have cp:=CA
 refine Ah (nt:=49) (rs:=[.cell 4 28]) Tryz.func71 rfl rfl rfl rfl rfl (fun hl he=>?_)
 simp -implicitDefEqProofs only[go_sem] at hl⊢
 refine lu hm ?_
 refine oC [] [0] (eO b p 2 hb h1 (by omega)) ?_
 refine oC [] [0] (jh b (p+1) [2,3,1,4] hb (by omega) (by omega) (by simp) (by simp)) ?_
 rw[ed,q2]
 refine oC [] [0,3] hO ?_
 refine iK ?_
 refine oC [] [0] (eO b r.2 48 hb (by omega) (by omega)) ?_
 rcases aa (bo b r.2 48=0) with c0|c0
 ·have k0:=eq_true c0
  rw[if_pos c0]
  refine uH ?_
  have qr:r.2+1+1=r.2+2:=by omega
  refine bT [] [0] (Ns b (r.2+1) [[],[65],[97,98,99],[102]] hb (by omega) (by omega) (by simp) (by simp)) ?_ ?_<;>simp -implicitDefEqProofs only[go_sem,qr]
  refine iu ?_
  refine bh [some 0] ?_ rfl rfl
  refine sA ?_
  rfl
 rw[if_neg c0]
 rcases aa (bo b r.2 48=1) with c1|c1
 ·have k1:=eq_true c1
  rw[if_pos c1]
  simp -implicitDefEqProofs only[go_sem,c0,k1]
  refine Bg [] [3] [5] (kS r.1) rfl ?_ ?_ ?_
  ·exact sV
  all_goals simp -implicitDefEqProofs only[go_sem]
  refine sQ ?_
  refine w9 (rT 8 r.1.kids.length _ rfl (by rw[ao,hp];simp) (w8 hp)) ?_
  refine sA ?_
  rw[yK hp]
  refine iu ?_
  refine bh [some 0] ?_ rfl rfl
  refine sA ?_
  exact⟨⟨_,Ja _ _,rfl⟩,rfl⟩
 rw[if_neg c1]
 rcases aa (bo b r.2 48=2) with c2|c2
 ·have k2:=eq_true c2
  rw[if_pos c2]
  simp -implicitDefEqProofs only[go_sem,c0,c1,k2]
  refine Bg [] [3] [5] (kS r.1) rfl ?_ ?_ ?_
  ·exact sV
  all_goals simp -implicitDefEqProofs only[go_sem]
  refine Bg [] [3] [7] (kS r.1) rfl ?_ ?_ ?_
  ·exact sV
  all_goals simp -implicitDefEqProofs only[go_sem]
  refine sQ ?_
  refine w9 (rT 10 r.1.kids.length _ rfl (by rw[ao,hp];simp) (JK hp)) ?_
  refine sA ?_
  rw[Ho hp]
  refine w9 (rT 10 (r.1.kids.length+1) _ rfl (by rw[ao,hp];simp) (IZ hp)) ?_
  refine sA ?_
  rw[JZ hp]
  refine iu ?_
  refine bh [some 0] ?_ rfl rfl
  refine sA ?_
  exact⟨⟨_,Gq _ _,rfl⟩,rfl⟩
 ·rw[if_neg c2]
  simp -implicitDefEqProofs only[go_sem,c0,c1,c2]
  refine iu ?_
  refine bh [some 0] ?_ rfl rfl
  refine sA ?_
  rfl
end Go.Proofs.YtgpjhjalfakpoaaGreat
