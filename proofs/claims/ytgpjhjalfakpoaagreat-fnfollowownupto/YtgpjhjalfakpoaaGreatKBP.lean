/-
  The reference: the walks of atoms and literals. A step towards the exact laws.
-/
import Derived.Test.YtgpjhjalfakpoaaGreatKBI
set_option linter.unusedVariables false
set_option linter.unusedSimpArgs false
open Bool renaming true_and→az,false_and→aK
open Classical renaming em→aa
open List renaming drop_eq_getElem_cons→af,drop_of_length_le→ag,getElem_mem→ah,take_of_length_le→an,all_cons→du,mem_of_mem_take→eP,all_nil→fe,filter_append→fx
open Nat renaming le_trans→eC
open Option renaming getD_some→bP,getD_none→gu
namespace Go.Proofs.YtgpjhjalfakpoaaGreat
open Go.Eng Go.Mod
open Int renaming reduceEq→Z1,reduceLT→Z2,reduceLE→Z3,reduceToNat→Z4
set_option maxRecDepth 100000
set_option maxHeartbeats 800000
theorem tu{n lo hi:Int}(h:within n lo hi=false):n<lo∨hi<n:=by
 simp only[within,Bool.and_eq_false_iff,decide_eq_false_iff_not] at h
 omega
theorem CP{a:Atom}(k2:a.kind=2):bW a=(isNone a.A&&(isNone a.B&&(within a.aP.length 1 4&&(decide (a.times.length=a.aP.length)&&(within a.bound (-1000) 1000&&jB none a.aP a.times))))):=by simp[bW,k2]
theorem tq(a:Atom)(e:bW a=jB none a.aP a.times)(h1:isNone a.A=true)(h2:isNone a.B=true)(h4:a.aP.length=a.times.length)(h5:¬ (a.aP.length:Int)<1)(h6:¬ (4:Int)<(a.aP.length:Int))(h8:¬a.bound < -1000)(h9:¬1000<a.bound):C E.P 140 [av (dS a)] [] (bw (bv (bW a)) []):=by
 have k4:=eq_true h4
 refine gS (nt:=97) (rs:=[.tmp 2]) hm Tryz.func140 fun hl he cp=>?_
 refine fm [] (kp a.A) ?_ ?_<;>simp -implicitDefEqProofs only[go_sem,h1]
 refine fm [] (kp a.B) ?_ ?_<;>simp -implicitDefEqProofs only[go_sem,h2,k4,h5,h6,h8,h9]
 refine aI hm (fun(i:Nat)=> i≤a.aP.length∧bW a=jB (iI a.aP i) (a.aP.drop i) (a.times.drop i)∧∀q,iI a.aP i=some q→isTerm q=true) (fun(i:Nat)=> ⟨eQ 97 .any [(1,.ptr 0 0),(3,iv i)],[some (.box (ff (dS a)))]⟩) (fun(i:Nat)=> a.aP.length-i) (0) ?_ (ax [some 0] ?_ ?_ rfl rfl) ?_
 rotate_left
 ·exact sC
 ·simp -implicitDefEqProofs only[go_sem]
 rotate_left
 ·exact⟨by omega,e,fun q h=>by cases h⟩
 ·rintro i ⟨hi,hg,hp⟩
  rcases aa (i<a.aP.length) with g1|g1
  ·have g2:i<a.times.length:=by omega
   rw[u9 g1 g2] at hg
   simp -implicitDefEqProofs only[go_sem,g1,g2]
   refine aC [] (lN a.aP[i]) ?_
   cases q1:isTerm a.aP[i]
   ·rw[q1,aK] at hg
    simp -implicitDefEqProofs only[go_sem]
    refine iK ?_
    refine ak ?_
    refine sA ?_
    all_goals(simp[hg];done)
   ·rw[q1,az] at hg
    refine sA ?_
    rcases aa (a.times[i]=0) with q3|q3
    ·have k3:=eq_true q3
     have hg:bW a=false:=by rw[hg];simp[q3]
     simp -implicitDefEqProofs only[go_sem,k3]
     refine iK ?_
     refine ak ?_
     refine sA ?_
     all_goals(simp[hg];done)
    ·simp -implicitDefEqProofs only[go_sem,q3]
     cases q2:within a.times[i] (-50) 50
     ·have hg:bW a=false:=by rw[hg,q2];rfl
      rcases aa (a.times[i] < -50) with q5|q5
      ·simp -implicitDefEqProofs only[go_sem,q5]
       refine iK ?_
       refine ak ?_
       refine sA ?_
       all_goals(simp[hg];done)
      ·have q6:50<a.times[i]:=by have:=tu q2;omega
       simp -implicitDefEqProofs only[go_sem,q5,q6]
       refine iK ?_
       refine ak ?_
       refine sA ?_
       all_goals(simp[hg];done)
     ·have q2':=cF.1 q2
      have q5:¬a.times[i] < -50:=by omega
      have q6:¬50<a.times[i]:=by omega
      rw[q2,az] at hg
      simp only[q3,not_false_eq_true,ne_eq,decide_true,az] at hg
      cases i with
      | zero=>
        simp only[iI,az] at hg
        simp -implicitDefEqProofs only[go_sem,q5,q6,Int.lt_irrefl]
        refine iK ?_
        refine sQ ?_
        refine⟨0+1,?_,sL,ax [some 0] ?_ ?_ rfl rfl⟩
        rotate_left
        ·refine sA ?_
         all_goals(simp[*];done)
        ·exact sC
        refine⟨by omega,?_,?_⟩
        ·rw[hg,fE g1]
        ·intro q hq
         rw[fE g1] at hq
         cases hq
         exact q1
      | succ j=>
        have hj:j<a.aP.length:=by omega
        have e1:((j:Int)+1-1)=(j:Int):=by omega
        have e2:(0:Int)<(j:Int)+1:=by omega
        have et:((j:Int)+1).toNat=j+1:=by omega
        have tp:=hp _ (fE hj)
        rw[fE hj] at hg
        simp only at hg
        simp -implicitDefEqProofs only[go_sem,q5,q6,e1,e2,hj]
        refine sQ ?_
        refine fm [] (oS a.aP[j] tp) ?_ ?_<;>simp -implicitDefEqProofs only[go_sem,et,g1]
        refine sQ ?_
        refine aC [] (oS a.aP[j+1] q1) ?_
        refine iK ?_
        cases q4:iE (aF a.aP[j]) (aF a.aP[j+1])
        ·rw[q4,aK] at hg
         have h5:Op.bytesLess (aF a.aP[j]) (aF a.aP[j+1])=false:=q4
         refine uE ?_
         refine ak ?_
         refine sA ?_
         all_goals(simp[hg];done)
        ·rw[q4,az] at hg
         have h5:Op.bytesLess (aF a.aP[j]) (aF a.aP[j+1])=true:=q4
         refine uE ?_
         refine sQ ?_
         refine⟨j+1+1,?_,sL,ax [some 0] ?_ ?_ rfl rfl⟩
         rotate_left
         ·exact sC
         ·exact sC
         refine⟨by omega,?_,?_⟩
         ·rw[hg,fE g1]
         ·intro q hq
          rw[fE g1] at hq
          cases hq
          exact q1
  ·rw[ag (by omega),ag (by omega)] at hg
   have hg:bW a=true:=by rw[hg];cases iI a.aP i<;>rfl
   refine uI ?_
   refine ak ?_
   refine sA ?_
   all_goals(simp[hg];done)
theorem vC(a:Atom)(k2:a.kind=2)(hno:¬ (isNone a.A=true∧isNone a.B=true∧a.aP.length=a.times.length∧within a.aP.length 1 4=true∧within a.bound (-1000) 1000=true)):C E.P 140 [av (dS a)] [] (bw (bv (bW a)) []):=by
 have e:=CP k2
 refine gS (nt:=97) (rs:=[.tmp 2]) hm Tryz.func140 fun hl he cp=>?_
 refine aC [] (kp a.A) ?_
 cases h1:isNone a.A
 ·simp -implicitDefEqProofs only[go_sem]
  refine ak ?_
  refine sA ?_
  all_goals(simp[e,h1];done)
 ·simp -implicitDefEqProofs only[go_sem]
  refine aC [] (kp a.B) ?_
  cases h2:isNone a.B
  ·simp -implicitDefEqProofs only[go_sem]
   refine ak ?_
   refine sA ?_
   all_goals(simp[e,h1,h2];done)
  ·refine sA ?_
   rcases aa (a.aP.length=a.times.length) with h4|h4
   ·have h4':a.times.length=a.aP.length:=h4.symm
    have k4:=eq_true h4
    simp -implicitDefEqProofs only[go_sem,k4]
    cases h3:within a.aP.length 1 4
    ·have e0:bW a=false:=by simp[e,h3]
     rcases aa ((a.aP.length:Int)<1) with h5|h5
     ·refine uE ?_
      refine ak ?_
      refine sA ?_
      all_goals(simp[e0];done)
     ·have h6:(4:Int)<(a.aP.length:Int):=by have:=tu h3;omega
      simp -implicitDefEqProofs only[go_sem,h5,h6]
      refine ak ?_
      refine sA ?_
      all_goals(simp[e0];done)
    ·have h3':=cF.1 h3
     have h5:¬ (a.aP.length:Int)<1:=by omega
     have h6:¬ (4:Int)<(a.aP.length:Int):=by omega
     simp -implicitDefEqProofs only[go_sem,h5,h6]
     cases h7:within a.bound (-1000) 1000
     ·have e0:bW a=false:=by simp[e,h7]
      rcases aa (a.bound < -1000) with h8|h8
      ·simp -implicitDefEqProofs only[go_sem,h8]
       refine ak ?_
       refine sA ?_
       all_goals(simp[e0];done)
      ·have h9:1000<a.bound:=by have:=tu h7;omega
       simp -implicitDefEqProofs only[go_sem,h8,h9]
       refine ak ?_
       refine sA ?_
       all_goals(simp[e0];done)
     ·exact absurd ⟨h1,h2,h4,h3,h7⟩ hno
   ·have h4':¬a.times.length=a.aP.length:=fun h=>h4 h.symm
    refine uD ?_
    refine ak ?_
    refine sA ?_
    all_goals(simp[e,h4'];done)
theorem AD(a:Atom)(k2:a.kind=2):C E.P 140 [av (dS a)] [] (bw (bv (bW a)) []):=by
 rcases aa (isNone a.A=true∧isNone a.B=true∧a.aP.length=a.times.length∧within a.aP.length 1 4=true∧within a.bound (-1000) 1000=true) with h|h
 ·obtain⟨h1,h2,h4,h3,h7⟩:=h
  have h3':=cF.1 h3
  have h7':=cF.1 h7
  have h4':=h4.symm
  exact tq a (by simp[CP k2,h1,h2,h3,h4',h7]) h1 h2 h4 (by omega) (by omega) (by omega) (by omega)
 ·exact vC a k2 h
theorem lP(a:Atom):C E.P 91 [av (dS a)] [] (bw (bv (bW a)) []):=by
 refine gS (nt:=43) (rs:=[.tmp 2]) hm Tryz.func91 fun hl he cp=>?_
 rcases aa (a.kind=2) with k2|k2
 ·have k:=eq_true k2
  refine uG ?_
  refine fm [] (AD a k2) ?_ ?_<;>simp -implicitDefEqProofs only[go_sem]
  refine ak ?_
  simp -implicitDefEqProofs only[go_sem]
 ·simp -implicitDefEqProofs only[go_sem,k2]
  rcases aa (a.kind=1) with k1|k1
  ·have e:bW a=(isTerm a.A&&(isTerm a.B&&(decide (a.aP.length=0)&&(decide (a.times.length=0)&&(decide (a.bound=0)&& !a.strict))))):=by simp[bW,k1]
   have k:=eq_true k1
   refine uG ?_
   refine aC [] (lN a.A) ?_
   cases h1:isTerm a.A
   ·simp -implicitDefEqProofs only[go_sem]
    refine ak ?_
    refine sA ?_
    all_goals(simp[e,h1];done)
   ·simp -implicitDefEqProofs only[go_sem]
    refine aC [] (lN a.B) ?_
    cases h2:isTerm a.B
    ·simp -implicitDefEqProofs only[go_sem]
     refine ak ?_
     refine sA ?_
     all_goals(simp[e,h1,h2];done)
    ·refine sA ?_
     rcases aa ((a.aP.length:Int)=0) with h3|h3
     ·have h3':a.aP.length=0:=by omega
      have k3:=eq_true h3
      simp -implicitDefEqProofs only[go_sem,k3]
      rcases aa ((a.times.length:Int)=0) with h4|h4
      ·have h4':a.times.length=0:=by omega
       have k4:=eq_true h4
       simp -implicitDefEqProofs only[go_sem,k4]
       rcases aa (a.bound=0) with h5|h5
       ·have k5:=eq_true h5
        simp -implicitDefEqProofs only[go_sem,k5]
        refine ak ?_
        refine sA ?_
        all_goals(simp[e,h1,h2,h3',h4',h5];done)
       ·refine uE ?_
        refine ak ?_
        refine sA ?_
        all_goals(simp[e,h1,h2,h3',h4',h5];done)
      ·have h4':¬a.times.length=0:=by omega
       refine uD ?_
       refine ak ?_
       refine sA ?_
       all_goals(simp[e,h1,h2,h3',h4'];done)
     ·have h3':¬a.aP.length=0:=by omega
      refine uC ?_
      refine ak ?_
      refine sA ?_
      all_goals(simp[e,h1,h2,h3'];done)
  ·simp -implicitDefEqProofs only[go_sem,k1]
   refine ak ?_
   refine sA ?_
   all_goals(simp[bW,k1,k2];done)
theorem BO{s:eJ}{t:Term}(hs:dm s=true)(ht:isTerm t=true):cg s t=decide ((dL s t).getD (-1)=1):=by
 simp only[cg,eG,hs,ht,Bool.and_self,if_true]
 cases dL s t<;>simp
theorem yR(s:eJ)(a:Atom):C E.P 93 [av (dc s),av (dS a)] [] (bw (bv (fa s a)) []):=by
 refine gS (nt:=47) (rs:=[.tmp 4]) hm Tryz.func93 fun hl he cp=>?_
 refine aC [] (nO s) ?_
 cases h1:dm s
 ·refine sA ?_
  refine ak ?_
  refine sA ?_
  all_goals(simp[fa,h1];done)
 ·refine sA ?_
  refine aC [] (lP a) ?_
  cases h2:bW a
  ·refine sA ?_
   refine ak ?_
   refine sA ?_
   all_goals(simp[fa,h1,h2];done)
  ·refine sA ?_
   rcases aa (a.kind=1) with k1|k1
   ·have hAB:=Af h2 k1
    have k:=eq_true k1
    have tA:eG s a.A=dL s a.A:=by simp[eG,h1,hAB.1]
    have tB:eG s a.B=dL s a.B:=by simp[eG,h1,hAB.2]
    have cA:=mB s h1 a.A
    have cB:=mB s h1 a.B
    refine uG ?_
    refine aC [] cA ?_
    cases qA:dL s a.A with
    | none=>
      simp -implicitDefEqProofs only[go_sem,Z3,gu]
      refine ak ?_
      refine sA ?_
      all_goals(simp[fa,h1,h2,k1,jI,tA,qA];done)
    | some n=>
      have hn:=x8.1 (Ch h1 qA)
      have hn2:0≤n:=by omega
      simp -implicitDefEqProofs only[go_sem,bP,hn2]
      refine aC [] cB ?_
      cases qB:dL s a.B with
      | none=>
        have hn3:¬n = -1:=by omega
        simp -implicitDefEqProofs only[go_sem,gu]
        refine ak ?_
        refine sA ?_
        all_goals(simp[fa,h1,h2,k1,jI,tA,tB,qA,qB,hn3];done)
      | some m=>
        simp -implicitDefEqProofs only[go_sem,bP]
        refine ak ?_
        refine sA ?_
        all_goals(simp[fa,h1,h2,k1,jI,tA,tB,qA,qB];done)
   ·have k2:a.kind=2:=(oI h2).resolve_left k1
    have hw:=qM h2 k2
    have hT:=(rf hw.2.2.2.2.2 hw.2.2.2.1).1
    simp -implicitDefEqProofs only[go_sem,k1]
    refine aI hm (fun(i:Nat)=> i≤a.aP.length∧a.aP.all (cg s)=(a.aP.drop i).all (cg s)) (fun(i:Nat)=> ⟨eQ 47 .any [(2,.ptr 0 0),(3,.ptr 1 0),(6,iv i)],[some (.box (ff (dc s))),some (.box (ff (dS a)))]⟩) (fun(i:Nat)=> a.aP.length-i) (0) ?_ (ax [some 0,some 1] ?_ ?_ rfl rfl) ?_
    rotate_left
    ·exact sC
    ·exact sC
    rotate_left
    ·simp
    ·rintro i ⟨hi,hg⟩
     rcases aa (i<a.aP.length) with g1|g1
     ·rw[af g1,du,BO h1 (hT _ (ah g1))] at hg
      have cT:=mB s h1 a.aP[i]
      refine uI ?_
      refine aC [] cT ?_
      refine iK ?_
      rcases aa ((dL s a.aP[i]).getD (-1)=1) with q|q
      ·have k:=eq_true q
       simp only[k,decide_true,az] at hg
       refine uG ?_
       refine sQ ?_
       refine⟨i+1,?_,sL,ax [some 0,some 1] ?_ ?_ rfl rfl⟩
       rotate_left
       ·exact sC
       ·exact sC
       exact⟨by omega,hg⟩
      ·have k:=eq_false q
       simp only[k,decide_false,aK] at hg
       refine uG ?_
       refine ak ?_
       refine sA ?_
       all_goals(simp[fa,h1,h2,k1,hg];done)
     ·rw[ag (by omega),fe] at hg
      refine uI ?_
      refine ak ?_
      refine sA ?_
      all_goals(simp[fa,h1,h2,k1,hg];done)
theorem vE(l:fB)(h:bW l.atom=true):C E.P 144 [av (EZ l)] [] (bw (lv (aQ (cm l.atom))) []):=by
 have hle:=(lB h).1
 refine gS (nt:=43) (rs:=[.tmp 2]) hm Tryz.func144 fun hl he cp=>?_
 refine fm [] (lP l.atom) ?_ ?_<;>simp -implicitDefEqProofs only[go_sem,h]
 rcases aa (l.atom.kind=1) with k1|k1
 ·have k:=eq_true k1
  refine uG ?_
  refine aC [] (kv l.atom.A) ?_
  refine aC [] (kv l.atom.B) ?_
  refine iK ?_
  refine ak ?_
  refine sA ?_
  all_goals(simp[cm,k1,eW,gQ,cT];done)
 ·have e:cm l.atom=l.atom.aP:=by simp[cm,k1]
  rw[e] at hle
  simp -implicitDefEqProofs only[go_sem,k1]
  refine aI hm (fun(i:Nat)=> i≤l.atom.aP.length) (fun(i:Nat)=> ⟨eQ 43 .any [(1,.ptr 0 0),(3,.acc 1),(4,iv i)],[some (.box (ff (EZ l))),some (.acc 28 (aQ (l.atom.aP.take i)))]⟩) (fun(i:Nat)=> l.atom.aP.length-i) (0) ?_ (ax [some 0,some 1] ?_ ?_ rfl rfl) ?_
  rotate_left
  ·exact sC
  ·exact sC
  rotate_left
  ·omega
  ·rintro i hi
   rcases aa (i<l.atom.aP.length) with h1|h1
   ·refine uA ?_
    refine aC [] (kv l.atom.aP[i]) ?_
    refine sQ ?_
    refine⟨i+1,?_,sL,ax [some 0,some 2] ?_ ?_ rfl rfl⟩
    rotate_left
    ·exact sC
    ·refine sA ?_
     all_goals(exact nP h1)
    exact h1
   ·refine uA ?_
    refine ak ?_
    refine sA ?_
    rw[an (by omega),e]
theorem xL(bb:List fB)(hl1:bb.length≤100)(hw:∀l∈bb,bW l.atom=true):C E.P 94 [lv (cH bb)] [] (bw (lv (aQ (e7 bb))) []):=by
 obtain⟨hle,kC⟩:=iq hw
 have e:e7 bb=aW [] (eH bb):=by rw[qU,mV kC]
 refine gS (nt:=32) (rs:=[.tmp 2]) hm Tryz.func94 fun hl he cp=>?_
 refine aI hm (fun(i:Nat)=> i≤bb.length) (fun(i:Nat)=> ⟨eQ 32 .any [(0,lv (cH bb)),(3,.acc 0),(4,iv i)],[some (.acc 28 (aQ (aW [] (eH (bb.take i)))))]⟩) (fun(i:Nat)=> bb.length-i) (0) ?_ (ax [some 0] ?_ ?_ rfl rfl) ?_
 rotate_left
 ·exact sC
 ·refine sA ?_
  all_goals(simp[eH,aW])
 rotate_left
 ·omega
 ·rintro i hi
  rcases aa (i<bb.length) with h1|h1
  ·have hwi:=hw bb[i] (ah h1)
   have h3:=lB hwi
   have h2:=iq (bb:=bb.take i) fun l hl=>hw l (eP hl)
   have h4:(bb.take i).length≤100:=by simp;omega
   refine uA ?_
   refine aC [] (vE bb[i] hwi) ?_
   refine aI hm (fun(j:Nat)=> j≤(cm bb[i].atom).length) (fun(j:Nat)=> ⟨eQ 32 .any [(0,lv (cH bb)),(3,.acc 0),(4,iv i),(5,lv (aQ (cm bb[i].atom))),(6,iv j)],[some (.acc 28 (aQ (aW [] (eH (bb.take i)++(cm bb[i].atom).take j))))]⟩) (fun(j:Nat)=> (cm bb[i].atom).length-j) (0) ?_ (ax [some 0] ?_ ?_ rfl rfl) ?_
   rotate_left
   ·exact sC
   ·exact sC
   rotate_left
   ·omega
   ·rintro j hj
    rcases aa (j<(cm bb[i].atom).length) with g1|g1
    ·have ht:=h3.2 (cm bb[i].atom)[j] (ah g1)
     have Dg:∀t∈eH (bb.take i)++(cm bb[i].atom).take j,isTerm t=true:=by
      intro t ht
      rcases List.mem_append.1 ht with ht|ht
      ·exact h2.2 t ht
      ·exact h3.2 t (eP ht)
     have b1:=kT _ [] Dg
     have b2:(eH (bb.take i)++(cm bb[i].atom).take j).length≤410:=by rw[List.length_append,List.length_take];omega
     simp only[List.length_nil] at b1
     refine uI ?_
     refine oC [] [0,1] (wU (cm bb[i].atom)[j] 4 _ (by omega) (iJ ht) (eC b1 (by omega))) ?_
     refine sQ ?_
     refine⟨j+1,?_,sL,ax [some 1] ?_ ?_ rfl rfl⟩
     rotate_left
     ·exact sC
     ·refine sA ?_
      all_goals((simp only[fl g1,←List.append_assoc,yd,aW]))
     exact g1
    ·have ej:(cm bb[i].atom).take j=cm bb[i].atom:=an (by omega)
     refine uI ?_
     refine sQ ?_
     refine⟨i+1,?_,sL,ax [some 0] ?_ ?_ rfl rfl⟩
     rotate_left
     ·exact sC
     ·refine sA ?_
      all_goals((rw[qz h1,ej]))
     exact h1
  ·have et:bb.take i=bb:=an (by omega)
   simp -implicitDefEqProofs only[go_sem,h1,et]
   refine ak ?_
   refine sA ?_
   rw[e]
theorem yV(s:eJ)(ts:List Term)(hs:dm s=true)(ht:∀t∈ts,isTerm t=true)(hl1:ts.length≤10000):C E.P 95 [av (dc s),lv (aQ ts)] [] (bw (lv (aQ (ts.filter (cg s)))) []):=by
 refine gS (nt:=29) (rs:=[.tmp 4]) hm Tryz.func95 fun hl he cp=>?_
 refine aI hm (fun(i:Nat)=> i≤ts.length) (fun(i:Nat)=> ⟨eQ 29 .any [(1,lv (aQ ts)),(2,.ptr 0 0),(5,.acc 1),(6,iv i)],[some (.box (ff (dc s))),some (.acc 28 (aQ ((ts.take i).filter (cg s))))]⟩) (fun(i:Nat)=> ts.length-i) (0) ?_ (ax [some 0,some 1] ?_ ?_ rfl rfl) ?_
 rotate_left
 ·exact sC
 ·refine sA ?_
  all_goals(simp[*];done)
 rotate_left
 ·omega
 ·rintro i hi
  rcases aa (i<ts.length) with h1|h1
  ·have hc:=mB s hs ts[i]
   have hn:=BO hs (ht ts[i] (ah h1))
   have hb:((ts.take i).filter (cg s)).length≤10000:=eC (List.length_filter_le _ _) (by simp;omega)
   refine uA ?_
   refine aC [] hc ?_
   refine iK ?_
   rcases aa ((dL s ts[i]).getD (-1)=1) with q|q
   ·have k:=eq_true q
    have hn:cg s ts[i]=true:=by rw[hn];exact decide_eq_true q
    simp -implicitDefEqProofs only[go_sem,k,h1]
    refine sQ ?_
    refine⟨i+1,?_,sL,ax [some 0,some 2] ?_ ?_ rfl rfl⟩
    rotate_left
    ·exact sC
    ·refine sA ?_
     all_goals((rw[fl h1,fx,←iw];simp[hn,eW,cT]))
    exact h1
   ·have k:=eq_false q
    have hn:cg s ts[i]=false:=by rw[hn];exact decide_eq_false q
    refine uG ?_
    refine sQ ?_
    refine⟨i+1,?_,sL,ax [some 0,some 1] ?_ ?_ rfl rfl⟩
    rotate_left
    ·exact sC
    ·refine sA ?_
     all_goals((rw[fl h1,fx];simp[hn]))
    exact h1
  ·refine uA ?_
   refine ak ?_
   refine sA ?_
   rw[an (by omega)]
theorem wB(s:eJ)(bb:List fB)(hl1:bb.length≤100):C E.P 48 [av (dc s),lv (cH bb)] [] (bw (bv (dm s&&(bb.all (fun l=>fa s l.atom)&&(decide ((e7 bb).length≤24)&&decide ((oT s bb).length≤4))))) []):=by
 refine gS (nt:=37) (rs:=[.tmp 4]) hm Tryz.func48 fun hl he cp=>?_
 refine aI hm (fun(i:Nat)=> i≤bb.length∧bb.all (fun l=>fa s l.atom)=(bb.drop i).all (fun l=>fa s l.atom)) (fun(i:Nat)=> ⟨eQ 37 .any [(1,lv (cH bb)),(2,.ptr 0 0),(5,iv i)],[some (.box (ff (dc s)))]⟩) (fun(i:Nat)=> bb.length-i) (0) ?_ (ax [some 0] ?_ ?_ rfl rfl) ?_
 rotate_left
 ·exact sC
 ·exact sC
 rotate_left
 ·simp
 ·rintro i ⟨hi,hg⟩
  rcases aa (i<bb.length) with h1|h1
  ·rw[af h1,du] at hg
   refine uA ?_
   refine aC [] (yR s bb[i].atom) ?_
   refine iK ?_
   cases h2:fa s bb[i].atom
   ·rw[h2,aK] at hg
    refine sA ?_
    refine ak ?_
    refine sA ?_
    all_goals(simp[hg];done)
   ·rw[h2,az] at hg
    refine sA ?_
    refine sQ ?_
    refine⟨i+1,?_,sL,ax [some 0] ?_ ?_ rfl rfl⟩
    rotate_left
    ·exact sC
    ·exact sC
    exact⟨by omega,hg⟩
  ·rw[ag (by omega),fe] at hg
   have hw:∀l∈bb,bW l.atom=true:=by
    intro l hl
    have:=List.all_eq_true.1 hg l hl
    simp only[fa,Bool.and_eq_true] at this
    exact this.2.1
   have kC:=(iq hw).2
   have htt:∀t∈e7 bb,isTerm t=true:=by rw[qU];exact vk kC
   refine uA ?_
   refine aC [] (xL bb hl1 hw) ?_
   refine aC [] (nO s) ?_
   cases h2:dm s
   ·refine sA ?_
    refine ak ?_
    exact sC
   ·refine sA ?_
    rcases aa (((e7 bb).length:Int)≤24) with h3|h3
    ·have h3':(e7 bb).length≤24:=by omega
     have e:oT s bb=(e7 bb).filter (cg s):=rfl
     refine uC ?_
     refine aC [] (yV s (e7 bb) h2 htt (by omega)) ?_
     refine ak ?_
     refine sA ?_
     simp only[hg,h3',e,decide_true,az]
     congr 2
     exact decide_eq_decide.2 (by omega)
    ·have h3':¬ (e7 bb).length≤24:=by omega
     refine uC ?_
     refine ak ?_
     refine sA ?_
     all_goals(simp[h3'];done)
theorem qf(s:eJ)(bb:List fB):C E.P 20 [av (dc s),lv (cH bb)] [] (bw (bv (fQ s bb)) []):=by
 refine gS (nt:=13) (rs:=[.tmp 4]) hm Tryz.func20 fun hl he cp=>?_
 rcases aa ((bb.length:Int)≤6) with h|h
 ·have h':bb.length≤6:=by omega
  refine uF ?_
  refine aC [] (wB s bb (by omega)) ?_
  refine ak ?_
  refine sA ?_
  simp only[fQ,h',decide_true,Bool.and_true,Bool.and_assoc]
 ·have h':¬bb.length≤6:=by omega
  refine uF ?_
  refine ak ?_
  refine sA ?_
  all_goals(simp[fQ,h'];done)
end Go.Proofs.YtgpjhjalfakpoaaGreat
