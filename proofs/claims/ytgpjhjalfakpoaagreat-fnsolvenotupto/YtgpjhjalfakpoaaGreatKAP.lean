/-
  The reference: the walks of atoms and literals. A step towards the exact laws.
-/
import Derived.Test.YtgpjhjalfakpoaaGreatKAI
set_option linter.unusedVariables false
set_option linter.unusedSimpArgs false
open Bool renaming true_and→ay,false_and→aI
open Classical renaming em→aa
open List renaming drop_eq_getElem_cons→af,drop_of_length_le→ag,getElem_mem→ai,take_of_length_le→ao,all_cons→dj,all_nil→eQ,filter_append→fb,mem_of_mem_take→fC
open Nat renaming le_trans→dX
open Option renaming getD_some→bN,getD_none→gh
namespace Go.Proofs.YtgpjhjalfakpoaaGreat
open Go.Eng Go.Mod
open Int renaming reduceEq→Z1,reduceLT→Z2,reduceLE→Z3,reduceToNat→Z4
set_option maxRecDepth 100000
set_option maxHeartbeats 800000
theorem tE{n lo hi:Int}(h:within n lo hi=false):n<lo∨hi<n:=by
 simp only[within,Bool.and_eq_false_iff,decide_eq_false_iff_not] at h
 omega
theorem Ci{a:Atom}(k2:a.kind=2):bT a=(isNone a.A&&(isNone a.B&&(within a.aM.length 1 4&&(decide (a.times.length=a.aM.length)&&(within a.bound (-1000) 1000&&jt none a.aM a.times))))):=by simp[bT,k2]
theorem tn(a:Atom)(e:bT a=jt none a.aM a.times)(h1:isNone a.A=true)(h2:isNone a.B=true)(h4:a.aM.length=a.times.length)(h5:¬ (a.aM.length:Int)<1)(h6:¬ (4:Int)<(a.aM.length:Int))(h8:¬a.bound < -1000)(h9:¬1000<a.bound):C E.P 140 [av (dJ a)] [] (bB (bv (bT a)) []):=by
 have k4:=eq_true h4
 refine gS (nt:=97) (rs:=[.tmp 2]) hm Tryz.func140 fun hl he cx=>?_
 refine e7 [] (kc a.A) ?_ ?_<;>simp -implicitDefEqProofs only[go_sem,h1]
 refine e7 [] (kc a.B) ?_ ?_<;>simp -implicitDefEqProofs only[go_sem,h2,k4,h5,h6,h8,h9]
 refine aG hm (fun(i:Nat)=> i≤a.aM.length∧bT a=jt (iu a.aM i) (a.aM.drop i) (a.times.drop i)∧∀q,iu a.aM i=some q→isTerm q=true) (fun(i:Nat)=> ⟨eE 97 .any [(1,.ptr 0 0),(3,iv i)],[some (.box (eZ (dJ a)))]⟩) (fun(i:Nat)=> a.aM.length-i) (0) ?_ (ax [some 0] ?_ ?_ rfl rfl) ?_
 rotate_left
 ·exact sC
 ·simp -implicitDefEqProofs only[go_sem]
 rotate_left
 ·exact⟨by omega,e,fun q h=>by cases h⟩
 ·rintro i ⟨hi,hg,hp⟩
  rcases aa (i<a.aM.length) with g1|g1
  ·have g2:i<a.times.length:=by omega
   rw[tN g1 g2] at hg
   simp -implicitDefEqProofs only[go_sem,g1,g2]
   refine aC [] (lz a.aM[i]) ?_
   cases q1:isTerm a.aM[i]
   ·rw[q1,aI] at hg
    simp -implicitDefEqProofs only[go_sem]
    refine iK ?_
    refine al ?_
    refine sA ?_
    all_goals(simp[hg];done)
   ·rw[q1,ay] at hg
    refine sA ?_
    rcases aa (a.times[i]=0) with q3|q3
    ·have k3:=eq_true q3
     have hg:bT a=false:=by rw[hg];simp[q3]
     simp -implicitDefEqProofs only[go_sem,k3]
     refine iK ?_
     refine al ?_
     refine sA ?_
     all_goals(simp[hg];done)
    ·simp -implicitDefEqProofs only[go_sem,q3]
     cases q2:within a.times[i] (-50) 50
     ·have hg:bT a=false:=by rw[hg,q2];rfl
      rcases aa (a.times[i] < -50) with q5|q5
      ·simp -implicitDefEqProofs only[go_sem,q5]
       refine iK ?_
       refine al ?_
       refine sA ?_
       all_goals(simp[hg];done)
      ·have q6:50<a.times[i]:=by have:=tE q2;omega
       simp -implicitDefEqProofs only[go_sem,q5,q6]
       refine iK ?_
       refine al ?_
       refine sA ?_
       all_goals(simp[hg];done)
     ·have q2':=cz.1 q2
      have q5:¬a.times[i] < -50:=by omega
      have q6:¬50<a.times[i]:=by omega
      rw[q2,ay] at hg
      simp only[q3,not_false_eq_true,ne_eq,decide_true,ay] at hg
      cases i with
      | zero=>
        simp only[iu,ay] at hg
        simp -implicitDefEqProofs only[go_sem,q5,q6,Int.lt_irrefl]
        refine iK ?_
        refine sQ ?_
        refine⟨0+1,?_,sL,ax [some 0] ?_ ?_ rfl rfl⟩
        rotate_left
        ·refine sA ?_
         all_goals(simp[*];done)
        ·exact sC
        refine⟨by omega,?_,?_⟩
        ·rw[hg,fk g1]
        ·intro q hq
         rw[fk g1] at hq
         cases hq
         exact q1
      | succ j=>
        have hj:j<a.aM.length:=by omega
        have e1:((j:Int)+1-1)=(j:Int):=by omega
        have e2:(0:Int)<(j:Int)+1:=by omega
        have et:((j:Int)+1).toNat=j+1:=by omega
        have tp:=hp _ (fk hj)
        rw[fk hj] at hg
        simp only at hg
        simp -implicitDefEqProofs only[go_sem,q5,q6,e1,e2,hj]
        refine sQ ?_
        refine e7 [] (oz a.aM[j] tp) ?_ ?_<;>simp -implicitDefEqProofs only[go_sem,et,g1]
        refine sQ ?_
        refine aC [] (oz a.aM[j+1] q1) ?_
        refine iK ?_
        cases q4:il (aB a.aM[j]) (aB a.aM[j+1])
        ·rw[q4,aI] at hg
         have h5:Op.bytesLess (aB a.aM[j]) (aB a.aM[j+1])=false:=q4
         refine uE ?_
         refine al ?_
         refine sA ?_
         all_goals(simp[hg];done)
        ·rw[q4,ay] at hg
         have h5:Op.bytesLess (aB a.aM[j]) (aB a.aM[j+1])=true:=q4
         refine uE ?_
         refine sQ ?_
         refine⟨j+1+1,?_,sL,ax [some 0] ?_ ?_ rfl rfl⟩
         rotate_left
         ·exact sC
         ·exact sC
         refine⟨by omega,?_,?_⟩
         ·rw[hg,fk g1]
         ·intro q hq
          rw[fk g1] at hq
          cases hq
          exact q1
  ·rw[ag (by omega),ag (by omega)] at hg
   have hg:bT a=true:=by rw[hg];cases iu a.aM i<;>rfl
   refine uI ?_
   refine al ?_
   refine sA ?_
   all_goals(simp[hg];done)
theorem uY(a:Atom)(k2:a.kind=2)(hno:¬ (isNone a.A=true∧isNone a.B=true∧a.aM.length=a.times.length∧within a.aM.length 1 4=true∧within a.bound (-1000) 1000=true)):C E.P 140 [av (dJ a)] [] (bB (bv (bT a)) []):=by
 have e:=Ci k2
 refine gS (nt:=97) (rs:=[.tmp 2]) hm Tryz.func140 fun hl he cx=>?_
 refine aC [] (kc a.A) ?_
 cases h1:isNone a.A
 ·simp -implicitDefEqProofs only[go_sem]
  refine al ?_
  refine sA ?_
  all_goals(simp[e,h1];done)
 ·simp -implicitDefEqProofs only[go_sem]
  refine aC [] (kc a.B) ?_
  cases h2:isNone a.B
  ·simp -implicitDefEqProofs only[go_sem]
   refine al ?_
   refine sA ?_
   all_goals(simp[e,h1,h2];done)
  ·refine sA ?_
   rcases aa (a.aM.length=a.times.length) with h4|h4
   ·have h4':a.times.length=a.aM.length:=h4.symm
    have k4:=eq_true h4
    simp -implicitDefEqProofs only[go_sem,k4]
    cases h3:within a.aM.length 1 4
    ·have e0:bT a=false:=by simp[e,h3]
     rcases aa ((a.aM.length:Int)<1) with h5|h5
     ·refine uE ?_
      refine al ?_
      refine sA ?_
      all_goals(simp[e0];done)
     ·have h6:(4:Int)<(a.aM.length:Int):=by have:=tE h3;omega
      simp -implicitDefEqProofs only[go_sem,h5,h6]
      refine al ?_
      refine sA ?_
      all_goals(simp[e0];done)
    ·have h3':=cz.1 h3
     have h5:¬ (a.aM.length:Int)<1:=by omega
     have h6:¬ (4:Int)<(a.aM.length:Int):=by omega
     simp -implicitDefEqProofs only[go_sem,h5,h6]
     cases h7:within a.bound (-1000) 1000
     ·have e0:bT a=false:=by simp[e,h7]
      rcases aa (a.bound < -1000) with h8|h8
      ·simp -implicitDefEqProofs only[go_sem,h8]
       refine al ?_
       refine sA ?_
       all_goals(simp[e0];done)
      ·have h9:1000<a.bound:=by have:=tE h7;omega
       simp -implicitDefEqProofs only[go_sem,h8,h9]
       refine al ?_
       refine sA ?_
       all_goals(simp[e0];done)
     ·exact absurd ⟨h1,h2,h4,h3,h7⟩ hno
   ·have h4':¬a.times.length=a.aM.length:=fun h=>h4 h.symm
    refine uD ?_
    refine al ?_
    refine sA ?_
    all_goals(simp[e,h4'];done)
theorem Aa(a:Atom)(k2:a.kind=2):C E.P 140 [av (dJ a)] [] (bB (bv (bT a)) []):=by
 rcases aa (isNone a.A=true∧isNone a.B=true∧a.aM.length=a.times.length∧within a.aM.length 1 4=true∧within a.bound (-1000) 1000=true) with h|h
 ·obtain⟨h1,h2,h4,h3,h7⟩:=h
  have h3':=cz.1 h3
  have h7':=cz.1 h7
  have h4':=h4.symm
  exact tn a (by simp[Ci k2,h1,h2,h3,h4',h7]) h1 h2 h4 (by omega) (by omega) (by omega) (by omega)
 ·exact uY a k2 h
theorem lD(a:Atom):C E.P 91 [av (dJ a)] [] (bB (bv (bT a)) []):=by
 refine gS (nt:=43) (rs:=[.tmp 2]) hm Tryz.func91 fun hl he cx=>?_
 rcases aa (a.kind=2) with k2|k2
 ·have k:=eq_true k2
  refine uG ?_
  refine e7 [] (Aa a k2) ?_ ?_<;>simp -implicitDefEqProofs only[go_sem]
  refine al ?_
  simp -implicitDefEqProofs only[go_sem]
 ·simp -implicitDefEqProofs only[go_sem,k2]
  rcases aa (a.kind=1) with k1|k1
  ·have e:bT a=(isTerm a.A&&(isTerm a.B&&(decide (a.aM.length=0)&&(decide (a.times.length=0)&&(decide (a.bound=0)&& !a.strict))))):=by simp[bT,k1]
   have k:=eq_true k1
   refine uG ?_
   refine aC [] (lz a.A) ?_
   cases h1:isTerm a.A
   ·simp -implicitDefEqProofs only[go_sem]
    refine al ?_
    refine sA ?_
    all_goals(simp[e,h1];done)
   ·simp -implicitDefEqProofs only[go_sem]
    refine aC [] (lz a.B) ?_
    cases h2:isTerm a.B
    ·simp -implicitDefEqProofs only[go_sem]
     refine al ?_
     refine sA ?_
     all_goals(simp[e,h1,h2];done)
    ·refine sA ?_
     rcases aa ((a.aM.length:Int)=0) with h3|h3
     ·have h3':a.aM.length=0:=by omega
      have k3:=eq_true h3
      simp -implicitDefEqProofs only[go_sem,k3]
      rcases aa ((a.times.length:Int)=0) with h4|h4
      ·have h4':a.times.length=0:=by omega
       have k4:=eq_true h4
       simp -implicitDefEqProofs only[go_sem,k4]
       rcases aa (a.bound=0) with h5|h5
       ·have k5:=eq_true h5
        simp -implicitDefEqProofs only[go_sem,k5]
        refine al ?_
        refine sA ?_
        all_goals(simp[e,h1,h2,h3',h4',h5];done)
       ·refine uE ?_
        refine al ?_
        refine sA ?_
        all_goals(simp[e,h1,h2,h3',h4',h5];done)
      ·have h4':¬a.times.length=0:=by omega
       refine uD ?_
       refine al ?_
       refine sA ?_
       all_goals(simp[e,h1,h2,h3',h4'];done)
     ·have h3':¬a.aM.length=0:=by omega
      refine uC ?_
      refine al ?_
      refine sA ?_
      all_goals(simp[e,h1,h2,h3'];done)
  ·simp -implicitDefEqProofs only[go_sem,k1]
   refine al ?_
   refine sA ?_
   all_goals(simp[bT,k1,k2];done)
theorem Cj{s:eD}{t:Term}(hs:dp s=true)(ht:isTerm t=true):cd s t=decide ((dE s t).getD (-1)=1):=by
 simp only[cd,eg,hs,ht,Bool.and_self,if_true]
 cases dE s t<;>simp
theorem yh(s:eD)(a:Atom):C E.P 93 [av (c8 s),av (dJ a)] [] (bB (bv (eK s a)) []):=by
 refine gS (nt:=47) (rs:=[.tmp 4]) hm Tryz.func93 fun hl he cx=>?_
 refine aC [] (rf s) ?_
 cases h1:dp s
 ·refine sA ?_
  refine al ?_
  refine sA ?_
  all_goals(simp[eK,h1];done)
 ·refine sA ?_
  refine aC [] (lD a) ?_
  cases h2:bT a
  ·refine sA ?_
   refine al ?_
   refine sA ?_
   all_goals(simp[eK,h1,h2];done)
  ·refine sA ?_
   rcases aa (a.kind=1) with k1|k1
   ·have hAB:=zK h2 k1
    have k:=eq_true k1
    have tA:eg s a.A=dE s a.A:=by simp[eg,h1,hAB.1]
    have tB:eg s a.B=dE s a.B:=by simp[eg,h1,hAB.2]
    have cA:=me s h1 a.A
    have cB:=me s h1 a.B
    refine uG ?_
    refine aC [] cA ?_
    cases qA:dE s a.A with
    | none=>
      simp -implicitDefEqProofs only[go_sem,Z3,gh]
      refine al ?_
      refine sA ?_
      all_goals(simp[eK,h1,h2,k1,jm,tA,qA];done)
    | some n=>
      have hn:=vN.1 (Cb h1 qA)
      have hn2:0≤n:=by omega
      simp -implicitDefEqProofs only[go_sem,bN,hn2]
      refine aC [] cB ?_
      cases qB:dE s a.B with
      | none=>
        have hn3:¬n = -1:=by omega
        simp -implicitDefEqProofs only[go_sem,gh]
        refine al ?_
        refine sA ?_
        all_goals(simp[eK,h1,h2,k1,jm,tA,tB,qA,qB,hn3];done)
      | some m=>
        simp -implicitDefEqProofs only[go_sem,bN]
        refine al ?_
        refine sA ?_
        all_goals(simp[eK,h1,h2,k1,jm,tA,tB,qA,qB];done)
   ·have k2:a.kind=2:=(oL h2).resolve_left k1
    have hw:=qw h2 k2
    have hT:=(qO hw.2.2.2.2.2 hw.2.2.2.1).1
    simp -implicitDefEqProofs only[go_sem,k1]
    refine aG hm (fun(i:Nat)=> i≤a.aM.length∧a.aM.all (cd s)=(a.aM.drop i).all (cd s)) (fun(i:Nat)=> ⟨eE 47 .any [(2,.ptr 0 0),(3,.ptr 1 0),(6,iv i)],[some (.box (eZ (c8 s))),some (.box (eZ (dJ a)))]⟩) (fun(i:Nat)=> a.aM.length-i) (0) ?_ (ax [some 0,some 1] ?_ ?_ rfl rfl) ?_
    rotate_left
    ·exact sC
    ·exact sC
    rotate_left
    ·simp
    ·rintro i ⟨hi,hg⟩
     rcases aa (i<a.aM.length) with g1|g1
     ·rw[af g1,dj,Cj h1 (hT _ (ai g1))] at hg
      have cT:=me s h1 a.aM[i]
      refine uI ?_
      refine aC [] cT ?_
      refine iK ?_
      rcases aa ((dE s a.aM[i]).getD (-1)=1) with q|q
      ·have k:=eq_true q
       simp only[k,decide_true,ay] at hg
       refine uG ?_
       refine sQ ?_
       refine⟨i+1,?_,sL,ax [some 0,some 1] ?_ ?_ rfl rfl⟩
       rotate_left
       ·exact sC
       ·exact sC
       exact⟨by omega,hg⟩
      ·have k:=eq_false q
       simp only[k,decide_false,aI] at hg
       refine uG ?_
       refine al ?_
       refine sA ?_
       all_goals(simp[eK,h1,h2,k1,hg];done)
     ·rw[ag (by omega),eQ] at hg
      refine uI ?_
      refine al ?_
      refine sA ?_
      all_goals(simp[eK,h1,h2,k1,hg];done)
theorem u9(l:fh)(h:bT l.atom=true):C E.P 144 [av (C0 l)] [] (bB (lv (aN (ck l.atom))) []):=by
 have hle:=(lb h).1
 refine gS (nt:=43) (rs:=[.tmp 2]) hm Tryz.func144 fun hl he cx=>?_
 refine e7 [] (lD l.atom) ?_ ?_<;>simp -implicitDefEqProofs only[go_sem,h]
 rcases aa (l.atom.kind=1) with k1|k1
 ·have k:=eq_true k1
  refine uG ?_
  refine aC [] (j8 l.atom.A) ?_
  refine aC [] (j8 l.atom.B) ?_
  refine iK ?_
  refine al ?_
  refine sA ?_
  all_goals(simp[ck,k1,eB,gH,cT];done)
 ·have e:ck l.atom=l.atom.aM:=by simp[ck,k1]
  rw[e] at hle
  simp -implicitDefEqProofs only[go_sem,k1]
  refine aG hm (fun(i:Nat)=> i≤l.atom.aM.length) (fun(i:Nat)=> ⟨eE 43 .any [(1,.ptr 0 0),(3,.acc 1),(4,iv i)],[some (.box (eZ (C0 l))),some (.acc 28 (aN (l.atom.aM.take i)))]⟩) (fun(i:Nat)=> l.atom.aM.length-i) (0) ?_ (ax [some 0,some 1] ?_ ?_ rfl rfl) ?_
  rotate_left
  ·exact sC
  ·exact sC
  rotate_left
  ·omega
  ·rintro i hi
   rcases aa (i<l.atom.aM.length) with h1|h1
   ·refine uA ?_
    refine aC [] (j8 l.atom.aM[i]) ?_
    refine sQ ?_
    refine⟨i+1,?_,sL,ax [some 0,some 2] ?_ ?_ rfl rfl⟩
    rotate_left
    ·exact sC
    ·refine sA ?_
     all_goals(exact nH h1)
    exact h1
   ·refine uA ?_
    refine al ?_
    refine sA ?_
    rw[ao (by omega),e]
theorem wR(bb:List fh)(hl1:bb.length≤100)(hw:∀l∈bb,bT l.atom=true):C E.P 94 [lv (cE bb)] [] (bB (lv (aN (eJ bb))) []):=by
 obtain⟨hle,kG⟩:=hQ hw
 have e:eJ bb=aU [] (eu bb):=by rw[qx,mB kG]
 refine gS (nt:=32) (rs:=[.tmp 2]) hm Tryz.func94 fun hl he cx=>?_
 refine aG hm (fun(i:Nat)=> i≤bb.length) (fun(i:Nat)=> ⟨eE 32 .any [(0,lv (cE bb)),(3,.acc 0),(4,iv i)],[some (.acc 28 (aN (aU [] (eu (bb.take i)))))]⟩) (fun(i:Nat)=> bb.length-i) (0) ?_ (ax [some 0] ?_ ?_ rfl rfl) ?_
 rotate_left
 ·exact sC
 ·refine sA ?_
  all_goals(simp[eu,aU])
 rotate_left
 ·omega
 ·rintro i hi
  rcases aa (i<bb.length) with h1|h1
  ·have hwi:=hw bb[i] (ai h1)
   have h3:=lb hwi
   have h2:=hQ (bb:=bb.take i) fun l hl=>hw l (fC hl)
   have h4:(bb.take i).length≤100:=by simp;omega
   refine uA ?_
   refine aC [] (u9 bb[i] hwi) ?_
   refine aG hm (fun(j:Nat)=> j≤(ck bb[i].atom).length) (fun(j:Nat)=> ⟨eE 32 .any [(0,lv (cE bb)),(3,.acc 0),(4,iv i),(5,lv (aN (ck bb[i].atom))),(6,iv j)],[some (.acc 28 (aN (aU [] (eu (bb.take i)++(ck bb[i].atom).take j))))]⟩) (fun(j:Nat)=> (ck bb[i].atom).length-j) (0) ?_ (ax [some 0] ?_ ?_ rfl rfl) ?_
   rotate_left
   ·exact sC
   ·exact sC
   rotate_left
   ·omega
   ·rintro j hj
    rcases aa (j<(ck bb[i].atom).length) with g1|g1
    ·have ht:=h3.2 (ck bb[i].atom)[j] (ai g1)
     have CO:∀t∈eu (bb.take i)++(ck bb[i].atom).take j,isTerm t=true:=by
      intro t ht
      rcases List.mem_append.1 ht with ht|ht
      ·exact h2.2 t ht
      ·exact h3.2 t (fC ht)
     have b1:=kv _ [] CO
     have b2:(eu (bb.take i)++(ck bb[i].atom).take j).length≤410:=by rw[List.length_append,List.length_take];omega
     simp only[List.length_nil] at b1
     refine uI ?_
     refine oC [] [0,1] (xl (ck bb[i].atom)[j] 4 _ (by omega) (im ht) (dX b1 (by omega))) ?_
     refine sQ ?_
     refine⟨j+1,?_,sL,ax [some 1] ?_ ?_ rfl rfl⟩
     rotate_left
     ·exact sC
     ·refine sA ?_
      all_goals((simp only[eW g1,←List.append_assoc,wC,aU]))
     exact g1
    ·have ej:(ck bb[i].atom).take j=ck bb[i].atom:=ao (by omega)
     refine uI ?_
     refine sQ ?_
     refine⟨i+1,?_,sL,ax [some 0] ?_ ?_ rfl rfl⟩
     rotate_left
     ·exact sC
     ·refine sA ?_
      all_goals((rw[p9 h1,ej]))
     exact h1
  ·have et:bb.take i=bb:=ao (by omega)
   simp -implicitDefEqProofs only[go_sem,h1,et]
   refine al ?_
   refine sA ?_
   rw[e]
theorem ye(s:eD)(ts:List Term)(hs:dp s=true)(ht:∀t∈ts,isTerm t=true)(hl1:ts.length≤10000):C E.P 95 [av (c8 s),lv (aN ts)] [] (bB (lv (aN (ts.filter (cd s)))) []):=by
 refine gS (nt:=29) (rs:=[.tmp 4]) hm Tryz.func95 fun hl he cx=>?_
 refine aG hm (fun(i:Nat)=> i≤ts.length) (fun(i:Nat)=> ⟨eE 29 .any [(1,lv (aN ts)),(2,.ptr 0 0),(5,.acc 1),(6,iv i)],[some (.box (eZ (c8 s))),some (.acc 28 (aN ((ts.take i).filter (cd s))))]⟩) (fun(i:Nat)=> ts.length-i) (0) ?_ (ax [some 0,some 1] ?_ ?_ rfl rfl) ?_
 rotate_left
 ·exact sC
 ·refine sA ?_
  all_goals(simp[*];done)
 rotate_left
 ·omega
 ·rintro i hi
  rcases aa (i<ts.length) with h1|h1
  ·have hc:=me s hs ts[i]
   have hn:=Cj hs (ht ts[i] (ai h1))
   have hb:((ts.take i).filter (cd s)).length≤10000:=dX (List.length_filter_le _ _) (by simp;omega)
   refine uA ?_
   refine aC [] hc ?_
   refine iK ?_
   rcases aa ((dE s ts[i]).getD (-1)=1) with q|q
   ·have k:=eq_true q
    have hn:cd s ts[i]=true:=by rw[hn];exact decide_eq_true q
    simp -implicitDefEqProofs only[go_sem,k,h1]
    refine sQ ?_
    refine⟨i+1,?_,sL,ax [some 0,some 2] ?_ ?_ rfl rfl⟩
    rotate_left
    ·exact sC
    ·refine sA ?_
     all_goals((rw[eW h1,fb,←hU];simp[hn,eB,cT]))
    exact h1
   ·have k:=eq_false q
    have hn:cd s ts[i]=false:=by rw[hn];exact decide_eq_false q
    refine uG ?_
    refine sQ ?_
    refine⟨i+1,?_,sL,ax [some 0,some 1] ?_ ?_ rfl rfl⟩
    rotate_left
    ·exact sC
    ·refine sA ?_
     all_goals((rw[eW h1,fb];simp[hn]))
    exact h1
  ·refine uA ?_
   refine al ?_
   refine sA ?_
   rw[ao (by omega)]
theorem wh(s:eD)(bb:List fh)(hl1:bb.length≤100):C E.P 48 [av (c8 s),lv (cE bb)] [] (bB (bv (dp s&&(bb.all (fun l=>eK s l.atom)&&(decide ((eJ bb).length≤24)&&decide ((oN s bb).length≤4))))) []):=by
 refine gS (nt:=37) (rs:=[.tmp 4]) hm Tryz.func48 fun hl he cx=>?_
 refine aG hm (fun(i:Nat)=> i≤bb.length∧bb.all (fun l=>eK s l.atom)=(bb.drop i).all (fun l=>eK s l.atom)) (fun(i:Nat)=> ⟨eE 37 .any [(1,lv (cE bb)),(2,.ptr 0 0),(5,iv i)],[some (.box (eZ (c8 s)))]⟩) (fun(i:Nat)=> bb.length-i) (0) ?_ (ax [some 0] ?_ ?_ rfl rfl) ?_
 rotate_left
 ·exact sC
 ·exact sC
 rotate_left
 ·simp
 ·rintro i ⟨hi,hg⟩
  rcases aa (i<bb.length) with h1|h1
  ·rw[af h1,dj] at hg
   refine uA ?_
   refine aC [] (yh s bb[i].atom) ?_
   refine iK ?_
   cases h2:eK s bb[i].atom
   ·rw[h2,aI] at hg
    refine sA ?_
    refine al ?_
    refine sA ?_
    all_goals(simp[hg];done)
   ·rw[h2,ay] at hg
    refine sA ?_
    refine sQ ?_
    refine⟨i+1,?_,sL,ax [some 0] ?_ ?_ rfl rfl⟩
    rotate_left
    ·exact sC
    ·exact sC
    exact⟨by omega,hg⟩
  ·rw[ag (by omega),eQ] at hg
   have hw:∀l∈bb,bT l.atom=true:=by
    intro l hl
    have:=List.all_eq_true.1 hg l hl
    simp only[eK,Bool.and_eq_true] at this
    exact this.2.1
   have kG:=(hQ hw).2
   have htt:∀t∈eJ bb,isTerm t=true:=by rw[qx];exact uR kG
   refine uA ?_
   refine aC [] (wR bb hl1 hw) ?_
   refine aC [] (rf s) ?_
   cases h2:dp s
   ·refine sA ?_
    refine al ?_
    exact sC
   ·refine sA ?_
    rcases aa (((eJ bb).length:Int)≤24) with h3|h3
    ·have h3':(eJ bb).length≤24:=by omega
     have e:oN s bb=(eJ bb).filter (cd s):=rfl
     refine uC ?_
     refine aC [] (ye s (eJ bb) h2 htt (by omega)) ?_
     refine al ?_
     refine sA ?_
     simp only[hg,h3',e,decide_true,ay]
     congr 2
     exact decide_eq_decide.2 (by omega)
    ·have h3':¬ (eJ bb).length≤24:=by omega
     refine uC ?_
     refine al ?_
     refine sA ?_
     all_goals(simp[h3'];done)
theorem pP(s:eD)(bb:List fh):C E.P 20 [av (c8 s),lv (cE bb)] [] (bB (bv (fN s bb)) []):=by
 refine gS (nt:=13) (rs:=[.tmp 4]) hm Tryz.func20 fun hl he cx=>?_
 rcases aa ((bb.length:Int)≤6) with h|h
 ·have h':bb.length≤6:=by omega
  refine uF ?_
  refine aC [] (wh s bb (by omega)) ?_
  refine al ?_
  refine sA ?_
  simp only[fN,h',decide_true,Bool.and_true,Bool.and_assoc]
 ·have h':¬bb.length≤6:=by omega
  refine uF ?_
  refine al ?_
  refine sA ?_
  all_goals(simp[fN,h'];done)
end Go.Proofs.YtgpjhjalfakpoaaGreat
