/-
  The reference: the walks of atoms and literals. A step towards the exact laws.
-/
import Derived.Test.YtpidddienjoleaaGreatKCI
import Derived.Test.YtpidddienjoleaaGreatKCE
set_option linter.unusedVariables false
set_option linter.unusedSimpArgs false
namespace Go.Proofs.YtpidddienjoleaaGreat
open Go.Eng Go.Mod
open Int renaming reduceEq→Z1,reduceLT→Z2,reduceLE→Z3,reduceToNat→Z4
set_option maxRecDepth 100000
set_option maxHeartbeats 800000
theorem um{n lo hi:Int}(h:within n lo hi=false):n<lo∨hi<n:=by
 simp only[within,Bool.and_eq_false_iff,decide_eq_false_iff_not] at h
 omega
theorem DV{a:Atom}(k2:a.kind=2):aX a=(isNone a.A&&(isNone a.B&&(within a.nums.length 1 4&&(decide (a.times.length=a.nums.length)&&(within a.bound (-1000) 1000&&fH none a.nums a.times))))):=by simp[aX,k2]
theorem tP(a:Atom)(e:aX a=fH none a.nums a.times)(h1:isNone a.A=true)(h2:isNone a.B=true)(h4:a.nums.length=a.times.length)(h5:¬ (a.nums.length:Int)<1)(h6:¬ (4:Int)<(a.nums.length:Int))(h8:¬a.bound < -1000)(h9:¬1000<a.bound):C E.P 212 [av (fZ a)] [] (aM (bv (aX a)) []):=by
 have k4:=eq_true h4
 refine gS (nt:=97) (rs:=[.tmp 2]) hm Tryz.func212 fun hl he hLB=>?_
 refine ck [] (iQ a.A) ?_ ?_<;>simp -implicitDefEqProofs only[go_sem,h1]
 refine ck [] (iQ a.B) ?_ ?_<;>simp -implicitDefEqProofs only[go_sem,h2,k4,h5,h6,h8,h9]
 refine al hm (fun(i:Nat)=> i≤a.nums.length∧aX a=fH (gf a.nums i) (a.nums.drop i) (a.times.drop i)∧∀q,gf a.nums i=some q→isTerm q=true) (fun(i:Nat)=> ⟨bW 97 .any [(1,.ptr 0 0),(3,iv i)],[some (.box (bn (fZ a)))]⟩) (fun(i:Nat)=> a.nums.length-i) (0) ?_ (ah [some 0] ?_ ?_ rfl rfl) ?_
 rotate_left
 ·exact sC
 ·simp -implicitDefEqProofs only[go_sem]
 rotate_left
 ·exact⟨by omega,e,fun q h=>by cases h⟩
 ·rintro i ⟨hi,hg,hp⟩
  rcases Classical.em (i<a.nums.length) with g1|g1
  ·have g2:i<a.times.length:=by omega
   rw[u9 g1 g2] at hg
   simp -implicitDefEqProofs only[go_sem,g1,g2]
   refine aC [] (ki a.nums[i]) ?_
   cases q1:isTerm a.nums[i]
   ·rw[q1,Bool.false_and] at hg
    simp -implicitDefEqProofs only[go_sem]
    refine iK ?_
    refine ab ?_
    refine sA ?_
    all_goals(simp[hg];done)
   ·rw[q1,Bool.true_and] at hg
    refine sA ?_
    rcases Classical.em (a.times[i]=0) with q3|q3
    ·have k3:=eq_true q3
     have hg:aX a=false:=by rw[hg];simp[q3]
     simp -implicitDefEqProofs only[go_sem,k3]
     refine iK ?_
     refine ab ?_
     refine sA ?_
     all_goals(simp[hg];done)
    ·simp -implicitDefEqProofs only[go_sem,q3]
     cases q2:within a.times[i] (-50) 50
     ·have hg:aX a=false:=by rw[hg,q2];rfl
      rcases Classical.em (a.times[i] < -50) with q5|q5
      ·simp -implicitDefEqProofs only[go_sem,q5]
       refine iK ?_
       refine ab ?_
       refine sA ?_
       all_goals(simp[hg];done)
      ·have q6:50<a.times[i]:=by have:=um q2;omega
       simp -implicitDefEqProofs only[go_sem,q5,q6]
       refine iK ?_
       refine ab ?_
       refine sA ?_
       all_goals(simp[hg];done)
     ·have q2':=br.1 q2
      have q5:¬a.times[i] < -50:=by omega
      have q6:¬50<a.times[i]:=by omega
      rw[q2,Bool.true_and] at hg
      simp only[q3,not_false_eq_true,ne_eq,decide_true,Bool.true_and] at hg
      cases i with
      | zero=>
        simp only[gf,Bool.true_and] at hg
        simp -implicitDefEqProofs only[go_sem,q5,q6,Int.lt_irrefl]
        refine iK ?_
        repeat(with_reducible apply And.intro;exact sO)
        refine⟨0+1,?_,?_,ah [some 0] ?_ ?_ rfl rfl⟩
        rotate_left
        ·show _ < _
         omega
        ·refine sA ?_
         all_goals(simp[*];done)
        ·exact sC
        refine⟨by omega,?_,?_⟩
        ·rw[hg,dI g1]
        ·intro q hq
         rw[dI g1] at hq
         cases hq
         exact q1
      | succ j=>
        have hj:j<a.nums.length:=by omega
        have e1:((j:Int)+1-1)=(j:Int):=by omega
        have e2:(0:Int)<(j:Int)+1:=by omega
        have et:((j:Int)+1).toNat=j+1:=by omega
        have tp:=hp _ (dI hj)
        rw[dI hj] at hg
        simp only at hg
        simp -implicitDefEqProofs only[go_sem,q5,q6,e1,e2,hj]
        repeat(with_reducible apply And.intro;exact sO)
        refine ck [] (n5 a.nums[j] tp) ?_ ?_<;>simp -implicitDefEqProofs only[go_sem,et,g1]
        repeat(with_reducible apply And.intro;exact sO)
        refine aC [] (n5 a.nums[j+1] q1) ?_
        refine iK ?_
        cases q4:cX (aj a.nums[j]) (aj a.nums[j+1])
        ·rw[q4,Bool.false_and] at hg
         have h5:Op.bytesLess (aj a.nums[j]) (aj a.nums[j+1])=false:=q4
         simp -implicitDefEqProofs only[go_sem,h5]
         refine ab ?_
         refine sA ?_
         all_goals(simp[hg];done)
        ·rw[q4,Bool.true_and] at hg
         have h5:Op.bytesLess (aj a.nums[j]) (aj a.nums[j+1])=true:=q4
         simp -implicitDefEqProofs only[go_sem,h5]
         repeat(with_reducible apply And.intro;exact sO)
         refine⟨j+1+1,?_,?_,ah [some 0] ?_ ?_ rfl rfl⟩
         rotate_left
         ·show _ < _
          omega
         ·exact sC
         ·exact sC
         refine⟨by omega,?_,?_⟩
         ·rw[hg,dI g1]
         ·intro q hq
          rw[dI g1] at hq
          cases hq
          exact q1
  ·rw[List.drop_of_length_le (by omega),List.drop_of_length_le (by omega)] at hg
   have hg:aX a=true:=by rw[hg];cases gf a.nums i<;>rfl
   simp -implicitDefEqProofs only[go_sem,g1]
   refine ab ?_
   refine sA ?_
   all_goals(simp[hg];done)
theorem vV(a:Atom)(k2:a.kind=2)(hno:¬ (isNone a.A=true∧isNone a.B=true∧a.nums.length=a.times.length∧within a.nums.length 1 4=true∧within a.bound (-1000) 1000=true)):C E.P 212 [av (fZ a)] [] (aM (bv (aX a)) []):=by
 have e:=DV k2
 refine gS (nt:=97) (rs:=[.tmp 2]) hm Tryz.func212 fun hl he hLB=>?_
 refine aC [] (iQ a.A) ?_
 cases h1:isNone a.A
 ·simp -implicitDefEqProofs only[go_sem]
  refine ab ?_
  refine sA ?_
  all_goals(simp[e,h1];done)
 ·simp -implicitDefEqProofs only[go_sem]
  refine aC [] (iQ a.B) ?_
  cases h2:isNone a.B
  ·simp -implicitDefEqProofs only[go_sem]
   refine ab ?_
   refine sA ?_
   all_goals(simp[e,h1,h2];done)
  ·refine sA ?_
   rcases Classical.em (a.nums.length=a.times.length) with h4|h4
   ·have h4':a.times.length=a.nums.length:=h4.symm
    have k4:=eq_true h4
    simp -implicitDefEqProofs only[go_sem,k4]
    cases h3:within a.nums.length 1 4
    ·have e0:aX a=false:=by simp[e,h3]
     rcases Classical.em ((a.nums.length:Int)<1) with h5|h5
     ·simp -implicitDefEqProofs only[go_sem,h5]
      refine ab ?_
      refine sA ?_
      all_goals(simp[e0];done)
     ·have h6:(4:Int)<(a.nums.length:Int):=by have:=um h3;omega
      simp -implicitDefEqProofs only[go_sem,h5,h6]
      refine ab ?_
      refine sA ?_
      all_goals(simp[e0];done)
    ·have h3':=br.1 h3
     have h5:¬ (a.nums.length:Int)<1:=by omega
     have h6:¬ (4:Int)<(a.nums.length:Int):=by omega
     simp -implicitDefEqProofs only[go_sem,h5,h6]
     cases h7:within a.bound (-1000) 1000
     ·have e0:aX a=false:=by simp[e,h7]
      rcases Classical.em (a.bound < -1000) with h8|h8
      ·simp -implicitDefEqProofs only[go_sem,h8]
       refine ab ?_
       refine sA ?_
       all_goals(simp[e0];done)
      ·have h9:1000<a.bound:=by have:=um h7;omega
       simp -implicitDefEqProofs only[go_sem,h8,h9]
       refine ab ?_
       refine sA ?_
       all_goals(simp[e0];done)
     ·exact absurd ⟨h1,h2,h4,h3,h7⟩ hno
   ·have h4':¬a.times.length=a.nums.length:=fun h=>h4 h.symm
    simp -implicitDefEqProofs only[go_sem,h4]
    refine ab ?_
    refine sA ?_
    all_goals(simp[e,h4'];done)
theorem Co(a:Atom)(k2:a.kind=2):C E.P 212 [av (fZ a)] [] (aM (bv (aX a)) []):=by
 rcases Classical.em (isNone a.A=true∧isNone a.B=true∧a.nums.length=a.times.length∧within a.nums.length 1 4=true∧within a.bound (-1000) 1000=true) with h|h
 ·obtain⟨h1,h2,h4,h3,h7⟩:=h
  have h3':=br.1 h3
  have h7':=br.1 h7
  have h4':=h4.symm
  exact tP a (by simp[DV k2,h1,h2,h3,h4',h7]) h1 h2 h4 (by omega) (by omega) (by omega) (by omega)
 ·exact vV a k2 h
theorem oB(a:Atom):C E.P 156 [av (fZ a)] [] (aM (bv (aX a)) []):=by
 refine gS (nt:=43) (rs:=[.tmp 2]) hm Tryz.func156 fun hl he hLB=>?_
 rcases Classical.em (a.kind=2) with k2|k2
 ·have k:=eq_true k2
  simp -implicitDefEqProofs only[go_sem,k]
  refine ck [] (Co a k2) ?_ ?_<;>simp -implicitDefEqProofs only[go_sem]
  refine ab ?_
  simp -implicitDefEqProofs only[go_sem]
 ·simp -implicitDefEqProofs only[go_sem,k2]
  rcases Classical.em (a.kind=1) with k1|k1
  ·have e:aX a=(isTerm a.A&&(isTerm a.B&&(decide (a.nums.length=0)&&(decide (a.times.length=0)&&(decide (a.bound=0)&& !a.strict))))):=by simp[aX,k1]
   have k:=eq_true k1
   simp -implicitDefEqProofs only[go_sem,k]
   refine aC [] (ki a.A) ?_
   cases h1:isTerm a.A
   ·simp -implicitDefEqProofs only[go_sem]
    refine ab ?_
    refine sA ?_
    all_goals(simp[e,h1];done)
   ·simp -implicitDefEqProofs only[go_sem]
    refine aC [] (ki a.B) ?_
    cases h2:isTerm a.B
    ·simp -implicitDefEqProofs only[go_sem]
     refine ab ?_
     refine sA ?_
     all_goals(simp[e,h1,h2];done)
    ·refine sA ?_
     rcases Classical.em ((a.nums.length:Int)=0) with h3|h3
     ·have h3':a.nums.length=0:=by omega
      have k3:=eq_true h3
      simp -implicitDefEqProofs only[go_sem,k3]
      rcases Classical.em ((a.times.length:Int)=0) with h4|h4
      ·have h4':a.times.length=0:=by omega
       have k4:=eq_true h4
       simp -implicitDefEqProofs only[go_sem,k4]
       rcases Classical.em (a.bound=0) with h5|h5
       ·have k5:=eq_true h5
        simp -implicitDefEqProofs only[go_sem,k5]
        refine ab ?_
        refine sA ?_
        all_goals(simp[e,h1,h2,h3',h4',h5];done)
       ·simp -implicitDefEqProofs only[go_sem,h5]
        refine ab ?_
        refine sA ?_
        all_goals(simp[e,h1,h2,h3',h4',h5];done)
      ·have h4':¬a.times.length=0:=by omega
       simp -implicitDefEqProofs only[go_sem,h4]
       refine ab ?_
       refine sA ?_
       all_goals(simp[e,h1,h2,h3',h4'];done)
     ·have h3':¬a.nums.length=0:=by omega
      simp -implicitDefEqProofs only[go_sem,h3]
      refine ab ?_
      refine sA ?_
      all_goals(simp[e,h1,h2,h3'];done)
  ·simp -implicitDefEqProofs only[go_sem,k1]
   refine ab ?_
   refine sA ?_
   all_goals(simp[aX,k1,k2];done)
theorem C6{s:bJ}{t:Term}(hs:bT s=true)(ht:isTerm t=true):bc s t=decide ((cu s t).getD (-1)=1):=by
 simp only[bc,bx,hs,ht,Bool.and_self,if_true]
 cases cu s t<;>simp
theorem zq(s:bJ)(a:Atom):C E.P 88 [av (bw s),av (fZ a)] [] (aM (bv (b7 s a)) []):=by
 refine gS (nt:=47) (rs:=[.tmp 4]) hm Tryz.func88 fun hl he hLB=>?_
 refine aC [] (se s) ?_
 cases h1:bT s
 ·refine sA ?_
  refine ab ?_
  refine sA ?_
  all_goals(simp[b7,h1];done)
 ·refine sA ?_
  refine aC [] (oB a) ?_
  cases h2:aX a
  ·refine sA ?_
   refine ab ?_
   refine sA ?_
   all_goals(simp[b7,h1,h2];done)
  ·refine sA ?_
   rcases Classical.em (a.kind=1) with k1|k1
   ·have hAB:=AD h2 k1
    have k:=eq_true k1
    have tA:bx s a.A=cu s a.A:=by simp[bx,h1,hAB.1]
    have tB:bx s a.B=cu s a.B:=by simp[bx,h1,hAB.2]
    have cA:=ld s h1 a.A
    have cB:=ld s h1 a.B
    simp -implicitDefEqProofs only[go_sem,k]
    refine aC [] cA ?_
    cases qA:cu s a.A with
    | none=>
      simp -implicitDefEqProofs only[go_sem,Z3,Option.getD_none]
      refine ab ?_
      refine sA ?_
      all_goals(simp[b7,h1,h2,k1,dx,tA,qA];done)
    | some n=>
      have hn:=x9.1 (DR h1 qA)
      have hn2:0≤n:=by omega
      simp -implicitDefEqProofs only[go_sem,Option.getD_some,hn2]
      refine aC [] cB ?_
      cases qB:cu s a.B with
      | none=>
        have hn3:¬n = -1:=by omega
        simp -implicitDefEqProofs only[go_sem,Option.getD_none]
        refine ab ?_
        refine sA ?_
        all_goals(simp[b7,h1,h2,k1,dx,tA,tB,qA,qB,hn3];done)
      | some m=>
        simp -implicitDefEqProofs only[go_sem,Option.getD_some]
        refine ab ?_
        refine sA ?_
        all_goals(simp[b7,h1,h2,k1,dx,tA,tB,qA,qB];done)
   ·have k2:a.kind=2:=(kT h2).resolve_left k1
    have hw:=mJ h2 k2
    have hT:=(mO hw.2.2.2.2.2 hw.2.2.2.1).1
    simp -implicitDefEqProofs only[go_sem,k1]
    refine al hm (fun(i:Nat)=> i≤a.nums.length∧a.nums.all (bc s)=(a.nums.drop i).all (bc s)) (fun(i:Nat)=> ⟨bW 47 .any [(2,.ptr 0 0),(3,.ptr 1 0),(6,iv i)],[some (.box (bn (bw s))),some (.box (bn (fZ a)))]⟩) (fun(i:Nat)=> a.nums.length-i) (0) ?_ (ah [some 0,some 1] ?_ ?_ rfl rfl) ?_
    rotate_left
    ·exact sC
    ·exact sC
    rotate_left
    ·simp
    ·rintro i ⟨hi,hg⟩
     rcases Classical.em (i<a.nums.length) with g1|g1
     ·rw[List.drop_eq_getElem_cons g1,List.all_cons,C6 h1 (hT _ (List.getElem_mem g1))] at hg
      have cT:=ld s h1 a.nums[i]
      simp -implicitDefEqProofs only[go_sem,g1]
      refine aC [] cT ?_
      refine iK ?_
      rcases Classical.em ((cu s a.nums[i]).getD (-1)=1) with q|q
      ·have k:=eq_true q
       simp only[k,decide_true,Bool.true_and] at hg
       simp -implicitDefEqProofs only[go_sem,k]
       repeat(with_reducible apply And.intro;exact sO)
       refine⟨i+1,?_,?_,ah [some 0,some 1] ?_ ?_ rfl rfl⟩
       rotate_left
       ·show _ < _
        omega
       ·exact sC
       ·exact sC
       exact⟨by omega,hg⟩
      ·have k:=eq_false q
       simp only[k,decide_false,Bool.false_and] at hg
       simp -implicitDefEqProofs only[go_sem,k]
       refine ab ?_
       refine sA ?_
       all_goals(simp[b7,h1,h2,k1,hg];done)
     ·rw[List.drop_of_length_le (by omega),List.all_nil] at hg
      simp -implicitDefEqProofs only[go_sem,g1]
      refine ab ?_
      refine sA ?_
      all_goals(simp[b7,h1,h2,k1,hg];done)
theorem vT(l:aG)(h:aX l.atom=true):C E.P 126 [av (kO l)] [] (aM (lv (ai (aI l.atom))) []):=by
 have hle:=(fP h).1
 refine gS (nt:=43) (rs:=[.tmp 2]) hm Tryz.func126 fun hl he hLB=>?_
 refine ck [] (oB l.atom) ?_ ?_<;>simp -implicitDefEqProofs only[go_sem,h]
 rcases Classical.em (l.atom.kind=1) with k1|k1
 ·have k:=eq_true k1
  simp -implicitDefEqProofs only[go_sem,k]
  refine aC [] (fg l.atom.A) ?_
  refine aC [] (fg l.atom.B) ?_
  refine iK ?_
  refine ab ?_
  refine sA ?_
  all_goals(simp[aI,k1,ba,cV,cT];done)
 ·have e:aI l.atom=l.atom.nums:=by simp[aI,k1]
  rw[e] at hle
  simp -implicitDefEqProofs only[go_sem,k1]
  refine al hm (fun(i:Nat)=> i≤l.atom.nums.length) (fun(i:Nat)=> ⟨bW 43 .any [(1,.ptr 0 0),(3,.acc 1),(4,iv i)],[some (.box (bn (kO l))),some (.acc 35 (ai (l.atom.nums.take i)))]⟩) (fun(i:Nat)=> l.atom.nums.length-i) (0) ?_ (ah [some 0,some 1] ?_ ?_ rfl rfl) ?_
  rotate_left
  ·exact sC
  ·exact sC
  rotate_left
  ·omega
  ·rintro i hi
   rcases Classical.em (i<l.atom.nums.length) with h1|h1
   ·simp -implicitDefEqProofs only[go_sem,h1]
    refine aC [] (fg l.atom.nums[i]) ?_
    repeat(with_reducible apply And.intro;exact sO)
    refine⟨i+1,?_,?_,ah [some 0,some 2] ?_ ?_ rfl rfl⟩
    rotate_left
    ·show _ < _
     omega
    ·exact sC
    ·refine sA ?_
     all_goals(exact nx h1)
    exact h1
   ·simp -implicitDefEqProofs only[go_sem,h1]
    refine ab ?_
    refine sA ?_
    rw[List.take_of_length_le (by omega),e]
theorem yp(lits:List aG)(hl1:lits.length≤100)(hw:∀l∈lits,aX l.atom=true):C E.P 55 [lv (ax lits)] [] (aM (lv (ai (aA lits))) []):=by
 obtain⟨hle,hok⟩:=c6 hw
 have e:aA lits=ak [] (bq lits):=by rw[eY,dq hok]
 refine gS (nt:=32) (rs:=[.tmp 2]) hm Tryz.func55 fun hl he hLB=>?_
 refine al hm (fun(i:Nat)=> i≤lits.length) (fun(i:Nat)=> ⟨bW 32 .any [(0,lv (ax lits)),(3,.acc 0),(4,iv i)],[some (.acc 35 (ai (ak [] (bq (lits.take i)))))]⟩) (fun(i:Nat)=> lits.length-i) (0) ?_ (ah [some 0] ?_ ?_ rfl rfl) ?_
 rotate_left
 ·exact sC
 ·refine sA ?_
  all_goals(simp[bq,ak])
 rotate_left
 ·omega
 ·rintro i hi
  rcases Classical.em (i<lits.length) with h1|h1
  ·have hwi:=hw lits[i] (List.getElem_mem h1)
   have h3:=fP hwi
   have h2:=c6 (lits:=lits.take i) fun l hl=>hw l (List.mem_of_mem_take hl)
   have h4:(lits.take i).length≤100:=by simp;omega
   simp -implicitDefEqProofs only[go_sem,h1]
   refine aC [] (vT lits[i] hwi) ?_
   refine al hm (fun(j:Nat)=> j≤(aI lits[i].atom).length) (fun(j:Nat)=> ⟨bW 32 .any [(0,lv (ax lits)),(3,.acc 0),(4,iv i),(5,lv (ai (aI lits[i].atom))),(6,iv j)],[some (.acc 35 (ai (ak [] (bq (lits.take i)++(aI lits[i].atom).take j))))]⟩) (fun(j:Nat)=> (aI lits[i].atom).length-j) (0) ?_ (ah [some 0] ?_ ?_ rfl rfl) ?_
   rotate_left
   ·exact sC
   ·exact sC
   rotate_left
   ·omega
   ·rintro j hj
    rcases Classical.em (j<(aI lits[i].atom).length) with g1|g1
    ·have ht:=h3.2 (aI lits[i].atom)[j] (List.getElem_mem g1)
     have hsub:∀t∈bq (lits.take i)++(aI lits[i].atom).take j,isTerm t=true:=by
      intro t ht
      rcases List.mem_append.1 ht with ht|ht
      ·exact h2.2 t ht
      ·exact h3.2 t (List.mem_of_mem_take ht)
     have b1:=jA _ [] hsub
     have b2:(bq (lits.take i)++(aI lits[i].atom).take j).length≤410:=by rw[List.length_append,List.length_take];omega
     simp only[List.length_nil] at b1
     simp -implicitDefEqProofs only[go_sem,g1]
     refine oC [] [0,1] (xO (aI lits[i].atom)[j] 4 _ (by omega) (cZ ht) (Nat.le_trans b1 (by omega))) ?_
     repeat(with_reducible apply And.intro;exact sO)
     refine⟨j+1,?_,?_,ah [some 1] ?_ ?_ rfl rfl⟩
     rotate_left
     ·show _ < _
      omega
     ·exact sC
     ·refine sA ?_
      all_goals((simp only[gz g1,←List.append_assoc,wY,ak]))
     exact g1
    ·have ej:(aI lits[i].atom).take j=aI lits[i].atom:=List.take_of_length_le (by omega)
     simp -implicitDefEqProofs only[go_sem,g1]
     repeat(with_reducible apply And.intro;exact sO)
     refine⟨i+1,?_,?_,ah [some 0] ?_ ?_ rfl rfl⟩
     rotate_left
     ·show _ < _
      omega
     ·exact sC
     ·refine sA ?_
      all_goals((rw[lM h1,ej]))
     exact h1
  ·have et:lits.take i=lits:=List.take_of_length_le (by omega)
   simp -implicitDefEqProofs only[go_sem,h1,et]
   refine ab ?_
   refine sA ?_
   rw[e]
theorem y5(s:bJ)(ts:List Term)(hs:bT s=true)(ht:∀t∈ts,isTerm t=true)(hl1:ts.length≤10000):C E.P 54 [av (bw s),lv (ai ts)] [] (aM (lv (ai (ts.filter (bc s)))) []):=by
 refine gS (nt:=29) (rs:=[.tmp 4]) hm Tryz.func54 fun hl he hLB=>?_
 refine al hm (fun(i:Nat)=> i≤ts.length) (fun(i:Nat)=> ⟨bW 29 .any [(1,lv (ai ts)),(2,.ptr 0 0),(5,.acc 1),(6,iv i)],[some (.box (bn (bw s))),some (.acc 35 (ai ((ts.take i).filter (bc s))))]⟩) (fun(i:Nat)=> ts.length-i) (0) ?_ (ah [some 0,some 1] ?_ ?_ rfl rfl) ?_
 rotate_left
 ·exact sC
 ·refine sA ?_
  all_goals(simp[*];done)
 rotate_left
 ·omega
 ·rintro i hi
  rcases Classical.em (i<ts.length) with h1|h1
  ·have hc:=ld s hs ts[i]
   have hn:=C6 hs (ht ts[i] (List.getElem_mem h1))
   have hb:((ts.take i).filter (bc s)).length≤10000:=Nat.le_trans (List.length_filter_le _ _) (by simp;omega)
   simp -implicitDefEqProofs only[go_sem,h1]
   refine aC [] hc ?_
   refine iK ?_
   rcases Classical.em ((cu s ts[i]).getD (-1)=1) with q|q
   ·have k:=eq_true q
    have hn:bc s ts[i]=true:=by rw[hn];exact decide_eq_true q
    simp -implicitDefEqProofs only[go_sem,k,h1]
    repeat(with_reducible apply And.intro;exact sO)
    refine⟨i+1,?_,?_,ah [some 0,some 2] ?_ ?_ rfl rfl⟩
    rotate_left
    ·show _ < _
     omega
    ·exact sC
    ·refine sA ?_
     all_goals((rw[gz h1,List.filter_append,←db];simp[hn,ba,cT]))
    exact h1
   ·have k:=eq_false q
    have hn:bc s ts[i]=false:=by rw[hn];exact decide_eq_false q
    simp -implicitDefEqProofs only[go_sem,k]
    repeat(with_reducible apply And.intro;exact sO)
    refine⟨i+1,?_,?_,ah [some 0,some 1] ?_ ?_ rfl rfl⟩
    rotate_left
    ·show _ < _
     omega
    ·exact sC
    ·refine sA ?_
     all_goals((rw[gz h1,List.filter_append];simp[hn]))
    exact h1
  ·simp -implicitDefEqProofs only[go_sem,h1]
   refine ab ?_
   refine sA ?_
   rw[List.take_of_length_le (by omega)]
theorem xW(s:bJ)(lits:List aG)(hl1:lits.length≤100):C E.P 40 [av (bw s),lv (ax lits)] [] (aM (bv (bT s&&(lits.all (fun l=>b7 s l.atom)&&(decide ((aA lits).length≤24)&&decide ((numsOf s lits).length≤4))))) []):=by
 refine gS (nt:=37) (rs:=[.tmp 4]) hm Tryz.func40 fun hl he hLB=>?_
 refine al hm (fun(i:Nat)=> i≤lits.length∧lits.all (fun l=>b7 s l.atom)=(lits.drop i).all (fun l=>b7 s l.atom)) (fun(i:Nat)=> ⟨bW 37 .any [(1,lv (ax lits)),(2,.ptr 0 0),(5,iv i)],[some (.box (bn (bw s)))]⟩) (fun(i:Nat)=> lits.length-i) (0) ?_ (ah [some 0] ?_ ?_ rfl rfl) ?_
 rotate_left
 ·exact sC
 ·exact sC
 rotate_left
 ·simp
 ·rintro i ⟨hi,hg⟩
  rcases Classical.em (i<lits.length) with h1|h1
  ·rw[List.drop_eq_getElem_cons h1,List.all_cons] at hg
   simp -implicitDefEqProofs only[go_sem,h1]
   refine aC [] (zq s lits[i].atom) ?_
   refine iK ?_
   cases h2:b7 s lits[i].atom
   ·rw[h2,Bool.false_and] at hg
    refine sA ?_
    refine ab ?_
    refine sA ?_
    all_goals(simp[hg];done)
   ·rw[h2,Bool.true_and] at hg
    refine sA ?_
    repeat(with_reducible apply And.intro;exact sO)
    refine⟨i+1,?_,?_,ah [some 0] ?_ ?_ rfl rfl⟩
    rotate_left
    ·show _ < _
     omega
    ·exact sC
    ·exact sC
    exact⟨by omega,hg⟩
  ·rw[List.drop_of_length_le (by omega),List.all_nil] at hg
   have hw:∀l∈lits,aX l.atom=true:=by
    intro l hl
    have:=List.all_eq_true.1 hg l hl
    simp only[b7,Bool.and_eq_true] at this
    exact this.2.1
   have hok:=(c6 hw).2
   have htt:∀t∈aA lits,isTerm t=true:=by rw[eY];exact gl hok
   simp -implicitDefEqProofs only[go_sem,h1]
   refine aC [] (yp lits hl1 hw) ?_
   refine aC [] (se s) ?_
   cases h2:bT s
   ·refine sA ?_
    refine ab ?_
    exact sC
   ·refine sA ?_
    rcases Classical.em (((aA lits).length:Int)≤24) with h3|h3
    ·have h3':(aA lits).length≤24:=by omega
     have e:numsOf s lits=(aA lits).filter (bc s):=rfl
     simp -implicitDefEqProofs only[go_sem,h3]
     refine aC [] (y5 s (aA lits) h2 htt (by omega)) ?_
     refine ab ?_
     refine sA ?_
     simp only[hg,h3',e,decide_true,Bool.true_and]
     congr 2
     exact decide_eq_decide.2 (by omega)
    ·have h3':¬ (aA lits).length≤24:=by omega
     simp -implicitDefEqProofs only[go_sem,h3]
     refine ab ?_
     refine sA ?_
     all_goals(simp[h3'];done)
theorem qd(s:bJ)(lits:List aG):C E.P 9 [av (bw s),lv (ax lits)] [] (aM (bv (bO s lits)) []):=by
 refine gS (nt:=13) (rs:=[.tmp 4]) hm Tryz.func9 fun hl he hLB=>?_
 rcases Classical.em ((lits.length:Int)≤6) with h|h
 ·have h':lits.length≤6:=by omega
  simp -implicitDefEqProofs only[go_sem,h]
  refine aC [] (xW s lits (by omega)) ?_
  refine ab ?_
  refine sA ?_
  simp only[bO,h',decide_true,Bool.and_true,Bool.and_assoc]
 ·have h':¬lits.length≤6:=by omega
  simp -implicitDefEqProofs only[go_sem,h]
  refine ab ?_
  refine sA ?_
  all_goals(simp[bO,h'];done)
end Go.Proofs.YtpidddienjoleaaGreat
