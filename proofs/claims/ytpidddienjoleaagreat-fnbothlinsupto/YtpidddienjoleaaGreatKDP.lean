/-
  The reference: the walks of atoms and literals. A step towards the exact laws.
-/
import Derived.Test.YtpidddienjoleaaGreatKDI
import Derived.Test.YtpidddienjoleaaGreatKDE
set_option linter.unusedVariables false
set_option linter.unusedSimpArgs false
namespace Go.Proofs.YtpidddienjoleaaGreat
open Go.Eng Go.Mod
open Int renaming reduceEq→Z1,reduceLT→Z2,reduceLE→Z3,reduceToNat→Z4
set_option maxRecDepth 100000
set_option maxHeartbeats 800000
theorem u5{n lo hi:Int}(h:within n lo hi=false):n<lo∨hi<n:=by
 simp only[within,Bool.and_eq_false_iff,decide_eq_false_iff_not] at h
 omega
theorem Ey{a:Atom}(k2:a.kind=2):aZ a=(isNone a.A&&(isNone a.B&&(within a.nums.length 1 4&&(decide (a.times.length=a.nums.length)&&(within a.bound (-1000) 1000&&eU none a.nums a.times))))):=by simp[aZ,k2]
theorem vj(a:Atom)(e:aZ a=eU none a.nums a.times)(h1:isNone a.A=true)(h2:isNone a.B=true)(h4:a.nums.length=a.times.length)(h5:¬ (a.nums.length:Int)<1)(h6:¬ (4:Int)<(a.nums.length:Int))(h8:¬a.bound < -1000)(h9:¬1000<a.bound):C E.P 212 [av (gr a)] [] (aO (bv (aZ a)) []):=by
 have k4:=eq_true h4
 refine gS (nt:=97) (rs:=[.tmp 2]) hm Tryz.func212 fun hl he hLB=>?_
 refine cL [] (jg a.A) ?_ ?_<;>simp -implicitDefEqProofs only[go_sem,h1]
 refine cL [] (jg a.B) ?_ ?_<;>simp -implicitDefEqProofs only[go_sem,h2,k4,h5,h6,h8,h9]
 refine au hm (fun(i:Nat)=> i≤a.nums.length∧aZ a=eU (gx a.nums i) (a.nums.drop i) (a.times.drop i)∧∀q,gx a.nums i=some q→isTerm q=true) (fun(i:Nat)=> ⟨b9 97 .any [(1,.ptr 0 0),(3,iv i)],[some (.box (bn (gr a)))]⟩) (fun(i:Nat)=> a.nums.length-i) (0) ?_ (ah [some 0] ?_ ?_ rfl rfl) ?_
 rotate_left
 ·exact sC
 ·simp -implicitDefEqProofs only[go_sem]
 rotate_left
 ·exact⟨by omega,e,fun q h=>by cases h⟩
 ·rintro i ⟨hi,hg,hp⟩
  rcases Classical.em (i<a.nums.length) with g1|g1
  ·have g2:i<a.times.length:=by omega
   rw[vC g1 g2] at hg
   simp -implicitDefEqProofs only[go_sem,g1,g2]
   refine aC [] (kQ a.nums[i]) ?_
   cases q1:isTerm a.nums[i]
   ·rw[q1,Bool.false_and] at hg
    simp -implicitDefEqProofs only[go_sem]
    refine iK ?_
    refine ab ?_
    refine sA ?_
    all_goals(simp[hg];done)
   ·rw[q1,Bool.true_and] at hg
    refine sA ?_
    rcases Classical.em (a.times[i]=0) with q3|q3
    ·have k3:=eq_true q3
     have hg:aZ a=false:=by rw[hg];simp[q3]
     simp -implicitDefEqProofs only[go_sem,k3]
     refine iK ?_
     refine ab ?_
     refine sA ?_
     all_goals(simp[hg];done)
    ·simp -implicitDefEqProofs only[go_sem,q3]
     cases q2:within a.times[i] (-50) 50
     ·have hg:aZ a=false:=by rw[hg,q2];rfl
      rcases Classical.em (a.times[i] < -50) with q5|q5
      ·simp -implicitDefEqProofs only[go_sem,q5]
       refine iK ?_
       refine ab ?_
       refine sA ?_
       all_goals(simp[hg];done)
      ·have q6:50<a.times[i]:=by have:=u5 q2;omega
       simp -implicitDefEqProofs only[go_sem,q5,q6]
       refine iK ?_
       refine ab ?_
       refine sA ?_
       all_goals(simp[hg];done)
     ·have q2':=bu.1 q2
      have q5:¬a.times[i] < -50:=by omega
      have q6:¬50<a.times[i]:=by omega
      rw[q2,Bool.true_and] at hg
      simp only[q3,not_false_eq_true,ne_eq,decide_true,Bool.true_and] at hg
      cases i with
      | zero=>
        simp only[gx,Bool.true_and] at hg
        simp -implicitDefEqProofs only[go_sem,q5,q6,Int.lt_irrefl]
        refine iK ?_
        repeat(with_reducible apply And.intro;exact sO)
        refine⟨0+1,?_,?_,ah [some 0] ?_ ?_ rfl rfl⟩
        rotate_left
        ·show _ < _
         omega
        ·refine sA ?_
         all_goals(simp[*];done)
        ·exact sC
        refine⟨by omega,?_,?_⟩
        ·rw[hg,dJ g1]
        ·intro q hq
         rw[dJ g1] at hq
         cases hq
         exact q1
      | succ j=>
        have hj:j<a.nums.length:=by omega
        have e1:((j:Int)+1-1)=(j:Int):=by omega
        have e2:(0:Int)<(j:Int)+1:=by omega
        have et:((j:Int)+1).toNat=j+1:=by omega
        have tp:=hp _ (dJ hj)
        rw[dJ hj] at hg
        simp only at hg
        simp -implicitDefEqProofs only[go_sem,q5,q6,e1,e2,hj]
        repeat(with_reducible apply And.intro;exact sO)
        refine cL [] (o5 a.nums[j] tp) ?_ ?_<;>simp -implicitDefEqProofs only[go_sem,et,g1]
        repeat(with_reducible apply And.intro;exact sO)
        refine aC [] (o5 a.nums[j+1] q1) ?_
        refine iK ?_
        cases q4:cR (ak a.nums[j]) (ak a.nums[j+1])
        ·rw[q4,Bool.false_and] at hg
         have h5:Op.bytesLess (ak a.nums[j]) (ak a.nums[j+1])=false:=q4
         simp -implicitDefEqProofs only[go_sem,h5]
         refine ab ?_
         refine sA ?_
         all_goals(simp[hg];done)
        ·rw[q4,Bool.true_and] at hg
         have h5:Op.bytesLess (ak a.nums[j]) (ak a.nums[j+1])=true:=q4
         simp -implicitDefEqProofs only[go_sem,h5]
         repeat(with_reducible apply And.intro;exact sO)
         refine⟨j+1+1,?_,?_,ah [some 0] ?_ ?_ rfl rfl⟩
         rotate_left
         ·show _ < _
          omega
         ·exact sC
         ·exact sC
         refine⟨by omega,?_,?_⟩
         ·rw[hg,dJ g1]
         ·intro q hq
          rw[dJ g1] at hq
          cases hq
          exact q1
  ·rw[List.drop_of_length_le (by omega),List.drop_of_length_le (by omega)] at hg
   have hg:aZ a=true:=by rw[hg];cases gx a.nums i<;>rfl
   simp -implicitDefEqProofs only[go_sem,g1]
   refine ab ?_
   refine sA ?_
   all_goals(simp[hg];done)
theorem w9(a:Atom)(k2:a.kind=2)(hno:¬ (isNone a.A=true∧isNone a.B=true∧a.nums.length=a.times.length∧within a.nums.length 1 4=true∧within a.bound (-1000) 1000=true)):C E.P 212 [av (gr a)] [] (aO (bv (aZ a)) []):=by
 have e:=Ey k2
 refine gS (nt:=97) (rs:=[.tmp 2]) hm Tryz.func212 fun hl he hLB=>?_
 refine aC [] (jg a.A) ?_
 cases h1:isNone a.A
 ·simp -implicitDefEqProofs only[go_sem]
  refine ab ?_
  refine sA ?_
  all_goals(simp[e,h1];done)
 ·simp -implicitDefEqProofs only[go_sem]
  refine aC [] (jg a.B) ?_
  cases h2:isNone a.B
  ·simp -implicitDefEqProofs only[go_sem]
   refine ab ?_
   refine sA ?_
   all_goals(simp[e,h1,h2];done)
  ·refine sA ?_
   rcases Classical.em (a.nums.length=a.times.length) with h4|h4
   ·have h4':a.times.length=a.nums.length:=h4.symm
    have k4:=eq_true h4
    simp -implicitDefEqProofs only[go_sem,k4]
    cases h3:within a.nums.length 1 4
    ·have e0:aZ a=false:=by simp[e,h3]
     rcases Classical.em ((a.nums.length:Int)<1) with h5|h5
     ·simp -implicitDefEqProofs only[go_sem,h5]
      refine ab ?_
      refine sA ?_
      all_goals(simp[e0];done)
     ·have h6:(4:Int)<(a.nums.length:Int):=by have:=u5 h3;omega
      simp -implicitDefEqProofs only[go_sem,h5,h6]
      refine ab ?_
      refine sA ?_
      all_goals(simp[e0];done)
    ·have h3':=bu.1 h3
     have h5:¬ (a.nums.length:Int)<1:=by omega
     have h6:¬ (4:Int)<(a.nums.length:Int):=by omega
     simp -implicitDefEqProofs only[go_sem,h5,h6]
     cases h7:within a.bound (-1000) 1000
     ·have e0:aZ a=false:=by simp[e,h7]
      rcases Classical.em (a.bound < -1000) with h8|h8
      ·simp -implicitDefEqProofs only[go_sem,h8]
       refine ab ?_
       refine sA ?_
       all_goals(simp[e0];done)
      ·have h9:1000<a.bound:=by have:=u5 h7;omega
       simp -implicitDefEqProofs only[go_sem,h8,h9]
       refine ab ?_
       refine sA ?_
       all_goals(simp[e0];done)
     ·exact absurd ⟨h1,h2,h4,h3,h7⟩ hno
   ·have h4':¬a.times.length=a.nums.length:=fun h=>h4 h.symm
    simp -implicitDefEqProofs only[go_sem,h4]
    refine ab ?_
    refine sA ?_
    all_goals(simp[e,h4'];done)
theorem CU(a:Atom)(k2:a.kind=2):C E.P 212 [av (gr a)] [] (aO (bv (aZ a)) []):=by
 rcases Classical.em (isNone a.A=true∧isNone a.B=true∧a.nums.length=a.times.length∧within a.nums.length 1 4=true∧within a.bound (-1000) 1000=true) with h|h
 ·obtain⟨h1,h2,h4,h3,h7⟩:=h
  have h3':=bu.1 h3
  have h7':=bu.1 h7
  have h4':=h4.symm
  exact vj a (by simp[Ey k2,h1,h2,h3,h4',h7]) h1 h2 h4 (by omega) (by omega) (by omega) (by omega)
 ·exact w9 a k2 h
theorem oY(a:Atom):C E.P 156 [av (gr a)] [] (aO (bv (aZ a)) []):=by
 refine gS (nt:=43) (rs:=[.tmp 2]) hm Tryz.func156 fun hl he hLB=>?_
 rcases Classical.em (a.kind=2) with k2|k2
 ·have k:=eq_true k2
  simp -implicitDefEqProofs only[go_sem,k]
  refine cL [] (CU a k2) ?_ ?_<;>simp -implicitDefEqProofs only[go_sem]
  refine ab ?_
  simp -implicitDefEqProofs only[go_sem]
 ·simp -implicitDefEqProofs only[go_sem,k2]
  rcases Classical.em (a.kind=1) with k1|k1
  ·have e:aZ a=(isTerm a.A&&(isTerm a.B&&(decide (a.nums.length=0)&&(decide (a.times.length=0)&&(decide (a.bound=0)&& !a.strict))))):=by simp[aZ,k1]
   have k:=eq_true k1
   simp -implicitDefEqProofs only[go_sem,k]
   refine aC [] (kQ a.A) ?_
   cases h1:isTerm a.A
   ·simp -implicitDefEqProofs only[go_sem]
    refine ab ?_
    refine sA ?_
    all_goals(simp[e,h1];done)
   ·simp -implicitDefEqProofs only[go_sem]
    refine aC [] (kQ a.B) ?_
    cases h2:isTerm a.B
    ·simp -implicitDefEqProofs only[go_sem]
     refine ab ?_
     refine sA ?_
     all_goals(simp[e,h1,h2];done)
    ·refine sA ?_
     rcases Classical.em ((a.nums.length:Int)=0) with h3|h3
     ·have h3':a.nums.length=0:=by omega
      have k3:=eq_true h3
      simp -implicitDefEqProofs only[go_sem,k3]
      rcases Classical.em ((a.times.length:Int)=0) with h4|h4
      ·have h4':a.times.length=0:=by omega
       have k4:=eq_true h4
       simp -implicitDefEqProofs only[go_sem,k4]
       rcases Classical.em (a.bound=0) with h5|h5
       ·have k5:=eq_true h5
        simp -implicitDefEqProofs only[go_sem,k5]
        refine ab ?_
        refine sA ?_
        all_goals(simp[e,h1,h2,h3',h4',h5];done)
       ·simp -implicitDefEqProofs only[go_sem,h5]
        refine ab ?_
        refine sA ?_
        all_goals(simp[e,h1,h2,h3',h4',h5];done)
      ·have h4':¬a.times.length=0:=by omega
       simp -implicitDefEqProofs only[go_sem,h4]
       refine ab ?_
       refine sA ?_
       all_goals(simp[e,h1,h2,h3',h4'];done)
     ·have h3':¬a.nums.length=0:=by omega
      simp -implicitDefEqProofs only[go_sem,h3]
      refine ab ?_
      refine sA ?_
      all_goals(simp[e,h1,h2,h3'];done)
  ·simp -implicitDefEqProofs only[go_sem,k1]
   refine ab ?_
   refine sA ?_
   all_goals(simp[aZ,k1,k2];done)
theorem Fk{s:bA}{t:Term}(hs:bV s=true)(ht:isTerm t=true):aY s t=decide ((bB s t).getD (-1)=1):=by
 simp only[aY,bp,hs,ht,Bool.and_self,if_true]
 cases bB s t<;>simp
theorem AG(s:bA)(a:Atom):C E.P 88 [av (bF s),av (gr a)] [] (aO (bv (bS s a)) []):=by
 refine gS (nt:=47) (rs:=[.tmp 4]) hm Tryz.func88 fun hl he hLB=>?_
 refine aC [] (tJ s) ?_
 cases h1:bV s
 ·refine sA ?_
  refine ab ?_
  refine sA ?_
  all_goals(simp[bS,h1];done)
 ·refine sA ?_
  refine aC [] (oY a) ?_
  cases h2:aZ a
  ·refine sA ?_
   refine ab ?_
   refine sA ?_
   all_goals(simp[bS,h1,h2];done)
  ·refine sA ?_
   rcases Classical.em (a.kind=1) with k1|k1
   ·have hAB:=A6 h2 k1
    have k:=eq_true k1
    have tA:bp s a.A=bB s a.A:=by simp[bp,h1,hAB.1]
    have tB:bp s a.B=bB s a.B:=by simp[bp,h1,hAB.2]
    have cA:=lP s h1 a.A
    have cB:=lP s h1 a.B
    simp -implicitDefEqProofs only[go_sem,k]
    refine aC [] cA ?_
    cases qA:bB s a.A with
    | none=>
      simp -implicitDefEqProofs only[go_sem,Z3,Option.getD_none]
      refine ab ?_
      refine sA ?_
      all_goals(simp[bS,h1,h2,k1,fX,tA,qA];done)
    | some n=>
      have hn:=yD.1 (D6 h1 qA)
      have hn2:0≤n:=by omega
      simp -implicitDefEqProofs only[go_sem,Option.getD_some,hn2]
      refine aC [] cB ?_
      cases qB:bB s a.B with
      | none=>
        have hn3:¬n = -1:=by omega
        simp -implicitDefEqProofs only[go_sem,Option.getD_none]
        refine ab ?_
        refine sA ?_
        all_goals(simp[bS,h1,h2,k1,fX,tA,tB,qA,qB,hn3];done)
      | some m=>
        simp -implicitDefEqProofs only[go_sem,Option.getD_some]
        refine ab ?_
        refine sA ?_
        all_goals(simp[bS,h1,h2,k1,fX,tA,tB,qA,qB];done)
   ·have k2:a.kind=2:=(gQ h2).resolve_left k1
    have hw:=kU h2 k2
    have hT:=(nx hw.2.2.2.2.2 hw.2.2.2.1).1
    simp -implicitDefEqProofs only[go_sem,k1]
    refine au hm (fun(i:Nat)=> i≤a.nums.length∧a.nums.all (aY s)=(a.nums.drop i).all (aY s)) (fun(i:Nat)=> ⟨b9 47 .any [(2,.ptr 0 0),(3,.ptr 1 0),(6,iv i)],[some (.box (bn (bF s))),some (.box (bn (gr a)))]⟩) (fun(i:Nat)=> a.nums.length-i) (0) ?_ (ah [some 0,some 1] ?_ ?_ rfl rfl) ?_
    rotate_left
    ·exact sC
    ·exact sC
    rotate_left
    ·simp
    ·rintro i ⟨hi,hg⟩
     rcases Classical.em (i<a.nums.length) with g1|g1
     ·rw[List.drop_eq_getElem_cons g1,List.all_cons,Fk h1 (hT _ (List.getElem_mem g1))] at hg
      have cT:=lP s h1 a.nums[i]
      simp -implicitDefEqProofs only[go_sem,g1]
      refine aC [] cT ?_
      refine iK ?_
      rcases Classical.em ((bB s a.nums[i]).getD (-1)=1) with q|q
      ·have k:=eq_true q
       simp only[k,decide_true,Bool.true_and] at hg
       simp -implicitDefEqProofs only[go_sem,k]
       repeat(with_reducible apply And.intro;exact sO)
       refine⟨i+1,?_,?_,ah [some 0,some 1] ?_ ?_ rfl rfl⟩
       rotate_left
       ·show _ < _
        omega
       ·exact sC
       ·exact sC
       exact⟨by omega,hg⟩
      ·have k:=eq_false q
       simp only[k,decide_false,Bool.false_and] at hg
       simp -implicitDefEqProofs only[go_sem,k]
       refine ab ?_
       refine sA ?_
       all_goals(simp[bS,h1,h2,k1,hg];done)
     ·rw[List.drop_of_length_le (by omega),List.all_nil] at hg
      simp -implicitDefEqProofs only[go_sem,g1]
      refine ab ?_
      refine sA ?_
      all_goals(simp[bS,h1,h2,k1,hg];done)
theorem wD(l:aE)(h:aZ l.atom=true):C E.P 126 [av (kh l)] [] (aO (lv (aj (aH l.atom))) []):=by
 have hle:=(gi h).1
 refine gS (nt:=43) (rs:=[.tmp 2]) hm Tryz.func126 fun hl he hLB=>?_
 refine cL [] (oY l.atom) ?_ ?_<;>simp -implicitDefEqProofs only[go_sem,h]
 rcases Classical.em (l.atom.kind=1) with k1|k1
 ·have k:=eq_true k1
  simp -implicitDefEqProofs only[go_sem,k]
  refine aC [] (jc l.atom.A) ?_
  refine aC [] (jc l.atom.B) ?_
  refine iK ?_
  refine ab ?_
  refine sA ?_
  all_goals(simp[aH,k1,bT,fx,cT];done)
 ·have e:aH l.atom=l.atom.nums:=by simp[aH,k1]
  rw[e] at hle
  simp -implicitDefEqProofs only[go_sem,k1]
  refine au hm (fun(i:Nat)=> i≤l.atom.nums.length) (fun(i:Nat)=> ⟨b9 43 .any [(1,.ptr 0 0),(3,.acc 1),(4,iv i)],[some (.box (bn (kh l))),some (.acc 35 (aj (l.atom.nums.take i)))]⟩) (fun(i:Nat)=> l.atom.nums.length-i) (0) ?_ (ah [some 0,some 1] ?_ ?_ rfl rfl) ?_
  rotate_left
  ·exact sC
  ·exact sC
  rotate_left
  ·omega
  ·rintro i hi
   rcases Classical.em (i<l.atom.nums.length) with h1|h1
   ·simp -implicitDefEqProofs only[go_sem,h1]
    refine aC [] (jc l.atom.nums[i]) ?_
    repeat(with_reducible apply And.intro;exact sO)
    refine⟨i+1,?_,?_,ah [some 0,some 2] ?_ ?_ rfl rfl⟩
    rotate_left
    ·show _ < _
     omega
    ·exact sC
    ·refine sA ?_
     all_goals(exact n7 h1)
    exact h1
   ·simp -implicitDefEqProofs only[go_sem,h1]
    refine ab ?_
    refine sA ?_
    rw[List.take_of_length_le (by omega),e]
theorem lk(lits:List aE)(hl1:lits.length≤100)(hw:∀l∈lits,aZ l.atom=true):C E.P 55 [lv (ay lits)] [] (aO (lv (aj (ai lits))) []):=by
 obtain⟨hle,hok⟩:=c9 hw
 have e:ai lits=aq [] (br lits):=by rw[eY,fw hok]
 refine gS (nt:=32) (rs:=[.tmp 2]) hm Tryz.func55 fun hl he hLB=>?_
 refine au hm (fun(i:Nat)=> i≤lits.length) (fun(i:Nat)=> ⟨b9 32 .any [(0,lv (ay lits)),(3,.acc 0),(4,iv i)],[some (.acc 35 (aj (aq [] (br (lits.take i)))))]⟩) (fun(i:Nat)=> lits.length-i) (0) ?_ (ah [some 0] ?_ ?_ rfl rfl) ?_
 rotate_left
 ·exact sC
 ·refine sA ?_
  all_goals(simp[br,aq])
 rotate_left
 ·omega
 ·rintro i hi
  rcases Classical.em (i<lits.length) with h1|h1
  ·have hwi:=hw lits[i] (List.getElem_mem h1)
   have h3:=gi hwi
   have h2:=c9 (lits:=lits.take i) fun l hl=>hw l (List.mem_of_mem_take hl)
   have h4:(lits.take i).length≤100:=by simp;omega
   simp -implicitDefEqProofs only[go_sem,h1]
   refine aC [] (wD lits[i] hwi) ?_
   refine au hm (fun(j:Nat)=> j≤(aH lits[i].atom).length) (fun(j:Nat)=> ⟨b9 32 .any [(0,lv (ay lits)),(3,.acc 0),(4,iv i),(5,lv (aj (aH lits[i].atom))),(6,iv j)],[some (.acc 35 (aj (aq [] (br (lits.take i)++(aH lits[i].atom).take j))))]⟩) (fun(j:Nat)=> (aH lits[i].atom).length-j) (0) ?_ (ah [some 0] ?_ ?_ rfl rfl) ?_
   rotate_left
   ·exact sC
   ·exact sC
   rotate_left
   ·omega
   ·rintro j hj
    rcases Classical.em (j<(aH lits[i].atom).length) with g1|g1
    ·have ht:=h3.2 (aH lits[i].atom)[j] (List.getElem_mem g1)
     have hsub:∀t∈br (lits.take i)++(aH lits[i].atom).take j,isTerm t=true:=by
      intro t ht
      rcases List.mem_append.1 ht with ht|ht
      ·exact h2.2 t ht
      ·exact h3.2 t (List.mem_of_mem_take ht)
     have b1:=jT _ [] hsub
     have b2:(br (lits.take i)++(aH lits[i].atom).take j).length≤410:=by rw[List.length_append,List.length_take];omega
     simp only[List.length_nil] at b1
     simp -implicitDefEqProofs only[go_sem,g1]
     refine oC [] [0,1] (yx (aH lits[i].atom)[j] 4 _ (by omega) (du ht) (Nat.le_trans b1 (by omega))) ?_
     repeat(with_reducible apply And.intro;exact sO)
     refine⟨j+1,?_,?_,ah [some 1] ?_ ?_ rfl rfl⟩
     rotate_left
     ·show _ < _
      omega
     ·exact sC
     ·refine sA ?_
      all_goals((simp only[gO g1,←List.append_assoc,zw,aq]))
     exact g1
    ·have ej:(aH lits[i].atom).take j=aH lits[i].atom:=List.take_of_length_le (by omega)
     simp -implicitDefEqProofs only[go_sem,g1]
     repeat(with_reducible apply And.intro;exact sO)
     refine⟨i+1,?_,?_,ah [some 0] ?_ ?_ rfl rfl⟩
     rotate_left
     ·show _ < _
      omega
     ·exact sC
     ·refine sA ?_
      all_goals((rw[me h1,ej]))
     exact h1
  ·have et:lits.take i=lits:=List.take_of_length_le (by omega)
   simp -implicitDefEqProofs only[go_sem,h1,et]
   refine ab ?_
   refine sA ?_
   rw[e]
theorem mo(s:bA)(ts:List Term)(hs:bV s=true)(ht:∀t∈ts,isTerm t=true)(hl1:ts.length≤10000):C E.P 54 [av (bF s),lv (aj ts)] [] (aO (lv (aj (ts.filter (aY s)))) []):=by
 refine gS (nt:=29) (rs:=[.tmp 4]) hm Tryz.func54 fun hl he hLB=>?_
 refine au hm (fun(i:Nat)=> i≤ts.length) (fun(i:Nat)=> ⟨b9 29 .any [(1,lv (aj ts)),(2,.ptr 0 0),(5,.acc 1),(6,iv i)],[some (.box (bn (bF s))),some (.acc 35 (aj ((ts.take i).filter (aY s))))]⟩) (fun(i:Nat)=> ts.length-i) (0) ?_ (ah [some 0,some 1] ?_ ?_ rfl rfl) ?_
 rotate_left
 ·exact sC
 ·refine sA ?_
  all_goals(simp[*];done)
 rotate_left
 ·omega
 ·rintro i hi
  rcases Classical.em (i<ts.length) with h1|h1
  ·have hc:=lP s hs ts[i]
   have hn:=Fk hs (ht ts[i] (List.getElem_mem h1))
   have hb:((ts.take i).filter (aY s)).length≤10000:=Nat.le_trans (List.length_filter_le _ _) (by simp;omega)
   simp -implicitDefEqProofs only[go_sem,h1]
   refine aC [] hc ?_
   refine iK ?_
   rcases Classical.em ((bB s ts[i]).getD (-1)=1) with q|q
   ·have k:=eq_true q
    have hn:aY s ts[i]=true:=by rw[hn];exact decide_eq_true q
    simp -implicitDefEqProofs only[go_sem,k,h1]
    repeat(with_reducible apply And.intro;exact sO)
    refine⟨i+1,?_,?_,ah [some 0,some 2] ?_ ?_ rfl rfl⟩
    rotate_left
    ·show _ < _
     omega
    ·exact sC
    ·refine sA ?_
     all_goals((rw[gO h1,List.filter_append,←fq];simp[hn,bT,cT]))
    exact h1
   ·have k:=eq_false q
    have hn:aY s ts[i]=false:=by rw[hn];exact decide_eq_false q
    simp -implicitDefEqProofs only[go_sem,k]
    repeat(with_reducible apply And.intro;exact sO)
    refine⟨i+1,?_,?_,ah [some 0,some 1] ?_ ?_ rfl rfl⟩
    rotate_left
    ·show _ < _
     omega
    ·exact sC
    ·refine sA ?_
     all_goals((rw[gO h1,List.filter_append];simp[hn]))
    exact h1
  ·simp -implicitDefEqProofs only[go_sem,h1]
   refine ab ?_
   refine sA ?_
   rw[List.take_of_length_le (by omega)]
theorem yw(s:bA)(lits:List aE)(hl1:lits.length≤100):C E.P 40 [av (bF s),lv (ay lits)] [] (aO (bv (bV s&&(lits.all (fun l=>bS s l.atom)&&(decide ((ai lits).length≤24)&&decide ((numsOf s lits).length≤4))))) []):=by
 refine gS (nt:=37) (rs:=[.tmp 4]) hm Tryz.func40 fun hl he hLB=>?_
 refine au hm (fun(i:Nat)=> i≤lits.length∧lits.all (fun l=>bS s l.atom)=(lits.drop i).all (fun l=>bS s l.atom)) (fun(i:Nat)=> ⟨b9 37 .any [(1,lv (ay lits)),(2,.ptr 0 0),(5,iv i)],[some (.box (bn (bF s)))]⟩) (fun(i:Nat)=> lits.length-i) (0) ?_ (ah [some 0] ?_ ?_ rfl rfl) ?_
 rotate_left
 ·exact sC
 ·exact sC
 rotate_left
 ·simp
 ·rintro i ⟨hi,hg⟩
  rcases Classical.em (i<lits.length) with h1|h1
  ·rw[List.drop_eq_getElem_cons h1,List.all_cons] at hg
   simp -implicitDefEqProofs only[go_sem,h1]
   refine aC [] (AG s lits[i].atom) ?_
   refine iK ?_
   cases h2:bS s lits[i].atom
   ·rw[h2,Bool.false_and] at hg
    refine sA ?_
    refine ab ?_
    refine sA ?_
    all_goals(simp[hg];done)
   ·rw[h2,Bool.true_and] at hg
    refine sA ?_
    repeat(with_reducible apply And.intro;exact sO)
    refine⟨i+1,?_,?_,ah [some 0] ?_ ?_ rfl rfl⟩
    rotate_left
    ·show _ < _
     omega
    ·exact sC
    ·exact sC
    exact⟨by omega,hg⟩
  ·rw[List.drop_of_length_le (by omega),List.all_nil] at hg
   have hw:∀l∈lits,aZ l.atom=true:=by
    intro l hl
    have:=List.all_eq_true.1 hg l hl
    simp only[bS,Bool.and_eq_true] at this
    exact this.2.1
   have hok:=(c9 hw).2
   have htt:∀t∈ai lits,isTerm t=true:=by rw[eY];exact jP hok
   simp -implicitDefEqProofs only[go_sem,h1]
   refine aC [] (lk lits hl1 hw) ?_
   refine aC [] (tJ s) ?_
   cases h2:bV s
   ·refine sA ?_
    refine ab ?_
    exact sC
   ·refine sA ?_
    rcases Classical.em (((ai lits).length:Int)≤24) with h3|h3
    ·have h3':(ai lits).length≤24:=by omega
     have e:numsOf s lits=(ai lits).filter (aY s):=rfl
     simp -implicitDefEqProofs only[go_sem,h3]
     refine aC [] (mo s (ai lits) h2 htt (by omega)) ?_
     refine ab ?_
     refine sA ?_
     simp only[hg,h3',e,decide_true,Bool.true_and]
     congr 2
     exact decide_eq_decide.2 (by omega)
    ·have h3':¬ (ai lits).length≤24:=by omega
     simp -implicitDefEqProofs only[go_sem,h3]
     refine ab ?_
     refine sA ?_
     all_goals(simp[h3'];done)
theorem mw(s:bA)(lits:List aE):C E.P 9 [av (bF s),lv (ay lits)] [] (aO (bv (bG s lits)) []):=by
 refine gS (nt:=13) (rs:=[.tmp 4]) hm Tryz.func9 fun hl he hLB=>?_
 rcases Classical.em ((lits.length:Int)≤6) with h|h
 ·have h':lits.length≤6:=by omega
  simp -implicitDefEqProofs only[go_sem,h]
  refine aC [] (yw s lits (by omega)) ?_
  refine ab ?_
  refine sA ?_
  simp only[bG,h',decide_true,Bool.and_true,Bool.and_assoc]
 ·have h':¬lits.length≤6:=by omega
  simp -implicitDefEqProofs only[go_sem,h]
  refine ab ?_
  refine sA ?_
  all_goals(simp[bG,h'];done)
end Go.Proofs.YtpidddienjoleaaGreat
