/-
  The reference: the walks of atoms and literals. A step towards the exact laws.
-/
import Derived.Test.YtabembjmeobhoaaGreatKDI
set_option linter.unusedVariables false
set_option linter.unusedSimpArgs false
open Bool renaming true_and→aB,false_and→aK
open Classical renaming em→aa
open List renaming drop_eq_getElem_cons→ae,drop_of_length_le→ai,getElem_mem→ak,take_of_length_le→ao,all_cons→b9,all_nil→dM,mem_of_mem_take→eZ,filter_append→lK
open Nat renaming le_trans→eH
open Option renaming getD_some→aX,getD_none→cg
namespace Go.Proofs.YtabembjmeobhoaaGreat
open Go.Eng Go.Mod
open Int renaming reduceEq→Z1,reduceLT→Z2,reduceLE→Z3,reduceToNat→Z4
set_option maxRecDepth 100000
set_option maxHeartbeats 800000
theorem CR{n lo hi:Int}(h:within n lo hi=false):n<lo∨hi<n:=by
 simp only[within,Bool.and_eq_false_iff,decide_eq_false_iff_not] at h
 omega
theorem Mu{a:Atom}(k2:a.kind=2):cQ a=(isNone a.A&&(isNone a.B&&(within a.nums.length 1 4&&(decide (a.times.length=a.nums.length)&&(within a.bound (-1000) 1000&&kZ none a.nums a.times))))):=by simp[cQ,k2]
theorem CV(a:Atom)(e:cQ a=kZ none a.nums a.times)(h1:isNone a.A=true)(h2:isNone a.B=true)(h4:a.nums.length=a.times.length)(h5:¬ (a.nums.length:Int)<1)(h6:¬ (4:Int)<(a.nums.length:Int))(h8:¬a.bound < -1000)(h9:¬1000<a.bound):C E.P 241 [av (fT a)] [] (bz (bv (cQ a)) []):=by
 have k4:=eq_true h4
 refine gS (nt:=97) (rs:=[.tmp 2]) hm Tryz.func241 fun hl he cq=>?_
 refine bw [] (pX a.A) ?_ ?_<;>simp -implicitDefEqProofs only[go_sem,h1]
 refine bw [] (pX a.B) ?_ ?_<;>simp -implicitDefEqProofs only[go_sem,h2,k4,h5,h6,h8,h9]
 refine aL hm (fun(i:Nat)=> i≤a.nums.length∧cQ a=kZ (nD a.nums i) (a.nums.drop i) (a.times.drop i)∧∀q,nD a.nums i=some q→isTerm q=true) (fun(i:Nat)=> ⟨dx 97 .any [(1,.ptr 0 0),(3,iv i)],[some (.box (cE (fT a)))]⟩) (fun(i:Nat)=> a.nums.length-i) (0) ?_ (ar [some 0] ?_ ?_ rfl rfl) ?_
 rotate_left
 ·exact sC
 ·simp -implicitDefEqProofs only[go_sem]
 rotate_left
 ·exact⟨by omega,e,fun q h=>by cases h⟩
 ·rintro i ⟨hi,hg,hp⟩
  rcases aa (i<a.nums.length) with g1|g1
  ·have g2:i<a.times.length:=by omega
   rw[Dr g1 g2] at hg
   simp -implicitDefEqProofs only[go_sem,g1,g2]
   refine aC [] (rZ a.nums[i]) ?_
   cases q1:isTerm a.nums[i]
   ·rw[q1,aK] at hg
    simp -implicitDefEqProofs only[go_sem]
    refine iK ?_
    refine an ?_
    refine sA ?_
    all_goals(simp[hg];done)
   ·rw[q1,aB] at hg
    refine sA ?_
    rcases aa (a.times[i]=0) with q3|q3
    ·have k3:=eq_true q3
     have hg:cQ a=false:=by rw[hg];simp[q3]
     simp -implicitDefEqProofs only[go_sem,k3]
     refine iK ?_
     refine an ?_
     refine sA ?_
     all_goals(simp[hg];done)
    ·simp -implicitDefEqProofs only[go_sem,q3]
     cases q2:within a.times[i] (-50) 50
     ·have hg:cQ a=false:=by rw[hg,q2];rfl
      rcases aa (a.times[i] < -50) with q5|q5
      ·simp -implicitDefEqProofs only[go_sem,q5]
       refine iK ?_
       refine an ?_
       refine sA ?_
       all_goals(simp[hg];done)
      ·have q6:50<a.times[i]:=by have:=CR q2;omega
       simp -implicitDefEqProofs only[go_sem,q5,q6]
       refine iK ?_
       refine an ?_
       refine sA ?_
       all_goals(simp[hg];done)
     ·have q2':=dj.1 q2
      have q5:¬a.times[i] < -50:=by omega
      have q6:¬50<a.times[i]:=by omega
      rw[q2,aB] at hg
      simp only[q3,not_false_eq_true,ne_eq,decide_true,aB] at hg
      cases i with
      | zero=>
        simp only[nD,aB] at hg
        simp -implicitDefEqProofs only[go_sem,q5,q6,Int.lt_irrefl]
        refine iK ?_
        refine sQ ?_
        refine⟨0+1,?_,sL,ar [some 0] ?_ ?_ rfl rfl⟩
        rotate_left
        ·refine sA ?_
         all_goals(simp[*];done)
        ·exact sC
        refine⟨by omega,?_,?_⟩
        ·rw[hg,jZ g1]
        ·intro q hq
         rw[jZ g1] at hq
         cases hq
         exact q1
      | succ j=>
        have hj:j<a.nums.length:=by omega
        have e1:((j:Int)+1-1)=(j:Int):=by omega
        have e2:(0:Int)<(j:Int)+1:=by omega
        have et:((j:Int)+1).toNat=j+1:=by omega
        have tp:=hp _ (jZ hj)
        rw[jZ hj] at hg
        simp only at hg
        simp -implicitDefEqProofs only[go_sem,q5,q6,e1,e2,hj]
        refine sQ ?_
        refine bw [] (iM a.nums[j] tp) ?_ ?_<;>simp -implicitDefEqProofs only[go_sem,et,g1]
        refine sQ ?_
        refine aC [] (iM a.nums[j+1] q1) ?_
        refine iK ?_
        cases q4:gy (aO a.nums[j]) (aO a.nums[j+1])
        ·rw[q4,aK] at hg
         have h5:Op.bytesLess (aO a.nums[j]) (aO a.nums[j+1])=false:=q4
         refine uE ?_
         refine an ?_
         refine sA ?_
         all_goals(simp[hg];done)
        ·rw[q4,aB] at hg
         have h5:Op.bytesLess (aO a.nums[j]) (aO a.nums[j+1])=true:=q4
         refine uE ?_
         refine sQ ?_
         refine⟨j+1+1,?_,sL,ar [some 0] ?_ ?_ rfl rfl⟩
         rotate_left
         ·exact sC
         ·exact sC
         refine⟨by omega,?_,?_⟩
         ·rw[hg,jZ g1]
         ·intro q hq
          rw[jZ g1] at hq
          cases hq
          exact q1
  ·rw[ai (by omega),ai (by omega)] at hg
   have hg:cQ a=true:=by rw[hg];cases nD a.nums i<;>rfl
   refine uI ?_
   refine an ?_
   refine sA ?_
   all_goals(simp[hg];done)
theorem Ev(a:Atom)(k2:a.kind=2)(hno:¬ (isNone a.A=true∧isNone a.B=true∧a.nums.length=a.times.length∧within a.nums.length 1 4=true∧within a.bound (-1000) 1000=true)):C E.P 241 [av (fT a)] [] (bz (bv (cQ a)) []):=by
 have e:=Mu k2
 refine gS (nt:=97) (rs:=[.tmp 2]) hm Tryz.func241 fun hl he cq=>?_
 refine aC [] (pX a.A) ?_
 cases h1:isNone a.A
 ·simp -implicitDefEqProofs only[go_sem]
  refine an ?_
  refine sA ?_
  all_goals(simp[e,h1];done)
 ·simp -implicitDefEqProofs only[go_sem]
  refine aC [] (pX a.B) ?_
  cases h2:isNone a.B
  ·simp -implicitDefEqProofs only[go_sem]
   refine an ?_
   refine sA ?_
   all_goals(simp[e,h1,h2];done)
  ·refine sA ?_
   rcases aa (a.nums.length=a.times.length) with h4|h4
   ·have h4':a.times.length=a.nums.length:=h4.symm
    have k4:=eq_true h4
    simp -implicitDefEqProofs only[go_sem,k4]
    cases h3:within a.nums.length 1 4
    ·have e0:cQ a=false:=by simp[e,h3]
     rcases aa ((a.nums.length:Int)<1) with h5|h5
     ·refine uE ?_
      refine an ?_
      refine sA ?_
      all_goals(simp[e0];done)
     ·have h6:(4:Int)<(a.nums.length:Int):=by have:=CR h3;omega
      simp -implicitDefEqProofs only[go_sem,h5,h6]
      refine an ?_
      refine sA ?_
      all_goals(simp[e0];done)
    ·have h3':=dj.1 h3
     have h5:¬ (a.nums.length:Int)<1:=by omega
     have h6:¬ (4:Int)<(a.nums.length:Int):=by omega
     simp -implicitDefEqProofs only[go_sem,h5,h6]
     cases h7:within a.bound (-1000) 1000
     ·have e0:cQ a=false:=by simp[e,h7]
      rcases aa (a.bound < -1000) with h8|h8
      ·simp -implicitDefEqProofs only[go_sem,h8]
       refine an ?_
       refine sA ?_
       all_goals(simp[e0];done)
      ·have h9:1000<a.bound:=by have:=CR h7;omega
       simp -implicitDefEqProofs only[go_sem,h8,h9]
       refine an ?_
       refine sA ?_
       all_goals(simp[e0];done)
     ·exact absurd ⟨h1,h2,h4,h3,h7⟩ hno
   ·have h4':¬a.times.length=a.nums.length:=fun h=>h4 h.symm
    refine uD ?_
    refine an ?_
    refine sA ?_
    all_goals(simp[e,h4'];done)
theorem K5(a:Atom)(k2:a.kind=2):C E.P 241 [av (fT a)] [] (bz (bv (cQ a)) []):=by
 rcases aa (isNone a.A=true∧isNone a.B=true∧a.nums.length=a.times.length∧within a.nums.length 1 4=true∧within a.bound (-1000) 1000=true) with h|h
 ·obtain⟨h1,h2,h4,h3,h7⟩:=h
  have h3':=dj.1 h3
  have h7':=dj.1 h7
  have h4':=h4.symm
  exact CV a (by simp[Mu k2,h1,h2,h3,h4',h7]) h1 h2 h4 (by omega) (by omega) (by omega) (by omega)
 ·exact Ev a k2 h
theorem wU(a:Atom):C E.P 191 [av (fT a)] [] (bz (bv (cQ a)) []):=by
 refine gS (nt:=43) (rs:=[.tmp 2]) hm Tryz.func191 fun hl he cq=>?_
 rcases aa (a.kind=2) with k2|k2
 ·have k:=eq_true k2
  refine uG ?_
  refine bw [] (K5 a k2) ?_ ?_<;>simp -implicitDefEqProofs only[go_sem]
  refine an ?_
  simp -implicitDefEqProofs only[go_sem]
 ·simp -implicitDefEqProofs only[go_sem,k2]
  rcases aa (a.kind=1) with k1|k1
  ·have e:cQ a=(isTerm a.A&&(isTerm a.B&&(decide (a.nums.length=0)&&(decide (a.times.length=0)&&(decide (a.bound=0)&& !a.strict))))):=by simp[cQ,k1]
   have k:=eq_true k1
   refine uG ?_
   refine aC [] (rZ a.A) ?_
   cases h1:isTerm a.A
   ·simp -implicitDefEqProofs only[go_sem]
    refine an ?_
    refine sA ?_
    all_goals(simp[e,h1];done)
   ·simp -implicitDefEqProofs only[go_sem]
    refine aC [] (rZ a.B) ?_
    cases h2:isTerm a.B
    ·simp -implicitDefEqProofs only[go_sem]
     refine an ?_
     refine sA ?_
     all_goals(simp[e,h1,h2];done)
    ·refine sA ?_
     rcases aa ((a.nums.length:Int)=0) with h3|h3
     ·have h3':a.nums.length=0:=by omega
      have k3:=eq_true h3
      simp -implicitDefEqProofs only[go_sem,k3]
      rcases aa ((a.times.length:Int)=0) with h4|h4
      ·have h4':a.times.length=0:=by omega
       have k4:=eq_true h4
       simp -implicitDefEqProofs only[go_sem,k4]
       rcases aa (a.bound=0) with h5|h5
       ·have k5:=eq_true h5
        simp -implicitDefEqProofs only[go_sem,k5]
        refine an ?_
        refine sA ?_
        all_goals(simp[e,h1,h2,h3',h4',h5];done)
       ·refine uE ?_
        refine an ?_
        refine sA ?_
        all_goals(simp[e,h1,h2,h3',h4',h5];done)
      ·have h4':¬a.times.length=0:=by omega
       refine uD ?_
       refine an ?_
       refine sA ?_
       all_goals(simp[e,h1,h2,h3',h4'];done)
     ·have h3':¬a.nums.length=0:=by omega
      refine uC ?_
      refine an ?_
      refine sA ?_
      all_goals(simp[e,h1,h2,h3'];done)
  ·simp -implicitDefEqProofs only[go_sem,k1]
   refine an ?_
   refine sA ?_
   all_goals(simp[cQ,k1,k2];done)
theorem Oe{s:dK}{t:Term}(hs:fI s=true)(ht:isTerm t=true):dw s t=decide ((fR s t).getD (-1)=1):=by
 simp only[dw,fv,hs,ht,Bool.and_self,if_true]
 cases fR s t<;>simp
theorem zg(s:dK)(a:Atom):C E.P 122 [av (dV s),av (fT a)] [] (bz (bv (fq s a)) []):=by
 refine gS (nt:=47) (rs:=[.tmp 4]) hm Tryz.func122 fun hl he cq=>?_
 refine aC [] (ve s) ?_
 cases h1:fI s
 ·refine sA ?_
  refine an ?_
  refine sA ?_
  all_goals(simp[fq,h1];done)
 ·refine sA ?_
  refine aC [] (wU a) ?_
  cases h2:cQ a
  ·refine sA ?_
   refine an ?_
   refine sA ?_
   all_goals(simp[fq,h1,h2];done)
  ·refine sA ?_
   rcases aa (a.kind=1) with k1|k1
   ·have hAB:=JW h2 k1
    have k:=eq_true k1
    have tA:fv s a.A=fR s a.A:=by simp[fv,h1,hAB.1]
    have tB:fv s a.B=fR s a.B:=by simp[fv,h1,hAB.2]
    have cA:=tc s h1 a.A
    have cB:=tc s h1 a.B
    refine uG ?_
    refine aC [] cA ?_
    cases qA:fR s a.A with
    | none=>
      simp -implicitDefEqProofs only[go_sem,Z3,cg]
      refine an ?_
      refine sA ?_
      all_goals(simp[fq,h1,h2,k1,gr,tA,qA];done)
    | some n=>
      have hn:=GK.1 (MG h1 qA)
      have hn2:0≤n:=by omega
      simp -implicitDefEqProofs only[go_sem,aX,hn2]
      refine aC [] cB ?_
      cases qB:fR s a.B with
      | none=>
        have hn3:¬n = -1:=by omega
        simp -implicitDefEqProofs only[go_sem,cg]
        refine an ?_
        refine sA ?_
        all_goals(simp[fq,h1,h2,k1,gr,tA,tB,qA,qB,hn3];done)
      | some m=>
        simp -implicitDefEqProofs only[go_sem,aX]
        refine an ?_
        refine sA ?_
        all_goals(simp[fq,h1,h2,k1,gr,tA,tB,qA,qB];done)
   ·have k2:a.kind=2:=(mH h2).resolve_left k1
    have hw:=mM h2 k2
    have hT:=(vI hw.2.2.2.2.2 hw.2.2.2.1).1
    simp -implicitDefEqProofs only[go_sem,k1]
    refine aL hm (fun(i:Nat)=> i≤a.nums.length∧a.nums.all (dw s)=(a.nums.drop i).all (dw s)) (fun(i:Nat)=> ⟨dx 47 .any [(2,.ptr 0 0),(3,.ptr 1 0),(6,iv i)],[some (.box (cE (dV s))),some (.box (cE (fT a)))]⟩) (fun(i:Nat)=> a.nums.length-i) (0) ?_ (ar [some 0,some 1] ?_ ?_ rfl rfl) ?_
    rotate_left
    ·exact sC
    ·exact sC
    rotate_left
    ·simp
    ·rintro i ⟨hi,hg⟩
     rcases aa (i<a.nums.length) with g1|g1
     ·rw[ae g1,b9,Oe h1 (hT _ (ak g1))] at hg
      have cT:=tc s h1 a.nums[i]
      refine uI ?_
      refine aC [] cT ?_
      refine iK ?_
      rcases aa ((fR s a.nums[i]).getD (-1)=1) with q|q
      ·have k:=eq_true q
       simp only[k,decide_true,aB] at hg
       refine uG ?_
       refine sQ ?_
       refine⟨i+1,?_,sL,ar [some 0,some 1] ?_ ?_ rfl rfl⟩
       rotate_left
       ·exact sC
       ·exact sC
       exact⟨by omega,hg⟩
      ·have k:=eq_false q
       simp only[k,decide_false,aK] at hg
       refine uG ?_
       refine an ?_
       refine sA ?_
       all_goals(simp[fq,h1,h2,k1,hg];done)
     ·rw[ai (by omega),dM] at hg
      refine uI ?_
      refine an ?_
      refine sA ?_
      all_goals(simp[fq,h1,h2,k1,hg];done)
theorem Ei(l:bm)(h:cQ l.atom=true):C E.P 193 [av (nW l)] [] (bz (lv (aN (cf l.atom))) []):=by
 have hle:=(mX h).1
 refine gS (nt:=43) (rs:=[.tmp 2]) hm Tryz.func193 fun hl he cq=>?_
 refine bw [] (wU l.atom) ?_ ?_<;>simp -implicitDefEqProofs only[go_sem,h]
 rcases aa (l.atom.kind=1) with k1|k1
 ·have k:=eq_true k1
  refine uG ?_
  refine aC [] (gJ l.atom.A) ?_
  refine aC [] (gJ l.atom.B) ?_
  refine iK ?_
  refine an ?_
  refine sA ?_
  all_goals(simp[cf,k1,dC,fX,cT];done)
 ·have e:cf l.atom=l.atom.nums:=by simp[cf,k1]
  rw[e] at hle
  simp -implicitDefEqProofs only[go_sem,k1]
  refine aL hm (fun(i:Nat)=> i≤l.atom.nums.length) (fun(i:Nat)=> ⟨dx 43 .any [(1,.ptr 0 0),(3,.acc 1),(4,iv i)],[some (.box (cE (nW l))),some (.acc 34 (aN (l.atom.nums.take i)))]⟩) (fun(i:Nat)=> l.atom.nums.length-i) (0) ?_ (ar [some 0,some 1] ?_ ?_ rfl rfl) ?_
  rotate_left
  ·exact sC
  ·exact sC
  rotate_left
  ·omega
  ·rintro i hi
   rcases aa (i<l.atom.nums.length) with h1|h1
   ·refine uA ?_
    refine aC [] (gJ l.atom.nums[i]) ?_
    refine sQ ?_
    refine⟨i+1,?_,sL,ar [some 0,some 2] ?_ ?_ rfl rfl⟩
    rotate_left
    ·exact sC
    ·refine sA ?_
     all_goals(exact pU h1)
    exact h1
   ·refine uA ?_
    refine an ?_
    refine sA ?_
    rw[ao (by omega),e]
theorem w8(ab:List bm)(hl1:ab.length≤100)(hw:∀l∈ab,cQ l.atom=true):C E.P 123 [lv (aV ab)] [] (bz (lv (aN (aw ab))) []):=by
 obtain⟨hle,eW⟩:=iQ hw
 have e:aw ab=a7 [] (eF ab):=by rw[lD,kC eW]
 refine gS (nt:=32) (rs:=[.tmp 2]) hm Tryz.func123 fun hl he cq=>?_
 refine aL hm (fun(i:Nat)=> i≤ab.length) (fun(i:Nat)=> ⟨dx 32 .any [(0,lv (aV ab)),(3,.acc 0),(4,iv i)],[some (.acc 34 (aN (a7 [] (eF (ab.take i)))))]⟩) (fun(i:Nat)=> ab.length-i) (0) ?_ (ar [some 0] ?_ ?_ rfl rfl) ?_
 rotate_left
 ·exact sC
 ·refine sA ?_
  all_goals(simp[eF,a7])
 rotate_left
 ·omega
 ·rintro i hi
  rcases aa (i<ab.length) with h1|h1
  ·have hwi:=hw ab[i] (ak h1)
   have h3:=mX hwi
   have h2:=iQ (ab:=ab.take i) fun l hl=>hw l (eZ hl)
   have h4:(ab.take i).length≤100:=by simp;omega
   refine uA ?_
   refine aC [] (Ei ab[i] hwi) ?_
   refine aL hm (fun(j:Nat)=> j≤(cf ab[i].atom).length) (fun(j:Nat)=> ⟨dx 32 .any [(0,lv (aV ab)),(3,.acc 0),(4,iv i),(5,lv (aN (cf ab[i].atom))),(6,iv j)],[some (.acc 34 (aN (a7 [] (eF (ab.take i)++(cf ab[i].atom).take j))))]⟩) (fun(j:Nat)=> (cf ab[i].atom).length-j) (0) ?_ (ar [some 0] ?_ ?_ rfl rfl) ?_
   rotate_left
   ·exact sC
   ·exact sC
   rotate_left
   ·omega
   ·rintro j hj
    rcases aa (j<(cf ab[i].atom).length) with g1|g1
    ·have ht:=h3.2 (cf ab[i].atom)[j] (ak g1)
     have nq:∀t∈eF (ab.take i)++(cf ab[i].atom).take j,isTerm t=true:=by
      intro t ht
      rcases List.mem_append.1 ht with ht|ht
      ·exact h2.2 t ht
      ·exact h3.2 t (eZ ht)
     have b1:=qN _ [] nq
     have b2:(eF (ab.take i)++(cf ab[i].atom).take j).length≤410:=by rw[List.length_append,List.length_take];omega
     simp only[List.length_nil] at b1
     refine uI ?_
     refine oC [] [0,1] (Gz (cf ab[i].atom)[j] 4 _ (by omega) (gK ht) (eH b1 (by omega))) ?_
     refine sQ ?_
     refine⟨j+1,?_,sL,ar [some 1] ?_ ?_ rfl rfl⟩
     rotate_left
     ·exact sC
     ·refine sA ?_
      all_goals((simp only[pJ g1,←List.append_assoc,GX,a7]))
     exact g1
    ·have ej:(cf ab[i].atom).take j=cf ab[i].atom:=ao (by omega)
     refine uI ?_
     refine sQ ?_
     refine⟨i+1,?_,sL,ar [some 0] ?_ ?_ rfl rfl⟩
     rotate_left
     ·exact sC
     ·refine sA ?_
      all_goals((rw[tL h1,ej]))
     exact h1
  ·have et:ab.take i=ab:=ao (by omega)
   simp -implicitDefEqProofs only[go_sem,h1,et]
   refine an ?_
   refine sA ?_
   rw[e]
theorem y5(s:dK)(ts:List Term)(hs:fI s=true)(ht:∀t∈ts,isTerm t=true)(hl1:ts.length≤10000):C E.P 125 [av (dV s),lv (aN ts)] [] (bz (lv (aN (ts.filter (dw s)))) []):=by
 refine gS (nt:=29) (rs:=[.tmp 4]) hm Tryz.func125 fun hl he cq=>?_
 refine aL hm (fun(i:Nat)=> i≤ts.length) (fun(i:Nat)=> ⟨dx 29 .any [(1,lv (aN ts)),(2,.ptr 0 0),(5,.acc 1),(6,iv i)],[some (.box (cE (dV s))),some (.acc 34 (aN ((ts.take i).filter (dw s))))]⟩) (fun(i:Nat)=> ts.length-i) (0) ?_ (ar [some 0,some 1] ?_ ?_ rfl rfl) ?_
 rotate_left
 ·exact sC
 ·refine sA ?_
  all_goals(simp[*];done)
 rotate_left
 ·omega
 ·rintro i hi
  rcases aa (i<ts.length) with h1|h1
  ·have hc:=tc s hs ts[i]
   have hn:=Oe hs (ht ts[i] (ak h1))
   have hb:((ts.take i).filter (dw s)).length≤10000:=eH (List.length_filter_le _ _) (by simp;omega)
   refine uA ?_
   refine aC [] hc ?_
   refine iK ?_
   rcases aa ((fR s ts[i]).getD (-1)=1) with q|q
   ·have k:=eq_true q
    have hn:dw s ts[i]=true:=by rw[hn];exact decide_eq_true q
    simp -implicitDefEqProofs only[go_sem,k,h1]
    refine sQ ?_
    refine⟨i+1,?_,sL,ar [some 0,some 2] ?_ ?_ rfl rfl⟩
    rotate_left
    ·exact sC
    ·refine sA ?_
     all_goals((rw[pJ h1,lK,←kW];simp[hn,dC,cT]))
    exact h1
   ·have k:=eq_false q
    have hn:dw s ts[i]=false:=by rw[hn];exact decide_eq_false q
    refine uG ?_
    refine sQ ?_
    refine⟨i+1,?_,sL,ar [some 0,some 1] ?_ ?_ rfl rfl⟩
    rotate_left
    ·exact sC
    ·refine sA ?_
     all_goals((rw[pJ h1,lK];simp[hn]))
    exact h1
  ·refine uA ?_
   refine an ?_
   refine sA ?_
   rw[ao (by omega)]
theorem Ge(s:dK)(ab:List bm)(hl1:ab.length≤100):C E.P 59 [av (dV s),lv (aV ab)] [] (bz (bv (fI s&&(ab.all (fun l=>fq s l.atom)&&(decide ((aw ab).length≤24)&&decide ((numsOf s ab).length≤4))))) []):=by
 refine gS (nt:=37) (rs:=[.tmp 4]) hm Tryz.func59 fun hl he cq=>?_
 refine aL hm (fun(i:Nat)=> i≤ab.length∧ab.all (fun l=>fq s l.atom)=(ab.drop i).all (fun l=>fq s l.atom)) (fun(i:Nat)=> ⟨dx 37 .any [(1,lv (aV ab)),(2,.ptr 0 0),(5,iv i)],[some (.box (cE (dV s)))]⟩) (fun(i:Nat)=> ab.length-i) (0) ?_ (ar [some 0] ?_ ?_ rfl rfl) ?_
 rotate_left
 ·exact sC
 ·exact sC
 rotate_left
 ·simp
 ·rintro i ⟨hi,hg⟩
  rcases aa (i<ab.length) with h1|h1
  ·rw[ae h1,b9] at hg
   refine uA ?_
   refine aC [] (zg s ab[i].atom) ?_
   refine iK ?_
   cases h2:fq s ab[i].atom
   ·rw[h2,aK] at hg
    refine sA ?_
    refine an ?_
    refine sA ?_
    all_goals(simp[hg];done)
   ·rw[h2,aB] at hg
    refine sA ?_
    refine sQ ?_
    refine⟨i+1,?_,sL,ar [some 0] ?_ ?_ rfl rfl⟩
    rotate_left
    ·exact sC
    ·exact sC
    exact⟨by omega,hg⟩
  ·rw[ai (by omega),dM] at hg
   have hw:∀l∈ab,cQ l.atom=true:=by
    intro l hl
    have:=List.all_eq_true.1 hg l hl
    simp only[fq,Bool.and_eq_true] at this
    exact this.2.1
   have eW:=(iQ hw).2
   have htt:∀t∈aw ab,isTerm t=true:=by rw[lD];exact qM eW
   refine uA ?_
   refine aC [] (w8 ab hl1 hw) ?_
   refine aC [] (ve s) ?_
   cases h2:fI s
   ·refine sA ?_
    refine an ?_
    exact sC
   ·refine sA ?_
    rcases aa (((aw ab).length:Int)≤24) with h3|h3
    ·have h3':(aw ab).length≤24:=by omega
     have e:numsOf s ab=(aw ab).filter (dw s):=rfl
     refine uC ?_
     refine aC [] (y5 s (aw ab) h2 htt (by omega)) ?_
     refine an ?_
     refine sA ?_
     simp only[hg,h3',e,decide_true,aB]
     congr 2
     exact decide_eq_decide.2 (by omega)
    ·have h3':¬ (aw ab).length≤24:=by omega
     refine uC ?_
     refine an ?_
     refine sA ?_
     all_goals(simp[h3'];done)
theorem yZ(s:dK)(ab:List bm):C E.P 19 [av (dV s),lv (aV ab)] [] (bz (bv (fe s ab)) []):=by
 refine gS (nt:=13) (rs:=[.tmp 4]) hm Tryz.func19 fun hl he cq=>?_
 rcases aa ((ab.length:Int)≤6) with h|h
 ·have h':ab.length≤6:=by omega
  refine uF ?_
  refine aC [] (Ge s ab (by omega)) ?_
  refine an ?_
  refine sA ?_
  simp only[fe,h',decide_true,Bool.and_true,Bool.and_assoc]
 ·have h':¬ab.length≤6:=by omega
  refine uF ?_
  refine an ?_
  refine sA ?_
  all_goals(simp[fe,h'];done)
end Go.Proofs.YtabembjmeobhoaaGreat
