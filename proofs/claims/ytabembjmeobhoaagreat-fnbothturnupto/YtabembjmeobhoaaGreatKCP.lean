/-
  The reference: the walks of atoms and literals. A step towards the exact laws.
-/
import Derived.Test.YtabembjmeobhoaaGreatKCI
set_option linter.unusedVariables false
set_option linter.unusedSimpArgs false
open Bool renaming true_and→aE,false_and→aK
open Classical renaming em→aa
open List renaming drop_eq_getElem_cons→ah,getElem_mem→ak,drop_of_length_le→al,take_of_length_le→ao,all_cons→b8,all_nil→dS,mem_of_mem_take→fb,filter_append→lP
open Nat renaming le_trans→eO
open Option renaming getD_some→aX,getD_none→cf
namespace Go.Proofs.YtabembjmeobhoaaGreat
open Go.Eng Go.Mod
open Int renaming reduceEq→Z1,reduceLT→Z2,reduceLE→Z3,reduceToNat→Z4
set_option maxRecDepth 100000
set_option maxHeartbeats 800000
theorem C3{n lo hi:Int}(h:within n lo hi=false):n<lo∨hi<n:=by
 simp only[within,Bool.and_eq_false_iff,decide_eq_false_iff_not] at h
 omega
theorem Oz{a:Atom}(k2:a.kind=2):cP a=(isNone a.A&&(isNone a.B&&(within a.nums.length 1 4&&(decide (a.times.length=a.nums.length)&&(within a.bound (-1000) 1000&&k9 none a.nums a.times))))):=by simp[cP,k2]
theorem Cz(a:Atom)(e:cP a=k9 none a.nums a.times)(h1:isNone a.A=true)(h2:isNone a.B=true)(h4:a.nums.length=a.times.length)(h5:¬ (a.nums.length:Int)<1)(h6:¬ (4:Int)<(a.nums.length:Int))(h8:¬a.bound < -1000)(h9:¬1000<a.bound):C E.P 241 [av (fW a)] [] (bD (bv (cP a)) []):=by
 have k4:=eq_true h4
 refine gS (nt:=97) (rs:=[.tmp 2]) hm Tryz.func241 fun hl he cq=>?_
 refine bp [] (ql a.A) ?_ ?_<;>simp -implicitDefEqProofs only[go_sem,h1]
 refine bp [] (ql a.B) ?_ ?_<;>simp -implicitDefEqProofs only[go_sem,h2,k4,h5,h6,h8,h9]
 refine aM hm (fun(i:Nat)=> i≤a.nums.length∧cP a=k9 (nH a.nums i) (a.nums.drop i) (a.times.drop i)∧∀q,nH a.nums i=some q→isTerm q=true) (fun(i:Nat)=> ⟨dH 97 .any [(1,.ptr 0 0),(3,iv i)],[some (.box (cF (fW a)))]⟩) (fun(i:Nat)=> a.nums.length-i) (0) ?_ (ar [some 0] ?_ ?_ rfl rfl) ?_
 rotate_left
 ·exact sC
 ·simp -implicitDefEqProofs only[go_sem]
 rotate_left
 ·exact⟨by omega,e,fun q h=>by cases h⟩
 ·rintro i ⟨hi,hg,hp⟩
  rcases aa (i<a.nums.length) with g1|g1
  ·have g2:i<a.times.length:=by omega
   rw[Ej g1 g2] at hg
   simp -implicitDefEqProofs only[go_sem,g1,g2]
   refine aC [] (rJ a.nums[i]) ?_
   cases q1:isTerm a.nums[i]
   ·rw[q1,aK] at hg
    simp -implicitDefEqProofs only[go_sem]
    refine iK ?_
    refine an ?_
    refine sA ?_
    all_goals(simp[hg];done)
   ·rw[q1,aE] at hg
    refine sA ?_
    rcases aa (a.times[i]=0) with q3|q3
    ·have k3:=eq_true q3
     have hg:cP a=false:=by rw[hg];simp[q3]
     simp -implicitDefEqProofs only[go_sem,k3]
     refine iK ?_
     refine an ?_
     refine sA ?_
     all_goals(simp[hg];done)
    ·simp -implicitDefEqProofs only[go_sem,q3]
     cases q2:within a.times[i] (-50) 50
     ·have hg:cP a=false:=by rw[hg,q2];rfl
      rcases aa (a.times[i] < -50) with q5|q5
      ·simp -implicitDefEqProofs only[go_sem,q5]
       refine iK ?_
       refine an ?_
       refine sA ?_
       all_goals(simp[hg];done)
      ·have q6:50<a.times[i]:=by have:=C3 q2;omega
       simp -implicitDefEqProofs only[go_sem,q5,q6]
       refine iK ?_
       refine an ?_
       refine sA ?_
       all_goals(simp[hg];done)
     ·have q2':=dk.1 q2
      have q5:¬a.times[i] < -50:=by omega
      have q6:¬50<a.times[i]:=by omega
      rw[q2,aE] at hg
      simp only[q3,not_false_eq_true,ne_eq,decide_true,aE] at hg
      cases i with
      | zero=>
        simp only[nH,aE] at hg
        simp -implicitDefEqProofs only[go_sem,q5,q6,Int.lt_irrefl]
        refine iK ?_
        refine sQ ?_
        refine⟨0+1,?_,sL,ar [some 0] ?_ ?_ rfl rfl⟩
        rotate_left
        ·refine sA ?_
         all_goals(simp[*];done)
        ·exact sC
        refine⟨by omega,?_,?_⟩
        ·rw[hg,j7 g1]
        ·intro q hq
         rw[j7 g1] at hq
         cases hq
         exact q1
      | succ j=>
        have hj:j<a.nums.length:=by omega
        have e1:((j:Int)+1-1)=(j:Int):=by omega
        have e2:(0:Int)<(j:Int)+1:=by omega
        have et:((j:Int)+1).toNat=j+1:=by omega
        have tp:=hp _ (j7 hj)
        rw[j7 hj] at hg
        simp only at hg
        simp -implicitDefEqProofs only[go_sem,q5,q6,e1,e2,hj]
        refine sQ ?_
        refine bp [] (ja a.nums[j] tp) ?_ ?_<;>simp -implicitDefEqProofs only[go_sem,et,g1]
        refine sQ ?_
        refine aC [] (ja a.nums[j+1] q1) ?_
        refine iK ?_
        cases q4:gC (aO a.nums[j]) (aO a.nums[j+1])
        ·rw[q4,aK] at hg
         have h5:Op.bytesLess (aO a.nums[j]) (aO a.nums[j+1])=false:=q4
         refine uE ?_
         refine an ?_
         refine sA ?_
         all_goals(simp[hg];done)
        ·rw[q4,aE] at hg
         have h5:Op.bytesLess (aO a.nums[j]) (aO a.nums[j+1])=true:=q4
         refine uE ?_
         refine sQ ?_
         refine⟨j+1+1,?_,sL,ar [some 0] ?_ ?_ rfl rfl⟩
         rotate_left
         ·exact sC
         ·exact sC
         refine⟨by omega,?_,?_⟩
         ·rw[hg,j7 g1]
         ·intro q hq
          rw[j7 g1] at hq
          cases hq
          exact q1
  ·rw[al (by omega),al (by omega)] at hg
   have hg:cP a=true:=by rw[hg];cases nH a.nums i<;>rfl
   refine uI ?_
   refine an ?_
   refine sA ?_
   all_goals(simp[hg];done)
theorem EX(a:Atom)(k2:a.kind=2)(hno:¬ (isNone a.A=true∧isNone a.B=true∧a.nums.length=a.times.length∧within a.nums.length 1 4=true∧within a.bound (-1000) 1000=true)):C E.P 241 [av (fW a)] [] (bD (bv (cP a)) []):=by
 have e:=Oz k2
 refine gS (nt:=97) (rs:=[.tmp 2]) hm Tryz.func241 fun hl he cq=>?_
 refine aC [] (ql a.A) ?_
 cases h1:isNone a.A
 ·simp -implicitDefEqProofs only[go_sem]
  refine an ?_
  refine sA ?_
  all_goals(simp[e,h1];done)
 ·simp -implicitDefEqProofs only[go_sem]
  refine aC [] (ql a.B) ?_
  cases h2:isNone a.B
  ·simp -implicitDefEqProofs only[go_sem]
   refine an ?_
   refine sA ?_
   all_goals(simp[e,h1,h2];done)
  ·refine sA ?_
   rcases aa (a.nums.length=a.times.length) with h4|h4
   ·have h4':a.times.length=a.nums.length:=h4.symm
    have k4:=eq_true h4
    simp -implicitDefEqProofs only[go_sem,k4]
    cases h3:within a.nums.length 1 4
    ·have e0:cP a=false:=by simp[e,h3]
     rcases aa ((a.nums.length:Int)<1) with h5|h5
     ·refine uE ?_
      refine an ?_
      refine sA ?_
      all_goals(simp[e0];done)
     ·have h6:(4:Int)<(a.nums.length:Int):=by have:=C3 h3;omega
      simp -implicitDefEqProofs only[go_sem,h5,h6]
      refine an ?_
      refine sA ?_
      all_goals(simp[e0];done)
    ·have h3':=dk.1 h3
     have h5:¬ (a.nums.length:Int)<1:=by omega
     have h6:¬ (4:Int)<(a.nums.length:Int):=by omega
     simp -implicitDefEqProofs only[go_sem,h5,h6]
     cases h7:within a.bound (-1000) 1000
     ·have e0:cP a=false:=by simp[e,h7]
      rcases aa (a.bound < -1000) with h8|h8
      ·simp -implicitDefEqProofs only[go_sem,h8]
       refine an ?_
       refine sA ?_
       all_goals(simp[e0];done)
      ·have h9:1000<a.bound:=by have:=C3 h7;omega
       simp -implicitDefEqProofs only[go_sem,h8,h9]
       refine an ?_
       refine sA ?_
       all_goals(simp[e0];done)
     ·exact absurd ⟨h1,h2,h4,h3,h7⟩ hno
   ·have h4':¬a.times.length=a.nums.length:=fun h=>h4 h.symm
    refine uD ?_
    refine an ?_
    refine sA ?_
    all_goals(simp[e,h4'];done)
theorem Lk(a:Atom)(k2:a.kind=2):C E.P 241 [av (fW a)] [] (bD (bv (cP a)) []):=by
 rcases aa (isNone a.A=true∧isNone a.B=true∧a.nums.length=a.times.length∧within a.nums.length 1 4=true∧within a.bound (-1000) 1000=true) with h|h
 ·obtain⟨h1,h2,h4,h3,h7⟩:=h
  have h3':=dk.1 h3
  have h7':=dk.1 h7
  have h4':=h4.symm
  exact Cz a (by simp[Oz k2,h1,h2,h3,h4',h7]) h1 h2 h4 (by omega) (by omega) (by omega) (by omega)
 ·exact EX a k2 h
theorem xu(a:Atom):C E.P 191 [av (fW a)] [] (bD (bv (cP a)) []):=by
 refine gS (nt:=43) (rs:=[.tmp 2]) hm Tryz.func191 fun hl he cq=>?_
 rcases aa (a.kind=2) with k2|k2
 ·have k:=eq_true k2
  refine uG ?_
  refine bp [] (Lk a k2) ?_ ?_<;>simp -implicitDefEqProofs only[go_sem]
  refine an ?_
  simp -implicitDefEqProofs only[go_sem]
 ·simp -implicitDefEqProofs only[go_sem,k2]
  rcases aa (a.kind=1) with k1|k1
  ·have e:cP a=(isTerm a.A&&(isTerm a.B&&(decide (a.nums.length=0)&&(decide (a.times.length=0)&&(decide (a.bound=0)&& !a.strict))))):=by simp[cP,k1]
   have k:=eq_true k1
   refine uG ?_
   refine aC [] (rJ a.A) ?_
   cases h1:isTerm a.A
   ·simp -implicitDefEqProofs only[go_sem]
    refine an ?_
    refine sA ?_
    all_goals(simp[e,h1];done)
   ·simp -implicitDefEqProofs only[go_sem]
    refine aC [] (rJ a.B) ?_
    cases h2:isTerm a.B
    ·simp -implicitDefEqProofs only[go_sem]
     refine an ?_
     refine sA ?_
     all_goals(simp[e,h1,h2];done)
    ·refine sA ?_
     rcases aa ((a.nums.length:Int)=0) with h3|h3
     ·have h3':a.nums.length=0:=by omega
      have k3:=eq_true h3
      simp -implicitDefEqProofs only[go_sem,k3]
      rcases aa ((a.times.length:Int)=0) with h4|h4
      ·have h4':a.times.length=0:=by omega
       have k4:=eq_true h4
       simp -implicitDefEqProofs only[go_sem,k4]
       rcases aa (a.bound=0) with h5|h5
       ·have k5:=eq_true h5
        simp -implicitDefEqProofs only[go_sem,k5]
        refine an ?_
        refine sA ?_
        all_goals(simp[e,h1,h2,h3',h4',h5];done)
       ·refine uE ?_
        refine an ?_
        refine sA ?_
        all_goals(simp[e,h1,h2,h3',h4',h5];done)
      ·have h4':¬a.times.length=0:=by omega
       refine uD ?_
       refine an ?_
       refine sA ?_
       all_goals(simp[e,h1,h2,h3',h4'];done)
     ·have h3':¬a.nums.length=0:=by omega
      refine uC ?_
      refine an ?_
      refine sA ?_
      all_goals(simp[e,h1,h2,h3'];done)
  ·simp -implicitDefEqProofs only[go_sem,k1]
   refine an ?_
   refine sA ?_
   all_goals(simp[cP,k1,k2];done)
theorem NA{s:dI}{t:Term}(hs:fO s=true)(ht:isTerm t=true):dx s t=decide ((fT s t).getD (-1)=1):=by
 simp only[dx,fy,hs,ht,Bool.and_self,if_true]
 cases fT s t<;>simp
theorem zx(s:dI)(a:Atom):C E.P 122 [av (eu s),av (fW a)] [] (bD (bv (fk s a)) []):=by
 refine gS (nt:=47) (rs:=[.tmp 4]) hm Tryz.func122 fun hl he cq=>?_
 refine aC [] (vu s) ?_
 cases h1:fO s
 ·refine sA ?_
  refine an ?_
  refine sA ?_
  all_goals(simp[fk,h1];done)
 ·refine sA ?_
  refine aC [] (xu a) ?_
  cases h2:cP a
  ·refine sA ?_
   refine an ?_
   refine sA ?_
   all_goals(simp[fk,h1,h2];done)
  ·refine sA ?_
   rcases aa (a.kind=1) with k1|k1
   ·have hAB:=Ki h2 k1
    have k:=eq_true k1
    have tA:fy s a.A=fT s a.A:=by simp[fy,h1,hAB.1]
    have tB:fy s a.B=fT s a.B:=by simp[fy,h1,hAB.2]
    have cA:=tu s h1 a.A
    have cB:=tu s h1 a.B
    refine uG ?_
    refine aC [] cA ?_
    cases qA:fT s a.A with
    | none=>
      simp -implicitDefEqProofs only[go_sem,Z3,cf]
      refine an ?_
      refine sA ?_
      all_goals(simp[fk,h1,h2,k1,gG,tA,qA];done)
    | some n=>
      have hn:=GV.1 (OZ h1 qA)
      have hn2:0≤n:=by omega
      simp -implicitDefEqProofs only[go_sem,aX,hn2]
      refine aC [] cB ?_
      cases qB:fT s a.B with
      | none=>
        have hn3:¬n = -1:=by omega
        simp -implicitDefEqProofs only[go_sem,cf]
        refine an ?_
        refine sA ?_
        all_goals(simp[fk,h1,h2,k1,gG,tA,tB,qA,qB,hn3];done)
      | some m=>
        simp -implicitDefEqProofs only[go_sem,aX]
        refine an ?_
        refine sA ?_
        all_goals(simp[fk,h1,h2,k1,gG,tA,tB,qA,qB];done)
   ·have k2:a.kind=2:=(kh h2).resolve_left k1
    have hw:=mT h2 k2
    have hT:=(vV hw.2.2.2.2.2 hw.2.2.2.1).1
    simp -implicitDefEqProofs only[go_sem,k1]
    refine aM hm (fun(i:Nat)=> i≤a.nums.length∧a.nums.all (dx s)=(a.nums.drop i).all (dx s)) (fun(i:Nat)=> ⟨dH 47 .any [(2,.ptr 0 0),(3,.ptr 1 0),(6,iv i)],[some (.box (cF (eu s))),some (.box (cF (fW a)))]⟩) (fun(i:Nat)=> a.nums.length-i) (0) ?_ (ar [some 0,some 1] ?_ ?_ rfl rfl) ?_
    rotate_left
    ·exact sC
    ·exact sC
    rotate_left
    ·simp
    ·rintro i ⟨hi,hg⟩
     rcases aa (i<a.nums.length) with g1|g1
     ·rw[ah g1,b8,NA h1 (hT _ (ak g1))] at hg
      have cT:=tu s h1 a.nums[i]
      refine uI ?_
      refine aC [] cT ?_
      refine iK ?_
      rcases aa ((fT s a.nums[i]).getD (-1)=1) with q|q
      ·have k:=eq_true q
       simp only[k,decide_true,aE] at hg
       refine uG ?_
       refine sQ ?_
       refine⟨i+1,?_,sL,ar [some 0,some 1] ?_ ?_ rfl rfl⟩
       rotate_left
       ·exact sC
       ·exact sC
       exact⟨by omega,hg⟩
      ·have k:=eq_false q
       simp only[k,decide_false,aK] at hg
       refine uG ?_
       refine an ?_
       refine sA ?_
       all_goals(simp[fk,h1,h2,k1,hg];done)
     ·rw[al (by omega),dS] at hg
      refine uI ?_
      refine an ?_
      refine sA ?_
      all_goals(simp[fk,h1,h2,k1,hg];done)
theorem E1(l:bl)(h:cP l.atom=true):C E.P 193 [av (nI l)] [] (bD (lv (aN (cd l.atom))) []):=by
 have hle:=(na h).1
 refine gS (nt:=43) (rs:=[.tmp 2]) hm Tryz.func193 fun hl he cq=>?_
 refine bp [] (xu l.atom) ?_ ?_<;>simp -implicitDefEqProofs only[go_sem,h]
 rcases aa (l.atom.kind=1) with k1|k1
 ·have k:=eq_true k1
  refine uG ?_
  refine aC [] (gO l.atom.A) ?_
  refine aC [] (gO l.atom.B) ?_
  refine iK ?_
  refine an ?_
  refine sA ?_
  all_goals(simp[cd,k1,dJ,fZ,cT];done)
 ·have e:cd l.atom=l.atom.nums:=by simp[cd,k1]
  rw[e] at hle
  simp -implicitDefEqProofs only[go_sem,k1]
  refine aM hm (fun(i:Nat)=> i≤l.atom.nums.length) (fun(i:Nat)=> ⟨dH 43 .any [(1,.ptr 0 0),(3,.acc 1),(4,iv i)],[some (.box (cF (nI l))),some (.acc 34 (aN (l.atom.nums.take i)))]⟩) (fun(i:Nat)=> l.atom.nums.length-i) (0) ?_ (ar [some 0,some 1] ?_ ?_ rfl rfl) ?_
  rotate_left
  ·exact sC
  ·exact sC
  rotate_left
  ·omega
  ·rintro i hi
   rcases aa (i<l.atom.nums.length) with h1|h1
   ·refine uA ?_
    refine aC [] (gO l.atom.nums[i]) ?_
    refine sQ ?_
    refine⟨i+1,?_,sL,ar [some 0,some 2] ?_ ?_ rfl rfl⟩
    rotate_left
    ·exact sC
    ·refine sA ?_
     all_goals(exact pg h1)
    exact h1
   ·refine uA ?_
    refine an ?_
    refine sA ?_
    rw[ao (by omega),e]
theorem yd(ab:List bl)(hl1:ab.length≤100)(hw:∀l∈ab,cP l.atom=true):C E.P 123 [lv (aV ab)] [] (bD (lv (aN (az ab))) []):=by
 obtain⟨hle,e7⟩:=iW hw
 have e:az ab=a6 [] (dZ ab):=by rw[jP,iL e7]
 refine gS (nt:=32) (rs:=[.tmp 2]) hm Tryz.func123 fun hl he cq=>?_
 refine aM hm (fun(i:Nat)=> i≤ab.length) (fun(i:Nat)=> ⟨dH 32 .any [(0,lv (aV ab)),(3,.acc 0),(4,iv i)],[some (.acc 34 (aN (a6 [] (dZ (ab.take i)))))]⟩) (fun(i:Nat)=> ab.length-i) (0) ?_ (ar [some 0] ?_ ?_ rfl rfl) ?_
 rotate_left
 ·exact sC
 ·refine sA ?_
  all_goals(simp[dZ,a6])
 rotate_left
 ·omega
 ·rintro i hi
  rcases aa (i<ab.length) with h1|h1
  ·have hwi:=hw ab[i] (ak h1)
   have h3:=na hwi
   have h2:=iW (ab:=ab.take i) fun l hl=>hw l (fb hl)
   have h4:(ab.take i).length≤100:=by simp;omega
   refine uA ?_
   refine aC [] (E1 ab[i] hwi) ?_
   refine aM hm (fun(j:Nat)=> j≤(cd ab[i].atom).length) (fun(j:Nat)=> ⟨dH 32 .any [(0,lv (aV ab)),(3,.acc 0),(4,iv i),(5,lv (aN (cd ab[i].atom))),(6,iv j)],[some (.acc 34 (aN (a6 [] (dZ (ab.take i)++(cd ab[i].atom).take j))))]⟩) (fun(j:Nat)=> (cd ab[i].atom).length-j) (0) ?_ (ar [some 0] ?_ ?_ rfl rfl) ?_
   rotate_left
   ·exact sC
   ·exact sC
   rotate_left
   ·omega
   ·rintro j hj
    rcases aa (j<(cd ab[i].atom).length) with g1|g1
    ·have ht:=h3.2 (cd ab[i].atom)[j] (ak g1)
     have mG:∀t∈dZ (ab.take i)++(cd ab[i].atom).take j,isTerm t=true:=by
      intro t ht
      rcases List.mem_append.1 ht with ht|ht
      ·exact h2.2 t ht
      ·exact h3.2 t (fb ht)
     have b1:=qU _ [] mG
     have b2:(dZ (ab.take i)++(cd ab[i].atom).take j).length≤410:=by rw[List.length_append,List.length_take];omega
     simp only[List.length_nil] at b1
     refine uI ?_
     refine oC [] [0,1] (Gp (cd ab[i].atom)[j] 4 _ (by omega) (gN ht) (eO b1 (by omega))) ?_
     refine sQ ?_
     refine⟨j+1,?_,sL,ar [some 1] ?_ ?_ rfl rfl⟩
     rotate_left
     ·exact sC
     ·refine sA ?_
      all_goals((simp only[pn g1,←List.append_assoc,HQ,a6]))
     exact g1
    ·have ej:(cd ab[i].atom).take j=cd ab[i].atom:=ao (by omega)
     refine uI ?_
     refine sQ ?_
     refine⟨i+1,?_,sL,ar [some 0] ?_ ?_ rfl rfl⟩
     rotate_left
     ·exact sC
     ·refine sA ?_
      all_goals((rw[tS h1,ej]))
     exact h1
  ·have et:ab.take i=ab:=ao (by omega)
   simp -implicitDefEqProofs only[go_sem,h1,et]
   refine an ?_
   refine sA ?_
   rw[e]
theorem zH(s:dI)(ts:List Term)(hs:fO s=true)(ht:∀t∈ts,isTerm t=true)(hl1:ts.length≤10000):C E.P 125 [av (eu s),lv (aN ts)] [] (bD (lv (aN (ts.filter (dx s)))) []):=by
 refine gS (nt:=29) (rs:=[.tmp 4]) hm Tryz.func125 fun hl he cq=>?_
 refine aM hm (fun(i:Nat)=> i≤ts.length) (fun(i:Nat)=> ⟨dH 29 .any [(1,lv (aN ts)),(2,.ptr 0 0),(5,.acc 1),(6,iv i)],[some (.box (cF (eu s))),some (.acc 34 (aN ((ts.take i).filter (dx s))))]⟩) (fun(i:Nat)=> ts.length-i) (0) ?_ (ar [some 0,some 1] ?_ ?_ rfl rfl) ?_
 rotate_left
 ·exact sC
 ·refine sA ?_
  all_goals(simp[*];done)
 rotate_left
 ·omega
 ·rintro i hi
  rcases aa (i<ts.length) with h1|h1
  ·have hc:=tu s hs ts[i]
   have hn:=NA hs (ht ts[i] (ak h1))
   have hb:((ts.take i).filter (dx s)).length≤10000:=eO (List.length_filter_le _ _) (by simp;omega)
   refine uA ?_
   refine aC [] hc ?_
   refine iK ?_
   rcases aa ((fT s ts[i]).getD (-1)=1) with q|q
   ·have k:=eq_true q
    have hn:dx s ts[i]=true:=by rw[hn];exact decide_eq_true q
    simp -implicitDefEqProofs only[go_sem,k,h1]
    refine sQ ?_
    refine⟨i+1,?_,sL,ar [some 0,some 2] ?_ ?_ rfl rfl⟩
    rotate_left
    ·exact sC
    ·refine sA ?_
     all_goals((rw[pn h1,lP,←lg];simp[hn,dJ,cT]))
    exact h1
   ·have k:=eq_false q
    have hn:dx s ts[i]=false:=by rw[hn];exact decide_eq_false q
    refine uG ?_
    refine sQ ?_
    refine⟨i+1,?_,sL,ar [some 0,some 1] ?_ ?_ rfl rfl⟩
    rotate_left
    ·exact sC
    ·refine sA ?_
     all_goals((rw[pn h1,lP];simp[hn]))
    exact h1
  ·refine uA ?_
   refine an ?_
   refine sA ?_
   rw[ao (by omega)]
theorem GF(s:dI)(ab:List bl)(hl1:ab.length≤100):C E.P 59 [av (eu s),lv (aV ab)] [] (bD (bv (fO s&&(ab.all (fun l=>fk s l.atom)&&(decide ((az ab).length≤24)&&decide ((numsOf s ab).length≤4))))) []):=by
 refine gS (nt:=37) (rs:=[.tmp 4]) hm Tryz.func59 fun hl he cq=>?_
 refine aM hm (fun(i:Nat)=> i≤ab.length∧ab.all (fun l=>fk s l.atom)=(ab.drop i).all (fun l=>fk s l.atom)) (fun(i:Nat)=> ⟨dH 37 .any [(1,lv (aV ab)),(2,.ptr 0 0),(5,iv i)],[some (.box (cF (eu s)))]⟩) (fun(i:Nat)=> ab.length-i) (0) ?_ (ar [some 0] ?_ ?_ rfl rfl) ?_
 rotate_left
 ·exact sC
 ·exact sC
 rotate_left
 ·simp
 ·rintro i ⟨hi,hg⟩
  rcases aa (i<ab.length) with h1|h1
  ·rw[ah h1,b8] at hg
   refine uA ?_
   refine aC [] (zx s ab[i].atom) ?_
   refine iK ?_
   cases h2:fk s ab[i].atom
   ·rw[h2,aK] at hg
    refine sA ?_
    refine an ?_
    refine sA ?_
    all_goals(simp[hg];done)
   ·rw[h2,aE] at hg
    refine sA ?_
    refine sQ ?_
    refine⟨i+1,?_,sL,ar [some 0] ?_ ?_ rfl rfl⟩
    rotate_left
    ·exact sC
    ·exact sC
    exact⟨by omega,hg⟩
  ·rw[al (by omega),dS] at hg
   have hw:∀l∈ab,cP l.atom=true:=by
    intro l hl
    have:=List.all_eq_true.1 hg l hl
    simp only[fk,Bool.and_eq_true] at this
    exact this.2.1
   have e7:=(iW hw).2
   have htt:∀t∈az ab,isTerm t=true:=by rw[jP];exact qR e7
   refine uA ?_
   refine aC [] (yd ab hl1 hw) ?_
   refine aC [] (vu s) ?_
   cases h2:fO s
   ·refine sA ?_
    refine an ?_
    exact sC
   ·refine sA ?_
    rcases aa (((az ab).length:Int)≤24) with h3|h3
    ·have h3':(az ab).length≤24:=by omega
     have e:numsOf s ab=(az ab).filter (dx s):=rfl
     refine uC ?_
     refine aC [] (zH s (az ab) h2 htt (by omega)) ?_
     refine an ?_
     refine sA ?_
     simp only[hg,h3',e,decide_true,aE]
     congr 2
     exact decide_eq_decide.2 (by omega)
    ·have h3':¬ (az ab).length≤24:=by omega
     refine uC ?_
     refine an ?_
     refine sA ?_
     all_goals(simp[h3'];done)
theorem zm(s:dI)(ab:List bl):C E.P 19 [av (eu s),lv (aV ab)] [] (bD (bv (e6 s ab)) []):=by
 refine gS (nt:=13) (rs:=[.tmp 4]) hm Tryz.func19 fun hl he cq=>?_
 rcases aa ((ab.length:Int)≤6) with h|h
 ·have h':ab.length≤6:=by omega
  refine uF ?_
  refine aC [] (GF s ab (by omega)) ?_
  refine an ?_
  refine sA ?_
  simp only[e6,h',decide_true,Bool.and_true,Bool.and_assoc]
 ·have h':¬ab.length≤6:=by omega
  refine uF ?_
  refine an ?_
  refine sA ?_
  all_goals(simp[e6,h'];done)
end Go.Proofs.YtabembjmeobhoaaGreat
