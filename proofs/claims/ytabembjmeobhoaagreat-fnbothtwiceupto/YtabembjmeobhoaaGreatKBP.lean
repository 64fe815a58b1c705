/-
  The reference: the walks of atoms and literals. A step towards the exact laws.
-/
import Derived.Test.YtabembjmeobhoaaGreatKBI
set_option linter.unusedVariables false
set_option linter.unusedSimpArgs false
open Bool renaming true_and→aM,false_and→aS
open Classical renaming em→aa
open List renaming drop_eq_getElem_cons→aj,getElem_mem→ak,drop_of_length_le→al,take_of_length_le→ao,all_cons→b8,all_nil→dX,mem_of_mem_take→eV,filter_append→lE
open Nat renaming le_trans→eu
open Option renaming getD_some→aK,getD_none→aZ
namespace Go.Proofs.YtabembjmeobhoaaGreat
open Go.Eng Go.Mod
open Int renaming reduceEq→Z1,reduceLT→Z2,reduceLE→Z3,reduceToNat→Z4
set_option maxRecDepth 100000
set_option maxHeartbeats 800000
theorem Cm{n lo hi:Int}(h:within n lo hi=false):n<lo∨hi<n:=by
 simp only[within,Bool.and_eq_false_iff,decide_eq_false_iff_not] at h
 omega
theorem MP{a:Atom}(k2:a.kind=2):cJ a=(isNone a.A&&(isNone a.B&&(within a.nums.length 1 4&&(decide (a.times.length=a.nums.length)&&(within a.bound (-1000) 1000&&kO none a.nums a.times))))):=by simp[cJ,k2]
theorem Cv(a:Atom)(e:cJ a=kO none a.nums a.times)(h1:isNone a.A=true)(h2:isNone a.B=true)(h4:a.nums.length=a.times.length)(h5:¬ (a.nums.length:Int)<1)(h6:¬ (4:Int)<(a.nums.length:Int))(h8:¬a.bound < -1000)(h9:¬1000<a.bound):C E.P 241 [av (fM a)] [] (bM (bv (cJ a)) []):=by
 have k4:=eq_true h4
 refine gS (nt:=97) (rs:=[.tmp 2]) hm Tryz.func241 fun hl he cI=>?_
 refine bQ [] (pO a.A) ?_ ?_<;>simp -implicitDefEqProofs only[go_sem,h1]
 refine bQ [] (pO a.B) ?_ ?_<;>simp -implicitDefEqProofs only[go_sem,h2,k4,h5,h6,h8,h9]
 refine aO hm (fun(i:Nat)=> i≤a.nums.length∧cJ a=kO (nk a.nums i) (a.nums.drop i) (a.times.drop i)∧∀q,nk a.nums i=some q→isTerm q=true) (fun(i:Nat)=> ⟨dB 97 .any [(1,.ptr 0 0),(3,iv i)],[some (.box (cF (fM a)))]⟩) (fun(i:Nat)=> a.nums.length-i) (0) ?_ (aw [some 0] ?_ ?_ rfl rfl) ?_
 rotate_left
 ·exact sC
 ·simp -implicitDefEqProofs only[go_sem]
 rotate_left
 ·exact⟨by omega,e,fun q h=>by cases h⟩
 ·rintro i ⟨hi,hg,hp⟩
  rcases aa (i<a.nums.length) with g1|g1
  ·have g2:i<a.times.length:=by omega
   rw[CE g1 g2] at hg
   simp -implicitDefEqProofs only[go_sem,g1,g2]
   refine aC [] (rS a.nums[i]) ?_
   cases q1:isTerm a.nums[i]
   ·rw[q1,aS] at hg
    simp -implicitDefEqProofs only[go_sem]
    refine iK ?_
    refine an ?_
    refine sA ?_
    all_goals(simp[hg];done)
   ·rw[q1,aM] at hg
    refine sA ?_
    rcases aa (a.times[i]=0) with q3|q3
    ·have k3:=eq_true q3
     have hg:cJ a=false:=by rw[hg];simp[q3]
     simp -implicitDefEqProofs only[go_sem,k3]
     refine iK ?_
     refine an ?_
     refine sA ?_
     all_goals(simp[hg];done)
    ·simp -implicitDefEqProofs only[go_sem,q3]
     cases q2:within a.times[i] (-50) 50
     ·have hg:cJ a=false:=by rw[hg,q2];rfl
      rcases aa (a.times[i] < -50) with q5|q5
      ·simp -implicitDefEqProofs only[go_sem,q5]
       refine iK ?_
       refine an ?_
       refine sA ?_
       all_goals(simp[hg];done)
      ·have q6:50<a.times[i]:=by have:=Cm q2;omega
       simp -implicitDefEqProofs only[go_sem,q5,q6]
       refine iK ?_
       refine an ?_
       refine sA ?_
       all_goals(simp[hg];done)
     ·have q2':=dx.1 q2
      have q5:¬a.times[i] < -50:=by omega
      have q6:¬50<a.times[i]:=by omega
      rw[q2,aM] at hg
      simp only[q3,not_false_eq_true,ne_eq,decide_true,aM] at hg
      cases i with
      | zero=>
        simp only[nk,aM] at hg
        simp -implicitDefEqProofs only[go_sem,q5,q6,Int.lt_irrefl]
        refine iK ?_
        refine sQ ?_
        refine⟨0+1,?_,sL,aw [some 0] ?_ ?_ rfl rfl⟩
        rotate_left
        ·refine sA ?_
         all_goals(simp[*];done)
        ·exact sC
        refine⟨by omega,?_,?_⟩
        ·rw[hg,jU g1]
        ·intro q hq
         rw[jU g1] at hq
         cases hq
         exact q1
      | succ j=>
        have hj:j<a.nums.length:=by omega
        have e1:((j:Int)+1-1)=(j:Int):=by omega
        have e2:(0:Int)<(j:Int)+1:=by omega
        have et:((j:Int)+1).toNat=j+1:=by omega
        have tp:=hp _ (jU hj)
        rw[jU hj] at hg
        simp only at hg
        simp -implicitDefEqProofs only[go_sem,q5,q6,e1,e2,hj]
        refine sQ ?_
        refine bQ [] (iJ a.nums[j] tp) ?_ ?_<;>simp -implicitDefEqProofs only[go_sem,et,g1]
        refine sQ ?_
        refine aC [] (iJ a.nums[j+1] q1) ?_
        refine iK ?_
        cases q4:gn (aN a.nums[j]) (aN a.nums[j+1])
        ·rw[q4,aS] at hg
         have h5:Op.bytesLess (aN a.nums[j]) (aN a.nums[j+1])=false:=q4
         simp -implicitDefEqProofs only[go_sem,h5]
         refine an ?_
         refine sA ?_
         all_goals(simp[hg];done)
        ·rw[q4,aM] at hg
         have h5:Op.bytesLess (aN a.nums[j]) (aN a.nums[j+1])=true:=q4
         simp -implicitDefEqProofs only[go_sem,h5]
         refine sQ ?_
         refine⟨j+1+1,?_,sL,aw [some 0] ?_ ?_ rfl rfl⟩
         rotate_left
         ·exact sC
         ·exact sC
         refine⟨by omega,?_,?_⟩
         ·rw[hg,jU g1]
         ·intro q hq
          rw[jU g1] at hq
          cases hq
          exact q1
  ·rw[al (by omega),al (by omega)] at hg
   have hg:cJ a=true:=by rw[hg];cases nk a.nums i<;>rfl
   simp -implicitDefEqProofs only[go_sem,g1]
   refine an ?_
   refine sA ?_
   all_goals(simp[hg];done)
theorem DS(a:Atom)(k2:a.kind=2)(hno:¬ (isNone a.A=true∧isNone a.B=true∧a.nums.length=a.times.length∧within a.nums.length 1 4=true∧within a.bound (-1000) 1000=true)):C E.P 241 [av (fM a)] [] (bM (bv (cJ a)) []):=by
 have e:=MP k2
 refine gS (nt:=97) (rs:=[.tmp 2]) hm Tryz.func241 fun hl he cI=>?_
 refine aC [] (pO a.A) ?_
 cases h1:isNone a.A
 ·simp -implicitDefEqProofs only[go_sem]
  refine an ?_
  refine sA ?_
  all_goals(simp[e,h1];done)
 ·simp -implicitDefEqProofs only[go_sem]
  refine aC [] (pO a.B) ?_
  cases h2:isNone a.B
  ·simp -implicitDefEqProofs only[go_sem]
   refine an ?_
   refine sA ?_
   all_goals(simp[e,h1,h2];done)
  ·refine sA ?_
   rcases aa (a.nums.length=a.times.length) with h4|h4
   ·have h4':a.times.length=a.nums.length:=h4.symm
    have k4:=eq_true h4
    simp -implicitDefEqProofs only[go_sem,k4]
    cases h3:within a.nums.length 1 4
    ·have e0:cJ a=false:=by simp[e,h3]
     rcases aa ((a.nums.length:Int)<1) with h5|h5
     ·simp -implicitDefEqProofs only[go_sem,h5]
      refine an ?_
      refine sA ?_
      all_goals(simp[e0];done)
     ·have h6:(4:Int)<(a.nums.length:Int):=by have:=Cm h3;omega
      simp -implicitDefEqProofs only[go_sem,h5,h6]
      refine an ?_
      refine sA ?_
      all_goals(simp[e0];done)
    ·have h3':=dx.1 h3
     have h5:¬ (a.nums.length:Int)<1:=by omega
     have h6:¬ (4:Int)<(a.nums.length:Int):=by omega
     simp -implicitDefEqProofs only[go_sem,h5,h6]
     cases h7:within a.bound (-1000) 1000
     ·have e0:cJ a=false:=by simp[e,h7]
      rcases aa (a.bound < -1000) with h8|h8
      ·simp -implicitDefEqProofs only[go_sem,h8]
       refine an ?_
       refine sA ?_
       all_goals(simp[e0];done)
      ·have h9:1000<a.bound:=by have:=Cm h7;omega
       simp -implicitDefEqProofs only[go_sem,h8,h9]
       refine an ?_
       refine sA ?_
       all_goals(simp[e0];done)
     ·exact absurd ⟨h1,h2,h4,h3,h7⟩ hno
   ·have h4':¬a.times.length=a.nums.length:=fun h=>h4 h.symm
    simp -implicitDefEqProofs only[go_sem,h4]
    refine an ?_
    refine sA ?_
    all_goals(simp[e,h4'];done)
theorem Kn(a:Atom)(k2:a.kind=2):C E.P 241 [av (fM a)] [] (bM (bv (cJ a)) []):=by
 rcases aa (isNone a.A=true∧isNone a.B=true∧a.nums.length=a.times.length∧within a.nums.length 1 4=true∧within a.bound (-1000) 1000=true) with h|h
 ·obtain⟨h1,h2,h4,h3,h7⟩:=h
  have h3':=dx.1 h3
  have h7':=dx.1 h7
  have h4':=h4.symm
  exact Cv a (by simp[MP k2,h1,h2,h3,h4',h7]) h1 h2 h4 (by omega) (by omega) (by omega) (by omega)
 ·exact DS a k2 h
theorem wN(a:Atom):C E.P 191 [av (fM a)] [] (bM (bv (cJ a)) []):=by
 refine gS (nt:=43) (rs:=[.tmp 2]) hm Tryz.func191 fun hl he cI=>?_
 rcases aa (a.kind=2) with k2|k2
 ·have k:=eq_true k2
  simp -implicitDefEqProofs only[go_sem,k]
  refine bQ [] (Kn a k2) ?_ ?_<;>simp -implicitDefEqProofs only[go_sem]
  refine an ?_
  simp -implicitDefEqProofs only[go_sem]
 ·simp -implicitDefEqProofs only[go_sem,k2]
  rcases aa (a.kind=1) with k1|k1
  ·have e:cJ a=(isTerm a.A&&(isTerm a.B&&(decide (a.nums.length=0)&&(decide (a.times.length=0)&&(decide (a.bound=0)&& !a.strict))))):=by simp[cJ,k1]
   have k:=eq_true k1
   simp -implicitDefEqProofs only[go_sem,k]
   refine aC [] (rS a.A) ?_
   cases h1:isTerm a.A
   ·simp -implicitDefEqProofs only[go_sem]
    refine an ?_
    refine sA ?_
    all_goals(simp[e,h1];done)
   ·simp -implicitDefEqProofs only[go_sem]
    refine aC [] (rS a.B) ?_
    cases h2:isTerm a.B
    ·simp -implicitDefEqProofs only[go_sem]
     refine an ?_
     refine sA ?_
     all_goals(simp[e,h1,h2];done)
    ·refine sA ?_
     rcases aa ((a.nums.length:Int)=0) with h3|h3
     ·have h3':a.nums.length=0:=by omega
      have k3:=eq_true h3
      simp -implicitDefEqProofs only[go_sem,k3]
      rcases aa ((a.times.length:Int)=0) with h4|h4
      ·have h4':a.times.length=0:=by omega
       have k4:=eq_true h4
       simp -implicitDefEqProofs only[go_sem,k4]
       rcases aa (a.bound=0) with h5|h5
       ·have k5:=eq_true h5
        simp -implicitDefEqProofs only[go_sem,k5]
        refine an ?_
        refine sA ?_
        all_goals(simp[e,h1,h2,h3',h4',h5];done)
       ·simp -implicitDefEqProofs only[go_sem,h5]
        refine an ?_
        refine sA ?_
        all_goals(simp[e,h1,h2,h3',h4',h5];done)
      ·have h4':¬a.times.length=0:=by omega
       simp -implicitDefEqProofs only[go_sem,h4]
       refine an ?_
       refine sA ?_
       all_goals(simp[e,h1,h2,h3',h4'];done)
     ·have h3':¬a.nums.length=0:=by omega
      simp -implicitDefEqProofs only[go_sem,h3]
      refine an ?_
      refine sA ?_
      all_goals(simp[e,h1,h2,h3'];done)
  ·simp -implicitDefEqProofs only[go_sem,k1]
   refine an ?_
   refine sA ?_
   all_goals(simp[cJ,k1,k2];done)
theorem MS{s:dE}{t:Term}(hs:fH s=true)(ht:isTerm t=true):dk s t=decide ((fK s t).getD (-1)=1):=by
 simp only[dk,fk,hs,ht,Bool.and_self,if_true]
 cases fK s t<;>simp
theorem yO(s:dE)(a:Atom):C E.P 122 [av (dZ s),av (fM a)] [] (bM (bv (fa s a)) []):=by
 refine gS (nt:=47) (rs:=[.tmp 4]) hm Tryz.func122 fun hl he cI=>?_
 refine aC [] (uY s) ?_
 cases h1:fH s
 ·refine sA ?_
  refine an ?_
  refine sA ?_
  all_goals(simp[fa,h1];done)
 ·refine sA ?_
  refine aC [] (wN a) ?_
  cases h2:cJ a
  ·refine sA ?_
   refine an ?_
   refine sA ?_
   all_goals(simp[fa,h1,h2];done)
  ·refine sA ?_
   rcases aa (a.kind=1) with k1|k1
   ·have hAB:=Ij h2 k1
    have k:=eq_true k1
    have tA:fk s a.A=fK s a.A:=by simp[fk,h1,hAB.1]
    have tB:fk s a.B=fK s a.B:=by simp[fk,h1,hAB.2]
    have cA:=th s h1 a.A
    have cB:=th s h1 a.B
    simp -implicitDefEqProofs only[go_sem,k]
    refine aC [] cA ?_
    cases qA:fK s a.A with
    | none=>
      simp -implicitDefEqProofs only[go_sem,Z3,aZ]
      refine an ?_
      refine sA ?_
      all_goals(simp[fa,h1,h2,k1,iL,tA,qA];done)
    | some n=>
      have hn:=Gi.1 (L7 h1 qA)
      have hn2:0≤n:=by omega
      simp -implicitDefEqProofs only[go_sem,aK,hn2]
      refine aC [] cB ?_
      cases qB:fK s a.B with
      | none=>
        have hn3:¬n = -1:=by omega
        simp -implicitDefEqProofs only[go_sem,aZ]
        refine an ?_
        refine sA ?_
        all_goals(simp[fa,h1,h2,k1,iL,tA,tB,qA,qB,hn3];done)
      | some m=>
        simp -implicitDefEqProofs only[go_sem,aK]
        refine an ?_
        refine sA ?_
        all_goals(simp[fa,h1,h2,k1,iL,tA,tB,qA,qB];done)
   ·have k2:a.kind=2:=(j6 h2).resolve_left k1
    have hw:=mF h2 k2
    have hT:=(uz hw.2.2.2.2.2 hw.2.2.2.1).1
    simp -implicitDefEqProofs only[go_sem,k1]
    refine aO hm (fun(i:Nat)=> i≤a.nums.length∧a.nums.all (dk s)=(a.nums.drop i).all (dk s)) (fun(i:Nat)=> ⟨dB 47 .any [(2,.ptr 0 0),(3,.ptr 1 0),(6,iv i)],[some (.box (cF (dZ s))),some (.box (cF (fM a)))]⟩) (fun(i:Nat)=> a.nums.length-i) (0) ?_ (aw [some 0,some 1] ?_ ?_ rfl rfl) ?_
    rotate_left
    ·exact sC
    ·exact sC
    rotate_left
    ·simp
    ·rintro i ⟨hi,hg⟩
     rcases aa (i<a.nums.length) with g1|g1
     ·rw[aj g1,b8,MS h1 (hT _ (ak g1))] at hg
      have cT:=th s h1 a.nums[i]
      simp -implicitDefEqProofs only[go_sem,g1]
      refine aC [] cT ?_
      refine iK ?_
      rcases aa ((fK s a.nums[i]).getD (-1)=1) with q|q
      ·have k:=eq_true q
       simp only[k,decide_true,aM] at hg
       simp -implicitDefEqProofs only[go_sem,k]
       refine sQ ?_
       refine⟨i+1,?_,sL,aw [some 0,some 1] ?_ ?_ rfl rfl⟩
       rotate_left
       ·exact sC
       ·exact sC
       exact⟨by omega,hg⟩
      ·have k:=eq_false q
       simp only[k,decide_false,aS] at hg
       simp -implicitDefEqProofs only[go_sem,k]
       refine an ?_
       refine sA ?_
       all_goals(simp[fa,h1,h2,k1,hg];done)
     ·rw[al (by omega),dX] at hg
      simp -implicitDefEqProofs only[go_sem,g1]
      refine an ?_
      refine sA ?_
      all_goals(simp[fa,h1,h2,k1,hg];done)
theorem Du(l:bp)(h:cJ l.atom=true):C E.P 193 [av (np l)] [] (bM (lv (aP (b9 l.atom))) []):=by
 have hle:=(mS h).1
 refine gS (nt:=43) (rs:=[.tmp 2]) hm Tryz.func193 fun hl he cI=>?_
 refine bQ [] (wN l.atom) ?_ ?_<;>simp -implicitDefEqProofs only[go_sem,h]
 rcases aa (l.atom.kind=1) with k1|k1
 ·have k:=eq_true k1
  simp -implicitDefEqProofs only[go_sem,k]
  refine aC [] (gF l.atom.A) ?_
  refine aC [] (gF l.atom.B) ?_
  refine iK ?_
  refine an ?_
  refine sA ?_
  all_goals(simp[b9,k1,dM,lW,cT];done)
 ·have e:b9 l.atom=l.atom.nums:=by simp[b9,k1]
  rw[e] at hle
  simp -implicitDefEqProofs only[go_sem,k1]
  refine aO hm (fun(i:Nat)=> i≤l.atom.nums.length) (fun(i:Nat)=> ⟨dB 43 .any [(1,.ptr 0 0),(3,.acc 1),(4,iv i)],[some (.box (cF (np l))),some (.acc 34 (aP (l.atom.nums.take i)))]⟩) (fun(i:Nat)=> l.atom.nums.length-i) (0) ?_ (aw [some 0,some 1] ?_ ?_ rfl rfl) ?_
  rotate_left
  ·exact sC
  ·exact sC
  rotate_left
  ·omega
  ·rintro i hi
   rcases aa (i<l.atom.nums.length) with h1|h1
   ·simp -implicitDefEqProofs only[go_sem,h1]
    refine aC [] (gF l.atom.nums[i]) ?_
    refine sQ ?_
    refine⟨i+1,?_,sL,aw [some 0,some 2] ?_ ?_ rfl rfl⟩
    rotate_left
    ·exact sC
    ·refine sA ?_
     all_goals(exact pK h1)
    exact h1
   ·simp -implicitDefEqProofs only[go_sem,h1]
    refine an ?_
    refine sA ?_
    rw[ao (by omega),e]
theorem wA(ab:List bp)(hl1:ab.length≤100)(hw:∀l∈ab,cJ l.atom=true):C E.P 123 [lv (a6 ab)] [] (bM (lv (aP (aA ab))) []):=by
 obtain⟨hle,eP⟩:=iT hw
 have e:aA ab=ba [] (dI ab):=by rw[jD,iB eP]
 refine gS (nt:=32) (rs:=[.tmp 2]) hm Tryz.func123 fun hl he cI=>?_
 refine aO hm (fun(i:Nat)=> i≤ab.length) (fun(i:Nat)=> ⟨dB 32 .any [(0,lv (a6 ab)),(3,.acc 0),(4,iv i)],[some (.acc 34 (aP (ba [] (dI (ab.take i)))))]⟩) (fun(i:Nat)=> ab.length-i) (0) ?_ (aw [some 0] ?_ ?_ rfl rfl) ?_
 rotate_left
 ·exact sC
 ·refine sA ?_
  all_goals(simp[dI,ba])
 rotate_left
 ·omega
 ·rintro i hi
  rcases aa (i<ab.length) with h1|h1
  ·have hwi:=hw ab[i] (ak h1)
   have h3:=mS hwi
   have h2:=iT (ab:=ab.take i) fun l hl=>hw l (eV hl)
   have h4:(ab.take i).length≤100:=by simp;omega
   simp -implicitDefEqProofs only[go_sem,h1]
   refine aC [] (Du ab[i] hwi) ?_
   refine aO hm (fun(j:Nat)=> j≤(b9 ab[i].atom).length) (fun(j:Nat)=> ⟨dB 32 .any [(0,lv (a6 ab)),(3,.acc 0),(4,iv i),(5,lv (aP (b9 ab[i].atom))),(6,iv j)],[some (.acc 34 (aP (ba [] (dI (ab.take i)++(b9 ab[i].atom).take j))))]⟩) (fun(j:Nat)=> (b9 ab[i].atom).length-j) (0) ?_ (aw [some 0] ?_ ?_ rfl rfl) ?_
   rotate_left
   ·exact sC
   ·exact sC
   rotate_left
   ·omega
   ·rintro j hj
    rcases aa (j<(b9 ab[i].atom).length) with g1|g1
    ·have ht:=h3.2 (b9 ab[i].atom)[j] (ak g1)
     have mq:∀t∈dI (ab.take i)++(b9 ab[i].atom).take j,isTerm t=true:=by
      intro t ht
      rcases List.mem_append.1 ht with ht|ht
      ·exact h2.2 t ht
      ·exact h3.2 t (eV ht)
     have b1:=qL _ [] mq
     have b2:(dI (ab.take i)++(b9 ab[i].atom).take j).length≤410:=by rw[List.length_append,List.length_take];omega
     simp only[List.length_nil] at b1
     simp -implicitDefEqProofs only[go_sem,g1]
     refine oC [] [0,1] (GJ (b9 ab[i].atom)[j] 4 _ (by omega) (iC ht) (eu b1 (by omega))) ?_
     refine sQ ?_
     refine⟨j+1,?_,sL,aw [some 1] ?_ ?_ rfl rfl⟩
     rotate_left
     ·exact sC
     ·refine sA ?_
      all_goals((simp only[ph g1,←List.append_assoc,ER,ba]))
     exact g1
    ·have ej:(b9 ab[i].atom).take j=b9 ab[i].atom:=ao (by omega)
     simp -implicitDefEqProofs only[go_sem,g1]
     refine sQ ?_
     refine⟨i+1,?_,sL,aw [some 0] ?_ ?_ rfl rfl⟩
     rotate_left
     ·exact sC
     ·refine sA ?_
      all_goals((rw[tq h1,ej]))
     exact h1
  ·have et:ab.take i=ab:=ao (by omega)
   simp -implicitDefEqProofs only[go_sem,h1,et]
   refine an ?_
   refine sA ?_
   rw[e]
theorem yJ(s:dE)(ts:List Term)(hs:fH s=true)(ht:∀t∈ts,isTerm t=true)(hl1:ts.length≤10000):C E.P 125 [av (dZ s),lv (aP ts)] [] (bM (lv (aP (ts.filter (dk s)))) []):=by
 refine gS (nt:=29) (rs:=[.tmp 4]) hm Tryz.func125 fun hl he cI=>?_
 refine aO hm (fun(i:Nat)=> i≤ts.length) (fun(i:Nat)=> ⟨dB 29 .any [(1,lv (aP ts)),(2,.ptr 0 0),(5,.acc 1),(6,iv i)],[some (.box (cF (dZ s))),some (.acc 34 (aP ((ts.take i).filter (dk s))))]⟩) (fun(i:Nat)=> ts.length-i) (0) ?_ (aw [some 0,some 1] ?_ ?_ rfl rfl) ?_
 rotate_left
 ·exact sC
 ·refine sA ?_
  all_goals(simp[*];done)
 rotate_left
 ·omega
 ·rintro i hi
  rcases aa (i<ts.length) with h1|h1
  ·have hc:=th s hs ts[i]
   have hn:=MS hs (ht ts[i] (ak h1))
   have hb:((ts.take i).filter (dk s)).length≤10000:=eu (List.length_filter_le _ _) (by simp;omega)
   simp -implicitDefEqProofs only[go_sem,h1]
   refine aC [] hc ?_
   refine iK ?_
   rcases aa ((fK s ts[i]).getD (-1)=1) with q|q
   ·have k:=eq_true q
    have hn:dk s ts[i]=true:=by rw[hn];exact decide_eq_true q
    simp -implicitDefEqProofs only[go_sem,k,h1]
    refine sQ ?_
    refine⟨i+1,?_,sL,aw [some 0,some 2] ?_ ?_ rfl rfl⟩
    rotate_left
    ·exact sC
    ·refine sA ?_
     all_goals((rw[ph h1,lE,←lV];simp[hn,dM,cT]))
    exact h1
   ·have k:=eq_false q
    have hn:dk s ts[i]=false:=by rw[hn];exact decide_eq_false q
    simp -implicitDefEqProofs only[go_sem,k]
    refine sQ ?_
    refine⟨i+1,?_,sL,aw [some 0,some 1] ?_ ?_ rfl rfl⟩
    rotate_left
    ·exact sC
    ·refine sA ?_
     all_goals((rw[ph h1,lE];simp[hn]))
    exact h1
  ·simp -implicitDefEqProofs only[go_sem,h1]
   refine an ?_
   refine sA ?_
   rw[ao (by omega)]
theorem EX(s:dE)(ab:List bp)(hl1:ab.length≤100):C E.P 59 [av (dZ s),lv (a6 ab)] [] (bM (bv (fH s&&(ab.all (fun l=>fa s l.atom)&&(decide ((aA ab).length≤24)&&decide ((numsOf s ab).length≤4))))) []):=by
 refine gS (nt:=37) (rs:=[.tmp 4]) hm Tryz.func59 fun hl he cI=>?_
 refine aO hm (fun(i:Nat)=> i≤ab.length∧ab.all (fun l=>fa s l.atom)=(ab.drop i).all (fun l=>fa s l.atom)) (fun(i:Nat)=> ⟨dB 37 .any [(1,lv (a6 ab)),(2,.ptr 0 0),(5,iv i)],[some (.box (cF (dZ s)))]⟩) (fun(i:Nat)=> ab.length-i) (0) ?_ (aw [some 0] ?_ ?_ rfl rfl) ?_
 rotate_left
 ·exact sC
 ·exact sC
 rotate_left
 ·simp
 ·rintro i ⟨hi,hg⟩
  rcases aa (i<ab.length) with h1|h1
  ·rw[aj h1,b8] at hg
   simp -implicitDefEqProofs only[go_sem,h1]
   refine aC [] (yO s ab[i].atom) ?_
   refine iK ?_
   cases h2:fa s ab[i].atom
   ·rw[h2,aS] at hg
    refine sA ?_
    refine an ?_
    refine sA ?_
    all_goals(simp[hg];done)
   ·rw[h2,aM] at hg
    refine sA ?_
    refine sQ ?_
    refine⟨i+1,?_,sL,aw [some 0] ?_ ?_ rfl rfl⟩
    rotate_left
    ·exact sC
    ·exact sC
    exact⟨by omega,hg⟩
  ·rw[al (by omega),dX] at hg
   have hw:∀l∈ab,cJ l.atom=true:=by
    intro l hl
    have:=List.all_eq_true.1 hg l hl
    simp only[fa,Bool.and_eq_true] at this
    exact this.2.1
   have eP:=(iT hw).2
   have htt:∀t∈aA ab,isTerm t=true:=by rw[jD];exact qR eP
   simp -implicitDefEqProofs only[go_sem,h1]
   refine aC [] (wA ab hl1 hw) ?_
   refine aC [] (uY s) ?_
   cases h2:fH s
   ·refine sA ?_
    refine an ?_
    exact sC
   ·refine sA ?_
    rcases aa (((aA ab).length:Int)≤24) with h3|h3
    ·have h3':(aA ab).length≤24:=by omega
     have e:numsOf s ab=(aA ab).filter (dk s):=rfl
     simp -implicitDefEqProofs only[go_sem,h3]
     refine aC [] (yJ s (aA ab) h2 htt (by omega)) ?_
     refine an ?_
     refine sA ?_
     simp only[hg,h3',e,decide_true,aM]
     congr 2
     exact decide_eq_decide.2 (by omega)
    ·have h3':¬ (aA ab).length≤24:=by omega
     simp -implicitDefEqProofs only[go_sem,h3]
     refine an ?_
     refine sA ?_
     all_goals(simp[h3'];done)
theorem yp(s:dE)(ab:List bp):C E.P 19 [av (dZ s),lv (a6 ab)] [] (bM (bv (eZ s ab)) []):=by
 refine gS (nt:=13) (rs:=[.tmp 4]) hm Tryz.func19 fun hl he cI=>?_
 rcases aa ((ab.length:Int)≤6) with h|h
 ·have h':ab.length≤6:=by omega
  simp -implicitDefEqProofs only[go_sem,h]
  refine aC [] (EX s ab (by omega)) ?_
  refine an ?_
  refine sA ?_
  simp only[eZ,h',decide_true,Bool.and_true,Bool.and_assoc]
 ·have h':¬ab.length≤6:=by omega
  simp -implicitDefEqProofs only[go_sem,h]
  refine an ?_
  refine sA ?_
  all_goals(simp[eZ,h'];done)
end Go.Proofs.YtabembjmeobhoaaGreat
