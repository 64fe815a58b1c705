/-
  The reference: what is asked of literals, one question after the other. A step towards the laws.
-/
import Derived.Test.YtabembjmeobhoaaGreatKDzb
import Derived.Test.YtabembjmeobhoaaGreatKDf
import Derived.Test.YtabembjmeobhoaaGreatKDe
import Derived.Test.YtabembjmeobhoaaGreatKDEl
set_option linter.unusedVariables false
set_option linter.unusedSimpArgs false
open And renaming intro→au
open Bool renaming true_and→aB,false_and→aK,not_false→jK,not_true→l7,false_or→nH
open Classical renaming em→aa
open List renaming drop_eq_getElem_cons→ae,drop_of_length_le→ai,getElem_mem→ak,take_of_length_le→ao,range→bx,find?_cons→dG,mem_of_mem_take→eZ,mem_range→ff,drop→fx,mem_of_mem_drop→fF,foldl_cons→gp,find?_nil→jN,take→nf
open Nat renaming le_refl→aJ,zero_le→bc
namespace Go.Proofs.YtabembjmeobhoaaGreat
open Go.Eng Go.Mod
open Int renaming reduceEq→Z1,reduceLT→Z2,reduceLE→Z3,reduceToNat→Z4
set_option maxRecDepth 100000
set_option maxHeartbeats 3200000
theorem YW(aq nums:List Term)(eqs:List fO)(c:List Nat)(a b:Term)(ha:a∈aq)(hb:b∈aq)(hc:c.length=aq.length):C E.P 128 [av (re aq nums eqs c),av (cT a),av (cT b)] [] (bz (bv (gg aq c a b)) []):=by
 have pA:=bA ha
 have pB:=bA hb
 have cA:=cd ha
 have cB:=cd hb
 have pA':aG aq a<c.length:=by omega
 have pB':aG aq b<c.length:=by omega
 have eA:c[aG aq a]=cl c (aG aq a):=(gX pA').symm
 have eB:c[aG aq b]=cl c (aG aq b):=(gX pB').symm
 refine gS (nt:=24) (rs:=[.tmp 6]) hm Tryz.func128 fun hl he cq=>?_
 refine bw [] (cP aq a) ?_ ?_<;>simp -implicitDefEqProofs only[go_sem,cA,pA',eA]
 refine bw [] (cP aq b) ?_ ?_<;>simp -implicitDefEqProofs only[go_sem,cB,pB',eB]
 refine iK ?_
 refine an ?_
 refine sA ?_
 ((repeat' apply au)<;>rfl)
theorem Hr(aq nums:List Term)(eqs:List fO)(c:List Nat)(ab:List bm)(hc:c.length=aq.length)(kG:∀l∈ab,l.atom.kind=1→l.atom.A∈aq∧l.atom.B∈aq):C E.P 62 [av (re aq nums eqs c),lv (aV ab)] [] (bz (iv (atI (jQ (iA aq c) ab))) []):=by
 refine gS (nt:=37) (rs:=[.tmp 4]) hm Tryz.func62 fun hl he cq=>?_
 refine aL hm (fun(i:Nat)=> i≤ab.length∧jQ (iA aq c) ab=vL (iA aq c) ab i) (fun(i:Nat)=> ⟨dx 37 .any [(1,lv (aV ab)),(2,.ptr 0 0),(5,iv i)],[some (.box (cE (re aq nums eqs c)))]⟩) (fun(i:Nat)=> ab.length-i) (0) ?_ (ar [some 0] ?_ ?_ rfl rfl) ?_
 rotate_left
 ·exact sC
 ·exact sC
 rotate_left
 ·exact⟨bc _,Fp _ _⟩
 ·rintro i ⟨hi,hg⟩
  rcases aa (i<ab.length) with h1|h1
  ·rw[Dz h1] at hg
   have hl:=kG _ (ak h1)
   have ec:iA aq c ab[i]=(ab[i].no&&(decide (ab[i].atom.kind=1)&&gg aq c ab[i].atom.A ab[i].atom.B)):=rfl
   cases h2:ab[i].no
   ·rw[ec,h2,aK,if_neg (by simp)] at hg
    refine uJ ?_
    refine sQ ?_
    refine⟨i+1,?_,sL,ar [some 0] ?_ ?_ rfl rfl⟩
    rotate_left
    ·exact sC
    ·exact sC
    exact⟨by omega,hg⟩
   ·rcases aa (ab[i].atom.kind=1) with h3|h3
    ·have k3:=eq_true h3
     have hab:=hl h3
     have hco:=YW aq nums eqs c ab[i].atom.A ab[i].atom.B hab.1 hab.2 hc
     rw[ec,h2,decide_eq_true h3,aB,aB] at hg
     simp -implicitDefEqProofs only[go_sem,h1,h2,k3]
     refine aC [] hco ?_
     cases h4:gg aq c ab[i].atom.A ab[i].atom.B
     ·rw[h4,if_neg (by simp)] at hg
      refine sA ?_
      refine sQ ?_
      refine⟨i+1,?_,sL,ar [some 0] ?_ ?_ rfl rfl⟩
      rotate_left
      ·exact sC
      ·exact sC
      exact⟨by omega,hg⟩
     ·rw[h4,if_pos rfl] at hg
      refine sA ?_
      refine an ?_
      refine sA ?_
      rw[hg]
      ((repeat' apply au)<;>rfl)
    ·rw[ec,h2,decide_eq_false h3,aB,aK,if_neg (by simp)] at hg
     simp -implicitDefEqProofs only[go_sem,h1,h2,h3]
     refine sQ ?_
     refine⟨i+1,?_,sL,ar [some 0] ?_ ?_ rfl rfl⟩
     rotate_left
     ·exact sC
     ·exact sC
     exact⟨by omega,hg⟩
  ·rw[HL (by omega)] at hg
   refine uA ?_
   refine an ?_
   refine sA ?_
   rw[hg]
   ((repeat' apply au)<;>rfl)
theorem wB(nums:List Term)(ab:List bm)(i k:Nat)(hi:i<nums.length)(hk:k<nums.length)(h4:nums.length≤4)(o5:ab.length≤100)(he9:∀e∈aZ ab,(e.A∈nums↔e.B∈nums)):C E.P 140 [lv (aN nums),lv (aV ab),iv i,iv k] [] (bz (bv (Mod.linked nums ab i k)) []):=by
 have hlk:=PK he9 hi hk
 have hel:(aZ ab).length≤100:=Nat.le_trans (List.length_filterMap_le _ _) o5
 refine gS (nt:=61) (rs:=[.tmp 8]) hm Tryz.func140 fun hl he cq=>?_
 refine aL hm (fun(j:Nat)=> j≤nums.length) (fun(j:Nat)=> ⟨dx 61 .any [(0,lv (aN nums)),(1,lv (aV ab)),(2,iv i),(3,iv k),(9,.acc 0),(10,iv j)],[some (.acc 3 (bQ (bx j)))]⟩) (fun(j:Nat)=> nums.length-j) (0) ?_ (ar [some 0] ?_ ?_ rfl rfl) ?_
 rotate_left
 ·exact sC
 ·refine sA ?_
  all_goals(rfl)
 rotate_left
 ·omega
 ·rintro j hj
  have hrl:(bx j).length=j:=List.length_range
  rcases aa (j<nums.length) with h1|h1
  ·refine uA ?_
   refine sQ ?_
   refine⟨j+1,?_,sL,ar [some 1] ?_ ?_ rfl rfl⟩
   rotate_left
   ·exact sC
   ·refine sA ?_
    all_goals((rw[←lZ];rfl))
   exact h1
  ·obtain rfl:j=nums.length:=by omega
   refine uA ?_
   refine aC [] (AR ab o5) ?_
   clear hj h1
   refine cM hm (fun(n:Nat) (c:List Nat)=> n≤(aZ ab).length∧c.length=nums.length∧(∀x∈c,x≤1000)∧Q0 nums (aZ ab)=((aZ ab).drop n).foldl (j5 nums) c) (fun(n:Nat) (c:List Nat)=> ⟨dx 61 .any [(0,lv (aN nums)),(2,iv i),(3,iv k),(9,.acc 0),(11,lv (cO (aZ ab))),(12,iv n)],[some (.acc 3 (bQ c))]⟩) (fun(n:Nat) (c:List Nat)=> (aZ ab).length-n) (0) (bx nums.length) ?_ (ar [some 0] ?_ ?_ rfl rfl) ?_
   rotate_left
   ·exact sC
   ·exact sC
   rotate_left
   ·exact⟨bc _,hrl,fun x hx=>by have:=ff.1 hx;omega,rfl⟩
   ·rintro n c ⟨hn,hc,hm9,hg⟩
    rcases aa (n<(aZ ab).length) with h1|h1
    ·have hab:=he9 _ (ak h1)
     rw[ae h1,gp] at hg
     rcases aa ((aZ ab)[n].A∈nums) with h2|h2
     ·have h3:=hab.1 h2
      have pA:=bA h2
      have pB:=bA h3
      have cA:=cd h2
      have cB:=cd h3
      have es:j5 nums c (aZ ab)[n]=gj c (aG nums (aZ ab)[n].A) (aG nums (aZ ab)[n].B):=by rw[j5,if_neg (by omega)]
      have hj1:=fK c (aG nums (aZ ab)[n].A) (aG nums (aZ ab)[n].B)
      have hj2:=wV (a:=aG nums (aZ ab)[n].A) (b:=aG nums (aZ ab)[n].B) hm9
      have cj:=tW c (aG nums (aZ ab)[n].A) (aG nums (aZ ab)[n].B) (by omega) (by omega) (by omega) hm9
      rw[es] at hg
      have nn:(0:Int)≤(aG nums (aZ ab)[n].A:Int):=by omega
      refine uA ?_
      refine bw [] (cP nums (aZ ab)[n].A) ?_ ?_<;>simp -implicitDefEqProofs only[go_sem,cA,nn,h1]
      refine bw [] (cP nums (aZ ab)[n].B) ?_ ?_<;>simp -implicitDefEqProofs only[go_sem,cB]
      refine oC [] [0] cj ?_
      refine sQ ?_
      refine⟨n+1,gj c (aG nums (aZ ab)[n].A) (aG nums (aZ ab)[n].B),?_,sL,ar [some 0] ?_ ?_ rfl rfl⟩
      rotate_left
      ·exact sC
      ·exact sC
      exact⟨by omega,by omega,hj2,hg⟩
     ·have h3:¬ (0:Int)≤bK nums (aZ ab)[n].A:=fun h=>h2 (cV.1 h)
      have es:j5 nums c (aZ ab)[n]=c:=by rw[j5,if_pos (by omega)]
      rw[es] at hg
      refine uA ?_
      refine bw [] (cP nums (aZ ab)[n].A) ?_ ?_<;>simp -implicitDefEqProofs only[go_sem,h3]
      refine sQ ?_
      refine⟨n+1,c,?_,sL,ar [some 0] ?_ ?_ rfl rfl⟩
      rotate_left
      ·exact sC
      ·exact sC
      exact⟨by omega,hc,hm9,hg⟩
    ·rw[ai (by omega),List.foldl_nil] at hg
     have pi:i<c.length:=by omega
     have pk:k<c.length:=by omega
     have ei:c[i]=cl c i:=(gX pi).symm
     have ek:c[k]=cl c k:=(gX pk).symm
     rw[hg] at hlk
     simp -implicitDefEqProofs only[go_sem,h1,pi,pk,ei,ek]
     refine iK ?_
     refine an ?_
     refine sA ?_
     rw[←hlk]
theorem zF(ab:List bm)(l:bm):C E.P 141 [lv (aV ab),av (nW l)] [] (bz (bv (told ab l)) []):=by
 refine gS (nt:=30) (rs:=[.tmp 4]) hm Tryz.func141 fun hl he cq=>?_
 refine aL hm (fun(i:Nat)=> i≤ab.length∧told ab l=Jh ab l i) (fun(i:Nat)=> ⟨dx 30 .any [(0,lv (aV ab)),(3,.ptr 0 0),(5,iv i)],[some (.box (cE (nW l)))]⟩) (fun(i:Nat)=> ab.length-i) (0) ?_ (ar [some 0] ?_ ?_ rfl rfl) ?_
 rotate_left
 ·exact sC
 ·exact sC
 rotate_left
 ·exact⟨bc _,rfl⟩
 ·rintro i ⟨hi,hg⟩
  rcases aa (i<ab.length) with h1|h1
  ·rw[QV h1] at hg
   have hco:=EK ab[i].atom l.atom
   rcases aa (ab[i].no=l.no) with h2|h2
   ·have k2:(ab[i].no == l.no)=true:=by rw[h2];simp
    rw[k2,aB] at hg
    refine uJ ?_
    refine aC [] hco ?_
    refine iK ?_
    rcases aa (ab[i].atom=l.atom) with h3|h3
    ·rw[decide_eq_true h3,Bool.true_or] at hg
     have k3:=decide_eq_true h3
     simp -implicitDefEqProofs only[go_sem,k3]
     refine an ?_
     refine sA ?_
     all_goals(simp[hg];done)
    ·rw[decide_eq_false h3,nH] at hg
     have k3:=decide_eq_false h3
     simp -implicitDefEqProofs only[go_sem,k3]
     refine sQ ?_
     refine⟨i+1,?_,sL,ar [some 0] ?_ ?_ rfl rfl⟩
     rotate_left
     ·exact sC
     ·exact sC
     exact⟨by omega,hg⟩
   ·have k2:(ab[i].no == l.no)=false:=by simpa using h2
    rw[k2,aK,nH] at hg
    simp -implicitDefEqProofs only[go_sem,h1,k2]
    refine iK ?_
    refine sQ ?_
    refine⟨i+1,?_,sL,ar [some 0] ?_ ?_ rfl rfl⟩
    rotate_left
    ·exact sC
    ·exact sC
    exact⟨by omega,hg⟩
  ·rw[TC (by omega)] at hg
   refine uA ?_
   refine an ?_
   refine sA ?_
   all_goals(simp[hg];done)
theorem Ae{aq nums:List Term}{c:List Nat}{ab:List bm}{i k:Nat}:dU true aq nums c ab i k=(!Mod.linked nums ab i k&&gg aq c (nums.getD i aM) (nums.getD k aM)):=rfl
theorem DT{aq nums:List Term}{c:List Nat}{ab:List bm}{i k:Nat}:dU false aq nums c ab i k=(!Mod.linked nums ab i k&&(!eS nums ab i k&& !eS nums ab k i)):=rfl
theorem zP(aq nums:List Term)(eqs:List fO)(c:List Nat)(ab:List bm)(hc:c.length=aq.length)(h4:nums.length≤4)(o5:ab.length≤100)(hnd:nums.Nodup)(hnt:∀t∈nums,isTerm t=true)(nq:∀t∈nums,t∈aq)(he9:∀e∈aZ ab,(e.A∈nums↔e.B∈nums)) :
 C E.P 66 [av (re aq nums eqs c),lv (aV ab),bv true] [] (bz (.gV [iv (((bW nums.length (dU true aq nums c ab)).getD (0,0)).1:Nat),iv (((bW nums.length (dU true aq nums c ab)).getD (0,0)).2:Nat),bv (bW nums.length (dU true aq nums c ab)).isSome]) []):=by
 obtain⟨fp,hfp⟩:∃f,bW nums.length (dU true aq nums c ab)=f:=⟨_,rfl⟩
 rw[hfp]
 refine gT (nt:=74) (rs:=[.tmp 6,.tmp 7,.tmp 8]) hm Tryz.func66 fun hl he cq=>?_
 refine aL hm (fun(i:Nat)=> i≤nums.length∧fp=(dJ i nums.length).find? (fun q=>dU true aq nums c ab q.1 q.2)) (fun(i:Nat)=> ⟨dx 74 .any [(1,lv (aV ab)),(2,bv true),(3,.ptr 0 0),(9,iv i)],[some (.box (cE (re aq nums eqs c)))]⟩) (fun(i:Nat)=> nums.length-i) (0) ?_ (ar [some 0] ?_ ?_ rfl rfl) ?_
 rotate_left
 ·refine sB ?_
  all_goals(try exact sM)
 ·refine sB ?_
  all_goals(try exact sM)
 rotate_left
 ·exact⟨bc _,hfp.symm⟩
 ·rintro i ⟨hi,hg⟩
  rcases aa (i<nums.length) with h1|h1
  ·rw[nN h1] at hg
   try simp -implicitDefEqProofs only[go_sem,Z1,Z2,Z3,Z4,h1]
   refine sJ ?_
   refine aL hm (fun(k:Nat)=> i<k∧k≤nums.length∧fp=(lW i k nums.length).find? (fun q=>dU true aq nums c ab q.1 q.2)) (fun(k:Nat)=> ⟨dx 74 .any [(1,lv (aV ab)),(2,bv true),(3,.ptr 0 0),(9,iv i),(10,iv k)],[some (.box (cE (re aq nums eqs c)))]⟩) (fun(k:Nat)=> nums.length-k) (i+1) ?_ (ar [some 0] ?_ ?_ rfl rfl) ?_
   rotate_left
   ·refine sB ?_
    all_goals(try exact sM)
   ·refine sB ?_
    all_goals(try exact sM)
   rotate_left
   ·exact⟨by omega,by omega,hg⟩
   ·rintro k ⟨hik,hk,hg⟩
    rcases aa (k<nums.length) with h2|h2
    ·have hco:=wB nums ab i k h1 h2 h4 o5 he9
     have ga:nums.getD i aM=nums[i]:=e7 h1
     have gb:nums.getD k aM=nums[k]:=e7 h2
     have jJ:nums[i]≠nums[k]:=fun e=>by
      have a1:=jG hnd h1
      have a2:=jG hnd h2
      rw[e] at a1
      omega
     have ta:=hnt _ (ak h1)
     have tb:=hnt _ (ak h2)
     have ma:=nq _ (ak h1)
     have mb:=nq _ (ak h2)
     rw[oS h2,dG] at hg
     try simp -implicitDefEqProofs only[go_sem,Z1,Z2,Z3,Z4,h2,h1]
     refine sI ?_
     refine aD [] hco ?_
     refine sI ?_
     cases h3:Mod.linked nums ab i k
     ·have hone:=YW aq nums eqs c nums[i] nums[k] ma mb hc
      have eo:dU true aq nums c ab i k=gg aq c nums[i] nums[k]:=by rw[Ae,h3,ga,gb];rfl
      simp only[eo] at hg
      try simp -implicitDefEqProofs only[go_sem,Z1,Z2,Z3,Z4]
      refine sI ?_
      refine aD [] hone ?_
      refine sI ?_
      cases h5:gg aq c nums[i] nums[k]
      ·rw[h5] at hg
       try simp -implicitDefEqProofs only[go_sem,Z1,Z2,Z3,Z4]
       refine sJ ?_
       refine⟨k+1,?_,sL,ar [some 0] ?_ ?_ rfl rfl⟩
       rotate_left
       ·refine sB ?_
        all_goals(try exact sM)
       ·refine sB ?_
        all_goals(try exact sM)
       exact⟨by omega,by omega,hg⟩
      ·rw[h5] at hg
       simp only at hg
       try simp -implicitDefEqProofs only[go_sem,Z1,Z2,Z3,Z4]
       refine sI ?_
       refine an ?_
       refine sB ?_
       rw[hg]
       ((repeat' apply au)<;>rfl)
     ·have eo:dU true aq nums c ab i k=false:=by rw[Ae,h3];rfl
      simp only[eo] at hg
      try simp -implicitDefEqProofs only[go_sem,Z1,Z2,Z3,Z4]
      refine sJ ?_
      refine⟨k+1,?_,sL,ar [some 0] ?_ ?_ rfl rfl⟩
      rotate_left
      ·refine sB ?_
       all_goals(try exact sM)
      ·refine sB ?_
       all_goals(try exact sM)
      exact⟨by omega,by omega,hg⟩
    ·rw[qc (by omega)] at hg
     try simp -implicitDefEqProofs only[go_sem,Z1,Z2,Z3,Z4,h2]
     refine sJ ?_
     refine⟨i+1,?_,sL,ar [some 0] ?_ ?_ rfl rfl⟩
     rotate_left
     ·refine sB ?_
      all_goals(try exact sM)
     ·refine sB ?_
      all_goals(try exact sM)
     exact⟨by omega,hg⟩
  ·rw[oW (by omega),jN] at hg
   try simp -implicitDefEqProofs only[go_sem,Z1,Z2,Z3,Z4,h1]
   refine sI ?_
   refine an ?_
   refine sB ?_
   rw[hg]
   ((repeat' apply au)<;>rfl)
theorem yP(aq nums:List Term)(eqs:List fO)(c:List Nat)(ab:List bm)(hc:c.length=aq.length)(h4:nums.length≤4)(o5:ab.length≤100)(hnd:nums.Nodup)(hnt:∀t∈nums,isTerm t=true)(nq:∀t∈nums,t∈aq)(he9:∀e∈aZ ab,(e.A∈nums↔e.B∈nums)) :
 C E.P 66 [av (re aq nums eqs c),lv (aV ab),bv false] [] (bz (.gV [iv (((bW nums.length (dU false aq nums c ab)).getD (0,0)).1:Nat),iv (((bW nums.length (dU false aq nums c ab)).getD (0,0)).2:Nat),bv (bW nums.length (dU false aq nums c ab)).isSome]) []):=by
 obtain⟨fp,hfp⟩:∃f,bW nums.length (dU false aq nums c ab)=f:=⟨_,rfl⟩
 rw[hfp]
 refine gT (nt:=74) (rs:=[.tmp 6,.tmp 7,.tmp 8]) hm Tryz.func66 fun hl he cq=>?_
 refine aL hm (fun(i:Nat)=> i≤nums.length∧fp=(dJ i nums.length).find? (fun q=>dU false aq nums c ab q.1 q.2)) (fun(i:Nat)=> ⟨dx 74 .any [(1,lv (aV ab)),(2,bv false),(3,.ptr 0 0),(9,iv i)],[some (.box (cE (re aq nums eqs c)))]⟩) (fun(i:Nat)=> nums.length-i) (0) ?_ (ar [some 0] ?_ ?_ rfl rfl) ?_
 rotate_left
 ·refine sB ?_
  all_goals(try exact sM)
 ·refine sB ?_
  all_goals(try exact sM)
 rotate_left
 ·exact⟨bc _,hfp.symm⟩
 ·rintro i ⟨hi,hg⟩
  rcases aa (i<nums.length) with h1|h1
  ·rw[nN h1] at hg
   try simp -implicitDefEqProofs only[go_sem,Z1,Z2,Z3,Z4,h1]
   refine sJ ?_
   refine aL hm (fun(k:Nat)=> i<k∧k≤nums.length∧fp=(lW i k nums.length).find? (fun q=>dU false aq nums c ab q.1 q.2)) (fun(k:Nat)=> ⟨dx 74 .any [(1,lv (aV ab)),(2,bv false),(3,.ptr 0 0),(9,iv i),(10,iv k)],[some (.box (cE (re aq nums eqs c)))]⟩) (fun(k:Nat)=> nums.length-k) (i+1) ?_ (ar [some 0] ?_ ?_ rfl rfl) ?_
   rotate_left
   ·refine sB ?_
    all_goals(try exact sM)
   ·refine sB ?_
    all_goals(try exact sM)
   rotate_left
   ·exact⟨by omega,by omega,hg⟩
   ·rintro k ⟨hik,hk,hg⟩
    rcases aa (k<nums.length) with h2|h2
    ·have hco:=wB nums ab i k h1 h2 h4 o5 he9
     have ga:nums.getD i aM=nums[i]:=e7 h1
     have gb:nums.getD k aM=nums[k]:=e7 h2
     have jJ:nums[i]≠nums[k]:=fun e=>by
      have a1:=jG hnd h1
      have a2:=jG hnd h2
      rw[e] at a1
      omega
     have ta:=hnt _ (ak h1)
     have tb:=hnt _ (ak h2)
     have ma:=nq _ (ak h1)
     have mb:=nq _ (ak h2)
     rw[oS h2,dG] at hg
     try simp -implicitDefEqProofs only[go_sem,Z1,Z2,Z3,Z4,h2,h1]
     refine sI ?_
     refine aD [] hco ?_
     refine sI ?_
     cases h3:Mod.linked nums ab i k
     ·have hl1:=qe nums[i] nums[k] ta tb jJ
      have hl2:=qe nums[k] nums[i] tb ta (Ne.symm jJ)
      have ht1:=zF ab (eE nums[i] nums[k])
      have ht2:=zF ab (eE nums[k] nums[i])
      have e1:told ab (eE nums[i] nums[k])=eS nums ab i k:=by rw[←ga,←gb];exact Dk
      have e2:told ab (eE nums[k] nums[i])=eS nums ab k i:=by rw[←ga,←gb];exact Dk
      rw[e1] at ht1
      rw[e2] at ht2
      have eo:dU false aq nums c ab i k=(!eS nums ab i k&& !eS nums ab k i):=by rw[DT,h3];rfl
      simp only[eo] at hg
      try simp -implicitDefEqProofs only[go_sem,Z1,Z2,Z3,Z4]
      refine sI ?_
      refine aD [] hl1 ?_
      refine sI ?_
      refine aD [] ht1 ?_
      refine sI ?_
      cases h5:eS nums ab i k
      ·rw[h5] at hg
       try simp -implicitDefEqProofs only[go_sem,Z1,Z2,Z3,Z4]
       refine sI ?_
       refine aD [] hl2 ?_
       refine sI ?_
       refine aD [] ht2 ?_
       refine sI ?_
       cases h6:eS nums ab k i
       ·rw[h6] at hg
        simp only[jK,Bool.and_self] at hg
        try simp -implicitDefEqProofs only[go_sem,Z1,Z2,Z3,Z4]
        refine sI ?_
        refine an ?_
        refine sB ?_
        rw[hg]
        ((repeat' apply au)<;>rfl)
       ·rw[h6] at hg
        simp only[jK,l7,Bool.and_false] at hg
        try simp -implicitDefEqProofs only[go_sem,Z1,Z2,Z3,Z4]
        refine sJ ?_
        refine⟨k+1,?_,sL,ar [some 0] ?_ ?_ rfl rfl⟩
        rotate_left
        ·refine sB ?_
         all_goals(try exact sM)
        ·refine sB ?_
         all_goals(try exact sM)
        exact⟨by omega,by omega,hg⟩
      ·rw[h5] at hg
       simp only[l7,aK] at hg
       try simp -implicitDefEqProofs only[go_sem,Z1,Z2,Z3,Z4]
       refine sJ ?_
       refine⟨k+1,?_,sL,ar [some 0] ?_ ?_ rfl rfl⟩
       rotate_left
       ·refine sB ?_
        all_goals(try exact sM)
       ·refine sB ?_
        all_goals(try exact sM)
       exact⟨by omega,by omega,hg⟩
     ·have eo:dU false aq nums c ab i k=false:=by rw[DT,h3];rfl
      simp only[eo] at hg
      try simp -implicitDefEqProofs only[go_sem,Z1,Z2,Z3,Z4]
      refine sJ ?_
      refine⟨k+1,?_,sL,ar [some 0] ?_ ?_ rfl rfl⟩
      rotate_left
      ·refine sB ?_
       all_goals(try exact sM)
      ·refine sB ?_
       all_goals(try exact sM)
      exact⟨by omega,by omega,hg⟩
    ·rw[qc (by omega)] at hg
     try simp -implicitDefEqProofs only[go_sem,Z1,Z2,Z3,Z4,h2]
     refine sJ ?_
     refine⟨i+1,?_,sL,ar [some 0] ?_ ?_ rfl rfl⟩
     rotate_left
     ·refine sB ?_
      all_goals(try exact sM)
     ·refine sB ?_
      all_goals(try exact sM)
     exact⟨by omega,hg⟩
  ·rw[oW (by omega),jN] at hg
   try simp -implicitDefEqProofs only[go_sem,Z1,Z2,Z3,Z4,h1]
   refine sI ?_
   refine an ?_
   refine sB ?_
   rw[hg]
   ((repeat' apply au)<;>rfl)
theorem wv(aq nums:List Term)(eqs:List fO)(c:List Nat)(a b:Term)(hk:gR aq)(kG:∀e∈eqs,e.A∈aq∧e.B∈aq)(o5:aq.length≤1000)(hk9:∀t∈aq,t.kids.length≤1000)(he9:eqs.length≤1000)(ha:a∈aq)(hb:b∈aq)(hab:gg aq (closed aq eqs).1 a b=true) :
 C E.P 63 [av (re aq nums eqs c),av (cT a),av (cT b)] [] (bz (av (gQ (l6 aq (closed aq eqs).2 a b))) []):=by
 have hkept:=mO (af:=aq) (eqs:=eqs) kG
 have hsl:(closed aq eqs).2.length≤2000000:=by
  have h1:=u9 hkept (closed aq eqs).2.length (aJ _)
  have h2:(bx aq.length).sum≤(bx aq.length).length*1000:=pq fun x hx=>by have:=ff.1 hx;omega
  have h3:(bx aq.length).length*1000≤1000*1000:=Nat.mul_le_mul_right _ (by simpa using o5)
  omega
 have hcl:cl (aR aq.length (closed aq eqs).2 (closed aq eqs).2.length) (aG aq a)=cl (aR aq.length (closed aq eqs).2 (closed aq eqs).2.length) (aG aq b):=by
  rw[←hkept.2]
  simpa[gg] using hab
 have cA:=cd ha
 have cB:=cd hb
 have hw:=K6 aq eqs (closed aq eqs).2 hkept.1 hk o5 hk9 hsl ((closed aq eqs).2.length+1) (closed aq eqs).2.length (aG aq a) (aG aq b) (by omega) (aJ _) (bA ha) (bA hb) hcl
 refine gT (nt:=31) (rs:=[.cell 6 37]) hm Tryz.func63 fun hl he cq=>?_
 try simp -implicitDefEqProofs only[go_sem,Z1,Z2,Z3,Z4]
 refine sI ?_
 refine aD [] (BI aq eqs hk kG o5 hk9 he9) ?_
 refine sI ?_
 try simp -implicitDefEqProofs only[go_sem,Z1,Z2,Z3,Z4]
 refine sI ?_
 refine bw [] (cP aq a) ?_ ?_<;>simp -implicitDefEqProofs only[go_sem,Z1,Z2,Z3,Z4,cA]
 refine sI ?_
 try simp -implicitDefEqProofs only[go_sem,Z1,Z2,Z3,Z4,cA]
 refine sI ?_
 refine bw [] (cP aq b) ?_ ?_<;>simp -implicitDefEqProofs only[go_sem,Z1,Z2,Z3,Z4,cB]
 refine sI ?_
 try simp -implicitDefEqProofs only[go_sem,Z1,Z2,Z3,Z4,cB]
 refine sI ?_
 refine aD [] hw ?_
 refine sI ?_
 refine an ?_
 refine sB ?_
 ((repeat' apply au)<;>rfl)
theorem Sg{ts:List Term}{t:Term}(h:t∈ts):ts[aG ts t]'(bA h)=t:=(List.getElem?_eq_some_iff.1 (jt h)).2
theorem Bb(aq nums:List Term)(eqs:List fO)(c:List Nat)(aH:List Mod.Rat)(t:Term)(ht:t∈aq)(hc:c.length=aq.length)(h4v:aH.length=4)(h4:nums.length≤4):C E.P 143 [av (re aq nums eqs c),lv (bp aH),iv (aG aq t)] [] (bz (av (eU (iJ aq nums c aH t))) []):=by
 have hi:=bA ht
 have ht2:=Sg ht
 refine gS (nt:=28) (rs:=[.cell 6 71]) hm Tryz.func143 fun hl he cq=>?_
 simp -implicitDefEqProofs only[go_sem,hi,ht2]
 refine aC [] (cP nums t) ?_
 refine iK ?_
 rcases aa (t∈nums) with hn|hn
 ·have pN:=bA hn
  have cN:=cd hn
  have pN':aG nums t<aH.length:=by omega
  have nn:(0:Int)≤(aG nums t:Int):=by omega
  have e:iJ aq nums c aH t=aH[aG nums t]:=by rw[iJ,if_neg (by omega),getD_at pN']
  simp -implicitDefEqProofs only[go_sem,cN,nn,pN']
  refine an ?_
  refine sA ?_
  rw[e]
  ((repeat' apply au)<;>rfl)
 ·have h3:¬ (0:Int)≤bK nums t:=fun h=>hn (cV.1 h)
  have pc:aG aq t<c.length:=by omega
  have ec:c[aG aq t]=cl c (aG aq t):=(gX pc).symm
  have e:iJ aq nums c aH t=whole (cl c (aG aq t)):=by rw[iJ,if_pos (by omega)]
  simp -implicitDefEqProofs only[go_sem,h3,pc,ec]
  refine an ?_
  refine sA ?_
  rw[e]
  ((repeat' apply au)<;>rfl)
theorem GQ(rows:List Mod.Row)(r:Mod.Row)(i:Nat):nf (i-0) (fx 0 (bM rows))++[om r]++nf (rows.length-i) (fx i (bM rows))=bM (rows.take i++r::rows.drop i):=by
 have h1:nf (rows.length-i) (fx i (bM rows))=bM (rows.drop i):=by
  rw[ao (by simp[bM])]
  simp[bM,List.map_drop]
 rw[h1]
 simp[bM,List.map_take]
theorem Mm(rows:List Mod.Row)(r:Mod.Row)(o5:rows.length≤1000):C E.P 144 [lv (bM rows),av (om r)] [] (bz (lv (bM (nM rows r))) []):=by
 refine gS (nt:=61) (rs:=[.tmp 4]) hm Tryz.func144 fun hl he cq=>?_
 refine aL hm (fun(i:Nat)=> i≤rows.length∧rG (fun x=>dv x r) rows i) (fun(i:Nat)=> ⟨dx 61 .any [(0,lv (bM rows)),(3,.ptr 0 0),(5,iv i)],[some (.box (cE (om r)))]⟩) (fun(i:Nat)=> rows.length-i) (0) ?_ (ar [some 0] ?_ ?_ rfl rfl) ?_
 rotate_left
 ·exact sC
 ·exact sC
 rotate_left
 ·exact⟨bc _,rG.zero _ _⟩
 ·rintro i ⟨hi,hg⟩
  have L1:(fx i (bM rows)).length=rows.length-i:=by simp[bM]
  have L0:(fx 0 (bM rows)).length=rows.length:=by simp[bM]
  have f1:i≤rows.length∧∀y∈bM rows,y.length=4:=⟨by omega,wY _⟩
  have f2:(∀y∈nf (rows.length-i) (fx i (bM rows)),y.length=4)∧min (rows.length-i) (fx i (bM rows)).length≤LB∧min (rows.length-i) (fx i (bM rows)).length*56≤140737488355328:=⟨fun y hy=>wY _ y (fF (eZ hy)),by omega,by omega⟩
  have f3:(∀y∈nf (i-0) (fx 0 (bM rows)),y.length=4)∧min (i-0) (fx 0 (bM rows)).length≤LB∧min (i-0) (fx 0 (bM rows)).length*56≤140737488355328:=⟨fun y hy=>wY _ y (fF (eZ hy)),by omega,by omega⟩
  have f4:min (i-0) (fx 0 (bM rows)).length+1≤LB∧(min (i-0) (fx 0 (bM rows)).length+1)*56≤140737488355328:=⟨by omega,by omega⟩
  rcases aa (i<rows.length) with h1|h1
  ·have hco:=zh rows[i] r
   have hd:=ae h1
   refine uA ?_
   refine aC [] hco ?_
   refine iK ?_
   cases h2:dv rows[i] r
   ·obtain⟨e1,e2⟩:=hg.stop h1 h2
    rcases aa (rows[i].name=r.name) with h3|h3
    ·have k3:=eq_true h3
     have hco2:=zr rows[i].args r.args
     simp -implicitDefEqProofs only[go_sem,h1,k3]
     refine aC [] hco2 ?_
     refine iK ?_
     rcases aa (rows[i].args=r.args) with h4|h4
     ·have e:nM rows r=rows:=by rw[nM,e2];exact if_pos ⟨h3,h4⟩
      have k4:=decide_eq_true h4
      simp -implicitDefEqProofs only[go_sem,k4]
      refine an ?_
      refine sA ?_
      rw[e]
     ·have e:nM rows r=rows.take i++r::rows.drop i:=by rw[nM,e2,e1,hd];exact if_neg fun h=>h4 h.2
      have k4:=decide_eq_false h4
      simp -implicitDefEqProofs only[go_sem,k4]
      refine sQ ?_
      refine an ?_
      refine sA ?_
      rw[e,←GQ]
      rfl
    ·have e:nM rows r=rows.take i++r::rows.drop i:=by rw[nM,e2,e1,hd];exact if_neg fun h=>h3 h.1
     simp -implicitDefEqProofs only[go_sem,h1,h3]
     refine iK ?_
     refine sQ ?_
     refine an ?_
     refine sA ?_
     rw[e,←GQ]
     rfl
   ·refine sA ?_
    refine sQ ?_
    refine⟨i+1,?_,sL,ar [some 0] ?_ ?_ rfl rfl⟩
    rotate_left
    ·exact sC
    ·exact sC
    exact⟨by omega,hg.step h1 h2⟩
  ·obtain⟨e1,e2⟩:=hg.done (by omega)
   have e:nM rows r=rows.take i++r::rows.drop i:=by rw[nM,e2,e1,ao (by omega),ai (by omega)]
   refine uA ?_
   refine iK ?_
   refine sQ ?_
   refine an ?_
   refine sA ?_
   rw[e,←GQ]
   rfl
theorem EA(s:dK)(m:Mod.Model)(ab:List bm):C E.P 71 [av (dV s),av (ez m),lv (aV ab)] [] (bz (bv (ie s m ab)) []):=by
 refine gS (nt:=35) (rs:=[.tmp 6]) hm Tryz.func71 fun hl he cq=>?_
 refine aL hm (fun(i:Nat)=> i≤ab.length∧ie s m ab=(fh s m&&(ab.drop i).all fun l=>decide (gO s m l=some true))) (fun(i:Nat)=> ⟨dx 35 .any [(2,lv (aV ab)),(3,.ptr 0 0),(4,.ptr 1 0),(7,iv i)],[some (.box (cE (dV s))),some (.box (cE (ez m)))]⟩) (fun(i:Nat)=> ab.length-i) (0) ?_ (ar [some 0,some 1] ?_ ?_ rfl rfl) ?_
 rotate_left
 ·exact sC
 ·exact sC
 rotate_left
 ·exact⟨bc _,rfl⟩
 ·rintro i ⟨hi,hg⟩
  rcases aa (i<ab.length) with h1|h1
  ·rw[ae h1,List.all_cons] at hg
   have hco:=EF s m ab[i]
   refine uA ?_
   refine aC [] hco ?_
   refine iK ?_
   cases h2:gO s m ab[i] with
   | none=>
     rw[h2] at hg
     refine uK ?_
     refine an ?_
     refine sA ?_
     all_goals(simp[hg];done)
   | some b=>
     rw[h2] at hg
     cases b
     ·refine uL ?_
      refine an ?_
      refine sA ?_
      all_goals(simp[hg];done)
     ·simp only[decide_true,aB] at hg
      refine uL ?_
      refine sQ ?_
      refine⟨i+1,?_,sL,ar [some 0,some 1] ?_ ?_ rfl rfl⟩
      rotate_left
      ·exact sC
      ·exact sC
      exact⟨by omega,hg⟩
  ·rw[ai (by omega),List.all_nil,Bool.and_true] at hg
   refine uA ?_
   refine aC [] (wM s m) ?_
   refine an ?_
   refine sA ?_
   rw[hg]
theorem FZ(aq nums:List Term)(eqs:List fO)(c:List Nat)(aH:List Mod.Rat)(hk:gR aq)(hnd:aq.Nodup)(hc:c.length=aq.length)(OL:∀x∈c,x≤1000)(h4v:aH.length=4)(hv9:∀x∈aH,bX x=true)(h4:nums.length≤4)(o5:aq.length≤1000)(hk9:∀t∈aq,t.kids.length≤1000) :
 C E.P 70 [av (re aq nums eqs c),lv (bp aH)] [] (bz (av (ez ⟨hJ aq nums c aH⟩)) []):=by
 refine gS (nt:=64) (rs:=[.cell 4 31]) hm Tryz.func70 fun hl he cq=>?_
 refine cM hm (fun(i:Nat) (rows:List Mod.Row)=> i≤aq.length∧rows.length≤i∧(∀x∈rows,dI x.args=true)∧hJ aq nums c aH=(aq.drop i).foldl (fun rows t=>putRow rows (iB aq nums c aH t)) rows) (fun(i:Nat) (rows:List Mod.Row)=> ⟨dx 64 .any [(1,lv (bp aH)),(2,.ptr 0 0),(4,.ptr 1 0),(5,lv (bM rows)),(6,iv i)],[some (.box (cE (re aq nums eqs c))),some (.box (cE (ez jo)))]⟩) (fun(i:Nat) (rows:List Mod.Row)=> aq.length-i) (0) ([]) ?_ (ar [some 0,some 1] ?_ ?_ rfl rfl) ?_
 rotate_left
 ·refine sA ?_
  all_goals(rfl)
 ·refine sA ?_
  all_goals(rfl)
 rotate_left
 ·exact⟨bc _,aJ _,fun x hx=>(by simp at hx),rfl⟩
 ·rintro i rows ⟨hi,hrl,hro,hg⟩
  rcases aa (i<aq.length) with h1|h1
  ·have mt:=ak h1
   have kt:=hk _ mt
   have kl:=hk9 _ mt
   have hp:aG aq aq[i]=i:=by
    have:=jG hnd h1
    unfold aG
    omega
   have hv:=Bb aq nums eqs c aH aq[i] mt hc h4v h4
   rw[hp] at hv
   rw[ae h1,gp] at hg
   obtain⟨t,ht⟩:∃t,aq[i]=t:=⟨_,rfl⟩
   rw[ht] at hv hg kt kl
   simp -implicitDefEqProofs only[go_sem,h1,ht]
   refine aC [] hv ?_
   refine iK ?_
   refine aL hm (fun(j:Nat)=> j≤t.kids.length) (fun(j:Nat)=> ⟨dx 64 .any [(1,lv (bp aH)),(2,.ptr 0 0),(4,.ptr 1 0),(5,lv (bM rows)),(6,iv i),(7,.ptr 2 0),(8,iv j)],[some (.box (cE (re aq nums eqs c))),some (.box (cE (ez jo))),some (.box [sv t.name,.acc 3,iv (iJ aq nums c aH t).N,iv (iJ aq nums c aH t).D]),some (.acc 71 (bp ((t.kids.take j).map (iJ aq nums c aH))))]⟩) (fun(j:Nat)=> t.kids.length-j) (0) ?_ (ar [some 0,some 1,some 2,none] ?_ ?_ rfl rfl) ?_
   rotate_left
   ·exact sC
   ·exact sC
   rotate_left
   ·omega
   ·rintro j hj
    rcases aa (j<t.kids.length) with h2|h2
    ·have mk:=kt _ (ak h2)
     have hvk:=Bb aq nums eqs c aH t.kids[j] mk hc h4v h4
     have ck:=cd mk
     have hs:(t.kids.take (j+1)).map (iJ aq nums c aH)=(t.kids.take j).map (iJ aq nums c aH)++[iJ aq nums c aH t.kids[j]]:=by
      rw[List.take_add_one,List.getElem?_eq_getElem h2,List.map_append];rfl
     have hsl:((t.kids.take j).map (iJ aq nums c aH)).length≤1000:=by simp;omega
     simp -implicitDefEqProofs only[go_sem,h1,ht,h2]
     refine bw [] (cP aq t.kids[j]) ?_ ?_<;>simp -implicitDefEqProofs only[go_sem,ck]
     refine aC [] hvk ?_
     refine sQ ?_
     refine⟨j+1,?_,sL,ar [some 0,some 1,some 2,some 4] ?_ ?_ rfl rfl⟩
     rotate_left
     ·exact sC
     ·refine sA ?_
      all_goals((rw[hs,←tf,wm,tD];rfl))
     exact h2
    ·have et:t.kids.take j=t.kids:=ao (by omega)
     have hput:=Mm rows (iB aq nums c aH t) (by omega)
     rw[et]
     simp -implicitDefEqProofs only[go_sem,h1,ht,h2]
     refine gw [] [3] (vt (e:=71) (args:=[lv (bM rows),.agg [sv t.name,.acc 0,iv (iJ aq nums c aH t).N,iv (iJ aq nums c aH t).D]]) (iH.cons (Vw.same rfl) (iH.cons (Vw.agg (iH.cons (Vw.same rfl) (iH.cons (Vw.acc rfl rfl) (iH.cons (Vw.same rfl) (iH.cons (Vw.same rfl) iH.nil))))) iH.nil)) rfl hput) ?_ ?_<;>simp -implicitDefEqProofs only[go_sem]
     ·rfl
     repeat(with_reducible apply au;case left=>omega)
     rw[Hp (rU OL hv9) hro] at hg
     have dy:=Hn rows (iB aq nums c aH t)
     have hmem:∀x∈putRow rows (iB aq nums c aH t),dI x.args=true:=fun x hx=>by
      rcases Gt hx with hx|hx
      ·exact hro x hx
      ·rw[hx];exact rU OL hv9
     rw[Hp (rU OL hv9) hro] at dy hmem
     refine⟨i+1,nM rows (iB aq nums c aH t),?_,sL,ar [some 0,some 1] ?_ ?_ rfl rfl⟩
     rotate_left
     ·exact sC
     ·exact sC
     exact⟨by omega,by omega,hmem,hg⟩
  ·rw[ai (by omega),List.foldl_nil] at hg
   refine uA ?_
   refine an ?_
   refine sA ?_
   rw[hg]
end Go.Proofs.YtabembjmeobhoaaGreat
