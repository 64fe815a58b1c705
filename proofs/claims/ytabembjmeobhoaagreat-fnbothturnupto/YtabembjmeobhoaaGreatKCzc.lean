/-
  The reference: what is asked of literals, one question after the other. A step towards the laws.
-/
import Derived.Test.YtabembjmeobhoaaGreatKCzb
import Derived.Test.YtabembjmeobhoaaGreatKCf
import Derived.Test.YtabembjmeobhoaaGreatKCe
import Derived.Test.YtabembjmeobhoaaGreatKCEl
set_option linter.unusedVariables false
set_option linter.unusedSimpArgs false
open And renaming intro→au
open Bool renaming true_and→aE,false_and→aK,not_false→jc,not_true→kK,false_or→mg
open Classical renaming em→aa
open List renaming drop_eq_getElem_cons→ah,getElem_mem→ak,drop_of_length_le→al,take_of_length_le→ao,range→bu,find?_cons→dM,mem_of_mem_take→fb,mem_range→fq,drop→fC,mem_of_mem_drop→fM,foldl_cons→gw,find?_nil→jV,take→nj
open Nat renaming le_refl→aJ,zero_le→bc
namespace Go.Proofs.YtabembjmeobhoaaGreat
open Go.Eng Go.Mod
open Int renaming reduceEq→Z1,reduceLT→Z2,reduceLE→Z3,reduceToNat→Z4
set_option maxRecDepth 100000
set_option maxHeartbeats 3200000
theorem ZB(aq nums:List Term)(eqs:List fF)(c:List Nat)(a b:Term)(ha:a∈aq)(hb:b∈aq)(hc:c.length=aq.length):C E.P 128 [av (rh aq nums eqs c),av (cT a),av (cT b)] [] (bD (bv (gh aq c a b)) []):=by
 have pA:=bz ha
 have pB:=bz hb
 have cA:=b9 ha
 have cB:=b9 hb
 have pA':aH aq a<c.length:=by omega
 have pB':aH aq b<c.length:=by omega
 have eA:c[aH aq a]=cl c (aH aq a):=(gQ pA').symm
 have eB:c[aH aq b]=cl c (aH aq b):=(gQ pB').symm
 refine gS (nt:=24) (rs:=[.tmp 6]) hm Tryz.func128 fun hl he cq=>?_
 refine bp [] (cV aq a) ?_ ?_<;>simp -implicitDefEqProofs only[go_sem,cA,pA',eA]
 refine bp [] (cV aq b) ?_ ?_<;>simp -implicitDefEqProofs only[go_sem,cB,pB',eB]
 refine iK ?_
 refine an ?_
 refine sA ?_
 ((repeat' apply au)<;>rfl)
theorem HM(aq nums:List Term)(eqs:List fF)(c:List Nat)(ab:List bl)(hc:c.length=aq.length)(kF:∀l∈ab,l.atom.kind=1→l.atom.A∈aq∧l.atom.B∈aq):C E.P 62 [av (rh aq nums eqs c),lv (aV ab)] [] (bD (iv (atI (kg (jh aq c) ab))) []):=by
 refine gS (nt:=37) (rs:=[.tmp 4]) hm Tryz.func62 fun hl he cq=>?_
 refine aM hm (fun(i:Nat)=> i≤ab.length∧kg (jh aq c) ab=wu (jh aq c) ab i) (fun(i:Nat)=> ⟨dH 37 .any [(1,lv (aV ab)),(2,.ptr 0 0),(5,iv i)],[some (.box (cF (rh aq nums eqs c)))]⟩) (fun(i:Nat)=> ab.length-i) (0) ?_ (ar [some 0] ?_ ?_ rfl rfl) ?_
 rotate_left
 ·exact sC
 ·exact sC
 rotate_left
 ·exact⟨bc _,GO _ _⟩
 ·rintro i ⟨hi,hg⟩
  rcases aa (i<ab.length) with h1|h1
  ·rw[DD h1] at hg
   have hl:=kF _ (ak h1)
   have ec:jh aq c ab[i]=(ab[i].no&&(decide (ab[i].atom.kind=1)&&gh aq c ab[i].atom.A ab[i].atom.B)):=rfl
   cases h2:ab[i].no
   ·rw[ec,h2,aK,if_neg (by simp)] at hg
    refine uJ ?_
    refine sQ ?_
    refine⟨i+1,?_,sL,ar [some 0] ?_ ?_ rfl rfl⟩
    rotate_left
    ·exact sC
    ·exact sC
    exact⟨by omega,hg⟩
   ·rcases aa (ab[i].atom.kind=1) with h3|h3
    ·have k3:=eq_true h3
     have hab:=hl h3
     have hco:=ZB aq nums eqs c ab[i].atom.A ab[i].atom.B hab.1 hab.2 hc
     rw[ec,h2,decide_eq_true h3,aE,aE] at hg
     simp -implicitDefEqProofs only[go_sem,h1,h2,k3]
     refine aC [] hco ?_
     cases h4:gh aq c ab[i].atom.A ab[i].atom.B
     ·rw[h4,if_neg (by simp)] at hg
      refine sA ?_
      refine sQ ?_
      refine⟨i+1,?_,sL,ar [some 0] ?_ ?_ rfl rfl⟩
      rotate_left
      ·exact sC
      ·exact sC
      exact⟨by omega,hg⟩
     ·rw[h4,if_pos rfl] at hg
      refine sA ?_
      refine an ?_
      refine sA ?_
      rw[hg]
      ((repeat' apply au)<;>rfl)
    ·rw[ec,h2,decide_eq_false h3,aE,aK,if_neg (by simp)] at hg
     simp -implicitDefEqProofs only[go_sem,h1,h2,h3]
     refine sQ ?_
     refine⟨i+1,?_,sL,ar [some 0] ?_ ?_ rfl rfl⟩
     rotate_left
     ·exact sC
     ·exact sC
     exact⟨by omega,hg⟩
  ·rw[GY (by omega)] at hg
   refine uA ?_
   refine an ?_
   refine sA ?_
   rw[hg]
   ((repeat' apply au)<;>rfl)
theorem wF(nums:List Term)(ab:List bl)(i k:Nat)(hi:i<nums.length)(hk:k<nums.length)(h4:nums.length≤4)(o6:ab.length≤100)(he9:∀e∈a7 ab,(e.A∈nums↔e.B∈nums)):C E.P 140 [lv (aN nums),lv (aV ab),iv i,iv k] [] (bD (bv (Mod.linked nums ab i k)) []):=by
 have hlk:=Rk he9 hi hk
 have hel:(a7 ab).length≤100:=Nat.le_trans (List.length_filterMap_le _ _) o6
 refine gS (nt:=61) (rs:=[.tmp 8]) hm Tryz.func140 fun hl he cq=>?_
 refine aM hm (fun(j:Nat)=> j≤nums.length) (fun(j:Nat)=> ⟨dH 61 .any [(0,lv (aN nums)),(1,lv (aV ab)),(2,iv i),(3,iv k),(9,.acc 0),(10,iv j)],[some (.acc 3 (bP (bu j)))]⟩) (fun(j:Nat)=> nums.length-j) (0) ?_ (ar [some 0] ?_ ?_ rfl rfl) ?_
 rotate_left
 ·exact sC
 ·refine sA ?_
  all_goals(rfl)
 rotate_left
 ·omega
 ·rintro j hj
  have hrl:(bu j).length=j:=List.length_range
  rcases aa (j<nums.length) with h1|h1
  ·refine uA ?_
   refine sQ ?_
   refine⟨j+1,?_,sL,ar [some 1] ?_ ?_ rfl rfl⟩
   rotate_left
   ·exact sC
   ·refine sA ?_
    all_goals((rw[←l9];rfl))
   exact h1
  ·obtain rfl:j=nums.length:=by omega
   refine uA ?_
   refine aC [] (BK ab o6) ?_
   clear hj h1
   refine cQ hm (fun(n:Nat) (c:List Nat)=> n≤(a7 ab).length∧c.length=nums.length∧(∀x∈c,x≤1000)∧Qr nums (a7 ab)=((a7 ab).drop n).foldl (j8 nums) c) (fun(n:Nat) (c:List Nat)=> ⟨dH 61 .any [(0,lv (aN nums)),(2,iv i),(3,iv k),(9,.acc 0),(11,lv (cS (a7 ab))),(12,iv n)],[some (.acc 3 (bP c))]⟩) (fun(n:Nat) (c:List Nat)=> (a7 ab).length-n) (0) (bu nums.length) ?_ (ar [some 0] ?_ ?_ rfl rfl) ?_
   rotate_left
   ·exact sC
   ·exact sC
   rotate_left
   ·exact⟨bc _,hrl,fun x hx=>by have:=fq.1 hx;omega,rfl⟩
   ·rintro n c ⟨hn,hc,hm9,hg⟩
    rcases aa (n<(a7 ab).length) with h1|h1
    ·have hab:=he9 _ (ak h1)
     rw[ah h1,gw] at hg
     rcases aa ((a7 ab)[n].A∈nums) with h2|h2
     ·have h3:=hab.1 h2
      have pA:=bz h2
      have pB:=bz h3
      have cA:=b9 h2
      have cB:=b9 h3
      have es:j8 nums c (a7 ab)[n]=gj c (aH nums (a7 ab)[n].A) (aH nums (a7 ab)[n].B):=by rw[j8,if_neg (by omega)]
      have hj1:=fP c (aH nums (a7 ab)[n].A) (aH nums (a7 ab)[n].B)
      have hj2:=xx (a:=aH nums (a7 ab)[n].A) (b:=aH nums (a7 ab)[n].B) hm9
      have cj:=tW c (aH nums (a7 ab)[n].A) (aH nums (a7 ab)[n].B) (by omega) (by omega) (by omega) hm9
      rw[es] at hg
      have nn:(0:Int)≤(aH nums (a7 ab)[n].A:Int):=by omega
      refine uA ?_
      refine bp [] (cV nums (a7 ab)[n].A) ?_ ?_<;>simp -implicitDefEqProofs only[go_sem,cA,nn,h1]
      refine bp [] (cV nums (a7 ab)[n].B) ?_ ?_<;>simp -implicitDefEqProofs only[go_sem,cB]
      refine oC [] [0] cj ?_
      refine sQ ?_
      refine⟨n+1,gj c (aH nums (a7 ab)[n].A) (aH nums (a7 ab)[n].B),?_,sL,ar [some 0] ?_ ?_ rfl rfl⟩
      rotate_left
      ·exact sC
      ·exact sC
      exact⟨by omega,by omega,hj2,hg⟩
     ·have h3:¬ (0:Int)≤bL nums (a7 ab)[n].A:=fun h=>h2 (cR.1 h)
      have es:j8 nums c (a7 ab)[n]=c:=by rw[j8,if_pos (by omega)]
      rw[es] at hg
      refine uA ?_
      refine bp [] (cV nums (a7 ab)[n].A) ?_ ?_<;>simp -implicitDefEqProofs only[go_sem,h3]
      refine sQ ?_
      refine⟨n+1,c,?_,sL,ar [some 0] ?_ ?_ rfl rfl⟩
      rotate_left
      ·exact sC
      ·exact sC
      exact⟨by omega,hc,hm9,hg⟩
    ·rw[al (by omega),List.foldl_nil] at hg
     have pi:i<c.length:=by omega
     have pk:k<c.length:=by omega
     have ei:c[i]=cl c i:=(gQ pi).symm
     have ek:c[k]=cl c k:=(gQ pk).symm
     rw[hg] at hlk
     simp -implicitDefEqProofs only[go_sem,h1,pi,pk,ei,ek]
     refine iK ?_
     refine an ?_
     refine sA ?_
     rw[←hlk]
theorem zI(ab:List bl)(l:bl):C E.P 141 [lv (aV ab),av (nI l)] [] (bD (bv (told ab l)) []):=by
 refine gS (nt:=30) (rs:=[.tmp 4]) hm Tryz.func141 fun hl he cq=>?_
 refine aM hm (fun(i:Nat)=> i≤ab.length∧told ab l=Jl ab l i) (fun(i:Nat)=> ⟨dH 30 .any [(0,lv (aV ab)),(3,.ptr 0 0),(5,iv i)],[some (.box (cF (nI l)))]⟩) (fun(i:Nat)=> ab.length-i) (0) ?_ (ar [some 0] ?_ ?_ rfl rfl) ?_
 rotate_left
 ·exact sC
 ·exact sC
 rotate_left
 ·exact⟨bc _,rfl⟩
 ·rintro i ⟨hi,hg⟩
  rcases aa (i<ab.length) with h1|h1
  ·rw[Rb h1] at hg
   have hco:=ET ab[i].atom l.atom
   rcases aa (ab[i].no=l.no) with h2|h2
   ·have k2:(ab[i].no == l.no)=true:=by rw[h2];simp
    rw[k2,aE] at hg
    refine uJ ?_
    refine aC [] hco ?_
    refine iK ?_
    rcases aa (ab[i].atom=l.atom) with h3|h3
    ·rw[decide_eq_true h3,Bool.true_or] at hg
     have k3:=decide_eq_true h3
     simp -implicitDefEqProofs only[go_sem,k3]
     refine an ?_
     refine sA ?_
     all_goals(simp[hg];done)
    ·rw[decide_eq_false h3,mg] at hg
     have k3:=decide_eq_false h3
     simp -implicitDefEqProofs only[go_sem,k3]
     refine sQ ?_
     refine⟨i+1,?_,sL,ar [some 0] ?_ ?_ rfl rfl⟩
     rotate_left
     ·exact sC
     ·exact sC
     exact⟨by omega,hg⟩
   ·have k2:(ab[i].no == l.no)=false:=by simpa using h2
    rw[k2,aK,mg] at hg
    simp -implicitDefEqProofs only[go_sem,h1,k2]
    refine iK ?_
    refine sQ ?_
    refine⟨i+1,?_,sL,ar [some 0] ?_ ?_ rfl rfl⟩
    rotate_left
    ·exact sC
    ·exact sC
    exact⟨by omega,hg⟩
  ·rw[S8 (by omega)] at hg
   refine uA ?_
   refine an ?_
   refine sA ?_
   all_goals(simp[hg];done)
theorem AF{aq nums:List Term}{c:List Nat}{ab:List bl}{i k:Nat}:eK true aq nums c ab i k=(!Mod.linked nums ab i k&&gh aq c (nums.getD i aL) (nums.getD k aL)):=rfl
theorem DG{aq nums:List Term}{c:List Nat}{ab:List bl}{i k:Nat}:eK false aq nums c ab i k=(!Mod.linked nums ab i k&&(!eX nums ab i k&& !eX nums ab k i)):=rfl
theorem Ak(aq nums:List Term)(eqs:List fF)(c:List Nat)(ab:List bl)(hc:c.length=aq.length)(h4:nums.length≤4)(o6:ab.length≤100)(hnd:nums.Nodup)(hnt:∀t∈nums,isTerm t=true)(mG:∀t∈nums,t∈aq)(he9:∀e∈a7 ab,(e.A∈nums↔e.B∈nums)) :
 C E.P 66 [av (rh aq nums eqs c),lv (aV ab),bv true] [] (bD (.gV [iv (((b7 nums.length (eK true aq nums c ab)).getD (0,0)).1:Nat),iv (((b7 nums.length (eK true aq nums c ab)).getD (0,0)).2:Nat),bv (b7 nums.length (eK true aq nums c ab)).isSome]) []):=by
 obtain⟨fp,hfp⟩:∃f,b7 nums.length (eK true aq nums c ab)=f:=⟨_,rfl⟩
 rw[hfp]
 refine gT (nt:=74) (rs:=[.tmp 6,.tmp 7,.tmp 8]) hm Tryz.func66 fun hl he cq=>?_
 refine aM hm (fun(i:Nat)=> i≤nums.length∧fp=(dP i nums.length).find? (fun q=>eK true aq nums c ab q.1 q.2)) (fun(i:Nat)=> ⟨dH 74 .any [(1,lv (aV ab)),(2,bv true),(3,.ptr 0 0),(9,iv i)],[some (.box (cF (rh aq nums eqs c)))]⟩) (fun(i:Nat)=> nums.length-i) (0) ?_ (ar [some 0] ?_ ?_ rfl rfl) ?_
 rotate_left
 ·refine sB ?_
  all_goals(try exact sM)
 ·refine sB ?_
  all_goals(try exact sM)
 rotate_left
 ·exact⟨bc _,hfp.symm⟩
 ·rintro i ⟨hi,hg⟩
  rcases aa (i<nums.length) with h1|h1
  ·rw[nL h1] at hg
   try simp -implicitDefEqProofs only[go_sem,Z1,Z2,Z3,Z4,h1]
   refine sJ ?_
   refine aM hm (fun(k:Nat)=> i<k∧k≤nums.length∧fp=(mc i k nums.length).find? (fun q=>eK true aq nums c ab q.1 q.2)) (fun(k:Nat)=> ⟨dH 74 .any [(1,lv (aV ab)),(2,bv true),(3,.ptr 0 0),(9,iv i),(10,iv k)],[some (.box (cF (rh aq nums eqs c)))]⟩) (fun(k:Nat)=> nums.length-k) (i+1) ?_ (ar [some 0] ?_ ?_ rfl rfl) ?_
   rotate_left
   ·refine sB ?_
    all_goals(try exact sM)
   ·refine sB ?_
    all_goals(try exact sM)
   rotate_left
   ·exact⟨by omega,by omega,hg⟩
   ·rintro k ⟨hik,hk,hg⟩
    rcases aa (k<nums.length) with h2|h2
    ·have hco:=wF nums ab i k h1 h2 h4 o6 he9
     have ga:nums.getD i aL=nums[i]:=fc h1
     have gb:nums.getD k aL=nums[k]:=fc h2
     have jD:nums[i]≠nums[k]:=fun e=>by
      have a1:=jK hnd h1
      have a2:=jK hnd h2
      rw[e] at a1
      omega
     have ta:=hnt _ (ak h1)
     have tb:=hnt _ (ak h2)
     have ma:=mG _ (ak h1)
     have mb:=mG _ (ak h2)
     rw[ox h2,dM] at hg
     try simp -implicitDefEqProofs only[go_sem,Z1,Z2,Z3,Z4,h2,h1]
     refine sI ?_
     refine aD [] hco ?_
     refine sI ?_
     cases h3:Mod.linked nums ab i k
     ·have hone:=ZB aq nums eqs c nums[i] nums[k] ma mb hc
      have eo:eK true aq nums c ab i k=gh aq c nums[i] nums[k]:=by rw[AF,h3,ga,gb];rfl
      simp only[eo] at hg
      try simp -implicitDefEqProofs only[go_sem,Z1,Z2,Z3,Z4]
      refine sI ?_
      refine aD [] hone ?_
      refine sI ?_
      cases h5:gh aq c nums[i] nums[k]
      ·rw[h5] at hg
       try simp -implicitDefEqProofs only[go_sem,Z1,Z2,Z3,Z4]
       refine sJ ?_
       refine⟨k+1,?_,sL,ar [some 0] ?_ ?_ rfl rfl⟩
       rotate_left
       ·refine sB ?_
        all_goals(try exact sM)
       ·refine sB ?_
        all_goals(try exact sM)
       exact⟨by omega,by omega,hg⟩
      ·rw[h5] at hg
       simp only at hg
       try simp -implicitDefEqProofs only[go_sem,Z1,Z2,Z3,Z4]
       refine sI ?_
       refine an ?_
       refine sB ?_
       rw[hg]
       ((repeat' apply au)<;>rfl)
     ·have eo:eK true aq nums c ab i k=false:=by rw[AF,h3];rfl
      simp only[eo] at hg
      try simp -implicitDefEqProofs only[go_sem,Z1,Z2,Z3,Z4]
      refine sJ ?_
      refine⟨k+1,?_,sL,ar [some 0] ?_ ?_ rfl rfl⟩
      rotate_left
      ·refine sB ?_
       all_goals(try exact sM)
      ·refine sB ?_
       all_goals(try exact sM)
      exact⟨by omega,by omega,hg⟩
    ·rw[qk (by omega)] at hg
     try simp -implicitDefEqProofs only[go_sem,Z1,Z2,Z3,Z4,h2]
     refine sJ ?_
     refine⟨i+1,?_,sL,ar [some 0] ?_ ?_ rfl rfl⟩
     rotate_left
     ·refine sB ?_
      all_goals(try exact sM)
     ·refine sB ?_
      all_goals(try exact sM)
     exact⟨by omega,hg⟩
  ·rw[oX (by omega),jV] at hg
   try simp -implicitDefEqProofs only[go_sem,Z1,Z2,Z3,Z4,h1]
   refine sI ?_
   refine an ?_
   refine sB ?_
   rw[hg]
   ((repeat' apply au)<;>rfl)
theorem yX(aq nums:List Term)(eqs:List fF)(c:List Nat)(ab:List bl)(hc:c.length=aq.length)(h4:nums.length≤4)(o6:ab.length≤100)(hnd:nums.Nodup)(hnt:∀t∈nums,isTerm t=true)(mG:∀t∈nums,t∈aq)(he9:∀e∈a7 ab,(e.A∈nums↔e.B∈nums)) :
 C E.P 66 [av (rh aq nums eqs c),lv (aV ab),bv false] [] (bD (.gV [iv (((b7 nums.length (eK false aq nums c ab)).getD (0,0)).1:Nat),iv (((b7 nums.length (eK false aq nums c ab)).getD (0,0)).2:Nat),bv (b7 nums.length (eK false aq nums c ab)).isSome]) []):=by
 obtain⟨fp,hfp⟩:∃f,b7 nums.length (eK false aq nums c ab)=f:=⟨_,rfl⟩
 rw[hfp]
 refine gT (nt:=74) (rs:=[.tmp 6,.tmp 7,.tmp 8]) hm Tryz.func66 fun hl he cq=>?_
 refine aM hm (fun(i:Nat)=> i≤nums.length∧fp=(dP i nums.length).find? (fun q=>eK false aq nums c ab q.1 q.2)) (fun(i:Nat)=> ⟨dH 74 .any [(1,lv (aV ab)),(2,bv false),(3,.ptr 0 0),(9,iv i)],[some (.box (cF (rh aq nums eqs c)))]⟩) (fun(i:Nat)=> nums.length-i) (0) ?_ (ar [some 0] ?_ ?_ rfl rfl) ?_
 rotate_left
 ·refine sB ?_
  all_goals(try exact sM)
 ·refine sB ?_
  all_goals(try exact sM)
 rotate_left
 ·exact⟨bc _,hfp.symm⟩
 ·rintro i ⟨hi,hg⟩
  rcases aa (i<nums.length) with h1|h1
  ·rw[nL h1] at hg
   try simp -implicitDefEqProofs only[go_sem,Z1,Z2,Z3,Z4,h1]
   refine sJ ?_
   refine aM hm (fun(k:Nat)=> i<k∧k≤nums.length∧fp=(mc i k nums.length).find? (fun q=>eK false aq nums c ab q.1 q.2)) (fun(k:Nat)=> ⟨dH 74 .any [(1,lv (aV ab)),(2,bv false),(3,.ptr 0 0),(9,iv i),(10,iv k)],[some (.box (cF (rh aq nums eqs c)))]⟩) (fun(k:Nat)=> nums.length-k) (i+1) ?_ (ar [some 0] ?_ ?_ rfl rfl) ?_
   rotate_left
   ·refine sB ?_
    all_goals(try exact sM)
   ·refine sB ?_
    all_goals(try exact sM)
   rotate_left
   ·exact⟨by omega,by omega,hg⟩
   ·rintro k ⟨hik,hk,hg⟩
    rcases aa (k<nums.length) with h2|h2
    ·have hco:=wF nums ab i k h1 h2 h4 o6 he9
     have ga:nums.getD i aL=nums[i]:=fc h1
     have gb:nums.getD k aL=nums[k]:=fc h2
     have jD:nums[i]≠nums[k]:=fun e=>by
      have a1:=jK hnd h1
      have a2:=jK hnd h2
      rw[e] at a1
      omega
     have ta:=hnt _ (ak h1)
     have tb:=hnt _ (ak h2)
     have ma:=mG _ (ak h1)
     have mb:=mG _ (ak h2)
     rw[ox h2,dM] at hg
     try simp -implicitDefEqProofs only[go_sem,Z1,Z2,Z3,Z4,h2,h1]
     refine sI ?_
     refine aD [] hco ?_
     refine sI ?_
     cases h3:Mod.linked nums ab i k
     ·have hl1:=qe nums[i] nums[k] ta tb jD
      have hl2:=qe nums[k] nums[i] tb ta (Ne.symm jD)
      have ht1:=zI ab (dL nums[i] nums[k])
      have ht2:=zI ab (dL nums[k] nums[i])
      have e1:told ab (dL nums[i] nums[k])=eX nums ab i k:=by rw[←ga,←gb];exact Dy
      have e2:told ab (dL nums[k] nums[i])=eX nums ab k i:=by rw[←ga,←gb];exact Dy
      rw[e1] at ht1
      rw[e2] at ht2
      have eo:eK false aq nums c ab i k=(!eX nums ab i k&& !eX nums ab k i):=by rw[DG,h3];rfl
      simp only[eo] at hg
      try simp -implicitDefEqProofs only[go_sem,Z1,Z2,Z3,Z4]
      refine sI ?_
      refine aD [] hl1 ?_
      refine sI ?_
      refine aD [] ht1 ?_
      refine sI ?_
      cases h5:eX nums ab i k
      ·rw[h5] at hg
       try simp -implicitDefEqProofs only[go_sem,Z1,Z2,Z3,Z4]
       refine sI ?_
       refine aD [] hl2 ?_
       refine sI ?_
       refine aD [] ht2 ?_
       refine sI ?_
       cases h6:eX nums ab k i
       ·rw[h6] at hg
        simp only[jc,Bool.and_self] at hg
        try simp -implicitDefEqProofs only[go_sem,Z1,Z2,Z3,Z4]
        refine sI ?_
        refine an ?_
        refine sB ?_
        rw[hg]
        ((repeat' apply au)<;>rfl)
       ·rw[h6] at hg
        simp only[jc,kK,Bool.and_false] at hg
        try simp -implicitDefEqProofs only[go_sem,Z1,Z2,Z3,Z4]
        refine sJ ?_
        refine⟨k+1,?_,sL,ar [some 0] ?_ ?_ rfl rfl⟩
        rotate_left
        ·refine sB ?_
         all_goals(try exact sM)
        ·refine sB ?_
         all_goals(try exact sM)
        exact⟨by omega,by omega,hg⟩
      ·rw[h5] at hg
       simp only[kK,aK] at hg
       try simp -implicitDefEqProofs only[go_sem,Z1,Z2,Z3,Z4]
       refine sJ ?_
       refine⟨k+1,?_,sL,ar [some 0] ?_ ?_ rfl rfl⟩
       rotate_left
       ·refine sB ?_
        all_goals(try exact sM)
       ·refine sB ?_
        all_goals(try exact sM)
       exact⟨by omega,by omega,hg⟩
     ·have eo:eK false aq nums c ab i k=false:=by rw[DG,h3];rfl
      simp only[eo] at hg
      try simp -implicitDefEqProofs only[go_sem,Z1,Z2,Z3,Z4]
      refine sJ ?_
      refine⟨k+1,?_,sL,ar [some 0] ?_ ?_ rfl rfl⟩
      rotate_left
      ·refine sB ?_
       all_goals(try exact sM)
      ·refine sB ?_
       all_goals(try exact sM)
      exact⟨by omega,by omega,hg⟩
    ·rw[qk (by omega)] at hg
     try simp -implicitDefEqProofs only[go_sem,Z1,Z2,Z3,Z4,h2]
     refine sJ ?_
     refine⟨i+1,?_,sL,ar [some 0] ?_ ?_ rfl rfl⟩
     rotate_left
     ·refine sB ?_
      all_goals(try exact sM)
     ·refine sB ?_
      all_goals(try exact sM)
     exact⟨by omega,hg⟩
  ·rw[oX (by omega),jV] at hg
   try simp -implicitDefEqProofs only[go_sem,Z1,Z2,Z3,Z4,h1]
   refine sI ?_
   refine an ?_
   refine sB ?_
   rw[hg]
   ((repeat' apply au)<;>rfl)
theorem wz(aq nums:List Term)(eqs:List fF)(c:List Nat)(a b:Term)(hk:gU aq)(kF:∀e∈eqs,e.A∈aq∧e.B∈aq)(o6:aq.length≤1000)(hk9:∀t∈aq,t.kids.length≤1000)(he9:eqs.length≤1000)(ha:a∈aq)(hb:b∈aq)(hab:gh aq (closed aq eqs).1 a b=true) :
 C E.P 63 [av (rh aq nums eqs c),av (cT a),av (cT b)] [] (bD (av (gR (l8 aq (closed aq eqs).2 a b))) []):=by
 have hkept:=mH (ae:=aq) (eqs:=eqs) kF
 have hsl:(closed aq eqs).2.length≤2000000:=by
  have h1:=vz hkept (closed aq eqs).2.length (aJ _)
  have h2:(bu aq.length).sum≤(bu aq.length).length*1000:=pJ fun x hx=>by have:=fq.1 hx;omega
  have h3:(bu aq.length).length*1000≤1000*1000:=Nat.mul_le_mul_right _ (by simpa using o6)
  omega
 have hcl:cl (aS aq.length (closed aq eqs).2 (closed aq eqs).2.length) (aH aq a)=cl (aS aq.length (closed aq eqs).2 (closed aq eqs).2.length) (aH aq b):=by
  rw[←hkept.2]
  simpa[gh] using hab
 have cA:=b9 ha
 have cB:=b9 hb
 have hw:=MK aq eqs (closed aq eqs).2 hkept.1 hk o6 hk9 hsl ((closed aq eqs).2.length+1) (closed aq eqs).2.length (aH aq a) (aH aq b) (by omega) (aJ _) (bz ha) (bz hb) hcl
 refine gT (nt:=31) (rs:=[.cell 6 37]) hm Tryz.func63 fun hl he cq=>?_
 try simp -implicitDefEqProofs only[go_sem,Z1,Z2,Z3,Z4]
 refine sI ?_
 refine aD [] (Bs aq eqs hk kF o6 hk9 he9) ?_
 refine sI ?_
 try simp -implicitDefEqProofs only[go_sem,Z1,Z2,Z3,Z4]
 refine sI ?_
 refine bp [] (cV aq a) ?_ ?_<;>simp -implicitDefEqProofs only[go_sem,Z1,Z2,Z3,Z4,cA]
 refine sI ?_
 try simp -implicitDefEqProofs only[go_sem,Z1,Z2,Z3,Z4,cA]
 refine sI ?_
 refine bp [] (cV aq b) ?_ ?_<;>simp -implicitDefEqProofs only[go_sem,Z1,Z2,Z3,Z4,cB]
 refine sI ?_
 try simp -implicitDefEqProofs only[go_sem,Z1,Z2,Z3,Z4,cB]
 refine sI ?_
 refine aD [] hw ?_
 refine sI ?_
 refine an ?_
 refine sB ?_
 ((repeat' apply au)<;>rfl)
theorem Uj{ts:List Term}{t:Term}(h:t∈ts):ts[aH ts t]'(bz h)=t:=(List.getElem?_eq_some_iff.1 (iZ h)).2
theorem B5(aq nums:List Term)(eqs:List fF)(c:List Nat)(aB:List Mod.Rat)(t:Term)(ht:t∈aq)(hc:c.length=aq.length)(h4v:aB.length=4)(h4:nums.length≤4):C E.P 143 [av (rh aq nums eqs c),lv (br aB),iv (aH aq t)] [] (bD (av (eY (iT aq nums c aB t))) []):=by
 have hi:=bz ht
 have ht2:=Uj ht
 refine gS (nt:=28) (rs:=[.cell 6 71]) hm Tryz.func143 fun hl he cq=>?_
 simp -implicitDefEqProofs only[go_sem,hi,ht2]
 refine aC [] (cV nums t) ?_
 refine iK ?_
 rcases aa (t∈nums) with hn|hn
 ·have pN:=bz hn
  have cN:=b9 hn
  have pN':aH nums t<aB.length:=by omega
  have nn:(0:Int)≤(aH nums t:Int):=by omega
  have e:iT aq nums c aB t=aB[aH nums t]:=by rw[iT,if_neg (by omega),getD_at pN']
  simp -implicitDefEqProofs only[go_sem,cN,nn,pN']
  refine an ?_
  refine sA ?_
  rw[e]
  ((repeat' apply au)<;>rfl)
 ·have h3:¬ (0:Int)≤bL nums t:=fun h=>hn (cR.1 h)
  have pc:aH aq t<c.length:=by omega
  have ec:c[aH aq t]=cl c (aH aq t):=(gQ pc).symm
  have e:iT aq nums c aB t=whole (cl c (aH aq t)):=by rw[iT,if_pos (by omega)]
  simp -implicitDefEqProofs only[go_sem,h3,pc,ec]
  refine an ?_
  refine sA ?_
  rw[e]
  ((repeat' apply au)<;>rfl)
theorem HC(rows:List Mod.Row)(r:Mod.Row)(i:Nat):nj (i-0) (fC 0 (bU rows))++[qo r]++nj (rows.length-i) (fC i (bU rows))=bU (rows.take i++r::rows.drop i):=by
 have h1:nj (rows.length-i) (fC i (bU rows))=bU (rows.drop i):=by
  rw[ao (by simp[bU])]
  simp[bU,List.map_drop]
 rw[h1]
 simp[bU,List.map_take]
theorem Li(rows:List Mod.Row)(r:Mod.Row)(o6:rows.length≤1000):C E.P 144 [lv (bU rows),av (qo r)] [] (bD (lv (bU (nN rows r))) []):=by
 refine gS (nt:=61) (rs:=[.tmp 4]) hm Tryz.func144 fun hl he cq=>?_
 refine aM hm (fun(i:Nat)=> i≤rows.length∧rU (fun x=>dA x r) rows i) (fun(i:Nat)=> ⟨dH 61 .any [(0,lv (bU rows)),(3,.ptr 0 0),(5,iv i)],[some (.box (cF (qo r)))]⟩) (fun(i:Nat)=> rows.length-i) (0) ?_ (ar [some 0] ?_ ?_ rfl rfl) ?_
 rotate_left
 ·exact sC
 ·exact sC
 rotate_left
 ·exact⟨bc _,rU.zero _ _⟩
 ·rintro i ⟨hi,hg⟩
  have L1:(fC i (bU rows)).length=rows.length-i:=by simp[bU]
  have L0:(fC 0 (bU rows)).length=rows.length:=by simp[bU]
  have f1:i≤rows.length∧∀y∈bU rows,y.length=4:=⟨by omega,xd _⟩
  have f2:(∀y∈nj (rows.length-i) (fC i (bU rows)),y.length=4)∧min (rows.length-i) (fC i (bU rows)).length≤LB∧min (rows.length-i) (fC i (bU rows)).length*56≤140737488355328:=⟨fun y hy=>xd _ y (fM (fb hy)),by omega,by omega⟩
  have f3:(∀y∈nj (i-0) (fC 0 (bU rows)),y.length=4)∧min (i-0) (fC 0 (bU rows)).length≤LB∧min (i-0) (fC 0 (bU rows)).length*56≤140737488355328:=⟨fun y hy=>xd _ y (fM (fb hy)),by omega,by omega⟩
  have f4:min (i-0) (fC 0 (bU rows)).length+1≤LB∧(min (i-0) (fC 0 (bU rows)).length+1)*56≤140737488355328:=⟨by omega,by omega⟩
  rcases aa (i<rows.length) with h1|h1
  ·have hco:=zQ rows[i] r
   have hd:=ah h1
   refine uA ?_
   refine aC [] hco ?_
   refine iK ?_
   cases h2:dA rows[i] r
   ·obtain⟨e1,e2⟩:=hg.stop h1 h2
    rcases aa (rows[i].name=r.name) with h3|h3
    ·have k3:=eq_true h3
     have hco2:=y9 rows[i].args r.args
     simp -implicitDefEqProofs only[go_sem,h1,k3]
     refine aC [] hco2 ?_
     refine iK ?_
     rcases aa (rows[i].args=r.args) with h4|h4
     ·have e:nN rows r=rows:=by rw[nN,e2];exact if_pos ⟨h3,h4⟩
      have k4:=decide_eq_true h4
      simp -implicitDefEqProofs only[go_sem,k4]
      refine an ?_
      refine sA ?_
      rw[e]
     ·have e:nN rows r=rows.take i++r::rows.drop i:=by rw[nN,e2,e1,hd];exact if_neg fun h=>h4 h.2
      have k4:=decide_eq_false h4
      simp -implicitDefEqProofs only[go_sem,k4]
      refine sQ ?_
      refine an ?_
      refine sA ?_
      rw[e,←HC]
      rfl
    ·have e:nN rows r=rows.take i++r::rows.drop i:=by rw[nN,e2,e1,hd];exact if_neg fun h=>h3 h.1
     simp -implicitDefEqProofs only[go_sem,h1,h3]
     refine iK ?_
     refine sQ ?_
     refine an ?_
     refine sA ?_
     rw[e,←HC]
     rfl
   ·refine sA ?_
    refine sQ ?_
    refine⟨i+1,?_,sL,ar [some 0] ?_ ?_ rfl rfl⟩
    rotate_left
    ·exact sC
    ·exact sC
    exact⟨by omega,hg.step h1 h2⟩
  ·obtain⟨e1,e2⟩:=hg.done (by omega)
   have e:nN rows r=rows.take i++r::rows.drop i:=by rw[nN,e2,e1,ao (by omega),al (by omega)]
   refine uA ?_
   refine iK ?_
   refine sQ ?_
   refine an ?_
   refine sA ?_
   rw[e,←HC]
   rfl
theorem ED(s:dI)(m:Mod.Model)(ab:List bl):C E.P 71 [av (eu s),av (eZ m),lv (aV ab)] [] (bD (bv (eP s m ab)) []):=by
 refine gS (nt:=35) (rs:=[.tmp 6]) hm Tryz.func71 fun hl he cq=>?_
 refine aM hm (fun(i:Nat)=> i≤ab.length∧eP s m ab=(fg s m&&(ab.drop i).all fun l=>decide (gn s m l=some true))) (fun(i:Nat)=> ⟨dH 35 .any [(2,lv (aV ab)),(3,.ptr 0 0),(4,.ptr 1 0),(7,iv i)],[some (.box (cF (eu s))),some (.box (cF (eZ m)))]⟩) (fun(i:Nat)=> ab.length-i) (0) ?_ (ar [some 0,some 1] ?_ ?_ rfl rfl) ?_
 rotate_left
 ·exact sC
 ·exact sC
 rotate_left
 ·exact⟨bc _,rfl⟩
 ·rintro i ⟨hi,hg⟩
  rcases aa (i<ab.length) with h1|h1
  ·rw[ah h1,List.all_cons] at hg
   have hco:=EZ s m ab[i]
   refine uA ?_
   refine aC [] hco ?_
   refine iK ?_
   cases h2:gn s m ab[i] with
   | none=>
     rw[h2] at hg
     refine uK ?_
     refine an ?_
     refine sA ?_
     all_goals(simp[hg];done)
   | some b=>
     rw[h2] at hg
     cases b
     ·refine uL ?_
      refine an ?_
      refine sA ?_
      all_goals(simp[hg];done)
     ·simp only[decide_true,aE] at hg
      refine uL ?_
      refine sQ ?_
      refine⟨i+1,?_,sL,ar [some 0,some 1] ?_ ?_ rfl rfl⟩
      rotate_left
      ·exact sC
      ·exact sC
      exact⟨by omega,hg⟩
  ·rw[al (by omega),List.all_nil,Bool.and_true] at hg
   refine uA ?_
   refine aC [] (xt s m) ?_
   refine an ?_
   refine sA ?_
   rw[hg]
theorem HW(aq nums:List Term)(eqs:List fF)(c:List Nat)(aB:List Mod.Rat)(hk:gU aq)(hnd:aq.Nodup)(hc:c.length=aq.length)(Pb:∀x∈c,x≤1000)(h4v:aB.length=4)(hv9:∀x∈aB,bW x=true)(h4:nums.length≤4)(o6:aq.length≤1000)(hk9:∀t∈aq,t.kids.length≤1000) :
 C E.P 70 [av (rh aq nums eqs c),lv (br aB)] [] (bD (av (eZ ⟨ia aq nums c aB⟩)) []):=by
 refine gS (nt:=64) (rs:=[.cell 4 31]) hm Tryz.func70 fun hl he cq=>?_
 refine cQ hm (fun(i:Nat) (rows:List Mod.Row)=> i≤aq.length∧rows.length≤i∧(∀x∈rows,dN x.args=true)∧ia aq nums c aB=(aq.drop i).foldl (fun rows t=>putRow rows (iH aq nums c aB t)) rows) (fun(i:Nat) (rows:List Mod.Row)=> ⟨dH 64 .any [(1,lv (br aB)),(2,.ptr 0 0),(4,.ptr 1 0),(5,lv (bU rows)),(6,iv i)],[some (.box (cF (rh aq nums eqs c))),some (.box (cF (eZ mj)))]⟩) (fun(i:Nat) (rows:List Mod.Row)=> aq.length-i) (0) ([]) ?_ (ar [some 0,some 1] ?_ ?_ rfl rfl) ?_
 rotate_left
 ·refine sA ?_
  all_goals(rfl)
 ·refine sA ?_
  all_goals(rfl)
 rotate_left
 ·exact⟨bc _,aJ _,fun x hx=>(by simp at hx),rfl⟩
 ·rintro i rows ⟨hi,hrl,hro,hg⟩
  rcases aa (i<aq.length) with h1|h1
  ·have mt:=ak h1
   have kt:=hk _ mt
   have kl:=hk9 _ mt
   have hp:aH aq aq[i]=i:=by
    have:=jK hnd h1
    unfold aH
    omega
   have hv:=B5 aq nums eqs c aB aq[i] mt hc h4v h4
   rw[hp] at hv
   rw[ah h1,gw] at hg
   obtain⟨t,ht⟩:∃t,aq[i]=t:=⟨_,rfl⟩
   rw[ht] at hv hg kt kl
   simp -implicitDefEqProofs only[go_sem,h1,ht]
   refine aC [] hv ?_
   refine iK ?_
   refine aM hm (fun(j:Nat)=> j≤t.kids.length) (fun(j:Nat)=> ⟨dH 64 .any [(1,lv (br aB)),(2,.ptr 0 0),(4,.ptr 1 0),(5,lv (bU rows)),(6,iv i),(7,.ptr 2 0),(8,iv j)],[some (.box (cF (rh aq nums eqs c))),some (.box (cF (eZ mj))),some (.box [sv t.name,.acc 3,iv (iT aq nums c aB t).N,iv (iT aq nums c aB t).D]),some (.acc 71 (br ((t.kids.take j).map (iT aq nums c aB))))]⟩) (fun(j:Nat)=> t.kids.length-j) (0) ?_ (ar [some 0,some 1,some 2,none] ?_ ?_ rfl rfl) ?_
   rotate_left
   ·exact sC
   ·exact sC
   rotate_left
   ·omega
   ·rintro j hj
    rcases aa (j<t.kids.length) with h2|h2
    ·have mk:=kt _ (ak h2)
     have hvk:=B5 aq nums eqs c aB t.kids[j] mk hc h4v h4
     have ck:=b9 mk
     have hs:(t.kids.take (j+1)).map (iT aq nums c aB)=(t.kids.take j).map (iT aq nums c aB)++[iT aq nums c aB t.kids[j]]:=by
      rw[List.take_add_one,List.getElem?_eq_getElem h2,List.map_append];rfl
     have hsl:((t.kids.take j).map (iT aq nums c aB)).length≤1000:=by simp;omega
     simp -implicitDefEqProofs only[go_sem,h1,ht,h2]
     refine bp [] (cV aq t.kids[j]) ?_ ?_<;>simp -implicitDefEqProofs only[go_sem,ck]
     refine aC [] hvk ?_
     refine sQ ?_
     refine⟨j+1,?_,sL,ar [some 0,some 1,some 2,some 4] ?_ ?_ rfl rfl⟩
     rotate_left
     ·exact sC
     ·refine sA ?_
      all_goals((rw[hs,←tl,vp,tD];rfl))
     exact h2
    ·have et:t.kids.take j=t.kids:=ao (by omega)
     have hput:=Li rows (iH aq nums c aB t) (by omega)
     rw[et]
     simp -implicitDefEqProofs only[go_sem,h1,ht,h2]
     refine gE [] [3] (vd (e:=71) (args:=[lv (bU rows),.agg [sv t.name,.acc 0,iv (iT aq nums c aB t).N,iv (iT aq nums c aB t).D]]) (iR.cons (Vw.same rfl) (iR.cons (Vw.agg (iR.cons (Vw.same rfl) (iR.cons (Vw.acc rfl rfl) (iR.cons (Vw.same rfl) (iR.cons (Vw.same rfl) iR.nil))))) iR.nil)) rfl hput) ?_ ?_<;>simp -implicitDefEqProofs only[go_sem]
     ·rfl
     repeat(with_reducible apply au;case left=>omega)
     rw[F5 (rV Pb hv9) hro] at hg
     have dz:=Gf rows (iH aq nums c aB t)
     have hmem:∀x∈putRow rows (iH aq nums c aB t),dN x.args=true:=fun x hx=>by
      rcases G6 hx with hx|hx
      ·exact hro x hx
      ·rw[hx];exact rV Pb hv9
     rw[F5 (rV Pb hv9) hro] at dz hmem
     refine⟨i+1,nN rows (iH aq nums c aB t),?_,sL,ar [some 0,some 1] ?_ ?_ rfl rfl⟩
     rotate_left
     ·exact sC
     ·exact sC
     exact⟨by omega,by omega,hmem,hg⟩
  ·rw[al (by omega),List.foldl_nil] at hg
   refine uA ?_
   refine an ?_
   refine sA ?_
   rw[hg]
end Go.Proofs.YtabembjmeobhoaaGreat
