/-
  The reference: what is asked of literals, one question after the other. A step towards the laws.
-/
import Derived.Test.YtabembjmeobhoaaGreatKBzb
import Derived.Test.YtabembjmeobhoaaGreatKBf
import Derived.Test.YtabembjmeobhoaaGreatKBe
import Derived.Test.YtabembjmeobhoaaGreatKBEl
set_option linter.unusedVariables false
set_option linter.unusedSimpArgs false
open And renaming intro→ar
open Bool renaming true_and→aM,false_and→aS,not_false→iU,not_true→kE,false_or→lZ
open Classical renaming em→aa
open List renaming drop_eq_getElem_cons→aj,getElem_mem→ak,drop_of_length_le→al,take_of_length_le→ao,range→bt,find?_cons→dA,mem_of_mem_take→eV,mem_range→fc,drop→fm,mem_of_mem_drop→fA,foldl_cons→gk,find?_nil→jM,take→m0
open Nat renaming le_refl→aI,zero_le→bh
open Option renaming isSome_some→aJ,getD_some→aK
namespace Go.Proofs.YtabembjmeobhoaaGreat
open Go.Eng Go.Mod
open Int renaming reduceEq→Z1,reduceLT→Z2,reduceLE→Z3,reduceToNat→Z4
set_option maxRecDepth 100000
set_option maxHeartbeats 3200000
theorem Yi(au nums:List Term)(eqs:List iy)(c:List Nat)(a b:Term)(ha:a∈au)(hb:b∈au)(hc:c.length=au.length):C E.P 128 [av (qV au nums eqs c),av (cT a),av (cT b)] [] (bM (bv (fS au c a b)) []):=by
 have pA:=bx ha
 have pB:=bx hb
 have cA:=b7 ha
 have cB:=b7 hb
 have pA':aH au a<c.length:=by omega
 have pB':aH au b<c.length:=by omega
 have eA:c[aH au a]=cl c (aH au a):=(gL pA').symm
 have eB:c[aH au b]=cl c (aH au b):=(gL pB').symm
 refine gS (nt:=24) (rs:=[.tmp 6]) hm Tryz.func128 fun hl he cI=>?_
 refine bQ [] (cL au a) ?_ ?_<;>simp -implicitDefEqProofs only[go_sem,cA,pA',eA]
 refine bQ [] (cL au b) ?_ ?_<;>simp -implicitDefEqProofs only[go_sem,cB,pB',eB]
 refine iK ?_
 refine an ?_
 refine sA ?_
 ((repeat' apply ar)<;>rfl)
theorem GH(au nums:List Term)(eqs:List iy)(c:List Nat)(ab:List bp)(hc:c.length=au.length)(ki:∀l∈ab,l.atom.kind=1→l.atom.A∈au∧l.atom.B∈au):C E.P 62 [av (qV au nums eqs c),lv (a6 ab)] [] (bM (iv (atI (kf (iZ au c) ab))) []):=by
 refine gS (nt:=37) (rs:=[.tmp 4]) hm Tryz.func62 fun hl he cI=>?_
 refine aO hm (fun(i:Nat)=> i≤ab.length∧kf (iZ au c) ab=vo (iZ au c) ab i) (fun(i:Nat)=> ⟨dB 37 .any [(1,lv (a6 ab)),(2,.ptr 0 0),(5,iv i)],[some (.box (cF (qV au nums eqs c)))]⟩) (fun(i:Nat)=> ab.length-i) (0) ?_ (aw [some 0] ?_ ?_ rfl rfl) ?_
 rotate_left
 ·exact sC
 ·exact sC
 rotate_left
 ·exact⟨bh _,GP _ _⟩
 ·rintro i ⟨hi,hg⟩
  rcases aa (i<ab.length) with h1|h1
  ·rw[CA h1] at hg
   have hl:=ki _ (ak h1)
   have ec:iZ au c ab[i]=(ab[i].no&&(decide (ab[i].atom.kind=1)&&fS au c ab[i].atom.A ab[i].atom.B)):=rfl
   cases h2:ab[i].no
   ·rw[ec,h2,aS,if_neg (by simp)] at hg
    simp -implicitDefEqProofs only[go_sem,h1,h2]
    refine sQ ?_
    refine⟨i+1,?_,sL,aw [some 0] ?_ ?_ rfl rfl⟩
    rotate_left
    ·exact sC
    ·exact sC
    exact⟨by omega,hg⟩
   ·rcases aa (ab[i].atom.kind=1) with h3|h3
    ·have k3:=eq_true h3
     have hab:=hl h3
     have hco:=Yi au nums eqs c ab[i].atom.A ab[i].atom.B hab.1 hab.2 hc
     rw[ec,h2,decide_eq_true h3,aM,aM] at hg
     simp -implicitDefEqProofs only[go_sem,h1,h2,k3]
     refine aC [] hco ?_
     cases h4:fS au c ab[i].atom.A ab[i].atom.B
     ·rw[h4,if_neg (by simp)] at hg
      refine sA ?_
      refine sQ ?_
      refine⟨i+1,?_,sL,aw [some 0] ?_ ?_ rfl rfl⟩
      rotate_left
      ·exact sC
      ·exact sC
      exact⟨by omega,hg⟩
     ·rw[h4,if_pos rfl] at hg
      refine sA ?_
      refine an ?_
      refine sA ?_
      rw[hg]
      ((repeat' apply ar)<;>rfl)
    ·rw[ec,h2,decide_eq_false h3,aM,aS,if_neg (by simp)] at hg
     simp -implicitDefEqProofs only[go_sem,h1,h2,h3]
     refine sQ ?_
     refine⟨i+1,?_,sL,aw [some 0] ?_ ?_ rfl rfl⟩
     rotate_left
     ·exact sC
     ·exact sC
     exact⟨by omega,hg⟩
  ·rw[GG (by omega)] at hg
   simp -implicitDefEqProofs only[go_sem,h1]
   refine an ?_
   refine sA ?_
   rw[hg]
   ((repeat' apply ar)<;>rfl)
theorem vK(nums:List Term)(ab:List bp)(i k:Nat)(hi:i<nums.length)(hk:k<nums.length)(h4:nums.length≤4)(oW:ab.length≤100)(he9:∀e∈bc ab,(e.A∈nums↔e.B∈nums)):C E.P 140 [lv (aP nums),lv (a6 ab),iv i,iv k] [] (bM (bv (Mod.linked nums ab i k)) []):=by
 have hlk:=P3 he9 hi hk
 have hel:(bc ab).length≤100:=Nat.le_trans (List.length_filterMap_le _ _) oW
 refine gS (nt:=61) (rs:=[.tmp 8]) hm Tryz.func140 fun hl he cI=>?_
 refine aO hm (fun(j:Nat)=> j≤nums.length) (fun(j:Nat)=> ⟨dB 61 .any [(0,lv (aP nums)),(1,lv (a6 ab)),(2,iv i),(3,iv k),(9,.acc 0),(10,iv j)],[some (.acc 3 (bO (bt j)))]⟩) (fun(j:Nat)=> nums.length-j) (0) ?_ (aw [some 0] ?_ ?_ rfl rfl) ?_
 rotate_left
 ·exact sC
 ·refine sA ?_
  all_goals(rfl)
 rotate_left
 ·omega
 ·rintro j hj
  have hrl:(bt j).length=j:=List.length_range
  rcases aa (j<nums.length) with h1|h1
  ·simp -implicitDefEqProofs only[go_sem,h1]
   refine sQ ?_
   refine⟨j+1,?_,sL,aw [some 1] ?_ ?_ rfl rfl⟩
   rotate_left
   ·exact sC
   ·refine sA ?_
    all_goals((rw[←lY];rfl))
   exact h1
  ·obtain rfl:j=nums.length:=by omega
   simp -implicitDefEqProofs only[go_sem,h1]
   refine aC [] (Bz ab oW) ?_
   clear hj h1
   refine dm hm (fun(n:Nat) (c:List Nat)=> n≤(bc ab).length∧c.length=nums.length∧(∀x∈c,x≤1000)∧Oq nums (bc ab)=((bc ab).drop n).foldl (jW nums) c) (fun(n:Nat) (c:List Nat)=> ⟨dB 61 .any [(0,lv (aP nums)),(2,iv i),(3,iv k),(9,.acc 0),(11,lv (gP (bc ab))),(12,iv n)],[some (.acc 3 (bO c))]⟩) (fun(n:Nat) (c:List Nat)=> (bc ab).length-n) (0) (bt nums.length) ?_ (aw [some 0] ?_ ?_ rfl rfl) ?_
   rotate_left
   ·exact sC
   ·exact sC
   rotate_left
   ·exact⟨bh _,hrl,fun x hx=>by have:=fc.1 hx;omega,rfl⟩
   ·rintro n c ⟨hn,hc,hm9,hg⟩
    rcases aa (n<(bc ab).length) with h1|h1
    ·have hab:=he9 _ (ak h1)
     rw[aj h1,gk] at hg
     rcases aa ((bc ab)[n].A∈nums) with h2|h2
     ·have h3:=hab.1 h2
      have pA:=bx h2
      have pB:=bx h3
      have cA:=b7 h2
      have cB:=b7 h3
      have es:jW nums c (bc ab)[n]=fV c (aH nums (bc ab)[n].A) (aH nums (bc ab)[n].B):=by rw[jW,if_neg (by omega)]
      have hj1:=fD c (aH nums (bc ab)[n].A) (aH nums (bc ab)[n].B)
      have hj2:=w5 (a:=aH nums (bc ab)[n].A) (b:=aH nums (bc ab)[n].B) hm9
      have cj:=tD c (aH nums (bc ab)[n].A) (aH nums (bc ab)[n].B) (by omega) (by omega) (by omega) hm9
      rw[es] at hg
      have nn:(0:Int)≤(aH nums (bc ab)[n].A:Int):=by omega
      simp -implicitDefEqProofs only[go_sem,h1]
      refine bQ [] (cL nums (bc ab)[n].A) ?_ ?_<;>simp -implicitDefEqProofs only[go_sem,cA,nn,h1]
      refine bQ [] (cL nums (bc ab)[n].B) ?_ ?_<;>simp -implicitDefEqProofs only[go_sem,cB]
      refine oC [] [0] cj ?_
      refine sQ ?_
      refine⟨n+1,fV c (aH nums (bc ab)[n].A) (aH nums (bc ab)[n].B),?_,sL,aw [some 0] ?_ ?_ rfl rfl⟩
      rotate_left
      ·exact sC
      ·exact sC
      exact⟨by omega,by omega,hj2,hg⟩
     ·have h3:¬ (0:Int)≤bL nums (bc ab)[n].A:=fun h=>h2 (cK.1 h)
      have es:jW nums c (bc ab)[n]=c:=by rw[jW,if_pos (by omega)]
      rw[es] at hg
      simp -implicitDefEqProofs only[go_sem,h1]
      refine bQ [] (cL nums (bc ab)[n].A) ?_ ?_<;>simp -implicitDefEqProofs only[go_sem,h3]
      refine sQ ?_
      refine⟨n+1,c,?_,sL,aw [some 0] ?_ ?_ rfl rfl⟩
      rotate_left
      ·exact sC
      ·exact sC
      exact⟨by omega,hc,hm9,hg⟩
    ·rw[al (by omega),List.foldl_nil] at hg
     have pi:i<c.length:=by omega
     have pk:k<c.length:=by omega
     have ei:c[i]=cl c i:=(gL pi).symm
     have ek:c[k]=cl c k:=(gL pk).symm
     rw[hg] at hlk
     simp -implicitDefEqProofs only[go_sem,h1,pi,pk,ei,ek]
     refine iK ?_
     refine an ?_
     refine sA ?_
     rw[←hlk]
theorem yG(ab:List bp)(l:bp):C E.P 141 [lv (a6 ab),av (np l)] [] (bM (bv (told ab l)) []):=by
 refine gS (nt:=30) (rs:=[.tmp 4]) hm Tryz.func141 fun hl he cI=>?_
 refine aO hm (fun(i:Nat)=> i≤ab.length∧told ab l=Jq ab l i) (fun(i:Nat)=> ⟨dB 30 .any [(0,lv (a6 ab)),(3,.ptr 0 0),(5,iv i)],[some (.box (cF (np l)))]⟩) (fun(i:Nat)=> ab.length-i) (0) ?_ (aw [some 0] ?_ ?_ rfl rfl) ?_
 rotate_left
 ·exact sC
 ·exact sC
 rotate_left
 ·exact⟨bh _,rfl⟩
 ·rintro i ⟨hi,hg⟩
  rcases aa (i<ab.length) with h1|h1
  ·rw[PW h1] at hg
   have hco:=DF ab[i].atom l.atom
   rcases aa (ab[i].no=l.no) with h2|h2
   ·have k2:(ab[i].no == l.no)=true:=by rw[h2];simp
    rw[k2,aM] at hg
    simp -implicitDefEqProofs only[go_sem,h1,h2]
    refine aC [] hco ?_
    refine iK ?_
    rcases aa (ab[i].atom=l.atom) with h3|h3
    ·rw[decide_eq_true h3,Bool.true_or] at hg
     have k3:=decide_eq_true h3
     simp -implicitDefEqProofs only[go_sem,k3]
     refine an ?_
     refine sA ?_
     all_goals(simp[hg];done)
    ·rw[decide_eq_false h3,lZ] at hg
     have k3:=decide_eq_false h3
     simp -implicitDefEqProofs only[go_sem,k3]
     refine sQ ?_
     refine⟨i+1,?_,sL,aw [some 0] ?_ ?_ rfl rfl⟩
     rotate_left
     ·exact sC
     ·exact sC
     exact⟨by omega,hg⟩
   ·have k2:(ab[i].no == l.no)=false:=by simpa using h2
    rw[k2,aS,lZ] at hg
    simp -implicitDefEqProofs only[go_sem,h1,k2]
    refine iK ?_
    refine sQ ?_
    refine⟨i+1,?_,sL,aw [some 0] ?_ ?_ rfl rfl⟩
    rotate_left
    ·exact sC
    ·exact sC
    exact⟨by omega,hg⟩
  ·rw[So (by omega)] at hg
   simp -implicitDefEqProofs only[go_sem,h1]
   refine an ?_
   refine sA ?_
   all_goals(simp[hg];done)
theorem zu{au nums:List Term}{c:List Nat}{ab:List bp}{i k:Nat}:dY true au nums c ab i k=(!Mod.linked nums ab i k&&fS au c (nums.getD i aL) (nums.getD k aL)):=rfl
theorem CR{au nums:List Term}{c:List Nat}{ab:List bp}{i k:Nat}:dY false au nums c ab i k=(!Mod.linked nums ab i k&&(!eM nums ab i k&& !eM nums ab k i)):=rfl
theorem zm(au nums:List Term)(eqs:List iy)(c:List Nat)(ab:List bp)(hc:c.length=au.length)(h4:nums.length≤4)(oW:ab.length≤100)(hnd:nums.Nodup)(hnt:∀t∈nums,isTerm t=true)(mq:∀t∈nums,t∈au)(he9:∀e∈bc ab,(e.A∈nums↔e.B∈nums)) :
 C E.P 66 [av (qV au nums eqs c),lv (a6 ab),bv true] [] (bM (.jd [iv (((b6 nums.length (dY true au nums c ab)).getD (0,0)).1:Nat),iv (((b6 nums.length (dY true au nums c ab)).getD (0,0)).2:Nat),bv (b6 nums.length (dY true au nums c ab)).isSome]) []):=by
 obtain⟨fp,hfp⟩:∃f,b6 nums.length (dY true au nums c ab)=f:=⟨_,rfl⟩
 rw[hfp]
 refine gT (nt:=74) (rs:=[.tmp 6,.tmp 7,.tmp 8]) hm Tryz.func66 fun hl he cI=>?_
 refine aO hm (fun(i:Nat)=> i≤nums.length∧fp=(dD i nums.length).find? (fun q=>dY true au nums c ab q.1 q.2)) (fun(i:Nat)=> ⟨dB 74 .any [(1,lv (a6 ab)),(2,bv true),(3,.ptr 0 0),(9,iv i)],[some (.box (cF (qV au nums eqs c)))]⟩) (fun(i:Nat)=> nums.length-i) (0) ?_ (aw [some 0] ?_ ?_ rfl rfl) ?_
 rotate_left
 ·refine sB ?_
  all_goals(first|done|(simp[aq, *];done)|(simp[aq];done)|(simp;omega)|skip)
 ·refine sB ?_
  all_goals(first|done|(simp[aq, *];done)|(simp[aq];done)|(simp;omega)|skip)
 rotate_left
 ·exact⟨bh _,hfp.symm⟩
 ·rintro i ⟨hi,hg⟩
  rcases aa (i<nums.length) with h1|h1
  ·rw[nF h1] at hg
   try simp -implicitDefEqProofs only[go_sem,Z1,Z2,Z3,Z4,h1]
   refine sJ ?_
   refine aO hm (fun(k:Nat)=> i<k∧k≤nums.length∧fp=(lS i k nums.length).find? (fun q=>dY true au nums c ab q.1 q.2)) (fun(k:Nat)=> ⟨dB 74 .any [(1,lv (a6 ab)),(2,bv true),(3,.ptr 0 0),(9,iv i),(10,iv k)],[some (.box (cF (qV au nums eqs c)))]⟩) (fun(k:Nat)=> nums.length-k) (i+1) ?_ (aw [some 0] ?_ ?_ rfl rfl) ?_
   rotate_left
   ·refine sB ?_
    all_goals(first|done|(simp[aq, *];done)|(simp[aq];done)|(simp;omega)|skip)
   ·refine sB ?_
    all_goals(first|done|(simp[aq, *];done)|(simp[aq];done)|(simp;omega)|skip)
   rotate_left
   ·exact⟨by omega,by omega,hg⟩
   ·rintro k ⟨hik,hk,hg⟩
    rcases aa (k<nums.length) with h2|h2
    ·have hco:=vK nums ab i k h1 h2 h4 oW he9
     have ga:nums.getD i aL=nums[i]:=eX h1
     have gb:nums.getD k aL=nums[k]:=eX h2
     have jv:nums[i]≠nums[k]:=fun e=>by
      have a1:=jC hnd h1
      have a2:=jC hnd h2
      rw[e] at a1
      omega
     have ta:=hnt _ (ak h1)
     have tb:=hnt _ (ak h2)
     have ma:=mq _ (ak h1)
     have mb:=mq _ (ak h2)
     rw[oO h2,dA] at hg
     try simp -implicitDefEqProofs only[go_sem,Z1,Z2,Z3,Z4,h2,h1]
     refine sI ?_
     refine aD [] hco ?_
     refine sI ?_
     cases h3:Mod.linked nums ab i k
     ·have hone:=Yi au nums eqs c nums[i] nums[k] ma mb hc
      have eo:dY true au nums c ab i k=fS au c nums[i] nums[k]:=by rw[zu,h3,ga,gb];rfl
      simp only[eo] at hg
      try simp -implicitDefEqProofs only[go_sem,Z1,Z2,Z3,Z4]
      refine sI ?_
      refine aD [] hone ?_
      refine sI ?_
      cases h5:fS au c nums[i] nums[k]
      ·rw[h5] at hg
       try simp -implicitDefEqProofs only[go_sem,Z1,Z2,Z3,Z4]
       refine sJ ?_
       refine⟨k+1,?_,sL,aw [some 0] ?_ ?_ rfl rfl⟩
       rotate_left
       ·refine sB ?_
        all_goals(first|done|(simp[aq, *];done)|(simp[aq];done)|(simp;omega)|skip)
       ·refine sB ?_
        all_goals(first|done|(simp[aq, *];done)|(simp[aq];done)|(simp;omega)|skip)
       exact⟨by omega,by omega,hg⟩
      ·rw[h5] at hg
       simp only at hg
       try simp -implicitDefEqProofs only[go_sem,Z1,Z2,Z3,Z4]
       refine sI ?_
       refine an ?_
       refine sB ?_
       rw[hg]
       ((repeat' apply ar)<;>rfl)
     ·have eo:dY true au nums c ab i k=false:=by rw[zu,h3];rfl
      simp only[eo] at hg
      try simp -implicitDefEqProofs only[go_sem,Z1,Z2,Z3,Z4]
      refine sJ ?_
      refine⟨k+1,?_,sL,aw [some 0] ?_ ?_ rfl rfl⟩
      rotate_left
      ·refine sB ?_
       all_goals(first|done|(simp[aq, *];done)|(simp[aq];done)|(simp;omega)|skip)
      ·refine sB ?_
       all_goals(first|done|(simp[aq, *];done)|(simp[aq];done)|(simp;omega)|skip)
      exact⟨by omega,by omega,hg⟩
    ·rw[qb (by omega)] at hg
     try simp -implicitDefEqProofs only[go_sem,Z1,Z2,Z3,Z4,h2]
     refine sJ ?_
     refine⟨i+1,?_,sL,aw [some 0] ?_ ?_ rfl rfl⟩
     rotate_left
     ·refine sB ?_
      all_goals(first|done|(simp[aq, *];done)|(simp[aq];done)|(simp;omega)|skip)
     ·refine sB ?_
      all_goals(first|done|(simp[aq, *];done)|(simp[aq];done)|(simp;omega)|skip)
     exact⟨by omega,hg⟩
  ·rw[oE (by omega),jM] at hg
   try simp -implicitDefEqProofs only[go_sem,Z1,Z2,Z3,Z4,h1]
   refine sI ?_
   refine an ?_
   refine sB ?_
   rw[hg]
   ((repeat' apply ar)<;>rfl)
theorem x7(au nums:List Term)(eqs:List iy)(c:List Nat)(ab:List bp)(hc:c.length=au.length)(h4:nums.length≤4)(oW:ab.length≤100)(hnd:nums.Nodup)(hnt:∀t∈nums,isTerm t=true)(mq:∀t∈nums,t∈au)(he9:∀e∈bc ab,(e.A∈nums↔e.B∈nums)) :
 C E.P 66 [av (qV au nums eqs c),lv (a6 ab),bv false] [] (bM (.jd [iv (((b6 nums.length (dY false au nums c ab)).getD (0,0)).1:Nat),iv (((b6 nums.length (dY false au nums c ab)).getD (0,0)).2:Nat),bv (b6 nums.length (dY false au nums c ab)).isSome]) []):=by
 obtain⟨fp,hfp⟩:∃f,b6 nums.length (dY false au nums c ab)=f:=⟨_,rfl⟩
 rw[hfp]
 refine gT (nt:=74) (rs:=[.tmp 6,.tmp 7,.tmp 8]) hm Tryz.func66 fun hl he cI=>?_
 refine aO hm (fun(i:Nat)=> i≤nums.length∧fp=(dD i nums.length).find? (fun q=>dY false au nums c ab q.1 q.2)) (fun(i:Nat)=> ⟨dB 74 .any [(1,lv (a6 ab)),(2,bv false),(3,.ptr 0 0),(9,iv i)],[some (.box (cF (qV au nums eqs c)))]⟩) (fun(i:Nat)=> nums.length-i) (0) ?_ (aw [some 0] ?_ ?_ rfl rfl) ?_
 rotate_left
 ·refine sB ?_
  all_goals(first|done|(simp[aq, *];done)|(simp[aq];done)|(simp;omega)|skip)
 ·refine sB ?_
  all_goals(first|done|(simp[aq, *];done)|(simp[aq];done)|(simp;omega)|skip)
 rotate_left
 ·exact⟨bh _,hfp.symm⟩
 ·rintro i ⟨hi,hg⟩
  rcases aa (i<nums.length) with h1|h1
  ·rw[nF h1] at hg
   try simp -implicitDefEqProofs only[go_sem,Z1,Z2,Z3,Z4,h1]
   refine sJ ?_
   refine aO hm (fun(k:Nat)=> i<k∧k≤nums.length∧fp=(lS i k nums.length).find? (fun q=>dY false au nums c ab q.1 q.2)) (fun(k:Nat)=> ⟨dB 74 .any [(1,lv (a6 ab)),(2,bv false),(3,.ptr 0 0),(9,iv i),(10,iv k)],[some (.box (cF (qV au nums eqs c)))]⟩) (fun(k:Nat)=> nums.length-k) (i+1) ?_ (aw [some 0] ?_ ?_ rfl rfl) ?_
   rotate_left
   ·refine sB ?_
    all_goals(first|done|(simp[aq, *];done)|(simp[aq];done)|(simp;omega)|skip)
   ·refine sB ?_
    all_goals(first|done|(simp[aq, *];done)|(simp[aq];done)|(simp;omega)|skip)
   rotate_left
   ·exact⟨by omega,by omega,hg⟩
   ·rintro k ⟨hik,hk,hg⟩
    rcases aa (k<nums.length) with h2|h2
    ·have hco:=vK nums ab i k h1 h2 h4 oW he9
     have ga:nums.getD i aL=nums[i]:=eX h1
     have gb:nums.getD k aL=nums[k]:=eX h2
     have jv:nums[i]≠nums[k]:=fun e=>by
      have a1:=jC hnd h1
      have a2:=jC hnd h2
      rw[e] at a1
      omega
     have ta:=hnt _ (ak h1)
     have tb:=hnt _ (ak h2)
     have ma:=mq _ (ak h1)
     have mb:=mq _ (ak h2)
     rw[oO h2,dA] at hg
     try simp -implicitDefEqProofs only[go_sem,Z1,Z2,Z3,Z4,h2,h1]
     refine sI ?_
     refine aD [] hco ?_
     refine sI ?_
     cases h3:Mod.linked nums ab i k
     ·have hl1:=pX nums[i] nums[k] ta tb jv
      have hl2:=pX nums[k] nums[i] tb ta (Ne.symm jv)
      have ht1:=yG ab (dz nums[i] nums[k])
      have ht2:=yG ab (dz nums[k] nums[i])
      have e1:told ab (dz nums[i] nums[k])=eM nums ab i k:=by rw[←ga,←gb];exact Dg
      have e2:told ab (dz nums[k] nums[i])=eM nums ab k i:=by rw[←ga,←gb];exact Dg
      rw[e1] at ht1
      rw[e2] at ht2
      have eo:dY false au nums c ab i k=(!eM nums ab i k&& !eM nums ab k i):=by rw[CR,h3];rfl
      simp only[eo] at hg
      try simp -implicitDefEqProofs only[go_sem,Z1,Z2,Z3,Z4]
      refine sI ?_
      refine aD [] hl1 ?_
      refine sI ?_
      refine aD [] ht1 ?_
      refine sI ?_
      cases h5:eM nums ab i k
      ·rw[h5] at hg
       try simp -implicitDefEqProofs only[go_sem,Z1,Z2,Z3,Z4]
       refine sI ?_
       refine aD [] hl2 ?_
       refine sI ?_
       refine aD [] ht2 ?_
       refine sI ?_
       cases h6:eM nums ab k i
       ·rw[h6] at hg
        simp only[iU,Bool.and_self] at hg
        try simp -implicitDefEqProofs only[go_sem,Z1,Z2,Z3,Z4]
        refine sI ?_
        refine an ?_
        refine sB ?_
        rw[hg]
        ((repeat' apply ar)<;>rfl)
       ·rw[h6] at hg
        simp only[iU,kE,Bool.and_false] at hg
        try simp -implicitDefEqProofs only[go_sem,Z1,Z2,Z3,Z4]
        refine sJ ?_
        refine⟨k+1,?_,sL,aw [some 0] ?_ ?_ rfl rfl⟩
        rotate_left
        ·refine sB ?_
         all_goals(first|done|(simp[aq, *];done)|(simp[aq];done)|(simp;omega)|skip)
        ·refine sB ?_
         all_goals(first|done|(simp[aq, *];done)|(simp[aq];done)|(simp;omega)|skip)
        exact⟨by omega,by omega,hg⟩
      ·rw[h5] at hg
       simp only[kE,aS] at hg
       try simp -implicitDefEqProofs only[go_sem,Z1,Z2,Z3,Z4]
       refine sJ ?_
       refine⟨k+1,?_,sL,aw [some 0] ?_ ?_ rfl rfl⟩
       rotate_left
       ·refine sB ?_
        all_goals(first|done|(simp[aq, *];done)|(simp[aq];done)|(simp;omega)|skip)
       ·refine sB ?_
        all_goals(first|done|(simp[aq, *];done)|(simp[aq];done)|(simp;omega)|skip)
       exact⟨by omega,by omega,hg⟩
     ·have eo:dY false au nums c ab i k=false:=by rw[CR,h3];rfl
      simp only[eo] at hg
      try simp -implicitDefEqProofs only[go_sem,Z1,Z2,Z3,Z4]
      refine sJ ?_
      refine⟨k+1,?_,sL,aw [some 0] ?_ ?_ rfl rfl⟩
      rotate_left
      ·refine sB ?_
       all_goals(first|done|(simp[aq, *];done)|(simp[aq];done)|(simp;omega)|skip)
      ·refine sB ?_
       all_goals(first|done|(simp[aq, *];done)|(simp[aq];done)|(simp;omega)|skip)
      exact⟨by omega,by omega,hg⟩
    ·rw[qb (by omega)] at hg
     try simp -implicitDefEqProofs only[go_sem,Z1,Z2,Z3,Z4,h2]
     refine sJ ?_
     refine⟨i+1,?_,sL,aw [some 0] ?_ ?_ rfl rfl⟩
     rotate_left
     ·refine sB ?_
      all_goals(first|done|(simp[aq, *];done)|(simp[aq];done)|(simp;omega)|skip)
     ·refine sB ?_
      all_goals(first|done|(simp[aq, *];done)|(simp[aq];done)|(simp;omega)|skip)
     exact⟨by omega,hg⟩
  ·rw[oE (by omega),jM] at hg
   try simp -implicitDefEqProofs only[go_sem,Z1,Z2,Z3,Z4,h1]
   refine sI ?_
   refine an ?_
   refine sB ?_
   rw[hg]
   ((repeat' apply ar)<;>rfl)
theorem vH(au nums:List Term)(eqs:List iy)(c:List Nat)(a b:Term)(hk:gQ au)(ki:∀e∈eqs,e.A∈au∧e.B∈au)(oW:au.length≤1000)(hk9:∀t∈au,t.kids.length≤1000)(he9:eqs.length≤1000)(ha:a∈au)(hb:b∈au)(hab:fS au (closed au eqs).1 a b=true) :
 C E.P 63 [av (qV au nums eqs c),av (cT a),av (cT b)] [] (bM (av (oX (lX au (closed au eqs).2 a b))) []):=by
 have hkept:=mu (ae:=au) (eqs:=eqs) ki
 have hsl:(closed au eqs).2.length≤2000000:=by
  have h1:=vh hkept (closed au eqs).2.length (aI _)
  have h2:(bt au.length).sum≤(bt au.length).length*1000:=pw fun x hx=>by have:=fc.1 hx;omega
  have h3:(bt au.length).length*1000≤1000*1000:=Nat.mul_le_mul_right _ (by simpa using oW)
  omega
 have hcl:cl (aV au.length (closed au eqs).2 (closed au eqs).2.length) (aH au a)=cl (aV au.length (closed au eqs).2 (closed au eqs).2.length) (aH au b):=by
  rw[←hkept.2]
  simpa[fS] using hab
 have cA:=b7 ha
 have cB:=b7 hb
 have hw:=KC au eqs (closed au eqs).2 hkept.1 hk oW hk9 hsl ((closed au eqs).2.length+1) (closed au eqs).2.length (aH au a) (aH au b) (by omega) (aI _) (bx ha) (bx hb) hcl
 refine gT (nt:=31) (rs:=[.cell 6 37]) hm Tryz.func63 fun hl he cI=>?_
 try simp -implicitDefEqProofs only[go_sem,Z1,Z2,Z3,Z4]
 refine sI ?_
 refine aD [] (BA au eqs hk ki oW hk9 he9) ?_
 refine sI ?_
 try simp -implicitDefEqProofs only[go_sem,Z1,Z2,Z3,Z4]
 refine sI ?_
 refine bQ [] (cL au a) ?_ ?_<;>simp -implicitDefEqProofs only[go_sem,Z1,Z2,Z3,Z4,cA]
 refine sI ?_
 try simp -implicitDefEqProofs only[go_sem,Z1,Z2,Z3,Z4,cA]
 refine sI ?_
 refine bQ [] (cL au b) ?_ ?_<;>simp -implicitDefEqProofs only[go_sem,Z1,Z2,Z3,Z4,cB]
 refine sI ?_
 try simp -implicitDefEqProofs only[go_sem,Z1,Z2,Z3,Z4,cB]
 refine sI ?_
 refine aD [] hw ?_
 refine sI ?_
 refine an ?_
 refine sB ?_
 ((repeat' apply ar)<;>rfl)
theorem Ss{ts:List Term}{t:Term}(h:t∈ts):ts[aH ts t]'(bx h)=t:=(List.getElem?_eq_some_iff.1 (iH h)).2
theorem Bt(au nums:List Term)(eqs:List iy)(c:List Nat)(aE:List Mod.Rat)(t:Term)(ht:t∈au)(hc:c.length=au.length)(h4v:aE.length=4)(h4:nums.length≤4):C E.P 143 [av (qV au nums eqs c),lv (br aE),iv (aH au t)] [] (bM (av (eO (iI au nums c aE t))) []):=by
 have hi:=bx ht
 have ht2:=Ss ht
 refine gS (nt:=28) (rs:=[.cell 6 71]) hm Tryz.func143 fun hl he cI=>?_
 simp -implicitDefEqProofs only[go_sem,hi,ht2]
 refine aC [] (cL nums t) ?_
 refine iK ?_
 rcases aa (t∈nums) with hn|hn
 ·have pN:=bx hn
  have cN:=b7 hn
  have pN':aH nums t<aE.length:=by omega
  have nn:(0:Int)≤(aH nums t:Int):=by omega
  have e:iI au nums c aE t=aE[aH nums t]:=by rw[iI,if_neg (by omega),getD_at pN']
  simp -implicitDefEqProofs only[go_sem,cN,nn,pN']
  refine an ?_
  refine sA ?_
  rw[e]
  ((repeat' apply ar)<;>rfl)
 ·have h3:¬ (0:Int)≤bL nums t:=fun h=>hn (cK.1 h)
  have pc:aH au t<c.length:=by omega
  have ec:c[aH au t]=cl c (aH au t):=(gL pc).symm
  have e:iI au nums c aE t=whole (cl c (aH au t)):=by rw[iI,if_pos (by omega)]
  simp -implicitDefEqProofs only[go_sem,h3,pc,ec]
  refine an ?_
  refine sA ?_
  rw[e]
  ((repeat' apply ar)<;>rfl)
theorem Gl(rows:List Mod.Row)(r:Mod.Row)(i:Nat):m0 (i-0) (fm 0 (bT rows))++[qC r]++m0 (rows.length-i) (fm i (bT rows))=bT (rows.take i++r::rows.drop i):=by
 have h1:m0 (rows.length-i) (fm i (bT rows))=bT (rows.drop i):=by
  rw[ao (by simp[bT])]
  simp[bT,List.map_drop]
 rw[h1]
 simp[bT,List.map_take]
theorem KO(rows:List Mod.Row)(r:Mod.Row)(oW:rows.length≤1000):C E.P 144 [lv (bT rows),av (qC r)] [] (bM (lv (bT (nC rows r))) []):=by
 refine gS (nt:=61) (rs:=[.tmp 4]) hm Tryz.func144 fun hl he cI=>?_
 refine aO hm (fun(i:Nat)=> i≤rows.length∧r5 (fun x=>dq x r) rows i) (fun(i:Nat)=> ⟨dB 61 .any [(0,lv (bT rows)),(3,.ptr 0 0),(5,iv i)],[some (.box (cF (qC r)))]⟩) (fun(i:Nat)=> rows.length-i) (0) ?_ (aw [some 0] ?_ ?_ rfl rfl) ?_
 rotate_left
 ·exact sC
 ·exact sC
 rotate_left
 ·exact⟨bh _,r5.zero _ _⟩
 ·rintro i ⟨hi,hg⟩
  have L1:(fm i (bT rows)).length=rows.length-i:=by simp[bT]
  have L0:(fm 0 (bT rows)).length=rows.length:=by simp[bT]
  have f1:i≤rows.length∧∀y∈bT rows,y.length=4:=⟨by omega,wG _⟩
  have f2:(∀y∈m0 (rows.length-i) (fm i (bT rows)),y.length=4)∧min (rows.length-i) (fm i (bT rows)).length≤LB∧min (rows.length-i) (fm i (bT rows)).length*56≤140737488355328:=⟨fun y hy=>wG _ y (fA (eV hy)),by omega,by omega⟩
  have f3:(∀y∈m0 (i-0) (fm 0 (bT rows)),y.length=4)∧min (i-0) (fm 0 (bT rows)).length≤LB∧min (i-0) (fm 0 (bT rows)).length*56≤140737488355328:=⟨fun y hy=>wG _ y (fA (eV hy)),by omega,by omega⟩
  have f4:min (i-0) (fm 0 (bT rows)).length+1≤LB∧(min (i-0) (fm 0 (bT rows)).length+1)*56≤140737488355328:=⟨by omega,by omega⟩
  rcases aa (i<rows.length) with h1|h1
  ·have hco:=yj rows[i] r
   have hd:=aj h1
   simp -implicitDefEqProofs only[go_sem,h1]
   refine aC [] hco ?_
   refine iK ?_
   cases h2:dq rows[i] r
   ·obtain⟨e1,e2⟩:=hg.stop h1 h2
    rcases aa (rows[i].name=r.name) with h3|h3
    ·have k3:=eq_true h3
     have hco2:=yE rows[i].args r.args
     simp -implicitDefEqProofs only[go_sem,h1,k3]
     refine aC [] hco2 ?_
     refine iK ?_
     rcases aa (rows[i].args=r.args) with h4|h4
     ·have e:nC rows r=rows:=by rw[nC,e2];exact if_pos ⟨h3,h4⟩
      have k4:=decide_eq_true h4
      simp -implicitDefEqProofs only[go_sem,k4]
      refine an ?_
      refine sA ?_
      rw[e]
     ·have e:nC rows r=rows.take i++r::rows.drop i:=by rw[nC,e2,e1,hd];exact if_neg fun h=>h4 h.2
      have k4:=decide_eq_false h4
      simp -implicitDefEqProofs only[go_sem,k4]
      refine sQ ?_
      refine an ?_
      refine sA ?_
      rw[e,←Gl]
      rfl
    ·have e:nC rows r=rows.take i++r::rows.drop i:=by rw[nC,e2,e1,hd];exact if_neg fun h=>h3 h.1
     simp -implicitDefEqProofs only[go_sem,h1,h3]
     refine iK ?_
     refine sQ ?_
     refine an ?_
     refine sA ?_
     rw[e,←Gl]
     rfl
   ·refine sA ?_
    refine sQ ?_
    refine⟨i+1,?_,sL,aw [some 0] ?_ ?_ rfl rfl⟩
    rotate_left
    ·exact sC
    ·exact sC
    exact⟨by omega,hg.step h1 h2⟩
  ·obtain⟨e1,e2⟩:=hg.done (by omega)
   have e:nC rows r=rows.take i++r::rows.drop i:=by rw[nC,e2,e1,ao (by omega),al (by omega)]
   simp -implicitDefEqProofs only[go_sem,h1]
   refine iK ?_
   refine sQ ?_
   refine an ?_
   refine sA ?_
   rw[e,←Gl]
   rfl
theorem DZ(s:dE)(m:Mod.Model)(ab:List bp):C E.P 71 [av (dZ s),av (eL m),lv (a6 ab)] [] (bM (bv (eS s m ab)) []):=by
 refine gS (nt:=35) (rs:=[.tmp 6]) hm Tryz.func71 fun hl he cI=>?_
 refine aO hm (fun(i:Nat)=> i≤ab.length∧eS s m ab=(e6 s m&&(ab.drop i).all fun l=>decide (fW s m l=some true))) (fun(i:Nat)=> ⟨dB 35 .any [(2,lv (a6 ab)),(3,.ptr 0 0),(4,.ptr 1 0),(7,iv i)],[some (.box (cF (dZ s))),some (.box (cF (eL m)))]⟩) (fun(i:Nat)=> ab.length-i) (0) ?_ (aw [some 0,some 1] ?_ ?_ rfl rfl) ?_
 rotate_left
 ·exact sC
 ·exact sC
 rotate_left
 ·exact⟨bh _,rfl⟩
 ·rintro i ⟨hi,hg⟩
  rcases aa (i<ab.length) with h1|h1
  ·rw[aj h1,List.all_cons] at hg
   have hco:=DE s m ab[i]
   simp -implicitDefEqProofs only[go_sem,h1]
   refine aC [] hco ?_
   refine iK ?_
   cases h2:fW s m ab[i] with
   | none=>
     rw[h2] at hg
     simp -implicitDefEqProofs only[go_sem,Option.isSome_none,Option.getD_none]
     refine an ?_
     refine sA ?_
     all_goals(simp[hg];done)
   | some b=>
     rw[h2] at hg
     cases b
     ·simp -implicitDefEqProofs only[go_sem,aJ,aK]
      refine an ?_
      refine sA ?_
      all_goals(simp[hg];done)
     ·simp only[decide_true,aM] at hg
      simp -implicitDefEqProofs only[go_sem,aJ,aK]
      refine sQ ?_
      refine⟨i+1,?_,sL,aw [some 0,some 1] ?_ ?_ rfl rfl⟩
      rotate_left
      ·exact sC
      ·exact sC
      exact⟨by omega,hg⟩
  ·rw[al (by omega),List.all_nil,Bool.and_true] at hg
   simp -implicitDefEqProofs only[go_sem,h1]
   refine aC [] (wE s m) ?_
   refine an ?_
   refine sA ?_
   rw[hg]
theorem Gb(au nums:List Term)(eqs:List iy)(c:List Nat)(aE:List Mod.Rat)(hk:gQ au)(hnd:au.Nodup)(hc:c.length=au.length)(NU:∀x∈c,x≤1000)(h4v:aE.length=4)(hv9:∀x∈aE,bV x=true)(h4:nums.length≤4)(oW:au.length≤1000)(hk9:∀t∈au,t.kids.length≤1000) :
 C E.P 70 [av (qV au nums eqs c),lv (br aE)] [] (bM (av (eL ⟨gY au nums c aE⟩)) []):=by
 refine gS (nt:=64) (rs:=[.cell 4 31]) hm Tryz.func70 fun hl he cI=>?_
 refine dm hm (fun(i:Nat) (rows:List Mod.Row)=> i≤au.length∧rows.length≤i∧(∀x∈rows,dC x.args=true)∧gY au nums c aE=(au.drop i).foldl (fun rows t=>putRow rows (iA au nums c aE t)) rows) (fun(i:Nat) (rows:List Mod.Row)=> ⟨dB 64 .any [(1,lv (br aE)),(2,.ptr 0 0),(4,.ptr 1 0),(5,lv (bT rows)),(6,iv i)],[some (.box (cF (qV au nums eqs c))),some (.box (cF (eL l8)))]⟩) (fun(i:Nat) (rows:List Mod.Row)=> au.length-i) (0) ([]) ?_ (aw [some 0,some 1] ?_ ?_ rfl rfl) ?_
 rotate_left
 ·refine sA ?_
  all_goals(rfl)
 ·refine sA ?_
  all_goals(rfl)
 rotate_left
 ·exact⟨bh _,aI _,fun x hx=>(by simp at hx),rfl⟩
 ·rintro i rows ⟨hi,hrl,hro,hg⟩
  rcases aa (i<au.length) with h1|h1
  ·have mt:=ak h1
   have kt:=hk _ mt
   have kl:=hk9 _ mt
   have hp:aH au au[i]=i:=by
    have:=jC hnd h1
    unfold aH
    omega
   have hv:=Bt au nums eqs c aE au[i] mt hc h4v h4
   rw[hp] at hv
   rw[aj h1,gk] at hg
   obtain⟨t,ht⟩:∃t,au[i]=t:=⟨_,rfl⟩
   rw[ht] at hv hg kt kl
   simp -implicitDefEqProofs only[go_sem,h1,ht]
   refine aC [] hv ?_
   refine iK ?_
   refine aO hm (fun(j:Nat)=> j≤t.kids.length) (fun(j:Nat)=> ⟨dB 64 .any [(1,lv (br aE)),(2,.ptr 0 0),(4,.ptr 1 0),(5,lv (bT rows)),(6,iv i),(7,.ptr 2 0),(8,iv j)],[some (.box (cF (qV au nums eqs c))),some (.box (cF (eL l8))),some (.box [sv t.name,.acc 3,iv (iI au nums c aE t).N,iv (iI au nums c aE t).D]),some (.acc 71 (br ((t.kids.take j).map (iI au nums c aE))))]⟩) (fun(j:Nat)=> t.kids.length-j) (0) ?_ (aw [some 0,some 1,some 2,none] ?_ ?_ rfl rfl) ?_
   rotate_left
   ·exact sC
   ·exact sC
   rotate_left
   ·omega
   ·rintro j hj
    rcases aa (j<t.kids.length) with h2|h2
    ·have mk:=kt _ (ak h2)
     have hvk:=Bt au nums eqs c aE t.kids[j] mk hc h4v h4
     have ck:=b7 mk
     have hs:(t.kids.take (j+1)).map (iI au nums c aE)=(t.kids.take j).map (iI au nums c aE)++[iI au nums c aE t.kids[j]]:=by
      rw[List.take_add_one,List.getElem?_eq_getElem h2,List.map_append];rfl
     have hsl:((t.kids.take j).map (iI au nums c aE)).length≤1000:=by simp;omega
     simp -implicitDefEqProofs only[go_sem,h1,ht,h2]
     refine bQ [] (cL au t.kids[j]) ?_ ?_<;>simp -implicitDefEqProofs only[go_sem,ck]
     refine aC [] hvk ?_
     refine sQ ?_
     refine⟨j+1,?_,sL,aw [some 0,some 1,some 2,some 4] ?_ ?_ rfl rfl⟩
     rotate_left
     ·exact sC
     ·refine sA ?_
      all_goals((rw[hs,←sR,uW,s5];rfl))
     exact h2
    ·have et:t.kids.take j=t.kids:=ao (by omega)
     have hput:=KO rows (iA au nums c aE t) (by omega)
     rw[et]
     simp -implicitDefEqProofs only[go_sem,h1,ht,h2]
     refine gp [] [3] (tH (e:=71) (args:=[lv (bT rows),.agg [sv t.name,.acc 0,iv (iI au nums c aE t).N,iv (iI au nums c aE t).D]]) (ik.cons (Vw.same rfl) (ik.cons (Vw.agg (ik.cons (Vw.same rfl) (ik.cons (Vw.acc rfl rfl) (ik.cons (Vw.same rfl) (ik.cons (Vw.same rfl) ik.nil))))) ik.nil)) rfl hput) ?_ ?_<;>simp -implicitDefEqProofs only[go_sem]
     ·rfl
     repeat(with_reducible apply ar;case left=>omega)
     rw[EY (rP NU hv9) hro] at hg
     have dy:=GF rows (iA au nums c aE t)
     have hmem:∀x∈putRow rows (iA au nums c aE t),dC x.args=true:=fun x hx=>by
      rcases GY hx with hx|hx
      ·exact hro x hx
      ·rw[hx];exact rP NU hv9
     rw[EY (rP NU hv9) hro] at dy hmem
     refine⟨i+1,nC rows (iA au nums c aE t),?_,sL,aw [some 0,some 1] ?_ ?_ rfl rfl⟩
     rotate_left
     ·exact sC
     ·exact sC
     exact⟨by omega,by omega,hmem,hg⟩
  ·rw[al (by omega),List.foldl_nil] at hg
   simp -implicitDefEqProofs only[go_sem,h1]
   refine an ?_
   refine sA ?_
   rw[hg]
end Go.Proofs.YtabembjmeobhoaaGreat
