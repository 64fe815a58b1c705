/-
  The reference: what is asked of literals, one question after the other. A step towards the laws.
-/
import Derived.Test.YtphcpjhkeipggaaGreatKBzb
import Derived.Test.YtphcpjhkeipggaaGreatKBe
import Derived.Test.YtphcpjhkeipggaaGreatKBEl
set_option linter.unusedVariables false
set_option linter.unusedSimpArgs false
open Int renaming reduceEq→Z1,reduceLT→Z2,reduceLE→Z3,reduceToNat→Z4
open And renaming intro→an
open Bool renaming true_and→aA,false_and→aI,not_false→gU,not_true→kj,false_or→mJ
open Classical renaming em→aa
open List renaming drop_eq_getElem_cons→ae,getElem_mem→aj,drop_of_length_le→ak,take_of_length_le→aq,range→bK,mem_of_mem_take→e7,find?_cons→fb,drop→fB,mem_of_mem_drop→gg,mem_range→gz,foldl_cons→gX,find?_nil→lS,take→oj
open Nat renaming le_refl→aK,zero_le→bo
namespace Go.Proofs.YtphcpjhkeipggaaGreat
open Go.Eng Go.Mod
set_option maxRecDepth 100000
set_option maxHeartbeats 3200000
theorem aeR(ay ai:List ax)(bB:List hY)(c:List Nat)(a b:ax)(ha:a∈ay)(hb:b∈ay)(hc:c.length=ay.length):CN 218 [av (uc ay ai bB c),av (cT a),av (cT b)] (bv (ix ay c a b)):=by have pA:=bT ha;have pB:=bT hb;have cA:=cX ha;have cB:=cX hb;have pA':aM ay a<c.length:=oM;have pB':aM ay b<c.length:=oM;have eA:c[aM ay a]=cl c (aM ay a):=(jt pA').symm;have eB:c[aM ay b]=cl c (aM ay b):=(jt pB').symm;refine gS 24 [.tmp 6] hm Tryz.func218 fun hl he cf=>?_;refine aC [] (dG ay a) ?_;refine ot cA pA' eA ?_;refine aC [] (dG ay b) ?_;refine ot cB pB' eB ?_;exact tY
theorem LK(ay ai:List ax)(bB:List hY)(c:List Nat)(ab:List bL)(hc:c.length=ay.length)(kI:∀l∈ab,l.aN.kind=1→l.aN.A∈ay∧l.aN.B∈ay):CN 135 [av (uc ay ai bB c),lv (bh ab)] (iv (atI (nE (lV ay c) ab))):=by refine gS 37 [.tmp 4] hm Tryz.func135 fun hl he cf=>?_;refine kC hm ab.length (fun(i:Nat)=>nE (lV ay c) ab=yx (lV ay c) ab i) (fun i=>⟨dN 37 .any [(1,lv (bh ab)),(2,.bA 0 0),(5,iv i)],[some (.box (dm (uc ay ai bB c)))]⟩) ?_ (cM fe) ?_;exact⟨bo _,K3 _ _⟩;rintro i ⟨hi,hg⟩;rcases aa (i<ab.length) with h1|h1;rw[HN h1] at hg;have hl:=kI _ (aj h1);have ec:lV ay c ab[i]=(ab[i].no&&(decide (ab[i].aN.kind=1)&&ix ay c ab[i].aN.A ab[i].aN.B)):=rfl;cases h2:ab[i].no;rw[ec,h2,aI,if_neg (by simp)] at hg;refine oH h1 h2 ?_;exact⟨i+1,⟨oM,hg⟩,sL,cM fe⟩;rcases aa (ab[i].aN.kind=1) with h3|h3;have k3:=eq_true h3;have hab:=hl h3;have hco:=aeR ay ai bB c ab[i].aN.A ab[i].aN.B hab.1 hab.2 hc;rw[ec,h2,decide_eq_true h3,aA,aA] at hg;refine ot h1 h2 k3 ?_;refine aC [] hco ?_;cases h4:ix ay c ab[i].aN.A ab[i].aN.B;rw[h4,if_neg (by simp)] at hg;refine bt ?_;exact⟨i+1,⟨oM,hg⟩,sL,cM fe⟩;rw[h4,if_pos rfl] at hg;exact dD hg;rw[ec,h2,decide_eq_false h3,aA,aI,if_neg (by simp)] at hg;refine gL h1 h2 h3 ?_;exact⟨i+1,⟨oM,hg⟩,sL,cM fe⟩;rw[Mc oM] at hg;exact gG h1 hg
theorem zN(ai:List ax)(ab:List bL)(i k:Nat)(hi:i<ai.length)(hk:k<ai.length)(h4:ai.length≤4)(qF:ab.length≤100)(he9:∀e∈br ab,(e.A∈ai↔e.B∈ai)):CN 230 [lv (aU ai),lv (bh ab),iv i,iv k] (bv (Mod.gp ai ab i k)):=by
 have hlk:=Uh he9 hi hk;have hel:(br ab).length≤100:=Nat.le_trans (List.length_filterMap_le _ _) qF;refine gS 61 [.tmp 8] hm Tryz.func230 fun hl he cf=>?_;refine jr hm ai.length (fun j=>⟨dN 61 .any [(0,lv (aU ai)),(1,lv (bh ab)),(2,iv i),(3,iv k),(9,.aX 0),(10,iv j)],[some (.aX 3 (db (bK j)))]⟩) (cM fe) ?_;rintro j hj;have hrl:(bK j).length=j:=List.length_range;rcases aa (j<ai.length) with h1|h1;refine du h1 ?_;exact⟨j+1,h1,sL,aZ [some 1] sC (by refine sA ?_;(rw[←oh];rfl)) rfl rfl⟩;obtain rfl:j=ai.length:=oM;refine bH h1 ?_;refine aC [] (EW ab qF) ?_;clear hj h1;refine ry hm ((br ab).length) (fun(n:Nat) (c:List Nat)=>c.length=ai.length∧(∀x∈c,x≤1000)∧UE ai (br ab)=((br ab).drop n).foldl (l6 ai) c) (fun n c=>⟨dN 61 .any [(0,lv (aU ai)),(2,iv i),(3,iv k),(9,.aX 0),(11,lv (dF (br ab))),(12,iv n)],[some (.aX 3 (db c))]⟩) (bK ai.length) ?_ (cM fe) ?_;exact⟨bo _,hrl,fun x hx=>by have:=gz.1 hx;omega,rfl⟩;rintro n c ⟨hn,hc,hm9,hg⟩;rcases aa (n<(br ab).length) with h1|h1;have hab:=he9 _ (aj h1);rw[ae h1,gX] at hg;rcases aa ((br ab)[n].A∈ai) with h2|h2;have h3:=hab.1 h2;have pA:=bT h2;have pB:=bT h3;have cA:=cX h2;have cB:=cX h3;have es:l6 ai c (br ab)[n]=iw c (aM ai (br ab)[n].A) (aM ai (br ab)[n].B):=by rw[l6,if_neg oM]
 have hj1:=hU c (aM ai (br ab)[n].A) (aM ai (br ab)[n].B);have hj2:=Ba (a:=aM ai (br ab)[n].A) (b:=aM ai (br ab)[n].B) hm9;have cj:=xv c (aM ai (br ab)[n].A) (aM ai (br ab)[n].B) oM oM oM hm9;rw[es] at hg;have nn:(0:Int)≤(aM ai (br ab)[n].A:Int):=oM;refine bH h1 ?_;refine aC [] (dG ai (br ab)[n].A) ?_;refine ot cA nn h1 ?_;refine aC [] (dG ai (br ab)[n].B) ?_;refine bH cB ?_;refine Mw [] [0] cj ?_;exact⟨n+1,iw c (aM ai (br ab)[n].A) (aM ai (br ab)[n].B),⟨oM,oM,hj2,hg⟩,sL,cM fe⟩;have h3:¬ (0:Int)≤b8 ai (br ab)[n].A:=fun h=>h2 (dE.1 h);have es:l6 ai c (br ab)[n]=c:=by rw[l6,if_pos oM]
 rw[es] at hg;refine bH h1 ?_;refine aC [] (dG ai (br ab)[n].A) ?_;refine bH h3 ?_;refine sQ ?_;exact⟨n+1,c,⟨oM,hc,hm9,hg⟩,sL,cM fe⟩;rw[ak oM,List.foldl_nil] at hg;have pi:i<c.length:=oM;have pk:k<c.length:=oM;have ei:c[i]=cl c i:=(jt pi).symm;have ek:c[k]=cl c k:=(jt pk).symm;rw[hg] at hlk;refine gL h1 pi (an pk (an ei ek)) ?_;rw[←hlk]
theorem Cz(ab:List bL)(l:bL):CN 231 [lv (bh ab),av (r9 l)] (bv (lf ab l)):=by
 refine gS 30 [.tmp 4] hm Tryz.func231 fun hl he cf=>?_;refine kC hm ab.length (fun(i:Nat)=>lf ab l=Ov ab l i) (fun i=>⟨dN 30 .any [(0,lv (bh ab)),(3,.bA 0 0),(5,iv i)],[some (.box (dm (r9 l)))]⟩) ?_ (cM fe) ?_;exact⟨bo _,rfl⟩;rintro i ⟨hi,hg⟩;rcases aa (i<ab.length) with h1|h1;rw[U8 h1] at hg;have hco:=tK ab[i].aN l.aN;rcases aa (ab[i].no=l.no) with h2|h2;have k2:(ab[i].no == l.no)=true:=by rw[h2];simp
 rw[k2,aA] at hg;refine iI h1 h2 ?_;refine sa [] hco ?_;rcases aa (ab[i].aN=l.aN) with h3|h3;rw[decide_eq_true h3,Bool.true_or] at hg;have k3:=decide_eq_true h3;exact gG k3 hg;rw[decide_eq_false h3,mJ] at hg;have k3:=decide_eq_false h3;refine du k3 ?_;exact⟨i+1,⟨oM,hg⟩,sL,cM fe⟩;have k2:(ab[i].no == l.no)=false:=by simpa using h2
 rw[k2,aI,mJ] at hg;refine oH h1 k2 ?_;exact⟨i+1,⟨oM,hg⟩,sL,cM fe⟩;rw[Yq oM] at hg;exact gG h1 hg
theorem DM{ay ai:List ax}{c:List Nat}{ab:List bL}{i k:Nat}:fU true ay ai c ab i k=(!Mod.gp ai ab i k&&ix ay c (ai.getD i aQ) (ai.getD k aQ)):=rfl
theorem HD{ay ai:List ax}{c:List Nat}{ab:List bL}{i k:Nat}:fU false ay ai c ab i k=(!Mod.gp ai ab i k&&(!fW ai ab i k&& !fW ai ab k i)):=rfl
theorem Dr(ay ai:List ax)(bB:List hY)(c:List Nat)(ab:List bL)(hc:c.length=ay.length)(h4:ai.length≤4)(qF:ab.length≤100)(hnd:ai.Nodup)(hnt:∀t∈ai,bG t=true)(o4:∀t∈ai,t∈ay)(he9:∀e∈br ab,(e.A∈ai↔e.B∈ai)) :
 CN 139 [av (uc ay ai bB c),lv (bh ab),bv true] (.iZ [iv (((dj ai.length (fU true ay ai c ab)).getD (0,0)).1:Nat),iv (((dj ai.length (fU true ay ai c ab)).getD (0,0)).2:Nat),bv (dj ai.length (fU true ay ai c ab)).isSome]):=by
 obtain⟨fp,hfp⟩:∃f,dj ai.length (fU true ay ai c ab)=f:=⟨_,rfl⟩
 rw[hfp]
 refine gT 74 [.tmp 6,.tmp 7,.tmp 8] hm Tryz.func139 fun hl he cf=>?_
 refine cS hm (fun(i:Nat)=> i≤ai.length∧fp=(ff i ai.length).find? (fun q=>fU true ay ai c ab q.1 q.2)) (fun(i:Nat)=> ⟨dN 74 .any [(1,lv (bh ab)),(2,bv true),(3,.bA 0 0),(9,iv i)],[some (.box (dm (uc ay ai bB c)))]⟩) (fun(i:Nat)=> ai.length-i) (0) ?_ (aZ fe ?_ ?_ rfl rfl) ?_
 rotate_left
 ·refine sB ?_
  all_goals(try exact sM)
 ·refine sB ?_
  all_goals(try exact sM)
 rotate_left
 ·exact⟨bo _,hfp.symm⟩
 ·rintro i ⟨hi,hg⟩
  rcases aa (i<ai.length) with h1|h1
  ·rw[p8 h1] at hg
   try simp -implicitDefEqProofs only[go_sem,Z1,Z2,Z3,Z4,h1]
   refine sJ ?_
   refine cS hm (fun(k:Nat)=> i<k∧k≤ai.length∧fp=(og i k ai.length).find? (fun q=>fU true ay ai c ab q.1 q.2)) (fun(k:Nat)=> ⟨dN 74 .any [(1,lv (bh ab)),(2,bv true),(3,.bA 0 0),(9,iv i),(10,iv k)],[some (.box (dm (uc ay ai bB c)))]⟩) (fun(k:Nat)=> ai.length-k) (i+1) ?_ (aZ fe ?_ ?_ rfl rfl) ?_
   rotate_left
   ·refine sB ?_
    all_goals(try exact sM)
   ·refine sB ?_
    all_goals(try exact sM)
   rotate_left
   ·exact⟨oM,oM,hg⟩
   ·rintro k ⟨hik,hk,hg⟩
    rcases aa (k<ai.length) with h2|h2
    ·have hco:=zN ai ab i k h1 h2 h4 qF he9
     have ga:ai.getD i aQ=ai[i]:=gi h1
     have gb:ai.getD k aQ=ai[k]:=gi h2
     have lj:ai[i]≠ai[k]:=fun e=>by have a1:=lK hnd h1;have a2:=lK hnd h2;rw[e] at a1;omega
     have ta:=hnt _ (aj h1)
     have tb:=hnt _ (aj h2)
     have ma:=o4 _ (aj h1)
     have mb:=o4 _ (aj h2)
     rw[q9 h2,fb] at hg
     try simp -implicitDefEqProofs only[go_sem,Z1,Z2,Z3,Z4,h2,h1]
     refine sI ?_
     refine aD [] hco ?_
     refine sI ?_
     cases h3:Mod.gp ai ab i k
     ·have hone:=aeR ay ai bB c ai[i] ai[k] ma mb hc
      have eo:fU true ay ai c ab i k=ix ay c ai[i] ai[k]:=by rw[DM,h3,ga,gb];rfl
      simp only[eo] at hg
      try simp -implicitDefEqProofs only[go_sem,Z1,Z2,Z3,Z4]
      refine sI ?_
      refine aD [] hone ?_
      refine sI ?_
      cases h5:ix ay c ai[i] ai[k]
      ·rw[h5] at hg
       try simp -implicitDefEqProofs only[go_sem,Z1,Z2,Z3,Z4]
       refine sJ ?_
       refine⟨k+1,?_,sL,aZ fe ?_ ?_ rfl rfl⟩
       rotate_left
       ·refine sB ?_
        all_goals(try exact sM)
       ·refine sB ?_
        all_goals(try exact sM)
       exact⟨oM,oM,hg⟩
      ·rw[h5] at hg
       simp only at hg
       try simp -implicitDefEqProofs only[go_sem,Z1,Z2,Z3,Z4]
       refine sI ?_
       refine oW ?_
       rw[hg]
       ((repeat' apply an)<;>rfl)
     ·have eo:fU true ay ai c ab i k=false:=by rw[DM,h3];rfl
      simp only[eo] at hg
      try simp -implicitDefEqProofs only[go_sem,Z1,Z2,Z3,Z4]
      refine sJ ?_
      refine⟨k+1,?_,sL,aZ fe ?_ ?_ rfl rfl⟩
      rotate_left
      ·refine sB ?_
       all_goals(try exact sM)
      ·refine sB ?_
       all_goals(try exact sM)
      exact⟨oM,oM,hg⟩
    ·rw[sE oM] at hg
     try simp -implicitDefEqProofs only[go_sem,Z1,Z2,Z3,Z4,h2]
     refine sJ ?_
     refine⟨i+1,?_,sL,aZ fe ?_ ?_ rfl rfl⟩
     rotate_left
     ·refine sB ?_
      all_goals(try exact sM)
     ·refine sB ?_
      all_goals(try exact sM)
     exact⟨oM,hg⟩
  ·rw[qM oM,lS] at hg
   try simp -implicitDefEqProofs only[go_sem,Z1,Z2,Z3,Z4,h1]
   refine sI ?_
   refine oW ?_
   rw[hg]
   ((repeat' apply an)<;>rfl)
theorem Ch(ay ai:List ax)(bB:List hY)(c:List Nat)(ab:List bL)(hc:c.length=ay.length)(h4:ai.length≤4)(qF:ab.length≤100)(hnd:ai.Nodup)(hnt:∀t∈ai,bG t=true)(o4:∀t∈ai,t∈ay)(he9:∀e∈br ab,(e.A∈ai↔e.B∈ai)) :
 CN 139 [av (uc ay ai bB c),lv (bh ab),bv false] (.iZ [iv (((dj ai.length (fU false ay ai c ab)).getD (0,0)).1:Nat),iv (((dj ai.length (fU false ay ai c ab)).getD (0,0)).2:Nat),bv (dj ai.length (fU false ay ai c ab)).isSome]):=by
 obtain⟨fp,hfp⟩:∃f,dj ai.length (fU false ay ai c ab)=f:=⟨_,rfl⟩
 rw[hfp]
 refine gT 74 [.tmp 6,.tmp 7,.tmp 8] hm Tryz.func139 fun hl he cf=>?_
 refine cS hm (fun(i:Nat)=> i≤ai.length∧fp=(ff i ai.length).find? (fun q=>fU false ay ai c ab q.1 q.2)) (fun(i:Nat)=> ⟨dN 74 .any [(1,lv (bh ab)),(2,bv false),(3,.bA 0 0),(9,iv i)],[some (.box (dm (uc ay ai bB c)))]⟩) (fun(i:Nat)=> ai.length-i) (0) ?_ (aZ fe ?_ ?_ rfl rfl) ?_
 rotate_left
 ·refine sB ?_
  all_goals(try exact sM)
 ·refine sB ?_
  all_goals(try exact sM)
 rotate_left
 ·exact⟨bo _,hfp.symm⟩
 ·rintro i ⟨hi,hg⟩
  rcases aa (i<ai.length) with h1|h1
  ·rw[p8 h1] at hg
   try simp -implicitDefEqProofs only[go_sem,Z1,Z2,Z3,Z4,h1]
   refine sJ ?_
   refine cS hm (fun(k:Nat)=> i<k∧k≤ai.length∧fp=(og i k ai.length).find? (fun q=>fU false ay ai c ab q.1 q.2)) (fun(k:Nat)=> ⟨dN 74 .any [(1,lv (bh ab)),(2,bv false),(3,.bA 0 0),(9,iv i),(10,iv k)],[some (.box (dm (uc ay ai bB c)))]⟩) (fun(k:Nat)=> ai.length-k) (i+1) ?_ (aZ fe ?_ ?_ rfl rfl) ?_
   rotate_left
   ·refine sB ?_
    all_goals(try exact sM)
   ·refine sB ?_
    all_goals(try exact sM)
   rotate_left
   ·exact⟨oM,oM,hg⟩
   ·rintro k ⟨hik,hk,hg⟩
    rcases aa (k<ai.length) with h2|h2
    ·have hco:=zN ai ab i k h1 h2 h4 qF he9
     have ga:ai.getD i aQ=ai[i]:=gi h1
     have gb:ai.getD k aQ=ai[k]:=gi h2
     have lj:ai[i]≠ai[k]:=fun e=>by have a1:=lK hnd h1;have a2:=lK hnd h2;rw[e] at a1;omega
     have ta:=hnt _ (aj h1)
     have tb:=hnt _ (aj h2)
     have ma:=o4 _ (aj h1)
     have mb:=o4 _ (aj h2)
     rw[q9 h2,fb] at hg
     try simp -implicitDefEqProofs only[go_sem,Z1,Z2,Z3,Z4,h2,h1]
     refine sI ?_
     refine aD [] hco ?_
     refine sI ?_
     cases h3:Mod.gp ai ab i k
     ·have hl1:=sH ai[i] ai[k] ta tb lj
      have hl2:=sH ai[k] ai[i] tb ta (Ne.symm lj)
      have ht1:=Cz ab (fa ai[i] ai[k])
      have ht2:=Cz ab (fa ai[k] ai[i])
      have e1:lf ab (fa ai[i] ai[k])=fW ai ab i k:=by rw[←ga,←gb];exact HJ
      have e2:lf ab (fa ai[k] ai[i])=fW ai ab k i:=by rw[←ga,←gb];exact HJ
      rw[e1] at ht1
      rw[e2] at ht2
      have eo:fU false ay ai c ab i k=(!fW ai ab i k&& !fW ai ab k i):=by rw[HD,h3];rfl
      simp only[eo] at hg
      try simp -implicitDefEqProofs only[go_sem,Z1,Z2,Z3,Z4]
      refine sI ?_
      refine aD [] hl1 ?_
      refine sI ?_
      refine aD [] ht1 ?_
      refine sI ?_
      cases h5:fW ai ab i k
      ·rw[h5] at hg
       try simp -implicitDefEqProofs only[go_sem,Z1,Z2,Z3,Z4]
       refine sI ?_
       refine aD [] hl2 ?_
       refine sI ?_
       refine aD [] ht2 ?_
       refine sI ?_
       cases h6:fW ai ab k i
       ·rw[h6] at hg
        simp only[gU,Bool.and_self] at hg
        try simp -implicitDefEqProofs only[go_sem,Z1,Z2,Z3,Z4]
        refine sI ?_
        refine oW ?_
        rw[hg]
        ((repeat' apply an)<;>rfl)
       ·rw[h6] at hg
        simp only[gU,kj,Bool.and_false] at hg
        try simp -implicitDefEqProofs only[go_sem,Z1,Z2,Z3,Z4]
        refine sJ ?_
        refine⟨k+1,?_,sL,aZ fe ?_ ?_ rfl rfl⟩
        rotate_left
        ·refine sB ?_
         all_goals(try exact sM)
        ·refine sB ?_
         all_goals(try exact sM)
        exact⟨oM,oM,hg⟩
      ·rw[h5] at hg
       simp only[kj,aI] at hg
       try simp -implicitDefEqProofs only[go_sem,Z1,Z2,Z3,Z4]
       refine sJ ?_
       refine⟨k+1,?_,sL,aZ fe ?_ ?_ rfl rfl⟩
       rotate_left
       ·refine sB ?_
        all_goals(try exact sM)
       ·refine sB ?_
        all_goals(try exact sM)
       exact⟨oM,oM,hg⟩
     ·have eo:fU false ay ai c ab i k=false:=by rw[HD,h3];rfl
      simp only[eo] at hg
      try simp -implicitDefEqProofs only[go_sem,Z1,Z2,Z3,Z4]
      refine sJ ?_
      refine⟨k+1,?_,sL,aZ fe ?_ ?_ rfl rfl⟩
      rotate_left
      ·refine sB ?_
       all_goals(try exact sM)
      ·refine sB ?_
       all_goals(try exact sM)
      exact⟨oM,oM,hg⟩
    ·rw[sE oM] at hg
     try simp -implicitDefEqProofs only[go_sem,Z1,Z2,Z3,Z4,h2]
     refine sJ ?_
     refine⟨i+1,?_,sL,aZ fe ?_ ?_ rfl rfl⟩
     rotate_left
     ·refine sB ?_
      all_goals(try exact sM)
     ·refine sB ?_
      all_goals(try exact sM)
     exact⟨oM,hg⟩
  ·rw[qM oM,lS] at hg
   try simp -implicitDefEqProofs only[go_sem,Z1,Z2,Z3,Z4,h1]
   refine sI ?_
   refine oW ?_
   rw[hg]
   ((repeat' apply an)<;>rfl)
theorem zI(ay ai:List ax)(bB:List hY)(c:List Nat)(a b:ax)(hk:jv ay)(kI:∀e∈bB,e.A∈ay∧e.B∈ay)(qF:ay.length≤1000)(hk9:∀t∈ay,t.ar.length≤1000)(he9:bB.length≤1000)(ha:a∈ay)(hb:b∈ay)(hab:ix ay (closed ay bB).1 a b=true) :
 CN 136 [av (uc ay ai bB c),av (cT a),av (cT b)] (av (jn (oi ay (closed ay bB).2 a b))):=by
 have hkept:=oL (al:=ay) (bB:=bB) kI
 have hsl:(closed ay bB).2.length≤2000000:=by
  have h1:=yU hkept (closed ay bB).2.length (aK _);have h2:(bK ay.length).sum≤(bK ay.length).length*1000:=rU fun x hx=>by have:=gz.1 hx;omega
  have h3:(bK ay.length).length*1000≤1000*1000:=Nat.mul_le_mul_right _ (by simpa using qF);omega
 have hcl:cl (a6 ay.length (closed ay bB).2 (closed ay bB).2.length) (aM ay a)=cl (a6 ay.length (closed ay bB).2 (closed ay bB).2.length) (aM ay b):=by rw[←hkept.2];simpa[ix] using hab
 have cA:=cX ha
 have cB:=cX hb
 have hw:=PO ay bB (closed ay bB).2 hkept.1 hk qF hk9 hsl ((closed ay bB).2.length+1) (closed ay bB).2.length (aM ay a) (aM ay b) oM (aK _) (bT ha) (bT hb) hcl
 refine gT 31 [.cell 6 35] hm Tryz.func136 fun hl he cf=>?_
 try simp -implicitDefEqProofs only[go_sem,Z1,Z2,Z3,Z4]
 refine sI ?_
 refine aD [] (FQ ay bB hk kI qF hk9 he9) ?_
 refine sI ?_
 try simp -implicitDefEqProofs only[go_sem,Z1,Z2,Z3,Z4]
 refine sI ?_
 refine dy [] (dG ay a) ?_ ?_<;>simp -implicitDefEqProofs only[go_sem,Z1,Z2,Z3,Z4,cA]
 refine sI ?_
 try simp -implicitDefEqProofs only[go_sem,Z1,Z2,Z3,Z4,cA]
 refine sI ?_
 refine dy [] (dG ay b) ?_ ?_<;>simp -implicitDefEqProofs only[go_sem,Z1,Z2,Z3,Z4,cB]
 refine sI ?_
 try simp -implicitDefEqProofs only[go_sem,Z1,Z2,Z3,Z4,cB]
 refine sI ?_
 refine aD [] hw ?_
 refine sI ?_
 refine oW ?_
 ((repeat' apply an)<;>rfl)
theorem Yg{ts:List ax}{t:ax}(h:t∈ts):ts[aM ts t]'(bT h)=t:=(List.getElem?_eq_some_iff.1 (kz h)).2
theorem Fa(ay ai:List ax)(bB:List hY)(c:List Nat)(aF:List Mod.Rat)(t:ax)(ht:t∈ay)(hc:c.length=ay.length)(h4v:aF.length=4)(h4:ai.length≤4):CN 233 [av (uc ay ai bB c),lv (bQ aF),iv (aM ay t)] (av (fZ (kG ay ai c aF t))):=by
 have hi:=bT ht;have ht2:=Yg ht;refine gS 28 [.cell 6 151] hm Tryz.func233 fun hl he cf=>?_;simp -implicitDefEqProofs only[go_sem,hi,ht2];refine aC [] (dG ai t) ?_;refine iK ?_;rcases aa (t∈ai) with hn|hn
 ·have pN:=bT hn;have cN:=cX hn;have pN':aM ai t<aF.length:=oM;have nn:(0:Int)≤(aM ai t:Int):=oM;have e:kG ay ai c aF t=aF[aM ai t]:=(by rw[kG,if_neg oM,getD_at pN']);simp -implicitDefEqProofs only[go_sem,cN,nn,pN'];refine gZ ?_;rw[e];((repeat' apply an)<;>rfl)
 have h3:¬ (0:Int)≤b8 ai t:=fun h=>hn (dE.1 h);have pc:aM ay t<c.length:=oM;have ec:c[aM ay t]=cl c (aM ay t):=(jt pc).symm;have e:kG ay ai c aF t=whole (cl c (aM ay t)):=by rw[kG,if_pos oM]
 simp -implicitDefEqProofs only[go_sem,h3,pc,ec];refine gZ ?_;rw[e];((repeat' apply an)<;>rfl)
theorem JZ(aw:List Mod.Row)(r:Mod.Row)(i:Nat):oj (i-0) (fB 0 (cu aw))++[tn r]++oj (aw.length-i) (fB i (cu aw))=cu (aw.take i++r::aw.drop i):=by
 have h1:oj (aw.length-i) (fB i (cu aw))=cu (aw.drop i):=by rw[aq (by simp[cu])];simp[cu,List.map_drop]
 rw[h1];simp[cu,List.map_take]
theorem PI(aw:List Mod.Row)(r:Mod.Row)(qF:aw.length≤1000):CN 234 [lv (cu aw),av (tn r)] (lv (cu (qc aw r))):=by
 refine gS 61 [.tmp 4] hm Tryz.func234 fun hl he cf=>?_;refine cS hm (fun(i:Nat)=> i≤aw.length∧vu (fun x=>eS x r) aw i) (fun(i:Nat)=> ⟨dN 61 .any [(0,lv (cu aw)),(3,.bA 0 0),(5,iv i)],[some (.box (dm (tn r)))]⟩) (fun(i:Nat)=> aw.length-i) (0) ?_ (aZ fe ?_ ?_ rfl rfl) ?_;rotate_left;exact sC;exact sC;rotate_left;exact⟨bo _,vu.zero _ _⟩;rintro i ⟨hi,hg⟩;have L1:(fB i (cu aw)).length=aw.length-i:=by simp[cu]
 have L0:(fB 0 (cu aw)).length=aw.length:=by simp[cu]
 have f1:i≤aw.length∧∀y∈cu aw,y.length=4:=⟨oM,Ax _⟩;have f2:(∀y∈oj (aw.length-i) (fB i (cu aw)),y.length=4)∧min (aw.length-i) (fB i (cu aw)).length≤LB∧min (aw.length-i) (fB i (cu aw)).length*56≤140737488355328:=⟨fun y hy=>Ax _ y (gg (e7 hy)),oM,oM⟩;have f3:(∀y∈oj (i-0) (fB 0 (cu aw)),y.length=4)∧min (i-0) (fB 0 (cu aw)).length≤LB∧min (i-0) (fB 0 (cu aw)).length*56≤140737488355328:=⟨fun y hy=>Ax _ y (gg (e7 hy)),oM,oM⟩;have f4:min (i-0) (fB 0 (cu aw)).length+1≤LB∧(min (i-0) (fB 0 (cu aw)).length+1)*56≤140737488355328:=⟨oM,oM⟩;rcases aa (i<aw.length) with h1|h1
 ·have hco:=CZ aw[i] r;have hd:=ae h1;refine uA ?_;refine aC [] hco ?_;refine iK ?_;cases h2:eS aw[i] r
  ·obtain⟨e1,e2⟩:=hg.stop h1 h2;rcases aa (aw[i].name=r.name) with h3|h3;have k3:=eq_true h3;have hco2:=CB aw[i].args r.args;simp -implicitDefEqProofs only[go_sem,h1,k3];refine aC [] hco2 ?_;refine iK ?_;rcases aa (aw[i].args=r.args) with h4|h4;have e:qc aw r=aw:=(by rw[qc,e2];exact if_pos ⟨h3,h4⟩);have k4:=decide_eq_true h4;simp -implicitDefEqProofs only[go_sem,k4];refine gZ ?_;rw[e];have e:qc aw r=aw.take i++r::aw.drop i:=(by rw[qc,e2,e1,hd];exact if_neg fun h=>h4 h.2);have k4:=decide_eq_false h4;simp -implicitDefEqProofs only[go_sem,k4];refine sQ ?_;refine gZ ?_;rw[e,←JZ];rfl;have e:qc aw r=aw.take i++r::aw.drop i:=(by rw[qc,e2,e1,hd];exact if_neg fun h=>h3 h.1);simp -implicitDefEqProofs only[go_sem,h1,h3];refine iK ?_;refine sQ ?_;refine gZ ?_;rw[e,←JZ];rfl
  refine sA ?_;refine sQ ?_;refine⟨i+1,?_,sL,aZ fe ?_ ?_ rfl rfl⟩;rotate_left;exact sC;exact sC;exact⟨oM,hg.step h1 h2⟩
 obtain⟨e1,e2⟩:=hg.done oM;have e:qc aw r=aw.take i++r::aw.drop i:=by rw[qc,e2,e1,aq oM,ak oM]
 refine uA ?_;refine iK ?_;refine sQ ?_;refine gZ ?_;rw[e,←JZ];rfl
theorem IL(s:eM)(m:Mod.dQ)(ab:List bL):CN 144 [av (eP s),av (fX m),lv (bh ab)] (bv (jH s m ab)):=by
 refine gS 35 [.tmp 6] hm Tryz.func144 fun hl he cf=>?_;refine cS hm (fun(i:Nat)=> i≤ab.length∧jH s m ab=(fR s m&&(ab.drop i).all fun l=>decide (iy s m l=some true))) (fun(i:Nat)=> ⟨dN 35 .any [(2,lv (bh ab)),(3,.bA 0 0),(4,.bA 1 0),(7,iv i)],[some (.box (dm (eP s))),some (.box (dm (fX m)))]⟩) (fun(i:Nat)=> ab.length-i) (0) ?_ (aZ kR ?_ ?_ rfl rfl) ?_;rotate_left;exact sC;exact sC;rotate_left;exact⟨bo _,rfl⟩;rintro i ⟨hi,hg⟩;rcases aa (i<ab.length) with h1|h1
 ·rw[ae h1,List.all_cons] at hg;have hco:=Jg s m ab[i];refine uA ?_;refine aC [] hco ?_;refine iK ?_;cases h2:iy s m ab[i] with
  | none=>rw[h2] at hg;refine uK ?_;refine gZ ?_;all_goals(simp[hg];done)
  | some b=>
   rw[h2] at hg;cases b
   ·refine uL ?_;refine gZ ?_;all_goals(simp[hg];done)
   simp only[decide_true,aA] at hg;refine uL ?_;refine sQ ?_;refine⟨i+1,?_,sL,aZ kR ?_ ?_ rfl rfl⟩;rotate_left;exact sC;exact sC;exact⟨oM,hg⟩
 rw[ak oM,List.all_nil,Bool.and_true] at hg;refine uA ?_;refine aC [] (A7 s m) ?_;refine gZ ?_;rw[hg]
theorem Ks(ay ai:List ax)(bB:List hY)(c:List Nat)(aF:List Mod.Rat)(hk:jv ay)(hnd:ay.Nodup)(hc:c.length=ay.length)(TV:∀x∈c,x≤1000)(h4v:aF.length=4)(hv9:∀x∈aF,cP x=true)(h4:ai.length≤4)(qF:ay.length≤1000)(hk9:∀t∈ay,t.ar.length≤1000) :
 CN 143 [av (uc ay ai bB c),lv (bQ aF)] (av (fX ⟨jT ay ai c aF⟩)):=by
 refine gS 64 [.cell 4 51] hm Tryz.func143 fun hl he cf=>?_
 refine jI hm (fun(i:Nat) (aw:List Mod.Row)=> i≤ay.length∧aw.length≤i∧(∀x∈aw,fg x.args=true)∧jT ay ai c aF=(ay.drop i).foldl (fun aw t=>putRow aw (j9 ay ai c aF t)) aw) (fun(i:Nat) (aw:List Mod.Row)=> ⟨dN 64 .any [(1,lv (bQ aF)),(2,.bA 0 0),(4,.bA 1 0),(5,lv (cu aw)),(6,iv i)],[some (.box (dm (uc ay ai bB c))),some (.box (dm (fX oo)))]⟩) (fun(i:Nat) (aw:List Mod.Row)=> ay.length-i) (0) ([]) ?_ (aZ kR ?_ ?_ rfl rfl) ?_
 rotate_left
 ·refine sA ?_
  all_goals(rfl)
 ·refine sA ?_
  all_goals(rfl)
 rotate_left
 ·exact⟨bo _,aK _,fun x hx=>(by simp at hx),rfl⟩
 ·rintro i aw ⟨hi,hrl,hro,hg⟩
  rcases aa (i<ay.length) with h1|h1
  ·have mt:=aj h1
   have kt:=hk _ mt
   have kl:=hk9 _ mt
   have hp:aM ay ay[i]=i:=by have:=lK hnd h1;unfold aM;omega
   have hv:=Fa ay ai bB c aF ay[i] mt hc h4v h4
   rw[hp] at hv
   rw[ae h1,gX] at hg
   obtain⟨t,ht⟩:∃t,ay[i]=t:=⟨_,rfl⟩
   rw[ht] at hv hg kt kl
   simp -implicitDefEqProofs only[go_sem,h1,ht]
   refine aC [] hv ?_
   refine iK ?_
   refine cS hm (fun(j:Nat)=> j≤t.ar.length) (fun(j:Nat)=> ⟨dN 64 .any [(1,lv (bQ aF)),(2,.bA 0 0),(4,.bA 1 0),(5,lv (cu aw)),(6,iv i),(7,.bA 2 0),(8,iv j)],[some (.box (dm (uc ay ai bB c))),some (.box (dm (fX oo))),some (.box [sv t.name,.aX 3,iv (kG ay ai c aF t).N,iv (kG ay ai c aF t).D]),some (.aX 151 (bQ ((t.ar.take j).map (kG ay ai c aF))))]⟩) (fun(j:Nat)=> t.ar.length-j) (0) ?_ (aZ [some 0,some 1,some 2,none] ?_ ?_ rfl rfl) ?_
   rotate_left
   ·exact sC
   ·exact sC
   rotate_left
   ·omega
   ·rintro j hj
    rcases aa (j<t.ar.length) with h2|h2
    ·have mk:=kt _ (aj h2)
     have hvk:=Fa ay ai bB c aF t.ar[j] mk hc h4v h4
     have ck:=cX mk
     have hs:(t.ar.take (j+1)).map (kG ay ai c aF)=(t.ar.take j).map (kG ay ai c aF)++[kG ay ai c aF t.ar[j]]:=by rw[List.take_add_one,List.getElem?_eq_getElem h2,List.map_append];rfl
     have hsl:((t.ar.take j).map (kG ay ai c aF)).length≤1000:=by simp;omega
     simp -implicitDefEqProofs only[go_sem,h1,ht,h2]
     refine dy [] (dG ay t.ar[j]) ?_ ?_<;>simp -implicitDefEqProofs only[go_sem,ck]
     refine aC [] hvk ?_
     refine sQ ?_
     refine⟨j+1,?_,sL,aZ [some 0,some 1,some 2,some 4] ?_ ?_ rfl rfl⟩
     rotate_left
     ·exact sC
     ·refine sA ?_
      all_goals((rw[hs,←wY,zr,w5];rfl))
     exact h2
    ·have et:t.ar.take j=t.ar:=aq oM
     have hput:=PI aw (j9 ay ai c aF t) oM
     rw[et]
     simp -implicitDefEqProofs only[go_sem,h1,ht,h2]
     refine lx [] [3] (xn (e:=151) (args:=[lv (cu aw),.agg [sv t.name,.aX 0,iv (kG ay ai c aF t).N,iv (kG ay ai c aF t).D]]) sV rfl hput) ?_ ?_<;>simp -implicitDefEqProofs only[go_sem]
     ·rfl
     repeat(with_reducible apply an;case left=>omega)
     rw[Ke (vS TV hv9) hro] at hg
     have eO:=J2 aw (j9 ay ai c aF t)
     have hmem:∀x∈putRow aw (j9 ay ai c aF t),fg x.args=true:=fun x hx=>by rcases Lb hx with hx|hx;exact hro x hx;rw[hx];exact vS TV hv9
     rw[Ke (vS TV hv9) hro] at eO hmem
     refine⟨i+1,qc aw (j9 ay ai c aF t),?_,sL,aZ kR ?_ ?_ rfl rfl⟩
     rotate_left
     ·exact sC
     ·exact sC
     exact⟨oM,oM,hmem,hg⟩
  ·rw[ak oM,List.foldl_nil] at hg
   refine uA ?_
   refine gZ ?_
   rw[hg]
end Go.Proofs.YtphcpjhkeipggaaGreat
