/-
  The program: the walks of clauses and of unit propagation. A step towards the exact laws.
-/
import Derived.Test.YtgpjhjalfakpoaaGreatKBi
import Derived.Test.YtgpjhjalfakpoaaGreatKBEa
set_option linter.unusedVariables false
set_option linter.unusedSimpArgs false
open And renaming intro→ay
open Bool renaming false_eq_true→al,true_and→az,false_and→aK
open Classical renaming em→aa
open List renaming drop_eq_getElem_cons→af,drop_of_length_le→ag,getElem_mem→ah,take_of_length_le→an,length_append→ao,length_cons→aq,length_take→aO,length_map→bl,flatten_cons→bU,length_eq_zero_iff→cd,length_eq_one_iff→cj,length_singleton→cq,length_set→dw,getElem?_map→dQ,length_drop→ey,map_append→iZ
open Nat renaming le_refl→ar
namespace Go.Proofs.YtgpjhjalfakpoaaGreat
open Go.Eng Go.Mod
open Int renaming reduceEq→Z1,reduceLT→Z2,reduceLE→Z3,reduceToNat→Z4
set_option maxRecDepth 100000
set_option maxHeartbeats 800000
theorem ua(f:Nat)(cap:List PV)(fV:oo 0 cap=true)(p:(List Int)→Bool)(xs:List (List Int))(hf:∀x∈xs,C E.P f (lv (aM x)::cap) [] (bw (bv (p x)) [])) :
 C E.P 151 [lv (bt xs),.fn f cap] [] (bw (iv (idxOf p xs)) []):=by
 refine gT (nt:=19) (rs:=[.tmp 4]) hm Tryz.func151 fun hl he cp=>?_
 refine aI hm (fun(i:Nat)=> i≤xs.length∧idxOf p xs=cL p (xs.drop i) i) (fun(i:Nat)=> ⟨eQ 19 .any [(0,lv (bt xs)),(1,.fn f cap),(7,iv xs.length),(8,iv i)],[]⟩) (fun(i:Nat)=> xs.length-i) (0) ?_ (ax [] ?_ ?_ rfl rfl) ?_
 rotate_left
 ·refine sB ?_
  all_goals(try exact sM)
 ·refine sB ?_
  all_goals(try exact sM)
 rotate_left
 ·simp[idxOf]
 ·rintro i ⟨hi,hg⟩
  rcases aa (i<xs.length) with h1|h1
  ·rw[af h1,cL] at hg
   try simp -implicitDefEqProofs only[go_sem,Z1,Z2,Z3,Z4,h1]
   refine sI ?_
   have hc:=hf xs[i] (ah h1)
   refine fm cap hc ?_ ?_<;>simp -implicitDefEqProofs only[go_sem,Z1,Z2,Z3,Z4,fV]
   refine sI ?_
   cases h2:p xs[i]
   ·rw[h2] at hg
    simp only[al,if_false] at hg
    try simp -implicitDefEqProofs only[go_sem,Z1,Z2,Z3,Z4]
    refine sI ?_
    refine⟨by omega,?_⟩
    refine⟨i+1,?_,sL,ax [] ?_ ?_ rfl rfl⟩
    rotate_left
    ·refine sB ?_
     all_goals(try exact sM)
    ·refine sB ?_
     all_goals(try exact sM)
    exact⟨by omega,hg⟩
   ·rw[h2] at hg
    simp only[if_true] at hg
    try simp -implicitDefEqProofs only[go_sem,Z1,Z2,Z3,Z4]
    refine sI ?_
    refine ak ?_
    refine sB ?_
    all_goals(first|done|(simp[hg];done)|(simp[hg];omega)|skip)
  ·rw[ag (by omega),cL] at hg
   try simp -implicitDefEqProofs only[go_sem,Z1,Z2,Z3,Z4,h1]
   refine sI ?_
   refine ak ?_
   refine sB ?_
   all_goals(first|done|(simp[hg];done)|(simp[hg];omega)|skip)
theorem p5(f:Nat)(cap:List PV)(fV:oo 0 cap=true)(p:(List Int)→Bool)(xs:List (List Int))(hf:∀x∈xs,C E.P f (lv (aM x)::cap) [] (bw (bv (p x)) [])) :
 C E.P 101 [lv (bt xs),.fn f cap] [] (bw (bv (xs.any p)) []):=by
 refine gT (nt:=9) (rs:=[.tmp 4]) hm Tryz.func101 fun hl he cp=>?_
 refine fm [] (ua f cap fV p xs hf) ?_ ?_<;>simp -implicitDefEqProofs only[go_sem,Z1,Z2,Z3,Z4,fV]
 refine sI ?_
 refine ak ?_
 refine sB ?_
 all_goals(first|done|(simp[wy];done)|(simp[wy];omega)|skip)
theorem vK(c:List Int)(many:Int):C E.P 103 [lv (aM c),iv many] [] (bw (bv (gJ c many)) []):=by
 refine gT (nt:=37) (rs:=[.tmp 4]) hm Tryz.func103 fun hl he cp=>?_
 refine aD [] (fh many 0 60) ?_
 refine sI ?_
 cases hw:within many 0 60
 ·try simp -implicitDefEqProofs only[go_sem,Z1,Z2,Z3,Z4]
  refine sI ?_
  refine ak ?_
  refine sB ?_
  all_goals(first|done|(simp[gJ,hw];done)|(simp[gJ,hw];omega)|skip)
 ·have hb:=cF.1 hw
  obtain⟨m,rfl⟩:∃m:Nat,many=(m:Int):=⟨many.toNat,by omega⟩
  have e:gJ c m=gq m (lb c 0) (c.drop 0):=by simp[gJ,hw,lb]
  try simp -implicitDefEqProofs only[go_sem,Z1,Z2,Z3,Z4]
  refine sI ?_
  refine aI hm (fun(i:Nat)=> i≤c.length∧(∀q,lb c i=some q → -60≤q∧q≤60)∧gJ c m=gq m (lb c i) (c.drop i)) (fun(i:Nat)=> ⟨eQ 37 .any [(0,lv (aM c)),(1,iv m),(10,lv (aM c)),(11,iv c.length),(12,iv i)],[]⟩) (fun(i:Nat)=> c.length-i) (0) ?_ (ax [] ?_ ?_ rfl rfl) ?_
  rotate_left
  ·refine sB ?_
   all_goals(try exact sM)
  ·refine sB ?_
   all_goals(try exact sM)
  rotate_left
  ·exact⟨by omega,by simp[lb],e⟩
  ·rintro i ⟨hi,hq,hg⟩
   rcases aa (i<c.length) with h1|h1
   ·have hpq:∀q,lb c (i+1)=some q→q=c[i]:=fun q h=>by rw[rj h1] at h;exact(Option.some.inj h).symm
    try simp -implicitDefEqProofs only[go_sem,Z1,Z2,Z3,Z4,h1]
    refine sI ?_
    refine aD [] (mX c[i] m (by omega)) ?_
    refine sI ?_
    rcases aa ((0:Int)<(i:Int)) with h0|h0
    ·have h1p:i-1<c.length:=by omega
     have q5:((i:Int)-1)=((i-1:Nat):Int):=by omega
     have hqb:=hq c[i-1] (by simp[lb,h1p];omega)
     rw[yY h1 (by omega) h1p] at hg
     cases h2:dF c[i] m
     ·rw[h2,aK] at hg
      try simp -implicitDefEqProofs only[go_sem,Z1,Z2,Z3,Z4]
      refine sI ?_
      refine ak ?_
      refine sB ?_
      all_goals(first|done|(simp[hg];done)|(simp[hg];omega)|skip)
     ·have hb2:=jc.1 h2
      rw[h2,az] at hg
      try simp -implicitDefEqProofs only[go_sem,Z1,Z2,Z3,Z4,h0,q5,h1p]
      refine sJ ?_
      refine aD [] (iU c[i-1] hqb) ?_
      refine sI ?_
      refine aD [] (iU c[i] (by omega)) ?_
      refine sI ?_
      rcases aa ((c[i].natAbs:Int)≤(c[i-1].natAbs:Int)) with h3|h3
      ·have h3':¬c[i-1].natAbs<c[i].natAbs:=by omega
       simp only[h3',decide_false,aK] at hg
       have h3n:c[i].natAbs≤c[i-1].natAbs:=by omega
       try simp -implicitDefEqProofs only[go_sem,Z1,Z2,Z3,Z4,h3n]
       refine sI ?_
       refine ak ?_
       refine sB ?_
       all_goals(first|done|(simp[hg];done)|(simp[hg];omega)|skip)
      ·have h3':c[i-1].natAbs<c[i].natAbs:=by omega
       have h3n:¬c[i].natAbs≤c[i-1].natAbs:=by omega
       simp only[h3',decide_true,az] at hg
       try simp -implicitDefEqProofs only[go_sem,Z1,Z2,Z3,Z4,h3n]
       refine sJ ?_
       refine⟨i+1,?_,sL,ax [] ?_ ?_ rfl rfl⟩
       rotate_left
       ·refine sB ?_
        all_goals(try exact sM)
       ·refine sB ?_
        all_goals(try exact sM)
       exact⟨by omega,fun q h=>by rw[hpq q h];omega,hg⟩
    ·rw[ze h1 (by omega)] at hg
     cases h2:dF c[i] m
     ·rw[h2,aK] at hg
      try simp -implicitDefEqProofs only[go_sem,Z1,Z2,Z3,Z4]
      refine sI ?_
      refine ak ?_
      refine sB ?_
      all_goals(first|done|(simp[hg];done)|(simp[hg];omega)|skip)
     ·have hb2:=jc.1 h2
      rw[h2,az] at hg
      try simp -implicitDefEqProofs only[go_sem,Z1,Z2,Z3,Z4,h0]
      refine sJ ?_
      refine⟨i+1,?_,sL,ax [] ?_ ?_ rfl rfl⟩
      rotate_left
      ·refine sB ?_
       all_goals(try exact sM)
      ·refine sB ?_
       all_goals(try exact sM)
      exact⟨by omega,fun q h=>by rw[hpq q h];omega,hg⟩
   ·rw[ag (by omega),gq] at hg
    try simp -implicitDefEqProofs only[go_sem,Z1,Z2,Z3,Z4,h1]
    refine sI ?_
    refine ak ?_
    refine sB ?_
    all_goals(first|done|(simp[hg];done)|(simp[hg];omega)|skip)
theorem xo(c:Mod.dq)(x:List Int):C E.P 102 [lv (aM x),.di [Gu c] 0 0] [] (bw (bv (!gJ x c.many)) []):=by
 refine gT (nt:=9) (rs:=[.tmp 3]) hm Tryz.func102 fun hl he cp=>?_
 refine aD [] (vK x c.many) ?_
 refine sI ?_
 refine ak ?_
 refine sB ?_
 all_goals(first|done|(simp;done)|(simp;omega)|skip)
theorem Ay(c:Mod.dq):C E.P 54 [av (Gu c)] [] (bw (bv (mK c)) []):=by
 refine gT (nt:=18) (rs:=[.tmp 2]) hm Tryz.func54 fun hl he cp=>?_
 refine aD [] (fh c.many 0 60) ?_
 refine sI ?_
 cases h1:within c.many 0 60
 ·try simp -implicitDefEqProofs only[go_sem,Z1,Z2,Z3,Z4]
  refine sI ?_
  refine ak ?_
  refine sB ?_
  all_goals(first|done|(simp[mK,h1];done)|(simp[mK,h1];omega)|skip)
 ·rcases aa ((400:Int)<(c.list.length:Int)) with h2|h2
  ·have h2':¬c.list.length≤400:=by omega
   try simp -implicitDefEqProofs only[go_sem,Z1,Z2,Z3,Z4,h2]
   refine sI ?_
   refine ak ?_
   refine sB ?_
   all_goals(first|done|(simp[mK,h2'];done)|(simp[mK,h2'];omega)|skip)
  ·have h2':c.list.length≤400:=by omega
   have e:mK c= !(c.list.any fun x=>!gJ x c.many):=by simp[mK,h1,h2',List.all_eq_not_any_not]
   try simp -implicitDefEqProofs only[go_sem,Z1,Z2,Z3,Z4,h2]
   refine sI ?_
   refine ja [] [0] (p5 102 [.di [Gu c] 0 0] rfl (fun x=>!gJ x c.many) c.list (fun x _=>xo c x)) rfl ?_ ?_ ?_
   ·exact sV
   all_goals simp -implicitDefEqProofs only[go_sem,Z1,Z2,Z3,Z4]
   refine sI ?_
   refine ak ?_
   refine sB ?_
   all_goals(first|done|(simp[e];done)|(simp[e];omega)|skip)
theorem pC(c put:List Int)(hc9:∀l∈c,l≠0∧l.natAbs≤60)(wA:c.length≤1000):C E.P 152 [lv (aM c),lv (aM put)] [] (bw (.gN [iv (unit put c).1,bv (unit put c).2]) []):=by
 rw[D4]
 refine gT (nt:=35) (rs:=[.tmp 4,.tmp 5]) hm Tryz.func152 fun hl he cp=>?_
 refine kL hm (fun(i:Nat) (f:Int) (n:Int)=> i≤c.length∧0≤n∧n≤i∧qg put c 0 0=qg put (c.drop i) f n) (fun(i:Nat) (f:Int) (n:Int)=> ⟨eQ 35 .any [(1,lv (aM put)),(6,iv f),(7,iv n),(10,lv (aM c)),(11,iv c.length),(12,iv i)],[]⟩) (fun(i:Nat) (f:Int) (n:Int)=> c.length-i) (0) (0) (0) ?_ (ax [] ?_ ?_ rfl rfl) ?_
 rotate_left
 ·refine sB ?_
  all_goals(try exact sM)
 ·refine sB ?_
  all_goals(try exact sM)
 rotate_left
 ·simp
 ·rintro i f n ⟨hi,hn0,hn,hg⟩
  rcases aa (i<c.length) with h1|h1
  ·have hb:=hc9 c[i] (ah h1)
   rw[af h1,qg] at hg
   try simp -implicitDefEqProofs only[go_sem,Z1,Z2,Z3,Z4,h1]
   refine sI ?_
   refine aD [] (fv put c[i]) ?_
   refine sI ?_
   cases h2:put.contains c[i]
   ·rw[h2] at hg
    simp only[al,if_false] at hg
    try simp -implicitDefEqProofs only[go_sem,Z1,Z2,Z3,Z4]
    refine sJ ?_
    refine aD [] (fv put (-c[i])) ?_
    refine sI ?_
    cases h3:put.contains (-c[i])
    ·rw[h3] at hg
     simp only[al,if_false] at hg
     try simp -implicitDefEqProofs only[go_sem,Z1,Z2,Z3,Z4]
     refine sJ ?_
     refine⟨i+1,c[i],n+1,?_,sL,ax [] ?_ ?_ rfl rfl⟩
     rotate_left
     ·refine sB ?_
      all_goals(try exact sM)
     ·refine sB ?_
      all_goals(try exact sM)
     exact⟨by omega,by omega,by omega,hg⟩
    ·rw[h3] at hg
     simp only[if_true] at hg
     try simp -implicitDefEqProofs only[go_sem,Z1,Z2,Z3,Z4]
     refine sJ ?_
     refine⟨i+1,f,n,?_,sL,ax [] ?_ ?_ rfl rfl⟩
     rotate_left
     ·refine sB ?_
      all_goals(try exact sM)
     ·refine sB ?_
      all_goals(try exact sM)
     exact⟨by omega,by omega,by omega,hg⟩
   ·rw[h2] at hg
    simp only[if_true] at hg
    try simp -implicitDefEqProofs only[go_sem,Z1,Z2,Z3,Z4]
    refine sI ?_
    refine ak ?_
    refine sB ?_
    all_goals(first|done|(simp[hg];done)|(simp[hg];omega)|skip)
  ·rw[ag (by omega),qg] at hg
   rcases aa (1<n) with h2|h2
   ·have h3:¬n=0:=by omega
    try simp -implicitDefEqProofs only[go_sem,Z1,Z2,Z3,Z4,h1,h2]
    refine sI ?_
    refine ak ?_
    refine sB ?_
    all_goals(first|done|(simp[hg,h2,h3];done)|(simp[hg,h2,h3];omega)|skip)
   ·try simp -implicitDefEqProofs only[go_sem,Z1,Z2,Z3,Z4,h1,h2]
    refine sI ?_
    refine ak ?_
    refine sB ?_
    all_goals(first|done|(simp[hg,h2];done)|(simp[hg,h2];omega)|skip)
theorem ug:C E.P 59 [.aV] [] (bw .aV []):=by
 refine gT (nt:=8) (rs:=[.tmp 2]) hm Tryz.func59 fun hl he cp=>?_
 refine qw 3 _ true rfl rfl (by simp -implicitDefEqProofs only[go_sem,Z1,Z2,Z3,Z4]) pV ?_
 try simp -implicitDefEqProofs only[go_sem,Z1,Z2,Z3,Z4]
 refine sI ?_
 refine ak ?_
 exact sD
theorem nn(a:Addr)(c:Nat):C E.P 59 [.d (.val (.slice (some a) 0 c))] [] (bw (.acc 0) [some (.acc 3 (aM []))]):=by
 refine gT (nt:=8) (rs:=[.tmp 2]) hm Tryz.func59 fun hl he cp=>?_
 refine qw 3 _ false rfl rfl (p:=.d (.val (.slice (some a) 0 c))) (by simp -implicitDefEqProofs only[go_sem,Z1,Z2,Z3,Z4]) (ta _ _ _) ?_
 try simp -implicitDefEqProofs only[go_sem,Z1,Z2,Z3,Z4]
 refine sJ ?_
 refine bh [some 1] ?_ rfl rfl
 exact sD
theorem mI(r:List D)(rs:List (List D))(hl1:rs.length≤1000)(h1:∀y∈r::rs,y.length=1):C E.P 59 [.d (.b7 (r::rs))] [] (bw (.acc 0) [some (.acc 3 (r::rs))]):=by
 refine gT (nt:=8) (rs:=[.tmp 2]) hm Tryz.func59 fun hl he cp=>?_
 refine qw 3 _ false rfl rfl (p:=.d (.b7 (r::rs))) (by simp -implicitDefEqProofs only[go_sem,Z1,Z2,Z3,Z4]) td ?_
 try simp -implicitDefEqProofs only[go_sem,Z1,Z2,Z3,Z4]
 refine sI ?_
 refine ay ⟨?_,by omega,by omega⟩ ?_
 ·simpa using h1
 refine bh [some 1] ?_ rfl rfl
 exact sD
theorem tG(list:List (List Int))(hc9:∀x∈list,(∀l∈x,l≠0∧l.natAbs≤60)∧x.length≤1000):C E.P 104 [lv (bt list),.aV] [] (bw (.gN [lv (aM (eX list []).1),bv (eX list []).2]) []):=by
 have hp9:im []:=⟨List.Pairwise.nil,by simp⟩
 generalize hput:([]:List Int)=put at hp9⊢
 refine gT (nt:=39) (rs:=[.tmp 4,.tmp 5]) hm Tryz.func104 fun hl he cp=>?_
 refine aD [] ug ?_
 refine sI ?_
 try simp -implicitDefEqProofs only[go_sem,Z1,Z2,Z3,Z4]
 refine sI ?_
 refine aI hm (fun(p:List Int)=> im p∧eX list put=eX list p) (fun(p:List Int)=> ⟨eQ 39 .any [(0,lv (bt list)),(6,.acc 0)],[some (.acc 3 (aM p))]⟩) (fun(p:List Int)=> 61-p.length) (put) ?_ (ax [none] ?_ ?_ rfl rfl) ?_
 rotate_left
 ·refine sB ?_
  all_goals(first|done|((rw[←hput];rfl))|(simp[aS, *];done)|(simp[aS];done)|(simp;omega)|skip)
 ·refine sB ?_
  all_goals(first|done|((rw[←hput];rfl))|(simp[aS, *];done)|(simp[aS];done)|(simp;omega)|skip)
 rotate_left
 ·exact⟨hp9,rfl⟩
 ·rintro p ⟨hp,hu⟩
  have hl:=ll hp
  have dh:=qO (list:=list) hl
  try simp -implicitDefEqProofs only[go_sem,Z1,Z2,Z3,Z4]
  refine sI ?_
  refine aI hm (fun(i:Nat)=> i≤list.length∧scan p list=scan p (list.drop i)) (fun(i:Nat)=> ⟨eQ 39 .any [(0,lv (bt list)),(6,.acc 0),(7,iv 0),(14,lv (bt list)),(15,iv list.length),(16,iv i)],[some (.acc 3 (aM p))]⟩) (fun(i:Nat)=> list.length-i) (0) ?_ (ax [some 0] ?_ ?_ rfl rfl) ?_
  rotate_left
  ·refine sB ?_
   all_goals(try exact sM)
  ·refine sB ?_
   all_goals(try exact sM)
  rotate_left
  ·simp
  ·rintro i ⟨hi,hs⟩
   rcases aa (i<list.length) with h1|h1
   ·obtain⟨b1,b2⟩:=hc9 list[i] (ah h1)
    rw[tM h1] at hs
    try simp -implicitDefEqProofs only[go_sem,Z1,Z2,Z3,Z4,h1]
    refine sI ?_
    refine ja [] [0] (pC list[i] p b1 b2) rfl ?_ ?_ ?_
    ·exact sV
    all_goals simp -implicitDefEqProofs only[go_sem,Z1,Z2,Z3,Z4,h1]
    refine sI ?_
    cases u1:(unit p list[i]).2
    ·rw[u1] at hs
     simp only[al,if_false] at hs
     rcases aa ((unit p list[i]).1=0) with u2|u2
     ·have k2:=eq_true u2
      rw[if_pos u2] at hs
      try simp -implicitDefEqProofs only[go_sem,Z1,Z2,Z3,Z4,k2]
      refine sJ ?_
      refine⟨i+1,?_,sL,ax [some 0] ?_ ?_ rfl rfl⟩
      rotate_left
      ·refine sB ?_
       all_goals(try exact sM)
      ·refine sB ?_
       all_goals(try exact sM)
      exact⟨by omega,hs⟩
     ·rw[if_neg u2] at hs
      have hsn:(scan p list).1≠0:=by rw[hs];exact u2
      have kC:=Ba hp (fun x hx l hl=>(hc9 x hx).1 l hl) hsn
      have hl2:=ll kC
      rw[hs] at dh kC hl2
      simp only[al,if_false,u2] at dh
      simp only[ao,cq] at hl2
      have hlx:(p++[(unit p list[i]).1]).length=p.length+1:=by simp
      try simp -implicitDefEqProofs only[go_sem,Z1,Z2,Z3,Z4,u2]
      refine sJ ?_
      refine⟨p++[(unit p list[i]).1],?_,sL,ax [some 1] ?_ ?_ rfl rfl⟩
      rotate_left
      ·refine sB ?_
       all_goals(first|done|((rw[←gh];rfl))|(simp[aS, *];done)|(simp[aS];done)|(simp;omega)|skip)
      ·refine sB ?_
       all_goals(first|done|((rw[←gh];rfl))|(simp[aS, *];done)|(simp[aS];done)|(simp;omega)|skip)
      exact⟨kC,by rw[hu,dh]⟩
    ·rw[u1] at hs
     simp only[if_true] at hs
     rw[hs] at dh
     simp only[if_true] at dh
     try simp -implicitDefEqProofs only[go_sem,Z1,Z2,Z3,Z4]
     refine sI ?_
     refine ak ?_
     refine sB ?_
     rw[hu,dh]
     exact⟨rfl,rfl⟩
   ·rw[wY (by omega)] at hs
    rw[hs] at dh
    simp only[al,if_false,if_true] at dh
    try simp -implicitDefEqProofs only[go_sem,Z1,Z2,Z3,Z4,h1]
    refine sI ?_
    refine ak ?_
    refine sB ?_
    rw[hu,dh]
    exact⟨rfl,rfl⟩
theorem tO(list:List (List Int))(a:Addr)(c:Nat)(hc9:∀x∈list,(∀l∈x,l≠0∧l.natAbs≤60)∧x.length≤1000):C E.P 104 [lv (bt list),.d (.val (.slice (some a) 0 c))] [] (bw (.gN [lv (aM (eX list []).1),bv (eX list []).2]) []):=by
 have hp9:im []:=⟨List.Pairwise.nil,by simp⟩
 generalize hput:([]:List Int)=put at hp9⊢
 refine gT (nt:=39) (rs:=[.tmp 4,.tmp 5]) hm Tryz.func104 fun hl he cp=>?_
 refine oD [] [0] (nn a c) ?_
 refine sI ?_
 try simp -implicitDefEqProofs only[go_sem,Z1,Z2,Z3,Z4]
 refine sI ?_
 refine aI hm (fun(p:List Int)=> im p∧eX list put=eX list p) (fun(p:List Int)=> ⟨eQ 39 .any [(0,lv (bt list)),(6,.acc 0)],[some (.acc 3 (aM p))]⟩) (fun(p:List Int)=> 61-p.length) (put) ?_ (ax [some 0] ?_ ?_ rfl rfl) ?_
 rotate_left
 ·refine sB ?_
  all_goals(first|done|((rw[←hput];rfl))|(simp[aS, *];done)|(simp[aS];done)|(simp;omega)|skip)
 ·refine sB ?_
  all_goals(first|done|((rw[←hput];rfl))|(simp[aS, *];done)|(simp[aS];done)|(simp;omega)|skip)
 rotate_left
 ·exact⟨hp9,rfl⟩
 ·rintro p ⟨hp,hu⟩
  have hl:=ll hp
  have dh:=qO (list:=list) hl
  try simp -implicitDefEqProofs only[go_sem,Z1,Z2,Z3,Z4]
  refine sI ?_
  refine aI hm (fun(i:Nat)=> i≤list.length∧scan p list=scan p (list.drop i)) (fun(i:Nat)=> ⟨eQ 39 .any [(0,lv (bt list)),(6,.acc 0),(7,iv 0),(14,lv (bt list)),(15,iv list.length),(16,iv i)],[some (.acc 3 (aM p))]⟩) (fun(i:Nat)=> list.length-i) (0) ?_ (ax [some 0] ?_ ?_ rfl rfl) ?_
  rotate_left
  ·refine sB ?_
   all_goals(try exact sM)
  ·refine sB ?_
   all_goals(try exact sM)
  rotate_left
  ·simp
  ·rintro i ⟨hi,hs⟩
   rcases aa (i<list.length) with h1|h1
   ·obtain⟨b1,b2⟩:=hc9 list[i] (ah h1)
    rw[tM h1] at hs
    try simp -implicitDefEqProofs only[go_sem,Z1,Z2,Z3,Z4,h1]
    refine sI ?_
    refine ja [] [0] (pC list[i] p b1 b2) rfl ?_ ?_ ?_
    ·exact sV
    all_goals simp -implicitDefEqProofs only[go_sem,Z1,Z2,Z3,Z4,h1]
    refine sI ?_
    cases u1:(unit p list[i]).2
    ·rw[u1] at hs
     simp only[al,if_false] at hs
     rcases aa ((unit p list[i]).1=0) with u2|u2
     ·have k2:=eq_true u2
      rw[if_pos u2] at hs
      try simp -implicitDefEqProofs only[go_sem,Z1,Z2,Z3,Z4,k2]
      refine sJ ?_
      refine⟨i+1,?_,sL,ax [some 0] ?_ ?_ rfl rfl⟩
      rotate_left
      ·refine sB ?_
       all_goals(try exact sM)
      ·refine sB ?_
       all_goals(try exact sM)
      exact⟨by omega,hs⟩
     ·rw[if_neg u2] at hs
      have hsn:(scan p list).1≠0:=by rw[hs];exact u2
      have kC:=Ba hp (fun x hx l hl=>(hc9 x hx).1 l hl) hsn
      have hl2:=ll kC
      rw[hs] at dh kC hl2
      simp only[al,if_false,u2] at dh
      simp only[ao,cq] at hl2
      have hlx:(p++[(unit p list[i]).1]).length=p.length+1:=by simp
      try simp -implicitDefEqProofs only[go_sem,Z1,Z2,Z3,Z4,u2]
      refine sJ ?_
      refine⟨p++[(unit p list[i]).1],?_,sL,ax [some 1] ?_ ?_ rfl rfl⟩
      rotate_left
      ·refine sB ?_
       all_goals(first|done|((rw[←gh];rfl))|(simp[aS, *];done)|(simp[aS];done)|(simp;omega)|skip)
      ·refine sB ?_
       all_goals(first|done|((rw[←gh];rfl))|(simp[aS, *];done)|(simp[aS];done)|(simp;omega)|skip)
      exact⟨kC,by rw[hu,dh]⟩
    ·rw[u1] at hs
     simp only[if_true] at hs
     rw[hs] at dh
     simp only[if_true] at dh
     try simp -implicitDefEqProofs only[go_sem,Z1,Z2,Z3,Z4]
     refine sI ?_
     refine ak ?_
     refine sB ?_
     rw[hu,dh]
     exact⟨rfl,rfl⟩
   ·rw[wY (by omega)] at hs
    rw[hs] at dh
    simp only[al,if_false,if_true] at dh
    try simp -implicitDefEqProofs only[go_sem,Z1,Z2,Z3,Z4,h1]
    refine sI ?_
    refine ak ?_
    refine sB ?_
    rw[hu,dh]
    exact⟨rfl,rfl⟩
theorem rX(list:List (List Int))(put:List Int)(r:List D)(rs:List (List D))(hr:aM put=r::rs)(hp9:im put)(hc9:∀x∈list,(∀l∈x,l≠0∧l.natAbs≤60)∧x.length≤1000):C E.P 104 [lv (bt list),.d (.b7 (r::rs))] [] (bw (.gN [lv (aM (eX list put).1),bv (eX list put).2]) []):=by
 have h1:∀y∈r::rs,y.length=1:=by rw[←hr];exact jo put
 have hl1:rs.length≤1000:=by
  have:=congrArg List.length hr
  rw[gU] at this
  have h2:=ll hp9
  simp only[aq] at this
  omega
 refine gT (nt:=39) (rs:=[.tmp 4,.tmp 5]) hm Tryz.func104 fun hl he cp=>?_
 refine oD [] [0] (mI r rs hl1 h1) ?_
 refine sI ?_
 try simp -implicitDefEqProofs only[go_sem,Z1,Z2,Z3,Z4]
 refine sI ?_
 refine aI hm (fun(p:List Int)=> im p∧eX list put=eX list p) (fun(p:List Int)=> ⟨eQ 39 .any [(0,lv (bt list)),(6,.acc 0)],[some (.acc 3 (aM p))]⟩) (fun(p:List Int)=> 61-p.length) (put) ?_ (ax [some 0] ?_ ?_ rfl rfl) ?_
 rotate_left
 ·refine sB ?_
  all_goals(first|done|((rw[hr]))|(simp[aS, *];done)|(simp[aS];done)|(simp;omega)|skip)
 ·refine sB ?_
  all_goals(first|done|((rw[hr]))|(simp[aS, *];done)|(simp[aS];done)|(simp;omega)|skip)
 rotate_left
 ·exact⟨hp9,rfl⟩
 ·rintro p ⟨hp,hu⟩
  have hl:=ll hp
  have dh:=qO (list:=list) hl
  try simp -implicitDefEqProofs only[go_sem,Z1,Z2,Z3,Z4]
  refine sI ?_
  refine aI hm (fun(i:Nat)=> i≤list.length∧scan p list=scan p (list.drop i)) (fun(i:Nat)=> ⟨eQ 39 .any [(0,lv (bt list)),(6,.acc 0),(7,iv 0),(14,lv (bt list)),(15,iv list.length),(16,iv i)],[some (.acc 3 (aM p))]⟩) (fun(i:Nat)=> list.length-i) (0) ?_ (ax [some 0] ?_ ?_ rfl rfl) ?_
  rotate_left
  ·refine sB ?_
   all_goals(try exact sM)
  ·refine sB ?_
   all_goals(try exact sM)
  rotate_left
  ·simp
  ·rintro i ⟨hi,hs⟩
   rcases aa (i<list.length) with h1|h1
   ·obtain⟨b1,b2⟩:=hc9 list[i] (ah h1)
    rw[tM h1] at hs
    try simp -implicitDefEqProofs only[go_sem,Z1,Z2,Z3,Z4,h1]
    refine sI ?_
    refine ja [] [0] (pC list[i] p b1 b2) rfl ?_ ?_ ?_
    ·exact sV
    all_goals simp -implicitDefEqProofs only[go_sem,Z1,Z2,Z3,Z4,h1]
    refine sI ?_
    cases u1:(unit p list[i]).2
    ·rw[u1] at hs
     simp only[al,if_false] at hs
     rcases aa ((unit p list[i]).1=0) with u2|u2
     ·have k2:=eq_true u2
      rw[if_pos u2] at hs
      try simp -implicitDefEqProofs only[go_sem,Z1,Z2,Z3,Z4,k2]
      refine sJ ?_
      refine⟨i+1,?_,sL,ax [some 0] ?_ ?_ rfl rfl⟩
      rotate_left
      ·refine sB ?_
       all_goals(try exact sM)
      ·refine sB ?_
       all_goals(try exact sM)
      exact⟨by omega,hs⟩
     ·rw[if_neg u2] at hs
      have hsn:(scan p list).1≠0:=by rw[hs];exact u2
      have kC:=Ba hp (fun x hx l hl=>(hc9 x hx).1 l hl) hsn
      have hl2:=ll kC
      rw[hs] at dh kC hl2
      simp only[al,if_false,u2] at dh
      simp only[ao,cq] at hl2
      have hlx:(p++[(unit p list[i]).1]).length=p.length+1:=by simp
      try simp -implicitDefEqProofs only[go_sem,Z1,Z2,Z3,Z4,u2]
      refine sJ ?_
      refine⟨p++[(unit p list[i]).1],?_,sL,ax [some 1] ?_ ?_ rfl rfl⟩
      rotate_left
      ·refine sB ?_
       all_goals(first|done|((rw[←gh];rfl))|(simp[aS, *];done)|(simp[aS];done)|(simp;omega)|skip)
      ·refine sB ?_
       all_goals(first|done|((rw[←gh];rfl))|(simp[aS, *];done)|(simp[aS];done)|(simp;omega)|skip)
      exact⟨kC,by rw[hu,dh]⟩
    ·rw[u1] at hs
     simp only[if_true] at hs
     rw[hs] at dh
     simp only[if_true] at dh
     try simp -implicitDefEqProofs only[go_sem,Z1,Z2,Z3,Z4]
     refine sI ?_
     refine ak ?_
     refine sB ?_
     rw[hu,dh]
     exact⟨rfl,rfl⟩
   ·rw[wY (by omega)] at hs
    rw[hs] at dh
    simp only[al,if_false,if_true] at dh
    try simp -implicitDefEqProofs only[go_sem,Z1,Z2,Z3,Z4,h1]
    refine sI ?_
    refine ak ?_
    refine sB ?_
    rw[hu,dh]
    exact⟨rfl,rfl⟩
theorem AM(list:List (List Int))(put:List Int)(hp9:im put)(hc9:∀x∈list,(∀l∈x,l≠0∧l.natAbs≤60)∧x.length≤1000):C E.P 104 [lv (bt list),lv (aM put)] [] (bw (.gN [lv (aM (eX list put).1),bv (eX list put).2]) []):=by
 cases put with
 | nil=>exact HU (tG list hc9) (fun a c=>tO list a c hc9)
 | cons x xs=>
   have h:=rX list (x::xs) _ _ (cb x xs) hp9 hc9
   rw[cb]
   exact h
theorem mb(l:List Int)(wA:l.length≤1000)(hb9:∀x∈l,-1000000≤x∧x≤1000000):C E.P 53 [lv (aM l)] [] (bw (lv (aM (l.map fun x=>-x))) []):=by
 refine gT (nt:=19) (rs:=[.tmp 2]) hm Tryz.func53 fun hl he cp=>?_
 refine aI hm (fun(i:Nat)=> i≤l.length) (fun(i:Nat)=> ⟨eQ 19 .any [(3,.acc 0),(6,lv (aM l)),(7,iv l.length),(8,iv i)],[some (.acc 3 (aM ((l.take i).map fun x=>-x)))]⟩) (fun(i:Nat)=> l.length-i) (0) ?_ (ax [none] ?_ ?_ rfl rfl) ?_
 rotate_left
 ·refine sB ?_
  all_goals(first|done|(simp[aM])|(simp[aS, *];done)|(simp[aS];done)|(simp;omega)|skip)
 ·refine sB ?_
  all_goals(first|done|(simp[aM])|(simp[aS, *];done)|(simp[aS];done)|(simp;omega)|skip)
 rotate_left
 ·omega
 ·rintro i hi
  have hv:((l.take i).map fun x=>-x).length=i:=by rw[bl,aO];omega
  rcases aa (i<l.length) with h1|h1
  ·have hb:=hb9 l[i] (ah h1)
   try simp -implicitDefEqProofs only[go_sem,Z1,Z2,Z3,Z4,h1]
   refine sJ ?_
   refine⟨i+1,?_,sL,ax [some 1] ?_ ?_ rfl rfl⟩
   rotate_left
   ·refine sB ?_
    all_goals(first|done|((rw[fl h1,iZ,←gh];rfl))|(simp[aS, *];done)|(simp[aS];done)|(simp;omega)|skip)
   ·refine sB ?_
    all_goals(first|done|((rw[fl h1,iZ,←gh];rfl))|(simp[aS, *];done)|(simp[aS];done)|(simp;omega)|skip)
   exact h1
  ·have et:l.take i=l:=an (by omega)
   try simp -implicitDefEqProofs only[go_sem,Z1,Z2,Z3,Z4,h1,et]
   refine sI ?_
   refine ak ?_
   exact sD
theorem ux(a:Int):C E.P 189 [iv a] [] (bw (bv false) []):=by
 refine gT (nt:=6) (rs:=[.tmp 2]) hm Tryz.func189 fun hl he cp=>?_
 refine ak ?_
 refine sB ?_
 all_goals(first|done|(simp;done)|(simp;omega)|skip)
theorem yX(a b:Int):C E.P 149 [iv a,iv b] [] (bw (iv (vj a b)) []):=by
 refine gT (nt:=20) (rs:=[.tmp 4]) hm Tryz.func149 fun hl he cp=>?_
 refine aD [] (ux a) ?_
 refine sI ?_
 refine aD [] (ux b) ?_
 refine sI ?_
 rcases aa (a<b) with h1|h1
 ·try simp -implicitDefEqProofs only[go_sem,Z1,Z2,Z3,Z4,h1]
  refine sI ?_
  refine ak ?_
  refine sB ?_
  all_goals(first|done|(simp[vj,h1];done)|(simp[vj,h1];omega)|skip)
 ·rcases aa (b<a) with h2|h2
  ·try simp -implicitDefEqProofs only[go_sem,Z1,Z2,Z3,Z4,h1,h2]
   refine sI ?_
   refine ak ?_
   refine sB ?_
   all_goals(first|done|(simp[vj,h1,h2];done)|(simp[vj,h1,h2];omega)|skip)
  ·try simp -implicitDefEqProofs only[go_sem,Z1,Z2,Z3,Z4,h1,h2]
   refine sI ?_
   refine ak ?_
   refine sB ?_
   all_goals(first|done|(simp[vj,h1,h2];done)|(simp[vj,h1,h2];omega)|skip)
theorem sX(a b:Int)(ha:-60≤a∧a≤60)(hb:-60≤b∧b≤60):C E.P 148 [iv a,iv b] [] (bw (iv (vj (a.natAbs:Int) (b.natAbs:Int))) []):=by
 refine gT (nt:=10) (rs:=[.tmp 4]) hm Tryz.func148 fun hl he cp=>?_
 refine aD [] (iU a ha) ?_
 refine sI ?_
 refine aD [] (iU b hb) ?_
 refine sI ?_
 refine aD [] (yX (a.natAbs:Int) (b.natAbs:Int)) ?_
 refine sI ?_
 refine ak ?_
 refine sB ?_
 all_goals(first|done|(simp;done)|(simp;omega)|skip)
theorem z6(l:List Int):dk (l.take 1)++l.drop 1=l:=by
 cases l<;>rfl
theorem vJ(l:List Int)(wA:l.length≤1000)(hb9:∀x∈l,-60≤x∧x≤60):C E.P 220 [.acc 0,iv 0,iv l.length,.fn 148 []] [some (.acc 3 (aM l))] (bw (.gN []) [some (.acc 3 (aM (dk l)))]):=by
 have hbp:∀i,∀x∈dk (l.take i),-60≤x∧x≤60:=fun i x hx=>hb9 x (List.mem_of_mem_take ((lL _ _).1 hx))
 refine gT (nt:=53) (rs:=[]) hm Tryz.func220 fun hl he cp=>?_
 refine sQ ?_
 refine aI hm (fun(i:Nat)=> 1≤i∧(i≤l.length∨l.length=0∧i=1)) (fun(i:Nat)=> ⟨eQ 53 .any [(0,.acc 0),(1,iv 0),(2,iv l.length),(3,.fn 148 []),(8,iv i)],[some (.acc 3 (aM (dk (l.take i)++l.drop i)))]⟩) (fun(i:Nat)=> l.length-i) (1) ?_ (ax [some 0] ?_ ?_ rfl rfl) ?_
 rotate_left
 ·refine sB ?_
  all_goals(first|done|((rw[z6]))|(simp[aS, *];done)|(simp[aS];done)|(simp;omega)|skip)
 ·refine sB ?_
  all_goals(first|done|((rw[z6]))|(simp[aS, *];done)|(simp[aS];done)|(simp;omega)|skip)
 rotate_left
 ·omega
 ·rintro i ⟨hi1,hi2⟩
  rcases aa (i<l.length) with h1|h1
  ·try simp -implicitDefEqProofs only[go_sem,Z1,Z2,Z3,Z4,h1]
   refine sI ?_
   have hp:(dk (l.take i)).length=i:=by rw[Ac,aO];omega
   have ed:l.drop i=l[i]::l.drop (i+1):=af h1
   have est:dk (l.take i)++l.drop i=sk (dk (l.take i)) l[i] (l.drop (i+1)) i:=by rw[M8 _ _ (by omega),ed]
   have hbx:=hb9 l[i] (ah h1)
   rw[est]
   refine aI hm (fun(j:Nat)=> j≤i∧∀y∈(dk (l.take i)).drop j,l[i].natAbs<y.natAbs) (fun(j:Nat)=> ⟨eQ 53 .any [(0,.acc 0),(1,iv 0),(2,iv l.length),(3,.fn 148 []),(8,iv i),(9,iv j)],[some (.acc 3 (aM (sk (dk (l.take i)) l[i] (l.drop (i+1)) j)))]⟩) (fun(j:Nat)=> j) (i) ?_ (ax [some 0] ?_ ?_ rfl rfl) ?_
   rotate_left
   ·refine sB ?_
    all_goals(try exact sM)
   ·refine sB ?_
    all_goals(try exact sM)
   rotate_left
   ·exact⟨ar _,by rw[ag (by omega)];simp⟩
   ·rintro j ⟨hj,hd⟩
    have hsl:(sk (dk (l.take i)) l[i] (l.drop (i+1)) j).length=l.length:=by rw[ME _ _ (by omega),hp,ey];omega
    have hjl:j<(sk (dk (l.take i)) l[i] (l.drop (i+1)) j).length:=by omega
    have e1:=Ot l[i] (l.drop (i+1)) (p:=dk (l.take i)) (by omega) hjl
    rcases aa ((0:Int)<(j:Int)) with h0|h0
    ·have hj1:j-1<(sk (dk (l.take i)) l[i] (l.drop (i+1)) j).length:=by omega
     have hjp:j-1<(dk (l.take i)).length:=by omega
     have e2:=Gp l[i] (l.drop (i+1)) (p:=dk (l.take i)) (by omega) (by omega) hjp hj1
     have q:((j:Int)-1)=((j-1:Nat):Int):=by omega
     have hb2:=hbp i _ (ah hjp)
     have estep:((sk (dk (l.take i)) l[i] (l.drop (i+1)) j).set j (dk (l.take i))[j-1]).set (j-1) l[i]=sk (dk (l.take i)) l[i] (l.drop (i+1)) (j-1):=by
      have e3:=Kh (p:=dk (l.take i)) l[i] (l.drop (i+1)) hjp
      have e4:j-1+1=j:=by omega
      rwa [e4] at e3
     generalize hs:sk (dk (l.take i)) l[i] (l.drop (i+1)) j=s at *
     try simp -implicitDefEqProofs only[go_sem,Z1,Z2,Z3,Z4,h0,q,hjl,hj1]
     refine sJ ?_
     refine fm [] (sX s[j] s[j-1] (by rw[e1];exact hbx) (by rw[e2];exact hb2)) ?_ ?_<;>simp -implicitDefEqProofs only[go_sem,Z1,Z2,Z3,Z4,hjl,hj1]
     refine sI ?_
     rw[e1,e2]
     rcases aa (l[i].natAbs<((dk (l.take i))[j-1]).natAbs) with h3|h3
     ·have k3:vj (l[i].natAbs:Int) (((dk (l.take i))[j-1]).natAbs:Int)<0:=Dd.2 (by omega)
      try simp -implicitDefEqProofs only[go_sem,Z1,Z2,Z3,Z4,k3,q,hjl,hj1]
      refine sJ ?_
      refine ay (by rw[dw,gU];exact hj1) ?_
      refine ay (by rw[dw,gU];exact hj1) ?_
      refine sQ ?_
      have r1:(aM s).set j (pB [D.val (Value.int .i64 s[j])] 0 [D.val (Value.int .i64 s[j-1])])=aM (s.set j s[j-1]):=tW hjl
      have r2:(aM (s.set j s[j-1])).set (j-1) (pB (row (aM (s.set j s[j-1])) (j-1)) 0 [D.val (Value.int .i64 s[j])])=aM ((s.set j s[j-1]).set (j-1) s[j]):=by
       rw[tU (by rw[dw];exact hj1)]
       exact tW (by rw[dw];exact hj1)
      have e5:(dk (l.take i)).drop (j-1)=(dk (l.take i))[j-1]::(dk (l.take i)).drop j:=by
       rw[af hjp]
       have e6:j-1+1=j:=by omega
       rw[e6]
      refine⟨j-1,?_,sL,ax [some 0] ?_ ?_ rfl rfl⟩
      rotate_left
      ·refine sB ?_
       all_goals(first|done|((rw[r1,r2,e1,e2,estep]))|(simp[aS, *];done)|(simp[aS];done)|(simp;omega)|skip)
      ·refine sB ?_
       all_goals(first|done|((rw[r1,r2,e1,e2,estep]))|(simp[aS, *];done)|(simp[aS];done)|(simp;omega)|skip)
      refine⟨by omega,fun y hy=>?_⟩
      rw[e5] at hy
      rcases List.mem_cons.1 hy with hy|hy
      ·rw[hy];exact h3
      ·exact hd y hy
     ·have k3:¬vj (l[i].natAbs:Int) (((dk (l.take i))[j-1]).natAbs:Int)<0:=fun hh=>h3 (by have:=Dd.1 hh;omega)
      have eend:s=dk (l.take (i+1))++l.drop (i+1):=by
       rw[fl h1,xI,←hs]
       exact H5 (pN _) hd (fun _ _=>by omega) (by omega)
      try simp -implicitDefEqProofs only[go_sem,Z1,Z2,Z3,Z4,k3]
      refine sJ ?_
      rw[eend]
      refine⟨i+1,?_,sL,ax [some 0] ?_ ?_ rfl rfl⟩
      rotate_left
      ·refine sB ?_
       all_goals(try exact sM)
      ·refine sB ?_
       all_goals(try exact sM)
      omega
    ·have eend:sk (dk (l.take i)) l[i] (l.drop (i+1)) j=dk (l.take (i+1))++l.drop (i+1):=by
      rw[fl h1,xI]
      exact H5 (pN _) hd (fun _ _=>by omega) (by omega)
     try simp -implicitDefEqProofs only[go_sem,Z1,Z2,Z3,Z4,h0]
     refine sJ ?_
     rw[eend]
     refine⟨i+1,?_,sL,ax [some 0] ?_ ?_ rfl rfl⟩
     rotate_left
     ·refine sB ?_
      all_goals(try exact sM)
     ·refine sB ?_
      all_goals(try exact sM)
     omega
  ·try simp -implicitDefEqProofs only[go_sem,Z1,Z2,Z3,Z4,h1]
   refine sI ?_
   have et:l.take i=l:=an (by omega)
   have ed:l.drop i=[]:=ag (by omega)
   rw[et,ed,List.append_nil]
   refine bh [some 0] ?_ rfl rfl
   exact sD
theorem F5(n:Nat)(h:n≤1000):C E.P 188 [.d (.val (.int .u64 (n:Int)))] [] (bw (iv (Lib.bitLen n)) []):=by
 refine LJ (v:=.int .u64 (n:Int)) ⟨_,Tryz.func188,rfl,rfl⟩ (fun w ok ν st u hu=>?_) rfl fun w=>?_
 ·simp only[aj] at hu
  cases hu
  rfl
 ·have:=Tryz.bits_Len (n:Int) w (by omega) (by omega)
  simp only[Int.toNat_natCast] at this
  exact this
theorem GC(l:List Int)(wA:l.length≤12)(k:Int)(hb9:∀x∈l,-60≤x∧x≤60):C E.P 187 [.acc 0,iv 0,iv l.length,iv k,.fn 148 []] [some (.acc 3 (aM l))] (bw (.gN []) [some (.acc 3 (aM (dk l)))]):=by
 have h1:(l.length:Int)≤12:=by omega
 refine gT (nt:=148) (rs:=[]) hm Tryz.func187 fun hl he cp=>?_
 refine aI hm (fun(u:Nat)=> u=0) (fun(u:Nat)=> ⟨eQ 148 .any [(0,.acc 0),(1,iv 0),(2,iv l.length),(3,iv k),(4,.fn 148 []),(10,bv true),(11,bv true)],[some (.acc 3 (aM l))]⟩) (fun(u:Nat)=> u) (0) ?_ (ax [some 0] ?_ ?_ rfl rfl) ?_
 rotate_left
 ·refine sB ?_
  all_goals(try exact sM)
 ·refine sB ?_
  all_goals(try exact sM)
 rotate_left
 ·rfl
 ·rintro u rfl
  try simp -implicitDefEqProofs only[go_sem,Z1,Z2,Z3,Z4,h1]
  refine sJ ?_
  try simp -implicitDefEqProofs only[go_sem,Z1,Z2,Z3,Z4,Int.sub_zero,h1]
  refine sI ?_
  refine oD [] [0] (vJ l (by omega) hb9) ?_
  refine sI ?_
  refine bh [some 0] ?_ rfl rfl
  exact sD
theorem x5(l:List Int)(wA:l.length≤12)(hb9:∀x∈l,-60≤x∧x≤60):C E.P 147 [.acc 0,.fn 148 []] [some (.acc 3 (aM l))] (bw (.gN []) [some (.acc 3 (aM (dk l)))]):=by
 have hw:=wrap_u64 (n:=(l.length:Int)) (by omega) (by omega)
 refine gT (nt:=14) (rs:=[]) hm Tryz.func147 fun hl he cp=>?_
 refine sQ ?_
 try simp -implicitDefEqProofs only[go_sem,Z1,Z2,Z3,Z4,hw]
 refine sI ?_
 refine aD [] (F5 l.length (by omega)) ?_
 refine sI ?_
 refine oD [] [0] (GC l wA (Lib.bitLen l.length) hb9) ?_
 refine sI ?_
 refine bh [some 0] ?_ rfl rfl
 exact sD
theorem xh{w:World}{ok:Nat→Prop}:∀{zs:List Int}{us:List (List Value)},bg w ok 1 (aM zs) us→us.flatten=zs.map (Value.int .i64)
 | [],us,h=>by
   have e:us=[]:=cd.1 h.len
   rw[e]
   rfl
 | z::zs,us,h=>by
   have hl:=h.len
   cases us with
   | nil=>simp[cb] at hl
   | cons u us=>
     have hu:=h.hu 0 u rfl
     obtain⟨v,rfl⟩:=cj.1 hu
     have hr:=h.hr 0 0 _ _ _ _ (by rw[cb];rfl) rfl rfl rfl
     have ih:=xh (w:=w) (ok:=ok) (zs:=zs) (us:=us) ⟨by simpa[cb] using hl,fun i x hx=>h.hx (i+1) x (by rw[cb];exact hx),fun i x hx=>h.hu (i+1) x hx,fun i j x y d e h1 h2 h3 h4=>h.hr (i+1) j x y d e (by rw[cb];exact h1) h2 h3 h4⟩
     cases hr
     rw[bU,ih]
     rfl
theorem Gn(w:World)(ok:Nat→Prop)(zs:List Int):bg w ok 1 (aM zs) (zs.map fun z=>[Value.int .i64 z]):=by
 refine⟨by rw[bl,gU],fun i x hx=>jo zs x (List.mem_of_getElem? hx),fun i u hu=>?_,fun i j x u d v h1 h2 h3 h4=>?_⟩
 ·obtain⟨z,_,rfl⟩:∃z,zs[i]?=some z∧[Value.int .i64 z]=u:=by simpa using hu
  rfl
 ·obtain⟨z,hz,rfl⟩:∃z,zs[i]?=some z∧[Value.int .i64 z]=u:=by simpa using h2
  have hx:x=[.val (.int .i64 z)]:=by
   unfold aM at h1
   rw[dQ,hz] at h1
   exact(Option.some.inj h1).symm
  subst hx
  cases j with
  | zero=>
    cases h3;cases h4
    exact .val _ rfl
  | succ j=>cases h3
theorem uo:∀(l:List Int),(compact l).length≤l.length
 | []=>by simp[compact]
 | [x]=>by simp[compact]
 | x::y::l=>by
   have:=uo (y::l)
   simp only[compact]
   split
   ·simp only[aq] at this⊢;omega
   ·simp only[aq] at this⊢;omega
theorem qh(zs:List Int)(wA:zs.length≤1000):C E.P 150 [.acc 0] [some (.acc 3 (aM zs))] (bw (.acc 1) [some .dead,some (.acc 3 (aM (compact zs)))]):=by
 refine⟨⟨_,Tryz.func150,rfl,rfl⟩,?_⟩
 intro X vs dh hO hs
 have hsz:=hs.size
 obtain⟨v,rfl⟩:=cj.1 (show vs.length=1 by simpa using hsz)
 have hv0:=hs.sl 0
 obtain⟨us,dP,fC,hB,hf0⟩:=hs.en 0 (.acc 3 (aM zs)) rfl
 have hcell:E.P.cellsOf 3=1:=(E.ok 3 _ rfl).cells
 rw[hcell] at dP fC
 have hus:=xh fC
 rw[hus,gU] at dP
 have hv:v=(X.ν0 0).v:=hv0.2
 have hcl:=uo zs
 have old0:∀k,some 0=some k→∃e,G.at ⟨[PV.acc 0],[some (En.acc 3 (aM zs))]⟩ k=some e∧e.live=true:=fun k hk=>by cases hk;exact⟨_,rfl,rfl⟩
 rcases dP.2 with⟨hnil,h0⟩|⟨g,cap,cur,hvv,_,hg,hn,hcm,hcs,htk⟩
 ·have hz:zs=[]:=cd.1 h0
  subst hz
  rw[hv,hnil]
  refine(Tryz.slices_Compact_int_empty none 0 X.w0).mono ?_
  rintro e w' ⟨rfl,rfl⟩
  refine⟨_,.acc 1,_,_,rfl,⟨rfl,rfl⟩,hs.move (some 0) old0 ((nv.refl _ _)) 1 rfl (.acc 3 (aM [])) ⟨.slice none 0 0,[]⟩ rfl (fun b hb=>by have:=(hX rfl).1 hb;simp[oE] at this) 0 (.acc 1) (.slice none 0 0) (fun ok st ν' hν _ _=>?_) (fun ok st ν' hν dh _ _=>?_)⟩
  ·refine⟨[],?_,bg.nil _ _ _,by simp[aM],by rw[hν]⟩
   rw[hν]
   exact⟨by simp,.inl ⟨rfl,rfl⟩⟩
  ·simp only[aj]
   exact⟨by rw[dh];rfl,by rw[hν]⟩
 ·have hcur:∀j,j<zs.length→cur[j]?=some (.int .i64 (zs.getD j 0)):=by
   intro j hj
   have h1:=congrArg (fun l=>l[j]?) htk
   simp only[Nat.mul_one,List.getElem?_take_of_lt hj,Array.getElem?_toList,dQ] at h1
   rw[h1,List.getElem?_eq_getElem hj]
   simp[List.getD,hj]
  have key:=Tryz.slices_Compact_int_cells g 0 zs.length cap zs X.w0 (ar _) (by omega) hn (fun j hj=>by
   have:=cell_of_row X.w0 g (0+j) cur _ (0,0) hg
   rw[this,Nat.zero_add]
   exact hcur j hj) (fun j hj=>by simp[World.frozen?,hg])
  rw[List.take_length,uv _ zs rfl] at key
  rw[hv,hvv]
  refine key.mono ?_
  rintro e w' ⟨rfl,q,rfl⟩
  generalize hvals:(compact zs++List.replicate (zs.length-(compact zs).length) 0).map (Value.int .i64)=vals
  have hvl:vals.length=zs.length:=by rw[←hvals];simp;omega
  obtain⟨c1,c2,c3,c4,c5,c6⟩:=Ci g vals 0 (X.w0.drewN q)
  have hsz2:cur.size=cap:=by omega
  have hlist:=Ag vals 0 cur (by omega)
  have lF:nv (fun b=>∃k,some 0=some k∧(X.ν0 k).has b) X.w0 ((X.w0.drewN q).setCells g 0 vals):=by
   refine⟨c1,c2,c3,by rw[c4];exact ar _,fun k hk hnb=>?_⟩
   rw[c5 k (fun hkg=>hnb ⟨0,rfl,.inl (by rw[hvv,hkg];rfl)⟩)]
   rfl
  refine⟨_,.acc 1,_,_,rfl,⟨rfl,rfl⟩,hs.move (some 0) old0 lF 1 rfl (.acc 3 (aM (compact zs))) ⟨.slice (some ⟨g,0,none⟩) (compact zs).length cap,[]⟩ rfl (fun b hb=>.inl ⟨0,rfl,.inl (by rw[hvv];exact(hX rfl).1 hb)⟩) 0 (.acc 1) (.slice (some ⟨g,0,none⟩) (compact zs).length cap) (fun ok st ν' hν _ _=>?_) (fun ok st ν' hν dh _ _=>?_)⟩
  ·refine⟨(compact zs).map fun z=>[Value.int .i64 z],?_,by rw[hcell];exact Gn _ _ _,by rw[gU];unfold LB;omega,by rw[hν]⟩
   have hfl:((compact zs).map fun z=>[Value.int .i64 z]).flatten=(compact zs).map (Value.int .i64):=by
    induction compact zs with
    | nil=>rfl
    | cons a l ih=>rw[List.map_cons,bU,ih];rfl
   rw[hν,hcell,gU,hfl]
   refine⟨by simp,.inr ⟨g,cap,Gr cur 0 vals,rfl,Nat.zero_le _,c6 _ _ _ hg,by omega,hcm,?_,?_⟩⟩
   ·have:=congrArg List.length hlist
    simp only[Array.length_toList,ao,aO,ey] at this
    omega
   ·rw[hlist,←hvals]
    simp
  ·simp only[aj]
   exact⟨by rw[dh];rfl,by rw[hν]⟩
theorem oA(l:List Int)(mq:l≠[])(wA:l.length≤1000):C E.P 59 [lv (aM l)] [] (bw (.acc 0) [some (.acc 3 (aM l))]):=by
 cases l with
 | nil=>exact absurd rfl mq
 | cons x xs=>
   have h1:=jo (x::xs)
   rw[cb] at h1⊢
   exact mI _ (aM xs) (by rw[gU];simp at wA;omega) h1
theorem ov(l:List Int)(mq:l≠[])(wA:l.length≤12)(hb9:∀x∈l,-1000000≤x∧x≤1000000):C E.P 100 [lv (aM l)] [] (bw (.gN [lv (aM ((dJ l).getD [])),bv (dJ l).isSome]) []):=by
 have e:=l8 l
 refine gT (nt:=29) (rs:=[.tmp 2,.tmp 3]) hm Tryz.func100 fun hl he cp=>?_
 refine aI hm (fun(i:Nat)=> i≤l.length∧(∀x∈l.take i,-60≤x∧x≤60)∧uu l=(l.drop i).all fun x=>dF x 60&& !l.contains (-x)) (fun(i:Nat)=> ⟨eQ 29 .any [(0,lv (aM l)),(7,lv (aM l)),(8,iv l.length),(9,iv i)],[]⟩) (fun(i:Nat)=> l.length-i) (0) ?_ (ax [] ?_ ?_ rfl rfl) ?_
 rotate_left
 ·refine sB ?_
  all_goals(try exact sM)
 ·refine sB ?_
  all_goals(try exact sM)
 rotate_left
 ·exact⟨by omega,by simp,rfl⟩
 ·rintro i ⟨hi,ht,hg⟩
  rcases aa (i<l.length) with h1|h1
  ·have hb:=hb9 l[i] (ah h1)
   rw[af h1,List.all_cons] at hg
   have hc:C E.P 98 [iv l[i],iv 60] [] (bw (bv (dF l[i] 60)) []):=mX l[i] 60 (by omega)
   try simp -implicitDefEqProofs only[go_sem,Z1,Z2,Z3,Z4,h1]
   refine sI ?_
   refine aD [] hc ?_
   refine sI ?_
   cases h2:dF l[i] 60
   ·rw[h2,aK,aK] at hg
    rw[hg,if_neg (by simp)] at e
    try simp -implicitDefEqProofs only[go_sem,Z1,Z2,Z3,Z4]
    refine sI ?_
    refine ak ?_
    refine sB ?_
    all_goals(first|done|(simp[e];done)|(simp[e];omega)|skip)
   ·have hm:=jc.1 h2
    rw[h2,az] at hg
    try simp -implicitDefEqProofs only[go_sem,Z1,Z2,Z3,Z4]
    refine sJ ?_
    refine aD [] (fv l (-l[i])) ?_
    refine sI ?_
    cases h3:l.contains (-l[i])
    ·rw[h3,Bool.not_false,az] at hg
     try simp -implicitDefEqProofs only[go_sem,Z1,Z2,Z3,Z4]
     refine sJ ?_
     refine⟨i+1,?_,sL,ax [] ?_ ?_ rfl rfl⟩
     rotate_left
     ·refine sB ?_
      all_goals(try exact sM)
     ·refine sB ?_
      all_goals(try exact sM)
     refine⟨by omega,fun x hx=>?_,hg⟩
     rw[fl h1] at hx
     rcases List.mem_append.1 hx with hx|hx
     ·exact ht x hx
     ·rw[List.mem_singleton.1 hx];omega
    ·rw[h3,Bool.not_true,aK] at hg
     rw[hg,if_neg (by simp)] at e
     try simp -implicitDefEqProofs only[go_sem,Z1,Z2,Z3,Z4]
     refine sI ?_
     refine ak ?_
     refine sB ?_
     all_goals(first|done|(simp[e];done)|(simp[e];omega)|skip)
  ·rw[ag (by omega),List.all_nil] at hg
   rw[an (by omega)] at ht
   rw[hg,if_pos rfl] at e
   try simp -implicitDefEqProofs only[go_sem,Z1,Z2,Z3,Z4,h1]
   refine sI ?_
   refine oD [] [0] (oA l mq (by omega)) ?_
   refine sI ?_
   refine oD [] [0] (x5 l wA ht) ?_
   refine sI ?_
   refine oD [] [0,1] (qh (dk l) (by rw[Ac];omega)) ?_
   refine sI ?_
   refine ak ?_
   refine sB ?_
   rw[e]
   exact⟨rfl,rfl⟩
end Go.Proofs.YtgpjhjalfakpoaaGreat
