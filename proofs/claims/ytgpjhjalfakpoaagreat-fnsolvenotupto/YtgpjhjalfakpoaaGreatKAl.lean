/-
  The program: the walks of clauses and of unit propagation. A step towards the exact laws.
-/
import Derived.Test.YtgpjhjalfakpoaaGreatKAi
import Derived.Test.YtgpjhjalfakpoaaGreatKAEa
set_option linter.unusedVariables false
set_option linter.unusedSimpArgs false
open And renaming intro→aH
open Bool renaming false_eq_true→ak,true_and→ay,false_and→aI
open Classical renaming em→aa
open List renaming drop_eq_getElem_cons→af,drop_of_length_le→ag,getElem_mem→ai,length_append→an,take_of_length_le→ao,length_cons→aq,length_take→aO,length_map→bj,flatten_cons→bQ,length_eq_zero_iff→cb,length_eq_one_iff→cg,length_singleton→cN,length_set→dm,getElem?_map→dH,length_drop→dU,map_append→iL
open Nat renaming le_refl→au
namespace Go.Proofs.YtgpjhjalfakpoaaGreat
open Go.Eng Go.Mod
open Int renaming reduceEq→Z1,reduceLT→Z2,reduceLE→Z3,reduceToNat→Z4
set_option maxRecDepth 100000
set_option maxHeartbeats 800000
theorem tC(f:Nat)(cap:List PV)(gf:nS 0 cap=true)(p:(List Int)→Bool)(xs:List (List Int))(hf:∀x∈xs,C E.P f (lv (aL x)::cap) [] (bB (bv (p x)) [])) :
 C E.P 151 [lv (bq xs),.fn f cap] [] (bB (iv (idxOf p xs)) []):=by
 refine gT (nt:=19) (rs:=[.tmp 4]) hm Tryz.func151 fun hl he cx=>?_
 refine aG hm (fun(i:Nat)=> i≤xs.length∧idxOf p xs=cI p (xs.drop i) i) (fun(i:Nat)=> ⟨eE 19 .any [(0,lv (bq xs)),(1,.fn f cap),(7,iv xs.length),(8,iv i)],[]⟩) (fun(i:Nat)=> xs.length-i) (0) ?_ (ax [] ?_ ?_ rfl rfl) ?_
 rotate_left
 ·refine sB ?_
  all_goals(try exact sM)
 ·refine sB ?_
  all_goals(try exact sM)
 rotate_left
 ·simp[idxOf]
 ·rintro i ⟨hi,hg⟩
  rcases aa (i<xs.length) with h1|h1
  ·rw[af h1,cI] at hg
   try simp -implicitDefEqProofs only[go_sem,Z1,Z2,Z3,Z4,h1]
   refine sI ?_
   have hc:=hf xs[i] (ai h1)
   refine e7 cap hc ?_ ?_<;>simp -implicitDefEqProofs only[go_sem,Z1,Z2,Z3,Z4,gf]
   refine sI ?_
   cases h2:p xs[i]
   ·rw[h2] at hg
    simp only[ak,if_false] at hg
    try simp -implicitDefEqProofs only[go_sem,Z1,Z2,Z3,Z4]
    refine sI ?_
    refine⟨by omega,?_⟩
    refine⟨i+1,?_,sL,ax [] ?_ ?_ rfl rfl⟩
    rotate_left
    ·refine sB ?_
     all_goals(try exact sM)
    ·refine sB ?_
     all_goals(try exact sM)
    exact⟨by omega,hg⟩
   ·rw[h2] at hg
    simp only[if_true] at hg
    try simp -implicitDefEqProofs only[go_sem,Z1,Z2,Z3,Z4]
    refine sI ?_
    refine al ?_
    refine sB ?_
    all_goals(first|done|(simp[hg];done)|(simp[hg];omega)|skip)
  ·rw[ag (by omega),cI] at hg
   try simp -implicitDefEqProofs only[go_sem,Z1,Z2,Z3,Z4,h1]
   refine sI ?_
   refine al ?_
   refine sB ?_
   all_goals(first|done|(simp[hg];done)|(simp[hg];omega)|skip)
theorem pD(f:Nat)(cap:List PV)(gf:nS 0 cap=true)(p:(List Int)→Bool)(xs:List (List Int))(hf:∀x∈xs,C E.P f (lv (aL x)::cap) [] (bB (bv (p x)) [])) :
 C E.P 101 [lv (bq xs),.fn f cap] [] (bB (bv (xs.any p)) []):=by
 refine gT (nt:=9) (rs:=[.tmp 4]) hm Tryz.func101 fun hl he cx=>?_
 refine e7 [] (tC f cap gf p xs hf) ?_ ?_<;>simp -implicitDefEqProofs only[go_sem,Z1,Z2,Z3,Z4,gf]
 refine sI ?_
 refine al ?_
 refine sB ?_
 all_goals(first|done|(simp[vE];done)|(simp[vE];omega)|skip)
theorem uV(c:List Int)(many:Int):C E.P 103 [lv (aL c),iv many] [] (bB (bv (gA c many)) []):=by
 refine gT (nt:=37) (rs:=[.tmp 4]) hm Tryz.func103 fun hl he cx=>?_
 refine aD [] (eR many 0 60) ?_
 refine sI ?_
 cases hw:within many 0 60
 ·try simp -implicitDefEqProofs only[go_sem,Z1,Z2,Z3,Z4]
  refine sI ?_
  refine al ?_
  refine sB ?_
  all_goals(first|done|(simp[gA,hw];done)|(simp[gA,hw];omega)|skip)
 ·have hb:=cz.1 hw
  obtain⟨m,rfl⟩:∃m:Nat,many=(m:Int):=⟨many.toNat,by omega⟩
  have e:gA c m=fZ m (kM c 0) (c.drop 0):=by simp[gA,hw,kM]
  try simp -implicitDefEqProofs only[go_sem,Z1,Z2,Z3,Z4]
  refine sI ?_
  refine aG hm (fun(i:Nat)=> i≤c.length∧(∀q,kM c i=some q → -60≤q∧q≤60)∧gA c m=fZ m (kM c i) (c.drop i)) (fun(i:Nat)=> ⟨eE 37 .any [(0,lv (aL c)),(1,iv m),(10,lv (aL c)),(11,iv c.length),(12,iv i)],[]⟩) (fun(i:Nat)=> c.length-i) (0) ?_ (ax [] ?_ ?_ rfl rfl) ?_
  rotate_left
  ·refine sB ?_
   all_goals(try exact sM)
  ·refine sB ?_
   all_goals(try exact sM)
  rotate_left
  ·exact⟨by omega,by simp[kM],e⟩
  ·rintro i ⟨hi,hq,hg⟩
   rcases aa (i<c.length) with h1|h1
   ·have hpq:∀q,kM c (i+1)=some q→q=c[i]:=fun q h=>by rw[qb h1] at h;exact(Option.some.inj h).symm
    try simp -implicitDefEqProofs only[go_sem,Z1,Z2,Z3,Z4,h1]
    refine sI ?_
    refine aD [] (mz c[i] m (by omega)) ?_
    refine sI ?_
    rcases aa ((0:Int)<(i:Int)) with h0|h0
    ·have h1p:i-1<c.length:=by omega
     have q5:((i:Int)-1)=((i-1:Nat):Int):=by omega
     have hqb:=hq c[i-1] (by simp[kM,h1p];omega)
     rw[yb h1 (by omega) h1p] at hg
     cases h2:dz c[i] m
     ·rw[h2,aI] at hg
      try simp -implicitDefEqProofs only[go_sem,Z1,Z2,Z3,Z4]
      refine sI ?_
      refine al ?_
      refine sB ?_
      all_goals(first|done|(simp[hg];done)|(simp[hg];omega)|skip)
     ·have hb2:=iM.1 h2
      rw[h2,ay] at hg
      try simp -implicitDefEqProofs only[go_sem,Z1,Z2,Z3,Z4,h0,q5,h1p]
      refine sJ ?_
      refine aD [] (iD c[i-1] hqb) ?_
      refine sI ?_
      refine aD [] (iD c[i] (by omega)) ?_
      refine sI ?_
      rcases aa ((c[i].natAbs:Int)≤(c[i-1].natAbs:Int)) with h3|h3
      ·have h3':¬c[i-1].natAbs<c[i].natAbs:=by omega
       simp only[h3',decide_false,aI] at hg
       have h3n:c[i].natAbs≤c[i-1].natAbs:=by omega
       try simp -implicitDefEqProofs only[go_sem,Z1,Z2,Z3,Z4,h3n]
       refine sI ?_
       refine al ?_
       refine sB ?_
       all_goals(first|done|(simp[hg];done)|(simp[hg];omega)|skip)
      ·have h3':c[i-1].natAbs<c[i].natAbs:=by omega
       have h3n:¬c[i].natAbs≤c[i-1].natAbs:=by omega
       simp only[h3',decide_true,ay] at hg
       try simp -implicitDefEqProofs only[go_sem,Z1,Z2,Z3,Z4,h3n]
       refine sJ ?_
       refine⟨i+1,?_,sL,ax [] ?_ ?_ rfl rfl⟩
       rotate_left
       ·refine sB ?_
        all_goals(try exact sM)
       ·refine sB ?_
        all_goals(try exact sM)
       exact⟨by omega,fun q h=>by rw[hpq q h];omega,hg⟩
    ·rw[yv h1 (by omega)] at hg
     cases h2:dz c[i] m
     ·rw[h2,aI] at hg
      try simp -implicitDefEqProofs only[go_sem,Z1,Z2,Z3,Z4]
      refine sI ?_
      refine al ?_
      refine sB ?_
      all_goals(first|done|(simp[hg];done)|(simp[hg];omega)|skip)
     ·have hb2:=iM.1 h2
      rw[h2,ay] at hg
      try simp -implicitDefEqProofs only[go_sem,Z1,Z2,Z3,Z4,h0]
      refine sJ ?_
      refine⟨i+1,?_,sL,ax [] ?_ ?_ rfl rfl⟩
      rotate_left
      ·refine sB ?_
       all_goals(try exact sM)
      ·refine sB ?_
       all_goals(try exact sM)
      exact⟨by omega,fun q h=>by rw[hpq q h];omega,hg⟩
   ·rw[ag (by omega),fZ] at hg
    try simp -implicitDefEqProofs only[go_sem,Z1,Z2,Z3,Z4,h1]
    refine sI ?_
    refine al ?_
    refine sB ?_
    all_goals(first|done|(simp[hg];done)|(simp[hg];omega)|skip)
theorem x5(c:Mod.dh)(x:List Int):C E.P 102 [lv (aL x),.da [Ga c] 0 0] [] (bB (bv (!gA x c.many)) []):=by
 refine gT (nt:=9) (rs:=[.tmp 3]) hm Tryz.func102 fun hl he cx=>?_
 refine aD [] (uV x c.many) ?_
 refine sI ?_
 refine al ?_
 refine sB ?_
 all_goals(first|done|(simp;done)|(simp;omega)|skip)
theorem AP(c:Mod.dh):C E.P 54 [av (Ga c)] [] (bB (bv (mg c)) []):=by
 refine gT (nt:=18) (rs:=[.tmp 2]) hm Tryz.func54 fun hl he cx=>?_
 refine aD [] (eR c.many 0 60) ?_
 refine sI ?_
 cases h1:within c.many 0 60
 ·try simp -implicitDefEqProofs only[go_sem,Z1,Z2,Z3,Z4]
  refine sI ?_
  refine al ?_
  refine sB ?_
  all_goals(first|done|(simp[mg,h1];done)|(simp[mg,h1];omega)|skip)
 ·rcases aa ((400:Int)<(c.list.length:Int)) with h2|h2
  ·have h2':¬c.list.length≤400:=by omega
   try simp -implicitDefEqProofs only[go_sem,Z1,Z2,Z3,Z4,h2]
   refine sI ?_
   refine al ?_
   refine sB ?_
   all_goals(first|done|(simp[mg,h2'];done)|(simp[mg,h2'];omega)|skip)
  ·have h2':c.list.length≤400:=by omega
   have e:mg c= !(c.list.any fun x=>!gA x c.many):=by simp[mg,h1,h2',List.all_eq_not_any_not]
   try simp -implicitDefEqProofs only[go_sem,Z1,Z2,Z3,Z4,h2]
   refine sI ?_
   refine iO [] [0] (pD 102 [.da [Ga c] 0 0] rfl (fun x=>!gA x c.many) c.list (fun x _=>x5 c x)) rfl ?_ ?_ ?_
   ·exact sV
   all_goals simp -implicitDefEqProofs only[go_sem,Z1,Z2,Z3,Z4]
   refine sI ?_
   refine al ?_
   refine sB ?_
   all_goals(first|done|(simp[e];done)|(simp[e];omega)|skip)
theorem oy(c put:List Int)(hc9:∀l∈c,l≠0∧l.natAbs≤60)(yV:c.length≤1000):C E.P 152 [lv (aL c),lv (aL put)] [] (bB (.gL [iv (unit put c).1,bv (unit put c).2]) []):=by
 rw[D4]
 refine gT (nt:=35) (rs:=[.tmp 4,.tmp 5]) hm Tryz.func152 fun hl he cx=>?_
 refine lP hm (fun(i:Nat) (f:Int) (n:Int)=> i≤c.length∧0≤n∧n≤i∧pL put c 0 0=pL put (c.drop i) f n) (fun(i:Nat) (f:Int) (n:Int)=> ⟨eE 35 .any [(1,lv (aL put)),(6,iv f),(7,iv n),(10,lv (aL c)),(11,iv c.length),(12,iv i)],[]⟩) (fun(i:Nat) (f:Int) (n:Int)=> c.length-i) (0) (0) (0) ?_ (ax [] ?_ ?_ rfl rfl) ?_
 rotate_left
 ·refine sB ?_
  all_goals(try exact sM)
 ·refine sB ?_
  all_goals(try exact sM)
 rotate_left
 ·simp
 ·rintro i f n ⟨hi,hn0,hn,hg⟩
  rcases aa (i<c.length) with h1|h1
  ·have hb:=hc9 c[i] (ai h1)
   rw[af h1,pL] at hg
   try simp -implicitDefEqProofs only[go_sem,Z1,Z2,Z3,Z4,h1]
   refine sI ?_
   refine aD [] (eY put c[i]) ?_
   refine sI ?_
   cases h2:put.contains c[i]
   ·rw[h2] at hg
    simp only[ak,if_false] at hg
    try simp -implicitDefEqProofs only[go_sem,Z1,Z2,Z3,Z4]
    refine sJ ?_
    refine aD [] (eY put (-c[i])) ?_
    refine sI ?_
    cases h3:put.contains (-c[i])
    ·rw[h3] at hg
     simp only[ak,if_false] at hg
     try simp -implicitDefEqProofs only[go_sem,Z1,Z2,Z3,Z4]
     refine sJ ?_
     refine⟨i+1,c[i],n+1,?_,sL,ax [] ?_ ?_ rfl rfl⟩
     rotate_left
     ·refine sB ?_
      all_goals(try exact sM)
     ·refine sB ?_
      all_goals(try exact sM)
     exact⟨by omega,by omega,by omega,hg⟩
    ·rw[h3] at hg
     simp only[if_true] at hg
     try simp -implicitDefEqProofs only[go_sem,Z1,Z2,Z3,Z4]
     refine sJ ?_
     refine⟨i+1,f,n,?_,sL,ax [] ?_ ?_ rfl rfl⟩
     rotate_left
     ·refine sB ?_
      all_goals(try exact sM)
     ·refine sB ?_
      all_goals(try exact sM)
     exact⟨by omega,by omega,by omega,hg⟩
   ·rw[h2] at hg
    simp only[if_true] at hg
    try simp -implicitDefEqProofs only[go_sem,Z1,Z2,Z3,Z4]
    refine sI ?_
    refine al ?_
    refine sB ?_
    all_goals(first|done|(simp[hg];done)|(simp[hg];omega)|skip)
  ·rw[ag (by omega),pL] at hg
   rcases aa (1<n) with h2|h2
   ·have h3:¬n=0:=by omega
    try simp -implicitDefEqProofs only[go_sem,Z1,Z2,Z3,Z4,h1,h2]
    refine sI ?_
    refine al ?_
    refine sB ?_
    all_goals(first|done|(simp[hg,h2,h3];done)|(simp[hg,h2,h3];omega)|skip)
   ·try simp -implicitDefEqProofs only[go_sem,Z1,Z2,Z3,Z4,h1,h2]
    refine sI ?_
    refine al ?_
    refine sB ?_
    all_goals(first|done|(simp[hg,h2];done)|(simp[hg,h2];omega)|skip)
theorem sZ:C E.P 59 [.aY] [] (bB .aY []):=by
 refine gT (nt:=8) (rs:=[.tmp 2]) hm Tryz.func59 fun hl he cx=>?_
 refine xq 3 _ true rfl rfl (by simp -implicitDefEqProofs only[go_sem,Z1,Z2,Z3,Z4]) tf ?_
 try simp -implicitDefEqProofs only[go_sem,Z1,Z2,Z3,Z4]
 refine sI ?_
 refine al ?_
 exact sD
theorem mX(a:Addr)(c:Nat):C E.P 59 [.d (.val (.slice (some a) 0 c))] [] (bB (.acc 0) [some (.acc 3 (aL []))]):=by
 refine gT (nt:=8) (rs:=[.tmp 2]) hm Tryz.func59 fun hl he cx=>?_
 refine xq 3 _ false rfl rfl (p:=.d (.val (.slice (some a) 0 c))) (by simp -implicitDefEqProofs only[go_sem,Z1,Z2,Z3,Z4]) (zA _ _ _) ?_
 try simp -implicitDefEqProofs only[go_sem,Z1,Z2,Z3,Z4]
 refine sJ ?_
 refine bu [some 1] ?_ rfl rfl
 exact sD
theorem mu(r:List D)(rs:List (List D))(hl1:rs.length≤1000)(h1:∀y∈r::rs,y.length=1):C E.P 59 [.d (.bX (r::rs))] [] (bB (.acc 0) [some (.acc 3 (r::rs))]):=by
 refine gT (nt:=8) (rs:=[.tmp 2]) hm Tryz.func59 fun hl he cx=>?_
 refine xq 3 _ false rfl rfl (p:=.d (.bX (r::rs))) (by simp -implicitDefEqProofs only[go_sem,Z1,Z2,Z3,Z4]) zy ?_
 try simp -implicitDefEqProofs only[go_sem,Z1,Z2,Z3,Z4]
 refine sI ?_
 refine aH ⟨?_,by omega,by omega⟩ ?_
 ·simpa using h1
 refine bu [some 1] ?_ rfl rfl
 exact sD
theorem tw(list:List (List Int))(hc9:∀x∈list,(∀l∈x,l≠0∧l.natAbs≤60)∧x.length≤1000):C E.P 104 [lv (bq list),.aY] [] (bB (.gL [lv (aL (eF list []).1),bv (eF list []).2]) []):=by
 have hp9:gY []:=⟨List.Pairwise.nil,by simp⟩
 generalize hput:([]:List Int)=put at hp9⊢
 refine gT (nt:=39) (rs:=[.tmp 4,.tmp 5]) hm Tryz.func104 fun hl he cx=>?_
 refine aD [] sZ ?_
 refine sI ?_
 try simp -implicitDefEqProofs only[go_sem,Z1,Z2,Z3,Z4]
 refine sI ?_
 refine aG hm (fun(p:List Int)=> gY p∧eF list put=eF list p) (fun(p:List Int)=> ⟨eE 39 .any [(0,lv (bq list)),(6,.acc 0)],[some (.acc 3 (aL p))]⟩) (fun(p:List Int)=> 61-p.length) (put) ?_ (ax [none] ?_ ?_ rfl rfl) ?_
 rotate_left
 ·refine sB ?_
  all_goals(first|done|((rw[←hput];rfl))|(simp[aP, *];done)|(simp[aP];done)|(simp;omega)|skip)
 ·refine sB ?_
  all_goals(first|done|((rw[←hput];rfl))|(simp[aP, *];done)|(simp[aP];done)|(simp;omega)|skip)
 rotate_left
 ·exact⟨hp9,rfl⟩
 ·rintro p ⟨hp,hu⟩
  have hl:=kU hp
  have dg:=qN (list:=list) hl
  try simp -implicitDefEqProofs only[go_sem,Z1,Z2,Z3,Z4]
  refine sI ?_
  refine aG hm (fun(i:Nat)=> i≤list.length∧scan p list=scan p (list.drop i)) (fun(i:Nat)=> ⟨eE 39 .any [(0,lv (bq list)),(6,.acc 0),(7,iv 0),(14,lv (bq list)),(15,iv list.length),(16,iv i)],[some (.acc 3 (aL p))]⟩) (fun(i:Nat)=> list.length-i) (0) ?_ (ax [some 0] ?_ ?_ rfl rfl) ?_
  rotate_left
  ·refine sB ?_
   all_goals(try exact sM)
  ·refine sB ?_
   all_goals(try exact sM)
  rotate_left
  ·simp
  ·rintro i ⟨hi,hs⟩
   rcases aa (i<list.length) with h1|h1
   ·obtain⟨b1,b2⟩:=hc9 list[i] (ai h1)
    rw[sR h1] at hs
    try simp -implicitDefEqProofs only[go_sem,Z1,Z2,Z3,Z4,h1]
    refine sI ?_
    refine iO [] [0] (oy list[i] p b1 b2) rfl ?_ ?_ ?_
    ·exact sV
    all_goals simp -implicitDefEqProofs only[go_sem,Z1,Z2,Z3,Z4,h1]
    refine sI ?_
    cases u1:(unit p list[i]).2
    ·rw[u1] at hs
     simp only[ak,if_false] at hs
     rcases aa ((unit p list[i]).1=0) with u2|u2
     ·have k2:=eq_true u2
      rw[if_pos u2] at hs
      try simp -implicitDefEqProofs only[go_sem,Z1,Z2,Z3,Z4,k2]
      refine sJ ?_
      refine⟨i+1,?_,sL,ax [some 0] ?_ ?_ rfl rfl⟩
      rotate_left
      ·refine sB ?_
       all_goals(try exact sM)
      ·refine sB ?_
       all_goals(try exact sM)
      exact⟨by omega,hs⟩
     ·rw[if_neg u2] at hs
      have hsn:(scan p list).1≠0:=by rw[hs];exact u2
      have kG:=Bd hp (fun x hx l hl=>(hc9 x hx).1 l hl) hsn
      have hl2:=kU kG
      rw[hs] at dg kG hl2
      simp only[ak,if_false,u2] at dg
      simp only[an,cN] at hl2
      have hlx:(p++[(unit p list[i]).1]).length=p.length+1:=by simp
      try simp -implicitDefEqProofs only[go_sem,Z1,Z2,Z3,Z4,u2]
      refine sJ ?_
      refine⟨p++[(unit p list[i]).1],?_,sL,ax [some 1] ?_ ?_ rfl rfl⟩
      rotate_left
      ·refine sB ?_
       all_goals(first|done|((rw[←fX];rfl))|(simp[aP, *];done)|(simp[aP];done)|(simp;omega)|skip)
      ·refine sB ?_
       all_goals(first|done|((rw[←fX];rfl))|(simp[aP, *];done)|(simp[aP];done)|(simp;omega)|skip)
      exact⟨kG,by rw[hu,dg]⟩
    ·rw[u1] at hs
     simp only[if_true] at hs
     rw[hs] at dg
     simp only[if_true] at dg
     try simp -implicitDefEqProofs only[go_sem,Z1,Z2,Z3,Z4]
     refine sI ?_
     refine al ?_
     refine sB ?_
     rw[hu,dg]
     exact⟨rfl,rfl⟩
   ·rw[xJ (by omega)] at hs
    rw[hs] at dg
    simp only[ak,if_false,if_true] at dg
    try simp -implicitDefEqProofs only[go_sem,Z1,Z2,Z3,Z4,h1]
    refine sI ?_
    refine al ?_
    refine sB ?_
    rw[hu,dg]
    exact⟨rfl,rfl⟩
theorem tl(list:List (List Int))(a:Addr)(c:Nat)(hc9:∀x∈list,(∀l∈x,l≠0∧l.natAbs≤60)∧x.length≤1000):C E.P 104 [lv (bq list),.d (.val (.slice (some a) 0 c))] [] (bB (.gL [lv (aL (eF list []).1),bv (eF list []).2]) []):=by
 have hp9:gY []:=⟨List.Pairwise.nil,by simp⟩
 generalize hput:([]:List Int)=put at hp9⊢
 refine gT (nt:=39) (rs:=[.tmp 4,.tmp 5]) hm Tryz.func104 fun hl he cx=>?_
 refine oD [] [0] (mX a c) ?_
 refine sI ?_
 try simp -implicitDefEqProofs only[go_sem,Z1,Z2,Z3,Z4]
 refine sI ?_
 refine aG hm (fun(p:List Int)=> gY p∧eF list put=eF list p) (fun(p:List Int)=> ⟨eE 39 .any [(0,lv (bq list)),(6,.acc 0)],[some (.acc 3 (aL p))]⟩) (fun(p:List Int)=> 61-p.length) (put) ?_ (ax [some 0] ?_ ?_ rfl rfl) ?_
 rotate_left
 ·refine sB ?_
  all_goals(first|done|((rw[←hput];rfl))|(simp[aP, *];done)|(simp[aP];done)|(simp;omega)|skip)
 ·refine sB ?_
  all_goals(first|done|((rw[←hput];rfl))|(simp[aP, *];done)|(simp[aP];done)|(simp;omega)|skip)
 rotate_left
 ·exact⟨hp9,rfl⟩
 ·rintro p ⟨hp,hu⟩
  have hl:=kU hp
  have dg:=qN (list:=list) hl
  try simp -implicitDefEqProofs only[go_sem,Z1,Z2,Z3,Z4]
  refine sI ?_
  refine aG hm (fun(i:Nat)=> i≤list.length∧scan p list=scan p (list.drop i)) (fun(i:Nat)=> ⟨eE 39 .any [(0,lv (bq list)),(6,.acc 0),(7,iv 0),(14,lv (bq list)),(15,iv list.length),(16,iv i)],[some (.acc 3 (aL p))]⟩) (fun(i:Nat)=> list.length-i) (0) ?_ (ax [some 0] ?_ ?_ rfl rfl) ?_
  rotate_left
  ·refine sB ?_
   all_goals(try exact sM)
  ·refine sB ?_
   all_goals(try exact sM)
  rotate_left
  ·simp
  ·rintro i ⟨hi,hs⟩
   rcases aa (i<list.length) with h1|h1
   ·obtain⟨b1,b2⟩:=hc9 list[i] (ai h1)
    rw[sR h1] at hs
    try simp -implicitDefEqProofs only[go_sem,Z1,Z2,Z3,Z4,h1]
    refine sI ?_
    refine iO [] [0] (oy list[i] p b1 b2) rfl ?_ ?_ ?_
    ·exact sV
    all_goals simp -implicitDefEqProofs only[go_sem,Z1,Z2,Z3,Z4,h1]
    refine sI ?_
    cases u1:(unit p list[i]).2
    ·rw[u1] at hs
     simp only[ak,if_false] at hs
     rcases aa ((unit p list[i]).1=0) with u2|u2
     ·have k2:=eq_true u2
      rw[if_pos u2] at hs
      try simp -implicitDefEqProofs only[go_sem,Z1,Z2,Z3,Z4,k2]
      refine sJ ?_
      refine⟨i+1,?_,sL,ax [some 0] ?_ ?_ rfl rfl⟩
      rotate_left
      ·refine sB ?_
       all_goals(try exact sM)
      ·refine sB ?_
       all_goals(try exact sM)
      exact⟨by omega,hs⟩
     ·rw[if_neg u2] at hs
      have hsn:(scan p list).1≠0:=by rw[hs];exact u2
      have kG:=Bd hp (fun x hx l hl=>(hc9 x hx).1 l hl) hsn
      have hl2:=kU kG
      rw[hs] at dg kG hl2
      simp only[ak,if_false,u2] at dg
      simp only[an,cN] at hl2
      have hlx:(p++[(unit p list[i]).1]).length=p.length+1:=by simp
      try simp -implicitDefEqProofs only[go_sem,Z1,Z2,Z3,Z4,u2]
      refine sJ ?_
      refine⟨p++[(unit p list[i]).1],?_,sL,ax [some 1] ?_ ?_ rfl rfl⟩
      rotate_left
      ·refine sB ?_
       all_goals(first|done|((rw[←fX];rfl))|(simp[aP, *];done)|(simp[aP];done)|(simp;omega)|skip)
      ·refine sB ?_
       all_goals(first|done|((rw[←fX];rfl))|(simp[aP, *];done)|(simp[aP];done)|(simp;omega)|skip)
      exact⟨kG,by rw[hu,dg]⟩
    ·rw[u1] at hs
     simp only[if_true] at hs
     rw[hs] at dg
     simp only[if_true] at dg
     try simp -implicitDefEqProofs only[go_sem,Z1,Z2,Z3,Z4]
     refine sI ?_
     refine al ?_
     refine sB ?_
     rw[hu,dg]
     exact⟨rfl,rfl⟩
   ·rw[xJ (by omega)] at hs
    rw[hs] at dg
    simp only[ak,if_false,if_true] at dg
    try simp -implicitDefEqProofs only[go_sem,Z1,Z2,Z3,Z4,h1]
    refine sI ?_
    refine al ?_
    refine sB ?_
    rw[hu,dg]
    exact⟨rfl,rfl⟩
theorem ru(list:List (List Int))(put:List Int)(r:List D)(rs:List (List D))(hr:aL put=r::rs)(hp9:gY put)(hc9:∀x∈list,(∀l∈x,l≠0∧l.natAbs≤60)∧x.length≤1000):C E.P 104 [lv (bq list),.d (.bX (r::rs))] [] (bB (.gL [lv (aL (eF list put).1),bv (eF list put).2]) []):=by
 have h1:∀y∈r::rs,y.length=1:=by rw[←hr];exact iZ put
 have hl1:rs.length≤1000:=by
  have:=congrArg List.length hr
  rw[gF] at this
  have h2:=kU hp9
  simp only[aq] at this
  omega
 refine gT (nt:=39) (rs:=[.tmp 4,.tmp 5]) hm Tryz.func104 fun hl he cx=>?_
 refine oD [] [0] (mu r rs hl1 h1) ?_
 refine sI ?_
 try simp -implicitDefEqProofs only[go_sem,Z1,Z2,Z3,Z4]
 refine sI ?_
 refine aG hm (fun(p:List Int)=> gY p∧eF list put=eF list p) (fun(p:List Int)=> ⟨eE 39 .any [(0,lv (bq list)),(6,.acc 0)],[some (.acc 3 (aL p))]⟩) (fun(p:List Int)=> 61-p.length) (put) ?_ (ax [some 0] ?_ ?_ rfl rfl) ?_
 rotate_left
 ·refine sB ?_
  all_goals(first|done|((rw[hr]))|(simp[aP, *];done)|(simp[aP];done)|(simp;omega)|skip)
 ·refine sB ?_
  all_goals(first|done|((rw[hr]))|(simp[aP, *];done)|(simp[aP];done)|(simp;omega)|skip)
 rotate_left
 ·exact⟨hp9,rfl⟩
 ·rintro p ⟨hp,hu⟩
  have hl:=kU hp
  have dg:=qN (list:=list) hl
  try simp -implicitDefEqProofs only[go_sem,Z1,Z2,Z3,Z4]
  refine sI ?_
  refine aG hm (fun(i:Nat)=> i≤list.length∧scan p list=scan p (list.drop i)) (fun(i:Nat)=> ⟨eE 39 .any [(0,lv (bq list)),(6,.acc 0),(7,iv 0),(14,lv (bq list)),(15,iv list.length),(16,iv i)],[some (.acc 3 (aL p))]⟩) (fun(i:Nat)=> list.length-i) (0) ?_ (ax [some 0] ?_ ?_ rfl rfl) ?_
  rotate_left
  ·refine sB ?_
   all_goals(try exact sM)
  ·refine sB ?_
   all_goals(try exact sM)
  rotate_left
  ·simp
  ·rintro i ⟨hi,hs⟩
   rcases aa (i<list.length) with h1|h1
   ·obtain⟨b1,b2⟩:=hc9 list[i] (ai h1)
    rw[sR h1] at hs
    try simp -implicitDefEqProofs only[go_sem,Z1,Z2,Z3,Z4,h1]
    refine sI ?_
    refine iO [] [0] (oy list[i] p b1 b2) rfl ?_ ?_ ?_
    ·exact sV
    all_goals simp -implicitDefEqProofs only[go_sem,Z1,Z2,Z3,Z4,h1]
    refine sI ?_
    cases u1:(unit p list[i]).2
    ·rw[u1] at hs
     simp only[ak,if_false] at hs
     rcases aa ((unit p list[i]).1=0) with u2|u2
     ·have k2:=eq_true u2
      rw[if_pos u2] at hs
      try simp -implicitDefEqProofs only[go_sem,Z1,Z2,Z3,Z4,k2]
      refine sJ ?_
      refine⟨i+1,?_,sL,ax [some 0] ?_ ?_ rfl rfl⟩
      rotate_left
      ·refine sB ?_
       all_goals(try exact sM)
      ·refine sB ?_
       all_goals(try exact sM)
      exact⟨by omega,hs⟩
     ·rw[if_neg u2] at hs
      have hsn:(scan p list).1≠0:=by rw[hs];exact u2
      have kG:=Bd hp (fun x hx l hl=>(hc9 x hx).1 l hl) hsn
      have hl2:=kU kG
      rw[hs] at dg kG hl2
      simp only[ak,if_false,u2] at dg
      simp only[an,cN] at hl2
      have hlx:(p++[(unit p list[i]).1]).length=p.length+1:=by simp
      try simp -implicitDefEqProofs only[go_sem,Z1,Z2,Z3,Z4,u2]
      refine sJ ?_
      refine⟨p++[(unit p list[i]).1],?_,sL,ax [some 1] ?_ ?_ rfl rfl⟩
      rotate_left
      ·refine sB ?_
       all_goals(first|done|((rw[←fX];rfl))|(simp[aP, *];done)|(simp[aP];done)|(simp;omega)|skip)
      ·refine sB ?_
       all_goals(first|done|((rw[←fX];rfl))|(simp[aP, *];done)|(simp[aP];done)|(simp;omega)|skip)
      exact⟨kG,by rw[hu,dg]⟩
    ·rw[u1] at hs
     simp only[if_true] at hs
     rw[hs] at dg
     simp only[if_true] at dg
     try simp -implicitDefEqProofs only[go_sem,Z1,Z2,Z3,Z4]
     refine sI ?_
     refine al ?_
     refine sB ?_
     rw[hu,dg]
     exact⟨rfl,rfl⟩
   ·rw[xJ (by omega)] at hs
    rw[hs] at dg
    simp only[ak,if_false,if_true] at dg
    try simp -implicitDefEqProofs only[go_sem,Z1,Z2,Z3,Z4,h1]
    refine sI ?_
    refine al ?_
    refine sB ?_
    rw[hu,dg]
    exact⟨rfl,rfl⟩
theorem zP(list:List (List Int))(put:List Int)(hp9:gY put)(hc9:∀x∈list,(∀l∈x,l≠0∧l.natAbs≤60)∧x.length≤1000):C E.P 104 [lv (bq list),lv (aL put)] [] (bB (.gL [lv (aL (eF list put).1),bv (eF list put).2]) []):=by
 cases put with
 | nil=>exact Ja (tw list hc9) (fun a c=>tl list a c hc9)
 | cons x xs=>
   have h:=ru list (x::xs) _ _ (b9 x xs) hp9 hc9
   rw[b9]
   exact h
theorem lJ(l:List Int)(yV:l.length≤1000)(hb9:∀x∈l,-1000000≤x∧x≤1000000):C E.P 53 [lv (aL l)] [] (bB (lv (aL (l.map fun x=>-x))) []):=by
 refine gT (nt:=19) (rs:=[.tmp 2]) hm Tryz.func53 fun hl he cx=>?_
 refine aG hm (fun(i:Nat)=> i≤l.length) (fun(i:Nat)=> ⟨eE 19 .any [(3,.acc 0),(6,lv (aL l)),(7,iv l.length),(8,iv i)],[some (.acc 3 (aL ((l.take i).map fun x=>-x)))]⟩) (fun(i:Nat)=> l.length-i) (0) ?_ (ax [none] ?_ ?_ rfl rfl) ?_
 rotate_left
 ·refine sB ?_
  all_goals(first|done|(simp[aL])|(simp[aP, *];done)|(simp[aP];done)|(simp;omega)|skip)
 ·refine sB ?_
  all_goals(first|done|(simp[aL])|(simp[aP, *];done)|(simp[aP];done)|(simp;omega)|skip)
 rotate_left
 ·omega
 ·rintro i hi
  have hv:((l.take i).map fun x=>-x).length=i:=by rw[bj,aO];omega
  rcases aa (i<l.length) with h1|h1
  ·have hb:=hb9 l[i] (ai h1)
   try simp -implicitDefEqProofs only[go_sem,Z1,Z2,Z3,Z4,h1]
   refine sJ ?_
   refine⟨i+1,?_,sL,ax [some 1] ?_ ?_ rfl rfl⟩
   rotate_left
   ·refine sB ?_
    all_goals(first|done|((rw[eW h1,iL,←fX];rfl))|(simp[aP, *];done)|(simp[aP];done)|(simp;omega)|skip)
   ·refine sB ?_
    all_goals(first|done|((rw[eW h1,iL,←fX];rfl))|(simp[aP, *];done)|(simp[aP];done)|(simp;omega)|skip)
   exact h1
  ·have et:l.take i=l:=ao (by omega)
   try simp -implicitDefEqProofs only[go_sem,Z1,Z2,Z3,Z4,h1,et]
   refine sI ?_
   refine al ?_
   exact sD
theorem tZ(a:Int):C E.P 189 [iv a] [] (bB (bv false) []):=by
 refine gT (nt:=6) (rs:=[.tmp 2]) hm Tryz.func189 fun hl he cx=>?_
 refine al ?_
 refine sB ?_
 all_goals(first|done|(simp;done)|(simp;omega)|skip)
theorem yT(a b:Int):C E.P 149 [iv a,iv b] [] (bB (iv (uM a b)) []):=by
 refine gT (nt:=20) (rs:=[.tmp 4]) hm Tryz.func149 fun hl he cx=>?_
 refine aD [] (tZ a) ?_
 refine sI ?_
 refine aD [] (tZ b) ?_
 refine sI ?_
 rcases aa (a<b) with h1|h1
 ·try simp -implicitDefEqProofs only[go_sem,Z1,Z2,Z3,Z4,h1]
  refine sI ?_
  refine al ?_
  refine sB ?_
  all_goals(first|done|(simp[uM,h1];done)|(simp[uM,h1];omega)|skip)
 ·rcases aa (b<a) with h2|h2
  ·try simp -implicitDefEqProofs only[go_sem,Z1,Z2,Z3,Z4,h1,h2]
   refine sI ?_
   refine al ?_
   refine sB ?_
   all_goals(first|done|(simp[uM,h1,h2];done)|(simp[uM,h1,h2];omega)|skip)
  ·try simp -implicitDefEqProofs only[go_sem,Z1,Z2,Z3,Z4,h1,h2]
   refine sI ?_
   refine al ?_
   refine sB ?_
   all_goals(first|done|(simp[uM,h1,h2];done)|(simp[uM,h1,h2];omega)|skip)
theorem rT(a b:Int)(ha:-60≤a∧a≤60)(hb:-60≤b∧b≤60):C E.P 148 [iv a,iv b] [] (bB (iv (uM (a.natAbs:Int) (b.natAbs:Int))) []):=by
 refine gT (nt:=10) (rs:=[.tmp 4]) hm Tryz.func148 fun hl he cx=>?_
 refine aD [] (iD a ha) ?_
 refine sI ?_
 refine aD [] (iD b hb) ?_
 refine sI ?_
 refine aD [] (yT (a.natAbs:Int) (b.natAbs:Int)) ?_
 refine sI ?_
 refine al ?_
 refine sB ?_
 all_goals(first|done|(simp;done)|(simp;omega)|skip)
theorem zF(l:List Int):de (l.take 1)++l.drop 1=l:=by
 cases l<;>rfl
theorem u7(l:List Int)(yV:l.length≤1000)(hb9:∀x∈l,-60≤x∧x≤60):C E.P 220 [.acc 0,iv 0,iv l.length,.fn 148 []] [some (.acc 3 (aL l))] (bB (.gL []) [some (.acc 3 (aL (de l)))]):=by
 have hbp:∀i,∀x∈de (l.take i),-60≤x∧x≤60:=fun i x hx=>hb9 x (List.mem_of_mem_take ((lj _ _).1 hx))
 refine gT (nt:=53) (rs:=[]) hm Tryz.func220 fun hl he cx=>?_
 refine sQ ?_
 refine aG hm (fun(i:Nat)=> 1≤i∧(i≤l.length∨l.length=0∧i=1)) (fun(i:Nat)=> ⟨eE 53 .any [(0,.acc 0),(1,iv 0),(2,iv l.length),(3,.fn 148 []),(8,iv i)],[some (.acc 3 (aL (de (l.take i)++l.drop i)))]⟩) (fun(i:Nat)=> l.length-i) (1) ?_ (ax [some 0] ?_ ?_ rfl rfl) ?_
 rotate_left
 ·refine sB ?_
  all_goals(first|done|((rw[zF]))|(simp[aP, *];done)|(simp[aP];done)|(simp;omega)|skip)
 ·refine sB ?_
  all_goals(first|done|((rw[zF]))|(simp[aP, *];done)|(simp[aP];done)|(simp;omega)|skip)
 rotate_left
 ·omega
 ·rintro i ⟨hi1,hi2⟩
  rcases aa (i<l.length) with h1|h1
  ·try simp -implicitDefEqProofs only[go_sem,Z1,Z2,Z3,Z4,h1]
   refine sI ?_
   have hp:(de (l.take i)).length=i:=by rw[za,aO];omega
   have ed:l.drop i=l[i]::l.drop (i+1):=af h1
   have est:de (l.take i)++l.drop i=sk (de (l.take i)) l[i] (l.drop (i+1)) i:=by rw[LV _ _ (by omega),ed]
   have hbx:=hb9 l[i] (ai h1)
   rw[est]
   refine aG hm (fun(j:Nat)=> j≤i∧∀y∈(de (l.take i)).drop j,l[i].natAbs<y.natAbs) (fun(j:Nat)=> ⟨eE 53 .any [(0,.acc 0),(1,iv 0),(2,iv l.length),(3,.fn 148 []),(8,iv i),(9,iv j)],[some (.acc 3 (aL (sk (de (l.take i)) l[i] (l.drop (i+1)) j)))]⟩) (fun(j:Nat)=> j) (i) ?_ (ax [some 0] ?_ ?_ rfl rfl) ?_
   rotate_left
   ·refine sB ?_
    all_goals(try exact sM)
   ·refine sB ?_
    all_goals(try exact sM)
   rotate_left
   ·exact⟨au _,by rw[ag (by omega)];simp⟩
   ·rintro j ⟨hj,hd⟩
    have hsl:(sk (de (l.take i)) l[i] (l.drop (i+1)) j).length=l.length:=by rw[LD _ _ (by omega),hp,dU];omega
    have hjl:j<(sk (de (l.take i)) l[i] (l.drop (i+1)) j).length:=by omega
    have e1:=M9 l[i] (l.drop (i+1)) (p:=de (l.take i)) (by omega) hjl
    rcases aa ((0:Int)<(j:Int)) with h0|h0
    ·have hj1:j-1<(sk (de (l.take i)) l[i] (l.drop (i+1)) j).length:=by omega
     have hjp:j-1<(de (l.take i)).length:=by omega
     have e2:=Fv l[i] (l.drop (i+1)) (p:=de (l.take i)) (by omega) (by omega) hjp hj1
     have q:((j:Int)-1)=((j-1:Nat):Int):=by omega
     have hb2:=hbp i _ (ai hjp)
     have estep:((sk (de (l.take i)) l[i] (l.drop (i+1)) j).set j (de (l.take i))[j-1]).set (j-1) l[i]=sk (de (l.take i)) l[i] (l.drop (i+1)) (j-1):=by
      have e3:=JF (p:=de (l.take i)) l[i] (l.drop (i+1)) hjp
      have e4:j-1+1=j:=by omega
      rwa [e4] at e3
     generalize hs:sk (de (l.take i)) l[i] (l.drop (i+1)) j=s at *
     try simp -implicitDefEqProofs only[go_sem,Z1,Z2,Z3,Z4,h0,q,hjl,hj1]
     refine sJ ?_
     refine e7 [] (rT s[j] s[j-1] (by rw[e1];exact hbx) (by rw[e2];exact hb2)) ?_ ?_<;>simp -implicitDefEqProofs only[go_sem,Z1,Z2,Z3,Z4,hjl,hj1]
     refine sI ?_
     rw[e1,e2]
     rcases aa (l[i].natAbs<((de (l.take i))[j-1]).natAbs) with h3|h3
     ·have k3:uM (l[i].natAbs:Int) (((de (l.take i))[j-1]).natAbs:Int)<0:=B0.2 (by omega)
      try simp -implicitDefEqProofs only[go_sem,Z1,Z2,Z3,Z4,k3,q,hjl,hj1]
      refine sJ ?_
      refine aH (by rw[dm,gF];exact hj1) ?_
      refine aH (by rw[dm,gF];exact hj1) ?_
      refine sQ ?_
      have r1:(aL s).set j (o0 [D.val (Value.int .i64 s[j])] 0 [D.val (Value.int .i64 s[j-1])])=aL (s.set j s[j-1]):=sN hjl
      have r2:(aL (s.set j s[j-1])).set (j-1) (o0 (row (aL (s.set j s[j-1])) (j-1)) 0 [D.val (Value.int .i64 s[j])])=aL ((s.set j s[j-1]).set (j-1) s[j]):=by
       rw[s9 (by rw[dm];exact hj1)]
       exact sN (by rw[dm];exact hj1)
      have e5:(de (l.take i)).drop (j-1)=(de (l.take i))[j-1]::(de (l.take i)).drop j:=by
       rw[af hjp]
       have e6:j-1+1=j:=by omega
       rw[e6]
      refine⟨j-1,?_,sL,ax [some 0] ?_ ?_ rfl rfl⟩
      rotate_left
      ·refine sB ?_
       all_goals(first|done|((rw[r1,r2,e1,e2,estep]))|(simp[aP, *];done)|(simp[aP];done)|(simp;omega)|skip)
      ·refine sB ?_
       all_goals(first|done|((rw[r1,r2,e1,e2,estep]))|(simp[aP, *];done)|(simp[aP];done)|(simp;omega)|skip)
      refine⟨by omega,fun y hy=>?_⟩
      rw[e5] at hy
      rcases List.mem_cons.1 hy with hy|hy
      ·rw[hy];exact h3
      ·exact hd y hy
     ·have k3:¬uM (l[i].natAbs:Int) (((de (l.take i))[j-1]).natAbs:Int)<0:=fun hh=>h3 (by have:=B0.1 hh;omega)
      have eend:s=de (l.take (i+1))++l.drop (i+1):=by
       rw[eW h1,xW,←hs]
       exact Il (pd _) hd (fun _ _=>by omega) (by omega)
      try simp -implicitDefEqProofs only[go_sem,Z1,Z2,Z3,Z4,k3]
      refine sJ ?_
      rw[eend]
      refine⟨i+1,?_,sL,ax [some 0] ?_ ?_ rfl rfl⟩
      rotate_left
      ·refine sB ?_
       all_goals(try exact sM)
      ·refine sB ?_
       all_goals(try exact sM)
      omega
    ·have eend:sk (de (l.take i)) l[i] (l.drop (i+1)) j=de (l.take (i+1))++l.drop (i+1):=by
      rw[eW h1,xW]
      exact Il (pd _) hd (fun _ _=>by omega) (by omega)
     try simp -implicitDefEqProofs only[go_sem,Z1,Z2,Z3,Z4,h0]
     refine sJ ?_
     rw[eend]
     refine⟨i+1,?_,sL,ax [some 0] ?_ ?_ rfl rfl⟩
     rotate_left
     ·refine sB ?_
      all_goals(try exact sM)
     ·refine sB ?_
      all_goals(try exact sM)
     omega
  ·try simp -implicitDefEqProofs only[go_sem,Z1,Z2,Z3,Z4,h1]
   refine sI ?_
   have et:l.take i=l:=ao (by omega)
   have ed:l.drop i=[]:=ag (by omega)
   rw[et,ed,List.append_nil]
   refine bu [some 0] ?_ rfl rfl
   exact sD
theorem Gl(n:Nat)(h:n≤1000):C E.P 188 [.d (.val (.int .u64 (n:Int)))] [] (bB (iv (Lib.bitLen n)) []):=by
 refine Kj (v:=.int .u64 (n:Int)) ⟨_,Tryz.func188,rfl,rfl⟩ (fun w ok ν st u hu=>?_) rfl fun w=>?_
 ·simp only[aj] at hu
  cases hu
  rfl
 ·have:=Tryz.bits_Len (n:Int) w (by omega) (by omega)
  simp only[Int.toNat_natCast] at this
  exact this
theorem FY(l:List Int)(yV:l.length≤12)(k:Int)(hb9:∀x∈l,-60≤x∧x≤60):C E.P 187 [.acc 0,iv 0,iv l.length,iv k,.fn 148 []] [some (.acc 3 (aL l))] (bB (.gL []) [some (.acc 3 (aL (de l)))]):=by
 have h1:(l.length:Int)≤12:=by omega
 refine gT (nt:=148) (rs:=[]) hm Tryz.func187 fun hl he cx=>?_
 refine aG hm (fun(u:Nat)=> u=0) (fun(u:Nat)=> ⟨eE 148 .any [(0,.acc 0),(1,iv 0),(2,iv l.length),(3,iv k),(4,.fn 148 []),(10,bv true),(11,bv true)],[some (.acc 3 (aL l))]⟩) (fun(u:Nat)=> u) (0) ?_ (ax [some 0] ?_ ?_ rfl rfl) ?_
 rotate_left
 ·refine sB ?_
  all_goals(try exact sM)
 ·refine sB ?_
  all_goals(try exact sM)
 rotate_left
 ·rfl
 ·rintro u rfl
  try simp -implicitDefEqProofs only[go_sem,Z1,Z2,Z3,Z4,h1]
  refine sJ ?_
  try simp -implicitDefEqProofs only[go_sem,Z1,Z2,Z3,Z4,Int.sub_zero,h1]
  refine sI ?_
  refine oD [] [0] (u7 l (by omega) hb9) ?_
  refine sI ?_
  refine bu [some 0] ?_ rfl rfl
  exact sD
theorem we(l:List Int)(yV:l.length≤12)(hb9:∀x∈l,-60≤x∧x≤60):C E.P 147 [.acc 0,.fn 148 []] [some (.acc 3 (aL l))] (bB (.gL []) [some (.acc 3 (aL (de l)))]):=by
 have hw:=wrap_u64 (n:=(l.length:Int)) (by omega) (by omega)
 refine gT (nt:=14) (rs:=[]) hm Tryz.func147 fun hl he cx=>?_
 refine sQ ?_
 try simp -implicitDefEqProofs only[go_sem,Z1,Z2,Z3,Z4,hw]
 refine sI ?_
 refine aD [] (Gl l.length (by omega)) ?_
 refine sI ?_
 refine oD [] [0] (FY l yV (Lib.bitLen l.length) hb9) ?_
 refine sI ?_
 refine bu [some 0] ?_ rfl rfl
 exact sD
theorem wD{w:World}{ok:Nat→Prop}:∀{zs:List Int}{us:List (List Value)},bg w ok 1 (aL zs) us→us.flatten=zs.map (Value.int .i64)
 | [],us,h=>by
   have e:us=[]:=cb.1 h.len
   rw[e]
   rfl
 | z::zs,us,h=>by
   have hl:=h.len
   cases us with
   | nil=>simp[b9] at hl
   | cons u us=>
     have hu:=h.hu 0 u rfl
     obtain⟨v,rfl⟩:=cg.1 hu
     have hr:=h.hr 0 0 _ _ _ _ (by rw[b9];rfl) rfl rfl rfl
     have ih:=wD (w:=w) (ok:=ok) (zs:=zs) (us:=us) ⟨by simpa[b9] using hl,fun i x hx=>h.hx (i+1) x (by rw[b9];exact hx),fun i x hx=>h.hu (i+1) x hx,fun i j x y d e h1 h2 h3 h4=>h.hr (i+1) j x y d e (by rw[b9];exact h1) h2 h3 h4⟩
     cases hr
     rw[bQ,ih]
     rfl
theorem FZ(w:World)(ok:Nat→Prop)(zs:List Int):bg w ok 1 (aL zs) (zs.map fun z=>[Value.int .i64 z]):=by
 refine⟨by rw[bj,gF],fun i x hx=>iZ zs x (List.mem_of_getElem? hx),fun i u hu=>?_,fun i j x u d v h1 h2 h3 h4=>?_⟩
 ·obtain⟨z,_,rfl⟩:∃z,zs[i]?=some z∧[Value.int .i64 z]=u:=by simpa using hu
  rfl
 ·obtain⟨z,hz,rfl⟩:∃z,zs[i]?=some z∧[Value.int .i64 z]=u:=by simpa using h2
  have hx:x=[.val (.int .i64 z)]:=by
   unfold aL at h1
   rw[dH,hz] at h1
   exact(Option.some.inj h1).symm
  subst hx
  cases j with
  | zero=>
    cases h3;cases h4
    exact .val _ rfl
  | succ j=>cases h3
theorem tW:∀(l:List Int),(compact l).length≤l.length
 | []=>by simp[compact]
 | [x]=>by simp[compact]
 | x::y::l=>by
   have:=tW (y::l)
   simp only[compact]
   split
   ·simp only[aq] at this⊢;omega
   ·simp only[aq] at this⊢;omega
theorem pZ(zs:List Int)(yV:zs.length≤1000):C E.P 150 [.acc 0] [some (.acc 3 (aL zs))] (bB (.acc 1) [some .dead,some (.acc 3 (aL (compact zs)))]):=by
 refine⟨⟨_,Tryz.func150,rfl,rfl⟩,?_⟩
 intro X vs dg hO hs
 have hsz:=hs.size
 obtain⟨v,rfl⟩:=cg.1 (show vs.length=1 by simpa using hsz)
 have hv0:=hs.sl 0
 obtain⟨us,dG,fj,hB,hf0⟩:=hs.en 0 (.acc 3 (aL zs)) rfl
 have hcell:E.P.cellsOf 3=1:=(E.ok 3 _ rfl).cells
 rw[hcell] at dG fj
 have hus:=wD fj
 rw[hus,gF] at dG
 have hv:v=(X.ν0 0).v:=hv0.2
 have hcl:=tW zs
 have old0:∀k,some 0=some k→∃e,G.at ⟨[PV.acc 0],[some (En.acc 3 (aL zs))]⟩ k=some e∧e.live=true:=fun k hk=>by cases hk;exact⟨_,rfl,rfl⟩
 rcases dG.2 with⟨hnil,h0⟩|⟨g,cap,cur,hvv,_,hg,hn,hcm,hcs,htk⟩
 ·have hz:zs=[]:=cb.1 h0
  subst hz
  rw[hv,hnil]
  refine(Tryz.slices_Compact_int_empty none 0 X.w0).mono ?_
  rintro e w' ⟨rfl,rfl⟩
  refine⟨_,.acc 1,_,_,rfl,⟨rfl,rfl⟩,hs.move (some 0) old0 ((mK.refl _ _)) 1 rfl (.acc 3 (aL [])) ⟨.slice none 0 0,[]⟩ rfl (fun b hb=>by have:=(gV rfl).1 hb;simp[oc] at this) 0 (.acc 1) (.slice none 0 0) (fun ok st ν' hν _ _=>?_) (fun ok st ν' hν dg _ _=>?_)⟩
  ·refine⟨[],?_,bg.nil _ _ _,by simp[aL],by rw[hν]⟩
   rw[hν]
   exact⟨by simp,.inl ⟨rfl,rfl⟩⟩
  ·simp only[aj]
   exact⟨by rw[dg];rfl,by rw[hν]⟩
 ·have hcur:∀j,j<zs.length→cur[j]?=some (.int .i64 (zs.getD j 0)):=by
   intro j hj
   have h1:=congrArg (fun l=>l[j]?) htk
   simp only[Nat.mul_one,List.getElem?_take_of_lt hj,Array.getElem?_toList,dH] at h1
   rw[h1,List.getElem?_eq_getElem hj]
   simp[List.getD,hj]
  have key:=Tryz.slices_Compact_int_cells g 0 zs.length cap zs X.w0 (au _) (by omega) hn (fun j hj=>by
   have:=cell_of_row X.w0 g (0+j) cur _ (0,0) hg
   rw[this,Nat.zero_add]
   exact hcur j hj) (fun j hj=>by simp[World.frozen?,hg])
  rw[List.take_length,ur _ zs rfl] at key
  rw[hv,hvv]
  refine key.mono ?_
  rintro e w' ⟨rfl,q,rfl⟩
  generalize hvals:(compact zs++List.replicate (zs.length-(compact zs).length) 0).map (Value.int .i64)=vals
  have hvl:vals.length=zs.length:=by rw[←hvals];simp;omega
  obtain⟨c1,c2,c3,c4,c5,c6⟩:=Cq g vals 0 (X.w0.drewN q)
  have hsz2:cur.size=cap:=by omega
  have hlist:=zr vals 0 cur (by omega)
  have lf:mK (fun b=>∃k,some 0=some k∧(X.ν0 k).has b) X.w0 ((X.w0.drewN q).setCells g 0 vals):=by
   refine⟨c1,c2,c3,by rw[c4];exact au _,fun k hk hnb=>?_⟩
   rw[c5 k (fun hkg=>hnb ⟨0,rfl,.inl (by rw[hvv,hkg];rfl)⟩)]
   rfl
  refine⟨_,.acc 1,_,_,rfl,⟨rfl,rfl⟩,hs.move (some 0) old0 lf 1 rfl (.acc 3 (aL (compact zs))) ⟨.slice (some ⟨g,0,none⟩) (compact zs).length cap,[]⟩ rfl (fun b hb=>.inl ⟨0,rfl,.inl (by rw[hvv];exact(gV rfl).1 hb)⟩) 0 (.acc 1) (.slice (some ⟨g,0,none⟩) (compact zs).length cap) (fun ok st ν' hν _ _=>?_) (fun ok st ν' hν dg _ _=>?_)⟩
  ·refine⟨(compact zs).map fun z=>[Value.int .i64 z],?_,by rw[hcell];exact FZ _ _ _,by rw[gF];unfold LB;omega,by rw[hν]⟩
   have hfl:((compact zs).map fun z=>[Value.int .i64 z]).flatten=(compact zs).map (Value.int .i64):=by
    induction compact zs with
    | nil=>rfl
    | cons a l ih=>rw[List.map_cons,bQ,ih];rfl
   rw[hν,hcell,gF,hfl]
   refine⟨by simp,.inr ⟨g,cap,Gj cur 0 vals,rfl,Nat.zero_le _,c6 _ _ _ hg,by omega,hcm,?_,?_⟩⟩
   ·have:=congrArg List.length hlist
    simp only[Array.length_toList,an,aO,dU] at this
    omega
   ·rw[hlist,←hvals]
    simp
  ·simp only[aj]
   exact⟨by rw[dg];rfl,by rw[hν]⟩
theorem nW(l:List Int)(n9:l≠[])(yV:l.length≤1000):C E.P 59 [lv (aL l)] [] (bB (.acc 0) [some (.acc 3 (aL l))]):=by
 cases l with
 | nil=>exact absurd rfl n9
 | cons x xs=>
   have h1:=iZ (x::xs)
   rw[b9] at h1⊢
   exact mu _ (aL xs) (by rw[gF];simp at yV;omega) h1
theorem nU(l:List Int)(n9:l≠[])(yV:l.length≤12)(hb9:∀x∈l,-1000000≤x∧x≤1000000):C E.P 100 [lv (aL l)] [] (bB (.gL [lv (aL ((dD l).getD [])),bv (dD l).isSome]) []):=by
 have e:=lE l
 refine gT (nt:=29) (rs:=[.tmp 2,.tmp 3]) hm Tryz.func100 fun hl he cx=>?_
 refine aG hm (fun(i:Nat)=> i≤l.length∧(∀x∈l.take i,-60≤x∧x≤60)∧tM l=(l.drop i).all fun x=>dz x 60&& !l.contains (-x)) (fun(i:Nat)=> ⟨eE 29 .any [(0,lv (aL l)),(7,lv (aL l)),(8,iv l.length),(9,iv i)],[]⟩) (fun(i:Nat)=> l.length-i) (0) ?_ (ax [] ?_ ?_ rfl rfl) ?_
 rotate_left
 ·refine sB ?_
  all_goals(try exact sM)
 ·refine sB ?_
  all_goals(try exact sM)
 rotate_left
 ·exact⟨by omega,by simp,rfl⟩
 ·rintro i ⟨hi,ht,hg⟩
  rcases aa (i<l.length) with h1|h1
  ·have hb:=hb9 l[i] (ai h1)
   rw[af h1,List.all_cons] at hg
   have hc:C E.P 98 [iv l[i],iv 60] [] (bB (bv (dz l[i] 60)) []):=mz l[i] 60 (by omega)
   try simp -implicitDefEqProofs only[go_sem,Z1,Z2,Z3,Z4,h1]
   refine sI ?_
   refine aD [] hc ?_
   refine sI ?_
   cases h2:dz l[i] 60
   ·rw[h2,aI,aI] at hg
    rw[hg,if_neg (by simp)] at e
    try simp -implicitDefEqProofs only[go_sem,Z1,Z2,Z3,Z4]
    refine sI ?_
    refine al ?_
    refine sB ?_
    all_goals(first|done|(simp[e];done)|(simp[e];omega)|skip)
   ·have hm:=iM.1 h2
    rw[h2,ay] at hg
    try simp -implicitDefEqProofs only[go_sem,Z1,Z2,Z3,Z4]
    refine sJ ?_
    refine aD [] (eY l (-l[i])) ?_
    refine sI ?_
    cases h3:l.contains (-l[i])
    ·rw[h3,Bool.not_false,ay] at hg
     try simp -implicitDefEqProofs only[go_sem,Z1,Z2,Z3,Z4]
     refine sJ ?_
     refine⟨i+1,?_,sL,ax [] ?_ ?_ rfl rfl⟩
     rotate_left
     ·refine sB ?_
      all_goals(try exact sM)
     ·refine sB ?_
      all_goals(try exact sM)
     refine⟨by omega,fun x hx=>?_,hg⟩
     rw[eW h1] at hx
     rcases List.mem_append.1 hx with hx|hx
     ·exact ht x hx
     ·rw[List.mem_singleton.1 hx];omega
    ·rw[h3,Bool.not_true,aI] at hg
     rw[hg,if_neg (by simp)] at e
     try simp -implicitDefEqProofs only[go_sem,Z1,Z2,Z3,Z4]
     refine sI ?_
     refine al ?_
     refine sB ?_
     all_goals(first|done|(simp[e];done)|(simp[e];omega)|skip)
  ·rw[ag (by omega),List.all_nil] at hg
   rw[ao (by omega)] at ht
   rw[hg,if_pos rfl] at e
   try simp -implicitDefEqProofs only[go_sem,Z1,Z2,Z3,Z4,h1]
   refine sI ?_
   refine oD [] [0] (nW l n9 (by omega)) ?_
   refine sI ?_
   refine oD [] [0] (we l yV ht) ?_
   refine sI ?_
   refine oD [] [0,1] (pZ (de l) (by rw[za];omega)) ?_
   refine sI ?_
   refine al ?_
   refine sB ?_
   rw[e]
   exact⟨rfl,rfl⟩
end Go.Proofs.YtgpjhjalfakpoaaGreat
