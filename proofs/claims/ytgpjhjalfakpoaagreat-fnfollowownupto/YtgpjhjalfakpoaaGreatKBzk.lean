/-
  The program: the search, where nothing can be found. A step towards the laws.
-/
import Derived.Test.YtgpjhjalfakpoaaGreatKBEo
import Derived.Test.YtgpjhjalfakpoaaGreatKBm
import Derived.Test.YtgpjhjalfakpoaaGreatKByc
set_option linter.unusedVariables false
set_option linter.unusedSimpArgs false
open And renaming intro→ay
open Bool renaming false_eq_true→al
open Classical renaming em→aa
open Int renaming toNat_natCast→aA
open List renaming length_map→bl,mem_map→bQ
open Nat renaming le_refl→ar
namespace Go.Proofs.YtgpjhjalfakpoaaGreat
open Go.Eng Go.Mod
open Int renaming reduceEq→Z1,reduceLT→Z2,reduceLE→Z3,reduceToNat→Z4
set_option maxRecDepth 100000
set_option maxHeartbeats 1600000
theorem CR{E:Env}{o:Oper}{g g':G}{rest:lK→Option (List Ky)→G→Prop}(hw:rA E.P g g')(h:oB E none none o g' rest):oB E none none o g rest:=by
 rcases h with⟨R,δ,h1,h2⟩|⟨_,_,g2,hw2,R,δ,h1,h2⟩
 ·exact .inr ⟨rfl,rfl,g',hw,R,δ,h1,h2⟩
 ·exact .inr ⟨rfl,rfl,g2,hw.trans hw2,R,δ,h1,h2⟩
theorem tX:C E.P 59 [.aV] [] (bw (.acc 0) [some (.acc 3 (aM []))]):=by
 refine gS (nt:=8) (rs:=[.tmp 2]) hm Tryz.func59 fun hl he cp=>?_
 refine qw 3 _ true rfl rfl (by simp -implicitDefEqProofs only[go_sem]) pV ?_
 refine sA ?_
 refine bh [none] ?_ rfl rfl
 exact sC
theorem mT(ns:List Int)(hl1:ns.length≤1000):C E.P 59 [lv (aM ns)] [] (bw (.acc 0) [some (.acc 3 (aM ns))]):=by
 cases ns with
 | nil=>exact FM tX nn
 | cons x xs=>exact oA (x::xs) (by simp) hl1
theorem p6:C E.P 100 [lv (aM [])] [] (bw (.gN [lv (aM []),bv true]) []):=by
 refine gS (nt:=29) (rs:=[.tmp 2,.tmp 3]) hm Tryz.func100 fun hl he cp=>?_
 refine aI hm (fun(i:Nat)=> i=0) (fun(i:Nat)=> ⟨eQ 29 .any [(0,lv (aM [])),(7,lv (aM [])),(8,iv 0),(9,iv i)],[]⟩) (fun(i:Nat)=> 0) (0) ?_ (ax [] ?_ ?_ rfl rfl) ?_
 rotate_left
 ·exact sC
 ·exact sC
 rotate_left
 ·rfl
 ·rintro i rfl
  simp -implicitDefEqProofs only[go_sem,Z2]
  refine oC [] [0] (mT [] (by simp)) ?_
  refine oC [] [0] (x5 [] (by simp) (by simp)) ?_
  refine oC [] [0,1] (qh (dk []) (by show(0:Nat)≤1000;omega)) ?_
  refine ak ?_
  refine sA ?_
  rfl
theorem mF(l:List Int)(wA:l.length≤12)(hb9:∀x∈l,-1000000≤x∧x≤1000000):C E.P 100 [lv (aM l)] [] (bw (.gN [lv (aM ((dJ l).getD [])),bv (dJ l).isSome]) []):=by
 cases l with
 | nil=>exact p6
 | cons x xs=>exact ov (x::xs) (by simp) wA hb9
theorem uV(c:Mod.dq)(d:Nat)(dec:List Int)(h:lM)(hz:h.fuel=0) :
 C E.P 56 [.ptr 0 0,lv (aM dec)] [some (.box [iv c.many,lv (bt c.list),iv h.fuel,.acc 1,bv h.out]),some (.acc 29 (bt h.log))] (bw (.gN [.aV,bv false]) [some (.box [iv c.many,lv (bt c.list),iv (dT c d dec h).fuel,.acc 2,bv (dT c d dec h).out]),some .dead,some (.acc 29 (bt (dT c d dec h).log))]):=by
 rw[xK hz]
 have k0:=eq_true hz
 refine gS (nt:=122) (rs:=[.tmp 4,.tmp 5]) hm Tryz.func56 fun hl he cp=>?_
 refine uH ?_
 refine bh [some 0,some 1,some 1] ?_ rfl rfl
 exact sC
theorem CO(n:Nat)(c:Mod.dq)(hu:Un n c):∀(d:Nat)(dec:List Int)(h:lM),uz n dec→h.out=false→0≤h.fuel→h.fuel≤d→(h.log.length:Int)+h.fuel≤130 →
 C E.P 56 [.ptr 0 0,lv (aM dec)] [some (.box [iv c.many,lv (bt c.list),iv h.fuel,.acc 1,bv h.out]),some (.acc 29 (bt h.log))] (bw (.gN [.aV,bv false]) [some (.box [iv c.many,lv (bt c.list),iv (dT c d dec h).fuel,.acc 2,bv (dT c d dec h).out]),some .dead,some (.acc 29 (bt (dT c d dec h).log))]):=by
 obtain⟨m,hcm⟩:∃m:Nat,c.many=m:=⟨c.many.toNat,by have:=hu.many;omega⟩
 have hmt:c.many.toNat=m:=by omega
 have hm60:m≤60:=by have:=hu.many;omega
 have h6:=hu.Pj
 intro d
 induction d with
 | zero=>exact fun dec h hd ho h0 h1 h2=>uV c 0 dec h (by omega)
 | succ d ih=>
   intro dec h hd ho h0 h1 h2
   rcases aa (h.fuel=0) with hz|hz
   ·exact uV c (d+1) dec h hz
   have hdl:=hd.len
   have cu:=AM c.list dec hd.1 hu.clause
   obtain⟨fu,lg,ou⟩:=h
   simp only at ho h0 h1 h2 hz
   subst ho
   cases hb:(eX c.list dec).2
   ·obtain⟨f,f1,f2,f3,d1,d2⟩:=hd.snoc hu hb
    rw[yy hz hb f1]
    rw[hb] at cu
    rw[hcm] at ih⊢
    rw[hmt] at f1
    generalize (eX c.list dec).1=put at cu f1
    have cp:=CA
    refine BQ (nt:=122) (rs:=[.tmp 4,.tmp 5]) hm Tryz.func56 rfl rfl rfl rfl rfl (fun hl he=>?_)
    simp -implicitDefEqProofs only[go_sem] at hl⊢
    simp -implicitDefEqProofs only[go_sem,hz]
    refine sQ ?_
    refine aC [] cu ?_
    refine sQ ?_
    refine kL hm (fun(v:Nat) (q:Int) (rs:List (List D))=> v≤m∧rs.length=m∧gW put v q=f) (fun(v:Nat) (q:Int) (rs:List (List D))=> ⟨eQ 122 .any [(0,.ptr 0 0),(1,lv (aM dec)),(6,lv (aM put)),(8,iv q),(9,.acc 2),(10,iv v)],[some (.box [iv m,lv (bt c.list),iv (fu-1),.acc 1,bv false]),some (.acc 29 (bt lg)),some (.acc 4 rs)]⟩) (fun(v:Nat) (q:Int) (rs:List (List D))=> v) (m) (0) (List.replicate m [D.val (.bool false)]) ?_ (ax [some 0,some 1,some 2] ?_ ?_ rfl rfl) ?_
    rotate_left
    ·exact sC
    ·exact sC
    rotate_left
    ·exact⟨ar _,by simp,f1⟩
    ·rintro v q rs ⟨g1,g2,g4⟩
     rcases aa ((0:Int)<(v:Int)) with h3|h3
     ·obtain⟨u,hu1⟩:∃u:Nat,v=u+1:=⟨v-1,by omega⟩
      have hv1:(v:Int)-1=(u:Int):=by omega
      have hur:u<rs.length:=by omega
      have g5:gW put u (if put.contains (v:Int) then q else if put.contains (-(v:Int)) then q else(v:Int))=f:=by
       rw[←g4]
       subst hu1
       rw[gW]
       rfl
      refine uC ?_
      refine aC [] (fv put (v:Int)) ?_
      cases k1:put.contains (v:Int)
      ·rw[k1] at g5
       simp only[al,if_false] at g5
       refine sA ?_
       refine sQ ?_
       refine aC [] (fv put (-(v:Int))) ?_
       cases k2:put.contains (-(v:Int))
       ·rw[k2] at g5
        simp only[al,if_false] at g5
        simp -implicitDefEqProofs only[go_sem,hv1]
        refine sQ ?_
        refine⟨u,(v:Int),rs,?_,sL,ax [some 0,some 1,some 2] ?_ ?_ rfl rfl⟩
        rotate_left
        ·exact sC
        ·exact sC
        exact⟨by omega,g2,g5⟩
       ·rw[k2] at g5
        simp only[if_true] at g5
        simp -implicitDefEqProofs only[go_sem,hv1]
        refine sQ ?_
        refine⟨u,q,rs,?_,sL,ax [some 0,some 1,some 2] ?_ ?_ rfl rfl⟩
        rotate_left
        ·exact sC
        ·exact sC
        exact⟨by omega,g2,g5⟩
      ·rw[k1] at g5
       simp only[if_true] at g5
       simp -implicitDefEqProofs only[go_sem,hv1,hur]
       refine sQ ?_
       refine⟨u,q,rs.set u (pB (row rs u) 0 [D.val (.bool true)]),?_,sL,ax [some 0,some 1,some 2] ?_ ?_ rfl rfl⟩
       rotate_left
       ·exact sC
       ·exact sC
       exact⟨by omega,by simpa using g2,g5⟩
     ·have hv0:v=0:=by omega
      rw[hv0,gW] at g4
      subst g4
      have hf0:¬ (f:Int)=0:=by omega
      simp -implicitDefEqProofs only[go_sem,h3,hf0]
      refine sQ ?_
      refine pr hm (fun(i:Nat) (g:lM)=> i≤2∧g.out=false∧0≤g.fuel∧g.fuel≤d∧(g.log.length:Int)+g.fuel≤129∧r6 c d dec f 0 ⟨fu-1,lg,false⟩=r6 c d dec f i g) (fun(i:Nat) (g:lM)=> ⟨eQ 122 .any [(0,.ptr 0 0),(1,lv (aM dec)),(80,lv (aM [-(f:Int),(f:Int)])),(81,iv 2),(82,iv i)],[some (.box [iv m,lv (bt c.list),iv g.fuel,.acc 2,bv false]),some .dead,some (.acc 29 (bt g.log))]⟩) (fun(i:Nat) (g:lM)=> 2-i) (0) (⟨fu-1,lg,false⟩) ?_ (ax [some 0,some 1,some 1] ?_ ?_ rfl rfl) ?_
      rotate_left
      ·refine sA ?_
       all_goals(exact⟨rfl,rfl⟩)
      ·simp -implicitDefEqProofs only[go_sem]
      rotate_left
      ·exact⟨by omega,rfl,by simp only;omega,by simp only;omega,by simp only;omega,rfl⟩
      ·rintro i g ⟨q1,q2,q3,q4,q5,q6⟩
       rw[q6]
       have e1:row (aM [-(f:Int),(f:Int)]) 1=[D.val (Value.int .i64 f)]:=rfl
       have e2:(1:Nat)<1+1:=by omega
       have hcase:i=0∨i=1∨i=2:=by omega
       rcases hcase with rfl|rfl|rfl
       ·have cr:=ih (dec++[(-(f:Int))]) g d1 q2 q3 q4 (by omega)
        have hbb:=A7 c d (dec++[(-(f:Int))]) g q3
        have er:aM (dec++[(-(f:Int))])=aM dec++[[D.val (Value.int .i64 ((-(f:Int))))]]:=(gh dec [(-(f:Int))]).symm
        rw[Di]
        rw[er,q2] at cr
        generalize dT c d (dec++[(-(f:Int))]) g=k at cr hbb⊢
        simp -implicitDefEqProofs only[go_sem,Z2]
        refine oC [] [3] (mT dec (by omega)) ?_
        refine sQ ?_
        refine CR (Ab 92 4 rfl) ?_
        simp -implicitDefEqProofs only[go_sem,List.getElem_cons_zero]
        refine bT [] [0,2,5] cr ?_ ?_
        ·refine sA ?_
         first|rfl|((repeat' apply ay)<;>rfl)
        refine sA ?_
        cases ho:k.out
        ·refine sA ?_
         refine sQ ?_
         refine⟨1,k,?_,sL,ax [some 0,some 1,some 5] ?_ ?_ rfl rfl⟩
         rotate_left
         ·refine sA ?_
          all_goals(simp[*];done)
         ·exact sC
         exact⟨by omega,ho,hbb.1,by omega,by omega,rfl⟩
        ·simp -implicitDefEqProofs only[go_sem,ho]
         refine bh [some 0,some 1,some 5] ?_ rfl rfl
         exact sC
       ·have cr:=ih (dec++[(f:Int)]) g d2 q2 q3 q4 (by omega)
        have hbb:=A7 c d (dec++[(f:Int)]) g q3
        have er:aM (dec++[(f:Int)])=aM dec++[[D.val (Value.int .i64 ((f:Int)))]]:=(gh dec [(f:Int)]).symm
        rw[G7]
        rw[er,q2] at cr
        generalize dT c d (dec++[(f:Int)]) g=k at cr hbb⊢
        simp -implicitDefEqProofs only[go_sem,Z2,Z3,Z4,e1,e2]
        refine oC [] [3] (mT dec (by omega)) ?_
        refine sQ ?_
        refine CR (Ab 92 4 rfl) ?_
        refine sA ?_
        refine bT [] [0,2,5] cr ?_ ?_
        ·refine sA ?_
         first|rfl|((repeat' apply ay)<;>rfl)
        simp -implicitDefEqProofs only[go_sem]
        cases ho:k.out
        ·refine sA ?_
         refine sQ ?_
         refine⟨2,k,?_,sL,ax [some 0,some 1,some 5] ?_ ?_ rfl rfl⟩
         rotate_left
         ·refine sA ?_
          all_goals(simp[*];done)
         ·exact sC
         exact⟨by omega,ho,hbb.1,by omega,by omega,rfl⟩
        ·simp -implicitDefEqProofs only[go_sem,ho]
         refine bh [some 0,some 1,some 5] ?_ rfl rfl
         exact sC
       ·rw[G6]
        simp -implicitDefEqProofs only[go_sem,Z2]
        refine aC [] (mb dec (by omega) (fun x hx=>by have:=hd.1.2 x hx;omega)) ?_
        refine aC [] (mF (dec.map fun x=>-x) (by rw[bl];omega) (fun x hx=>by obtain⟨y,hy,rfl⟩:=bQ.1 hx;have:=hd.1.2 y hy;omega)) ?_
        refine sQ ?_
        refine bh [some 0,some 1,some 3] ?_ rfl rfl
        refine sA ?_
        exact⟨⟨rfl,(by rw[mD,q2])⟩,pk g.log [((dJ (dec.map fun x=>-x)).getD [])]⟩
   ·rw[zx hz hb]
    rw[hb] at cu
    refine gS (nt:=122) (rs:=[.tmp 4,.tmp 5]) hm Tryz.func56 fun hl he cp=>?_
    simp -implicitDefEqProofs only[go_sem,hz]
    refine sQ ?_
    refine aC [] cu ?_
    refine aC [] (mb dec (by omega) (fun x hx=>by have:=hd.1.2 x hx;omega)) ?_
    refine aC [] (mF (dec.map fun x=>-x) (by rw[bl];omega) (fun x hx=>by obtain⟨y,hy,rfl⟩:=bQ.1 hx;have:=hd.1.2 y hy;omega)) ?_
    refine sQ ?_
    refine bh [some 0,some 1,some 2] ?_ rfl rfl
    refine sA ?_
    exact⟨⟨rfl,rfl⟩,pk lg [((dJ (dec.map fun x=>-x)).getD [])]⟩
theorem rP(n:Nat)(c:Mod.dq)(hu:Un n c):∃(ok:Bool)(log:List (List Int)),(ok=true→log≠[])∧C E.P 25 [av (Gu c),iv 130] [] (bw (.gN [.aV,lv (bt log),bv ok]) []):=by
 have hb:=A7 c 130 [] ⟨130,[],false⟩ (by simp only;omega)
 have hd:uz n []:=⟨⟨List.Pairwise.nil,by simp⟩,by simp⟩
 have cc:=CO n c hu 130 [] ⟨130,[],false⟩ hd rfl (by simp only;omega) (by simp only;omega) (by simp)
 have c1:=Ay c
 rw[hu.ok] at c1
 have c2:=fh 130 0 130
 have e2:within 130 0 130=true:=rfl
 rw[e2] at c2
 have hcl:=hu.len
 generalize dT c 130 [] ⟨130,[],false⟩=r at hb cc
 simp only at cc hb
 obtain⟨b1,b2,b3,b4⟩:=hb
 have b5:r.log.length≤130:=by simp at b3;omega
 cases hout:r.out
 ·rw[hout] at cc
  rcases aa ((400:Int)<(r.log.length:Int)+(c.list.length:Int)) with h4|h4
  ·refine⟨false,[],by simp,?_⟩
   have cp:LB=1099511627776:=rfl
   refine Ah (nt:=51) (rs:=[.tmp 4,.tmp 5,.tmp 6]) Tryz.func25 rfl rfl rfl rfl rfl (fun hl he=>?_)
   simp -implicitDefEqProofs only[go_sem] at hl he⊢
   refine iz (lu hm ?_)
   simp -implicitDefEqProofs only[go_sem,fp,fb]
   refine iz (lu hm ?_)
   refine sA ?_
   refine aC [] c1 ?_
   refine fm [] c2 ?_ ?_<;>simp -implicitDefEqProofs only[go_sem,fp,fb]
   refine iz (lu hm ?_)
   simp -implicitDefEqProofs only[go_sem,fp,fb]
   refine Et (ax (ch':=[(2,.ptr 0 0),(4,.aV),(5,.aV),(6,bv false),(7,.ptr 1 0)]) (st':=[some (.box [iv c.many,lv (bt c.list)]),some (.box [iv c.many,lv (bt c.list),iv 130,.acc 2,bv false]),some (.acc 29 (bt []))]) [some 0,some 1,none] ?_ ?_ rfl rfl) ?_
   ·exact sC
   ·simp -implicitDefEqProofs only[go_sem]
    try exact⟨rfl,rfl⟩
   refine iz (lu hm ?_)
   refine sA ?_
   refine bT [] [1,2,3] cc ?_ ?_
   ·refine sA ?_
    first|rfl|((repeat' apply ay)<;>rfl)
   simp -implicitDefEqProofs only[go_sem,fp,fb]
   refine iz (lu hm ?_)
   simp -implicitDefEqProofs only[go_sem,h4,fp,vW]
   refine sQ ?_
   refine iu ?_
   refine ak ?_
   exact sC
  ·refine⟨true,r.log,fun _=>b4 hout,?_⟩
   have cp:LB=1099511627776:=rfl
   refine Ah (nt:=51) (rs:=[.tmp 4,.tmp 5,.tmp 6]) Tryz.func25 rfl rfl rfl rfl rfl (fun hl he=>?_)
   simp -implicitDefEqProofs only[go_sem] at hl he⊢
   refine iz (lu hm ?_)
   simp -implicitDefEqProofs only[go_sem,fp,fb]
   refine iz (lu hm ?_)
   refine sA ?_
   refine aC [] c1 ?_
   refine fm [] c2 ?_ ?_<;>simp -implicitDefEqProofs only[go_sem,fp,fb]
   refine iz (lu hm ?_)
   simp -implicitDefEqProofs only[go_sem,fp,fb]
   refine Et (ax (ch':=[(2,.ptr 0 0),(4,.aV),(5,.aV),(6,bv false),(7,.ptr 1 0)]) (st':=[some (.box [iv c.many,lv (bt c.list)]),some (.box [iv c.many,lv (bt c.list),iv 130,.acc 2,bv false]),some (.acc 29 (bt []))]) [some 0,some 1,none] ?_ ?_ rfl rfl) ?_
   ·exact sC
   ·simp -implicitDefEqProofs only[go_sem]
    try exact⟨rfl,rfl⟩
   refine iz (lu hm ?_)
   refine sA ?_
   refine bT [] [1,2,3] cc ?_ ?_
   ·refine sA ?_
    first|rfl|((repeat' apply ay)<;>rfl)
   simp -implicitDefEqProofs only[go_sem,fp,fb]
   refine iz (lu hm ?_)
   simp -implicitDefEqProofs only[go_sem,h4,fp,fb]
   refine sQ ?_
   refine lu hm ?_
   simp -implicitDefEqProofs only[go_sem,fp]
   refine iK ?_
   refine⟨_,z7 5 3 29 (bt r.log) rfl rfl,?_⟩
   refine ak ?_
   exact sC
 ·refine⟨false,[],by simp,?_⟩
  rw[hout] at cc
  have cp:LB=1099511627776:=rfl
  refine Ah (nt:=51) (rs:=[.tmp 4,.tmp 5,.tmp 6]) Tryz.func25 rfl rfl rfl rfl rfl (fun hl he=>?_)
  simp -implicitDefEqProofs only[go_sem] at hl he⊢
  refine iz (lu hm ?_)
  simp -implicitDefEqProofs only[go_sem,fp,fb]
  refine iz (lu hm ?_)
  refine sA ?_
  refine aC [] c1 ?_
  refine fm [] c2 ?_ ?_<;>simp -implicitDefEqProofs only[go_sem,fp,fb]
  refine iz (lu hm ?_)
  simp -implicitDefEqProofs only[go_sem,fp,fb]
  refine Et (ax (ch':=[(2,.ptr 0 0),(4,.aV),(5,.aV),(6,bv false),(7,.ptr 1 0)]) (st':=[some (.box [iv c.many,lv (bt c.list)]),some (.box [iv c.many,lv (bt c.list),iv 130,.acc 2,bv false]),some (.acc 29 (bt []))]) [some 0,some 1,none] ?_ ?_ rfl rfl) ?_
  ·exact sC
  ·simp -implicitDefEqProofs only[go_sem]
   try exact⟨rfl,rfl⟩
  refine iz (lu hm ?_)
  refine sA ?_
  refine bT [] [1,2,3] cc ?_ ?_
  ·refine sA ?_
   first|rfl|((repeat' apply ay)<;>rfl)
  simp -implicitDefEqProofs only[go_sem,fp,fb]
  refine iz (lu hm ?_)
  simp -implicitDefEqProofs only[go_sem,fp,vW]
  refine iK ?_
  refine iu ?_
  refine ak ?_
  exact sC
theorem ri(s:eJ)(list:List Mod.Form)(hno:∀w:Atom→Bool,list.all (holds w)=false):∃(p:Mod.zX)(code:Int),code≠0∧C E.P 8 [av (dc s),lv (aN list)] [] (bw (.gN [av (D5 ⟨[]⟩),av (Ee p),iv code]) []):=by
 have c1:=oW s list
 cases kC:eS s list
 ·rw[kC] at c1
  refine⟨⟨[],[]⟩,3,by omega,?_⟩
  refine gS (nt:=107) (rs:=[.cell 4 42,.cell 5 46,.tmp 6]) hm Tryz.func8 fun hl he cp=>?_
  refine aC [] c1 ?_
  refine ak ?_
  simp -implicitDefEqProofs only[go_sem]
  all_goals((repeat' apply ay)<;>rfl)
 ·rw[kC] at c1
  obtain⟨atoms,ha⟩:∃atoms,bS list=some atoms:=by
   cases h:bS list with
   | none=>rw[eS,h] at kC;cases kC
   | some a=>exact⟨a,rfl⟩
  have c2:=jF list
  rw[ha] at c2
  simp only[Option.getD_some,Option.isSome_some] at c2
  have c3:=vt list atoms ha [] (by simp) (by simp)
  have e3:nQ (hU list) []=hU list:=rfl
  rw[e3] at c3
  obtain⟨ok,log,hlog,ch⟩:=rP atoms.length (hU list) (Ix ha hno)
  generalize hU list=cn at c3 ch
  cases ok
  ·refine⟨⟨[],[]⟩,2,by omega,?_⟩
   refine gS (nt:=107) (rs:=[.cell 4 42,.cell 5 46,.tmp 6]) hm Tryz.func8 fun hl he cp=>?_
   refine aC [] c1 ?_
   refine aC [] c2 ?_
   refine aI hm (fun(z:Nat)=> z=0) (fun(z:Nat)=> ⟨eQ 107 .any [(1,lv (aN list)),(2,.ptr 0 0),(4,.ptr 1 0),(5,.ptr 2 0),(7,lv (aJ atoms)),(9,.aV)],[some (.box (ff (dc s))),some (.box [.aV]),some (.box [.aV,.aV])]⟩) (fun(z:Nat)=> 0) (0) ?_ (ax [some 0,some 1,some 2] ?_ ?_ rfl rfl) ?_
   rotate_left
   ·exact sC
   ·exact sC
   rotate_left
   ·rfl
   rintro z rfl
   refine sA ?_
   refine aC [] c3 ?_
   refine aC [] ch ?_
   refine ak ?_
   simp -implicitDefEqProofs only[go_sem]
   all_goals((repeat' apply ay)<;>rfl)
  ·have hpos:(0:Int)<(log.length:Int):=by
    have:=List.length_pos_iff.2 (hlog rfl)
    omega
   refine⟨⟨[],log⟩,1,by omega,?_⟩
   refine gS (nt:=107) (rs:=[.cell 4 42,.cell 5 46,.tmp 6]) hm Tryz.func8 fun hl he cp=>?_
   refine aC [] c1 ?_
   refine aC [] c2 ?_
   refine aI hm (fun(z:Nat)=> z=0) (fun(z:Nat)=> ⟨eQ 107 .any [(1,lv (aN list)),(2,.ptr 0 0),(4,.ptr 1 0),(5,.ptr 2 0),(7,lv (aJ atoms)),(9,.aV)],[some (.box (ff (dc s))),some (.box [.aV]),some (.box [.aV,.aV])]⟩) (fun(z:Nat)=> 0) (0) ?_ (ax [some 0,some 1,some 2] ?_ ?_ rfl rfl) ?_
   rotate_left
   ·exact sC
   ·exact sC
   rotate_left
   ·rfl
   rintro z rfl
   refine sA ?_
   refine aC [] c3 ?_
   refine aC [] ch ?_
   simp -implicitDefEqProofs only[go_sem,hpos]
   refine ak ?_
   simp -implicitDefEqProofs only[go_sem]
   all_goals((repeat' apply ay)<;>rfl)
theorem wT(u v:Mod.Form):aN [u,v]=[cx u,cx v]:=by rw[dt,dt,fG]
theorem xS(b:List Int)(hb:nh b)(p:Int)(h1:0≤p)(h2:p≤400000000):C E.P 29 [.ptr 0 0] [some (la b p)] (bw (.gN [av (dc (j6 b p).1),lv (aN (j6 b p).2.1),av (cx (j6 b p).2.2.1)]) [some (la b (j6 b p).2.2.2)]):=by
 have hs:c7 (gx b p).1:=lX _
 have hsp:(gx b p).2=p+1:=rfl
 have hT:=v7 hb hs (p:=p+1) (by omega)
 have cT:=qu b hb (gx b p).1 hs (p+1) (by omega) (by omega)
 obtain⟨Y,e0⟩:∃y,j6 b p=y:=⟨_,rfl⟩
 have ee:=e0
 unfold j6 at ee
 simp only at ee
 obtain⟨a,hta⟩:∃a,dY b (gx b p).1 (p+1)=a:=⟨_,rfl⟩
 rw[hta] at ee hT cT
 have hmem:=kH hb (p:=a.2) (l:=[2,3,1,0]) (by omega) (by simp)
 simp only[List.mem_cons,List.not_mem_nil,or_false] at hmem
 obtain⟨N,eN⟩:∃N:Nat,dG b a.2 [2,3,1,0]=N:=⟨(dG b a.2 [2,3,1,0]).toNat,by omega⟩
 have hN:N≤3:=by omega
 simp only[eN,aA] at ee
 have hF:=wJ hb (told:=a.1) N [] (a.2+1) (by omega)
 obtain⟨r,hr⟩:∃r,dZ (df b a.1) N [] (a.2+1)=r:=⟨_,rfl⟩
 obtain⟨s,hsig⟩:∃s,(gx b p).1=s:=⟨_,rfl⟩
 have cS:=sg b p hb h1 (by omega)
 rw[hr] at ee hF
 rw[hsig] at ee hs cT cS
 simp only[List.length_nil] at hF
 obtain⟨f1,f2,f4⟩:=hF
 obtain⟨dx,edx,dx1,dx2,dx3⟩:=zF hb (p:=r.2) (by omega) (l:=[1,2]) (by simp) (by decide)
 rw[edx,aA] at ee
 have cX:=lk b hb a.1 (by omega) (by omega) dx (r.2+1) dx1 (by omega) (by omega)
 have gX:=xP hb (atoms:=a.1) dx (r.2+1) (by omega)
 obtain⟨x,hx⟩:∃x,eK b a.1 dx (r.2+1)=x:=⟨_,rfl⟩
 rw[hx] at ee cX gX
 rw[e0,←ee]
 refine gS (nt:=84) (rs:=[.cell 2 25,.tmp 3,.cell 4 36]) hm Tryz.func29 fun hl he cp=>?_
 refine bT [] [0] cS ?_ ?_<;>simp -implicitDefEqProofs only[go_sem,hsp]
 refine oC [] [0] cT ?_
 refine bT [] [0] (jh b a.2 [2,3,1,0] hb (by omega) (by omega) (by simp) (by simp)) ?_ ?_<;>simp -implicitDefEqProofs only[go_sem,eN]
 refine kL hm (fun(j:Nat) (q:Int) (out:List Mod.Form)=> j≤N∧0≤q∧q≤a.2+1+(N-j)*70∧out.length=N-j∧r=dZ (df b a.1) j out q) (fun(j:Nat) (q:Int) (out:List Mod.Form)=> ⟨eQ 84 .any [(0,.ptr 0 0),(2,.ptr 1 0),(4,.ptr 2 0),(5,.ptr 3 0),(6,lv (aJ a.1)),(7,.acc 4),(8,iv j)],[some (la b q),some (.box [.aV]),some (.box (ff (cx Fw))),some (.box (ff (dc s))),some (.acc 36 (aN out))]⟩) (fun(j:Nat) (q:Int) (out:List Mod.Form)=> j) (N) (a.2+1) ([]) ?_ (ax [some 0,some 1,some 2,some 3,some 4] ?_ ?_ rfl rfl) ?_
 rotate_left
 ·exact sC
 ·refine sA ?_
  all_goals(((repeat' apply ay)<;>rfl))
 rotate_left
 ·exact⟨ar _,by omega,by omega,by simp,hr.symm⟩
 ·rintro j q out ⟨hj,hq1,hq2,hol,hg⟩
  rcases aa ((0:Int)<(j:Int)) with h3|h3
  ·obtain⟨j,rfl⟩:∃j',j=j'+1:=⟨j-1,by omega⟩
   obtain⟨d,ed,d1,d2,d3⟩:=zF hb (p:=q) hq1 (l:=[2,1,3]) (by simp) (by decide)
   have g1:=uU hb (told:=a.1) (out:=out) (p:=q) hq1
   rw[dZ] at hg
   have est:df b a.1 out q=(out++[(eK b a.1 d (q+1)).1],(eK b a.1 d (q+1)).2):=by
    simp only[df,ed,aA]
   rw[est] at hg g1
   simp only at hg g1
   have cA:=lk b hb a.1 (by omega) (by omega) d (q+1) d1 (by omega) (by omega)
   obtain⟨y,hy⟩:∃y,eK b a.1 d (q+1)=y:=⟨_,rfl⟩
   rw[hy] at hg g1 cA
   have hjs:((j:Int)+1-1)=(j:Int):=by omega
   have h3:(0:Int)<(j:Int)+1:=by omega
   have hla:(out++[y.1]).length=out.length+1:=by simp
   refine uC ?_
   refine bT [] [0] (jh b q [2,1,3] hb (by omega) (by omega) (by simp) (by simp)) ?_ ?_<;>simp -implicitDefEqProofs only[go_sem,ed]
   refine oC [] [0] cA ?_
   refine sQ ?_
   simp -implicitDefEqProofs only[go_sem,hjs]
   refine⟨j,y.2,out++[y.1],?_,sL,ax [some 0,some 1,some 2,some 3,some 5] ?_ ?_ rfl rfl⟩
   rotate_left
   ·exact sC
   ·refine sA ?_
    all_goals(exact kB _ _)
   exact⟨by omega,by omega,by omega,by omega,hg⟩
  ·obtain rfl:j=0:=by omega
   rw[dZ] at hg
   subst hg
   simp only at f1 f2 f4 cX gX edx⊢
   simp -implicitDefEqProofs only[go_sem,Z2]
   refine bT [] [0] (jh b q [1,2] hb (by omega) (by omega) (by simp) (by simp)) ?_ ?_<;>simp -implicitDefEqProofs only[go_sem,edx]
   refine oC [] [0] cX ?_
   rcases aa ((0:Int)<(out.length:Int)) with hz|hz
   ·have mq:¬out.length=0:=by omega
    simp -implicitDefEqProofs only[go_sem,hz]
    refine oC [] [0] (eO b x.2 3 hb (by omega) (by omega)) ?_
    rcases aa (bo b x.2 3=0) with c3|c3
    ·have k3:=eq_true c3
     obtain⟨k,hk,hkl⟩:=kq hb (p:=x.2+1) (n:=out.length) (by omega) (by omega)
     have hor:L9 b out x=(.mk 4 Gx [out[k],x.1],x.2+2):=by
      rw[L9,if_neg mq,if_pos c3,hk,aA,List.getD_eq_getElem?_getD,List.getElem?_eq_getElem hkl]
      rfl
     have q2:x.2+1+1=x.2+2:=by omega
     rw[hor]
     simp -implicitDefEqProofs only[go_sem,k3]
     refine bT [] [0] (eO b (x.2+1) out.length hb (by omega) (by omega)) ?_ ?_<;>simp -implicitDefEqProofs only[go_sem,hk,q2]
     simp -implicitDefEqProofs only[go_sem,hkl]
     refine iK ?_
     refine oC [] [0] (eO b (x.2+2) 48 hb (by omega) (by omega)) ?_
     rcases aa (bo b (x.2+2) 48=0) with c0|c0
     ·have k0:=eq_true c0
      simp only[lW,if_pos c0]
      refine uH ?_
      refine iK ?_
      refine bh [some 0] ?_ rfl rfl
      refine sA ?_
      repeat' apply ay
      all_goals rfl
     rcases aa (bo b (x.2+2) 48=1) with c1|c1
     ·have k1:=eq_true c1
      simp only[lW,if_neg c0,if_pos c1]
      have g1:=vY b s (x.2+2+1)
      have g2:=mE (b:=b) hs (x.2+2+1)
      simp -implicitDefEqProofs only[go_sem,c0,k1]
      refine oC [] [0] (fg b hb s (gC hs).1 (gC hs).2 (x.2+2+1) (by omega) (by omega)) ?_
      refine oC [] [0] (fg b hb (dK b s (x.2+2+1)).1 g2.1 g2.2 (dK b s (x.2+2+1)).2 (by omega) (by omega)) ?_
      refine iK ?_
      refine bh [some 0] ?_ rfl rfl
      refine sA ?_
      repeat' apply ay
      all_goals first|rfl|exact(wT _ _).symm
     rcases aa (bo b (x.2+2) 48=2) with c2|c2
     ·have k2:=eq_true c2
      simp only[lW,if_neg c0,if_neg c1,if_pos c2]
      simp -implicitDefEqProofs only[go_sem,c0,c1,k2]
      refine oC [] [0] (mY b hb (x.2+2+1) (by omega) (by omega)) ?_
      refine sQ ?_
      refine bh [some 0] ?_ rfl rfl
      refine sA ?_
      repeat' apply ay
      all_goals first|rfl|exact(kB _ _).symm|exact(wT _ _).symm
     ·simp only[lW,if_neg c0,if_neg c1,if_neg c2]
      simp -implicitDefEqProofs only[go_sem,c0,c1,c2]
      refine iK ?_
      refine bh [some 0] ?_ rfl rfl
      refine sA ?_
      repeat' apply ay
      all_goals first|rfl|exact(wT _ _).symm
    ·have hor:L9 b out x=(x.1,x.2+1):=by rw[L9,if_neg mq,if_neg c3]
     rw[hor]
     simp -implicitDefEqProofs only[go_sem,c3]
     refine oC [] [0] (eO b (x.2+1) 48 hb (by omega) (by omega)) ?_
     rcases aa (bo b (x.2+1) 48=0) with c0|c0
     ·have k0:=eq_true c0
      simp only[lW,if_pos c0]
      refine uH ?_
      refine iK ?_
      refine bh [some 0] ?_ rfl rfl
      refine sA ?_
      repeat' apply ay
      all_goals rfl
     rcases aa (bo b (x.2+1) 48=1) with c1|c1
     ·have k1:=eq_true c1
      simp only[lW,if_neg c0,if_pos c1]
      have g1:=vY b s (x.2+1+1)
      have g2:=mE (b:=b) hs (x.2+1+1)
      simp -implicitDefEqProofs only[go_sem,c0,k1]
      refine oC [] [0] (fg b hb s (gC hs).1 (gC hs).2 (x.2+1+1) (by omega) (by omega)) ?_
      refine oC [] [0] (fg b hb (dK b s (x.2+1+1)).1 g2.1 g2.2 (dK b s (x.2+1+1)).2 (by omega) (by omega)) ?_
      refine iK ?_
      refine bh [some 0] ?_ rfl rfl
      refine sA ?_
      repeat' apply ay
      all_goals first|rfl|rfl
     rcases aa (bo b (x.2+1) 48=2) with c2|c2
     ·have k2:=eq_true c2
      simp only[lW,if_neg c0,if_neg c1,if_pos c2]
      simp -implicitDefEqProofs only[go_sem,c0,c1,k2]
      refine oC [] [0] (mY b hb (x.2+1+1) (by omega) (by omega)) ?_
      refine sQ ?_
      refine bh [some 0] ?_ rfl rfl
      refine sA ?_
      repeat' apply ay
      all_goals first|rfl|exact(kB _ _).symm|rfl
     ·simp only[lW,if_neg c0,if_neg c1,if_neg c2]
      simp -implicitDefEqProofs only[go_sem,c0,c1,c2]
      refine iK ?_
      refine bh [some 0] ?_ rfl rfl
      refine sA ?_
      repeat' apply ay
      all_goals first|rfl|rfl
   ·have mq:out.length=0:=by omega
    have hor:L9 b out x=x:=by rw[L9,if_pos mq]
    rw[hor]
    simp -implicitDefEqProofs only[go_sem,hz]
    refine oC [] [0] (eO b (x.2) 48 hb (by omega) (by omega)) ?_
    rcases aa (bo b (x.2) 48=0) with c0|c0
    ·have k0:=eq_true c0
     simp only[lW,if_pos c0]
     refine uH ?_
     refine iK ?_
     refine bh [some 0] ?_ rfl rfl
     refine sA ?_
     repeat' apply ay
     all_goals rfl
    rcases aa (bo b (x.2) 48=1) with c1|c1
    ·have k1:=eq_true c1
     simp only[lW,if_neg c0,if_pos c1]
     have g1:=vY b s (x.2+1)
     have g2:=mE (b:=b) hs (x.2+1)
     simp -implicitDefEqProofs only[go_sem,c0,k1]
     refine oC [] [0] (fg b hb s (gC hs).1 (gC hs).2 (x.2+1) (by omega) (by omega)) ?_
     refine oC [] [0] (fg b hb (dK b s (x.2+1)).1 g2.1 g2.2 (dK b s (x.2+1)).2 (by omega) (by omega)) ?_
     refine iK ?_
     refine bh [some 0] ?_ rfl rfl
     refine sA ?_
     repeat' apply ay
     all_goals first|rfl|rfl
    rcases aa (bo b (x.2) 48=2) with c2|c2
    ·have k2:=eq_true c2
     simp only[lW,if_neg c0,if_neg c1,if_pos c2]
     simp -implicitDefEqProofs only[go_sem,c0,c1,k2]
     refine oC [] [0] (mY b hb (x.2+1) (by omega) (by omega)) ?_
     refine sQ ?_
     refine bh [some 0] ?_ rfl rfl
     refine sA ?_
     repeat' apply ay
     all_goals first|rfl|exact(kB _ _).symm|rfl
    ·simp only[lW,if_neg c0,if_neg c1,if_neg c2]
     simp -implicitDefEqProofs only[go_sem,c0,c1,c2]
     refine iK ?_
     refine bh [some 0] ?_ rfl rfl
     refine sA ?_
     repeat' apply ay
     all_goals first|rfl|rfl
theorem oY(b:List Int)(hb:∀x∈b,0≤x∧x≤255)(wA:b.length≤2000000):C E.P 9 [lv (Gw b)] [] (bw (.gN [av (dc (j6 (b.take 2000) 0).1),lv (aN (j6 (b.take 2000) 0).2.1),av (cx (j6 (b.take 2000) 0).2.2.1)]) []):=by
 have hO:=Hv hb
 obtain⟨c,hc⟩:∃c,b.take 2000=c:=⟨_,rfl⟩
 have c1:=xX b hb wA
 rw[hc] at hO c1⊢
 have c2:=xS c hO 0 (by omega) (by omega)
 refine gS (nt:=11) (rs:=[.cell 2 25,.tmp 3,.cell 4 36]) hm Tryz.func9 fun hl he cp=>?_
 refine oC [] [2] c1 ?_
 refine oC [] [2] c2 ?_
 refine ak ?_
 simp -implicitDefEqProofs only[go_sem]
 all_goals((repeat' apply ay)<;>rfl)
end Go.Proofs.YtgpjhjalfakpoaaGreat
