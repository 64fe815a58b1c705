/-
  The walks of constraints and their certificates. A step towards the exact laws.
-/
import Derived.Test.YtabembjmeobhoaaGreatKCH
set_option linter.unusedVariables false
set_option linter.unusedSimpArgs false
open Classical renaming em→aa
open List renaming getElem?_eq_getElem→af,getElem_mem→ak,drop_of_length_le→al,take_of_length_le→ao,replicate→aU,take_add_one→bq,map_append→cK,all_eq_not_any_not→fD
namespace Go.Proofs.YtabembjmeobhoaaGreat
open Go.Eng Go.Mod
open Int renaming reduceEq→Z1,reduceLT→Z2,reduceLE→Z3,reduceToNat→Z4
set_option maxRecDepth 100000
set_option maxHeartbeats 3200000
theorem zB(n:Int):C E.P 231 [iv n] [] (bD (bv (nv n)) []):=by
 have cq:=jZ
 refine lU (nt:=5) (rs:=[.tmp 2]) hm Tryz.func231 rfl rfl rfl rfl rfl (fun hl he=>?_)
 simp -implicitDefEqProofs only[go_sem,Z1,Z2,Z3,Z4] at hl⊢
 refine bp [] (fv n (-1000000) 1000000) ?_ ?_<;>simp -implicitDefEqProofs only[go_sem,Z1,Z2,Z3,Z4]
 refine sW ?_
 refine an ?_
 simp -implicitDefEqProofs only[go_sem,Z1,Z2,Z3,Z4]
 all_goals(first|done|(simp[nv];done)|(simp[nv];omega)|skip)
theorem gY(l:ir):C E.P 171 [av (eS l)] [] (bD (bv (dU l)) []):=by
 have cq:=jZ
 refine lU (nt:=25) (rs:=[.tmp 2]) hm Tryz.func171 rfl rfl rfl rfl rfl (fun hl he=>?_)
 simp -implicitDefEqProofs only[go_sem,Z1,Z2,Z3,Z4] at hl⊢
 refine aM hm (fun(i:Nat)=> i≤l.aG.length∧l.aG.all nv=(l.aG.drop i).all nv) (fun(i:Nat)=> ⟨dH 25 .any [(1,.ptr 0 0),(6,lv (bI l.aG)),(7,iv l.aG.length),(8,iv i)],[some (.box (cF (eS l)))]⟩) (fun(i:Nat)=> l.aG.length-i) (0) ?_ (ar [some 0] ?_ ?_ rfl rfl) ?_
 rotate_left
 ·simp -implicitDefEqProofs only[go_sem,Z1,Z2,Z3,Z4]
  all_goals(try exact sM)
 ·simp -implicitDefEqProofs only[go_sem,Z1,Z2,Z3,Z4]
  all_goals(try exact sM)
 rotate_left
 ·simp
 ·rintro i ⟨hi,hg⟩
  rcases aa (i<l.aG.length) with h1|h1
  ·rw[List.drop_eq_getElem_cons h1,List.all_cons] at hg
   try simp -implicitDefEqProofs only[go_sem,Z1,Z2,Z3,Z4,h1]
   refine sW ?_
   refine bp [] (zB l.aG[i]) ?_ ?_<;>simp -implicitDefEqProofs only[go_sem,Z1,Z2,Z3,Z4]
   refine sW ?_
   cases h2:nv l.aG[i]
   ·rw[h2,Bool.false_and] at hg
    have e:dU l=false:=by simp[dU,hg]
    try simp -implicitDefEqProofs only[go_sem,Z1,Z2,Z3,Z4]
    refine sW ?_
    refine an ?_
    simp -implicitDefEqProofs only[go_sem,Z1,Z2,Z3,Z4]
    all_goals(first|done|(simp[e];done)|(simp[e];omega)|skip)
   ·rw[h2,Bool.true_and] at hg
    try simp -implicitDefEqProofs only[go_sem,Z1,Z2,Z3,Z4]
    refine sW ?_
    refine⟨by omega,?_⟩
    refine⟨i+1,?_,sL,ar [some 0] ?_ ?_ rfl rfl⟩
    rotate_left
    ·simp -implicitDefEqProofs only[go_sem,Z1,Z2,Z3,Z4]
     all_goals(try exact sM)
    ·simp -implicitDefEqProofs only[go_sem,Z1,Z2,Z3,Z4]
     all_goals(try exact sM)
    exact⟨by omega,hg⟩
  ·rw[al (by omega),List.all_nil] at hg
   rcases aa ((l.aG.length:Int)=4) with h3|h3
   ·have h3':l.aG.length=4:=by omega
    have k3:=eq_true h3
    try simp -implicitDefEqProofs only[go_sem,Z1,Z2,Z3,Z4,h1,k3]
    refine sW ?_
    refine bp [] (zB l.bound) ?_ ?_<;>simp -implicitDefEqProofs only[go_sem,Z1,Z2,Z3,Z4]
    refine sW ?_
    refine an ?_
    simp -implicitDefEqProofs only[go_sem,Z1,Z2,Z3,Z4]
    all_goals(first|done|(simp[dU,hg,h3'];done)|(simp[dU,hg,h3'];omega)|skip)
   ·have h3':¬l.aG.length=4:=by omega
    try simp -implicitDefEqProofs only[go_sem,Z1,Z2,Z3,Z4,h1,h3]
    refine sW ?_
    refine an ?_
    simp -implicitDefEqProofs only[go_sem,Z1,Z2,Z3,Z4]
    all_goals(first|done|(simp[dU,hg,h3'];done)|(simp[dU,hg,h3'];omega)|skip)
theorem Iu(l:ir):C E.P 109 [av (eS l)] [] (bD (av (eS (pS l))) []):=by
 have cq:=jZ
 refine lU (nt:=33) (rs:=[.cell 2 162]) hm Tryz.func109 rfl rfl rfl rfl rfl (fun hl he=>?_)
 simp -implicitDefEqProofs only[go_sem,Z1,Z2,Z3,Z4] at hl⊢
 refine bp [] (gY l) ?_ ?_<;>simp -implicitDefEqProofs only[go_sem,Z1,Z2,Z3,Z4]
 refine sW ?_
 cases h:dU l
 ·try simp -implicitDefEqProofs only[go_sem,Z1,Z2,Z3,Z4]
  refine sW ?_
  refine an ?_
  simp -implicitDefEqProofs only[go_sem,Z1,Z2,Z3,Z4]
  all_goals(first|done|(simp[pS,h];done)|(simp[pS,h];omega)|skip)
 ·obtain⟨h4,hc,hb⟩:=gD.1 h
  have e:pS l=⟨l.aG.map fun c=>-c,-l.bound,!l.strict⟩:=by simp[pS,h]
  try simp -implicitDefEqProofs only[go_sem,Z1,Z2,Z3,Z4]
  refine sW ?_
  refine⟨by omega,?_⟩
  refine aM hm (fun(i:Nat)=> i≤l.aG.length) (fun(i:Nat)=> ⟨dH 33 .any [(2,.ptr 0 0),(3,.ptr 1 0),(18,lv (bI l.aG)),(19,iv l.aG.length),(20,iv i)],[some (.box (cF (eS mO))),some (.box [.acc 2,.d (.val (.int .i64 (-l.bound))),.d (.val (.bool (!l.strict)))]),some (.acc 3 (bI ((l.aG.take i).map fun c=>-c)))]⟩) (fun(i:Nat)=> l.aG.length-i) (0) ?_ (ar [some 1,some 2,none] ?_ ?_ rfl rfl) ?_
  rotate_left
  ·simp -implicitDefEqProofs only[go_sem,Z1,Z2,Z3,Z4]
   all_goals(try exact sM)
  ·simp -implicitDefEqProofs only[go_sem,Z1,Z2,Z3,Z4]
   all_goals(try exact sM)
  rotate_left
  ·omega
  ·rintro i hi
   rcases aa (i<l.aG.length) with h1|h1
   ·have hn:=hc l.aG[i] (ak h1)
    try simp -implicitDefEqProofs only[go_sem,Z1,Z2,Z3,Z4,h1]
    refine sW ?_
    refine⟨by omega,by omega,by omega,?_⟩
    refine⟨i+1,?_,sL,ar [some 0,some 1,some 3] ?_ ?_ rfl rfl⟩
    rotate_left
    ·simp -implicitDefEqProofs only[go_sem,Z1,Z2,Z3,Z4]
     all_goals(first|done|((rw[bq,af h1,cK,←eQ];rfl))|(simp[aI, *];done)|(simp[aI];done)|(simp;omega)|skip)
    ·simp -implicitDefEqProofs only[go_sem,Z1,Z2,Z3,Z4]
     all_goals(first|done|((rw[bq,af h1,cK,←eQ];rfl))|(simp[aI, *];done)|(simp[aI];done)|(simp;omega)|skip)
    exact h1
   ·try simp -implicitDefEqProofs only[go_sem,Z1,Z2,Z3,Z4,h1]
    refine sW ?_
    refine an ?_
    simp -implicitDefEqProofs only[go_sem,Z1,Z2,Z3,Z4]
    rw[ao (by omega),e]
    simp[eS]
theorem EU(c:Int):C E.P 233 [iv c] [] (bD (bv (decide (c≠0))) []):=by
 have cq:=jZ
 refine lU (nt:=5) (rs:=[.tmp 2]) hm Tryz.func233 rfl rfl rfl rfl rfl (fun hl he=>?_)
 simp -implicitDefEqProofs only[go_sem,Z1,Z2,Z3,Z4] at hl⊢
 refine an ?_
 simp -implicitDefEqProofs only[go_sem,Z1,Z2,Z3,Z4]
 all_goals(first|done|(simp;done)|(simp;omega)|skip)
theorem Xn(l:ir):l.aG.any (fun c=>decide (c≠0))= !flat l:=by
 simp[flat,fD]
theorem Ic(l:ir):C E.P 173 [av (eS l)] [] (bD (bv (dU l&&flat l)) []):=by
 have cq:=jZ
 refine lU (nt:=11) (rs:=[.tmp 2]) hm Tryz.func173 rfl rfl rfl rfl rfl (fun hl he=>?_)
 simp -implicitDefEqProofs only[go_sem,Z1,Z2,Z3,Z4] at hl⊢
 refine bp [] (gY l) ?_ ?_<;>simp -implicitDefEqProofs only[go_sem,Z1,Z2,Z3,Z4]
 refine sW ?_
 cases h:dU l
 ·try simp -implicitDefEqProofs only[go_sem,Z1,Z2,Z3,Z4]
  refine sW ?_
  refine an ?_
  simp -implicitDefEqProofs only[go_sem,Z1,Z2,Z3,Z4]
  all_goals(first|done|(simp;done)|(simp;omega)|skip)
 ·try simp -implicitDefEqProofs only[go_sem,Z1,Z2,Z3,Z4]
  refine sW ?_
  refine bp [] (rO 233 [] rfl (fun c=>decide (c≠0)) l.aG (fun c _=>EU c)) ?_ ?_<;>simp -implicitDefEqProofs only[go_sem,Z1,Z2,Z3,Z4]
  refine sW ?_
  refine an ?_
  simp -implicitDefEqProofs only[go_sem,Z1,Z2,Z3,Z4]
  rw[Xn]
  simp
theorem zk(l:ir):C E.P 103 [av (eS l)] [] (bD (bv (jN l)) []):=by
 have cq:=jZ
 refine lU (nt:=19) (rs:=[.tmp 2]) hm Tryz.func103 rfl rfl rfl rfl rfl (fun hl he=>?_)
 simp -implicitDefEqProofs only[go_sem,Z1,Z2,Z3,Z4] at hl⊢
 refine bp [] (Ic l) ?_ ?_<;>simp -implicitDefEqProofs only[go_sem,Z1,Z2,Z3,Z4]
 refine sW ?_
 cases h:dU l&&flat l
 ·have e:jN l=false:=by
   simp only[jN]
   rw[←Bool.and_assoc,h]
   rfl
  try simp -implicitDefEqProofs only[go_sem,Z1,Z2,Z3,Z4]
  refine sW ?_
  refine an ?_
  simp -implicitDefEqProofs only[go_sem,Z1,Z2,Z3,Z4]
  all_goals(first|done|(simp[e];done)|(simp[e];omega)|skip)
 ·have e:jN l=(decide (l.bound<0)||(decide (l.bound=0)&&l.strict)):=by
   simp only[jN]
   rw[←Bool.and_assoc,h]
   rfl
  rcases aa (l.bound<0) with h1|h1
  ·try simp -implicitDefEqProofs only[go_sem,Z1,Z2,Z3,Z4,h1]
   refine sW ?_
   refine an ?_
   simp -implicitDefEqProofs only[go_sem,Z1,Z2,Z3,Z4]
   all_goals(first|done|(simp[e,h1];done)|(simp[e,h1];omega)|skip)
  ·rcases aa (l.bound=0) with h2|h2
   ·try simp -implicitDefEqProofs only[go_sem,Z1,Z2,Z3,Z4,h1,h2]
    refine sW ?_
    refine an ?_
    simp -implicitDefEqProofs only[go_sem,Z1,Z2,Z3,Z4]
    all_goals(first|done|(simp[e,h1,h2];done)|(simp[e,h1,h2];omega)|skip)
   ·try simp -implicitDefEqProofs only[go_sem,Z1,Z2,Z3,Z4,h1,h2]
    refine sW ?_
    refine an ?_
    simp -implicitDefEqProofs only[go_sem,Z1,Z2,Z3,Z4]
    all_goals(first|done|(simp[e,h1,h2];done)|(simp[e,h1,h2];omega)|skip)
theorem Bt(l:ir):C E.P 170 [av (eS l)] [] (bD (bv (!dU l)) []):=by
 have cq:=jZ
 refine lU (nt:=6) (rs:=[.tmp 2]) hm Tryz.func170 rfl rfl rfl rfl rfl (fun hl he=>?_)
 simp -implicitDefEqProofs only[go_sem,Z1,Z2,Z3,Z4] at hl⊢
 refine bp [] (gY l) ?_ ?_<;>simp -implicitDefEqProofs only[go_sem,Z1,Z2,Z3,Z4]
 refine sW ?_
 refine an ?_
 simp -implicitDefEqProofs only[go_sem,Z1,Z2,Z3,Z4]
 all_goals(first|done|(simp;done)|(simp;omega)|skip)
theorem nQ(ls:List ir):C E.P 100 [lv (dm ls)] [] (bD (bv (fS ls)) []):=by
 have cq:=jZ
 refine lU (nt:=11) (rs:=[.tmp 2]) hm Tryz.func100 rfl rfl rfl rfl rfl (fun hl he=>?_)
 simp -implicitDefEqProofs only[go_sem,Z1,Z2,Z3,Z4] at hl⊢
 rcases aa ((ls.length:Int)≤20) with h|h
 ·have h':ls.length≤20:=by omega
  try simp -implicitDefEqProofs only[go_sem,Z1,Z2,Z3,Z4,h]
  refine sW ?_
  refine bp [] (Ao 170 [] rfl (fun l=>!dU l) ls (fun l _=>Bt l)) ?_ ?_<;>simp -implicitDefEqProofs only[go_sem,Z1,Z2,Z3,Z4]
  refine sW ?_
  refine an ?_
  simp -implicitDefEqProofs only[go_sem,Z1,Z2,Z3,Z4]
  all_goals(first|done|(simp[fS,h',fD];done)|(simp[fS,h',fD];omega)|skip)
 ·have h':¬ls.length≤20:=by omega
  try simp -implicitDefEqProofs only[go_sem,Z1,Z2,Z3,Z4,h]
  refine sW ?_
  refine an ?_
  simp -implicitDefEqProofs only[go_sem,Z1,Z2,Z3,Z4]
  all_goals(first|done|(simp[fS,h'];done)|(simp[fS,h'];omega)|skip)
theorem zK(a:ir)(m:Int)(b:ir)(n:Int):C E.P 226 [av (eS a),iv m,av (eS b),iv n] [] (bD (.gV [av (eS (ez a m b n).1),bv (ez a m b n).2]) []):=by
 have cq:=jZ
 refine lU (nt:=87) (rs:=[.cell 8 162,.tmp 9]) hm Tryz.func226 rfl rfl rfl rfl rfl (fun hl he=>?_)
 simp -implicitDefEqProofs only[go_sem,Z1,Z2,Z3,Z4] at hl⊢
 refine bp [] (gY a) ?_ ?_<;>simp -implicitDefEqProofs only[go_sem,Z1,Z2,Z3,Z4]
 refine sW ?_
 cases g1:dU a
 ·try simp -implicitDefEqProofs only[go_sem,Z1,Z2,Z3,Z4]
  refine sW ?_
  refine an ?_
  simp -implicitDefEqProofs only[go_sem,Z1,Z2,Z3,Z4]
  all_goals(first|done|(simp[ez,g1];done)|(simp[ez,g1];omega)|skip)
 ·try simp -implicitDefEqProofs only[go_sem,Z1,Z2,Z3,Z4]
  refine sW ?_
  refine bp [] (gY b) ?_ ?_<;>simp -implicitDefEqProofs only[go_sem,Z1,Z2,Z3,Z4]
  refine sW ?_
  cases g2:dU b
  ·try simp -implicitDefEqProofs only[go_sem,Z1,Z2,Z3,Z4]
   refine sW ?_
   refine an ?_
   simp -implicitDefEqProofs only[go_sem,Z1,Z2,Z3,Z4]
   all_goals(first|done|(simp[ez,g1,g2];done)|(simp[ez,g1,g2];omega)|skip)
  ·try simp -implicitDefEqProofs only[go_sem,Z1,Z2,Z3,Z4]
   refine sW ?_
   refine bp [] (fv m 0 1000000) ?_ ?_<;>simp -implicitDefEqProofs only[go_sem,Z1,Z2,Z3,Z4]
   refine sW ?_
   cases g3:within m 0 1000000
   ·try simp -implicitDefEqProofs only[go_sem,Z1,Z2,Z3,Z4]
    refine sW ?_
    refine an ?_
    simp -implicitDefEqProofs only[go_sem,Z1,Z2,Z3,Z4]
    all_goals(first|done|(simp[ez,g1,g2,g3];done)|(simp[ez,g1,g2,g3];omega)|skip)
   ·try simp -implicitDefEqProofs only[go_sem,Z1,Z2,Z3,Z4]
    refine sW ?_
    refine bp [] (fv n 0 1000000) ?_ ?_<;>simp -implicitDefEqProofs only[go_sem,Z1,Z2,Z3,Z4]
    refine sW ?_
    cases g4:within n 0 1000000
    ·try simp -implicitDefEqProofs only[go_sem,Z1,Z2,Z3,Z4]
     refine sW ?_
     refine an ?_
     simp -implicitDefEqProofs only[go_sem,Z1,Z2,Z3,Z4]
     all_goals(first|done|(simp[ez,g1,g2,g3,g4];done)|(simp[ez,g1,g2,g3,g4];omega)|skip)
    ·obtain⟨hn1,hc1,hb1⟩:=gD.1 g1
     obtain⟨hn2,hc2,hb2⟩:=gD.1 g2
     have h5:=dk.1 g3
     have h6:=dk.1 g4
     have p1:=dw h5.1 h5.2 hb1
     have p2:=dw h6.1 h6.2 hb2
     rcases aa (0<m) with t1|t1
     ·cases t2:a.strict
      ·rcases aa (0<n) with t3|t3
       ·try simp -implicitDefEqProofs only[go_sem,Z1,Z2,Z3,Z4,t1,t3,t2]
        refine sW ?_
        refine sK ?_
        refine aM hm (fun(i:Nat)=> i≤a.aG.length) (fun(i:Nat)=> ⟨dH 87 .any [(1,iv m),(3,iv n),(4,.ptr 0 0),(6,.ptr 1 0),(8,.ptr 2 0),(10,.ptr 3 0),(57,iv a.aG.length),(58,iv i)],[some (.box (cF (eS a))),some (.box (cF (eS b))),some (.box (cF (eS mO))),some (.box [.acc 4,.d (.val (.int .i64 (m*a.bound+n*b.bound))),.d (.val (.bool b.strict))]),some (.acc 3 (bI (comb m n (a.aG.take i) (b.aG.take i))))]⟩) (fun(i:Nat)=> a.aG.length-i) (0) ?_ (ar [some 0,some 1,some 2,some 3,none] ?_ ?_ rfl rfl) ?_
        rotate_left
        ·simp -implicitDefEqProofs only[go_sem,Z1,Z2,Z3,Z4]
         all_goals(first|done|(simp[comb, *])|(simp[aI, *];done)|(simp[aI];done)|(simp;omega)|skip)
        ·simp -implicitDefEqProofs only[go_sem,Z1,Z2,Z3,Z4]
         all_goals(first|done|(simp[comb, *])|(simp[aI, *];done)|(simp[aI];done)|(simp;omega)|skip)
        rotate_left
        ·omega
        ·rintro i hi
         rcases aa (i<a.aG.length) with h1|h1
         ·have h2:i<b.aG.length:=by omega
          have q1:=dw h5.1 h5.2 (hc1 a.aG[i] (ak h1))
          have q2:=dw h6.1 h6.2 (hc2 b.aG[i] (ak h2))
          have dz:(comb m n (a.aG.take i) (b.aG.take i)).length≤4:=by rw[ke (by simp;omega)];simp;omega
          try simp -implicitDefEqProofs only[go_sem,Z1,Z2,Z3,Z4,h1,h2]
          refine sW ?_
          refine sK ?_
          refine⟨i+1,?_,sL,ar [some 0,some 1,some 2,some 3,some 5] ?_ ?_ rfl rfl⟩
          rotate_left
          ·simp -implicitDefEqProofs only[go_sem,Z1,Z2,Z3,Z4]
           all_goals(first|done|((rw[fe h1 h2,←eQ];rfl))|(simp[aI, *];done)|(simp[aI];done)|(simp;omega)|skip)
          ·simp -implicitDefEqProofs only[go_sem,Z1,Z2,Z3,Z4]
           all_goals(first|done|((rw[fe h1 h2,←eQ];rfl))|(simp[aI, *];done)|(simp[aI];done)|(simp;omega)|skip)
          exact h1
         ·rw[ao (by omega),ao (by omega)]
          have e2:jw a m b n=⟨comb m n a.aG b.aG,m*a.bound+n*b.bound,b.strict⟩:=by simp[jw, *]
          try simp -implicitDefEqProofs only[go_sem,Z1,Z2,Z3,Z4,h1]
          refine sW ?_
          refine dQ [] [4] (gY ⟨comb m n a.aG b.aG,m*a.bound+n*b.bound,b.strict⟩) rfl ?_ ?_ ?_
          ·(simp -implicitDefEqProofs only[go_sem,Z1,Z2,Z3,Z4];repeat'(first|exact iR.nil|apply iR.cons|exact Vw.same (by first|rfl|simp -implicitDefEqProofs only[go_sem,Z1,Z2,Z3,Z4])|exact Vw.acc rfl rfl|exact Vw.fw rfl rfl (by simp -implicitDefEqProofs only[go_sem,Z1,Z2,Z3,Z4])|exact Vw.nil|apply Vw.agg|apply Vw.fn|refine Vw.box rfl rfl ?_))
          all_goals simp -implicitDefEqProofs only[go_sem,Z1,Z2,Z3,Z4]
          refine sW ?_
          rw[pF g1 g2 g3 g4,jv,e2]
          cases h7:dU ⟨comb m n a.aG b.aG,m*a.bound+n*b.bound,b.strict⟩
          ·try simp -implicitDefEqProofs only[go_sem,Z1,Z2,Z3,Z4]
           refine sW ?_
           refine an ?_
           simp -implicitDefEqProofs only[go_sem,Z1,Z2,Z3,Z4]
           all_goals(first|done|(simp;done)|(simp;omega)|skip)
          ·try simp -implicitDefEqProofs only[go_sem,Z1,Z2,Z3,Z4]
           refine sW ?_
           refine an ?_
           simp -implicitDefEqProofs only[go_sem,Z1,Z2,Z3,Z4]
           all_goals(first|done|(simp;done)|(simp;omega)|skip)
       ·try simp -implicitDefEqProofs only[go_sem,Z1,Z2,Z3,Z4,t1,t3,t2]
        refine sW ?_
        refine sK ?_
        refine aM hm (fun(i:Nat)=> i≤a.aG.length) (fun(i:Nat)=> ⟨dH 87 .any [(1,iv m),(3,iv n),(4,.ptr 0 0),(6,.ptr 1 0),(8,.ptr 2 0),(10,.ptr 3 0),(57,iv a.aG.length),(58,iv i)],[some (.box (cF (eS a))),some (.box (cF (eS b))),some (.box (cF (eS mO))),some (.box [.acc 4,.d (.val (.int .i64 (m*a.bound+n*b.bound))),.d (.val (.bool false))]),some (.acc 3 (bI (comb m n (a.aG.take i) (b.aG.take i))))]⟩) (fun(i:Nat)=> a.aG.length-i) (0) ?_ (ar [some 0,some 1,some 2,some 3,none] ?_ ?_ rfl rfl) ?_
        rotate_left
        ·simp -implicitDefEqProofs only[go_sem,Z1,Z2,Z3,Z4]
         all_goals(first|done|(simp[comb, *])|(simp[aI, *];done)|(simp[aI];done)|(simp;omega)|skip)
        ·simp -implicitDefEqProofs only[go_sem,Z1,Z2,Z3,Z4]
         all_goals(first|done|(simp[comb, *])|(simp[aI, *];done)|(simp[aI];done)|(simp;omega)|skip)
        rotate_left
        ·omega
        ·rintro i hi
         rcases aa (i<a.aG.length) with h1|h1
         ·have h2:i<b.aG.length:=by omega
          have q1:=dw h5.1 h5.2 (hc1 a.aG[i] (ak h1))
          have q2:=dw h6.1 h6.2 (hc2 b.aG[i] (ak h2))
          have dz:(comb m n (a.aG.take i) (b.aG.take i)).length≤4:=by rw[ke (by simp;omega)];simp;omega
          try simp -implicitDefEqProofs only[go_sem,Z1,Z2,Z3,Z4,h1,h2]
          refine sW ?_
          refine sK ?_
          refine⟨i+1,?_,sL,ar [some 0,some 1,some 2,some 3,some 5] ?_ ?_ rfl rfl⟩
          rotate_left
          ·simp -implicitDefEqProofs only[go_sem,Z1,Z2,Z3,Z4]
           all_goals(first|done|((rw[fe h1 h2,←eQ];rfl))|(simp[aI, *];done)|(simp[aI];done)|(simp;omega)|skip)
          ·simp -implicitDefEqProofs only[go_sem,Z1,Z2,Z3,Z4]
           all_goals(first|done|((rw[fe h1 h2,←eQ];rfl))|(simp[aI, *];done)|(simp[aI];done)|(simp;omega)|skip)
          exact h1
         ·rw[ao (by omega),ao (by omega)]
          have e2:jw a m b n=⟨comb m n a.aG b.aG,m*a.bound+n*b.bound,false⟩:=by simp[jw, *]
          try simp -implicitDefEqProofs only[go_sem,Z1,Z2,Z3,Z4,h1]
          refine sW ?_
          refine dQ [] [4] (gY ⟨comb m n a.aG b.aG,m*a.bound+n*b.bound,false⟩) rfl ?_ ?_ ?_
          ·(simp -implicitDefEqProofs only[go_sem,Z1,Z2,Z3,Z4];repeat'(first|exact iR.nil|apply iR.cons|exact Vw.same (by first|rfl|simp -implicitDefEqProofs only[go_sem,Z1,Z2,Z3,Z4])|exact Vw.acc rfl rfl|exact Vw.fw rfl rfl (by simp -implicitDefEqProofs only[go_sem,Z1,Z2,Z3,Z4])|exact Vw.nil|apply Vw.agg|apply Vw.fn|refine Vw.box rfl rfl ?_))
          all_goals simp -implicitDefEqProofs only[go_sem,Z1,Z2,Z3,Z4]
          refine sW ?_
          rw[pF g1 g2 g3 g4,jv,e2]
          cases h7:dU ⟨comb m n a.aG b.aG,m*a.bound+n*b.bound,false⟩
          ·try simp -implicitDefEqProofs only[go_sem,Z1,Z2,Z3,Z4]
           refine sW ?_
           refine an ?_
           simp -implicitDefEqProofs only[go_sem,Z1,Z2,Z3,Z4]
           all_goals(first|done|(simp;done)|(simp;omega)|skip)
          ·try simp -implicitDefEqProofs only[go_sem,Z1,Z2,Z3,Z4]
           refine sW ?_
           refine an ?_
           simp -implicitDefEqProofs only[go_sem,Z1,Z2,Z3,Z4]
           all_goals(first|done|(simp;done)|(simp;omega)|skip)
      ·try simp -implicitDefEqProofs only[go_sem,Z1,Z2,Z3,Z4,t1,t2]
       refine sW ?_
       refine sK ?_
       refine aM hm (fun(i:Nat)=> i≤a.aG.length) (fun(i:Nat)=> ⟨dH 87 .any [(1,iv m),(3,iv n),(4,.ptr 0 0),(6,.ptr 1 0),(8,.ptr 2 0),(10,.ptr 3 0),(57,iv a.aG.length),(58,iv i)],[some (.box (cF (eS a))),some (.box (cF (eS b))),some (.box (cF (eS mO))),some (.box [.acc 4,.d (.val (.int .i64 (m*a.bound+n*b.bound))),.d (.val (.bool true))]),some (.acc 3 (bI (comb m n (a.aG.take i) (b.aG.take i))))]⟩) (fun(i:Nat)=> a.aG.length-i) (0) ?_ (ar [some 0,some 1,some 2,some 3,none] ?_ ?_ rfl rfl) ?_
       rotate_left
       ·simp -implicitDefEqProofs only[go_sem,Z1,Z2,Z3,Z4]
        all_goals(first|done|(simp[comb, *])|(simp[aI, *];done)|(simp[aI];done)|(simp;omega)|skip)
       ·simp -implicitDefEqProofs only[go_sem,Z1,Z2,Z3,Z4]
        all_goals(first|done|(simp[comb, *])|(simp[aI, *];done)|(simp[aI];done)|(simp;omega)|skip)
       rotate_left
       ·omega
       ·rintro i hi
        rcases aa (i<a.aG.length) with h1|h1
        ·have h2:i<b.aG.length:=by omega
         have q1:=dw h5.1 h5.2 (hc1 a.aG[i] (ak h1))
         have q2:=dw h6.1 h6.2 (hc2 b.aG[i] (ak h2))
         have dz:(comb m n (a.aG.take i) (b.aG.take i)).length≤4:=by rw[ke (by simp;omega)];simp;omega
         try simp -implicitDefEqProofs only[go_sem,Z1,Z2,Z3,Z4,h1,h2]
         refine sW ?_
         refine sK ?_
         refine⟨i+1,?_,sL,ar [some 0,some 1,some 2,some 3,some 5] ?_ ?_ rfl rfl⟩
         rotate_left
         ·simp -implicitDefEqProofs only[go_sem,Z1,Z2,Z3,Z4]
          all_goals(first|done|((rw[fe h1 h2,←eQ];rfl))|(simp[aI, *];done)|(simp[aI];done)|(simp;omega)|skip)
         ·simp -implicitDefEqProofs only[go_sem,Z1,Z2,Z3,Z4]
          all_goals(first|done|((rw[fe h1 h2,←eQ];rfl))|(simp[aI, *];done)|(simp[aI];done)|(simp;omega)|skip)
         exact h1
        ·rw[ao (by omega),ao (by omega)]
         have e2:jw a m b n=⟨comb m n a.aG b.aG,m*a.bound+n*b.bound,true⟩:=by simp[jw, *]
         try simp -implicitDefEqProofs only[go_sem,Z1,Z2,Z3,Z4,h1]
         refine sW ?_
         refine dQ [] [4] (gY ⟨comb m n a.aG b.aG,m*a.bound+n*b.bound,true⟩) rfl ?_ ?_ ?_
         ·(simp -implicitDefEqProofs only[go_sem,Z1,Z2,Z3,Z4];repeat'(first|exact iR.nil|apply iR.cons|exact Vw.same (by first|rfl|simp -implicitDefEqProofs only[go_sem,Z1,Z2,Z3,Z4])|exact Vw.acc rfl rfl|exact Vw.fw rfl rfl (by simp -implicitDefEqProofs only[go_sem,Z1,Z2,Z3,Z4])|exact Vw.nil|apply Vw.agg|apply Vw.fn|refine Vw.box rfl rfl ?_))
         all_goals simp -implicitDefEqProofs only[go_sem,Z1,Z2,Z3,Z4]
         refine sW ?_
         rw[pF g1 g2 g3 g4,jv,e2]
         cases h7:dU ⟨comb m n a.aG b.aG,m*a.bound+n*b.bound,true⟩
         ·try simp -implicitDefEqProofs only[go_sem,Z1,Z2,Z3,Z4]
          refine sW ?_
          refine an ?_
          simp -implicitDefEqProofs only[go_sem,Z1,Z2,Z3,Z4]
          all_goals(first|done|(simp;done)|(simp;omega)|skip)
         ·try simp -implicitDefEqProofs only[go_sem,Z1,Z2,Z3,Z4]
          refine sW ?_
          refine an ?_
          simp -implicitDefEqProofs only[go_sem,Z1,Z2,Z3,Z4]
          all_goals(first|done|(simp;done)|(simp;omega)|skip)
     ·rcases aa (0<n) with t3|t3
      ·try simp -implicitDefEqProofs only[go_sem,Z1,Z2,Z3,Z4,t1,t3]
       refine sW ?_
       refine sK ?_
       refine aM hm (fun(i:Nat)=> i≤a.aG.length) (fun(i:Nat)=> ⟨dH 87 .any [(1,iv m),(3,iv n),(4,.ptr 0 0),(6,.ptr 1 0),(8,.ptr 2 0),(10,.ptr 3 0),(57,iv a.aG.length),(58,iv i)],[some (.box (cF (eS a))),some (.box (cF (eS b))),some (.box (cF (eS mO))),some (.box [.acc 4,.d (.val (.int .i64 (m*a.bound+n*b.bound))),.d (.val (.bool b.strict))]),some (.acc 3 (bI (comb m n (a.aG.take i) (b.aG.take i))))]⟩) (fun(i:Nat)=> a.aG.length-i) (0) ?_ (ar [some 0,some 1,some 2,some 3,none] ?_ ?_ rfl rfl) ?_
       rotate_left
       ·simp -implicitDefEqProofs only[go_sem,Z1,Z2,Z3,Z4]
        all_goals(first|done|(simp[comb, *])|(simp[aI, *];done)|(simp[aI];done)|(simp;omega)|skip)
       ·simp -implicitDefEqProofs only[go_sem,Z1,Z2,Z3,Z4]
        all_goals(first|done|(simp[comb, *])|(simp[aI, *];done)|(simp[aI];done)|(simp;omega)|skip)
       rotate_left
       ·omega
       ·rintro i hi
        rcases aa (i<a.aG.length) with h1|h1
        ·have h2:i<b.aG.length:=by omega
         have q1:=dw h5.1 h5.2 (hc1 a.aG[i] (ak h1))
         have q2:=dw h6.1 h6.2 (hc2 b.aG[i] (ak h2))
         have dz:(comb m n (a.aG.take i) (b.aG.take i)).length≤4:=by rw[ke (by simp;omega)];simp;omega
         try simp -implicitDefEqProofs only[go_sem,Z1,Z2,Z3,Z4,h1,h2]
         refine sW ?_
         refine sK ?_
         refine⟨i+1,?_,sL,ar [some 0,some 1,some 2,some 3,some 5] ?_ ?_ rfl rfl⟩
         rotate_left
         ·simp -implicitDefEqProofs only[go_sem,Z1,Z2,Z3,Z4]
          all_goals(first|done|((rw[fe h1 h2,←eQ];rfl))|(simp[aI, *];done)|(simp[aI];done)|(simp;omega)|skip)
         ·simp -implicitDefEqProofs only[go_sem,Z1,Z2,Z3,Z4]
          all_goals(first|done|((rw[fe h1 h2,←eQ];rfl))|(simp[aI, *];done)|(simp[aI];done)|(simp;omega)|skip)
         exact h1
        ·rw[ao (by omega),ao (by omega)]
         have e2:jw a m b n=⟨comb m n a.aG b.aG,m*a.bound+n*b.bound,b.strict⟩:=by simp[jw, *]
         try simp -implicitDefEqProofs only[go_sem,Z1,Z2,Z3,Z4,h1]
         refine sW ?_
         refine dQ [] [4] (gY ⟨comb m n a.aG b.aG,m*a.bound+n*b.bound,b.strict⟩) rfl ?_ ?_ ?_
         ·(simp -implicitDefEqProofs only[go_sem,Z1,Z2,Z3,Z4];repeat'(first|exact iR.nil|apply iR.cons|exact Vw.same (by first|rfl|simp -implicitDefEqProofs only[go_sem,Z1,Z2,Z3,Z4])|exact Vw.acc rfl rfl|exact Vw.fw rfl rfl (by simp -implicitDefEqProofs only[go_sem,Z1,Z2,Z3,Z4])|exact Vw.nil|apply Vw.agg|apply Vw.fn|refine Vw.box rfl rfl ?_))
         all_goals simp -implicitDefEqProofs only[go_sem,Z1,Z2,Z3,Z4]
         refine sW ?_
         rw[pF g1 g2 g3 g4,jv,e2]
         cases h7:dU ⟨comb m n a.aG b.aG,m*a.bound+n*b.bound,b.strict⟩
         ·try simp -implicitDefEqProofs only[go_sem,Z1,Z2,Z3,Z4]
          refine sW ?_
          refine an ?_
          simp -implicitDefEqProofs only[go_sem,Z1,Z2,Z3,Z4]
          all_goals(first|done|(simp;done)|(simp;omega)|skip)
         ·try simp -implicitDefEqProofs only[go_sem,Z1,Z2,Z3,Z4]
          refine sW ?_
          refine an ?_
          simp -implicitDefEqProofs only[go_sem,Z1,Z2,Z3,Z4]
          all_goals(first|done|(simp;done)|(simp;omega)|skip)
      ·try simp -implicitDefEqProofs only[go_sem,Z1,Z2,Z3,Z4,t1,t3]
       refine sW ?_
       refine sK ?_
       refine aM hm (fun(i:Nat)=> i≤a.aG.length) (fun(i:Nat)=> ⟨dH 87 .any [(1,iv m),(3,iv n),(4,.ptr 0 0),(6,.ptr 1 0),(8,.ptr 2 0),(10,.ptr 3 0),(57,iv a.aG.length),(58,iv i)],[some (.box (cF (eS a))),some (.box (cF (eS b))),some (.box (cF (eS mO))),some (.box [.acc 4,.d (.val (.int .i64 (m*a.bound+n*b.bound))),.d (.val (.bool false))]),some (.acc 3 (bI (comb m n (a.aG.take i) (b.aG.take i))))]⟩) (fun(i:Nat)=> a.aG.length-i) (0) ?_ (ar [some 0,some 1,some 2,some 3,none] ?_ ?_ rfl rfl) ?_
       rotate_left
       ·simp -implicitDefEqProofs only[go_sem,Z1,Z2,Z3,Z4]
        all_goals(first|done|(simp[comb, *])|(simp[aI, *];done)|(simp[aI];done)|(simp;omega)|skip)
       ·simp -implicitDefEqProofs only[go_sem,Z1,Z2,Z3,Z4]
        all_goals(first|done|(simp[comb, *])|(simp[aI, *];done)|(simp[aI];done)|(simp;omega)|skip)
       rotate_left
       ·omega
       ·rintro i hi
        rcases aa (i<a.aG.length) with h1|h1
        ·have h2:i<b.aG.length:=by omega
         have q1:=dw h5.1 h5.2 (hc1 a.aG[i] (ak h1))
         have q2:=dw h6.1 h6.2 (hc2 b.aG[i] (ak h2))
         have dz:(comb m n (a.aG.take i) (b.aG.take i)).length≤4:=by rw[ke (by simp;omega)];simp;omega
         try simp -implicitDefEqProofs only[go_sem,Z1,Z2,Z3,Z4,h1,h2]
         refine sW ?_
         refine sK ?_
         refine⟨i+1,?_,sL,ar [some 0,some 1,some 2,some 3,some 5] ?_ ?_ rfl rfl⟩
         rotate_left
         ·simp -implicitDefEqProofs only[go_sem,Z1,Z2,Z3,Z4]
          all_goals(first|done|((rw[fe h1 h2,←eQ];rfl))|(simp[aI, *];done)|(simp[aI];done)|(simp;omega)|skip)
         ·simp -implicitDefEqProofs only[go_sem,Z1,Z2,Z3,Z4]
          all_goals(first|done|((rw[fe h1 h2,←eQ];rfl))|(simp[aI, *];done)|(simp[aI];done)|(simp;omega)|skip)
         exact h1
        ·rw[ao (by omega),ao (by omega)]
         have e2:jw a m b n=⟨comb m n a.aG b.aG,m*a.bound+n*b.bound,false⟩:=by simp[jw, *]
         try simp -implicitDefEqProofs only[go_sem,Z1,Z2,Z3,Z4,h1]
         refine sW ?_
         refine dQ [] [4] (gY ⟨comb m n a.aG b.aG,m*a.bound+n*b.bound,false⟩) rfl ?_ ?_ ?_
         ·(simp -implicitDefEqProofs only[go_sem,Z1,Z2,Z3,Z4];repeat'(first|exact iR.nil|apply iR.cons|exact Vw.same (by first|rfl|simp -implicitDefEqProofs only[go_sem,Z1,Z2,Z3,Z4])|exact Vw.acc rfl rfl|exact Vw.fw rfl rfl (by simp -implicitDefEqProofs only[go_sem,Z1,Z2,Z3,Z4])|exact Vw.nil|apply Vw.agg|apply Vw.fn|refine Vw.box rfl rfl ?_))
         all_goals simp -implicitDefEqProofs only[go_sem,Z1,Z2,Z3,Z4]
         refine sW ?_
         rw[pF g1 g2 g3 g4,jv,e2]
         cases h7:dU ⟨comb m n a.aG b.aG,m*a.bound+n*b.bound,false⟩
         ·try simp -implicitDefEqProofs only[go_sem,Z1,Z2,Z3,Z4]
          refine sW ?_
          refine an ?_
          simp -implicitDefEqProofs only[go_sem,Z1,Z2,Z3,Z4]
          all_goals(first|done|(simp;done)|(simp;omega)|skip)
         ·try simp -implicitDefEqProofs only[go_sem,Z1,Z2,Z3,Z4]
          refine sW ?_
          refine an ?_
          simp -implicitDefEqProofs only[go_sem,Z1,Z2,Z3,Z4]
          all_goals(first|done|(simp;done)|(simp;omega)|skip)
theorem Ib(ls:List ir)(ts:List Int):C E.P 154 [lv (dm ls),lv (bI ts)] [] (bD (.gV [av (eS (jS ls ts).1),bv (jS ls ts).2]) []):=by
 have cq:=jZ
 refine lU (nt:=47) (rs:=[.cell 4 162,.tmp 5]) hm Tryz.func154 rfl rfl rfl rfl rfl (fun hl he=>?_)
 simp -implicitDefEqProofs only[go_sem,Z1,Z2,Z3,Z4] at hl⊢
 refine bp [] (nQ ls) ?_ ?_<;>simp -implicitDefEqProofs only[go_sem,Z1,Z2,Z3,Z4]
 refine sW ?_
 cases g1:fS ls
 ·try simp -implicitDefEqProofs only[go_sem,Z1,Z2,Z3,Z4]
  refine sW ?_
  refine an ?_
  simp -implicitDefEqProofs only[go_sem,Z1,Z2,Z3,Z4]
  all_goals(first|done|(simp[jS,g1];done)|(simp[jS,g1];omega)|skip)
 ·rcases aa (ts.length=ls.length) with g2|g2
  ·have e:jS ls ts=o8 ls ts ⟨[0,0,0,0],0,false⟩:=by simp[jS,g1,g2]
   try simp -implicitDefEqProofs only[go_sem,Z1,Z2,Z3,Z4,g2]
   refine sW ?_
   refine sK ?_
   refine cQ hm (fun(i:Nat) (out:ir)=> i≤ls.length∧jS ls ts=o8 (ls.drop i) (ts.drop i) out) (fun(i:Nat) (out:ir)=> ⟨dH 47 .any [(1,lv (bI ts)),(4,.ptr 0 0),(6,.ptr 1 0),(24,lv (dm ls)),(25,iv ls.length),(26,iv i)],[some (.box (cF (eS mO))),some (.box (cF (eS out)))]⟩) (fun(i:Nat) (out:ir)=> ls.length-i) (0) (⟨[0,0,0,0],0,false⟩) ?_ (ar [some 0,some 2] ?_ ?_ rfl rfl) ?_
   rotate_left
   ·simp -implicitDefEqProofs only[go_sem,Z1,Z2,Z3,Z4]
    all_goals(first|done|(simp[bI,aU])|(simp[aI, *];done)|(simp[aI];done)|(simp;omega)|skip)
   ·simp -implicitDefEqProofs only[go_sem,Z1,Z2,Z3,Z4]
    all_goals(first|done|(simp[bI,aU])|(simp[aI, *];done)|(simp[aI];done)|(simp;omega)|skip)
   rotate_left
   ·simp[e]
   ·rintro i out ⟨hi,hg⟩
    rcases aa (i<ls.length) with h1|h1
    ·have h2:i<ts.length:=by omega
     rw[GN h1 h2] at hg
     try simp -implicitDefEqProofs only[go_sem,Z1,Z2,Z3,Z4,h1,h2]
     refine sW ?_
     refine bp [] (zK out 1 ls[i] ts[i]) ?_ ?_<;>simp -implicitDefEqProofs only[go_sem,Z1,Z2,Z3,Z4]
     refine sW ?_
     cases h3:(ez out 1 ls[i] ts[i]).2
     ·rw[h3] at hg
      simp only[Bool.false_eq_true,if_false] at hg
      try simp -implicitDefEqProofs only[go_sem,Z1,Z2,Z3,Z4]
      refine sW ?_
      refine an ?_
      simp -implicitDefEqProofs only[go_sem,Z1,Z2,Z3,Z4]
      all_goals(first|done|(simp[hg];done)|(simp[hg];omega)|skip)
     ·rw[h3] at hg
      simp only[if_true] at hg
      try simp -implicitDefEqProofs only[go_sem,Z1,Z2,Z3,Z4]
      refine sW ?_
      refine⟨by omega,?_⟩
      refine⟨i+1,(ez out 1 ls[i] ts[i]).1,?_,sL,ar [some 0,some 1] ?_ ?_ rfl rfl⟩
      rotate_left
      ·simp -implicitDefEqProofs only[go_sem,Z1,Z2,Z3,Z4]
       all_goals(try exact sM)
      ·simp -implicitDefEqProofs only[go_sem,Z1,Z2,Z3,Z4]
       all_goals(try exact sM)
      exact⟨by omega,hg⟩
    ·rw[al (by omega),al (by omega),o8] at hg
     try simp -implicitDefEqProofs only[go_sem,Z1,Z2,Z3,Z4,h1]
     refine sW ?_
     refine an ?_
     simp -implicitDefEqProofs only[go_sem,Z1,Z2,Z3,Z4]
     all_goals(first|done|(simp[hg];done)|(simp[hg];omega)|skip)
  ·have g2':¬ (ts.length:Int)=ls.length:=by omega
   try simp -implicitDefEqProofs only[go_sem,Z1,Z2,Z3,Z4,g2']
   refine sW ?_
   refine an ?_
   simp -implicitDefEqProofs only[go_sem,Z1,Z2,Z3,Z4]
   all_goals(first|done|(simp[jS,g1,g2];done)|(simp[jS,g1,g2];omega)|skip)
theorem BQ(ls:List ir)(ts:List Int):C E.P 79 [lv (dm ls),lv (bI ts)] [] (bD (bv (qm ls ts)) []):=by
 have cq:=jZ
 refine lU (nt:=18) (rs:=[.tmp 4]) hm Tryz.func79 rfl rfl rfl rfl rfl (fun hl he=>?_)
 simp -implicitDefEqProofs only[go_sem,Z1,Z2,Z3,Z4] at hl⊢
 refine bp [] (Ib ls ts) ?_ ?_<;>simp -implicitDefEqProofs only[go_sem,Z1,Z2,Z3,Z4]
 refine sW ?_
 cases h:(jS ls ts).2
 ·try simp -implicitDefEqProofs only[go_sem,Z1,Z2,Z3,Z4]
  refine sW ?_
  refine an ?_
  simp -implicitDefEqProofs only[go_sem,Z1,Z2,Z3,Z4]
  all_goals(first|done|(simp[qm,h];done)|(simp[qm,h];omega)|skip)
 ·try simp -implicitDefEqProofs only[go_sem,Z1,Z2,Z3,Z4]
  refine sW ?_
  refine bp [] (zk (jS ls ts).1) ?_ ?_<;>simp -implicitDefEqProofs only[go_sem,Z1,Z2,Z3,Z4]
  refine sW ?_
  refine an ?_
  simp -implicitDefEqProofs only[go_sem,Z1,Z2,Z3,Z4]
  all_goals(first|done|(simp[qm,h];done)|(simp[qm,h];omega)|skip)
end Go.Proofs.YtabembjmeobhoaaGreat
