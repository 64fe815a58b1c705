/-
  The walks of constraints and their certificates. A step towards the exact laws.
-/
import Derived.Test.YtabembjmeobhoaaGreatKDH
set_option linter.unusedVariables false
set_option linter.unusedSimpArgs false
open Classical renaming em→aa
open List renaming getElem?_eq_getElem→ah,drop_of_length_le→ai,getElem_mem→ak,take_of_length_le→ao,replicate→aS,take_add_one→bq,map_append→cL,all_eq_not_any_not→fy
namespace Go.Proofs.YtabembjmeobhoaaGreat
open Go.Eng Go.Mod
open Int renaming reduceEq→Z1,reduceLT→Z2,reduceLE→Z3,reduceToNat→Z4
set_option maxRecDepth 100000
set_option maxHeartbeats 3200000
theorem zi(n:Int):C E.P 231 [iv n] [] (bz (bv (np n)) []):=by
 have cq:=jT
 refine lQ (nt:=5) (rs:=[.tmp 2]) hm Tryz.func231 rfl rfl rfl rfl rfl (fun hl he=>?_)
 simp -implicitDefEqProofs only[go_sem,Z1,Z2,Z3,Z4] at hl⊢
 refine bw [] (fj n (-1000000) 1000000) ?_ ?_<;>simp -implicitDefEqProofs only[go_sem,Z1,Z2,Z3,Z4]
 refine sW ?_
 refine an ?_
 simp -implicitDefEqProofs only[go_sem,Z1,Z2,Z3,Z4]
 all_goals(first|done|(simp[np];done)|(simp[np];omega)|skip)
theorem gN(l:iV):C E.P 171 [av (eL l)] [] (bz (bv (eu l)) []):=by
 have cq:=jT
 refine lQ (nt:=25) (rs:=[.tmp 2]) hm Tryz.func171 rfl rfl rfl rfl rfl (fun hl he=>?_)
 simp -implicitDefEqProofs only[go_sem,Z1,Z2,Z3,Z4] at hl⊢
 refine aL hm (fun(i:Nat)=> i≤l.aF.length∧l.aF.all np=(l.aF.drop i).all np) (fun(i:Nat)=> ⟨dx 25 .any [(1,.ptr 0 0),(6,lv (bF l.aF)),(7,iv l.aF.length),(8,iv i)],[some (.box (cE (eL l)))]⟩) (fun(i:Nat)=> l.aF.length-i) (0) ?_ (ar [some 0] ?_ ?_ rfl rfl) ?_
 rotate_left
 ·simp -implicitDefEqProofs only[go_sem,Z1,Z2,Z3,Z4]
  all_goals(try exact sM)
 ·simp -implicitDefEqProofs only[go_sem,Z1,Z2,Z3,Z4]
  all_goals(try exact sM)
 rotate_left
 ·simp
 ·rintro i ⟨hi,hg⟩
  rcases aa (i<l.aF.length) with h1|h1
  ·rw[List.drop_eq_getElem_cons h1,List.all_cons] at hg
   try simp -implicitDefEqProofs only[go_sem,Z1,Z2,Z3,Z4,h1]
   refine sW ?_
   refine bw [] (zi l.aF[i]) ?_ ?_<;>simp -implicitDefEqProofs only[go_sem,Z1,Z2,Z3,Z4]
   refine sW ?_
   cases h2:np l.aF[i]
   ·rw[h2,Bool.false_and] at hg
    have e:eu l=false:=by simp[eu,hg]
    try simp -implicitDefEqProofs only[go_sem,Z1,Z2,Z3,Z4]
    refine sW ?_
    refine an ?_
    simp -implicitDefEqProofs only[go_sem,Z1,Z2,Z3,Z4]
    all_goals(first|done|(simp[e];done)|(simp[e];omega)|skip)
   ·rw[h2,Bool.true_and] at hg
    try simp -implicitDefEqProofs only[go_sem,Z1,Z2,Z3,Z4]
    refine sW ?_
    refine⟨by omega,?_⟩
    refine⟨i+1,?_,sL,ar [some 0] ?_ ?_ rfl rfl⟩
    rotate_left
    ·simp -implicitDefEqProofs only[go_sem,Z1,Z2,Z3,Z4]
     all_goals(try exact sM)
    ·simp -implicitDefEqProofs only[go_sem,Z1,Z2,Z3,Z4]
     all_goals(try exact sM)
    exact⟨by omega,hg⟩
  ·rw[ai (by omega),List.all_nil] at hg
   rcases aa ((l.aF.length:Int)=4) with h3|h3
   ·have h3':l.aF.length=4:=by omega
    have k3:=eq_true h3
    try simp -implicitDefEqProofs only[go_sem,Z1,Z2,Z3,Z4,h1,k3]
    refine sW ?_
    refine bw [] (zi l.bound) ?_ ?_<;>simp -implicitDefEqProofs only[go_sem,Z1,Z2,Z3,Z4]
    refine sW ?_
    refine an ?_
    simp -implicitDefEqProofs only[go_sem,Z1,Z2,Z3,Z4]
    all_goals(first|done|(simp[eu,hg,h3'];done)|(simp[eu,hg,h3'];omega)|skip)
   ·have h3':¬l.aF.length=4:=by omega
    try simp -implicitDefEqProofs only[go_sem,Z1,Z2,Z3,Z4,h1,h3]
    refine sW ?_
    refine an ?_
    simp -implicitDefEqProofs only[go_sem,Z1,Z2,Z3,Z4]
    all_goals(first|done|(simp[eu,hg,h3'];done)|(simp[eu,hg,h3'];omega)|skip)
theorem Ib(l:iV):C E.P 109 [av (eL l)] [] (bz (av (eL (rO l))) []):=by
 have cq:=jT
 refine lQ (nt:=33) (rs:=[.cell 2 162]) hm Tryz.func109 rfl rfl rfl rfl rfl (fun hl he=>?_)
 simp -implicitDefEqProofs only[go_sem,Z1,Z2,Z3,Z4] at hl⊢
 refine bw [] (gN l) ?_ ?_<;>simp -implicitDefEqProofs only[go_sem,Z1,Z2,Z3,Z4]
 refine sW ?_
 cases h:eu l
 ·try simp -implicitDefEqProofs only[go_sem,Z1,Z2,Z3,Z4]
  refine sW ?_
  refine an ?_
  simp -implicitDefEqProofs only[go_sem,Z1,Z2,Z3,Z4]
  all_goals(first|done|(simp[rO,h];done)|(simp[rO,h];omega)|skip)
 ·obtain⟨h4,hc,hb⟩:=gv.1 h
  have e:rO l=⟨l.aF.map fun c=>-c,-l.bound,!l.strict⟩:=by simp[rO,h]
  try simp -implicitDefEqProofs only[go_sem,Z1,Z2,Z3,Z4]
  refine sW ?_
  refine⟨by omega,?_⟩
  refine aL hm (fun(i:Nat)=> i≤l.aF.length) (fun(i:Nat)=> ⟨dx 33 .any [(2,.ptr 0 0),(3,.ptr 1 0),(18,lv (bF l.aF)),(19,iv l.aF.length),(20,iv i)],[some (.box (cE (eL m8))),some (.box [.acc 2,.d (.val (.int .i64 (-l.bound))),.d (.val (.bool (!l.strict)))]),some (.acc 3 (bF ((l.aF.take i).map fun c=>-c)))]⟩) (fun(i:Nat)=> l.aF.length-i) (0) ?_ (ar [some 1,some 2,none] ?_ ?_ rfl rfl) ?_
  rotate_left
  ·simp -implicitDefEqProofs only[go_sem,Z1,Z2,Z3,Z4]
   all_goals(try exact sM)
  ·simp -implicitDefEqProofs only[go_sem,Z1,Z2,Z3,Z4]
   all_goals(try exact sM)
  rotate_left
  ·omega
  ·rintro i hi
   rcases aa (i<l.aF.length) with h1|h1
   ·have hn:=hc l.aF[i] (ak h1)
    try simp -implicitDefEqProofs only[go_sem,Z1,Z2,Z3,Z4,h1]
    refine sW ?_
    refine⟨by omega,by omega,by omega,?_⟩
    refine⟨i+1,?_,sL,ar [some 0,some 1,some 3] ?_ ?_ rfl rfl⟩
    rotate_left
    ·simp -implicitDefEqProofs only[go_sem,Z1,Z2,Z3,Z4]
     all_goals(first|done|((rw[bq,ah h1,cL,←eK];rfl))|(simp[aI, *];done)|(simp[aI];done)|(simp;omega)|skip)
    ·simp -implicitDefEqProofs only[go_sem,Z1,Z2,Z3,Z4]
     all_goals(first|done|((rw[bq,ah h1,cL,←eK];rfl))|(simp[aI, *];done)|(simp[aI];done)|(simp;omega)|skip)
    exact h1
   ·try simp -implicitDefEqProofs only[go_sem,Z1,Z2,Z3,Z4,h1]
    refine sW ?_
    refine an ?_
    simp -implicitDefEqProofs only[go_sem,Z1,Z2,Z3,Z4]
    rw[ao (by omega),e]
    simp[eL]
theorem Eu(c:Int):C E.P 233 [iv c] [] (bz (bv (decide (c≠0))) []):=by
 have cq:=jT
 refine lQ (nt:=5) (rs:=[.tmp 2]) hm Tryz.func233 rfl rfl rfl rfl rfl (fun hl he=>?_)
 simp -implicitDefEqProofs only[go_sem,Z1,Z2,Z3,Z4] at hl⊢
 refine an ?_
 simp -implicitDefEqProofs only[go_sem,Z1,Z2,Z3,Z4]
 all_goals(first|done|(simp;done)|(simp;omega)|skip)
theorem V8(l:iV):l.aF.any (fun c=>decide (c≠0))= !flat l:=by
 simp[flat,fy]
theorem IB(l:iV):C E.P 173 [av (eL l)] [] (bz (bv (eu l&&flat l)) []):=by
 have cq:=jT
 refine lQ (nt:=11) (rs:=[.tmp 2]) hm Tryz.func173 rfl rfl rfl rfl rfl (fun hl he=>?_)
 simp -implicitDefEqProofs only[go_sem,Z1,Z2,Z3,Z4] at hl⊢
 refine bw [] (gN l) ?_ ?_<;>simp -implicitDefEqProofs only[go_sem,Z1,Z2,Z3,Z4]
 refine sW ?_
 cases h:eu l
 ·try simp -implicitDefEqProofs only[go_sem,Z1,Z2,Z3,Z4]
  refine sW ?_
  refine an ?_
  simp -implicitDefEqProofs only[go_sem,Z1,Z2,Z3,Z4]
  all_goals(first|done|(simp;done)|(simp;omega)|skip)
 ·try simp -implicitDefEqProofs only[go_sem,Z1,Z2,Z3,Z4]
  refine sW ?_
  refine bw [] (rH 233 [] rfl (fun c=>decide (c≠0)) l.aF (fun c _=>Eu c)) ?_ ?_<;>simp -implicitDefEqProofs only[go_sem,Z1,Z2,Z3,Z4]
  refine sW ?_
  refine an ?_
  simp -implicitDefEqProofs only[go_sem,Z1,Z2,Z3,Z4]
  rw[V8]
  simp
theorem y9(l:iV):C E.P 103 [av (eL l)] [] (bz (bv (kv l)) []):=by
 have cq:=jT
 refine lQ (nt:=19) (rs:=[.tmp 2]) hm Tryz.func103 rfl rfl rfl rfl rfl (fun hl he=>?_)
 simp -implicitDefEqProofs only[go_sem,Z1,Z2,Z3,Z4] at hl⊢
 refine bw [] (IB l) ?_ ?_<;>simp -implicitDefEqProofs only[go_sem,Z1,Z2,Z3,Z4]
 refine sW ?_
 cases h:eu l&&flat l
 ·have e:kv l=false:=by
   simp only[kv]
   rw[←Bool.and_assoc,h]
   rfl
  try simp -implicitDefEqProofs only[go_sem,Z1,Z2,Z3,Z4]
  refine sW ?_
  refine an ?_
  simp -implicitDefEqProofs only[go_sem,Z1,Z2,Z3,Z4]
  all_goals(first|done|(simp[e];done)|(simp[e];omega)|skip)
 ·have e:kv l=(decide (l.bound<0)||(decide (l.bound=0)&&l.strict)):=by
   simp only[kv]
   rw[←Bool.and_assoc,h]
   rfl
  rcases aa (l.bound<0) with h1|h1
  ·try simp -implicitDefEqProofs only[go_sem,Z1,Z2,Z3,Z4,h1]
   refine sW ?_
   refine an ?_
   simp -implicitDefEqProofs only[go_sem,Z1,Z2,Z3,Z4]
   all_goals(first|done|(simp[e,h1];done)|(simp[e,h1];omega)|skip)
  ·rcases aa (l.bound=0) with h2|h2
   ·try simp -implicitDefEqProofs only[go_sem,Z1,Z2,Z3,Z4,h1,h2]
    refine sW ?_
    refine an ?_
    simp -implicitDefEqProofs only[go_sem,Z1,Z2,Z3,Z4]
    all_goals(first|done|(simp[e,h1,h2];done)|(simp[e,h1,h2];omega)|skip)
   ·try simp -implicitDefEqProofs only[go_sem,Z1,Z2,Z3,Z4,h1,h2]
    refine sW ?_
    refine an ?_
    simp -implicitDefEqProofs only[go_sem,Z1,Z2,Z3,Z4]
    all_goals(first|done|(simp[e,h1,h2];done)|(simp[e,h1,h2];omega)|skip)
theorem AL(l:iV):C E.P 170 [av (eL l)] [] (bz (bv (!eu l)) []):=by
 have cq:=jT
 refine lQ (nt:=6) (rs:=[.tmp 2]) hm Tryz.func170 rfl rfl rfl rfl rfl (fun hl he=>?_)
 simp -implicitDefEqProofs only[go_sem,Z1,Z2,Z3,Z4] at hl⊢
 refine bw [] (gN l) ?_ ?_<;>simp -implicitDefEqProofs only[go_sem,Z1,Z2,Z3,Z4]
 refine sW ?_
 refine an ?_
 simp -implicitDefEqProofs only[go_sem,Z1,Z2,Z3,Z4]
 all_goals(first|done|(simp;done)|(simp;omega)|skip)
theorem nL(ls:List iV):C E.P 100 [lv (di ls)] [] (bz (bv (fP ls)) []):=by
 have cq:=jT
 refine lQ (nt:=11) (rs:=[.tmp 2]) hm Tryz.func100 rfl rfl rfl rfl rfl (fun hl he=>?_)
 simp -implicitDefEqProofs only[go_sem,Z1,Z2,Z3,Z4] at hl⊢
 rcases aa ((ls.length:Int)≤20) with h|h
 ·have h':ls.length≤20:=by omega
  try simp -implicitDefEqProofs only[go_sem,Z1,Z2,Z3,Z4,h]
  refine sW ?_
  refine bw [] (AF 170 [] rfl (fun l=>!eu l) ls (fun l _=>AL l)) ?_ ?_<;>simp -implicitDefEqProofs only[go_sem,Z1,Z2,Z3,Z4]
  refine sW ?_
  refine an ?_
  simp -implicitDefEqProofs only[go_sem,Z1,Z2,Z3,Z4]
  all_goals(first|done|(simp[fP,h',fy];done)|(simp[fP,h',fy];omega)|skip)
 ·have h':¬ls.length≤20:=by omega
  try simp -implicitDefEqProofs only[go_sem,Z1,Z2,Z3,Z4,h]
  refine sW ?_
  refine an ?_
  simp -implicitDefEqProofs only[go_sem,Z1,Z2,Z3,Z4]
  all_goals(first|done|(simp[fP,h'];done)|(simp[fP,h'];omega)|skip)
theorem zB(a:iV)(m:Int)(b:iV)(n:Int):C E.P 226 [av (eL a),iv m,av (eL b),iv n] [] (bz (.gV [av (eL (eV a m b n).1),bv (eV a m b n).2]) []):=by
 have cq:=jT
 refine lQ (nt:=87) (rs:=[.cell 8 162,.tmp 9]) hm Tryz.func226 rfl rfl rfl rfl rfl (fun hl he=>?_)
 simp -implicitDefEqProofs only[go_sem,Z1,Z2,Z3,Z4] at hl⊢
 refine bw [] (gN a) ?_ ?_<;>simp -implicitDefEqProofs only[go_sem,Z1,Z2,Z3,Z4]
 refine sW ?_
 cases g1:eu a
 ·try simp -implicitDefEqProofs only[go_sem,Z1,Z2,Z3,Z4]
  refine sW ?_
  refine an ?_
  simp -implicitDefEqProofs only[go_sem,Z1,Z2,Z3,Z4]
  all_goals(first|done|(simp[eV,g1];done)|(simp[eV,g1];omega)|skip)
 ·try simp -implicitDefEqProofs only[go_sem,Z1,Z2,Z3,Z4]
  refine sW ?_
  refine bw [] (gN b) ?_ ?_<;>simp -implicitDefEqProofs only[go_sem,Z1,Z2,Z3,Z4]
  refine sW ?_
  cases g2:eu b
  ·try simp -implicitDefEqProofs only[go_sem,Z1,Z2,Z3,Z4]
   refine sW ?_
   refine an ?_
   simp -implicitDefEqProofs only[go_sem,Z1,Z2,Z3,Z4]
   all_goals(first|done|(simp[eV,g1,g2];done)|(simp[eV,g1,g2];omega)|skip)
  ·try simp -implicitDefEqProofs only[go_sem,Z1,Z2,Z3,Z4]
   refine sW ?_
   refine bw [] (fj m 0 1000000) ?_ ?_<;>simp -implicitDefEqProofs only[go_sem,Z1,Z2,Z3,Z4]
   refine sW ?_
   cases g3:within m 0 1000000
   ·try simp -implicitDefEqProofs only[go_sem,Z1,Z2,Z3,Z4]
    refine sW ?_
    refine an ?_
    simp -implicitDefEqProofs only[go_sem,Z1,Z2,Z3,Z4]
    all_goals(first|done|(simp[eV,g1,g2,g3];done)|(simp[eV,g1,g2,g3];omega)|skip)
   ·try simp -implicitDefEqProofs only[go_sem,Z1,Z2,Z3,Z4]
    refine sW ?_
    refine bw [] (fj n 0 1000000) ?_ ?_<;>simp -implicitDefEqProofs only[go_sem,Z1,Z2,Z3,Z4]
    refine sW ?_
    cases g4:within n 0 1000000
    ·try simp -implicitDefEqProofs only[go_sem,Z1,Z2,Z3,Z4]
     refine sW ?_
     refine an ?_
     simp -implicitDefEqProofs only[go_sem,Z1,Z2,Z3,Z4]
     all_goals(first|done|(simp[eV,g1,g2,g3,g4];done)|(simp[eV,g1,g2,g3,g4];omega)|skip)
    ·obtain⟨hn1,hc1,hb1⟩:=gv.1 g1
     obtain⟨hn2,hc2,hb2⟩:=gv.1 g2
     have h5:=dj.1 g3
     have h6:=dj.1 g4
     have p1:=dq h5.1 h5.2 hb1
     have p2:=dq h6.1 h6.2 hb2
     rcases aa (0<m) with t1|t1
     ·cases t2:a.strict
      ·rcases aa (0<n) with t3|t3
       ·try simp -implicitDefEqProofs only[go_sem,Z1,Z2,Z3,Z4,t1,t3,t2]
        refine sW ?_
        refine sK ?_
        refine aL hm (fun(i:Nat)=> i≤a.aF.length) (fun(i:Nat)=> ⟨dx 87 .any [(1,iv m),(3,iv n),(4,.ptr 0 0),(6,.ptr 1 0),(8,.ptr 2 0),(10,.ptr 3 0),(57,iv a.aF.length),(58,iv i)],[some (.box (cE (eL a))),some (.box (cE (eL b))),some (.box (cE (eL m8))),some (.box [.acc 4,.d (.val (.int .i64 (m*a.bound+n*b.bound))),.d (.val (.bool b.strict))]),some (.acc 3 (bF (comb m n (a.aF.take i) (b.aF.take i))))]⟩) (fun(i:Nat)=> a.aF.length-i) (0) ?_ (ar [some 0,some 1,some 2,some 3,none] ?_ ?_ rfl rfl) ?_
        rotate_left
        ·simp -implicitDefEqProofs only[go_sem,Z1,Z2,Z3,Z4]
         all_goals(first|done|(simp[comb, *])|(simp[aI, *];done)|(simp[aI];done)|(simp;omega)|skip)
        ·simp -implicitDefEqProofs only[go_sem,Z1,Z2,Z3,Z4]
         all_goals(first|done|(simp[comb, *])|(simp[aI, *];done)|(simp[aI];done)|(simp;omega)|skip)
        rotate_left
        ·omega
        ·rintro i hi
         rcases aa (i<a.aF.length) with h1|h1
         ·have h2:i<b.aF.length:=by omega
          have q1:=dq h5.1 h5.2 (hc1 a.aF[i] (ak h1))
          have q2:=dq h6.1 h6.2 (hc2 b.aF[i] (ak h2))
          have dy:(comb m n (a.aF.take i) (b.aF.take i)).length≤4:=by rw[kf (by simp;omega)];simp;omega
          try simp -implicitDefEqProofs only[go_sem,Z1,Z2,Z3,Z4,h1,h2]
          refine sW ?_
          refine sK ?_
          refine⟨i+1,?_,sL,ar [some 0,some 1,some 2,some 3,some 5] ?_ ?_ rfl rfl⟩
          rotate_left
          ·simp -implicitDefEqProofs only[go_sem,Z1,Z2,Z3,Z4]
           all_goals(first|done|((rw[e6 h1 h2,←eK];rfl))|(simp[aI, *];done)|(simp[aI];done)|(simp;omega)|skip)
          ·simp -implicitDefEqProofs only[go_sem,Z1,Z2,Z3,Z4]
           all_goals(first|done|((rw[e6 h1 h2,←eK];rfl))|(simp[aI, *];done)|(simp[aI];done)|(simp;omega)|skip)
          exact h1
         ·rw[ao (by omega),ao (by omega)]
          have e2:jW a m b n=⟨comb m n a.aF b.aF,m*a.bound+n*b.bound,b.strict⟩:=by simp[jW, *]
          try simp -implicitDefEqProofs only[go_sem,Z1,Z2,Z3,Z4,h1]
          refine sW ?_
          refine dH [] [4] (gN ⟨comb m n a.aF b.aF,m*a.bound+n*b.bound,b.strict⟩) rfl ?_ ?_ ?_
          ·(simp -implicitDefEqProofs only[go_sem,Z1,Z2,Z3,Z4];repeat'(first|exact iH.nil|apply iH.cons|exact Vw.same (by first|rfl|simp -implicitDefEqProofs only[go_sem,Z1,Z2,Z3,Z4])|exact Vw.acc rfl rfl|exact Vw.fk rfl rfl (by simp -implicitDefEqProofs only[go_sem,Z1,Z2,Z3,Z4])|exact Vw.nil|apply Vw.agg|apply Vw.fn|refine Vw.box rfl rfl ?_))
          all_goals simp -implicitDefEqProofs only[go_sem,Z1,Z2,Z3,Z4]
          refine sW ?_
          rw[pR g1 g2 g3 g4,jO,e2]
          cases h7:eu ⟨comb m n a.aF b.aF,m*a.bound+n*b.bound,b.strict⟩
          ·try simp -implicitDefEqProofs only[go_sem,Z1,Z2,Z3,Z4]
           refine sW ?_
           refine an ?_
           simp -implicitDefEqProofs only[go_sem,Z1,Z2,Z3,Z4]
           all_goals(first|done|(simp;done)|(simp;omega)|skip)
          ·try simp -implicitDefEqProofs only[go_sem,Z1,Z2,Z3,Z4]
           refine sW ?_
           refine an ?_
           simp -implicitDefEqProofs only[go_sem,Z1,Z2,Z3,Z4]
           all_goals(first|done|(simp;done)|(simp;omega)|skip)
       ·try simp -implicitDefEqProofs only[go_sem,Z1,Z2,Z3,Z4,t1,t3,t2]
        refine sW ?_
        refine sK ?_
        refine aL hm (fun(i:Nat)=> i≤a.aF.length) (fun(i:Nat)=> ⟨dx 87 .any [(1,iv m),(3,iv n),(4,.ptr 0 0),(6,.ptr 1 0),(8,.ptr 2 0),(10,.ptr 3 0),(57,iv a.aF.length),(58,iv i)],[some (.box (cE (eL a))),some (.box (cE (eL b))),some (.box (cE (eL m8))),some (.box [.acc 4,.d (.val (.int .i64 (m*a.bound+n*b.bound))),.d (.val (.bool false))]),some (.acc 3 (bF (comb m n (a.aF.take i) (b.aF.take i))))]⟩) (fun(i:Nat)=> a.aF.length-i) (0) ?_ (ar [some 0,some 1,some 2,some 3,none] ?_ ?_ rfl rfl) ?_
        rotate_left
        ·simp -implicitDefEqProofs only[go_sem,Z1,Z2,Z3,Z4]
         all_goals(first|done|(simp[comb, *])|(simp[aI, *];done)|(simp[aI];done)|(simp;omega)|skip)
        ·simp -implicitDefEqProofs only[go_sem,Z1,Z2,Z3,Z4]
         all_goals(first|done|(simp[comb, *])|(simp[aI, *];done)|(simp[aI];done)|(simp;omega)|skip)
        rotate_left
        ·omega
        ·rintro i hi
         rcases aa (i<a.aF.length) with h1|h1
         ·have h2:i<b.aF.length:=by omega
          have q1:=dq h5.1 h5.2 (hc1 a.aF[i] (ak h1))
          have q2:=dq h6.1 h6.2 (hc2 b.aF[i] (ak h2))
          have dy:(comb m n (a.aF.take i) (b.aF.take i)).length≤4:=by rw[kf (by simp;omega)];simp;omega
          try simp -implicitDefEqProofs only[go_sem,Z1,Z2,Z3,Z4,h1,h2]
          refine sW ?_
          refine sK ?_
          refine⟨i+1,?_,sL,ar [some 0,some 1,some 2,some 3,some 5] ?_ ?_ rfl rfl⟩
          rotate_left
          ·simp -implicitDefEqProofs only[go_sem,Z1,Z2,Z3,Z4]
           all_goals(first|done|((rw[e6 h1 h2,←eK];rfl))|(simp[aI, *];done)|(simp[aI];done)|(simp;omega)|skip)
          ·simp -implicitDefEqProofs only[go_sem,Z1,Z2,Z3,Z4]
           all_goals(first|done|((rw[e6 h1 h2,←eK];rfl))|(simp[aI, *];done)|(simp[aI];done)|(simp;omega)|skip)
          exact h1
         ·rw[ao (by omega),ao (by omega)]
          have e2:jW a m b n=⟨comb m n a.aF b.aF,m*a.bound+n*b.bound,false⟩:=by simp[jW, *]
          try simp -implicitDefEqProofs only[go_sem,Z1,Z2,Z3,Z4,h1]
          refine sW ?_
          refine dH [] [4] (gN ⟨comb m n a.aF b.aF,m*a.bound+n*b.bound,false⟩) rfl ?_ ?_ ?_
          ·(simp -implicitDefEqProofs only[go_sem,Z1,Z2,Z3,Z4];repeat'(first|exact iH.nil|apply iH.cons|exact Vw.same (by first|rfl|simp -implicitDefEqProofs only[go_sem,Z1,Z2,Z3,Z4])|exact Vw.acc rfl rfl|exact Vw.fk rfl rfl (by simp -implicitDefEqProofs only[go_sem,Z1,Z2,Z3,Z4])|exact Vw.nil|apply Vw.agg|apply Vw.fn|refine Vw.box rfl rfl ?_))
          all_goals simp -implicitDefEqProofs only[go_sem,Z1,Z2,Z3,Z4]
          refine sW ?_
          rw[pR g1 g2 g3 g4,jO,e2]
          cases h7:eu ⟨comb m n a.aF b.aF,m*a.bound+n*b.bound,false⟩
          ·try simp -implicitDefEqProofs only[go_sem,Z1,Z2,Z3,Z4]
           refine sW ?_
           refine an ?_
           simp -implicitDefEqProofs only[go_sem,Z1,Z2,Z3,Z4]
           all_goals(first|done|(simp;done)|(simp;omega)|skip)
          ·try simp -implicitDefEqProofs only[go_sem,Z1,Z2,Z3,Z4]
           refine sW ?_
           refine an ?_
           simp -implicitDefEqProofs only[go_sem,Z1,Z2,Z3,Z4]
           all_goals(first|done|(simp;done)|(simp;omega)|skip)
      ·try simp -implicitDefEqProofs only[go_sem,Z1,Z2,Z3,Z4,t1,t2]
       refine sW ?_
       refine sK ?_
       refine aL hm (fun(i:Nat)=> i≤a.aF.length) (fun(i:Nat)=> ⟨dx 87 .any [(1,iv m),(3,iv n),(4,.ptr 0 0),(6,.ptr 1 0),(8,.ptr 2 0),(10,.ptr 3 0),(57,iv a.aF.length),(58,iv i)],[some (.box (cE (eL a))),some (.box (cE (eL b))),some (.box (cE (eL m8))),some (.box [.acc 4,.d (.val (.int .i64 (m*a.bound+n*b.bound))),.d (.val (.bool true))]),some (.acc 3 (bF (comb m n (a.aF.take i) (b.aF.take i))))]⟩) (fun(i:Nat)=> a.aF.length-i) (0) ?_ (ar [some 0,some 1,some 2,some 3,none] ?_ ?_ rfl rfl) ?_
       rotate_left
       ·simp -implicitDefEqProofs only[go_sem,Z1,Z2,Z3,Z4]
        all_goals(first|done|(simp[comb, *])|(simp[aI, *];done)|(simp[aI];done)|(simp;omega)|skip)
       ·simp -implicitDefEqProofs only[go_sem,Z1,Z2,Z3,Z4]
        all_goals(first|done|(simp[comb, *])|(simp[aI, *];done)|(simp[aI];done)|(simp;omega)|skip)
       rotate_left
       ·omega
       ·rintro i hi
        rcases aa (i<a.aF.length) with h1|h1
        ·have h2:i<b.aF.length:=by omega
         have q1:=dq h5.1 h5.2 (hc1 a.aF[i] (ak h1))
         have q2:=dq h6.1 h6.2 (hc2 b.aF[i] (ak h2))
         have dy:(comb m n (a.aF.take i) (b.aF.take i)).length≤4:=by rw[kf (by simp;omega)];simp;omega
         try simp -implicitDefEqProofs only[go_sem,Z1,Z2,Z3,Z4,h1,h2]
         refine sW ?_
         refine sK ?_
         refine⟨i+1,?_,sL,ar [some 0,some 1,some 2,some 3,some 5] ?_ ?_ rfl rfl⟩
         rotate_left
         ·simp -implicitDefEqProofs only[go_sem,Z1,Z2,Z3,Z4]
          all_goals(first|done|((rw[e6 h1 h2,←eK];rfl))|(simp[aI, *];done)|(simp[aI];done)|(simp;omega)|skip)
         ·simp -implicitDefEqProofs only[go_sem,Z1,Z2,Z3,Z4]
          all_goals(first|done|((rw[e6 h1 h2,←eK];rfl))|(simp[aI, *];done)|(simp[aI];done)|(simp;omega)|skip)
         exact h1
        ·rw[ao (by omega),ao (by omega)]
         have e2:jW a m b n=⟨comb m n a.aF b.aF,m*a.bound+n*b.bound,true⟩:=by simp[jW, *]
         try simp -implicitDefEqProofs only[go_sem,Z1,Z2,Z3,Z4,h1]
         refine sW ?_
         refine dH [] [4] (gN ⟨comb m n a.aF b.aF,m*a.bound+n*b.bound,true⟩) rfl ?_ ?_ ?_
         ·(simp -implicitDefEqProofs only[go_sem,Z1,Z2,Z3,Z4];repeat'(first|exact iH.nil|apply iH.cons|exact Vw.same (by first|rfl|simp -implicitDefEqProofs only[go_sem,Z1,Z2,Z3,Z4])|exact Vw.acc rfl rfl|exact Vw.fk rfl rfl (by simp -implicitDefEqProofs only[go_sem,Z1,Z2,Z3,Z4])|exact Vw.nil|apply Vw.agg|apply Vw.fn|refine Vw.box rfl rfl ?_))
         all_goals simp -implicitDefEqProofs only[go_sem,Z1,Z2,Z3,Z4]
         refine sW ?_
         rw[pR g1 g2 g3 g4,jO,e2]
         cases h7:eu ⟨comb m n a.aF b.aF,m*a.bound+n*b.bound,true⟩
         ·try simp -implicitDefEqProofs only[go_sem,Z1,Z2,Z3,Z4]
          refine sW ?_
          refine an ?_
          simp -implicitDefEqProofs only[go_sem,Z1,Z2,Z3,Z4]
          all_goals(first|done|(simp;done)|(simp;omega)|skip)
         ·try simp -implicitDefEqProofs only[go_sem,Z1,Z2,Z3,Z4]
          refine sW ?_
          refine an ?_
          simp -implicitDefEqProofs only[go_sem,Z1,Z2,Z3,Z4]
          all_goals(first|done|(simp;done)|(simp;omega)|skip)
     ·rcases aa (0<n) with t3|t3
      ·try simp -implicitDefEqProofs only[go_sem,Z1,Z2,Z3,Z4,t1,t3]
       refine sW ?_
       refine sK ?_
       refine aL hm (fun(i:Nat)=> i≤a.aF.length) (fun(i:Nat)=> ⟨dx 87 .any [(1,iv m),(3,iv n),(4,.ptr 0 0),(6,.ptr 1 0),(8,.ptr 2 0),(10,.ptr 3 0),(57,iv a.aF.length),(58,iv i)],[some (.box (cE (eL a))),some (.box (cE (eL b))),some (.box (cE (eL m8))),some (.box [.acc 4,.d (.val (.int .i64 (m*a.bound+n*b.bound))),.d (.val (.bool b.strict))]),some (.acc 3 (bF (comb m n (a.aF.take i) (b.aF.take i))))]⟩) (fun(i:Nat)=> a.aF.length-i) (0) ?_ (ar [some 0,some 1,some 2,some 3,none] ?_ ?_ rfl rfl) ?_
       rotate_left
       ·simp -implicitDefEqProofs only[go_sem,Z1,Z2,Z3,Z4]
        all_goals(first|done|(simp[comb, *])|(simp[aI, *];done)|(simp[aI];done)|(simp;omega)|skip)
       ·simp -implicitDefEqProofs only[go_sem,Z1,Z2,Z3,Z4]
        all_goals(first|done|(simp[comb, *])|(simp[aI, *];done)|(simp[aI];done)|(simp;omega)|skip)
       rotate_left
       ·omega
       ·rintro i hi
        rcases aa (i<a.aF.length) with h1|h1
        ·have h2:i<b.aF.length:=by omega
         have q1:=dq h5.1 h5.2 (hc1 a.aF[i] (ak h1))
         have q2:=dq h6.1 h6.2 (hc2 b.aF[i] (ak h2))
         have dy:(comb m n (a.aF.take i) (b.aF.take i)).length≤4:=by rw[kf (by simp;omega)];simp;omega
         try simp -implicitDefEqProofs only[go_sem,Z1,Z2,Z3,Z4,h1,h2]
         refine sW ?_
         refine sK ?_
         refine⟨i+1,?_,sL,ar [some 0,some 1,some 2,some 3,some 5] ?_ ?_ rfl rfl⟩
         rotate_left
         ·simp -implicitDefEqProofs only[go_sem,Z1,Z2,Z3,Z4]
          all_goals(first|done|((rw[e6 h1 h2,←eK];rfl))|(simp[aI, *];done)|(simp[aI];done)|(simp;omega)|skip)
         ·simp -implicitDefEqProofs only[go_sem,Z1,Z2,Z3,Z4]
          all_goals(first|done|((rw[e6 h1 h2,←eK];rfl))|(simp[aI, *];done)|(simp[aI];done)|(simp;omega)|skip)
         exact h1
        ·rw[ao (by omega),ao (by omega)]
         have e2:jW a m b n=⟨comb m n a.aF b.aF,m*a.bound+n*b.bound,b.strict⟩:=by simp[jW, *]
         try simp -implicitDefEqProofs only[go_sem,Z1,Z2,Z3,Z4,h1]
         refine sW ?_
         refine dH [] [4] (gN ⟨comb m n a.aF b.aF,m*a.bound+n*b.bound,b.strict⟩) rfl ?_ ?_ ?_
         ·(simp -implicitDefEqProofs only[go_sem,Z1,Z2,Z3,Z4];repeat'(first|exact iH.nil|apply iH.cons|exact Vw.same (by first|rfl|simp -implicitDefEqProofs only[go_sem,Z1,Z2,Z3,Z4])|exact Vw.acc rfl rfl|exact Vw.fk rfl rfl (by simp -implicitDefEqProofs only[go_sem,Z1,Z2,Z3,Z4])|exact Vw.nil|apply Vw.agg|apply Vw.fn|refine Vw.box rfl rfl ?_))
         all_goals simp -implicitDefEqProofs only[go_sem,Z1,Z2,Z3,Z4]
         refine sW ?_
         rw[pR g1 g2 g3 g4,jO,e2]
         cases h7:eu ⟨comb m n a.aF b.aF,m*a.bound+n*b.bound,b.strict⟩
         ·try simp -implicitDefEqProofs only[go_sem,Z1,Z2,Z3,Z4]
          refine sW ?_
          refine an ?_
          simp -implicitDefEqProofs only[go_sem,Z1,Z2,Z3,Z4]
          all_goals(first|done|(simp;done)|(simp;omega)|skip)
         ·try simp -implicitDefEqProofs only[go_sem,Z1,Z2,Z3,Z4]
          refine sW ?_
          refine an ?_
          simp -implicitDefEqProofs only[go_sem,Z1,Z2,Z3,Z4]
          all_goals(first|done|(simp;done)|(simp;omega)|skip)
      ·try simp -implicitDefEqProofs only[go_sem,Z1,Z2,Z3,Z4,t1,t3]
       refine sW ?_
       refine sK ?_
       refine aL hm (fun(i:Nat)=> i≤a.aF.length) (fun(i:Nat)=> ⟨dx 87 .any [(1,iv m),(3,iv n),(4,.ptr 0 0),(6,.ptr 1 0),(8,.ptr 2 0),(10,.ptr 3 0),(57,iv a.aF.length),(58,iv i)],[some (.box (cE (eL a))),some (.box (cE (eL b))),some (.box (cE (eL m8))),some (.box [.acc 4,.d (.val (.int .i64 (m*a.bound+n*b.bound))),.d (.val (.bool false))]),some (.acc 3 (bF (comb m n (a.aF.take i) (b.aF.take i))))]⟩) (fun(i:Nat)=> a.aF.length-i) (0) ?_ (ar [some 0,some 1,some 2,some 3,none] ?_ ?_ rfl rfl) ?_
       rotate_left
       ·simp -implicitDefEqProofs only[go_sem,Z1,Z2,Z3,Z4]
        all_goals(first|done|(simp[comb, *])|(simp[aI, *];done)|(simp[aI];done)|(simp;omega)|skip)
       ·simp -implicitDefEqProofs only[go_sem,Z1,Z2,Z3,Z4]
        all_goals(first|done|(simp[comb, *])|(simp[aI, *];done)|(simp[aI];done)|(simp;omega)|skip)
       rotate_left
       ·omega
       ·rintro i hi
        rcases aa (i<a.aF.length) with h1|h1
        ·have h2:i<b.aF.length:=by omega
         have q1:=dq h5.1 h5.2 (hc1 a.aF[i] (ak h1))
         have q2:=dq h6.1 h6.2 (hc2 b.aF[i] (ak h2))
         have dy:(comb m n (a.aF.take i) (b.aF.take i)).length≤4:=by rw[kf (by simp;omega)];simp;omega
         try simp -implicitDefEqProofs only[go_sem,Z1,Z2,Z3,Z4,h1,h2]
         refine sW ?_
         refine sK ?_
         refine⟨i+1,?_,sL,ar [some 0,some 1,some 2,some 3,some 5] ?_ ?_ rfl rfl⟩
         rotate_left
         ·simp -implicitDefEqProofs only[go_sem,Z1,Z2,Z3,Z4]
          all_goals(first|done|((rw[e6 h1 h2,←eK];rfl))|(simp[aI, *];done)|(simp[aI];done)|(simp;omega)|skip)
         ·simp -implicitDefEqProofs only[go_sem,Z1,Z2,Z3,Z4]
          all_goals(first|done|((rw[e6 h1 h2,←eK];rfl))|(simp[aI, *];done)|(simp[aI];done)|(simp;omega)|skip)
         exact h1
        ·rw[ao (by omega),ao (by omega)]
         have e2:jW a m b n=⟨comb m n a.aF b.aF,m*a.bound+n*b.bound,false⟩:=by simp[jW, *]
         try simp -implicitDefEqProofs only[go_sem,Z1,Z2,Z3,Z4,h1]
         refine sW ?_
         refine dH [] [4] (gN ⟨comb m n a.aF b.aF,m*a.bound+n*b.bound,false⟩) rfl ?_ ?_ ?_
         ·(simp -implicitDefEqProofs only[go_sem,Z1,Z2,Z3,Z4];repeat'(first|exact iH.nil|apply iH.cons|exact Vw.same (by first|rfl|simp -implicitDefEqProofs only[go_sem,Z1,Z2,Z3,Z4])|exact Vw.acc rfl rfl|exact Vw.fk rfl rfl (by simp -implicitDefEqProofs only[go_sem,Z1,Z2,Z3,Z4])|exact Vw.nil|apply Vw.agg|apply Vw.fn|refine Vw.box rfl rfl ?_))
         all_goals simp -implicitDefEqProofs only[go_sem,Z1,Z2,Z3,Z4]
         refine sW ?_
         rw[pR g1 g2 g3 g4,jO,e2]
         cases h7:eu ⟨comb m n a.aF b.aF,m*a.bound+n*b.bound,false⟩
         ·try simp -implicitDefEqProofs only[go_sem,Z1,Z2,Z3,Z4]
          refine sW ?_
          refine an ?_
          simp -implicitDefEqProofs only[go_sem,Z1,Z2,Z3,Z4]
          all_goals(first|done|(simp;done)|(simp;omega)|skip)
         ·try simp -implicitDefEqProofs only[go_sem,Z1,Z2,Z3,Z4]
          refine sW ?_
          refine an ?_
          simp -implicitDefEqProofs only[go_sem,Z1,Z2,Z3,Z4]
          all_goals(first|done|(simp;done)|(simp;omega)|skip)
theorem Ix(ls:List iV)(ts:List Int):C E.P 154 [lv (di ls),lv (bF ts)] [] (bz (.gV [av (eL (jX ls ts).1),bv (jX ls ts).2]) []):=by
 have cq:=jT
 refine lQ (nt:=47) (rs:=[.cell 4 162,.tmp 5]) hm Tryz.func154 rfl rfl rfl rfl rfl (fun hl he=>?_)
 simp -implicitDefEqProofs only[go_sem,Z1,Z2,Z3,Z4] at hl⊢
 refine bw [] (nL ls) ?_ ?_<;>simp -implicitDefEqProofs only[go_sem,Z1,Z2,Z3,Z4]
 refine sW ?_
 cases g1:fP ls
 ·try simp -implicitDefEqProofs only[go_sem,Z1,Z2,Z3,Z4]
  refine sW ?_
  refine an ?_
  simp -implicitDefEqProofs only[go_sem,Z1,Z2,Z3,Z4]
  all_goals(first|done|(simp[jX,g1];done)|(simp[jX,g1];omega)|skip)
 ·rcases aa (ts.length=ls.length) with g2|g2
  ·have e:jX ls ts=wN ls ts ⟨[0,0,0,0],0,false⟩:=by simp[jX,g1,g2]
   try simp -implicitDefEqProofs only[go_sem,Z1,Z2,Z3,Z4,g2]
   refine sW ?_
   refine sK ?_
   refine cM hm (fun(i:Nat) (out:iV)=> i≤ls.length∧jX ls ts=wN (ls.drop i) (ts.drop i) out) (fun(i:Nat) (out:iV)=> ⟨dx 47 .any [(1,lv (bF ts)),(4,.ptr 0 0),(6,.ptr 1 0),(24,lv (di ls)),(25,iv ls.length),(26,iv i)],[some (.box (cE (eL m8))),some (.box (cE (eL out)))]⟩) (fun(i:Nat) (out:iV)=> ls.length-i) (0) (⟨[0,0,0,0],0,false⟩) ?_ (ar [some 0,some 2] ?_ ?_ rfl rfl) ?_
   rotate_left
   ·simp -implicitDefEqProofs only[go_sem,Z1,Z2,Z3,Z4]
    all_goals(first|done|(simp[bF,aS])|(simp[aI, *];done)|(simp[aI];done)|(simp;omega)|skip)
   ·simp -implicitDefEqProofs only[go_sem,Z1,Z2,Z3,Z4]
    all_goals(first|done|(simp[bF,aS])|(simp[aI, *];done)|(simp[aI];done)|(simp;omega)|skip)
   rotate_left
   ·simp[e]
   ·rintro i out ⟨hi,hg⟩
    rcases aa (i<ls.length) with h1|h1
    ·have h2:i<ts.length:=by omega
     rw[F5 h1 h2] at hg
     try simp -implicitDefEqProofs only[go_sem,Z1,Z2,Z3,Z4,h1,h2]
     refine sW ?_
     refine bw [] (zB out 1 ls[i] ts[i]) ?_ ?_<;>simp -implicitDefEqProofs only[go_sem,Z1,Z2,Z3,Z4]
     refine sW ?_
     cases h3:(eV out 1 ls[i] ts[i]).2
     ·rw[h3] at hg
      simp only[Bool.false_eq_true,if_false] at hg
      try simp -implicitDefEqProofs only[go_sem,Z1,Z2,Z3,Z4]
      refine sW ?_
      refine an ?_
      simp -implicitDefEqProofs only[go_sem,Z1,Z2,Z3,Z4]
      all_goals(first|done|(simp[hg];done)|(simp[hg];omega)|skip)
     ·rw[h3] at hg
      simp only[if_true] at hg
      try simp -implicitDefEqProofs only[go_sem,Z1,Z2,Z3,Z4]
      refine sW ?_
      refine⟨by omega,?_⟩
      refine⟨i+1,(eV out 1 ls[i] ts[i]).1,?_,sL,ar [some 0,some 1] ?_ ?_ rfl rfl⟩
      rotate_left
      ·simp -implicitDefEqProofs only[go_sem,Z1,Z2,Z3,Z4]
       all_goals(try exact sM)
      ·simp -implicitDefEqProofs only[go_sem,Z1,Z2,Z3,Z4]
       all_goals(try exact sM)
      exact⟨by omega,hg⟩
    ·rw[ai (by omega),ai (by omega),wN] at hg
     try simp -implicitDefEqProofs only[go_sem,Z1,Z2,Z3,Z4,h1]
     refine sW ?_
     refine an ?_
     simp -implicitDefEqProofs only[go_sem,Z1,Z2,Z3,Z4]
     all_goals(first|done|(simp[hg];done)|(simp[hg];omega)|skip)
  ·have g2':¬ (ts.length:Int)=ls.length:=by omega
   try simp -implicitDefEqProofs only[go_sem,Z1,Z2,Z3,Z4,g2']
   refine sW ?_
   refine an ?_
   simp -implicitDefEqProofs only[go_sem,Z1,Z2,Z3,Z4]
   all_goals(first|done|(simp[jX,g1,g2];done)|(simp[jX,g1,g2];omega)|skip)
theorem BZ(ls:List iV)(ts:List Int):C E.P 79 [lv (di ls),lv (bF ts)] [] (bz (bv (sa ls ts)) []):=by
 have cq:=jT
 refine lQ (nt:=18) (rs:=[.tmp 4]) hm Tryz.func79 rfl rfl rfl rfl rfl (fun hl he=>?_)
 simp -implicitDefEqProofs only[go_sem,Z1,Z2,Z3,Z4] at hl⊢
 refine bw [] (Ix ls ts) ?_ ?_<;>simp -implicitDefEqProofs only[go_sem,Z1,Z2,Z3,Z4]
 refine sW ?_
 cases h:(jX ls ts).2
 ·try simp -implicitDefEqProofs only[go_sem,Z1,Z2,Z3,Z4]
  refine sW ?_
  refine an ?_
  simp -implicitDefEqProofs only[go_sem,Z1,Z2,Z3,Z4]
  all_goals(first|done|(simp[sa,h];done)|(simp[sa,h];omega)|skip)
 ·try simp -implicitDefEqProofs only[go_sem,Z1,Z2,Z3,Z4]
  refine sW ?_
  refine bw [] (y9 (jX ls ts).1) ?_ ?_<;>simp -implicitDefEqProofs only[go_sem,Z1,Z2,Z3,Z4]
  refine sW ?_
  refine an ?_
  simp -implicitDefEqProofs only[go_sem,Z1,Z2,Z3,Z4]
  all_goals(first|done|(simp[sa,h];done)|(simp[sa,h];omega)|skip)
end Go.Proofs.YtabembjmeobhoaaGreat
