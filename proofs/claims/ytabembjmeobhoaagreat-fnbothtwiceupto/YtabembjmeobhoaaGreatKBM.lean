/-
  The walks of constraints and their certificates. A step towards the exact laws.
-/
import Derived.Test.YtabembjmeobhoaaGreatKBH
set_option linter.unusedVariables false
set_option linter.unusedSimpArgs false
open And renaming intro→ar
open Bool renaming and_assoc→oV
open Classical renaming em→aa
open List renaming getElem?_eq_getElem→ah,getElem_mem→ak,drop_of_length_le→al,take_of_length_le→ao,replicate→aW,take_add_one→bC,map_append→cP,all_eq_not_any_not→fq
namespace Go.Proofs.YtabembjmeobhoaaGreat
open Go.Eng Go.Mod
open Int renaming reduceEq→Z1,reduceLT→Z2,reduceLE→Z3,reduceToNat→Z4
set_option maxRecDepth 100000
set_option maxHeartbeats 3200000
theorem yN(n:Int):C E.P 231 [iv n] [] (bM (bv (na n)) []):=by
 have cI:=jQ
 refine lJ (nt:=5) (rs:=[.tmp 2]) hm Tryz.func231 rfl rfl rfl rfl rfl (fun hl he=>?_)
 simp -implicitDefEqProofs only[go_sem,Z1,Z2,Z3,Z4] at hl⊢
 refine bQ [] (fU n (-1000000) 1000000) ?_ ?_<;>simp -implicitDefEqProofs only[go_sem,Z1,Z2,Z3,Z4]
 try(with_reducible refine aY (by kernel_rfl) ?_)
 refine an ?_
 simp -implicitDefEqProofs only[go_sem,Z1,Z2,Z3,Z4]
 all_goals(first|done|(simp[na];done)|(simp[na];omega)|skip)
theorem gH(l:ib):C E.P 171 [av (eF l)] [] (bM (bv (dF l)) []):=by
 have cI:=jQ
 refine lJ (nt:=25) (rs:=[.tmp 2]) hm Tryz.func171 rfl rfl rfl rfl rfl (fun hl he=>?_)
 simp -implicitDefEqProofs only[go_sem,Z1,Z2,Z3,Z4] at hl⊢
 refine aO hm (fun(i:Nat)=> i≤l.aG.length∧l.aG.all na=(l.aG.drop i).all na) (fun(i:Nat)=> ⟨dB 25 .any [(1,.ptr 0 0),(6,lv (bG l.aG)),(7,iv l.aG.length),(8,iv i)],[some (.box (cF (eF l)))]⟩) (fun(i:Nat)=> l.aG.length-i) (0) ?_ (aw [some 0] ?_ ?_ rfl rfl) ?_
 rotate_left
 ·simp -implicitDefEqProofs only[go_sem,Z1,Z2,Z3,Z4]
  all_goals(first|done|(simp[aq, *];done)|(simp[aq];done)|(simp;omega)|skip)
 ·simp -implicitDefEqProofs only[go_sem,Z1,Z2,Z3,Z4]
  all_goals(first|done|(simp[aq, *];done)|(simp[aq];done)|(simp;omega)|skip)
 rotate_left
 ·simp
 ·rintro i ⟨hi,hg⟩
  rcases aa (i<l.aG.length) with h1|h1
  ·rw[List.drop_eq_getElem_cons h1,List.all_cons] at hg
   try simp -implicitDefEqProofs only[go_sem,Z1,Z2,Z3,Z4,h1]
   try(with_reducible refine aY (by kernel_rfl) ?_)
   refine bQ [] (yN l.aG[i]) ?_ ?_<;>simp -implicitDefEqProofs only[go_sem,Z1,Z2,Z3,Z4]
   try(with_reducible refine aY (by kernel_rfl) ?_)
   cases h2:na l.aG[i]
   ·rw[h2,Bool.false_and] at hg
    have e:dF l=false:=by simp[dF,hg]
    try simp -implicitDefEqProofs only[go_sem,Z1,Z2,Z3,Z4]
    try(with_reducible refine aY (by kernel_rfl) ?_)
    refine an ?_
    simp -implicitDefEqProofs only[go_sem,Z1,Z2,Z3,Z4]
    all_goals(first|done|(simp[e];done)|(simp[e];omega)|skip)
   ·rw[h2,Bool.true_and] at hg
    try simp -implicitDefEqProofs only[go_sem,Z1,Z2,Z3,Z4]
    try(with_reducible refine aY (by kernel_rfl) ?_)
    refine⟨by omega,?_⟩
    refine⟨i+1,?_,sL,aw [some 0] ?_ ?_ rfl rfl⟩
    rotate_left
    ·simp -implicitDefEqProofs only[go_sem,Z1,Z2,Z3,Z4]
     all_goals(first|done|(simp[aq, *];done)|(simp[aq];done)|(simp;omega)|skip)
    ·simp -implicitDefEqProofs only[go_sem,Z1,Z2,Z3,Z4]
     all_goals(first|done|(simp[aq, *];done)|(simp[aq];done)|(simp;omega)|skip)
    exact⟨by omega,hg⟩
  ·rw[al (by omega),List.all_nil] at hg
   rcases aa ((l.aG.length:Int)=4) with h3|h3
   ·have h3':l.aG.length=4:=by omega
    have k3:=eq_true h3
    try simp -implicitDefEqProofs only[go_sem,Z1,Z2,Z3,Z4,h1,k3]
    try(with_reducible refine aY (by kernel_rfl) ?_)
    refine bQ [] (yN l.bound) ?_ ?_<;>simp -implicitDefEqProofs only[go_sem,Z1,Z2,Z3,Z4]
    try(with_reducible refine aY (by kernel_rfl) ?_)
    refine an ?_
    simp -implicitDefEqProofs only[go_sem,Z1,Z2,Z3,Z4]
    all_goals(first|done|(simp[dF,hg,h3'];done)|(simp[dF,hg,h3'];omega)|skip)
   ·have h3':¬l.aG.length=4:=by omega
    try simp -implicitDefEqProofs only[go_sem,Z1,Z2,Z3,Z4,h1,h3]
    try(with_reducible refine aY (by kernel_rfl) ?_)
    refine an ?_
    simp -implicitDefEqProofs only[go_sem,Z1,Z2,Z3,Z4]
    all_goals(first|done|(simp[dF,hg,h3'];done)|(simp[dF,hg,h3'];omega)|skip)
theorem HP(l:ib):C E.P 109 [av (eF l)] [] (bM (av (eF (pj l))) []):=by
 have cI:=jQ
 refine lJ (nt:=33) (rs:=[.cell 2 162]) hm Tryz.func109 rfl rfl rfl rfl rfl (fun hl he=>?_)
 simp -implicitDefEqProofs only[go_sem,Z1,Z2,Z3,Z4] at hl⊢
 refine bQ [] (gH l) ?_ ?_<;>simp -implicitDefEqProofs only[go_sem,Z1,Z2,Z3,Z4]
 try(with_reducible refine aY (by kernel_rfl) ?_)
 cases h:dF l
 ·try simp -implicitDefEqProofs only[go_sem,Z1,Z2,Z3,Z4]
  try(with_reducible refine aY (by kernel_rfl) ?_)
  refine an ?_
  simp -implicitDefEqProofs only[go_sem,Z1,Z2,Z3,Z4]
  all_goals(first|done|(simp[pj,h];done)|(simp[pj,h];omega)|skip)
 ·obtain⟨h4,hc,hb⟩:=gq.1 h
  have e:pj l=⟨l.aG.map fun c=>-c,-l.bound,!l.strict⟩:=by simp[pj,h]
  try simp -implicitDefEqProofs only[go_sem,Z1,Z2,Z3,Z4]
  try(with_reducible refine aY (by kernel_rfl) ?_)
  refine⟨by omega,?_⟩
  refine aO hm (fun(i:Nat)=> i≤l.aG.length) (fun(i:Nat)=> ⟨dB 33 .any [(2,.ptr 0 0),(3,.ptr 1 0),(18,lv (bG l.aG)),(19,iv l.aG.length),(20,iv i)],[some (.box (cF (eF mC))),some (.box [.acc 2,.d (.val (.int .i64 (-l.bound))),.d (.val (.bool (!l.strict)))]),some (.acc 3 (bG ((l.aG.take i).map fun c=>-c)))]⟩) (fun(i:Nat)=> l.aG.length-i) (0) ?_ (aw [some 1,some 2,none] ?_ ?_ rfl rfl) ?_
  rotate_left
  ·simp -implicitDefEqProofs only[go_sem,Z1,Z2,Z3,Z4]
   all_goals(first|done|(simp[aq, *];done)|(simp[aq];done)|(simp;omega)|skip)
  ·simp -implicitDefEqProofs only[go_sem,Z1,Z2,Z3,Z4]
   all_goals(first|done|(simp[aq, *];done)|(simp[aq];done)|(simp;omega)|skip)
  rotate_left
  ·omega
  ·rintro i hi
   rcases aa (i<l.aG.length) with h1|h1
   ·have hn:=hc l.aG[i] (ak h1)
    try simp -implicitDefEqProofs only[go_sem,Z1,Z2,Z3,Z4,h1]
    try(with_reducible refine aY (by kernel_rfl) ?_)
    refine⟨by omega,by omega,by omega,?_⟩
    refine⟨i+1,?_,sL,aw [some 0,some 1,some 3] ?_ ?_ rfl rfl⟩
    rotate_left
    ·simp -implicitDefEqProofs only[go_sem,Z1,Z2,Z3,Z4]
     all_goals(first|done|((rw[bC,ah h1,cP,←eC];rfl))|(simp[aq, *];done)|(simp[aq];done)|(simp;omega)|skip)
    ·simp -implicitDefEqProofs only[go_sem,Z1,Z2,Z3,Z4]
     all_goals(first|done|((rw[bC,ah h1,cP,←eC];rfl))|(simp[aq, *];done)|(simp[aq];done)|(simp;omega)|skip)
    exact h1
   ·try simp -implicitDefEqProofs only[go_sem,Z1,Z2,Z3,Z4,h1]
    try(with_reducible refine aY (by kernel_rfl) ?_)
    refine an ?_
    simp -implicitDefEqProofs only[go_sem,Z1,Z2,Z3,Z4]
    rw[ao (by omega),e]
    simp[eF]
theorem DT(c:Int):C E.P 233 [iv c] [] (bM (bv (decide (c≠0))) []):=by
 have cI:=jQ
 refine lJ (nt:=5) (rs:=[.tmp 2]) hm Tryz.func233 rfl rfl rfl rfl rfl (fun hl he=>?_)
 simp -implicitDefEqProofs only[go_sem,Z1,Z2,Z3,Z4] at hl⊢
 refine an ?_
 simp -implicitDefEqProofs only[go_sem,Z1,Z2,Z3,Z4]
 all_goals(first|done|(simp;done)|(simp;omega)|skip)
theorem Vq(l:ib):l.aG.any (fun c=>decide (c≠0))= !flat l:=by
 simp[flat,fq]
theorem HB(l:ib):C E.P 173 [av (eF l)] [] (bM (bv (dF l&&flat l)) []):=by
 have cI:=jQ
 refine lJ (nt:=11) (rs:=[.tmp 2]) hm Tryz.func173 rfl rfl rfl rfl rfl (fun hl he=>?_)
 simp -implicitDefEqProofs only[go_sem,Z1,Z2,Z3,Z4] at hl⊢
 refine bQ [] (gH l) ?_ ?_<;>simp -implicitDefEqProofs only[go_sem,Z1,Z2,Z3,Z4]
 try(with_reducible refine aY (by kernel_rfl) ?_)
 cases h:dF l
 ·try simp -implicitDefEqProofs only[go_sem,Z1,Z2,Z3,Z4]
  try(with_reducible refine aY (by kernel_rfl) ?_)
  refine an ?_
  simp -implicitDefEqProofs only[go_sem,Z1,Z2,Z3,Z4]
  all_goals(first|done|(simp;done)|(simp;omega)|skip)
 ·try simp -implicitDefEqProofs only[go_sem,Z1,Z2,Z3,Z4]
  try(with_reducible refine aY (by kernel_rfl) ?_)
  refine bQ [] (sa 233 [] rfl (fun c=>decide (c≠0)) l.aG (fun c _=>DT c)) ?_ ?_<;>simp -implicitDefEqProofs only[go_sem,Z1,Z2,Z3,Z4]
  try(with_reducible refine aY (by kernel_rfl) ?_)
  refine an ?_
  simp -implicitDefEqProofs only[go_sem,Z1,Z2,Z3,Z4]
  rw[Vq]
  simp
theorem yz(l:ib):C E.P 103 [av (eF l)] [] (bM (bv (jJ l)) []):=by
 have cI:=jQ
 refine lJ (nt:=19) (rs:=[.tmp 2]) hm Tryz.func103 rfl rfl rfl rfl rfl (fun hl he=>?_)
 simp -implicitDefEqProofs only[go_sem,Z1,Z2,Z3,Z4] at hl⊢
 refine bQ [] (HB l) ?_ ?_<;>simp -implicitDefEqProofs only[go_sem,Z1,Z2,Z3,Z4]
 try(with_reducible refine aY (by kernel_rfl) ?_)
 cases h:dF l&&flat l
 ·have e:jJ l=false:=by
   simp only[jJ]
   rw[←oV,h]
   rfl
  try simp -implicitDefEqProofs only[go_sem,Z1,Z2,Z3,Z4]
  try(with_reducible refine aY (by kernel_rfl) ?_)
  refine an ?_
  simp -implicitDefEqProofs only[go_sem,Z1,Z2,Z3,Z4]
  all_goals(first|done|(simp[e];done)|(simp[e];omega)|skip)
 ·have e:jJ l=(decide (l.bound<0)||(decide (l.bound=0)&&l.strict)):=by
   simp only[jJ]
   rw[←oV,h]
   rfl
  rcases aa (l.bound<0) with h1|h1
  ·try simp -implicitDefEqProofs only[go_sem,Z1,Z2,Z3,Z4,h1]
   try(with_reducible refine aY (by kernel_rfl) ?_)
   refine an ?_
   simp -implicitDefEqProofs only[go_sem,Z1,Z2,Z3,Z4]
   all_goals(first|done|(simp[e,h1];done)|(simp[e,h1];omega)|skip)
  ·rcases aa (l.bound=0) with h2|h2
   ·try simp -implicitDefEqProofs only[go_sem,Z1,Z2,Z3,Z4,h1,h2]
    try(with_reducible refine aY (by kernel_rfl) ?_)
    refine an ?_
    simp -implicitDefEqProofs only[go_sem,Z1,Z2,Z3,Z4]
    all_goals(first|done|(simp[e,h1,h2];done)|(simp[e,h1,h2];omega)|skip)
   ·try simp -implicitDefEqProofs only[go_sem,Z1,Z2,Z3,Z4,h1,h2]
    try(with_reducible refine aY (by kernel_rfl) ?_)
    refine an ?_
    simp -implicitDefEqProofs only[go_sem,Z1,Z2,Z3,Z4]
    all_goals(first|done|(simp[e,h1,h2];done)|(simp[e,h1,h2];omega)|skip)
theorem Aw(l:ib):C E.P 170 [av (eF l)] [] (bM (bv (!dF l)) []):=by
 have cI:=jQ
 refine lJ (nt:=6) (rs:=[.tmp 2]) hm Tryz.func170 rfl rfl rfl rfl rfl (fun hl he=>?_)
 simp -implicitDefEqProofs only[go_sem,Z1,Z2,Z3,Z4] at hl⊢
 refine bQ [] (gH l) ?_ ?_<;>simp -implicitDefEqProofs only[go_sem,Z1,Z2,Z3,Z4]
 try(with_reducible refine aY (by kernel_rfl) ?_)
 refine an ?_
 simp -implicitDefEqProofs only[go_sem,Z1,Z2,Z3,Z4]
 all_goals(first|done|(simp;done)|(simp;omega)|skip)
theorem nG(ls:List ib):C E.P 100 [lv (db ls)] [] (bM (bv (fG ls)) []):=by
 have cI:=jQ
 refine lJ (nt:=11) (rs:=[.tmp 2]) hm Tryz.func100 rfl rfl rfl rfl rfl (fun hl he=>?_)
 simp -implicitDefEqProofs only[go_sem,Z1,Z2,Z3,Z4] at hl⊢
 rcases aa ((ls.length:Int)≤20) with h|h
 ·have h':ls.length≤20:=by omega
  try simp -implicitDefEqProofs only[go_sem,Z1,Z2,Z3,Z4,h]
  try(with_reducible refine aY (by kernel_rfl) ?_)
  refine bQ [] (y5 170 [] rfl (fun l=>!dF l) ls (fun l _=>Aw l)) ?_ ?_<;>simp -implicitDefEqProofs only[go_sem,Z1,Z2,Z3,Z4]
  try(with_reducible refine aY (by kernel_rfl) ?_)
  refine an ?_
  simp -implicitDefEqProofs only[go_sem,Z1,Z2,Z3,Z4]
  all_goals(first|done|(simp[fG,h',fq];done)|(simp[fG,h',fq];omega)|skip)
 ·have h':¬ls.length≤20:=by omega
  try simp -implicitDefEqProofs only[go_sem,Z1,Z2,Z3,Z4,h]
  try(with_reducible refine aY (by kernel_rfl) ?_)
  refine an ?_
  simp -implicitDefEqProofs only[go_sem,Z1,Z2,Z3,Z4]
  all_goals(first|done|(simp[fG,h'];done)|(simp[fG,h'];omega)|skip)
theorem yh(a:ib)(m:Int)(b:ib)(n:Int):C E.P 226 [av (eF a),iv m,av (eF b),iv n] [] (bM (.jd [av (eF (dL a m b n).1),bv (dL a m b n).2]) []):=by
 have cI:=jQ
 refine lJ (nt:=87) (rs:=[.cell 8 162,.tmp 9]) hm Tryz.func226 rfl rfl rfl rfl rfl (fun hl he=>?_)
 simp -implicitDefEqProofs only[go_sem,Z1,Z2,Z3,Z4] at hl⊢
 refine bQ [] (gH a) ?_ ?_<;>simp -implicitDefEqProofs only[go_sem,Z1,Z2,Z3,Z4]
 try(with_reducible refine aY (by kernel_rfl) ?_)
 cases g1:dF a
 ·try simp -implicitDefEqProofs only[go_sem,Z1,Z2,Z3,Z4]
  try(with_reducible refine aY (by kernel_rfl) ?_)
  refine an ?_
  simp -implicitDefEqProofs only[go_sem,Z1,Z2,Z3,Z4]
  all_goals(first|done|(simp[dL,g1];done)|(simp[dL,g1];omega)|skip)
 ·try simp -implicitDefEqProofs only[go_sem,Z1,Z2,Z3,Z4]
  try(with_reducible refine aY (by kernel_rfl) ?_)
  refine bQ [] (gH b) ?_ ?_<;>simp -implicitDefEqProofs only[go_sem,Z1,Z2,Z3,Z4]
  try(with_reducible refine aY (by kernel_rfl) ?_)
  cases g2:dF b
  ·try simp -implicitDefEqProofs only[go_sem,Z1,Z2,Z3,Z4]
   try(with_reducible refine aY (by kernel_rfl) ?_)
   refine an ?_
   simp -implicitDefEqProofs only[go_sem,Z1,Z2,Z3,Z4]
   all_goals(first|done|(simp[dL,g1,g2];done)|(simp[dL,g1,g2];omega)|skip)
  ·try simp -implicitDefEqProofs only[go_sem,Z1,Z2,Z3,Z4]
   try(with_reducible refine aY (by kernel_rfl) ?_)
   refine bQ [] (fU m 0 1000000) ?_ ?_<;>simp -implicitDefEqProofs only[go_sem,Z1,Z2,Z3,Z4]
   try(with_reducible refine aY (by kernel_rfl) ?_)
   cases g3:within m 0 1000000
   ·try simp -implicitDefEqProofs only[go_sem,Z1,Z2,Z3,Z4]
    try(with_reducible refine aY (by kernel_rfl) ?_)
    refine an ?_
    simp -implicitDefEqProofs only[go_sem,Z1,Z2,Z3,Z4]
    all_goals(first|done|(simp[dL,g1,g2,g3];done)|(simp[dL,g1,g2,g3];omega)|skip)
   ·try simp -implicitDefEqProofs only[go_sem,Z1,Z2,Z3,Z4]
    try(with_reducible refine aY (by kernel_rfl) ?_)
    refine bQ [] (fU n 0 1000000) ?_ ?_<;>simp -implicitDefEqProofs only[go_sem,Z1,Z2,Z3,Z4]
    try(with_reducible refine aY (by kernel_rfl) ?_)
    cases g4:within n 0 1000000
    ·try simp -implicitDefEqProofs only[go_sem,Z1,Z2,Z3,Z4]
     try(with_reducible refine aY (by kernel_rfl) ?_)
     refine an ?_
     simp -implicitDefEqProofs only[go_sem,Z1,Z2,Z3,Z4]
     all_goals(first|done|(simp[dL,g1,g2,g3,g4];done)|(simp[dL,g1,g2,g3,g4];omega)|skip)
    ·obtain⟨hn1,hc1,hb1⟩:=gq.1 g1
     obtain⟨hn2,hc2,hb2⟩:=gq.1 g2
     have h5:=dx.1 g3
     have h6:=dx.1 g4
     have p1:=dj h5.1 h5.2 hb1
     have p2:=dj h6.1 h6.2 hb2
     rcases aa (0<m) with t1|t1
     ·cases t2:a.strict
      ·rcases aa (0<n) with t3|t3
       ·try simp -implicitDefEqProofs only[go_sem,Z1,Z2,Z3,Z4,t1,t3,t2]
        try(with_reducible refine aY (by kernel_rfl) ?_)
        repeat(first|with_reducible refine aY (by kernel_rfl) ?_|(with_reducible apply ar;case left=>first|omega|assumption|exact⟨jT _,by omega⟩|exact⟨fP _,by omega⟩|exact⟨gv _,by omega⟩|exact⟨gZ _,by omega⟩|exact⟨je _,by omega⟩|rfl|(simp[*];done)|(simp;omega)|exact⟨hH _,by omega⟩|exact⟨gf _,by omega⟩|exact⟨jV _,by omega⟩|exact⟨fZ _,by omega⟩|exact⟨jc _,by omega⟩))
        refine aO hm (fun(i:Nat)=> i≤a.aG.length) (fun(i:Nat)=> ⟨dB 87 .any [(1,iv m),(3,iv n),(4,.ptr 0 0),(6,.ptr 1 0),(8,.ptr 2 0),(10,.ptr 3 0),(57,iv a.aG.length),(58,iv i)],[some (.box (cF (eF a))),some (.box (cF (eF b))),some (.box (cF (eF mC))),some (.box [.acc 4,.d (.val (.int .i64 (m*a.bound+n*b.bound))),.d (.val (.bool b.strict))]),some (.acc 3 (bG (comb m n (a.aG.take i) (b.aG.take i))))]⟩) (fun(i:Nat)=> a.aG.length-i) (0) ?_ (aw [some 0,some 1,some 2,some 3,none] ?_ ?_ rfl rfl) ?_
        rotate_left
        ·simp -implicitDefEqProofs only[go_sem,Z1,Z2,Z3,Z4]
         all_goals(first|done|(simp[comb, *])|(simp[aq, *];done)|(simp[aq];done)|(simp;omega)|skip)
        ·simp -implicitDefEqProofs only[go_sem,Z1,Z2,Z3,Z4]
         all_goals(first|done|(simp[comb, *])|(simp[aq, *];done)|(simp[aq];done)|(simp;omega)|skip)
        rotate_left
        ·omega
        ·rintro i hi
         rcases aa (i<a.aG.length) with h1|h1
         ·have h2:i<b.aG.length:=by omega
          have q1:=dj h5.1 h5.2 (hc1 a.aG[i] (ak h1))
          have q2:=dj h6.1 h6.2 (hc2 b.aG[i] (ak h2))
          have dy:(comb m n (a.aG.take i) (b.aG.take i)).length≤4:=by rw[j5 (by simp;omega)];simp;omega
          try simp -implicitDefEqProofs only[go_sem,Z1,Z2,Z3,Z4,h1,h2]
          try(with_reducible refine aY (by kernel_rfl) ?_)
          repeat(first|with_reducible refine aY (by kernel_rfl) ?_|(with_reducible apply ar;case left=>first|omega|assumption|exact⟨jT _,by omega⟩|exact⟨fP _,by omega⟩|exact⟨gv _,by omega⟩|exact⟨gZ _,by omega⟩|exact⟨je _,by omega⟩|rfl|(simp[*];done)|(simp;omega)|exact⟨hH _,by omega⟩|exact⟨gf _,by omega⟩|exact⟨jV _,by omega⟩|exact⟨fZ _,by omega⟩|exact⟨jc _,by omega⟩))
          refine⟨i+1,?_,sL,aw [some 0,some 1,some 2,some 3,some 5] ?_ ?_ rfl rfl⟩
          rotate_left
          ·simp -implicitDefEqProofs only[go_sem,Z1,Z2,Z3,Z4]
           all_goals(first|done|((rw[eW h1 h2,←eC];rfl))|(simp[aq, *];done)|(simp[aq];done)|(simp;omega)|skip)
          ·simp -implicitDefEqProofs only[go_sem,Z1,Z2,Z3,Z4]
           all_goals(first|done|((rw[eW h1 h2,←eC];rfl))|(simp[aq, *];done)|(simp[aq];done)|(simp;omega)|skip)
          exact h1
         ·rw[ao (by omega),ao (by omega)]
          have e2:jn a m b n=⟨comb m n a.aG b.aG,m*a.bound+n*b.bound,b.strict⟩:=by simp[jn, *]
          try simp -implicitDefEqProofs only[go_sem,Z1,Z2,Z3,Z4,h1]
          try(with_reducible refine aY (by kernel_rfl) ?_)
          refine dN [] [4] (gH ⟨comb m n a.aG b.aG,m*a.bound+n*b.bound,b.strict⟩) rfl ?_ ?_ ?_
          ·(simp -implicitDefEqProofs only[go_sem,Z1,Z2,Z3,Z4];repeat'(first|exact ik.nil|apply ik.cons|exact Vw.same (by first|rfl|simp -implicitDefEqProofs only[go_sem,Z1,Z2,Z3,Z4])|exact Vw.acc rfl rfl|exact Vw.fg rfl rfl (by simp -implicitDefEqProofs only[go_sem,Z1,Z2,Z3,Z4])|exact Vw.nil|apply Vw.agg|apply Vw.fn|refine Vw.box rfl rfl ?_))
          all_goals simp -implicitDefEqProofs only[go_sem,Z1,Z2,Z3,Z4]
          try(with_reducible refine aY (by kernel_rfl) ?_)
          rw[pL g1 g2 g3 g4,jm,e2]
          cases h7:dF ⟨comb m n a.aG b.aG,m*a.bound+n*b.bound,b.strict⟩
          ·try simp -implicitDefEqProofs only[go_sem,Z1,Z2,Z3,Z4]
           try(with_reducible refine aY (by kernel_rfl) ?_)
           refine an ?_
           simp -implicitDefEqProofs only[go_sem,Z1,Z2,Z3,Z4]
           all_goals(first|done|(simp;done)|(simp;omega)|skip)
          ·try simp -implicitDefEqProofs only[go_sem,Z1,Z2,Z3,Z4]
           try(with_reducible refine aY (by kernel_rfl) ?_)
           refine an ?_
           simp -implicitDefEqProofs only[go_sem,Z1,Z2,Z3,Z4]
           all_goals(first|done|(simp;done)|(simp;omega)|skip)
       ·try simp -implicitDefEqProofs only[go_sem,Z1,Z2,Z3,Z4,t1,t3,t2]
        try(with_reducible refine aY (by kernel_rfl) ?_)
        repeat(first|with_reducible refine aY (by kernel_rfl) ?_|(with_reducible apply ar;case left=>first|omega|assumption|exact⟨jT _,by omega⟩|exact⟨fP _,by omega⟩|exact⟨gv _,by omega⟩|exact⟨gZ _,by omega⟩|exact⟨je _,by omega⟩|rfl|(simp[*];done)|(simp;omega)|exact⟨hH _,by omega⟩|exact⟨gf _,by omega⟩|exact⟨jV _,by omega⟩|exact⟨fZ _,by omega⟩|exact⟨jc _,by omega⟩))
        refine aO hm (fun(i:Nat)=> i≤a.aG.length) (fun(i:Nat)=> ⟨dB 87 .any [(1,iv m),(3,iv n),(4,.ptr 0 0),(6,.ptr 1 0),(8,.ptr 2 0),(10,.ptr 3 0),(57,iv a.aG.length),(58,iv i)],[some (.box (cF (eF a))),some (.box (cF (eF b))),some (.box (cF (eF mC))),some (.box [.acc 4,.d (.val (.int .i64 (m*a.bound+n*b.bound))),.d (.val (.bool false))]),some (.acc 3 (bG (comb m n (a.aG.take i) (b.aG.take i))))]⟩) (fun(i:Nat)=> a.aG.length-i) (0) ?_ (aw [some 0,some 1,some 2,some 3,none] ?_ ?_ rfl rfl) ?_
        rotate_left
        ·simp -implicitDefEqProofs only[go_sem,Z1,Z2,Z3,Z4]
         all_goals(first|done|(simp[comb, *])|(simp[aq, *];done)|(simp[aq];done)|(simp;omega)|skip)
        ·simp -implicitDefEqProofs only[go_sem,Z1,Z2,Z3,Z4]
         all_goals(first|done|(simp[comb, *])|(simp[aq, *];done)|(simp[aq];done)|(simp;omega)|skip)
        rotate_left
        ·omega
        ·rintro i hi
         rcases aa (i<a.aG.length) with h1|h1
         ·have h2:i<b.aG.length:=by omega
          have q1:=dj h5.1 h5.2 (hc1 a.aG[i] (ak h1))
          have q2:=dj h6.1 h6.2 (hc2 b.aG[i] (ak h2))
          have dy:(comb m n (a.aG.take i) (b.aG.take i)).length≤4:=by rw[j5 (by simp;omega)];simp;omega
          try simp -implicitDefEqProofs only[go_sem,Z1,Z2,Z3,Z4,h1,h2]
          try(with_reducible refine aY (by kernel_rfl) ?_)
          repeat(first|with_reducible refine aY (by kernel_rfl) ?_|(with_reducible apply ar;case left=>first|omega|assumption|exact⟨jT _,by omega⟩|exact⟨fP _,by omega⟩|exact⟨gv _,by omega⟩|exact⟨gZ _,by omega⟩|exact⟨je _,by omega⟩|rfl|(simp[*];done)|(simp;omega)|exact⟨hH _,by omega⟩|exact⟨gf _,by omega⟩|exact⟨jV _,by omega⟩|exact⟨fZ _,by omega⟩|exact⟨jc _,by omega⟩))
          refine⟨i+1,?_,sL,aw [some 0,some 1,some 2,some 3,some 5] ?_ ?_ rfl rfl⟩
          rotate_left
          ·simp -implicitDefEqProofs only[go_sem,Z1,Z2,Z3,Z4]
           all_goals(first|done|((rw[eW h1 h2,←eC];rfl))|(simp[aq, *];done)|(simp[aq];done)|(simp;omega)|skip)
          ·simp -implicitDefEqProofs only[go_sem,Z1,Z2,Z3,Z4]
           all_goals(first|done|((rw[eW h1 h2,←eC];rfl))|(simp[aq, *];done)|(simp[aq];done)|(simp;omega)|skip)
          exact h1
         ·rw[ao (by omega),ao (by omega)]
          have e2:jn a m b n=⟨comb m n a.aG b.aG,m*a.bound+n*b.bound,false⟩:=by simp[jn, *]
          try simp -implicitDefEqProofs only[go_sem,Z1,Z2,Z3,Z4,h1]
          try(with_reducible refine aY (by kernel_rfl) ?_)
          refine dN [] [4] (gH ⟨comb m n a.aG b.aG,m*a.bound+n*b.bound,false⟩) rfl ?_ ?_ ?_
          ·(simp -implicitDefEqProofs only[go_sem,Z1,Z2,Z3,Z4];repeat'(first|exact ik.nil|apply ik.cons|exact Vw.same (by first|rfl|simp -implicitDefEqProofs only[go_sem,Z1,Z2,Z3,Z4])|exact Vw.acc rfl rfl|exact Vw.fg rfl rfl (by simp -implicitDefEqProofs only[go_sem,Z1,Z2,Z3,Z4])|exact Vw.nil|apply Vw.agg|apply Vw.fn|refine Vw.box rfl rfl ?_))
          all_goals simp -implicitDefEqProofs only[go_sem,Z1,Z2,Z3,Z4]
          try(with_reducible refine aY (by kernel_rfl) ?_)
          rw[pL g1 g2 g3 g4,jm,e2]
          cases h7:dF ⟨comb m n a.aG b.aG,m*a.bound+n*b.bound,false⟩
          ·try simp -implicitDefEqProofs only[go_sem,Z1,Z2,Z3,Z4]
           try(with_reducible refine aY (by kernel_rfl) ?_)
           refine an ?_
           simp -implicitDefEqProofs only[go_sem,Z1,Z2,Z3,Z4]
           all_goals(first|done|(simp;done)|(simp;omega)|skip)
          ·try simp -implicitDefEqProofs only[go_sem,Z1,Z2,Z3,Z4]
           try(with_reducible refine aY (by kernel_rfl) ?_)
           refine an ?_
           simp -implicitDefEqProofs only[go_sem,Z1,Z2,Z3,Z4]
           all_goals(first|done|(simp;done)|(simp;omega)|skip)
      ·try simp -implicitDefEqProofs only[go_sem,Z1,Z2,Z3,Z4,t1,t2]
       try(with_reducible refine aY (by kernel_rfl) ?_)
       repeat(first|with_reducible refine aY (by kernel_rfl) ?_|(with_reducible apply ar;case left=>first|omega|assumption|exact⟨jT _,by omega⟩|exact⟨fP _,by omega⟩|exact⟨gv _,by omega⟩|exact⟨gZ _,by omega⟩|exact⟨je _,by omega⟩|rfl|(simp[*];done)|(simp;omega)|exact⟨hH _,by omega⟩|exact⟨gf _,by omega⟩|exact⟨jV _,by omega⟩|exact⟨fZ _,by omega⟩|exact⟨jc _,by omega⟩))
       refine aO hm (fun(i:Nat)=> i≤a.aG.length) (fun(i:Nat)=> ⟨dB 87 .any [(1,iv m),(3,iv n),(4,.ptr 0 0),(6,.ptr 1 0),(8,.ptr 2 0),(10,.ptr 3 0),(57,iv a.aG.length),(58,iv i)],[some (.box (cF (eF a))),some (.box (cF (eF b))),some (.box (cF (eF mC))),some (.box [.acc 4,.d (.val (.int .i64 (m*a.bound+n*b.bound))),.d (.val (.bool true))]),some (.acc 3 (bG (comb m n (a.aG.take i) (b.aG.take i))))]⟩) (fun(i:Nat)=> a.aG.length-i) (0) ?_ (aw [some 0,some 1,some 2,some 3,none] ?_ ?_ rfl rfl) ?_
       rotate_left
       ·simp -implicitDefEqProofs only[go_sem,Z1,Z2,Z3,Z4]
        all_goals(first|done|(simp[comb, *])|(simp[aq, *];done)|(simp[aq];done)|(simp;omega)|skip)
       ·simp -implicitDefEqProofs only[go_sem,Z1,Z2,Z3,Z4]
        all_goals(first|done|(simp[comb, *])|(simp[aq, *];done)|(simp[aq];done)|(simp;omega)|skip)
       rotate_left
       ·omega
       ·rintro i hi
        rcases aa (i<a.aG.length) with h1|h1
        ·have h2:i<b.aG.length:=by omega
         have q1:=dj h5.1 h5.2 (hc1 a.aG[i] (ak h1))
         have q2:=dj h6.1 h6.2 (hc2 b.aG[i] (ak h2))
         have dy:(comb m n (a.aG.take i) (b.aG.take i)).length≤4:=by rw[j5 (by simp;omega)];simp;omega
         try simp -implicitDefEqProofs only[go_sem,Z1,Z2,Z3,Z4,h1,h2]
         try(with_reducible refine aY (by kernel_rfl) ?_)
         repeat(first|with_reducible refine aY (by kernel_rfl) ?_|(with_reducible apply ar;case left=>first|omega|assumption|exact⟨jT _,by omega⟩|exact⟨fP _,by omega⟩|exact⟨gv _,by omega⟩|exact⟨gZ _,by omega⟩|exact⟨je _,by omega⟩|rfl|(simp[*];done)|(simp;omega)|exact⟨hH _,by omega⟩|exact⟨gf _,by omega⟩|exact⟨jV _,by omega⟩|exact⟨fZ _,by omega⟩|exact⟨jc _,by omega⟩))
         refine⟨i+1,?_,sL,aw [some 0,some 1,some 2,some 3,some 5] ?_ ?_ rfl rfl⟩
         rotate_left
         ·simp -implicitDefEqProofs only[go_sem,Z1,Z2,Z3,Z4]
          all_goals(first|done|((rw[eW h1 h2,←eC];rfl))|(simp[aq, *];done)|(simp[aq];done)|(simp;omega)|skip)
         ·simp -implicitDefEqProofs only[go_sem,Z1,Z2,Z3,Z4]
          all_goals(first|done|((rw[eW h1 h2,←eC];rfl))|(simp[aq, *];done)|(simp[aq];done)|(simp;omega)|skip)
         exact h1
        ·rw[ao (by omega),ao (by omega)]
         have e2:jn a m b n=⟨comb m n a.aG b.aG,m*a.bound+n*b.bound,true⟩:=by simp[jn, *]
         try simp -implicitDefEqProofs only[go_sem,Z1,Z2,Z3,Z4,h1]
         try(with_reducible refine aY (by kernel_rfl) ?_)
         refine dN [] [4] (gH ⟨comb m n a.aG b.aG,m*a.bound+n*b.bound,true⟩) rfl ?_ ?_ ?_
         ·(simp -implicitDefEqProofs only[go_sem,Z1,Z2,Z3,Z4];repeat'(first|exact ik.nil|apply ik.cons|exact Vw.same (by first|rfl|simp -implicitDefEqProofs only[go_sem,Z1,Z2,Z3,Z4])|exact Vw.acc rfl rfl|exact Vw.fg rfl rfl (by simp -implicitDefEqProofs only[go_sem,Z1,Z2,Z3,Z4])|exact Vw.nil|apply Vw.agg|apply Vw.fn|refine Vw.box rfl rfl ?_))
         all_goals simp -implicitDefEqProofs only[go_sem,Z1,Z2,Z3,Z4]
         try(with_reducible refine aY (by kernel_rfl) ?_)
         rw[pL g1 g2 g3 g4,jm,e2]
         cases h7:dF ⟨comb m n a.aG b.aG,m*a.bound+n*b.bound,true⟩
         ·try simp -implicitDefEqProofs only[go_sem,Z1,Z2,Z3,Z4]
          try(with_reducible refine aY (by kernel_rfl) ?_)
          refine an ?_
          simp -implicitDefEqProofs only[go_sem,Z1,Z2,Z3,Z4]
          all_goals(first|done|(simp;done)|(simp;omega)|skip)
         ·try simp -implicitDefEqProofs only[go_sem,Z1,Z2,Z3,Z4]
          try(with_reducible refine aY (by kernel_rfl) ?_)
          refine an ?_
          simp -implicitDefEqProofs only[go_sem,Z1,Z2,Z3,Z4]
          all_goals(first|done|(simp;done)|(simp;omega)|skip)
     ·rcases aa (0<n) with t3|t3
      ·try simp -implicitDefEqProofs only[go_sem,Z1,Z2,Z3,Z4,t1,t3]
       try(with_reducible refine aY (by kernel_rfl) ?_)
       repeat(first|with_reducible refine aY (by kernel_rfl) ?_|(with_reducible apply ar;case left=>first|omega|assumption|exact⟨jT _,by omega⟩|exact⟨fP _,by omega⟩|exact⟨gv _,by omega⟩|exact⟨gZ _,by omega⟩|exact⟨je _,by omega⟩|rfl|(simp[*];done)|(simp;omega)|exact⟨hH _,by omega⟩|exact⟨gf _,by omega⟩|exact⟨jV _,by omega⟩|exact⟨fZ _,by omega⟩|exact⟨jc _,by omega⟩))
       refine aO hm (fun(i:Nat)=> i≤a.aG.length) (fun(i:Nat)=> ⟨dB 87 .any [(1,iv m),(3,iv n),(4,.ptr 0 0),(6,.ptr 1 0),(8,.ptr 2 0),(10,.ptr 3 0),(57,iv a.aG.length),(58,iv i)],[some (.box (cF (eF a))),some (.box (cF (eF b))),some (.box (cF (eF mC))),some (.box [.acc 4,.d (.val (.int .i64 (m*a.bound+n*b.bound))),.d (.val (.bool b.strict))]),some (.acc 3 (bG (comb m n (a.aG.take i) (b.aG.take i))))]⟩) (fun(i:Nat)=> a.aG.length-i) (0) ?_ (aw [some 0,some 1,some 2,some 3,none] ?_ ?_ rfl rfl) ?_
       rotate_left
       ·simp -implicitDefEqProofs only[go_sem,Z1,Z2,Z3,Z4]
        all_goals(first|done|(simp[comb, *])|(simp[aq, *];done)|(simp[aq];done)|(simp;omega)|skip)
       ·simp -implicitDefEqProofs only[go_sem,Z1,Z2,Z3,Z4]
        all_goals(first|done|(simp[comb, *])|(simp[aq, *];done)|(simp[aq];done)|(simp;omega)|skip)
       rotate_left
       ·omega
       ·rintro i hi
        rcases aa (i<a.aG.length) with h1|h1
        ·have h2:i<b.aG.length:=by omega
         have q1:=dj h5.1 h5.2 (hc1 a.aG[i] (ak h1))
         have q2:=dj h6.1 h6.2 (hc2 b.aG[i] (ak h2))
         have dy:(comb m n (a.aG.take i) (b.aG.take i)).length≤4:=by rw[j5 (by simp;omega)];simp;omega
         try simp -implicitDefEqProofs only[go_sem,Z1,Z2,Z3,Z4,h1,h2]
         try(with_reducible refine aY (by kernel_rfl) ?_)
         repeat(first|with_reducible refine aY (by kernel_rfl) ?_|(with_reducible apply ar;case left=>first|omega|assumption|exact⟨jT _,by omega⟩|exact⟨fP _,by omega⟩|exact⟨gv _,by omega⟩|exact⟨gZ _,by omega⟩|exact⟨je _,by omega⟩|rfl|(simp[*];done)|(simp;omega)|exact⟨hH _,by omega⟩|exact⟨gf _,by omega⟩|exact⟨jV _,by omega⟩|exact⟨fZ _,by omega⟩|exact⟨jc _,by omega⟩))
         refine⟨i+1,?_,sL,aw [some 0,some 1,some 2,some 3,some 5] ?_ ?_ rfl rfl⟩
         rotate_left
         ·simp -implicitDefEqProofs only[go_sem,Z1,Z2,Z3,Z4]
          all_goals(first|done|((rw[eW h1 h2,←eC];rfl))|(simp[aq, *];done)|(simp[aq];done)|(simp;omega)|skip)
         ·simp -implicitDefEqProofs only[go_sem,Z1,Z2,Z3,Z4]
          all_goals(first|done|((rw[eW h1 h2,←eC];rfl))|(simp[aq, *];done)|(simp[aq];done)|(simp;omega)|skip)
         exact h1
        ·rw[ao (by omega),ao (by omega)]
         have e2:jn a m b n=⟨comb m n a.aG b.aG,m*a.bound+n*b.bound,b.strict⟩:=by simp[jn, *]
         try simp -implicitDefEqProofs only[go_sem,Z1,Z2,Z3,Z4,h1]
         try(with_reducible refine aY (by kernel_rfl) ?_)
         refine dN [] [4] (gH ⟨comb m n a.aG b.aG,m*a.bound+n*b.bound,b.strict⟩) rfl ?_ ?_ ?_
         ·(simp -implicitDefEqProofs only[go_sem,Z1,Z2,Z3,Z4];repeat'(first|exact ik.nil|apply ik.cons|exact Vw.same (by first|rfl|simp -implicitDefEqProofs only[go_sem,Z1,Z2,Z3,Z4])|exact Vw.acc rfl rfl|exact Vw.fg rfl rfl (by simp -implicitDefEqProofs only[go_sem,Z1,Z2,Z3,Z4])|exact Vw.nil|apply Vw.agg|apply Vw.fn|refine Vw.box rfl rfl ?_))
         all_goals simp -implicitDefEqProofs only[go_sem,Z1,Z2,Z3,Z4]
         try(with_reducible refine aY (by kernel_rfl) ?_)
         rw[pL g1 g2 g3 g4,jm,e2]
         cases h7:dF ⟨comb m n a.aG b.aG,m*a.bound+n*b.bound,b.strict⟩
         ·try simp -implicitDefEqProofs only[go_sem,Z1,Z2,Z3,Z4]
          try(with_reducible refine aY (by kernel_rfl) ?_)
          refine an ?_
          simp -implicitDefEqProofs only[go_sem,Z1,Z2,Z3,Z4]
          all_goals(first|done|(simp;done)|(simp;omega)|skip)
         ·try simp -implicitDefEqProofs only[go_sem,Z1,Z2,Z3,Z4]
          try(with_reducible refine aY (by kernel_rfl) ?_)
          refine an ?_
          simp -implicitDefEqProofs only[go_sem,Z1,Z2,Z3,Z4]
          all_goals(first|done|(simp;done)|(simp;omega)|skip)
      ·try simp -implicitDefEqProofs only[go_sem,Z1,Z2,Z3,Z4,t1,t3]
       try(with_reducible refine aY (by kernel_rfl) ?_)
       repeat(first|with_reducible refine aY (by kernel_rfl) ?_|(with_reducible apply ar;case left=>first|omega|assumption|exact⟨jT _,by omega⟩|exact⟨fP _,by omega⟩|exact⟨gv _,by omega⟩|exact⟨gZ _,by omega⟩|exact⟨je _,by omega⟩|rfl|(simp[*];done)|(simp;omega)|exact⟨hH _,by omega⟩|exact⟨gf _,by omega⟩|exact⟨jV _,by omega⟩|exact⟨fZ _,by omega⟩|exact⟨jc _,by omega⟩))
       refine aO hm (fun(i:Nat)=> i≤a.aG.length) (fun(i:Nat)=> ⟨dB 87 .any [(1,iv m),(3,iv n),(4,.ptr 0 0),(6,.ptr 1 0),(8,.ptr 2 0),(10,.ptr 3 0),(57,iv a.aG.length),(58,iv i)],[some (.box (cF (eF a))),some (.box (cF (eF b))),some (.box (cF (eF mC))),some (.box [.acc 4,.d (.val (.int .i64 (m*a.bound+n*b.bound))),.d (.val (.bool false))]),some (.acc 3 (bG (comb m n (a.aG.take i) (b.aG.take i))))]⟩) (fun(i:Nat)=> a.aG.length-i) (0) ?_ (aw [some 0,some 1,some 2,some 3,none] ?_ ?_ rfl rfl) ?_
       rotate_left
       ·simp -implicitDefEqProofs only[go_sem,Z1,Z2,Z3,Z4]
        all_goals(first|done|(simp[comb, *])|(simp[aq, *];done)|(simp[aq];done)|(simp;omega)|skip)
       ·simp -implicitDefEqProofs only[go_sem,Z1,Z2,Z3,Z4]
        all_goals(first|done|(simp[comb, *])|(simp[aq, *];done)|(simp[aq];done)|(simp;omega)|skip)
       rotate_left
       ·omega
       ·rintro i hi
        rcases aa (i<a.aG.length) with h1|h1
        ·have h2:i<b.aG.length:=by omega
         have q1:=dj h5.1 h5.2 (hc1 a.aG[i] (ak h1))
         have q2:=dj h6.1 h6.2 (hc2 b.aG[i] (ak h2))
         have dy:(comb m n (a.aG.take i) (b.aG.take i)).length≤4:=by rw[j5 (by simp;omega)];simp;omega
         try simp -implicitDefEqProofs only[go_sem,Z1,Z2,Z3,Z4,h1,h2]
         try(with_reducible refine aY (by kernel_rfl) ?_)
         repeat(first|with_reducible refine aY (by kernel_rfl) ?_|(with_reducible apply ar;case left=>first|omega|assumption|exact⟨jT _,by omega⟩|exact⟨fP _,by omega⟩|exact⟨gv _,by omega⟩|exact⟨gZ _,by omega⟩|exact⟨je _,by omega⟩|rfl|(simp[*];done)|(simp;omega)|exact⟨hH _,by omega⟩|exact⟨gf _,by omega⟩|exact⟨jV _,by omega⟩|exact⟨fZ _,by omega⟩|exact⟨jc _,by omega⟩))
         refine⟨i+1,?_,sL,aw [some 0,some 1,some 2,some 3,some 5] ?_ ?_ rfl rfl⟩
         rotate_left
         ·simp -implicitDefEqProofs only[go_sem,Z1,Z2,Z3,Z4]
          all_goals(first|done|((rw[eW h1 h2,←eC];rfl))|(simp[aq, *];done)|(simp[aq];done)|(simp;omega)|skip)
         ·simp -implicitDefEqProofs only[go_sem,Z1,Z2,Z3,Z4]
          all_goals(first|done|((rw[eW h1 h2,←eC];rfl))|(simp[aq, *];done)|(simp[aq];done)|(simp;omega)|skip)
         exact h1
        ·rw[ao (by omega),ao (by omega)]
         have e2:jn a m b n=⟨comb m n a.aG b.aG,m*a.bound+n*b.bound,false⟩:=by simp[jn, *]
         try simp -implicitDefEqProofs only[go_sem,Z1,Z2,Z3,Z4,h1]
         try(with_reducible refine aY (by kernel_rfl) ?_)
         refine dN [] [4] (gH ⟨comb m n a.aG b.aG,m*a.bound+n*b.bound,false⟩) rfl ?_ ?_ ?_
         ·(simp -implicitDefEqProofs only[go_sem,Z1,Z2,Z3,Z4];repeat'(first|exact ik.nil|apply ik.cons|exact Vw.same (by first|rfl|simp -implicitDefEqProofs only[go_sem,Z1,Z2,Z3,Z4])|exact Vw.acc rfl rfl|exact Vw.fg rfl rfl (by simp -implicitDefEqProofs only[go_sem,Z1,Z2,Z3,Z4])|exact Vw.nil|apply Vw.agg|apply Vw.fn|refine Vw.box rfl rfl ?_))
         all_goals simp -implicitDefEqProofs only[go_sem,Z1,Z2,Z3,Z4]
         try(with_reducible refine aY (by kernel_rfl) ?_)
         rw[pL g1 g2 g3 g4,jm,e2]
         cases h7:dF ⟨comb m n a.aG b.aG,m*a.bound+n*b.bound,false⟩
         ·try simp -implicitDefEqProofs only[go_sem,Z1,Z2,Z3,Z4]
          try(with_reducible refine aY (by kernel_rfl) ?_)
          refine an ?_
          simp -implicitDefEqProofs only[go_sem,Z1,Z2,Z3,Z4]
          all_goals(first|done|(simp;done)|(simp;omega)|skip)
         ·try simp -implicitDefEqProofs only[go_sem,Z1,Z2,Z3,Z4]
          try(with_reducible refine aY (by kernel_rfl) ?_)
          refine an ?_
          simp -implicitDefEqProofs only[go_sem,Z1,Z2,Z3,Z4]
          all_goals(first|done|(simp;done)|(simp;omega)|skip)
theorem Hw(ls:List ib)(ts:List Int):C E.P 154 [lv (db ls),lv (bG ts)] [] (bM (.jd [av (eF (jE ls ts).1),bv (jE ls ts).2]) []):=by
 have cI:=jQ
 refine lJ (nt:=47) (rs:=[.cell 4 162,.tmp 5]) hm Tryz.func154 rfl rfl rfl rfl rfl (fun hl he=>?_)
 simp -implicitDefEqProofs only[go_sem,Z1,Z2,Z3,Z4] at hl⊢
 refine bQ [] (nG ls) ?_ ?_<;>simp -implicitDefEqProofs only[go_sem,Z1,Z2,Z3,Z4]
 try(with_reducible refine aY (by kernel_rfl) ?_)
 cases g1:fG ls
 ·try simp -implicitDefEqProofs only[go_sem,Z1,Z2,Z3,Z4]
  try(with_reducible refine aY (by kernel_rfl) ?_)
  refine an ?_
  simp -implicitDefEqProofs only[go_sem,Z1,Z2,Z3,Z4]
  all_goals(first|done|(simp[jE,g1];done)|(simp[jE,g1];omega)|skip)
 ·rcases aa (ts.length=ls.length) with g2|g2
  ·have e:jE ls ts=o4 ls ts ⟨[0,0,0,0],0,false⟩:=by simp[jE,g1,g2]
   try simp -implicitDefEqProofs only[go_sem,Z1,Z2,Z3,Z4,g2]
   try(with_reducible refine aY (by kernel_rfl) ?_)
   repeat(first|with_reducible refine aY (by kernel_rfl) ?_|(with_reducible apply ar;case left=>first|omega|assumption|exact⟨jT _,by omega⟩|exact⟨fP _,by omega⟩|exact⟨gv _,by omega⟩|exact⟨gZ _,by omega⟩|exact⟨je _,by omega⟩|rfl|(simp[*];done)|(simp;omega)|exact⟨hH _,by omega⟩|exact⟨gf _,by omega⟩|exact⟨jV _,by omega⟩|exact⟨fZ _,by omega⟩|exact⟨jc _,by omega⟩))
   refine dm hm (fun(i:Nat) (out:ib)=> i≤ls.length∧jE ls ts=o4 (ls.drop i) (ts.drop i) out) (fun(i:Nat) (out:ib)=> ⟨dB 47 .any [(1,lv (bG ts)),(4,.ptr 0 0),(6,.ptr 1 0),(24,lv (db ls)),(25,iv ls.length),(26,iv i)],[some (.box (cF (eF mC))),some (.box (cF (eF out)))]⟩) (fun(i:Nat) (out:ib)=> ls.length-i) (0) (⟨[0,0,0,0],0,false⟩) ?_ (aw [some 0,some 2] ?_ ?_ rfl rfl) ?_
   rotate_left
   ·simp -implicitDefEqProofs only[go_sem,Z1,Z2,Z3,Z4]
    all_goals(first|done|(simp[bG,aW])|(simp[aq, *];done)|(simp[aq];done)|(simp;omega)|skip)
   ·simp -implicitDefEqProofs only[go_sem,Z1,Z2,Z3,Z4]
    all_goals(first|done|(simp[bG,aW])|(simp[aq, *];done)|(simp[aq];done)|(simp;omega)|skip)
   rotate_left
   ·simp[e]
   ·rintro i out ⟨hi,hg⟩
    rcases aa (i<ls.length) with h1|h1
    ·have h2:i<ts.length:=by omega
     rw[Gd h1 h2] at hg
     try simp -implicitDefEqProofs only[go_sem,Z1,Z2,Z3,Z4,h1,h2]
     try(with_reducible refine aY (by kernel_rfl) ?_)
     refine bQ [] (yh out 1 ls[i] ts[i]) ?_ ?_<;>simp -implicitDefEqProofs only[go_sem,Z1,Z2,Z3,Z4]
     try(with_reducible refine aY (by kernel_rfl) ?_)
     cases h3:(dL out 1 ls[i] ts[i]).2
     ·rw[h3] at hg
      simp only[Bool.false_eq_true,if_false] at hg
      try simp -implicitDefEqProofs only[go_sem,Z1,Z2,Z3,Z4]
      try(with_reducible refine aY (by kernel_rfl) ?_)
      refine an ?_
      simp -implicitDefEqProofs only[go_sem,Z1,Z2,Z3,Z4]
      all_goals(first|done|(simp[hg];done)|(simp[hg];omega)|skip)
     ·rw[h3] at hg
      simp only[if_true] at hg
      try simp -implicitDefEqProofs only[go_sem,Z1,Z2,Z3,Z4]
      try(with_reducible refine aY (by kernel_rfl) ?_)
      refine⟨by omega,?_⟩
      refine⟨i+1,(dL out 1 ls[i] ts[i]).1,?_,sL,aw [some 0,some 1] ?_ ?_ rfl rfl⟩
      rotate_left
      ·simp -implicitDefEqProofs only[go_sem,Z1,Z2,Z3,Z4]
       all_goals(first|done|(simp[aq, *];done)|(simp[aq];done)|(simp;omega)|skip)
      ·simp -implicitDefEqProofs only[go_sem,Z1,Z2,Z3,Z4]
       all_goals(first|done|(simp[aq, *];done)|(simp[aq];done)|(simp;omega)|skip)
      exact⟨by omega,hg⟩
    ·rw[al (by omega),al (by omega),o4] at hg
     try simp -implicitDefEqProofs only[go_sem,Z1,Z2,Z3,Z4,h1]
     try(with_reducible refine aY (by kernel_rfl) ?_)
     refine an ?_
     simp -implicitDefEqProofs only[go_sem,Z1,Z2,Z3,Z4]
     all_goals(first|done|(simp[hg];done)|(simp[hg];omega)|skip)
  ·have g2':¬ (ts.length:Int)=ls.length:=by omega
   try simp -implicitDefEqProofs only[go_sem,Z1,Z2,Z3,Z4,g2']
   try(with_reducible refine aY (by kernel_rfl) ?_)
   refine an ?_
   simp -implicitDefEqProofs only[go_sem,Z1,Z2,Z3,Z4]
   all_goals(first|done|(simp[jE,g1,g2];done)|(simp[jE,g1,g2];omega)|skip)
theorem K8(ls:List ib)(ts:List Int):C E.P 79 [lv (db ls),lv (bG ts)] [] (bM (bv (qU ls ts)) []):=by
 have cI:=jQ
 refine lJ (nt:=18) (rs:=[.tmp 4]) hm Tryz.func79 rfl rfl rfl rfl rfl (fun hl he=>?_)
 simp -implicitDefEqProofs only[go_sem,Z1,Z2,Z3,Z4] at hl⊢
 refine bQ [] (Hw ls ts) ?_ ?_<;>simp -implicitDefEqProofs only[go_sem,Z1,Z2,Z3,Z4]
 try(with_reducible refine aY (by kernel_rfl) ?_)
 cases h:(jE ls ts).2
 ·try simp -implicitDefEqProofs only[go_sem,Z1,Z2,Z3,Z4]
  try(with_reducible refine aY (by kernel_rfl) ?_)
  refine an ?_
  simp -implicitDefEqProofs only[go_sem,Z1,Z2,Z3,Z4]
  all_goals(first|done|(simp[qU,h];done)|(simp[qU,h];omega)|skip)
 ·try simp -implicitDefEqProofs only[go_sem,Z1,Z2,Z3,Z4]
  try(with_reducible refine aY (by kernel_rfl) ?_)
  refine bQ [] (yz (jE ls ts).1) ?_ ?_<;>simp -implicitDefEqProofs only[go_sem,Z1,Z2,Z3,Z4]
  try(with_reducible refine aY (by kernel_rfl) ?_)
  refine an ?_
  simp -implicitDefEqProofs only[go_sem,Z1,Z2,Z3,Z4]
  all_goals(first|done|(simp[qU,h];done)|(simp[qU,h];omega)|skip)
end Go.Proofs.YtabembjmeobhoaaGreat
