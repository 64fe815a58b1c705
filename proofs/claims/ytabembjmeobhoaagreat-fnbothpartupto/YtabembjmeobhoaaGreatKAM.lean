/-
  The walks of constraints and their certificates. A step towards the exact laws.
-/
import Derived.Test.YtabembjmeobhoaaGreatKAH
set_option linter.unusedVariables false
set_option linter.unusedSimpArgs false
open And renaming intro→ar
open Bool renaming and_assoc→oT
open Classical renaming em→aa
open List renaming getElem?_eq_getElem→ah,getElem_mem→ak,drop_of_length_le→al,take_of_length_le→ao,replicate→aW,take_add_one→bC,map_append→cW,all_eq_not_any_not→fq
namespace Go.Proofs.YtabembjmeobhoaaGreat
open Go.Eng Go.Mod
open Int renaming reduceEq→Z1,reduceLT→Z2,reduceLE→Z3,reduceToNat→Z4
set_option maxRecDepth 100000
set_option maxHeartbeats 3200000
theorem yl(n:Int):C E.P 231 [iv n] [] (bN (bv (m9 n)) []):=by
 have cI:=jR
 refine lG (nt:=5) (rs:=[.tmp 2]) hm Tryz.func231 rfl rfl rfl rfl rfl (fun hl he=>?_)
 simp -implicitDefEqProofs only[go_sem,Z1,Z2,Z3,Z4] at hl⊢
 refine bQ [] (fV n (-1000000) 1000000) ?_ ?_<;>simp -implicitDefEqProofs only[go_sem,Z1,Z2,Z3,Z4]
 try(with_reducible refine aY (by kernel_rfl) ?_)
 refine an ?_
 simp -implicitDefEqProofs only[go_sem,Z1,Z2,Z3,Z4]
 all_goals(first|done|(simp[m9];done)|(simp[m9];omega)|skip)
theorem gQ(l:ia):C E.P 171 [av (eG l)] [] (bN (bv (dE l)) []):=by
 have cI:=jR
 refine lG (nt:=25) (rs:=[.tmp 2]) hm Tryz.func171 rfl rfl rfl rfl rfl (fun hl he=>?_)
 simp -implicitDefEqProofs only[go_sem,Z1,Z2,Z3,Z4] at hl⊢
 refine aO hm (fun(i:Nat)=> i≤l.aG.length∧l.aG.all m9=(l.aG.drop i).all m9) (fun(i:Nat)=> ⟨dB 25 .any [(1,.ptr 0 0),(6,lv (bG l.aG)),(7,iv l.aG.length),(8,iv i)],[some (.box (cF (eG l)))]⟩) (fun(i:Nat)=> l.aG.length-i) (0) ?_ (aw [some 0] ?_ ?_ rfl rfl) ?_
 rotate_left
 ·simp -implicitDefEqProofs only[go_sem,Z1,Z2,Z3,Z4]
  all_goals(first|done|(simp[aq, *];done)|(simp[aq];done)|(simp;omega)|skip)
 ·simp -implicitDefEqProofs only[go_sem,Z1,Z2,Z3,Z4]
  all_goals(first|done|(simp[aq, *];done)|(simp[aq];done)|(simp;omega)|skip)
 rotate_left
 ·simp
 ·rintro i ⟨hi,hg⟩
  rcases aa (i<l.aG.length) with h1|h1
  ·rw[List.drop_eq_getElem_cons h1,List.all_cons] at hg
   try simp -implicitDefEqProofs only[go_sem,Z1,Z2,Z3,Z4,h1]
   try(with_reducible refine aY (by kernel_rfl) ?_)
   refine bQ [] (yl l.aG[i]) ?_ ?_<;>simp -implicitDefEqProofs only[go_sem,Z1,Z2,Z3,Z4]
   try(with_reducible refine aY (by kernel_rfl) ?_)
   cases h2:m9 l.aG[i]
   ·rw[h2,Bool.false_and] at hg
    have e:dE l=false:=by simp[dE,hg]
    try simp -implicitDefEqProofs only[go_sem,Z1,Z2,Z3,Z4]
    try(with_reducible refine aY (by kernel_rfl) ?_)
    refine an ?_
    simp -implicitDefEqProofs only[go_sem,Z1,Z2,Z3,Z4]
    all_goals(first|done|(simp[e];done)|(simp[e];omega)|skip)
   ·rw[h2,Bool.true_and] at hg
    try simp -implicitDefEqProofs only[go_sem,Z1,Z2,Z3,Z4]
    try(with_reducible refine aY (by kernel_rfl) ?_)
    refine⟨by omega,?_⟩
    refine⟨i+1,?_,sL,aw [some 0] ?_ ?_ rfl rfl⟩
    rotate_left
    ·simp -implicitDefEqProofs only[go_sem,Z1,Z2,Z3,Z4]
     all_goals(first|done|(simp[aq, *];done)|(simp[aq];done)|(simp;omega)|skip)
    ·simp -implicitDefEqProofs only[go_sem,Z1,Z2,Z3,Z4]
     all_goals(first|done|(simp[aq, *];done)|(simp[aq];done)|(simp;omega)|skip)
    exact⟨by omega,hg⟩
  ·rw[al (by omega),List.all_nil] at hg
   rcases aa ((l.aG.length:Int)=4) with h3|h3
   ·have h3':l.aG.length=4:=by omega
    have k3:=eq_true h3
    try simp -implicitDefEqProofs only[go_sem,Z1,Z2,Z3,Z4,h1,k3]
    try(with_reducible refine aY (by kernel_rfl) ?_)
    refine bQ [] (yl l.bound) ?_ ?_<;>simp -implicitDefEqProofs only[go_sem,Z1,Z2,Z3,Z4]
    try(with_reducible refine aY (by kernel_rfl) ?_)
    refine an ?_
    simp -implicitDefEqProofs only[go_sem,Z1,Z2,Z3,Z4]
    all_goals(first|done|(simp[dE,hg,h3'];done)|(simp[dE,hg,h3'];omega)|skip)
   ·have h3':¬l.aG.length=4:=by omega
    try simp -implicitDefEqProofs only[go_sem,Z1,Z2,Z3,Z4,h1,h3]
    try(with_reducible refine aY (by kernel_rfl) ?_)
    refine an ?_
    simp -implicitDefEqProofs only[go_sem,Z1,Z2,Z3,Z4]
    all_goals(first|done|(simp[dE,hg,h3'];done)|(simp[dE,hg,h3'];omega)|skip)
theorem H4(l:ia):C E.P 109 [av (eG l)] [] (bN (av (eG (pf l))) []):=by
 have cI:=jR
 refine lG (nt:=33) (rs:=[.cell 2 162]) hm Tryz.func109 rfl rfl rfl rfl rfl (fun hl he=>?_)
 simp -implicitDefEqProofs only[go_sem,Z1,Z2,Z3,Z4] at hl⊢
 refine bQ [] (gQ l) ?_ ?_<;>simp -implicitDefEqProofs only[go_sem,Z1,Z2,Z3,Z4]
 try(with_reducible refine aY (by kernel_rfl) ?_)
 cases h:dE l
 ·try simp -implicitDefEqProofs only[go_sem,Z1,Z2,Z3,Z4]
  try(with_reducible refine aY (by kernel_rfl) ?_)
  refine an ?_
  simp -implicitDefEqProofs only[go_sem,Z1,Z2,Z3,Z4]
  all_goals(first|done|(simp[pf,h];done)|(simp[pf,h];omega)|skip)
 ·obtain⟨h4,hc,hb⟩:=gp.1 h
  have e:pf l=⟨l.aG.map fun c=>-c,-l.bound,!l.strict⟩:=by simp[pf,h]
  try simp -implicitDefEqProofs only[go_sem,Z1,Z2,Z3,Z4]
  try(with_reducible refine aY (by kernel_rfl) ?_)
  refine⟨by omega,?_⟩
  refine aO hm (fun(i:Nat)=> i≤l.aG.length) (fun(i:Nat)=> ⟨dB 33 .any [(2,.ptr 0 0),(3,.ptr 1 0),(18,lv (bG l.aG)),(19,iv l.aG.length),(20,iv i)],[some (.box (cF (eG mC))),some (.box [.acc 2,.d (.val (.int .i64 (-l.bound))),.d (.val (.bool (!l.strict)))]),some (.acc 3 (bG ((l.aG.take i).map fun c=>-c)))]⟩) (fun(i:Nat)=> l.aG.length-i) (0) ?_ (aw [some 1,some 2,none] ?_ ?_ rfl rfl) ?_
  rotate_left
  ·simp -implicitDefEqProofs only[go_sem,Z1,Z2,Z3,Z4]
   all_goals(first|done|(simp[aq, *];done)|(simp[aq];done)|(simp;omega)|skip)
  ·simp -implicitDefEqProofs only[go_sem,Z1,Z2,Z3,Z4]
   all_goals(first|done|(simp[aq, *];done)|(simp[aq];done)|(simp;omega)|skip)
  rotate_left
  ·omega
  ·rintro i hi
   rcases aa (i<l.aG.length) with h1|h1
   ·have hn:=hc l.aG[i] (ak h1)
    try simp -implicitDefEqProofs only[go_sem,Z1,Z2,Z3,Z4,h1]
    try(with_reducible refine aY (by kernel_rfl) ?_)
    refine⟨by omega,by omega,by omega,?_⟩
    refine⟨i+1,?_,sL,aw [some 0,some 1,some 3] ?_ ?_ rfl rfl⟩
    rotate_left
    ·simp -implicitDefEqProofs only[go_sem,Z1,Z2,Z3,Z4]
     all_goals(first|done|((rw[bC,ah h1,cW,←eC];rfl))|(simp[aq, *];done)|(simp[aq];done)|(simp;omega)|skip)
    ·simp -implicitDefEqProofs only[go_sem,Z1,Z2,Z3,Z4]
     all_goals(first|done|((rw[bC,ah h1,cW,←eC];rfl))|(simp[aq, *];done)|(simp[aq];done)|(simp;omega)|skip)
    exact h1
   ·try simp -implicitDefEqProofs only[go_sem,Z1,Z2,Z3,Z4,h1]
    try(with_reducible refine aY (by kernel_rfl) ?_)
    refine an ?_
    simp -implicitDefEqProofs only[go_sem,Z1,Z2,Z3,Z4]
    rw[ao (by omega),e]
    simp[eG]
theorem DG(c:Int):C E.P 233 [iv c] [] (bN (bv (decide (c≠0))) []):=by
 have cI:=jR
 refine lG (nt:=5) (rs:=[.tmp 2]) hm Tryz.func233 rfl rfl rfl rfl rfl (fun hl he=>?_)
 simp -implicitDefEqProofs only[go_sem,Z1,Z2,Z3,Z4] at hl⊢
 refine an ?_
 simp -implicitDefEqProofs only[go_sem,Z1,Z2,Z3,Z4]
 all_goals(first|done|(simp;done)|(simp;omega)|skip)
theorem TH(l:ia):l.aG.any (fun c=>decide (c≠0))= !flat l:=by
 simp[flat,fq]
theorem Hz(l:ia):C E.P 173 [av (eG l)] [] (bN (bv (dE l&&flat l)) []):=by
 have cI:=jR
 refine lG (nt:=11) (rs:=[.tmp 2]) hm Tryz.func173 rfl rfl rfl rfl rfl (fun hl he=>?_)
 simp -implicitDefEqProofs only[go_sem,Z1,Z2,Z3,Z4] at hl⊢
 refine bQ [] (gQ l) ?_ ?_<;>simp -implicitDefEqProofs only[go_sem,Z1,Z2,Z3,Z4]
 try(with_reducible refine aY (by kernel_rfl) ?_)
 cases h:dE l
 ·try simp -implicitDefEqProofs only[go_sem,Z1,Z2,Z3,Z4]
  try(with_reducible refine aY (by kernel_rfl) ?_)
  refine an ?_
  simp -implicitDefEqProofs only[go_sem,Z1,Z2,Z3,Z4]
  all_goals(first|done|(simp;done)|(simp;omega)|skip)
 ·try simp -implicitDefEqProofs only[go_sem,Z1,Z2,Z3,Z4]
  try(with_reducible refine aY (by kernel_rfl) ?_)
  refine bQ [] (r8 233 [] rfl (fun c=>decide (c≠0)) l.aG (fun c _=>DG c)) ?_ ?_<;>simp -implicitDefEqProofs only[go_sem,Z1,Z2,Z3,Z4]
  try(with_reducible refine aY (by kernel_rfl) ?_)
  refine an ?_
  simp -implicitDefEqProofs only[go_sem,Z1,Z2,Z3,Z4]
  rw[TH]
  simp
theorem yf(l:ia):C E.P 103 [av (eG l)] [] (bN (bv (jG l)) []):=by
 have cI:=jR
 refine lG (nt:=19) (rs:=[.tmp 2]) hm Tryz.func103 rfl rfl rfl rfl rfl (fun hl he=>?_)
 simp -implicitDefEqProofs only[go_sem,Z1,Z2,Z3,Z4] at hl⊢
 refine bQ [] (Hz l) ?_ ?_<;>simp -implicitDefEqProofs only[go_sem,Z1,Z2,Z3,Z4]
 try(with_reducible refine aY (by kernel_rfl) ?_)
 cases h:dE l&&flat l
 ·have e:jG l=false:=by
   simp only[jG]
   rw[←oT,h]
   rfl
  try simp -implicitDefEqProofs only[go_sem,Z1,Z2,Z3,Z4]
  try(with_reducible refine aY (by kernel_rfl) ?_)
  refine an ?_
  simp -implicitDefEqProofs only[go_sem,Z1,Z2,Z3,Z4]
  all_goals(first|done|(simp[e];done)|(simp[e];omega)|skip)
 ·have e:jG l=(decide (l.bound<0)||(decide (l.bound=0)&&l.strict)):=by
   simp only[jG]
   rw[←oT,h]
   rfl
  rcases aa (l.bound<0) with h1|h1
  ·try simp -implicitDefEqProofs only[go_sem,Z1,Z2,Z3,Z4,h1]
   try(with_reducible refine aY (by kernel_rfl) ?_)
   refine an ?_
   simp -implicitDefEqProofs only[go_sem,Z1,Z2,Z3,Z4]
   all_goals(first|done|(simp[e,h1];done)|(simp[e,h1];omega)|skip)
  ·rcases aa (l.bound=0) with h2|h2
   ·try simp -implicitDefEqProofs only[go_sem,Z1,Z2,Z3,Z4,h1,h2]
    try(with_reducible refine aY (by kernel_rfl) ?_)
    refine an ?_
    simp -implicitDefEqProofs only[go_sem,Z1,Z2,Z3,Z4]
    all_goals(first|done|(simp[e,h1,h2];done)|(simp[e,h1,h2];omega)|skip)
   ·try simp -implicitDefEqProofs only[go_sem,Z1,Z2,Z3,Z4,h1,h2]
    try(with_reducible refine aY (by kernel_rfl) ?_)
    refine an ?_
    simp -implicitDefEqProofs only[go_sem,Z1,Z2,Z3,Z4]
    all_goals(first|done|(simp[e,h1,h2];done)|(simp[e,h1,h2];omega)|skip)
theorem AH(l:ia):C E.P 170 [av (eG l)] [] (bN (bv (!dE l)) []):=by
 have cI:=jR
 refine lG (nt:=6) (rs:=[.tmp 2]) hm Tryz.func170 rfl rfl rfl rfl rfl (fun hl he=>?_)
 simp -implicitDefEqProofs only[go_sem,Z1,Z2,Z3,Z4] at hl⊢
 refine bQ [] (gQ l) ?_ ?_<;>simp -implicitDefEqProofs only[go_sem,Z1,Z2,Z3,Z4]
 try(with_reducible refine aY (by kernel_rfl) ?_)
 refine an ?_
 simp -implicitDefEqProofs only[go_sem,Z1,Z2,Z3,Z4]
 all_goals(first|done|(simp;done)|(simp;omega)|skip)
theorem nx(ls:List ia):C E.P 100 [lv (c9 ls)] [] (bN (bv (fH ls)) []):=by
 have cI:=jR
 refine lG (nt:=11) (rs:=[.tmp 2]) hm Tryz.func100 rfl rfl rfl rfl rfl (fun hl he=>?_)
 simp -implicitDefEqProofs only[go_sem,Z1,Z2,Z3,Z4] at hl⊢
 rcases aa ((ls.length:Int)≤20) with h|h
 ·have h':ls.length≤20:=by omega
  try simp -implicitDefEqProofs only[go_sem,Z1,Z2,Z3,Z4,h]
  try(with_reducible refine aY (by kernel_rfl) ?_)
  refine bQ [] (zc 170 [] rfl (fun l=>!dE l) ls (fun l _=>AH l)) ?_ ?_<;>simp -implicitDefEqProofs only[go_sem,Z1,Z2,Z3,Z4]
  try(with_reducible refine aY (by kernel_rfl) ?_)
  refine an ?_
  simp -implicitDefEqProofs only[go_sem,Z1,Z2,Z3,Z4]
  all_goals(first|done|(simp[fH,h',fq];done)|(simp[fH,h',fq];omega)|skip)
 ·have h':¬ls.length≤20:=by omega
  try simp -implicitDefEqProofs only[go_sem,Z1,Z2,Z3,Z4,h]
  try(with_reducible refine aY (by kernel_rfl) ?_)
  refine an ?_
  simp -implicitDefEqProofs only[go_sem,Z1,Z2,Z3,Z4]
  all_goals(first|done|(simp[fH,h'];done)|(simp[fH,h'];omega)|skip)
theorem yy(a:ia)(m:Int)(b:ia)(n:Int):C E.P 226 [av (eG a),iv m,av (eG b),iv n] [] (bN (.ja [av (eG (dN a m b n).1),bv (dN a m b n).2]) []):=by
 have cI:=jR
 refine lG (nt:=87) (rs:=[.cell 8 162,.tmp 9]) hm Tryz.func226 rfl rfl rfl rfl rfl (fun hl he=>?_)
 simp -implicitDefEqProofs only[go_sem,Z1,Z2,Z3,Z4] at hl⊢
 refine bQ [] (gQ a) ?_ ?_<;>simp -implicitDefEqProofs only[go_sem,Z1,Z2,Z3,Z4]
 try(with_reducible refine aY (by kernel_rfl) ?_)
 cases g1:dE a
 ·try simp -implicitDefEqProofs only[go_sem,Z1,Z2,Z3,Z4]
  try(with_reducible refine aY (by kernel_rfl) ?_)
  refine an ?_
  simp -implicitDefEqProofs only[go_sem,Z1,Z2,Z3,Z4]
  all_goals(first|done|(simp[dN,g1];done)|(simp[dN,g1];omega)|skip)
 ·try simp -implicitDefEqProofs only[go_sem,Z1,Z2,Z3,Z4]
  try(with_reducible refine aY (by kernel_rfl) ?_)
  refine bQ [] (gQ b) ?_ ?_<;>simp -implicitDefEqProofs only[go_sem,Z1,Z2,Z3,Z4]
  try(with_reducible refine aY (by kernel_rfl) ?_)
  cases g2:dE b
  ·try simp -implicitDefEqProofs only[go_sem,Z1,Z2,Z3,Z4]
   try(with_reducible refine aY (by kernel_rfl) ?_)
   refine an ?_
   simp -implicitDefEqProofs only[go_sem,Z1,Z2,Z3,Z4]
   all_goals(first|done|(simp[dN,g1,g2];done)|(simp[dN,g1,g2];omega)|skip)
  ·try simp -implicitDefEqProofs only[go_sem,Z1,Z2,Z3,Z4]
   try(with_reducible refine aY (by kernel_rfl) ?_)
   refine bQ [] (fV m 0 1000000) ?_ ?_<;>simp -implicitDefEqProofs only[go_sem,Z1,Z2,Z3,Z4]
   try(with_reducible refine aY (by kernel_rfl) ?_)
   cases g3:within m 0 1000000
   ·try simp -implicitDefEqProofs only[go_sem,Z1,Z2,Z3,Z4]
    try(with_reducible refine aY (by kernel_rfl) ?_)
    refine an ?_
    simp -implicitDefEqProofs only[go_sem,Z1,Z2,Z3,Z4]
    all_goals(first|done|(simp[dN,g1,g2,g3];done)|(simp[dN,g1,g2,g3];omega)|skip)
   ·try simp -implicitDefEqProofs only[go_sem,Z1,Z2,Z3,Z4]
    try(with_reducible refine aY (by kernel_rfl) ?_)
    refine bQ [] (fV n 0 1000000) ?_ ?_<;>simp -implicitDefEqProofs only[go_sem,Z1,Z2,Z3,Z4]
    try(with_reducible refine aY (by kernel_rfl) ?_)
    cases g4:within n 0 1000000
    ·try simp -implicitDefEqProofs only[go_sem,Z1,Z2,Z3,Z4]
     try(with_reducible refine aY (by kernel_rfl) ?_)
     refine an ?_
     simp -implicitDefEqProofs only[go_sem,Z1,Z2,Z3,Z4]
     all_goals(first|done|(simp[dN,g1,g2,g3,g4];done)|(simp[dN,g1,g2,g3,g4];omega)|skip)
    ·obtain⟨hn1,hc1,hb1⟩:=gp.1 g1
     obtain⟨hn2,hc2,hb2⟩:=gp.1 g2
     have h5:=dx.1 g3
     have h6:=dx.1 g4
     have p1:=dj h5.1 h5.2 hb1
     have p2:=dj h6.1 h6.2 hb2
     rcases aa (0<m) with t1|t1
     ·cases t2:a.strict
      ·rcases aa (0<n) with t3|t3
       ·try simp -implicitDefEqProofs only[go_sem,Z1,Z2,Z3,Z4,t1,t3,t2]
        try(with_reducible refine aY (by kernel_rfl) ?_)
        repeat(first|with_reducible refine aY (by kernel_rfl) ?_|(with_reducible apply ar;case left=>first|omega|assumption|exact⟨jV _,by omega⟩|exact⟨fQ _,by omega⟩|exact⟨fL _,by omega⟩|exact⟨gZ _,by omega⟩|exact⟨iZ _,by omega⟩|rfl|(simp[*];done)|(simp;omega)|exact⟨hH _,by omega⟩|exact⟨gg _,by omega⟩|exact⟨jU _,by omega⟩|exact⟨gi _,by omega⟩|exact⟨jc _,by omega⟩))
        refine aO hm (fun(i:Nat)=> i≤a.aG.length) (fun(i:Nat)=> ⟨dB 87 .any [(1,iv m),(3,iv n),(4,.ptr 0 0),(6,.ptr 1 0),(8,.ptr 2 0),(10,.ptr 3 0),(57,iv a.aG.length),(58,iv i)],[some (.box (cF (eG a))),some (.box (cF (eG b))),some (.box (cF (eG mC))),some (.box [.acc 4,.d (.val (.int .i64 (m*a.bound+n*b.bound))),.d (.val (.bool b.strict))]),some (.acc 3 (bG (comb m n (a.aG.take i) (b.aG.take i))))]⟩) (fun(i:Nat)=> a.aG.length-i) (0) ?_ (aw [some 0,some 1,some 2,some 3,none] ?_ ?_ rfl rfl) ?_
        rotate_left
        ·simp -implicitDefEqProofs only[go_sem,Z1,Z2,Z3,Z4]
         all_goals(first|done|(simp[comb, *])|(simp[aq, *];done)|(simp[aq];done)|(simp;omega)|skip)
        ·simp -implicitDefEqProofs only[go_sem,Z1,Z2,Z3,Z4]
         all_goals(first|done|(simp[comb, *])|(simp[aq, *];done)|(simp[aq];done)|(simp;omega)|skip)
        rotate_left
        ·omega
        ·rintro i hi
         rcases aa (i<a.aG.length) with h1|h1
         ·have h2:i<b.aG.length:=by omega
          have q1:=dj h5.1 h5.2 (hc1 a.aG[i] (ak h1))
          have q2:=dj h6.1 h6.2 (hc2 b.aG[i] (ak h2))
          have dy:(comb m n (a.aG.take i) (b.aG.take i)).length≤4:=by rw[kh (by simp;omega)];simp;omega
          try simp -implicitDefEqProofs only[go_sem,Z1,Z2,Z3,Z4,h1,h2]
          try(with_reducible refine aY (by kernel_rfl) ?_)
          repeat(first|with_reducible refine aY (by kernel_rfl) ?_|(with_reducible apply ar;case left=>first|omega|assumption|exact⟨jV _,by omega⟩|exact⟨fQ _,by omega⟩|exact⟨fL _,by omega⟩|exact⟨gZ _,by omega⟩|exact⟨iZ _,by omega⟩|rfl|(simp[*];done)|(simp;omega)|exact⟨hH _,by omega⟩|exact⟨gg _,by omega⟩|exact⟨jU _,by omega⟩|exact⟨gi _,by omega⟩|exact⟨jc _,by omega⟩))
          refine⟨i+1,?_,sL,aw [some 0,some 1,some 2,some 3,some 5] ?_ ?_ rfl rfl⟩
          rotate_left
          ·simp -implicitDefEqProofs only[go_sem,Z1,Z2,Z3,Z4]
           all_goals(first|done|((rw[eV h1 h2,←eC];rfl))|(simp[aq, *];done)|(simp[aq];done)|(simp;omega)|skip)
          ·simp -implicitDefEqProofs only[go_sem,Z1,Z2,Z3,Z4]
           all_goals(first|done|((rw[eV h1 h2,←eC];rfl))|(simp[aq, *];done)|(simp[aq];done)|(simp;omega)|skip)
          exact h1
         ·rw[ao (by omega),ao (by omega)]
          have e2:jn a m b n=⟨comb m n a.aG b.aG,m*a.bound+n*b.bound,b.strict⟩:=by simp[jn, *]
          try simp -implicitDefEqProofs only[go_sem,Z1,Z2,Z3,Z4,h1]
          try(with_reducible refine aY (by kernel_rfl) ?_)
          refine dL [] [4] (gQ ⟨comb m n a.aG b.aG,m*a.bound+n*b.bound,b.strict⟩) rfl ?_ ?_ ?_
          ·(simp -implicitDefEqProofs only[go_sem,Z1,Z2,Z3,Z4];repeat'(first|exact iE.nil|apply iE.cons|exact Vw.same (by first|rfl|simp -implicitDefEqProofs only[go_sem,Z1,Z2,Z3,Z4])|exact Vw.acc rfl rfl|exact Vw.ff rfl rfl (by simp -implicitDefEqProofs only[go_sem,Z1,Z2,Z3,Z4])|exact Vw.nil|apply Vw.agg|apply Vw.fn|refine Vw.box rfl rfl ?_))
          all_goals simp -implicitDefEqProofs only[go_sem,Z1,Z2,Z3,Z4]
          try(with_reducible refine aY (by kernel_rfl) ?_)
          rw[ph g1 g2 g3 g4,jl,e2]
          cases h7:dE ⟨comb m n a.aG b.aG,m*a.bound+n*b.bound,b.strict⟩
          ·try simp -implicitDefEqProofs only[go_sem,Z1,Z2,Z3,Z4]
           try(with_reducible refine aY (by kernel_rfl) ?_)
           refine an ?_
           simp -implicitDefEqProofs only[go_sem,Z1,Z2,Z3,Z4]
           all_goals(first|done|(simp;done)|(simp;omega)|skip)
          ·try simp -implicitDefEqProofs only[go_sem,Z1,Z2,Z3,Z4]
           try(with_reducible refine aY (by kernel_rfl) ?_)
           refine an ?_
           simp -implicitDefEqProofs only[go_sem,Z1,Z2,Z3,Z4]
           all_goals(first|done|(simp;done)|(simp;omega)|skip)
       ·try simp -implicitDefEqProofs only[go_sem,Z1,Z2,Z3,Z4,t1,t3,t2]
        try(with_reducible refine aY (by kernel_rfl) ?_)
        repeat(first|with_reducible refine aY (by kernel_rfl) ?_|(with_reducible apply ar;case left=>first|omega|assumption|exact⟨jV _,by omega⟩|exact⟨fQ _,by omega⟩|exact⟨fL _,by omega⟩|exact⟨gZ _,by omega⟩|exact⟨iZ _,by omega⟩|rfl|(simp[*];done)|(simp;omega)|exact⟨hH _,by omega⟩|exact⟨gg _,by omega⟩|exact⟨jU _,by omega⟩|exact⟨gi _,by omega⟩|exact⟨jc _,by omega⟩))
        refine aO hm (fun(i:Nat)=> i≤a.aG.length) (fun(i:Nat)=> ⟨dB 87 .any [(1,iv m),(3,iv n),(4,.ptr 0 0),(6,.ptr 1 0),(8,.ptr 2 0),(10,.ptr 3 0),(57,iv a.aG.length),(58,iv i)],[some (.box (cF (eG a))),some (.box (cF (eG b))),some (.box (cF (eG mC))),some (.box [.acc 4,.d (.val (.int .i64 (m*a.bound+n*b.bound))),.d (.val (.bool false))]),some (.acc 3 (bG (comb m n (a.aG.take i) (b.aG.take i))))]⟩) (fun(i:Nat)=> a.aG.length-i) (0) ?_ (aw [some 0,some 1,some 2,some 3,none] ?_ ?_ rfl rfl) ?_
        rotate_left
        ·simp -implicitDefEqProofs only[go_sem,Z1,Z2,Z3,Z4]
         all_goals(first|done|(simp[comb, *])|(simp[aq, *];done)|(simp[aq];done)|(simp;omega)|skip)
        ·simp -implicitDefEqProofs only[go_sem,Z1,Z2,Z3,Z4]
         all_goals(first|done|(simp[comb, *])|(simp[aq, *];done)|(simp[aq];done)|(simp;omega)|skip)
        rotate_left
        ·omega
        ·rintro i hi
         rcases aa (i<a.aG.length) with h1|h1
         ·have h2:i<b.aG.length:=by omega
          have q1:=dj h5.1 h5.2 (hc1 a.aG[i] (ak h1))
          have q2:=dj h6.1 h6.2 (hc2 b.aG[i] (ak h2))
          have dy:(comb m n (a.aG.take i) (b.aG.take i)).length≤4:=by rw[kh (by simp;omega)];simp;omega
          try simp -implicitDefEqProofs only[go_sem,Z1,Z2,Z3,Z4,h1,h2]
          try(with_reducible refine aY (by kernel_rfl) ?_)
          repeat(first|with_reducible refine aY (by kernel_rfl) ?_|(with_reducible apply ar;case left=>first|omega|assumption|exact⟨jV _,by omega⟩|exact⟨fQ _,by omega⟩|exact⟨fL _,by omega⟩|exact⟨gZ _,by omega⟩|exact⟨iZ _,by omega⟩|rfl|(simp[*];done)|(simp;omega)|exact⟨hH _,by omega⟩|exact⟨gg _,by omega⟩|exact⟨jU _,by omega⟩|exact⟨gi _,by omega⟩|exact⟨jc _,by omega⟩))
          refine⟨i+1,?_,sL,aw [some 0,some 1,some 2,some 3,some 5] ?_ ?_ rfl rfl⟩
          rotate_left
          ·simp -implicitDefEqProofs only[go_sem,Z1,Z2,Z3,Z4]
           all_goals(first|done|((rw[eV h1 h2,←eC];rfl))|(simp[aq, *];done)|(simp[aq];done)|(simp;omega)|skip)
          ·simp -implicitDefEqProofs only[go_sem,Z1,Z2,Z3,Z4]
           all_goals(first|done|((rw[eV h1 h2,←eC];rfl))|(simp[aq, *];done)|(simp[aq];done)|(simp;omega)|skip)
          exact h1
         ·rw[ao (by omega),ao (by omega)]
          have e2:jn a m b n=⟨comb m n a.aG b.aG,m*a.bound+n*b.bound,false⟩:=by simp[jn, *]
          try simp -implicitDefEqProofs only[go_sem,Z1,Z2,Z3,Z4,h1]
          try(with_reducible refine aY (by kernel_rfl) ?_)
          refine dL [] [4] (gQ ⟨comb m n a.aG b.aG,m*a.bound+n*b.bound,false⟩) rfl ?_ ?_ ?_
          ·(simp -implicitDefEqProofs only[go_sem,Z1,Z2,Z3,Z4];repeat'(first|exact iE.nil|apply iE.cons|exact Vw.same (by first|rfl|simp -implicitDefEqProofs only[go_sem,Z1,Z2,Z3,Z4])|exact Vw.acc rfl rfl|exact Vw.ff rfl rfl (by simp -implicitDefEqProofs only[go_sem,Z1,Z2,Z3,Z4])|exact Vw.nil|apply Vw.agg|apply Vw.fn|refine Vw.box rfl rfl ?_))
          all_goals simp -implicitDefEqProofs only[go_sem,Z1,Z2,Z3,Z4]
          try(with_reducible refine aY (by kernel_rfl) ?_)
          rw[ph g1 g2 g3 g4,jl,e2]
          cases h7:dE ⟨comb m n a.aG b.aG,m*a.bound+n*b.bound,false⟩
          ·try simp -implicitDefEqProofs only[go_sem,Z1,Z2,Z3,Z4]
           try(with_reducible refine aY (by kernel_rfl) ?_)
           refine an ?_
           simp -implicitDefEqProofs only[go_sem,Z1,Z2,Z3,Z4]
           all_goals(first|done|(simp;done)|(simp;omega)|skip)
          ·try simp -implicitDefEqProofs only[go_sem,Z1,Z2,Z3,Z4]
           try(with_reducible refine aY (by kernel_rfl) ?_)
           refine an ?_
           simp -implicitDefEqProofs only[go_sem,Z1,Z2,Z3,Z4]
           all_goals(first|done|(simp;done)|(simp;omega)|skip)
      ·try simp -implicitDefEqProofs only[go_sem,Z1,Z2,Z3,Z4,t1,t2]
       try(with_reducible refine aY (by kernel_rfl) ?_)
       repeat(first|with_reducible refine aY (by kernel_rfl) ?_|(with_reducible apply ar;case left=>first|omega|assumption|exact⟨jV _,by omega⟩|exact⟨fQ _,by omega⟩|exact⟨fL _,by omega⟩|exact⟨gZ _,by omega⟩|exact⟨iZ _,by omega⟩|rfl|(simp[*];done)|(simp;omega)|exact⟨hH _,by omega⟩|exact⟨gg _,by omega⟩|exact⟨jU _,by omega⟩|exact⟨gi _,by omega⟩|exact⟨jc _,by omega⟩))
       refine aO hm (fun(i:Nat)=> i≤a.aG.length) (fun(i:Nat)=> ⟨dB 87 .any [(1,iv m),(3,iv n),(4,.ptr 0 0),(6,.ptr 1 0),(8,.ptr 2 0),(10,.ptr 3 0),(57,iv a.aG.length),(58,iv i)],[some (.box (cF (eG a))),some (.box (cF (eG b))),some (.box (cF (eG mC))),some (.box [.acc 4,.d (.val (.int .i64 (m*a.bound+n*b.bound))),.d (.val (.bool true))]),some (.acc 3 (bG (comb m n (a.aG.take i) (b.aG.take i))))]⟩) (fun(i:Nat)=> a.aG.length-i) (0) ?_ (aw [some 0,some 1,some 2,some 3,none] ?_ ?_ rfl rfl) ?_
       rotate_left
       ·simp -implicitDefEqProofs only[go_sem,Z1,Z2,Z3,Z4]
        all_goals(first|done|(simp[comb, *])|(simp[aq, *];done)|(simp[aq];done)|(simp;omega)|skip)
       ·simp -implicitDefEqProofs only[go_sem,Z1,Z2,Z3,Z4]
        all_goals(first|done|(simp[comb, *])|(simp[aq, *];done)|(simp[aq];done)|(simp;omega)|skip)
       rotate_left
       ·omega
       ·rintro i hi
        rcases aa (i<a.aG.length) with h1|h1
        ·have h2:i<b.aG.length:=by omega
         have q1:=dj h5.1 h5.2 (hc1 a.aG[i] (ak h1))
         have q2:=dj h6.1 h6.2 (hc2 b.aG[i] (ak h2))
         have dy:(comb m n (a.aG.take i) (b.aG.take i)).length≤4:=by rw[kh (by simp;omega)];simp;omega
         try simp -implicitDefEqProofs only[go_sem,Z1,Z2,Z3,Z4,h1,h2]
         try(with_reducible refine aY (by kernel_rfl) ?_)
         repeat(first|with_reducible refine aY (by kernel_rfl) ?_|(with_reducible apply ar;case left=>first|omega|assumption|exact⟨jV _,by omega⟩|exact⟨fQ _,by omega⟩|exact⟨fL _,by omega⟩|exact⟨gZ _,by omega⟩|exact⟨iZ _,by omega⟩|rfl|(simp[*];done)|(simp;omega)|exact⟨hH _,by omega⟩|exact⟨gg _,by omega⟩|exact⟨jU _,by omega⟩|exact⟨gi _,by omega⟩|exact⟨jc _,by omega⟩))
         refine⟨i+1,?_,sL,aw [some 0,some 1,some 2,some 3,some 5] ?_ ?_ rfl rfl⟩
         rotate_left
         ·simp -implicitDefEqProofs only[go_sem,Z1,Z2,Z3,Z4]
          all_goals(first|done|((rw[eV h1 h2,←eC];rfl))|(simp[aq, *];done)|(simp[aq];done)|(simp;omega)|skip)
         ·simp -implicitDefEqProofs only[go_sem,Z1,Z2,Z3,Z4]
          all_goals(first|done|((rw[eV h1 h2,←eC];rfl))|(simp[aq, *];done)|(simp[aq];done)|(simp;omega)|skip)
         exact h1
        ·rw[ao (by omega),ao (by omega)]
         have e2:jn a m b n=⟨comb m n a.aG b.aG,m*a.bound+n*b.bound,true⟩:=by simp[jn, *]
         try simp -implicitDefEqProofs only[go_sem,Z1,Z2,Z3,Z4,h1]
         try(with_reducible refine aY (by kernel_rfl) ?_)
         refine dL [] [4] (gQ ⟨comb m n a.aG b.aG,m*a.bound+n*b.bound,true⟩) rfl ?_ ?_ ?_
         ·(simp -implicitDefEqProofs only[go_sem,Z1,Z2,Z3,Z4];repeat'(first|exact iE.nil|apply iE.cons|exact Vw.same (by first|rfl|simp -implicitDefEqProofs only[go_sem,Z1,Z2,Z3,Z4])|exact Vw.acc rfl rfl|exact Vw.ff rfl rfl (by simp -implicitDefEqProofs only[go_sem,Z1,Z2,Z3,Z4])|exact Vw.nil|apply Vw.agg|apply Vw.fn|refine Vw.box rfl rfl ?_))
         all_goals simp -implicitDefEqProofs only[go_sem,Z1,Z2,Z3,Z4]
         try(with_reducible refine aY (by kernel_rfl) ?_)
         rw[ph g1 g2 g3 g4,jl,e2]
         cases h7:dE ⟨comb m n a.aG b.aG,m*a.bound+n*b.bound,true⟩
         ·try simp -implicitDefEqProofs only[go_sem,Z1,Z2,Z3,Z4]
          try(with_reducible refine aY (by kernel_rfl) ?_)
          refine an ?_
          simp -implicitDefEqProofs only[go_sem,Z1,Z2,Z3,Z4]
          all_goals(first|done|(simp;done)|(simp;omega)|skip)
         ·try simp -implicitDefEqProofs only[go_sem,Z1,Z2,Z3,Z4]
          try(with_reducible refine aY (by kernel_rfl) ?_)
          refine an ?_
          simp -implicitDefEqProofs only[go_sem,Z1,Z2,Z3,Z4]
          all_goals(first|done|(simp;done)|(simp;omega)|skip)
     ·rcases aa (0<n) with t3|t3
      ·try simp -implicitDefEqProofs only[go_sem,Z1,Z2,Z3,Z4,t1,t3]
       try(with_reducible refine aY (by kernel_rfl) ?_)
       repeat(first|with_reducible refine aY (by kernel_rfl) ?_|(with_reducible apply ar;case left=>first|omega|assumption|exact⟨jV _,by omega⟩|exact⟨fQ _,by omega⟩|exact⟨fL _,by omega⟩|exact⟨gZ _,by omega⟩|exact⟨iZ _,by omega⟩|rfl|(simp[*];done)|(simp;omega)|exact⟨hH _,by omega⟩|exact⟨gg _,by omega⟩|exact⟨jU _,by omega⟩|exact⟨gi _,by omega⟩|exact⟨jc _,by omega⟩))
       refine aO hm (fun(i:Nat)=> i≤a.aG.length) (fun(i:Nat)=> ⟨dB 87 .any [(1,iv m),(3,iv n),(4,.ptr 0 0),(6,.ptr 1 0),(8,.ptr 2 0),(10,.ptr 3 0),(57,iv a.aG.length),(58,iv i)],[some (.box (cF (eG a))),some (.box (cF (eG b))),some (.box (cF (eG mC))),some (.box [.acc 4,.d (.val (.int .i64 (m*a.bound+n*b.bound))),.d (.val (.bool b.strict))]),some (.acc 3 (bG (comb m n (a.aG.take i) (b.aG.take i))))]⟩) (fun(i:Nat)=> a.aG.length-i) (0) ?_ (aw [some 0,some 1,some 2,some 3,none] ?_ ?_ rfl rfl) ?_
       rotate_left
       ·simp -implicitDefEqProofs only[go_sem,Z1,Z2,Z3,Z4]
        all_goals(first|done|(simp[comb, *])|(simp[aq, *];done)|(simp[aq];done)|(simp;omega)|skip)
       ·simp -implicitDefEqProofs only[go_sem,Z1,Z2,Z3,Z4]
        all_goals(first|done|(simp[comb, *])|(simp[aq, *];done)|(simp[aq];done)|(simp;omega)|skip)
       rotate_left
       ·omega
       ·rintro i hi
        rcases aa (i<a.aG.length) with h1|h1
        ·have h2:i<b.aG.length:=by omega
         have q1:=dj h5.1 h5.2 (hc1 a.aG[i] (ak h1))
         have q2:=dj h6.1 h6.2 (hc2 b.aG[i] (ak h2))
         have dy:(comb m n (a.aG.take i) (b.aG.take i)).length≤4:=by rw[kh (by simp;omega)];simp;omega
         try simp -implicitDefEqProofs only[go_sem,Z1,Z2,Z3,Z4,h1,h2]
         try(with_reducible refine aY (by kernel_rfl) ?_)
         repeat(first|with_reducible refine aY (by kernel_rfl) ?_|(with_reducible apply ar;case left=>first|omega|assumption|exact⟨jV _,by omega⟩|exact⟨fQ _,by omega⟩|exact⟨fL _,by omega⟩|exact⟨gZ _,by omega⟩|exact⟨iZ _,by omega⟩|rfl|(simp[*];done)|(simp;omega)|exact⟨hH _,by omega⟩|exact⟨gg _,by omega⟩|exact⟨jU _,by omega⟩|exact⟨gi _,by omega⟩|exact⟨jc _,by omega⟩))
         refine⟨i+1,?_,sL,aw [some 0,some 1,some 2,some 3,some 5] ?_ ?_ rfl rfl⟩
         rotate_left
         ·simp -implicitDefEqProofs only[go_sem,Z1,Z2,Z3,Z4]
          all_goals(first|done|((rw[eV h1 h2,←eC];rfl))|(simp[aq, *];done)|(simp[aq];done)|(simp;omega)|skip)
         ·simp -implicitDefEqProofs only[go_sem,Z1,Z2,Z3,Z4]
          all_goals(first|done|((rw[eV h1 h2,←eC];rfl))|(simp[aq, *];done)|(simp[aq];done)|(simp;omega)|skip)
         exact h1
        ·rw[ao (by omega),ao (by omega)]
         have e2:jn a m b n=⟨comb m n a.aG b.aG,m*a.bound+n*b.bound,b.strict⟩:=by simp[jn, *]
         try simp -implicitDefEqProofs only[go_sem,Z1,Z2,Z3,Z4,h1]
         try(with_reducible refine aY (by kernel_rfl) ?_)
         refine dL [] [4] (gQ ⟨comb m n a.aG b.aG,m*a.bound+n*b.bound,b.strict⟩) rfl ?_ ?_ ?_
         ·(simp -implicitDefEqProofs only[go_sem,Z1,Z2,Z3,Z4];repeat'(first|exact iE.nil|apply iE.cons|exact Vw.same (by first|rfl|simp -implicitDefEqProofs only[go_sem,Z1,Z2,Z3,Z4])|exact Vw.acc rfl rfl|exact Vw.ff rfl rfl (by simp -implicitDefEqProofs only[go_sem,Z1,Z2,Z3,Z4])|exact Vw.nil|apply Vw.agg|apply Vw.fn|refine Vw.box rfl rfl ?_))
         all_goals simp -implicitDefEqProofs only[go_sem,Z1,Z2,Z3,Z4]
         try(with_reducible refine aY (by kernel_rfl) ?_)
         rw[ph g1 g2 g3 g4,jl,e2]
         cases h7:dE ⟨comb m n a.aG b.aG,m*a.bound+n*b.bound,b.strict⟩
         ·try simp -implicitDefEqProofs only[go_sem,Z1,Z2,Z3,Z4]
          try(with_reducible refine aY (by kernel_rfl) ?_)
          refine an ?_
          simp -implicitDefEqProofs only[go_sem,Z1,Z2,Z3,Z4]
          all_goals(first|done|(simp;done)|(simp;omega)|skip)
         ·try simp -implicitDefEqProofs only[go_sem,Z1,Z2,Z3,Z4]
          try(with_reducible refine aY (by kernel_rfl) ?_)
          refine an ?_
          simp -implicitDefEqProofs only[go_sem,Z1,Z2,Z3,Z4]
          all_goals(first|done|(simp;done)|(simp;omega)|skip)
      ·try simp -implicitDefEqProofs only[go_sem,Z1,Z2,Z3,Z4,t1,t3]
       try(with_reducible refine aY (by kernel_rfl) ?_)
       repeat(first|with_reducible refine aY (by kernel_rfl) ?_|(with_reducible apply ar;case left=>first|omega|assumption|exact⟨jV _,by omega⟩|exact⟨fQ _,by omega⟩|exact⟨fL _,by omega⟩|exact⟨gZ _,by omega⟩|exact⟨iZ _,by omega⟩|rfl|(simp[*];done)|(simp;omega)|exact⟨hH _,by omega⟩|exact⟨gg _,by omega⟩|exact⟨jU _,by omega⟩|exact⟨gi _,by omega⟩|exact⟨jc _,by omega⟩))
       refine aO hm (fun(i:Nat)=> i≤a.aG.length) (fun(i:Nat)=> ⟨dB 87 .any [(1,iv m),(3,iv n),(4,.ptr 0 0),(6,.ptr 1 0),(8,.ptr 2 0),(10,.ptr 3 0),(57,iv a.aG.length),(58,iv i)],[some (.box (cF (eG a))),some (.box (cF (eG b))),some (.box (cF (eG mC))),some (.box [.acc 4,.d (.val (.int .i64 (m*a.bound+n*b.bound))),.d (.val (.bool false))]),some (.acc 3 (bG (comb m n (a.aG.take i) (b.aG.take i))))]⟩) (fun(i:Nat)=> a.aG.length-i) (0) ?_ (aw [some 0,some 1,some 2,some 3,none] ?_ ?_ rfl rfl) ?_
       rotate_left
       ·simp -implicitDefEqProofs only[go_sem,Z1,Z2,Z3,Z4]
        all_goals(first|done|(simp[comb, *])|(simp[aq, *];done)|(simp[aq];done)|(simp;omega)|skip)
       ·simp -implicitDefEqProofs only[go_sem,Z1,Z2,Z3,Z4]
        all_goals(first|done|(simp[comb, *])|(simp[aq, *];done)|(simp[aq];done)|(simp;omega)|skip)
       rotate_left
       ·omega
       ·rintro i hi
        rcases aa (i<a.aG.length) with h1|h1
        ·have h2:i<b.aG.length:=by omega
         have q1:=dj h5.1 h5.2 (hc1 a.aG[i] (ak h1))
         have q2:=dj h6.1 h6.2 (hc2 b.aG[i] (ak h2))
         have dy:(comb m n (a.aG.take i) (b.aG.take i)).length≤4:=by rw[kh (by simp;omega)];simp;omega
         try simp -implicitDefEqProofs only[go_sem,Z1,Z2,Z3,Z4,h1,h2]
         try(with_reducible refine aY (by kernel_rfl) ?_)
         repeat(first|with_reducible refine aY (by kernel_rfl) ?_|(with_reducible apply ar;case left=>first|omega|assumption|exact⟨jV _,by omega⟩|exact⟨fQ _,by omega⟩|exact⟨fL _,by omega⟩|exact⟨gZ _,by omega⟩|exact⟨iZ _,by omega⟩|rfl|(simp[*];done)|(simp;omega)|exact⟨hH _,by omega⟩|exact⟨gg _,by omega⟩|exact⟨jU _,by omega⟩|exact⟨gi _,by omega⟩|exact⟨jc _,by omega⟩))
         refine⟨i+1,?_,sL,aw [some 0,some 1,some 2,some 3,some 5] ?_ ?_ rfl rfl⟩
         rotate_left
         ·simp -implicitDefEqProofs only[go_sem,Z1,Z2,Z3,Z4]
          all_goals(first|done|((rw[eV h1 h2,←eC];rfl))|(simp[aq, *];done)|(simp[aq];done)|(simp;omega)|skip)
         ·simp -implicitDefEqProofs only[go_sem,Z1,Z2,Z3,Z4]
          all_goals(first|done|((rw[eV h1 h2,←eC];rfl))|(simp[aq, *];done)|(simp[aq];done)|(simp;omega)|skip)
         exact h1
        ·rw[ao (by omega),ao (by omega)]
         have e2:jn a m b n=⟨comb m n a.aG b.aG,m*a.bound+n*b.bound,false⟩:=by simp[jn, *]
         try simp -implicitDefEqProofs only[go_sem,Z1,Z2,Z3,Z4,h1]
         try(with_reducible refine aY (by kernel_rfl) ?_)
         refine dL [] [4] (gQ ⟨comb m n a.aG b.aG,m*a.bound+n*b.bound,false⟩) rfl ?_ ?_ ?_
         ·(simp -implicitDefEqProofs only[go_sem,Z1,Z2,Z3,Z4];repeat'(first|exact iE.nil|apply iE.cons|exact Vw.same (by first|rfl|simp -implicitDefEqProofs only[go_sem,Z1,Z2,Z3,Z4])|exact Vw.acc rfl rfl|exact Vw.ff rfl rfl (by simp -implicitDefEqProofs only[go_sem,Z1,Z2,Z3,Z4])|exact Vw.nil|apply Vw.agg|apply Vw.fn|refine Vw.box rfl rfl ?_))
         all_goals simp -implicitDefEqProofs only[go_sem,Z1,Z2,Z3,Z4]
         try(with_reducible refine aY (by kernel_rfl) ?_)
         rw[ph g1 g2 g3 g4,jl,e2]
         cases h7:dE ⟨comb m n a.aG b.aG,m*a.bound+n*b.bound,false⟩
         ·try simp -implicitDefEqProofs only[go_sem,Z1,Z2,Z3,Z4]
          try(with_reducible refine aY (by kernel_rfl) ?_)
          refine an ?_
          simp -implicitDefEqProofs only[go_sem,Z1,Z2,Z3,Z4]
          all_goals(first|done|(simp;done)|(simp;omega)|skip)
         ·try simp -implicitDefEqProofs only[go_sem,Z1,Z2,Z3,Z4]
          try(with_reducible refine aY (by kernel_rfl) ?_)
          refine an ?_
          simp -implicitDefEqProofs only[go_sem,Z1,Z2,Z3,Z4]
          all_goals(first|done|(simp;done)|(simp;omega)|skip)
theorem Hi(ls:List ia)(ts:List Int):C E.P 154 [lv (c9 ls),lv (bG ts)] [] (bN (.ja [av (eG (jF ls ts).1),bv (jF ls ts).2]) []):=by
 have cI:=jR
 refine lG (nt:=47) (rs:=[.cell 4 162,.tmp 5]) hm Tryz.func154 rfl rfl rfl rfl rfl (fun hl he=>?_)
 simp -implicitDefEqProofs only[go_sem,Z1,Z2,Z3,Z4] at hl⊢
 refine bQ [] (nx ls) ?_ ?_<;>simp -implicitDefEqProofs only[go_sem,Z1,Z2,Z3,Z4]
 try(with_reducible refine aY (by kernel_rfl) ?_)
 cases g1:fH ls
 ·try simp -implicitDefEqProofs only[go_sem,Z1,Z2,Z3,Z4]
  try(with_reducible refine aY (by kernel_rfl) ?_)
  refine an ?_
  simp -implicitDefEqProofs only[go_sem,Z1,Z2,Z3,Z4]
  all_goals(first|done|(simp[jF,g1];done)|(simp[jF,g1];omega)|skip)
 ·rcases aa (ts.length=ls.length) with g2|g2
  ·have e:jF ls ts=oY ls ts ⟨[0,0,0,0],0,false⟩:=by simp[jF,g1,g2]
   try simp -implicitDefEqProofs only[go_sem,Z1,Z2,Z3,Z4,g2]
   try(with_reducible refine aY (by kernel_rfl) ?_)
   repeat(first|with_reducible refine aY (by kernel_rfl) ?_|(with_reducible apply ar;case left=>first|omega|assumption|exact⟨jV _,by omega⟩|exact⟨fQ _,by omega⟩|exact⟨fL _,by omega⟩|exact⟨gZ _,by omega⟩|exact⟨iZ _,by omega⟩|rfl|(simp[*];done)|(simp;omega)|exact⟨hH _,by omega⟩|exact⟨gg _,by omega⟩|exact⟨jU _,by omega⟩|exact⟨gi _,by omega⟩|exact⟨jc _,by omega⟩))
   refine dm hm (fun(i:Nat) (out:ia)=> i≤ls.length∧jF ls ts=oY (ls.drop i) (ts.drop i) out) (fun(i:Nat) (out:ia)=> ⟨dB 47 .any [(1,lv (bG ts)),(4,.ptr 0 0),(6,.ptr 1 0),(24,lv (c9 ls)),(25,iv ls.length),(26,iv i)],[some (.box (cF (eG mC))),some (.box (cF (eG out)))]⟩) (fun(i:Nat) (out:ia)=> ls.length-i) (0) (⟨[0,0,0,0],0,false⟩) ?_ (aw [some 0,some 2] ?_ ?_ rfl rfl) ?_
   rotate_left
   ·simp -implicitDefEqProofs only[go_sem,Z1,Z2,Z3,Z4]
    all_goals(first|done|(simp[bG,aW])|(simp[aq, *];done)|(simp[aq];done)|(simp;omega)|skip)
   ·simp -implicitDefEqProofs only[go_sem,Z1,Z2,Z3,Z4]
    all_goals(first|done|(simp[bG,aW])|(simp[aq, *];done)|(simp[aq];done)|(simp;omega)|skip)
   rotate_left
   ·simp[e]
   ·rintro i out ⟨hi,hg⟩
    rcases aa (i<ls.length) with h1|h1
    ·have h2:i<ts.length:=by omega
     rw[FG h1 h2] at hg
     try simp -implicitDefEqProofs only[go_sem,Z1,Z2,Z3,Z4,h1,h2]
     try(with_reducible refine aY (by kernel_rfl) ?_)
     refine bQ [] (yy out 1 ls[i] ts[i]) ?_ ?_<;>simp -implicitDefEqProofs only[go_sem,Z1,Z2,Z3,Z4]
     try(with_reducible refine aY (by kernel_rfl) ?_)
     cases h3:(dN out 1 ls[i] ts[i]).2
     ·rw[h3] at hg
      simp only[Bool.false_eq_true,if_false] at hg
      try simp -implicitDefEqProofs only[go_sem,Z1,Z2,Z3,Z4]
      try(with_reducible refine aY (by kernel_rfl) ?_)
      refine an ?_
      simp -implicitDefEqProofs only[go_sem,Z1,Z2,Z3,Z4]
      all_goals(first|done|(simp[hg];done)|(simp[hg];omega)|skip)
     ·rw[h3] at hg
      simp only[if_true] at hg
      try simp -implicitDefEqProofs only[go_sem,Z1,Z2,Z3,Z4]
      try(with_reducible refine aY (by kernel_rfl) ?_)
      refine⟨by omega,?_⟩
      refine⟨i+1,(dN out 1 ls[i] ts[i]).1,?_,sL,aw [some 0,some 1] ?_ ?_ rfl rfl⟩
      rotate_left
      ·simp -implicitDefEqProofs only[go_sem,Z1,Z2,Z3,Z4]
       all_goals(first|done|(simp[aq, *];done)|(simp[aq];done)|(simp;omega)|skip)
      ·simp -implicitDefEqProofs only[go_sem,Z1,Z2,Z3,Z4]
       all_goals(first|done|(simp[aq, *];done)|(simp[aq];done)|(simp;omega)|skip)
      exact⟨by omega,hg⟩
    ·rw[al (by omega),al (by omega),oY] at hg
     try simp -implicitDefEqProofs only[go_sem,Z1,Z2,Z3,Z4,h1]
     try(with_reducible refine aY (by kernel_rfl) ?_)
     refine an ?_
     simp -implicitDefEqProofs only[go_sem,Z1,Z2,Z3,Z4]
     all_goals(first|done|(simp[hg];done)|(simp[hg];omega)|skip)
  ·have g2':¬ (ts.length:Int)=ls.length:=by omega
   try simp -implicitDefEqProofs only[go_sem,Z1,Z2,Z3,Z4,g2']
   try(with_reducible refine aY (by kernel_rfl) ?_)
   refine an ?_
   simp -implicitDefEqProofs only[go_sem,Z1,Z2,Z3,Z4]
   all_goals(first|done|(simp[jF,g1,g2];done)|(simp[jF,g1,g2];omega)|skip)
theorem JE(ls:List ia)(ts:List Int):C E.P 79 [lv (c9 ls),lv (bG ts)] [] (bN (bv (qS ls ts)) []):=by
 have cI:=jR
 refine lG (nt:=18) (rs:=[.tmp 4]) hm Tryz.func79 rfl rfl rfl rfl rfl (fun hl he=>?_)
 simp -implicitDefEqProofs only[go_sem,Z1,Z2,Z3,Z4] at hl⊢
 refine bQ [] (Hi ls ts) ?_ ?_<;>simp -implicitDefEqProofs only[go_sem,Z1,Z2,Z3,Z4]
 try(with_reducible refine aY (by kernel_rfl) ?_)
 cases h:(jF ls ts).2
 ·try simp -implicitDefEqProofs only[go_sem,Z1,Z2,Z3,Z4]
  try(with_reducible refine aY (by kernel_rfl) ?_)
  refine an ?_
  simp -implicitDefEqProofs only[go_sem,Z1,Z2,Z3,Z4]
  all_goals(first|done|(simp[qS,h];done)|(simp[qS,h];omega)|skip)
 ·try simp -implicitDefEqProofs only[go_sem,Z1,Z2,Z3,Z4]
  try(with_reducible refine aY (by kernel_rfl) ?_)
  refine bQ [] (yf (jF ls ts).1) ?_ ?_<;>simp -implicitDefEqProofs only[go_sem,Z1,Z2,Z3,Z4]
  try(with_reducible refine aY (by kernel_rfl) ?_)
  refine an ?_
  simp -implicitDefEqProofs only[go_sem,Z1,Z2,Z3,Z4]
  all_goals(first|done|(simp[qS,h];done)|(simp[qS,h];omega)|skip)
end Go.Proofs.YtabembjmeobhoaaGreat
