/-
  The walks of constraints and their certificates. A step towards the exact laws.
-/
import Derived.Test.YtpidddienjoleaaGreatKCH
import Derived.Test.YtpidddienjoleaaGreatKCE
set_option linter.unusedVariables false
set_option linter.unusedSimpArgs false
namespace Go.Proofs.YtpidddienjoleaaGreat
open Go.Eng Go.Mod
open Int renaming reduceEq→Z1,reduceLT→Z2,reduceLE→Z3,reduceToNat→Z4
set_option maxRecDepth 100000
set_option maxHeartbeats 3200000
theorem qp(n:Int):C E.P 187 [iv n] [] (aM (bv (nj n)) []):=by
 refine gT (nt:=5) (rs:=[.tmp 2]) hm Tryz.func187 fun hl he hLB=>?_
 refine aD [] (b6 n (-1000000) 1000000) ?_
 try with_reducible refine iK ?_
 refine ab ?_
 refine sB ?_
 all_goals(first|done|(simp[nj];done)|(simp[nj];omega)|skip)
theorem cz(l:fq):C E.P 130 [av (dZ l)] [] (aM (bv (c5 l)) []):=by
 refine gT (nt:=25) (rs:=[.tmp 2]) hm Tryz.func130 fun hl he hLB=>?_
 refine al hm (fun(i:Nat)=> i≤l.aq.length∧l.aq.all nj=(l.aq.drop i).all nj) (fun(i:Nat)=> ⟨bW 25 .any [(1,.ptr 0 0),(6,lv (aO l.aq)),(7,iv l.aq.length),(8,iv i)],[some (.box (bn (dZ l)))]⟩) (fun(i:Nat)=> l.aq.length-i) (0) ?_ (ah [some 0] ?_ ?_ rfl rfl) ?_
 rotate_left
 ·refine sB ?_
  all_goals(first|done|(simp[aa, *];done)|(simp[aa];done)|(simp;omega)|skip)
 ·refine sB ?_
  all_goals(first|done|(simp[aa, *];done)|(simp[aa];done)|(simp;omega)|skip)
 rotate_left
 ·simp
 ·rintro i ⟨hi,hg⟩
  rcases Classical.em (i<l.aq.length) with h1|h1
  ·rw[List.drop_eq_getElem_cons h1,List.all_cons] at hg
   try simp -implicitDefEqProofs only[go_sem,Z1,Z2,Z3,Z4,h1]
   try with_reducible refine iK ?_
   refine aD [] (qp l.aq[i]) ?_
   try with_reducible refine iK ?_
   cases h2:nj l.aq[i]
   ·rw[h2,Bool.false_and] at hg
    have e:c5 l=false:=by simp[c5,hg]
    try simp -implicitDefEqProofs only[go_sem,Z1,Z2,Z3,Z4]
    try with_reducible refine iK ?_
    refine ab ?_
    refine sB ?_
    all_goals(first|done|(simp[e];done)|(simp[e];omega)|skip)
   ·rw[h2,Bool.true_and] at hg
    try simp -implicitDefEqProofs only[go_sem,Z1,Z2,Z3,Z4]
    try with_reducible refine iK ?_
    refine⟨by omega,?_⟩
    refine⟨i+1,?_,?_,ah [some 0] ?_ ?_ rfl rfl⟩
    rotate_left
    ·show _ < _
     omega
    ·refine sB ?_
     all_goals(first|done|(simp[aa, *];done)|(simp[aa];done)|(simp;omega)|skip)
    ·refine sB ?_
     all_goals(first|done|(simp[aa, *];done)|(simp[aa];done)|(simp;omega)|skip)
    exact⟨by omega,hg⟩
  ·rw[List.drop_of_length_le (by omega),List.all_nil] at hg
   rcases Classical.em ((l.aq.length:Int)=4) with h3|h3
   ·have h3':l.aq.length=4:=by omega
    have k3:=eq_true h3
    try simp -implicitDefEqProofs only[go_sem,Z1,Z2,Z3,Z4,h1,k3]
    try with_reducible refine iK ?_
    refine aD [] (qp l.bound) ?_
    try with_reducible refine iK ?_
    refine ab ?_
    refine sB ?_
    all_goals(first|done|(simp[c5,hg,h3'];done)|(simp[c5,hg,h3'];omega)|skip)
   ·have h3':¬l.aq.length=4:=by omega
    try simp -implicitDefEqProofs only[go_sem,Z1,Z2,Z3,Z4,h1,h3]
    try with_reducible refine iK ?_
    refine ab ?_
    refine sB ?_
    all_goals(first|done|(simp[c5,hg,h3'];done)|(simp[c5,hg,h3'];omega)|skip)
theorem zu(l:fq):C E.P 120 [av (dZ l)] [] (aM (av (dZ (tU l))) []):=by
 refine gT (nt:=33) (rs:=[.cell 2 66]) hm Tryz.func120 fun hl he hLB=>?_
 refine aD [] (cz l) ?_
 try with_reducible refine iK ?_
 cases h:c5 l
 ·try simp -implicitDefEqProofs only[go_sem,Z1,Z2,Z3,Z4]
  try with_reducible refine iK ?_
  refine ab ?_
  refine sB ?_
  all_goals(first|done|(simp[tU,h];done)|(simp[tU,h];omega)|skip)
 ·obtain⟨h4,hc,hb⟩:=fN.1 h
  have e:tU l=⟨l.aq.map fun c=>-c,-l.bound,!l.strict⟩:=by simp[tU,h]
  try simp -implicitDefEqProofs only[go_sem,Z1,Z2,Z3,Z4]
  try with_reducible refine iK ?_
  refine⟨by omega,?_⟩
  refine al hm (fun(i:Nat)=> i≤l.aq.length) (fun(i:Nat)=> ⟨bW 33 .any [(2,.ptr 0 0),(3,.ptr 1 0),(18,lv (aO l.aq)),(19,iv l.aq.length),(20,iv i)],[some (.box (bn (dZ kf))),some (.box [.acc 2,.d (.val (.int .i64 (-l.bound))),.d (.val (.bool (!l.strict)))]),some (.acc 3 (aO ((l.aq.take i).map fun c=>-c)))]⟩) (fun(i:Nat)=> l.aq.length-i) (0) ?_ (ah [some 1,some 2,none] ?_ ?_ rfl rfl) ?_
  rotate_left
  ·refine sB ?_
   all_goals(first|done|(simp[aa, *];done)|(simp[aa];done)|(simp;omega)|skip)
  ·refine sB ?_
   all_goals(first|done|(simp[aa, *];done)|(simp[aa];done)|(simp;omega)|skip)
  rotate_left
  ·omega
  ·rintro i hi
   rcases Classical.em (i<l.aq.length) with h1|h1
   ·have hn:=hc l.aq[i] (List.getElem_mem h1)
    try simp -implicitDefEqProofs only[go_sem,Z1,Z2,Z3,Z4,h1]
    try with_reducible refine iK ?_
    refine⟨by omega,by omega,by omega,?_⟩
    refine⟨i+1,?_,?_,ah [some 0,some 1,some 3] ?_ ?_ rfl rfl⟩
    rotate_left
    ·show _ < _
     omega
    ·refine sB ?_
     all_goals(first|done|((rw[List.take_add_one,List.getElem?_eq_getElem h1,List.map_append,←cW];rfl))|(simp[aa, *];done)|(simp[aa];done)|(simp;omega)|skip)
    ·refine sB ?_
     all_goals(first|done|((rw[List.take_add_one,List.getElem?_eq_getElem h1,List.map_append,←cW];rfl))|(simp[aa, *];done)|(simp[aa];done)|(simp;omega)|skip)
    exact h1
   ·try simp -implicitDefEqProofs only[go_sem,Z1,Z2,Z3,Z4,h1]
    try with_reducible refine iK ?_
    refine ab ?_
    refine sB ?_
    rw[List.take_of_length_le (by omega),e]
    simp[dZ]
theorem vI(c:Int):C E.P 251 [iv c] [] (aM (bv (decide (c≠0))) []):=by
 refine gT (nt:=5) (rs:=[.tmp 2]) hm Tryz.func251 fun hl he hLB=>?_
 refine ab ?_
 refine sB ?_
 all_goals(first|done|(simp;done)|(simp;omega)|skip)
theorem Ko(l:fq):l.aq.any (fun c=>decide (c≠0))= !flat l:=by
 simp[flat,List.all_eq_not_any_not]
theorem zd(l:fq):C E.P 216 [av (dZ l)] [] (aM (bv (c5 l&&flat l)) []):=by
 refine gT (nt:=11) (rs:=[.tmp 2]) hm Tryz.func216 fun hl he hLB=>?_
 refine aD [] (cz l) ?_
 try with_reducible refine iK ?_
 cases h:c5 l
 ·try simp -implicitDefEqProofs only[go_sem,Z1,Z2,Z3,Z4]
  try with_reducible refine iK ?_
  refine ab ?_
  refine sB ?_
  all_goals(first|done|(simp;done)|(simp;omega)|skip)
 ·try simp -implicitDefEqProofs only[go_sem,Z1,Z2,Z3,Z4]
  try with_reducible refine iK ?_
  refine aD [] (jY 251 [] rfl (fun c=>decide (c≠0)) l.aq (fun c _=>vI c)) ?_
  try with_reducible refine iK ?_
  refine ab ?_
  refine sB ?_
  rw[Ko]
  simp
theorem qa(l:fq):C E.P 161 [av (dZ l)] [] (aM (bv (lN l)) []):=by
 refine gT (nt:=19) (rs:=[.tmp 2]) hm Tryz.func161 fun hl he hLB=>?_
 refine aD [] (zd l) ?_
 try with_reducible refine iK ?_
 cases h:c5 l&&flat l
 ·have e:lN l=false:=by
   simp only[lN]
   rw[←Bool.and_assoc,h]
   rfl
  try simp -implicitDefEqProofs only[go_sem,Z1,Z2,Z3,Z4]
  try with_reducible refine iK ?_
  refine ab ?_
  refine sB ?_
  all_goals(first|done|(simp[e];done)|(simp[e];omega)|skip)
 ·have e:lN l=(decide (l.bound<0)||(decide (l.bound=0)&&l.strict)):=by
   simp only[lN]
   rw[←Bool.and_assoc,h]
   rfl
  rcases Classical.em (l.bound<0) with h1|h1
  ·try simp -implicitDefEqProofs only[go_sem,Z1,Z2,Z3,Z4,h1]
   try with_reducible refine iK ?_
   refine ab ?_
   refine sB ?_
   all_goals(first|done|(simp[e,h1];done)|(simp[e,h1];omega)|skip)
  ·rcases Classical.em (l.bound=0) with h2|h2
   ·try simp -implicitDefEqProofs only[go_sem,Z1,Z2,Z3,Z4,h1,h2]
    try with_reducible refine iK ?_
    refine ab ?_
    refine sB ?_
    all_goals(first|done|(simp[e,h1,h2];done)|(simp[e,h1,h2];omega)|skip)
   ·try simp -implicitDefEqProofs only[go_sem,Z1,Z2,Z3,Z4,h1,h2]
    try with_reducible refine iK ?_
    refine ab ?_
    refine sB ?_
    all_goals(first|done|(simp[e,h1,h2];done)|(simp[e,h1,h2];omega)|skip)
theorem tf(l:fq):C E.P 129 [av (dZ l)] [] (aM (bv (!c5 l)) []):=by
 refine gT (nt:=6) (rs:=[.tmp 2]) hm Tryz.func129 fun hl he hLB=>?_
 refine aD [] (cz l) ?_
 try with_reducible refine iK ?_
 refine ab ?_
 refine sB ?_
 all_goals(first|done|(simp;done)|(simp;omega)|skip)
theorem gk(ls:List fq):C E.P 57 [lv (bE ls)] [] (aM (bv (dQ ls)) []):=by
 refine gT (nt:=11) (rs:=[.tmp 2]) hm Tryz.func57 fun hl he hLB=>?_
 rcases Classical.em ((ls.length:Int)≤20) with h|h
 ·have h':ls.length≤20:=by omega
  try simp -implicitDefEqProofs only[go_sem,Z1,Z2,Z3,Z4,h]
  try with_reducible refine iK ?_
  refine aD [] (qT 129 [] rfl (fun l=>!c5 l) ls (fun l _=>tf l)) ?_
  try with_reducible refine iK ?_
  refine ab ?_
  refine sB ?_
  all_goals(first|done|(simp[dQ,h',List.all_eq_not_any_not];done)|(simp[dQ,h',List.all_eq_not_any_not];omega)|skip)
 ·have h':¬ls.length≤20:=by omega
  try simp -implicitDefEqProofs only[go_sem,Z1,Z2,Z3,Z4,h]
  try with_reducible refine iK ?_
  refine ab ?_
  refine sB ?_
  all_goals(first|done|(simp[dQ,h'];done)|(simp[dQ,h'];omega)|skip)
theorem qg(a:fq)(m:Int)(b:fq)(n:Int):C E.P 250 [av (dZ a),iv m,av (dZ b),iv n] [] (aM (.eL [av (dZ (cR a m b n).1),bv (cR a m b n).2]) []):=by
 refine gT (nt:=87) (rs:=[.cell 8 66,.tmp 9]) hm Tryz.func250 fun hl he hLB=>?_
 refine aD [] (cz a) ?_
 try with_reducible refine iK ?_
 cases g1:c5 a
 ·try simp -implicitDefEqProofs only[go_sem,Z1,Z2,Z3,Z4]
  try with_reducible refine iK ?_
  refine ab ?_
  refine sB ?_
  all_goals(first|done|(simp[cR,g1];done)|(simp[cR,g1];omega)|skip)
 ·try simp -implicitDefEqProofs only[go_sem,Z1,Z2,Z3,Z4]
  try with_reducible refine iK ?_
  refine aD [] (cz b) ?_
  try with_reducible refine iK ?_
  cases g2:c5 b
  ·try simp -implicitDefEqProofs only[go_sem,Z1,Z2,Z3,Z4]
   try with_reducible refine iK ?_
   refine ab ?_
   refine sB ?_
   all_goals(first|done|(simp[cR,g1,g2];done)|(simp[cR,g1,g2];omega)|skip)
  ·try simp -implicitDefEqProofs only[go_sem,Z1,Z2,Z3,Z4]
   try with_reducible refine iK ?_
   refine aD [] (b6 m 0 1000000) ?_
   try with_reducible refine iK ?_
   cases g3:within m 0 1000000
   ·try simp -implicitDefEqProofs only[go_sem,Z1,Z2,Z3,Z4]
    try with_reducible refine iK ?_
    refine ab ?_
    refine sB ?_
    all_goals(first|done|(simp[cR,g1,g2,g3];done)|(simp[cR,g1,g2,g3];omega)|skip)
   ·try simp -implicitDefEqProofs only[go_sem,Z1,Z2,Z3,Z4]
    try with_reducible refine iK ?_
    refine aD [] (b6 n 0 1000000) ?_
    try with_reducible refine iK ?_
    cases g4:within n 0 1000000
    ·try simp -implicitDefEqProofs only[go_sem,Z1,Z2,Z3,Z4]
     try with_reducible refine iK ?_
     refine ab ?_
     refine sB ?_
     all_goals(first|done|(simp[cR,g1,g2,g3,g4];done)|(simp[cR,g1,g2,g3,g4];omega)|skip)
    ·obtain⟨hn1,hc1,hb1⟩:=fN.1 g1
     obtain⟨hn2,hc2,hb2⟩:=fN.1 g2
     have h5:=br.1 g3
     have h6:=br.1 g4
     have p1:=cH h5.1 h5.2 hb1
     have p2:=cH h6.1 h6.2 hb2
     rcases Classical.em (0<m) with t1|t1
     ·cases t2:a.strict
      ·rcases Classical.em (0<n) with t3|t3
       ·try simp -implicitDefEqProofs only[go_sem,Z1,Z2,Z3,Z4,t1,t3,t2]
        try with_reducible refine iK ?_
        repeat(with_reducible apply And.intro;exact sO)
        refine al hm (fun(i:Nat)=> i≤a.aq.length) (fun(i:Nat)=> ⟨bW 87 .any [(1,iv m),(3,iv n),(4,.ptr 0 0),(6,.ptr 1 0),(8,.ptr 2 0),(10,.ptr 3 0),(57,iv a.aq.length),(58,iv i)],[some (.box (bn (dZ a))),some (.box (bn (dZ b))),some (.box (bn (dZ kf))),some (.box [.acc 4,.d (.val (.int .i64 (m*a.bound+n*b.bound))),.d (.val (.bool b.strict))]),some (.acc 3 (aO (comb m n (a.aq.take i) (b.aq.take i))))]⟩) (fun(i:Nat)=> a.aq.length-i) (0) ?_ (ah [some 0,some 1,some 2,some 3,none] ?_ ?_ rfl rfl) ?_
        rotate_left
        ·refine sB ?_
         all_goals(first|done|(simp[comb, *])|(simp[aa, *];done)|(simp[aa];done)|(simp;omega)|skip)
        ·refine sB ?_
         all_goals(first|done|(simp[comb, *])|(simp[aa, *];done)|(simp[aa];done)|(simp;omega)|skip)
        rotate_left
        ·omega
        ·rintro i hi
         rcases Classical.em (i<a.aq.length) with h1|h1
         ·have h2:i<b.aq.length:=by omega
          have q1:=cH h5.1 h5.2 (hc1 a.aq[i] (List.getElem_mem h1))
          have q2:=cH h6.1 h6.2 (hc2 b.aq[i] (List.getElem_mem h2))
          have hlen:(comb m n (a.aq.take i) (b.aq.take i)).length≤4:=by rw[jc (by simp;omega)];simp;omega
          try simp -implicitDefEqProofs only[go_sem,Z1,Z2,Z3,Z4,h1,h2]
          try with_reducible refine iK ?_
          repeat(with_reducible apply And.intro;exact sO)
          refine⟨i+1,?_,?_,ah [some 0,some 1,some 2,some 3,some 5] ?_ ?_ rfl rfl⟩
          rotate_left
          ·show _ < _
           omega
          ·refine sB ?_
           all_goals(first|done|((rw[de h1 h2,←cW];rfl))|(simp[aa, *];done)|(simp[aa];done)|(simp;omega)|skip)
          ·refine sB ?_
           all_goals(first|done|((rw[de h1 h2,←cW];rfl))|(simp[aa, *];done)|(simp[aa];done)|(simp;omega)|skip)
          exact h1
         ·rw[List.take_of_length_le (by omega),List.take_of_length_le (by omega)]
          have e2:jC a m b n=⟨comb m n a.aq b.aq,m*a.bound+n*b.bound,b.strict⟩:=by simp[jC, *]
          try simp -implicitDefEqProofs only[go_sem,Z1,Z2,Z3,Z4,h1]
          try with_reducible refine iK ?_
          refine bG [] [4] (cz ⟨comb m n a.aq b.aq,m*a.bound+n*b.bound,b.strict⟩) rfl ?_ ?_ ?_
          ·exact sV
          all_goals simp -implicitDefEqProofs only[go_sem,Z1,Z2,Z3,Z4]
          try with_reducible refine iK ?_
          rw[lX g1 g2 g3 g4,kW,e2]
          cases h7:c5 ⟨comb m n a.aq b.aq,m*a.bound+n*b.bound,b.strict⟩
          ·try simp -implicitDefEqProofs only[go_sem,Z1,Z2,Z3,Z4]
           try with_reducible refine iK ?_
           refine ab ?_
           refine sB ?_
           all_goals(first|done|(simp;done)|(simp;omega)|skip)
          ·try simp -implicitDefEqProofs only[go_sem,Z1,Z2,Z3,Z4]
           try with_reducible refine iK ?_
           refine ab ?_
           refine sB ?_
           all_goals(first|done|(simp;done)|(simp;omega)|skip)
       ·try simp -implicitDefEqProofs only[go_sem,Z1,Z2,Z3,Z4,t1,t3,t2]
        try with_reducible refine iK ?_
        repeat(with_reducible apply And.intro;exact sO)
        refine al hm (fun(i:Nat)=> i≤a.aq.length) (fun(i:Nat)=> ⟨bW 87 .any [(1,iv m),(3,iv n),(4,.ptr 0 0),(6,.ptr 1 0),(8,.ptr 2 0),(10,.ptr 3 0),(57,iv a.aq.length),(58,iv i)],[some (.box (bn (dZ a))),some (.box (bn (dZ b))),some (.box (bn (dZ kf))),some (.box [.acc 4,.d (.val (.int .i64 (m*a.bound+n*b.bound))),.d (.val (.bool false))]),some (.acc 3 (aO (comb m n (a.aq.take i) (b.aq.take i))))]⟩) (fun(i:Nat)=> a.aq.length-i) (0) ?_ (ah [some 0,some 1,some 2,some 3,none] ?_ ?_ rfl rfl) ?_
        rotate_left
        ·refine sB ?_
         all_goals(first|done|(simp[comb, *])|(simp[aa, *];done)|(simp[aa];done)|(simp;omega)|skip)
        ·refine sB ?_
         all_goals(first|done|(simp[comb, *])|(simp[aa, *];done)|(simp[aa];done)|(simp;omega)|skip)
        rotate_left
        ·omega
        ·rintro i hi
         rcases Classical.em (i<a.aq.length) with h1|h1
         ·have h2:i<b.aq.length:=by omega
          have q1:=cH h5.1 h5.2 (hc1 a.aq[i] (List.getElem_mem h1))
          have q2:=cH h6.1 h6.2 (hc2 b.aq[i] (List.getElem_mem h2))
          have hlen:(comb m n (a.aq.take i) (b.aq.take i)).length≤4:=by rw[jc (by simp;omega)];simp;omega
          try simp -implicitDefEqProofs only[go_sem,Z1,Z2,Z3,Z4,h1,h2]
          try with_reducible refine iK ?_
          repeat(with_reducible apply And.intro;exact sO)
          refine⟨i+1,?_,?_,ah [some 0,some 1,some 2,some 3,some 5] ?_ ?_ rfl rfl⟩
          rotate_left
          ·show _ < _
           omega
          ·refine sB ?_
           all_goals(first|done|((rw[de h1 h2,←cW];rfl))|(simp[aa, *];done)|(simp[aa];done)|(simp;omega)|skip)
          ·refine sB ?_
           all_goals(first|done|((rw[de h1 h2,←cW];rfl))|(simp[aa, *];done)|(simp[aa];done)|(simp;omega)|skip)
          exact h1
         ·rw[List.take_of_length_le (by omega),List.take_of_length_le (by omega)]
          have e2:jC a m b n=⟨comb m n a.aq b.aq,m*a.bound+n*b.bound,false⟩:=by simp[jC, *]
          try simp -implicitDefEqProofs only[go_sem,Z1,Z2,Z3,Z4,h1]
          try with_reducible refine iK ?_
          refine bG [] [4] (cz ⟨comb m n a.aq b.aq,m*a.bound+n*b.bound,false⟩) rfl ?_ ?_ ?_
          ·exact sV
          all_goals simp -implicitDefEqProofs only[go_sem,Z1,Z2,Z3,Z4]
          try with_reducible refine iK ?_
          rw[lX g1 g2 g3 g4,kW,e2]
          cases h7:c5 ⟨comb m n a.aq b.aq,m*a.bound+n*b.bound,false⟩
          ·try simp -implicitDefEqProofs only[go_sem,Z1,Z2,Z3,Z4]
           try with_reducible refine iK ?_
           refine ab ?_
           refine sB ?_
           all_goals(first|done|(simp;done)|(simp;omega)|skip)
          ·try simp -implicitDefEqProofs only[go_sem,Z1,Z2,Z3,Z4]
           try with_reducible refine iK ?_
           refine ab ?_
           refine sB ?_
           all_goals(first|done|(simp;done)|(simp;omega)|skip)
      ·try simp -implicitDefEqProofs only[go_sem,Z1,Z2,Z3,Z4,t1,t2]
       try with_reducible refine iK ?_
       repeat(with_reducible apply And.intro;exact sO)
       refine al hm (fun(i:Nat)=> i≤a.aq.length) (fun(i:Nat)=> ⟨bW 87 .any [(1,iv m),(3,iv n),(4,.ptr 0 0),(6,.ptr 1 0),(8,.ptr 2 0),(10,.ptr 3 0),(57,iv a.aq.length),(58,iv i)],[some (.box (bn (dZ a))),some (.box (bn (dZ b))),some (.box (bn (dZ kf))),some (.box [.acc 4,.d (.val (.int .i64 (m*a.bound+n*b.bound))),.d (.val (.bool true))]),some (.acc 3 (aO (comb m n (a.aq.take i) (b.aq.take i))))]⟩) (fun(i:Nat)=> a.aq.length-i) (0) ?_ (ah [some 0,some 1,some 2,some 3,none] ?_ ?_ rfl rfl) ?_
       rotate_left
       ·refine sB ?_
        all_goals(first|done|(simp[comb, *])|(simp[aa, *];done)|(simp[aa];done)|(simp;omega)|skip)
       ·refine sB ?_
        all_goals(first|done|(simp[comb, *])|(simp[aa, *];done)|(simp[aa];done)|(simp;omega)|skip)
       rotate_left
       ·omega
       ·rintro i hi
        rcases Classical.em (i<a.aq.length) with h1|h1
        ·have h2:i<b.aq.length:=by omega
         have q1:=cH h5.1 h5.2 (hc1 a.aq[i] (List.getElem_mem h1))
         have q2:=cH h6.1 h6.2 (hc2 b.aq[i] (List.getElem_mem h2))
         have hlen:(comb m n (a.aq.take i) (b.aq.take i)).length≤4:=by rw[jc (by simp;omega)];simp;omega
         try simp -implicitDefEqProofs only[go_sem,Z1,Z2,Z3,Z4,h1,h2]
         try with_reducible refine iK ?_
         repeat(with_reducible apply And.intro;exact sO)
         refine⟨i+1,?_,?_,ah [some 0,some 1,some 2,some 3,some 5] ?_ ?_ rfl rfl⟩
         rotate_left
         ·show _ < _
          omega
         ·refine sB ?_
          all_goals(first|done|((rw[de h1 h2,←cW];rfl))|(simp[aa, *];done)|(simp[aa];done)|(simp;omega)|skip)
         ·refine sB ?_
          all_goals(first|done|((rw[de h1 h2,←cW];rfl))|(simp[aa, *];done)|(simp[aa];done)|(simp;omega)|skip)
         exact h1
        ·rw[List.take_of_length_le (by omega),List.take_of_length_le (by omega)]
         have e2:jC a m b n=⟨comb m n a.aq b.aq,m*a.bound+n*b.bound,true⟩:=by simp[jC, *]
         try simp -implicitDefEqProofs only[go_sem,Z1,Z2,Z3,Z4,h1]
         try with_reducible refine iK ?_
         refine bG [] [4] (cz ⟨comb m n a.aq b.aq,m*a.bound+n*b.bound,true⟩) rfl ?_ ?_ ?_
         ·exact sV
         all_goals simp -implicitDefEqProofs only[go_sem,Z1,Z2,Z3,Z4]
         try with_reducible refine iK ?_
         rw[lX g1 g2 g3 g4,kW,e2]
         cases h7:c5 ⟨comb m n a.aq b.aq,m*a.bound+n*b.bound,true⟩
         ·try simp -implicitDefEqProofs only[go_sem,Z1,Z2,Z3,Z4]
          try with_reducible refine iK ?_
          refine ab ?_
          refine sB ?_
          all_goals(first|done|(simp;done)|(simp;omega)|skip)
         ·try simp -implicitDefEqProofs only[go_sem,Z1,Z2,Z3,Z4]
          try with_reducible refine iK ?_
          refine ab ?_
          refine sB ?_
          all_goals(first|done|(simp;done)|(simp;omega)|skip)
     ·rcases Classical.em (0<n) with t3|t3
      ·try simp -implicitDefEqProofs only[go_sem,Z1,Z2,Z3,Z4,t1,t3]
       try with_reducible refine iK ?_
       repeat(with_reducible apply And.intro;exact sO)
       refine al hm (fun(i:Nat)=> i≤a.aq.length) (fun(i:Nat)=> ⟨bW 87 .any [(1,iv m),(3,iv n),(4,.ptr 0 0),(6,.ptr 1 0),(8,.ptr 2 0),(10,.ptr 3 0),(57,iv a.aq.length),(58,iv i)],[some (.box (bn (dZ a))),some (.box (bn (dZ b))),some (.box (bn (dZ kf))),some (.box [.acc 4,.d (.val (.int .i64 (m*a.bound+n*b.bound))),.d (.val (.bool b.strict))]),some (.acc 3 (aO (comb m n (a.aq.take i) (b.aq.take i))))]⟩) (fun(i:Nat)=> a.aq.length-i) (0) ?_ (ah [some 0,some 1,some 2,some 3,none] ?_ ?_ rfl rfl) ?_
       rotate_left
       ·refine sB ?_
        all_goals(first|done|(simp[comb, *])|(simp[aa, *];done)|(simp[aa];done)|(simp;omega)|skip)
       ·refine sB ?_
        all_goals(first|done|(simp[comb, *])|(simp[aa, *];done)|(simp[aa];done)|(simp;omega)|skip)
       rotate_left
       ·omega
       ·rintro i hi
        rcases Classical.em (i<a.aq.length) with h1|h1
        ·have h2:i<b.aq.length:=by omega
         have q1:=cH h5.1 h5.2 (hc1 a.aq[i] (List.getElem_mem h1))
         have q2:=cH h6.1 h6.2 (hc2 b.aq[i] (List.getElem_mem h2))
         have hlen:(comb m n (a.aq.take i) (b.aq.take i)).length≤4:=by rw[jc (by simp;omega)];simp;omega
         try simp -implicitDefEqProofs only[go_sem,Z1,Z2,Z3,Z4,h1,h2]
         try with_reducible refine iK ?_
         repeat(with_reducible apply And.intro;exact sO)
         refine⟨i+1,?_,?_,ah [some 0,some 1,some 2,some 3,some 5] ?_ ?_ rfl rfl⟩
         rotate_left
         ·show _ < _
          omega
         ·refine sB ?_
          all_goals(first|done|((rw[de h1 h2,←cW];rfl))|(simp[aa, *];done)|(simp[aa];done)|(simp;omega)|skip)
         ·refine sB ?_
          all_goals(first|done|((rw[de h1 h2,←cW];rfl))|(simp[aa, *];done)|(simp[aa];done)|(simp;omega)|skip)
         exact h1
        ·rw[List.take_of_length_le (by omega),List.take_of_length_le (by omega)]
         have e2:jC a m b n=⟨comb m n a.aq b.aq,m*a.bound+n*b.bound,b.strict⟩:=by simp[jC, *]
         try simp -implicitDefEqProofs only[go_sem,Z1,Z2,Z3,Z4,h1]
         try with_reducible refine iK ?_
         refine bG [] [4] (cz ⟨comb m n a.aq b.aq,m*a.bound+n*b.bound,b.strict⟩) rfl ?_ ?_ ?_
         ·exact sV
         all_goals simp -implicitDefEqProofs only[go_sem,Z1,Z2,Z3,Z4]
         try with_reducible refine iK ?_
         rw[lX g1 g2 g3 g4,kW,e2]
         cases h7:c5 ⟨comb m n a.aq b.aq,m*a.bound+n*b.bound,b.strict⟩
         ·try simp -implicitDefEqProofs only[go_sem,Z1,Z2,Z3,Z4]
          try with_reducible refine iK ?_
          refine ab ?_
          refine sB ?_
          all_goals(first|done|(simp;done)|(simp;omega)|skip)
         ·try simp -implicitDefEqProofs only[go_sem,Z1,Z2,Z3,Z4]
          try with_reducible refine iK ?_
          refine ab ?_
          refine sB ?_
          all_goals(first|done|(simp;done)|(simp;omega)|skip)
      ·try simp -implicitDefEqProofs only[go_sem,Z1,Z2,Z3,Z4,t1,t3]
       try with_reducible refine iK ?_
       repeat(with_reducible apply And.intro;exact sO)
       refine al hm (fun(i:Nat)=> i≤a.aq.length) (fun(i:Nat)=> ⟨bW 87 .any [(1,iv m),(3,iv n),(4,.ptr 0 0),(6,.ptr 1 0),(8,.ptr 2 0),(10,.ptr 3 0),(57,iv a.aq.length),(58,iv i)],[some (.box (bn (dZ a))),some (.box (bn (dZ b))),some (.box (bn (dZ kf))),some (.box [.acc 4,.d (.val (.int .i64 (m*a.bound+n*b.bound))),.d (.val (.bool false))]),some (.acc 3 (aO (comb m n (a.aq.take i) (b.aq.take i))))]⟩) (fun(i:Nat)=> a.aq.length-i) (0) ?_ (ah [some 0,some 1,some 2,some 3,none] ?_ ?_ rfl rfl) ?_
       rotate_left
       ·refine sB ?_
        all_goals(first|done|(simp[comb, *])|(simp[aa, *];done)|(simp[aa];done)|(simp;omega)|skip)
       ·refine sB ?_
        all_goals(first|done|(simp[comb, *])|(simp[aa, *];done)|(simp[aa];done)|(simp;omega)|skip)
       rotate_left
       ·omega
       ·rintro i hi
        rcases Classical.em (i<a.aq.length) with h1|h1
        ·have h2:i<b.aq.length:=by omega
         have q1:=cH h5.1 h5.2 (hc1 a.aq[i] (List.getElem_mem h1))
         have q2:=cH h6.1 h6.2 (hc2 b.aq[i] (List.getElem_mem h2))
         have hlen:(comb m n (a.aq.take i) (b.aq.take i)).length≤4:=by rw[jc (by simp;omega)];simp;omega
         try simp -implicitDefEqProofs only[go_sem,Z1,Z2,Z3,Z4,h1,h2]
         try with_reducible refine iK ?_
         repeat(with_reducible apply And.intro;exact sO)
         refine⟨i+1,?_,?_,ah [some 0,some 1,some 2,some 3,some 5] ?_ ?_ rfl rfl⟩
         rotate_left
         ·show _ < _
          omega
         ·refine sB ?_
          all_goals(first|done|((rw[de h1 h2,←cW];rfl))|(simp[aa, *];done)|(simp[aa];done)|(simp;omega)|skip)
         ·refine sB ?_
          all_goals(first|done|((rw[de h1 h2,←cW];rfl))|(simp[aa, *];done)|(simp[aa];done)|(simp;omega)|skip)
         exact h1
        ·rw[List.take_of_length_le (by omega),List.take_of_length_le (by omega)]
         have e2:jC a m b n=⟨comb m n a.aq b.aq,m*a.bound+n*b.bound,false⟩:=by simp[jC, *]
         try simp -implicitDefEqProofs only[go_sem,Z1,Z2,Z3,Z4,h1]
         try with_reducible refine iK ?_
         refine bG [] [4] (cz ⟨comb m n a.aq b.aq,m*a.bound+n*b.bound,false⟩) rfl ?_ ?_ ?_
         ·exact sV
         all_goals simp -implicitDefEqProofs only[go_sem,Z1,Z2,Z3,Z4]
         try with_reducible refine iK ?_
         rw[lX g1 g2 g3 g4,kW,e2]
         cases h7:c5 ⟨comb m n a.aq b.aq,m*a.bound+n*b.bound,false⟩
         ·try simp -implicitDefEqProofs only[go_sem,Z1,Z2,Z3,Z4]
          try with_reducible refine iK ?_
          refine ab ?_
          refine sB ?_
          all_goals(first|done|(simp;done)|(simp;omega)|skip)
         ·try simp -implicitDefEqProofs only[go_sem,Z1,Z2,Z3,Z4]
          try with_reducible refine iK ?_
          refine ab ?_
          refine sB ?_
          all_goals(first|done|(simp;done)|(simp;omega)|skip)
theorem zJ(ls:List fq)(ts:List Int):C E.P 217 [lv (bE ls),lv (aO ts)] [] (aM (.eL [av (dZ (ix ls ts).1),bv (ix ls ts).2]) []):=by
 refine gT (nt:=47) (rs:=[.cell 4 66,.tmp 5]) hm Tryz.func217 fun hl he hLB=>?_
 refine aD [] (gk ls) ?_
 try with_reducible refine iK ?_
 cases g1:dQ ls
 ·try simp -implicitDefEqProofs only[go_sem,Z1,Z2,Z3,Z4]
  try with_reducible refine iK ?_
  refine ab ?_
  refine sB ?_
  all_goals(first|done|(simp[ix,g1];done)|(simp[ix,g1];omega)|skip)
 ·rcases Classical.em (ts.length=ls.length) with g2|g2
  ·have e:ix ls ts=vf ls ts ⟨[0,0,0,0],0,false⟩:=by simp[ix,g1,g2]
   try simp -implicitDefEqProofs only[go_sem,Z1,Z2,Z3,Z4,g2]
   try with_reducible refine iK ?_
   repeat(with_reducible apply And.intro;exact sO)
   refine bP hm (fun(i:Nat) (out:fq)=> i≤ls.length∧ix ls ts=vf (ls.drop i) (ts.drop i) out) (fun(i:Nat) (out:fq)=> ⟨bW 47 .any [(1,lv (aO ts)),(4,.ptr 0 0),(6,.ptr 1 0),(24,lv (bE ls)),(25,iv ls.length),(26,iv i)],[some (.box (bn (dZ kf))),some (.box (bn (dZ out)))]⟩) (fun(i:Nat) (out:fq)=> ls.length-i) (0) (⟨[0,0,0,0],0,false⟩) ?_ (ah [some 0,some 2] ?_ ?_ rfl rfl) ?_
   rotate_left
   ·refine sB ?_
    all_goals(first|done|(simp[aO,List.replicate])|(simp[aa, *];done)|(simp[aa];done)|(simp;omega)|skip)
   ·refine sB ?_
    all_goals(first|done|(simp[aO,List.replicate])|(simp[aa, *];done)|(simp[aa];done)|(simp;omega)|skip)
   rotate_left
   ·simp[e]
   ·rintro i out ⟨hi,hg⟩
    rcases Classical.em (i<ls.length) with h1|h1
    ·have h2:i<ts.length:=by omega
     rw[Gu h1 h2] at hg
     try simp -implicitDefEqProofs only[go_sem,Z1,Z2,Z3,Z4,h1,h2]
     try with_reducible refine iK ?_
     refine aD [] (qg out 1 ls[i] ts[i]) ?_
     try with_reducible refine iK ?_
     cases h3:(cR out 1 ls[i] ts[i]).2
     ·rw[h3] at hg
      simp only[Bool.false_eq_true,if_false] at hg
      try simp -implicitDefEqProofs only[go_sem,Z1,Z2,Z3,Z4]
      try with_reducible refine iK ?_
      refine ab ?_
      refine sB ?_
      all_goals(first|done|(simp[hg];done)|(simp[hg];omega)|skip)
     ·rw[h3] at hg
      simp only[if_true] at hg
      try simp -implicitDefEqProofs only[go_sem,Z1,Z2,Z3,Z4]
      try with_reducible refine iK ?_
      refine⟨by omega,?_⟩
      refine⟨i+1,(cR out 1 ls[i] ts[i]).1,?_,?_,ah [some 0,some 1] ?_ ?_ rfl rfl⟩
      rotate_left
      ·show _ < _
       omega
      ·refine sB ?_
       all_goals(first|done|(simp[aa, *];done)|(simp[aa];done)|(simp;omega)|skip)
      ·refine sB ?_
       all_goals(first|done|(simp[aa, *];done)|(simp[aa];done)|(simp;omega)|skip)
      exact⟨by omega,hg⟩
    ·rw[List.drop_of_length_le (by omega),List.drop_of_length_le (by omega),vf] at hg
     try simp -implicitDefEqProofs only[go_sem,Z1,Z2,Z3,Z4,h1]
     try with_reducible refine iK ?_
     refine ab ?_
     refine sB ?_
     all_goals(first|done|(simp[hg];done)|(simp[hg];omega)|skip)
  ·have g2':¬ (ts.length:Int)=ls.length:=by omega
   try simp -implicitDefEqProofs only[go_sem,Z1,Z2,Z3,Z4,g2']
   try with_reducible refine iK ?_
   refine ab ?_
   refine sB ?_
   all_goals(first|done|(simp[ix,g1,g2];done)|(simp[ix,g1,g2];omega)|skip)
theorem BR(ls:List fq)(ts:List Int):C E.P 162 [lv (bE ls),lv (aO ts)] [] (aM (bv (uZ ls ts)) []):=by
 refine gT (nt:=18) (rs:=[.tmp 4]) hm Tryz.func162 fun hl he hLB=>?_
 refine aD [] (zJ ls ts) ?_
 try with_reducible refine iK ?_
 cases h:(ix ls ts).2
 ·try simp -implicitDefEqProofs only[go_sem,Z1,Z2,Z3,Z4]
  try with_reducible refine iK ?_
  refine ab ?_
  refine sB ?_
  all_goals(first|done|(simp[uZ,h];done)|(simp[uZ,h];omega)|skip)
 ·try simp -implicitDefEqProofs only[go_sem,Z1,Z2,Z3,Z4]
  try with_reducible refine iK ?_
  refine aD [] (qa (ix ls ts).1) ?_
  try with_reducible refine iK ?_
  refine ab ?_
  refine sB ?_
  all_goals(first|done|(simp[uZ,h];done)|(simp[uZ,h];omega)|skip)
end Go.Proofs.YtpidddienjoleaaGreat
