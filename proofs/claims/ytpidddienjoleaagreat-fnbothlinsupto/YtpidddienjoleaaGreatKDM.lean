/-
  The walks of constraints and their certificates. A step towards the exact laws.
-/
import Derived.Test.YtpidddienjoleaaGreatKDH
import Derived.Test.YtpidddienjoleaaGreatKDE
set_option linter.unusedVariables false
set_option linter.unusedSimpArgs false
namespace Go.Proofs.YtpidddienjoleaaGreat
open Go.Eng Go.Mod
open Int renaming reduceEq→Z1,reduceLT→Z2,reduceLE→Z3,reduceToNat→Z4
set_option maxRecDepth 100000
set_option maxHeartbeats 3200000
theorem ra(n:Int):C E.P 187 [iv n] [] (aO (bv (fE n)) []):=by
 refine gT (nt:=5) (rs:=[.tmp 2]) hm Tryz.func187 fun hl he hLB=>?_
 refine aD [] (b6 n (-1000000) 1000000) ?_
 try with_reducible refine iK ?_
 refine ab ?_
 refine sB ?_
 all_goals(first|done|(simp[fE];done)|(simp[fE];omega)|skip)
theorem cJ(l:eQ):C E.P 130 [av (cX l)] [] (aO (bv (bR l)) []):=by
 refine gT (nt:=25) (rs:=[.tmp 2]) hm Tryz.func130 fun hl he hLB=>?_
 refine au hm (fun(i:Nat)=> i≤l.an.length∧l.an.all fE=(l.an.drop i).all fE) (fun(i:Nat)=> ⟨b9 25 .any [(1,.ptr 0 0),(6,lv (aJ l.an)),(7,iv l.an.length),(8,iv i)],[some (.box (bn (cX l)))]⟩) (fun(i:Nat)=> l.an.length-i) (0) ?_ (ah [some 0] ?_ ?_ rfl rfl) ?_
 rotate_left
 ·refine sB ?_
  all_goals(first|done|(simp[aa, *];done)|(simp[aa];done)|(simp;omega)|skip)
 ·refine sB ?_
  all_goals(first|done|(simp[aa, *];done)|(simp[aa];done)|(simp;omega)|skip)
 rotate_left
 ·simp
 ·rintro i ⟨hi,hg⟩
  rcases Classical.em (i<l.an.length) with h1|h1
  ·rw[List.drop_eq_getElem_cons h1,List.all_cons] at hg
   try simp -implicitDefEqProofs only[go_sem,Z1,Z2,Z3,Z4,h1]
   try with_reducible refine iK ?_
   refine aD [] (ra l.an[i]) ?_
   try with_reducible refine iK ?_
   cases h2:fE l.an[i]
   ·rw[h2,Bool.false_and] at hg
    have e:bR l=false:=by simp[bR,hg]
    try simp -implicitDefEqProofs only[go_sem,Z1,Z2,Z3,Z4]
    try with_reducible refine iK ?_
    refine ab ?_
    refine sB ?_
    all_goals(first|done|(simp[e];done)|(simp[e];omega)|skip)
   ·rw[h2,Bool.true_and] at hg
    try simp -implicitDefEqProofs only[go_sem,Z1,Z2,Z3,Z4]
    try with_reducible refine iK ?_
    refine⟨by omega,?_⟩
    refine⟨i+1,?_,?_,ah [some 0] ?_ ?_ rfl rfl⟩
    rotate_left
    ·show _ < _
     omega
    ·refine sB ?_
     all_goals(first|done|(simp[aa, *];done)|(simp[aa];done)|(simp;omega)|skip)
    ·refine sB ?_
     all_goals(first|done|(simp[aa, *];done)|(simp[aa];done)|(simp;omega)|skip)
    exact⟨by omega,hg⟩
  ·rw[List.drop_of_length_le (by omega),List.all_nil] at hg
   rcases Classical.em ((l.an.length:Int)=4) with h3|h3
   ·have h3':l.an.length=4:=by omega
    have k3:=eq_true h3
    try simp -implicitDefEqProofs only[go_sem,Z1,Z2,Z3,Z4,h1,k3]
    try with_reducible refine iK ?_
    refine aD [] (ra l.bound) ?_
    try with_reducible refine iK ?_
    refine ab ?_
    refine sB ?_
    all_goals(first|done|(simp[bR,hg,h3'];done)|(simp[bR,hg,h3'];omega)|skip)
   ·have h3':¬l.an.length=4:=by omega
    try simp -implicitDefEqProofs only[go_sem,Z1,Z2,Z3,Z4,h1,h3]
    try with_reducible refine iK ?_
    refine ab ?_
    refine sB ?_
    all_goals(first|done|(simp[bR,hg,h3'];done)|(simp[bR,hg,h3'];omega)|skip)
theorem Ap(l:eQ):C E.P 120 [av (cX l)] [] (aO (av (cX (iY l))) []):=by
 refine gT (nt:=33) (rs:=[.cell 2 66]) hm Tryz.func120 fun hl he hLB=>?_
 refine aD [] (cJ l) ?_
 try with_reducible refine iK ?_
 cases h:bR l
 ·try simp -implicitDefEqProofs only[go_sem,Z1,Z2,Z3,Z4]
  try with_reducible refine iK ?_
  refine ab ?_
  refine sB ?_
  all_goals(first|done|(simp[iY,h];done)|(simp[iY,h];omega)|skip)
 ·obtain⟨h4,hc,hb⟩:=fy.1 h
  have e:iY l=⟨l.an.map fun c=>-c,-l.bound,!l.strict⟩:=by simp[iY,h]
  try simp -implicitDefEqProofs only[go_sem,Z1,Z2,Z3,Z4]
  try with_reducible refine iK ?_
  refine⟨by omega,?_⟩
  refine au hm (fun(i:Nat)=> i≤l.an.length) (fun(i:Nat)=> ⟨b9 33 .any [(2,.ptr 0 0),(3,.ptr 1 0),(18,lv (aJ l.an)),(19,iv l.an.length),(20,iv i)],[some (.box (bn (cX jE))),some (.box [.acc 2,.d (.val (.int .i64 (-l.bound))),.d (.val (.bool (!l.strict)))]),some (.acc 3 (aJ ((l.an.take i).map fun c=>-c)))]⟩) (fun(i:Nat)=> l.an.length-i) (0) ?_ (ah [some 1,some 2,none] ?_ ?_ rfl rfl) ?_
  rotate_left
  ·refine sB ?_
   all_goals(first|done|(simp[aa, *];done)|(simp[aa];done)|(simp;omega)|skip)
  ·refine sB ?_
   all_goals(first|done|(simp[aa, *];done)|(simp[aa];done)|(simp;omega)|skip)
  rotate_left
  ·omega
  ·rintro i hi
   rcases Classical.em (i<l.an.length) with h1|h1
   ·have hn:=hc l.an[i] (List.getElem_mem h1)
    try simp -implicitDefEqProofs only[go_sem,Z1,Z2,Z3,Z4,h1]
    try with_reducible refine iK ?_
    refine⟨by omega,by omega,by omega,?_⟩
    refine⟨i+1,?_,?_,ah [some 0,some 1,some 3] ?_ ?_ rfl rfl⟩
    rotate_left
    ·show _ < _
     omega
    ·refine sB ?_
     all_goals(first|done|((rw[List.take_add_one,List.getElem?_eq_getElem h1,List.map_append,←cm];rfl))|(simp[aa, *];done)|(simp[aa];done)|(simp;omega)|skip)
    ·refine sB ?_
     all_goals(first|done|((rw[List.take_add_one,List.getElem?_eq_getElem h1,List.map_append,←cm];rfl))|(simp[aa, *];done)|(simp[aa];done)|(simp;omega)|skip)
    exact h1
   ·try simp -implicitDefEqProofs only[go_sem,Z1,Z2,Z3,Z4,h1]
    try with_reducible refine iK ?_
    refine ab ?_
    refine sB ?_
    rw[List.take_of_length_le (by omega),e]
    simp[cX]
theorem wY(c:Int):C E.P 251 [iv c] [] (aO (bv (decide (c≠0))) []):=by
 refine gT (nt:=5) (rs:=[.tmp 2]) hm Tryz.func251 fun hl he hLB=>?_
 refine ab ?_
 refine sB ?_
 all_goals(first|done|(simp;done)|(simp;omega)|skip)
theorem NK(l:eQ):l.an.any (fun c=>decide (c≠0))= !flat l:=by
 simp[flat,List.all_eq_not_any_not]
theorem Ac(l:eQ):C E.P 216 [av (cX l)] [] (aO (bv (bR l&&flat l)) []):=by
 refine gT (nt:=11) (rs:=[.tmp 2]) hm Tryz.func216 fun hl he hLB=>?_
 refine aD [] (cJ l) ?_
 try with_reducible refine iK ?_
 cases h:bR l
 ·try simp -implicitDefEqProofs only[go_sem,Z1,Z2,Z3,Z4]
  try with_reducible refine iK ?_
  refine ab ?_
  refine sB ?_
  all_goals(first|done|(simp;done)|(simp;omega)|skip)
 ·try simp -implicitDefEqProofs only[go_sem,Z1,Z2,Z3,Z4]
  try with_reducible refine iK ?_
  refine aD [] (kv 251 [] rfl (fun c=>decide (c≠0)) l.an (fun c _=>wY c)) ?_
  try with_reducible refine iK ?_
  refine ab ?_
  refine sB ?_
  rw[NK]
  simp
theorem qO(l:eQ):C E.P 161 [av (cX l)] [] (aO (bv (mq l)) []):=by
 refine gT (nt:=19) (rs:=[.tmp 2]) hm Tryz.func161 fun hl he hLB=>?_
 refine aD [] (Ac l) ?_
 try with_reducible refine iK ?_
 cases h:bR l&&flat l
 ·have e:mq l=false:=by
   simp only[mq]
   rw[←Bool.and_assoc,h]
   rfl
  try simp -implicitDefEqProofs only[go_sem,Z1,Z2,Z3,Z4]
  try with_reducible refine iK ?_
  refine ab ?_
  refine sB ?_
  all_goals(first|done|(simp[e];done)|(simp[e];omega)|skip)
 ·have e:mq l=(decide (l.bound<0)||(decide (l.bound=0)&&l.strict)):=by
   simp only[mq]
   rw[←Bool.and_assoc,h]
   rfl
  rcases Classical.em (l.bound<0) with h1|h1
  ·try simp -implicitDefEqProofs only[go_sem,Z1,Z2,Z3,Z4,h1]
   try with_reducible refine iK ?_
   refine ab ?_
   refine sB ?_
   all_goals(first|done|(simp[e,h1];done)|(simp[e,h1];omega)|skip)
  ·rcases Classical.em (l.bound=0) with h2|h2
   ·try simp -implicitDefEqProofs only[go_sem,Z1,Z2,Z3,Z4,h1,h2]
    try with_reducible refine iK ?_
    refine ab ?_
    refine sB ?_
    all_goals(first|done|(simp[e,h1,h2];done)|(simp[e,h1,h2];omega)|skip)
   ·try simp -implicitDefEqProofs only[go_sem,Z1,Z2,Z3,Z4,h1,h2]
    try with_reducible refine iK ?_
    refine ab ?_
    refine sB ?_
    all_goals(first|done|(simp[e,h1,h2];done)|(simp[e,h1,h2];omega)|skip)
theorem sG(l:eQ):C E.P 129 [av (cX l)] [] (aO (bv (!bR l)) []):=by
 refine gT (nt:=6) (rs:=[.tmp 2]) hm Tryz.func129 fun hl he hLB=>?_
 refine aD [] (cJ l) ?_
 try with_reducible refine iK ?_
 refine ab ?_
 refine sB ?_
 all_goals(first|done|(simp;done)|(simp;omega)|skip)
theorem gC(ls:List eQ):C E.P 57 [lv (bh ls)] [] (aO (bv (dC ls)) []):=by
 refine gT (nt:=11) (rs:=[.tmp 2]) hm Tryz.func57 fun hl he hLB=>?_
 rcases Classical.em ((ls.length:Int)≤20) with h|h
 ·have h':ls.length≤20:=by omega
  try simp -implicitDefEqProofs only[go_sem,Z1,Z2,Z3,Z4,h]
  try with_reducible refine iK ?_
  refine aD [] (rT 129 [] rfl (fun l=>!bR l) ls (fun l _=>sG l)) ?_
  try with_reducible refine iK ?_
  refine ab ?_
  refine sB ?_
  all_goals(first|done|(simp[dC,h',List.all_eq_not_any_not];done)|(simp[dC,h',List.all_eq_not_any_not];omega)|skip)
 ·have h':¬ls.length≤20:=by omega
  try simp -implicitDefEqProofs only[go_sem,Z1,Z2,Z3,Z4,h]
  try with_reducible refine iK ?_
  refine ab ?_
  refine sB ?_
  all_goals(first|done|(simp[dC,h'];done)|(simp[dC,h'];omega)|skip)
theorem qL(a:eQ)(m:Int)(b:eQ)(n:Int):C E.P 250 [av (cX a),iv m,av (cX b),iv n] [] (aO (.eZ [av (cX (cS a m b n).1),bv (cS a m b n).2]) []):=by
 refine gT (nt:=87) (rs:=[.cell 8 66,.tmp 9]) hm Tryz.func250 fun hl he hLB=>?_
 refine aD [] (cJ a) ?_
 try with_reducible refine iK ?_
 cases g1:bR a
 ·try simp -implicitDefEqProofs only[go_sem,Z1,Z2,Z3,Z4]
  try with_reducible refine iK ?_
  refine ab ?_
  refine sB ?_
  all_goals(first|done|(simp[cS,g1];done)|(simp[cS,g1];omega)|skip)
 ·try simp -implicitDefEqProofs only[go_sem,Z1,Z2,Z3,Z4]
  try with_reducible refine iK ?_
  refine aD [] (cJ b) ?_
  try with_reducible refine iK ?_
  cases g2:bR b
  ·try simp -implicitDefEqProofs only[go_sem,Z1,Z2,Z3,Z4]
   try with_reducible refine iK ?_
   refine ab ?_
   refine sB ?_
   all_goals(first|done|(simp[cS,g1,g2];done)|(simp[cS,g1,g2];omega)|skip)
  ·try simp -implicitDefEqProofs only[go_sem,Z1,Z2,Z3,Z4]
   try with_reducible refine iK ?_
   refine aD [] (b6 m 0 1000000) ?_
   try with_reducible refine iK ?_
   cases g3:within m 0 1000000
   ·try simp -implicitDefEqProofs only[go_sem,Z1,Z2,Z3,Z4]
    try with_reducible refine iK ?_
    refine ab ?_
    refine sB ?_
    all_goals(first|done|(simp[cS,g1,g2,g3];done)|(simp[cS,g1,g2,g3];omega)|skip)
   ·try simp -implicitDefEqProofs only[go_sem,Z1,Z2,Z3,Z4]
    try with_reducible refine iK ?_
    refine aD [] (b6 n 0 1000000) ?_
    try with_reducible refine iK ?_
    cases g4:within n 0 1000000
    ·try simp -implicitDefEqProofs only[go_sem,Z1,Z2,Z3,Z4]
     try with_reducible refine iK ?_
     refine ab ?_
     refine sB ?_
     all_goals(first|done|(simp[cS,g1,g2,g3,g4];done)|(simp[cS,g1,g2,g3,g4];omega)|skip)
    ·obtain⟨hn1,hc1,hb1⟩:=fy.1 g1
     obtain⟨hn2,hc2,hb2⟩:=fy.1 g2
     have h5:=bu.1 g3
     have h6:=bu.1 g4
     have p1:=cK h5.1 h5.2 hb1
     have p2:=cK h6.1 h6.2 hb2
     rcases Classical.em (0<m) with t1|t1
     ·cases t2:a.strict
      ·rcases Classical.em (0<n) with t3|t3
       ·try simp -implicitDefEqProofs only[go_sem,Z1,Z2,Z3,Z4,t1,t3,t2]
        try with_reducible refine iK ?_
        repeat(with_reducible apply And.intro;exact sO)
        refine au hm (fun(i:Nat)=> i≤a.an.length) (fun(i:Nat)=> ⟨b9 87 .any [(1,iv m),(3,iv n),(4,.ptr 0 0),(6,.ptr 1 0),(8,.ptr 2 0),(10,.ptr 3 0),(57,iv a.an.length),(58,iv i)],[some (.box (bn (cX a))),some (.box (bn (cX b))),some (.box (bn (cX jE))),some (.box [.acc 4,.d (.val (.int .i64 (m*a.bound+n*b.bound))),.d (.val (.bool b.strict))]),some (.acc 3 (aJ (comb m n (a.an.take i) (b.an.take i))))]⟩) (fun(i:Nat)=> a.an.length-i) (0) ?_ (ah [some 0,some 1,some 2,some 3,none] ?_ ?_ rfl rfl) ?_
        rotate_left
        ·refine sB ?_
         all_goals(first|done|(simp[comb, *])|(simp[aa, *];done)|(simp[aa];done)|(simp;omega)|skip)
        ·refine sB ?_
         all_goals(first|done|(simp[comb, *])|(simp[aa, *];done)|(simp[aa];done)|(simp;omega)|skip)
        rotate_left
        ·omega
        ·rintro i hi
         rcases Classical.em (i<a.an.length) with h1|h1
         ·have h2:i<b.an.length:=by omega
          have q1:=cK h5.1 h5.2 (hc1 a.an[i] (List.getElem_mem h1))
          have q2:=cK h6.1 h6.2 (hc2 b.an[i] (List.getElem_mem h2))
          have hlen:(comb m n (a.an.take i) (b.an.take i)).length≤4:=by rw[jA (by simp;omega)];simp;omega
          try simp -implicitDefEqProofs only[go_sem,Z1,Z2,Z3,Z4,h1,h2]
          try with_reducible refine iK ?_
          repeat(with_reducible apply And.intro;exact sO)
          refine⟨i+1,?_,?_,ah [some 0,some 1,some 2,some 3,some 5] ?_ ?_ rfl rfl⟩
          rotate_left
          ·show _ < _
           omega
          ·refine sB ?_
           all_goals(first|done|((rw[dg h1 h2,←cm];rfl))|(simp[aa, *];done)|(simp[aa];done)|(simp;omega)|skip)
          ·refine sB ?_
           all_goals(first|done|((rw[dg h1 h2,←cm];rfl))|(simp[aa, *];done)|(simp[aa];done)|(simp;omega)|skip)
          exact h1
         ·rw[List.take_of_length_le (by omega),List.take_of_length_le (by omega)]
          have e2:jK a m b n=⟨comb m n a.an b.an,m*a.bound+n*b.bound,b.strict⟩:=by simp[jK, *]
          try simp -implicitDefEqProofs only[go_sem,Z1,Z2,Z3,Z4,h1]
          try with_reducible refine iK ?_
          refine bK [] [4] (cJ ⟨comb m n a.an b.an,m*a.bound+n*b.bound,b.strict⟩) rfl ?_ ?_ ?_
          ·exact sV
          all_goals simp -implicitDefEqProofs only[go_sem,Z1,Z2,Z3,Z4]
          try with_reducible refine iK ?_
          rw[mI g1 g2 g3 g4,lB,e2]
          cases h7:bR ⟨comb m n a.an b.an,m*a.bound+n*b.bound,b.strict⟩
          ·try simp -implicitDefEqProofs only[go_sem,Z1,Z2,Z3,Z4]
           try with_reducible refine iK ?_
           refine ab ?_
           refine sB ?_
           all_goals(first|done|(simp;done)|(simp;omega)|skip)
          ·try simp -implicitDefEqProofs only[go_sem,Z1,Z2,Z3,Z4]
           try with_reducible refine iK ?_
           refine ab ?_
           refine sB ?_
           all_goals(first|done|(simp;done)|(simp;omega)|skip)
       ·try simp -implicitDefEqProofs only[go_sem,Z1,Z2,Z3,Z4,t1,t3,t2]
        try with_reducible refine iK ?_
        repeat(with_reducible apply And.intro;exact sO)
        refine au hm (fun(i:Nat)=> i≤a.an.length) (fun(i:Nat)=> ⟨b9 87 .any [(1,iv m),(3,iv n),(4,.ptr 0 0),(6,.ptr 1 0),(8,.ptr 2 0),(10,.ptr 3 0),(57,iv a.an.length),(58,iv i)],[some (.box (bn (cX a))),some (.box (bn (cX b))),some (.box (bn (cX jE))),some (.box [.acc 4,.d (.val (.int .i64 (m*a.bound+n*b.bound))),.d (.val (.bool false))]),some (.acc 3 (aJ (comb m n (a.an.take i) (b.an.take i))))]⟩) (fun(i:Nat)=> a.an.length-i) (0) ?_ (ah [some 0,some 1,some 2,some 3,none] ?_ ?_ rfl rfl) ?_
        rotate_left
        ·refine sB ?_
         all_goals(first|done|(simp[comb, *])|(simp[aa, *];done)|(simp[aa];done)|(simp;omega)|skip)
        ·refine sB ?_
         all_goals(first|done|(simp[comb, *])|(simp[aa, *];done)|(simp[aa];done)|(simp;omega)|skip)
        rotate_left
        ·omega
        ·rintro i hi
         rcases Classical.em (i<a.an.length) with h1|h1
         ·have h2:i<b.an.length:=by omega
          have q1:=cK h5.1 h5.2 (hc1 a.an[i] (List.getElem_mem h1))
          have q2:=cK h6.1 h6.2 (hc2 b.an[i] (List.getElem_mem h2))
          have hlen:(comb m n (a.an.take i) (b.an.take i)).length≤4:=by rw[jA (by simp;omega)];simp;omega
          try simp -implicitDefEqProofs only[go_sem,Z1,Z2,Z3,Z4,h1,h2]
          try with_reducible refine iK ?_
          repeat(with_reducible apply And.intro;exact sO)
          refine⟨i+1,?_,?_,ah [some 0,some 1,some 2,some 3,some 5] ?_ ?_ rfl rfl⟩
          rotate_left
          ·show _ < _
           omega
          ·refine sB ?_
           all_goals(first|done|((rw[dg h1 h2,←cm];rfl))|(simp[aa, *];done)|(simp[aa];done)|(simp;omega)|skip)
          ·refine sB ?_
           all_goals(first|done|((rw[dg h1 h2,←cm];rfl))|(simp[aa, *];done)|(simp[aa];done)|(simp;omega)|skip)
          exact h1
         ·rw[List.take_of_length_le (by omega),List.take_of_length_le (by omega)]
          have e2:jK a m b n=⟨comb m n a.an b.an,m*a.bound+n*b.bound,false⟩:=by simp[jK, *]
          try simp -implicitDefEqProofs only[go_sem,Z1,Z2,Z3,Z4,h1]
          try with_reducible refine iK ?_
          refine bK [] [4] (cJ ⟨comb m n a.an b.an,m*a.bound+n*b.bound,false⟩) rfl ?_ ?_ ?_
          ·exact sV
          all_goals simp -implicitDefEqProofs only[go_sem,Z1,Z2,Z3,Z4]
          try with_reducible refine iK ?_
          rw[mI g1 g2 g3 g4,lB,e2]
          cases h7:bR ⟨comb m n a.an b.an,m*a.bound+n*b.bound,false⟩
          ·try simp -implicitDefEqProofs only[go_sem,Z1,Z2,Z3,Z4]
           try with_reducible refine iK ?_
           refine ab ?_
           refine sB ?_
           all_goals(first|done|(simp;done)|(simp;omega)|skip)
          ·try simp -implicitDefEqProofs only[go_sem,Z1,Z2,Z3,Z4]
           try with_reducible refine iK ?_
           refine ab ?_
           refine sB ?_
           all_goals(first|done|(simp;done)|(simp;omega)|skip)
      ·try simp -implicitDefEqProofs only[go_sem,Z1,Z2,Z3,Z4,t1,t2]
       try with_reducible refine iK ?_
       repeat(with_reducible apply And.intro;exact sO)
       refine au hm (fun(i:Nat)=> i≤a.an.length) (fun(i:Nat)=> ⟨b9 87 .any [(1,iv m),(3,iv n),(4,.ptr 0 0),(6,.ptr 1 0),(8,.ptr 2 0),(10,.ptr 3 0),(57,iv a.an.length),(58,iv i)],[some (.box (bn (cX a))),some (.box (bn (cX b))),some (.box (bn (cX jE))),some (.box [.acc 4,.d (.val (.int .i64 (m*a.bound+n*b.bound))),.d (.val (.bool true))]),some (.acc 3 (aJ (comb m n (a.an.take i) (b.an.take i))))]⟩) (fun(i:Nat)=> a.an.length-i) (0) ?_ (ah [some 0,some 1,some 2,some 3,none] ?_ ?_ rfl rfl) ?_
       rotate_left
       ·refine sB ?_
        all_goals(first|done|(simp[comb, *])|(simp[aa, *];done)|(simp[aa];done)|(simp;omega)|skip)
       ·refine sB ?_
        all_goals(first|done|(simp[comb, *])|(simp[aa, *];done)|(simp[aa];done)|(simp;omega)|skip)
       rotate_left
       ·omega
       ·rintro i hi
        rcases Classical.em (i<a.an.length) with h1|h1
        ·have h2:i<b.an.length:=by omega
         have q1:=cK h5.1 h5.2 (hc1 a.an[i] (List.getElem_mem h1))
         have q2:=cK h6.1 h6.2 (hc2 b.an[i] (List.getElem_mem h2))
         have hlen:(comb m n (a.an.take i) (b.an.take i)).length≤4:=by rw[jA (by simp;omega)];simp;omega
         try simp -implicitDefEqProofs only[go_sem,Z1,Z2,Z3,Z4,h1,h2]
         try with_reducible refine iK ?_
         repeat(with_reducible apply And.intro;exact sO)
         refine⟨i+1,?_,?_,ah [some 0,some 1,some 2,some 3,some 5] ?_ ?_ rfl rfl⟩
         rotate_left
         ·show _ < _
          omega
         ·refine sB ?_
          all_goals(first|done|((rw[dg h1 h2,←cm];rfl))|(simp[aa, *];done)|(simp[aa];done)|(simp;omega)|skip)
         ·refine sB ?_
          all_goals(first|done|((rw[dg h1 h2,←cm];rfl))|(simp[aa, *];done)|(simp[aa];done)|(simp;omega)|skip)
         exact h1
        ·rw[List.take_of_length_le (by omega),List.take_of_length_le (by omega)]
         have e2:jK a m b n=⟨comb m n a.an b.an,m*a.bound+n*b.bound,true⟩:=by simp[jK, *]
         try simp -implicitDefEqProofs only[go_sem,Z1,Z2,Z3,Z4,h1]
         try with_reducible refine iK ?_
         refine bK [] [4] (cJ ⟨comb m n a.an b.an,m*a.bound+n*b.bound,true⟩) rfl ?_ ?_ ?_
         ·exact sV
         all_goals simp -implicitDefEqProofs only[go_sem,Z1,Z2,Z3,Z4]
         try with_reducible refine iK ?_
         rw[mI g1 g2 g3 g4,lB,e2]
         cases h7:bR ⟨comb m n a.an b.an,m*a.bound+n*b.bound,true⟩
         ·try simp -implicitDefEqProofs only[go_sem,Z1,Z2,Z3,Z4]
          try with_reducible refine iK ?_
          refine ab ?_
          refine sB ?_
          all_goals(first|done|(simp;done)|(simp;omega)|skip)
         ·try simp -implicitDefEqProofs only[go_sem,Z1,Z2,Z3,Z4]
          try with_reducible refine iK ?_
          refine ab ?_
          refine sB ?_
          all_goals(first|done|(simp;done)|(simp;omega)|skip)
     ·rcases Classical.em (0<n) with t3|t3
      ·try simp -implicitDefEqProofs only[go_sem,Z1,Z2,Z3,Z4,t1,t3]
       try with_reducible refine iK ?_
       repeat(with_reducible apply And.intro;exact sO)
       refine au hm (fun(i:Nat)=> i≤a.an.length) (fun(i:Nat)=> ⟨b9 87 .any [(1,iv m),(3,iv n),(4,.ptr 0 0),(6,.ptr 1 0),(8,.ptr 2 0),(10,.ptr 3 0),(57,iv a.an.length),(58,iv i)],[some (.box (bn (cX a))),some (.box (bn (cX b))),some (.box (bn (cX jE))),some (.box [.acc 4,.d (.val (.int .i64 (m*a.bound+n*b.bound))),.d (.val (.bool b.strict))]),some (.acc 3 (aJ (comb m n (a.an.take i) (b.an.take i))))]⟩) (fun(i:Nat)=> a.an.length-i) (0) ?_ (ah [some 0,some 1,some 2,some 3,none] ?_ ?_ rfl rfl) ?_
       rotate_left
       ·refine sB ?_
        all_goals(first|done|(simp[comb, *])|(simp[aa, *];done)|(simp[aa];done)|(simp;omega)|skip)
       ·refine sB ?_
        all_goals(first|done|(simp[comb, *])|(simp[aa, *];done)|(simp[aa];done)|(simp;omega)|skip)
       rotate_left
       ·omega
       ·rintro i hi
        rcases Classical.em (i<a.an.length) with h1|h1
        ·have h2:i<b.an.length:=by omega
         have q1:=cK h5.1 h5.2 (hc1 a.an[i] (List.getElem_mem h1))
         have q2:=cK h6.1 h6.2 (hc2 b.an[i] (List.getElem_mem h2))
         have hlen:(comb m n (a.an.take i) (b.an.take i)).length≤4:=by rw[jA (by simp;omega)];simp;omega
         try simp -implicitDefEqProofs only[go_sem,Z1,Z2,Z3,Z4,h1,h2]
         try with_reducible refine iK ?_
         repeat(with_reducible apply And.intro;exact sO)
         refine⟨i+1,?_,?_,ah [some 0,some 1,some 2,some 3,some 5] ?_ ?_ rfl rfl⟩
         rotate_left
         ·show _ < _
          omega
         ·refine sB ?_
          all_goals(first|done|((rw[dg h1 h2,←cm];rfl))|(simp[aa, *];done)|(simp[aa];done)|(simp;omega)|skip)
         ·refine sB ?_
          all_goals(first|done|((rw[dg h1 h2,←cm];rfl))|(simp[aa, *];done)|(simp[aa];done)|(simp;omega)|skip)
         exact h1
        ·rw[List.take_of_length_le (by omega),List.take_of_length_le (by omega)]
         have e2:jK a m b n=⟨comb m n a.an b.an,m*a.bound+n*b.bound,b.strict⟩:=by simp[jK, *]
         try simp -implicitDefEqProofs only[go_sem,Z1,Z2,Z3,Z4,h1]
         try with_reducible refine iK ?_
         refine bK [] [4] (cJ ⟨comb m n a.an b.an,m*a.bound+n*b.bound,b.strict⟩) rfl ?_ ?_ ?_
         ·exact sV
         all_goals simp -implicitDefEqProofs only[go_sem,Z1,Z2,Z3,Z4]
         try with_reducible refine iK ?_
         rw[mI g1 g2 g3 g4,lB,e2]
         cases h7:bR ⟨comb m n a.an b.an,m*a.bound+n*b.bound,b.strict⟩
         ·try simp -implicitDefEqProofs only[go_sem,Z1,Z2,Z3,Z4]
          try with_reducible refine iK ?_
          refine ab ?_
          refine sB ?_
          all_goals(first|done|(simp;done)|(simp;omega)|skip)
         ·try simp -implicitDefEqProofs only[go_sem,Z1,Z2,Z3,Z4]
          try with_reducible refine iK ?_
          refine ab ?_
          refine sB ?_
          all_goals(first|done|(simp;done)|(simp;omega)|skip)
      ·try simp -implicitDefEqProofs only[go_sem,Z1,Z2,Z3,Z4,t1,t3]
       try with_reducible refine iK ?_
       repeat(with_reducible apply And.intro;exact sO)
       refine au hm (fun(i:Nat)=> i≤a.an.length) (fun(i:Nat)=> ⟨b9 87 .any [(1,iv m),(3,iv n),(4,.ptr 0 0),(6,.ptr 1 0),(8,.ptr 2 0),(10,.ptr 3 0),(57,iv a.an.length),(58,iv i)],[some (.box (bn (cX a))),some (.box (bn (cX b))),some (.box (bn (cX jE))),some (.box [.acc 4,.d (.val (.int .i64 (m*a.bound+n*b.bound))),.d (.val (.bool false))]),some (.acc 3 (aJ (comb m n (a.an.take i) (b.an.take i))))]⟩) (fun(i:Nat)=> a.an.length-i) (0) ?_ (ah [some 0,some 1,some 2,some 3,none] ?_ ?_ rfl rfl) ?_
       rotate_left
       ·refine sB ?_
        all_goals(first|done|(simp[comb, *])|(simp[aa, *];done)|(simp[aa];done)|(simp;omega)|skip)
       ·refine sB ?_
        all_goals(first|done|(simp[comb, *])|(simp[aa, *];done)|(simp[aa];done)|(simp;omega)|skip)
       rotate_left
       ·omega
       ·rintro i hi
        rcases Classical.em (i<a.an.length) with h1|h1
        ·have h2:i<b.an.length:=by omega
         have q1:=cK h5.1 h5.2 (hc1 a.an[i] (List.getElem_mem h1))
         have q2:=cK h6.1 h6.2 (hc2 b.an[i] (List.getElem_mem h2))
         have hlen:(comb m n (a.an.take i) (b.an.take i)).length≤4:=by rw[jA (by simp;omega)];simp;omega
         try simp -implicitDefEqProofs only[go_sem,Z1,Z2,Z3,Z4,h1,h2]
         try with_reducible refine iK ?_
         repeat(with_reducible apply And.intro;exact sO)
         refine⟨i+1,?_,?_,ah [some 0,some 1,some 2,some 3,some 5] ?_ ?_ rfl rfl⟩
         rotate_left
         ·show _ < _
          omega
         ·refine sB ?_
          all_goals(first|done|((rw[dg h1 h2,←cm];rfl))|(simp[aa, *];done)|(simp[aa];done)|(simp;omega)|skip)
         ·refine sB ?_
          all_goals(first|done|((rw[dg h1 h2,←cm];rfl))|(simp[aa, *];done)|(simp[aa];done)|(simp;omega)|skip)
         exact h1
        ·rw[List.take_of_length_le (by omega),List.take_of_length_le (by omega)]
         have e2:jK a m b n=⟨comb m n a.an b.an,m*a.bound+n*b.bound,false⟩:=by simp[jK, *]
         try simp -implicitDefEqProofs only[go_sem,Z1,Z2,Z3,Z4,h1]
         try with_reducible refine iK ?_
         refine bK [] [4] (cJ ⟨comb m n a.an b.an,m*a.bound+n*b.bound,false⟩) rfl ?_ ?_ ?_
         ·exact sV
         all_goals simp -implicitDefEqProofs only[go_sem,Z1,Z2,Z3,Z4]
         try with_reducible refine iK ?_
         rw[mI g1 g2 g3 g4,lB,e2]
         cases h7:bR ⟨comb m n a.an b.an,m*a.bound+n*b.bound,false⟩
         ·try simp -implicitDefEqProofs only[go_sem,Z1,Z2,Z3,Z4]
          try with_reducible refine iK ?_
          refine ab ?_
          refine sB ?_
          all_goals(first|done|(simp;done)|(simp;omega)|skip)
         ·try simp -implicitDefEqProofs only[go_sem,Z1,Z2,Z3,Z4]
          try with_reducible refine iK ?_
          refine ab ?_
          refine sB ?_
          all_goals(first|done|(simp;done)|(simp;omega)|skip)
theorem Aw(ls:List eQ)(ts:List Int):C E.P 217 [lv (bh ls),lv (aJ ts)] [] (aO (.eZ [av (cX (iV ls ts).1),bv (iV ls ts).2]) []):=by
 refine gT (nt:=47) (rs:=[.cell 4 66,.tmp 5]) hm Tryz.func217 fun hl he hLB=>?_
 refine aD [] (gC ls) ?_
 try with_reducible refine iK ?_
 cases g1:dC ls
 ·try simp -implicitDefEqProofs only[go_sem,Z1,Z2,Z3,Z4]
  try with_reducible refine iK ?_
  refine ab ?_
  refine sB ?_
  all_goals(first|done|(simp[iV,g1];done)|(simp[iV,g1];omega)|skip)
 ·rcases Classical.em (ts.length=ls.length) with g2|g2
  ·have e:iV ls ts=vO ls ts ⟨[0,0,0,0],0,false⟩:=by simp[iV,g1,g2]
   try simp -implicitDefEqProofs only[go_sem,Z1,Z2,Z3,Z4,g2]
   try with_reducible refine iK ?_
   repeat(with_reducible apply And.intro;exact sO)
   refine bQ hm (fun(i:Nat) (out:eQ)=> i≤ls.length∧iV ls ts=vO (ls.drop i) (ts.drop i) out) (fun(i:Nat) (out:eQ)=> ⟨b9 47 .any [(1,lv (aJ ts)),(4,.ptr 0 0),(6,.ptr 1 0),(24,lv (bh ls)),(25,iv ls.length),(26,iv i)],[some (.box (bn (cX jE))),some (.box (bn (cX out)))]⟩) (fun(i:Nat) (out:eQ)=> ls.length-i) (0) (⟨[0,0,0,0],0,false⟩) ?_ (ah [some 0,some 2] ?_ ?_ rfl rfl) ?_
   rotate_left
   ·refine sB ?_
    all_goals(first|done|(simp[aJ,List.replicate])|(simp[aa, *];done)|(simp[aa];done)|(simp;omega)|skip)
   ·refine sB ?_
    all_goals(first|done|(simp[aJ,List.replicate])|(simp[aa, *];done)|(simp[aa];done)|(simp;omega)|skip)
   rotate_left
   ·simp[e]
   ·rintro i out ⟨hi,hg⟩
    rcases Classical.em (i<ls.length) with h1|h1
    ·have h2:i<ts.length:=by omega
     rw[Hc h1 h2] at hg
     try simp -implicitDefEqProofs only[go_sem,Z1,Z2,Z3,Z4,h1,h2]
     try with_reducible refine iK ?_
     refine aD [] (qL out 1 ls[i] ts[i]) ?_
     try with_reducible refine iK ?_
     cases h3:(cS out 1 ls[i] ts[i]).2
     ·rw[h3] at hg
      simp only[Bool.false_eq_true,if_false] at hg
      try simp -implicitDefEqProofs only[go_sem,Z1,Z2,Z3,Z4]
      try with_reducible refine iK ?_
      refine ab ?_
      refine sB ?_
      all_goals(first|done|(simp[hg];done)|(simp[hg];omega)|skip)
     ·rw[h3] at hg
      simp only[if_true] at hg
      try simp -implicitDefEqProofs only[go_sem,Z1,Z2,Z3,Z4]
      try with_reducible refine iK ?_
      refine⟨by omega,?_⟩
      refine⟨i+1,(cS out 1 ls[i] ts[i]).1,?_,?_,ah [some 0,some 1] ?_ ?_ rfl rfl⟩
      rotate_left
      ·show _ < _
       omega
      ·refine sB ?_
       all_goals(first|done|(simp[aa, *];done)|(simp[aa];done)|(simp;omega)|skip)
      ·refine sB ?_
       all_goals(first|done|(simp[aa, *];done)|(simp[aa];done)|(simp;omega)|skip)
      exact⟨by omega,hg⟩
    ·rw[List.drop_of_length_le (by omega),List.drop_of_length_le (by omega),vO] at hg
     try simp -implicitDefEqProofs only[go_sem,Z1,Z2,Z3,Z4,h1]
     try with_reducible refine iK ?_
     refine ab ?_
     refine sB ?_
     all_goals(first|done|(simp[hg];done)|(simp[hg];omega)|skip)
  ·have g2':¬ (ts.length:Int)=ls.length:=by omega
   try simp -implicitDefEqProofs only[go_sem,Z1,Z2,Z3,Z4,g2']
   try with_reducible refine iK ?_
   refine ab ?_
   refine sB ?_
   all_goals(first|done|(simp[iV,g1,g2];done)|(simp[iV,g1,g2];omega)|skip)
theorem C6(ls:List eQ)(ts:List Int):C E.P 162 [lv (bh ls),lv (aJ ts)] [] (aO (bv (vU ls ts)) []):=by
 refine gT (nt:=18) (rs:=[.tmp 4]) hm Tryz.func162 fun hl he hLB=>?_
 refine aD [] (Aw ls ts) ?_
 try with_reducible refine iK ?_
 cases h:(iV ls ts).2
 ·try simp -implicitDefEqProofs only[go_sem,Z1,Z2,Z3,Z4]
  try with_reducible refine iK ?_
  refine ab ?_
  refine sB ?_
  all_goals(first|done|(simp[vU,h];done)|(simp[vU,h];omega)|skip)
 ·try simp -implicitDefEqProofs only[go_sem,Z1,Z2,Z3,Z4]
  try with_reducible refine iK ?_
  refine aD [] (qO (iV ls ts).1) ?_
  try with_reducible refine iK ?_
  refine ab ?_
  refine sB ?_
  all_goals(first|done|(simp[vU,h];done)|(simp[vU,h];omega)|skip)
end Go.Proofs.YtpidddienjoleaaGreat
