/-
  The reference: the walks of constraints and their certificates. A step towards the exact laws.
-/
import Derived.Test.YtpidddienjoleaaGreatKDI
import Derived.Test.YtpidddienjoleaaGreatKDE
set_option linter.unusedVariables false
set_option linter.unusedSimpArgs false
namespace Go.Proofs.YtpidddienjoleaaGreat
open Go.Eng Go.Mod
open Int renaming reduceEq→Z1,reduceLT→Z2,reduceLE→Z3,reduceToNat→Z4
set_option maxRecDepth 100000
set_option maxHeartbeats 800000
theorem ou(n:Int):C E.P 257 [iv n] [] (aO (bv (fE n)) []):=by
 refine gT (nt:=9) (rs:=[.tmp 2]) hm Tryz.func257 fun hl he hLB=>?_
 rcases Classical.em (-1000000≤n) with h|h
 ·try simp -implicitDefEqProofs only[go_sem,Z1,Z2,Z3,Z4,h]
  try with_reducible refine iK ?_
  refine ab ?_
  refine sB ?_
  all_goals(first|done|(simp[fE,within,h];done)|(simp[fE,within,h];omega)|skip)
 ·try simp -implicitDefEqProofs only[go_sem,Z1,Z2,Z3,Z4,h]
  try with_reducible refine iK ?_
  refine ab ?_
  refine sB ?_
  all_goals(first|done|(simp[fE,within,h];done)|(simp[fE,within,h];omega)|skip)
theorem Cb(l:eQ):C E.P 232 [av (cX l)] [] (aO (bv (bR l)) []):=by
 refine gT (nt:=27) (rs:=[.tmp 2]) hm Tryz.func232 fun hl he hLB=>?_
 refine au hm (fun(i:Nat)=> i≤l.an.length∧l.an.all fE=(l.an.drop i).all fE) (fun(i:Nat)=> ⟨b9 27 .any [(1,.ptr 0 0),(3,iv i)],[some (.box (bn (cX l)))]⟩) (fun(i:Nat)=> l.an.length-i) (0) ?_ (ah [some 0] ?_ ?_ rfl rfl) ?_
 rotate_left
 ·refine sB ?_
  all_goals(first|done|(simp[aa, *];done)|(simp[aa];done)|(simp;omega)|skip)
 ·refine sB ?_
  all_goals(first|done|(simp[aa, *];done)|(simp[aa];done)|(simp;omega)|skip)
 rotate_left
 ·simp
 ·rintro i ⟨hi,hg⟩
  rcases Classical.em (i<l.an.length) with h1|h1
  ·rw[List.drop_eq_getElem_cons h1,List.all_cons] at hg
   try simp -implicitDefEqProofs only[go_sem,Z1,Z2,Z3,Z4,h1]
   try with_reducible refine iK ?_
   refine aD [] (ou l.an[i]) ?_
   try with_reducible refine iK ?_
   cases h2:fE l.an[i]
   ·rw[h2,Bool.false_and] at hg
    have e:bR l=false:=by simp[bR,hg]
    try simp -implicitDefEqProofs only[go_sem,Z1,Z2,Z3,Z4]
    try with_reducible refine iK ?_
    refine ab ?_
    refine sB ?_
    all_goals(first|done|(simp[e];done)|(simp[e];omega)|skip)
   ·rw[h2,Bool.true_and] at hg
    try simp -implicitDefEqProofs only[go_sem,Z1,Z2,Z3,Z4]
    try with_reducible refine iK ?_
    repeat(with_reducible apply And.intro;exact sO)
    refine⟨i+1,?_,?_,ah [some 0] ?_ ?_ rfl rfl⟩
    rotate_left
    ·show _ < _
     omega
    ·refine sB ?_
     all_goals(first|done|(simp[aa, *];done)|(simp[aa];done)|(simp;omega)|skip)
    ·refine sB ?_
     all_goals(first|done|(simp[aa, *];done)|(simp[aa];done)|(simp;omega)|skip)
    exact⟨by omega,hg⟩
  ·rw[List.drop_of_length_le (by omega),List.all_nil] at hg
   rcases Classical.em ((l.an.length:Int)=4) with h3|h3
   ·have h3':l.an.length=4:=by omega
    have k3:=eq_true h3
    try simp -implicitDefEqProofs only[go_sem,Z1,Z2,Z3,Z4,h1,k3]
    try with_reducible refine iK ?_
    refine aD [] (ou l.bound) ?_
    try with_reducible refine iK ?_
    refine ab ?_
    refine sB ?_
    all_goals(first|done|(simp[bR,hg,h3'];done)|(simp[bR,hg,h3'];omega)|skip)
   ·have h3':¬l.an.length=4:=by omega
    try simp -implicitDefEqProofs only[go_sem,Z1,Z2,Z3,Z4,h1,h3]
    try with_reducible refine iK ?_
    refine ab ?_
    refine sB ?_
    all_goals(first|done|(simp[bR,hg,h3'];done)|(simp[bR,hg,h3'];omega)|skip)
theorem zY(l:eQ):C E.P 183 [av (cX l)] [] (aO (av (cX (iY l))) []):=by
 refine gT (nt:=35) (rs:=[.cell 2 66]) hm Tryz.func183 fun hl he hLB=>?_
 refine aD [] (Cb l) ?_
 try with_reducible refine iK ?_
 cases h:bR l
 ·try simp -implicitDefEqProofs only[go_sem,Z1,Z2,Z3,Z4]
  try with_reducible refine iK ?_
  refine ab ?_
  refine sB ?_
  all_goals(first|done|(simp[iY,h];done)|(simp[iY,h];omega)|skip)
 ·obtain⟨h4,hc,hb⟩:=fy.1 h
  have e:iY l=⟨l.an.map fun c=>-c,-l.bound,!l.strict⟩:=by simp[iY,h]
  try simp -implicitDefEqProofs only[go_sem,Z1,Z2,Z3,Z4]
  try with_reducible refine iK ?_
  repeat(with_reducible apply And.intro;exact sO)
  refine au hm (fun(i:Nat)=> i≤l.an.length) (fun(i:Nat)=> ⟨b9 35 .any [(1,.ptr 0 0),(2,.ptr 1 0),(3,.ptr 2 0),(4,iv i)],[some (.box (bn (cX l))),some (.box (bn (cX jE))),some (.box [.acc 3,.d (.val (.int .i64 (-l.bound))),.d (.val (.bool (!l.strict)))]),some (.acc 3 (aJ ((l.an.take i).map fun c=>-c)))]⟩) (fun(i:Nat)=> l.an.length-i) (0) ?_ (ah [some 0,some 1,some 2,none] ?_ ?_ rfl rfl) ?_
  rotate_left
  ·refine sB ?_
   all_goals(first|done|(simp[aa, *];done)|(simp[aa];done)|(simp;omega)|skip)
  ·refine sB ?_
   all_goals(first|done|(simp[aa, *];done)|(simp[aa];done)|(simp;omega)|skip)
  rotate_left
  ·omega
  ·rintro i hi
   rcases Classical.em (i<l.an.length) with h1|h1
   ·have hn:=hc l.an[i] (List.getElem_mem h1)
    try simp -implicitDefEqProofs only[go_sem,Z1,Z2,Z3,Z4,h1]
    try with_reducible refine iK ?_
    repeat(with_reducible apply And.intro;exact sO)
    refine⟨i+1,?_,?_,ah [some 0,some 1,some 2,some 4] ?_ ?_ rfl rfl⟩
    rotate_left
    ·show _ < _
     omega
    ·refine sB ?_
     all_goals(first|done|((rw[List.take_add_one,List.getElem?_eq_getElem h1,List.map_append,←cm];rfl))|(simp[aa, *];done)|(simp[aa];done)|(simp;omega)|skip)
    ·refine sB ?_
     all_goals(first|done|((rw[List.take_add_one,List.getElem?_eq_getElem h1,List.map_append,←cm];rfl))|(simp[aa, *];done)|(simp[aa];done)|(simp;omega)|skip)
    exact h1
   ·try simp -implicitDefEqProofs only[go_sem,Z1,Z2,Z3,Z4,h1]
    try with_reducible refine iK ?_
    refine ab ?_
    refine sB ?_
    rw[List.take_of_length_le (by omega),e]
    simp[cX]
end Go.Proofs.YtpidddienjoleaaGreat
