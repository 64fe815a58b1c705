/-
  The walk of certificates. A step towards the exact laws.
-/
import Derived.Test.YtpidddienjoleaaGreatKDN
set_option linter.unusedVariables false
set_option linter.unusedSimpArgs false
namespace Go.Proofs.YtpidddienjoleaaGreat
open Go.Eng Go.Mod
open Int renaming reduceEq→Z1,reduceLT→Z2,reduceLE→Z3,reduceToNat→Z4
set_option maxRecDepth 100000
set_option maxHeartbeats 800000
theorem mz(s:bA)(lits:List aE):C E.P 8 [av (bF s),lv (ay lits)] [] (aO (bv (bG s lits)) []):=by
 refine gT (nt:=38) (rs:=[.tmp 4]) hm Tryz.func8 fun hl he hLB=>?_
 refine aD [] (j8 s) ?_
 try with_reducible refine iK ?_
 cases h1:bV s
 ·try simp -implicitDefEqProofs only[go_sem,Z1,Z2,Z3,Z4]
  try with_reducible refine iK ?_
  refine ab ?_
  refine sB ?_
  all_goals(first|done|(simp[bG,h1];done)|(simp[bG,h1];omega)|skip)
 ·try simp -implicitDefEqProofs only[go_sem,Z1,Z2,Z3,Z4]
  try with_reducible refine iK ?_
  rcases Classical.em ((6:Int)<(lits.length:Int)) with h2|h2
  ·have h2':¬lits.length≤6:=by omega
   try simp -implicitDefEqProofs only[go_sem,Z1,Z2,Z3,Z4,h2]
   try with_reducible refine iK ?_
   refine ab ?_
   refine sB ?_
   all_goals(first|done|(simp[bG,h2'];done)|(simp[bG,h2'];omega)|skip)
  ·have h2':lits.length≤6:=by omega
   try simp -implicitDefEqProofs only[go_sem,Z1,Z2,Z3,Z4,h2]
   try with_reducible refine iK ?_
   refine au hm (fun(i:Nat)=> i≤lits.length∧lits.all (fun l=>bS s l.atom)=(lits.drop i).all (fun l=>bS s l.atom)) (fun(i:Nat)=> ⟨b9 38 .any [(1,lv (ay lits)),(2,.ptr 0 0),(15,lv (ay lits)),(16,iv lits.length),(17,iv i)],[some (.box (bn (bF s)))]⟩) (fun(i:Nat)=> lits.length-i) (0) ?_ (ah [some 0] ?_ ?_ rfl rfl) ?_
   rotate_left
   ·refine sB ?_
    all_goals(first|done|(simp[aa, *];done)|(simp[aa];done)|(simp;omega)|skip)
   ·refine sB ?_
    all_goals(first|done|(simp[aa, *];done)|(simp[aa];done)|(simp;omega)|skip)
   rotate_left
   ·simp
   ·rintro i ⟨hi,hg⟩
    rcases Classical.em (i<lits.length) with h3|h3
    ·rw[List.drop_eq_getElem_cons h3,List.all_cons] at hg
     try simp -implicitDefEqProofs only[go_sem,Z1,Z2,Z3,Z4,h3]
     try with_reducible refine iK ?_
     refine aD [] (qW s lits[i].atom) ?_
     try with_reducible refine iK ?_
     cases h4:bS s lits[i].atom
     ·rw[h4,Bool.false_and] at hg
      try simp -implicitDefEqProofs only[go_sem,Z1,Z2,Z3,Z4]
      try with_reducible refine iK ?_
      refine ab ?_
      refine sB ?_
      all_goals(first|done|(simp[bG,hg];done)|(simp[bG,hg];omega)|skip)
     ·rw[h4,Bool.true_and] at hg
      try simp -implicitDefEqProofs only[go_sem,Z1,Z2,Z3,Z4]
      try with_reducible refine iK ?_
      repeat(with_reducible apply And.intro;exact sO)
      refine⟨i+1,?_,?_,ah [some 0] ?_ ?_ rfl rfl⟩
      rotate_left
      ·show _ < _
       omega
      ·refine sB ?_
       all_goals(first|done|(simp[aa, *];done)|(simp[aa];done)|(simp;omega)|skip)
      ·refine sB ?_
       all_goals(first|done|(simp[aa, *];done)|(simp[aa];done)|(simp;omega)|skip)
      exact⟨by omega,hg⟩
    ·rw[List.drop_of_length_le (by omega),List.all_nil] at hg
     have hw:∀l∈lits,aZ l.atom=true:=by
      intro l hl
      have:=List.all_eq_true.1 hg l hl
      simp only[bS,Bool.and_eq_true] at this
      exact this.2.1
     try simp -implicitDefEqProofs only[go_sem,Z1,Z2,Z3,Z4,h3]
     try with_reducible refine iK ?_
     refine oD [] [1] (oB lits (by omega) hw) ?_
     try with_reducible refine iK ?_
     rcases Classical.em (((ai lits).length:Int)≤24) with h5|h5
     ·have h5':(ai lits).length≤24:=by omega
      try simp -implicitDefEqProofs only[go_sem,Z1,Z2,Z3,Z4,h5]
      try with_reducible refine iK ?_
      refine aD [] (jm s lits (by omega) hw) ?_
      try with_reducible refine iK ?_
      refine ab ?_
      refine sB ?_
      have e:decide (((numsOf s lits).length:Int)≤4)=decide ((numsOf s lits).length≤4):=decide_eq_decide.2 (by omega)
      simp[bG,h1,h2',hg,h5',e]
     ·have h5':¬ (ai lits).length≤24:=by omega
      try simp -implicitDefEqProofs only[go_sem,Z1,Z2,Z3,Z4,h5]
      try with_reducible refine iK ?_
      refine ab ?_
      refine sB ?_
      all_goals(first|done|(simp[bG,h5'];done)|(simp[bG,h5'];omega)|skip)
end Go.Proofs.YtpidddienjoleaaGreat
