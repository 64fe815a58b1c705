/-
  The walk of certificates. A step towards the exact laws.
-/
import Derived.Test.YtpidddienjoleaaGreatKCN
set_option linter.unusedVariables false
set_option linter.unusedSimpArgs false
namespace Go.Proofs.YtpidddienjoleaaGreat
open Go.Eng Go.Mod
open Int renaming reduceEq→Z1,reduceLT→Z2,reduceLE→Z3,reduceToNat→Z4
set_option maxRecDepth 100000
set_option maxHeartbeats 800000
theorem p8(s:bJ)(lits:List aG):C E.P 8 [av (bw s),lv (ax lits)] [] (aM (bv (bO s lits)) []):=by
 refine gT (nt:=38) (rs:=[.tmp 4]) hm Tryz.func8 fun hl he hLB=>?_
 refine aD [] (il s) ?_
 try with_reducible refine iK ?_
 cases h1:bT s
 ·try simp -implicitDefEqProofs only[go_sem,Z1,Z2,Z3,Z4]
  try with_reducible refine iK ?_
  refine ab ?_
  refine sB ?_
  all_goals(first|done|(simp[bO,h1];done)|(simp[bO,h1];omega)|skip)
 ·try simp -implicitDefEqProofs only[go_sem,Z1,Z2,Z3,Z4]
  try with_reducible refine iK ?_
  rcases Classical.em ((6:Int)<(lits.length:Int)) with h2|h2
  ·have h2':¬lits.length≤6:=by omega
   try simp -implicitDefEqProofs only[go_sem,Z1,Z2,Z3,Z4,h2]
   try with_reducible refine iK ?_
   refine ab ?_
   refine sB ?_
   all_goals(first|done|(simp[bO,h2'];done)|(simp[bO,h2'];omega)|skip)
  ·have h2':lits.length≤6:=by omega
   try simp -implicitDefEqProofs only[go_sem,Z1,Z2,Z3,Z4,h2]
   try with_reducible refine iK ?_
   refine al hm (fun(i:Nat)=> i≤lits.length∧lits.all (fun l=>b7 s l.atom)=(lits.drop i).all (fun l=>b7 s l.atom)) (fun(i:Nat)=> ⟨bW 38 .any [(1,lv (ax lits)),(2,.ptr 0 0),(15,lv (ax lits)),(16,iv lits.length),(17,iv i)],[some (.box (bn (bw s)))]⟩) (fun(i:Nat)=> lits.length-i) (0) ?_ (ah [some 0] ?_ ?_ rfl rfl) ?_
   rotate_left
   ·refine sB ?_
    all_goals(first|done|(simp[aa, *];done)|(simp[aa];done)|(simp;omega)|skip)
   ·refine sB ?_
    all_goals(first|done|(simp[aa, *];done)|(simp[aa];done)|(simp;omega)|skip)
   rotate_left
   ·simp
   ·rintro i ⟨hi,hg⟩
    rcases Classical.em (i<lits.length) with h3|h3
    ·rw[List.drop_eq_getElem_cons h3,List.all_cons] at hg
     try simp -implicitDefEqProofs only[go_sem,Z1,Z2,Z3,Z4,h3]
     try with_reducible refine iK ?_
     refine aD [] (qE s lits[i].atom) ?_
     try with_reducible refine iK ?_
     cases h4:b7 s lits[i].atom
     ·rw[h4,Bool.false_and] at hg
      try simp -implicitDefEqProofs only[go_sem,Z1,Z2,Z3,Z4]
      try with_reducible refine iK ?_
      refine ab ?_
      refine sB ?_
      all_goals(first|done|(simp[bO,hg];done)|(simp[bO,hg];omega)|skip)
     ·rw[h4,Bool.true_and] at hg
      try simp -implicitDefEqProofs only[go_sem,Z1,Z2,Z3,Z4]
      try with_reducible refine iK ?_
      repeat(with_reducible apply And.intro;exact sO)
      refine⟨i+1,?_,?_,ah [some 0] ?_ ?_ rfl rfl⟩
      rotate_left
      ·show _ < _
       omega
      ·refine sB ?_
       all_goals(first|done|(simp[aa, *];done)|(simp[aa];done)|(simp;omega)|skip)
      ·refine sB ?_
       all_goals(first|done|(simp[aa, *];done)|(simp[aa];done)|(simp;omega)|skip)
      exact⟨by omega,hg⟩
    ·rw[List.drop_of_length_le (by omega),List.all_nil] at hg
     have hw:∀l∈lits,aX l.atom=true:=by
      intro l hl
      have:=List.all_eq_true.1 hg l hl
      simp only[b7,Bool.and_eq_true] at this
      exact this.2.1
     try simp -implicitDefEqProofs only[go_sem,Z1,Z2,Z3,Z4,h3]
     try with_reducible refine iK ?_
     refine oD [] [1] (oJ lits (by omega) hw) ?_
     try with_reducible refine iK ?_
     rcases Classical.em (((aA lits).length:Int)≤24) with h5|h5
     ·have h5':(aA lits).length≤24:=by omega
      try simp -implicitDefEqProofs only[go_sem,Z1,Z2,Z3,Z4,h5]
      try with_reducible refine iK ?_
      refine aD [] (qx s lits (by omega) hw) ?_
      try with_reducible refine iK ?_
      refine ab ?_
      refine sB ?_
      have e:decide (((numsOf s lits).length:Int)≤4)=decide ((numsOf s lits).length≤4):=decide_eq_decide.2 (by omega)
      simp[bO,h1,h2',hg,h5',e]
     ·have h5':¬ (aA lits).length≤24:=by omega
      try simp -implicitDefEqProofs only[go_sem,Z1,Z2,Z3,Z4,h5]
      try with_reducible refine iK ?_
      refine ab ?_
      refine sB ?_
      all_goals(first|done|(simp[bO,h5'];done)|(simp[bO,h5'];omega)|skip)
end Go.Proofs.YtpidddienjoleaaGreat
