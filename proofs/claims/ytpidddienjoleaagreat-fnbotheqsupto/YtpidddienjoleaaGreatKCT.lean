/-
  The reference: the walks of what is told of numbers. A step towards the exact laws.
-/
import Derived.Test.YtpidddienjoleaaGreatKCP
import Derived.Test.YtpidddienjoleaaGreatKCI
import Derived.Test.YtpidddienjoleaaGreatKCE
import Derived.Test.YtpidddienjoleaaGreatKCD
set_option linter.unusedVariables false
set_option linter.unusedSimpArgs false
namespace Go.Proofs.YtpidddienjoleaaGreat
open Go.Eng Go.Mod
open Int renaming reduceEq→Z1,reduceLT→Z2,reduceLE→Z3,reduceToNat→Z4
set_option maxRecDepth 100000
set_option maxHeartbeats 800000
theorem CG(lits:List aG)(hl1:lits.length≤100):C E.P 45 [lv (ax lits)] [] (aM (lv (bj (aB lits))) []):=by
 refine gT (nt:=44) (rs:=[.tmp 2]) hm Tryz.func45 fun hl he hLB=>?_
 refine al hm (fun(i:Nat)=> i≤lits.length) (fun(i:Nat)=> ⟨bW 44 .any [(0,lv (ax lits)),(3,.acc 0),(4,iv i)],[some (.acc 55 (bj (aB (lits.take i))))]⟩) (fun(i:Nat)=> lits.length-i) (0) ?_ (ah [some 0] ?_ ?_ rfl rfl) ?_
 rotate_left
 ·refine sB ?_
  all_goals(first|done|(rfl)|(simp[aa, *];done)|(simp[aa];done)|(simp;omega)|skip)
 ·refine sB ?_
  all_goals(first|done|(rfl)|(simp[aa, *];done)|(simp[aa];done)|(simp;omega)|skip)
 rotate_left
 ·omega
 ·rintro i hi
  rcases Classical.em (i<lits.length) with h1|h1
  ·have h2:=pr (lits.take i)
   have h4:(lits.take i).length≤100:=by simp;omega
   have hs:=yQ h1
   rcases Classical.em (lits[i].atom.kind=1) with h5|h5
   ·have k5:=eq_true h5
    cases h6:lits[i].no
    ·rw[if_pos ⟨h5,h6⟩] at hs
     try simp -implicitDefEqProofs only[go_sem,Z1,Z2,Z3,Z4,h1,k5,h6]
     try with_reducible refine iK ?_
     repeat(with_reducible apply And.intro;exact sO)
     refine⟨i+1,?_,?_,ah [some 1] ?_ ?_ rfl rfl⟩
     rotate_left
     ·show _ < _
      omega
     ·refine sB ?_
      all_goals(first|done|((rw[hs,←nG,ow,jZ];rfl))|(simp[aa, *];done)|(simp[aa];done)|(simp;omega)|skip)
     ·refine sB ?_
      all_goals(first|done|((rw[hs,←nG,ow,jZ];rfl))|(simp[aa, *];done)|(simp[aa];done)|(simp;omega)|skip)
     exact h1
    ·rw[if_neg (by simp[h6]),List.append_nil] at hs
     try simp -implicitDefEqProofs only[go_sem,Z1,Z2,Z3,Z4,h1,k5,h6]
     try with_reducible refine iK ?_
     repeat(with_reducible apply And.intro;exact sO)
     refine⟨i+1,?_,?_,ah [some 0] ?_ ?_ rfl rfl⟩
     rotate_left
     ·show _ < _
      omega
     ·refine sB ?_
      all_goals(first|done|((rw[hs]))|(simp[aa, *];done)|(simp[aa];done)|(simp;omega)|skip)
     ·refine sB ?_
      all_goals(first|done|((rw[hs]))|(simp[aa, *];done)|(simp[aa];done)|(simp;omega)|skip)
     exact h1
   ·rw[if_neg (by simp[h5]),List.append_nil] at hs
    try simp -implicitDefEqProofs only[go_sem,Z1,Z2,Z3,Z4,h1,h5]
    try with_reducible refine iK ?_
    repeat(with_reducible apply And.intro;exact sO)
    refine⟨i+1,?_,?_,ah [some 0] ?_ ?_ rfl rfl⟩
    rotate_left
    ·show _ < _
     omega
    ·refine sB ?_
     all_goals(first|done|((rw[hs]))|(simp[aa, *];done)|(simp[aa];done)|(simp;omega)|skip)
    ·refine sB ?_
     all_goals(first|done|((rw[hs]))|(simp[aa, *];done)|(simp[aa];done)|(simp;omega)|skip)
    exact h1
  ·try simp -implicitDefEqProofs only[go_sem,Z1,Z2,Z3,Z4,h1]
   try with_reducible refine iK ?_
   refine ab ?_
   refine sB ?_
   rw[List.take_of_length_le (by omega)]
end Go.Proofs.YtpidddienjoleaaGreat
