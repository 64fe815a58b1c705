/-
  The reference: the walk of DrawFormIs. A step towards the laws.
-/
import Derived.Test.YtabembjmeobhoaaGreatKDyc
import Derived.Lib.SlicesCompact
import Derived.Lib.ItoaLen
set_option linter.unusedVariables false
set_option linter.unusedSimpArgs false
open Classical renaming em→aa
namespace Go.Proofs.YtabembjmeobhoaaGreat
open Go.Eng Go.Mod
open Int renaming reduceEq→Z1,reduceLT→Z2,reduceLE→Z3,reduceToNat→Z4
set_option maxRecDepth 100000
set_option maxHeartbeats 800000
theorem Ez(a:Atom)(hb9:a.times.length≤8000000):C E.P 20 [av (fT a)] [] (bz (av (fT a)) []):=by
 have ht:=pr a.times
 refine gT (nt:=41) (rs:=[.cell 2 47]) hm Tryz.func20 fun hl he cq=>?_
 refine aD [] (gJ a.A) ?_
 refine sI ?_
 refine aD [] (gJ a.B) ?_
 refine sJ ?_
 refine aL hm (fun(i:Nat)=> i≤a.nums.length) (fun(i:Nat)=> ⟨dx 41 .any [(1,.ptr 0 0),(2,.ptr 1 0),(3,.ptr 3 0),(4,iv i)],[some (.box (cE (fT a))),some (.box [iv 0,sv [],.b8,sv [],.b8,.b8,.b8,iv 0,bv false]),some (.acc 3 (bF a.times)),some (.box [iv a.kind,sv a.A.name,lv (aN a.A.kids),sv a.B.name,lv (aN a.B.kids),.acc 4,.acc 2,iv a.bound,bv a.strict]),some (.acc 34 (aN (a.nums.take i)))]⟩) (fun(i:Nat)=> a.nums.length-i) (0) ?_ (ar [some 0,some 1,some 3,some 4,none] ?_ ?_ rfl rfl) ?_
 rotate_left
 ·refine sB ?_
  all_goals(first|done|(rfl)|(simp[aI, *];done)|(simp[aI];done)|(simp;omega)|skip)
 ·refine sB ?_
  all_goals(first|done|(rfl)|(simp[aI, *];done)|(simp[aI];done)|(simp;omega)|skip)
 rotate_left
 ·omega
 ·rintro i hi
  rcases aa (i<a.nums.length) with h1|h1
  ·try simp -implicitDefEqProofs only[go_sem,Z1,Z2,Z3,Z4,h1]
   refine sI ?_
   refine aD [] (gJ a.nums[i]) ?_
   refine sJ ?_
   refine⟨i+1,?_,sL,ar [some 0,some 1,some 2,some 3,some 5] ?_ ?_ rfl rfl⟩
   rotate_left
   ·refine sB ?_
    all_goals(first|done|(exact pU h1)|(simp[aI, *];done)|(simp[aI];done)|(simp;omega)|skip)
   ·refine sB ?_
    all_goals(first|done|(exact pU h1)|(simp[aI, *];done)|(simp[aI];done)|(simp;omega)|skip)
   exact h1
  ·try simp -implicitDefEqProofs only[go_sem,Z1,Z2,Z3,Z4,h1]
   refine sI ?_
   refine an ?_
   refine sB ?_
   rw[List.take_of_length_le (by omega)]
end Go.Proofs.YtabembjmeobhoaaGreat
