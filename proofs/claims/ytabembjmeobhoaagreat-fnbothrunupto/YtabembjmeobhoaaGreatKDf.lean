/-
  The reference: the walks of formulas. A step towards the exact laws.
-/
import Derived.Test.YtabembjmeobhoaaGreatKDT
set_option linter.unusedVariables false
set_option linter.unusedSimpArgs false
open Classical renaming em→aa
open List renaming drop_of_length_le→ai
namespace Go.Proofs.YtabembjmeobhoaaGreat
open Go.Eng Go.Mod
open Int renaming reduceEq→Z1,reduceLT→Z2,reduceLE→Z3,reduceToNat→Z4
set_option maxRecDepth 100000
set_option maxHeartbeats 800000
theorem iW(a b:Atom):(a=b)=(a.kind=b.kind∧a.A=b.A∧a.B=b.B∧a.nums=b.nums∧a.times=b.times∧a.bound=b.bound∧a.strict=b.strict):=by
 cases a;cases b;simp only[Atom.mk.injEq]
theorem EK(a b:Atom):C E.P 211 [av (fT a),av (fT b)] [] (bz (bv (decide (a=b))) []):=by
 refine gT (nt:=97) (rs:=[.tmp 4]) hm Tryz.func211 fun hl he cq=>?_
 rcases aa (a.kind=b.kind) with h1|h1
 rotate_left
 ·try simp -implicitDefEqProofs only[go_sem,Z1,Z2,Z3,Z4,h1]
  refine sI ?_
  refine an ?_
  refine sB ?_
  all_goals(first|done|(simp[iW,h1];done)|(simp[iW,h1];omega)|skip)
 have k1:=eq_true h1
 try simp -implicitDefEqProofs only[go_sem,Z1,Z2,Z3,Z4,k1]
 refine sI ?_
 refine aD [] (nK a.A b.A) ?_
 refine sI ?_
 rcases aa (a.A=b.A) with h2|h2
 rotate_left
 ·try simp -implicitDefEqProofs only[go_sem,Z1,Z2,Z3,Z4,h2]
  refine sI ?_
  refine an ?_
  refine sB ?_
  all_goals(first|done|(simp[iW,h2];done)|(simp[iW,h2];omega)|skip)
 have k2:=eq_true h2
 try simp -implicitDefEqProofs only[go_sem,Z1,Z2,Z3,Z4,k2]
 refine sI ?_
 refine aD [] (nK a.B b.B) ?_
 refine sI ?_
 rcases aa (a.B=b.B) with h3|h3
 rotate_left
 ·try simp -implicitDefEqProofs only[go_sem,Z1,Z2,Z3,Z4,h3]
  refine sI ?_
  refine an ?_
  refine sB ?_
  all_goals(first|done|(simp[iW,h3];done)|(simp[iW,h3];omega)|skip)
 have k3:=eq_true h3
 try simp -implicitDefEqProofs only[go_sem,Z1,Z2,Z3,Z4,k3]
 refine sI ?_
 rcases aa (a.nums.length=b.nums.length) with h4|h4
 rotate_left
 ·have e:¬a.nums=b.nums:=fun hh=>h4 (by rw[hh])
  try simp -implicitDefEqProofs only[go_sem,Z1,Z2,Z3,Z4,h4]
  refine sI ?_
  refine an ?_
  refine sB ?_
  all_goals(first|done|(simp[iW,e];done)|(simp[iW,e];omega)|skip)
 have k4:=eq_true h4
 try simp -implicitDefEqProofs only[go_sem,Z1,Z2,Z3,Z4,k4]
 refine sI ?_
 rcases aa (a.times.length=b.times.length) with h5|h5
 rotate_left
 ·have e:¬a.times=b.times:=fun hh=>h5 (by rw[hh])
  try simp -implicitDefEqProofs only[go_sem,Z1,Z2,Z3,Z4,h5]
  refine sI ?_
  refine an ?_
  refine sB ?_
  all_goals(first|done|(simp[iW,e];done)|(simp[iW,e];omega)|skip)
 have k5:=eq_true h5
 try simp -implicitDefEqProofs only[go_sem,Z1,Z2,Z3,Z4,k5]
 refine sI ?_
 rcases aa (a.bound=b.bound) with h6|h6
 rotate_left
 ·try simp -implicitDefEqProofs only[go_sem,Z1,Z2,Z3,Z4,h6]
  refine sI ?_
  refine an ?_
  refine sB ?_
  all_goals(first|done|(simp[iW,h6];done)|(simp[iW,h6];omega)|skip)
 have k6:=eq_true h6
 try simp -implicitDefEqProofs only[go_sem,Z1,Z2,Z3,Z4,k6]
 refine sI ?_
 rcases aa (a.strict=b.strict) with h7|h7
 rotate_left
 ·have h7':(a.strict == b.strict)=false:=by simpa using h7
  try simp -implicitDefEqProofs only[go_sem,Z1,Z2,Z3,Z4,h7']
  refine sI ?_
  refine an ?_
  refine sB ?_
  all_goals(first|done|(simp[iW,h7];done)|(simp[iW,h7];omega)|skip)
 have h7':(a.strict == b.strict)=true:=by simpa using h7
 try simp -implicitDefEqProofs only[go_sem,Z1,Z2,Z3,Z4,h7']
 refine sI ?_
 refine aL hm (fun(i:Nat)=> i≤a.nums.length∧(a.nums=b.nums↔a.nums.drop i=b.nums.drop i)) (fun(i:Nat)=> ⟨dx 97 .any [(2,.ptr 0 0),(3,.ptr 1 0),(5,iv i)],[some (.box (cE (fT a))),some (.box (cE (fT b)))]⟩) (fun(i:Nat)=> a.nums.length-i) (0) ?_ (ar [some 0,some 1] ?_ ?_ rfl rfl) ?_
 rotate_left
 ·refine sB ?_
  all_goals(try exact sM)
 ·refine sB ?_
  all_goals(try exact sM)
 rotate_left
 ·simp
 ·rintro i ⟨hi,hg⟩
  rcases aa (i<a.nums.length) with q1|q1
  ·have q2:i<b.nums.length:=by omega
   rw[drop_eq q1 q2] at hg
   try simp -implicitDefEqProofs only[go_sem,Z1,Z2,Z3,Z4,q1,q2]
   refine sI ?_
   refine aD [] (nK a.nums[i] b.nums[i]) ?_
   refine sI ?_
   rcases aa (a.nums[i]=b.nums[i]) with q3|q3
   ·have k:=eq_true q3
    try simp -implicitDefEqProofs only[go_sem,Z1,Z2,Z3,Z4,k]
    refine sJ ?_
    refine⟨i+1,?_,sL,ar [some 0,some 1] ?_ ?_ rfl rfl⟩
    rotate_left
    ·refine sB ?_
     all_goals(try exact sM)
    ·refine sB ?_
     all_goals(try exact sM)
    refine⟨by omega,?_⟩
    rw[hg]
    simp[q3]
   ·have e:¬a.nums=b.nums:=fun hh=>q3 (hg.1 hh).1
    try simp -implicitDefEqProofs only[go_sem,Z1,Z2,Z3,Z4,q3]
    refine sI ?_
    refine an ?_
    refine sB ?_
    all_goals(first|done|(simp[iW,e];done)|(simp[iW,e];omega)|skip)
  ·rw[ai (by omega),ai (by omega)] at hg
   have h8:a.nums=b.nums:=hg.2 rfl
   try simp -implicitDefEqProofs only[go_sem,Z1,Z2,Z3,Z4,q1]
   refine sI ?_
   refine aL hm (fun(j:Nat)=> j≤a.times.length∧(a.times=b.times↔a.times.drop j=b.times.drop j)) (fun(j:Nat)=> ⟨dx 97 .any [(2,.ptr 0 0),(3,.ptr 1 0),(6,iv j)],[some (.box (cE (fT a))),some (.box (cE (fT b)))]⟩) (fun(j:Nat)=> a.times.length-j) (0) ?_ (ar [some 0,some 1] ?_ ?_ rfl rfl) ?_
   rotate_left
   ·refine sB ?_
    all_goals(try exact sM)
   ·refine sB ?_
    all_goals(try exact sM)
   rotate_left
   ·simp
   ·rintro j ⟨hj,hk⟩
    rcases aa (j<a.times.length) with q1' | q1'
    ·have q2:j<b.times.length:=by omega
     rw[drop_eq q1' q2] at hk
     rcases aa (a.times[j]=b.times[j]) with q3|q3
     ·have k:=eq_true q3
      try simp -implicitDefEqProofs only[go_sem,Z1,Z2,Z3,Z4,q1',q2,k]
      refine sJ ?_
      refine⟨j+1,?_,sL,ar [some 0,some 1] ?_ ?_ rfl rfl⟩
      rotate_left
      ·refine sB ?_
       all_goals(try exact sM)
      ·refine sB ?_
       all_goals(try exact sM)
      refine⟨by omega,?_⟩
      rw[hk]
      simp[q3]
     ·have e:¬a.times=b.times:=fun hh=>q3 (hk.1 hh).1
      try simp -implicitDefEqProofs only[go_sem,Z1,Z2,Z3,Z4,q1',q2,q3]
      refine sI ?_
      refine an ?_
      refine sB ?_
      all_goals(first|done|(simp[iW,e];done)|(simp[iW,e];omega)|skip)
    ·rw[ai (by omega),ai (by omega)] at hk
     try simp -implicitDefEqProofs only[go_sem,Z1,Z2,Z3,Z4,q1']
     refine sI ?_
     refine an ?_
     refine sB ?_
     all_goals(first|done|(simp[iW,h1,h2,h3,h8,h6,h7,hk];done)|(simp[iW,h1,h2,h3,h8,h6,h7,hk];omega)|skip)
end Go.Proofs.YtabembjmeobhoaaGreat
