/-
  The program: the walks of formulas. A step towards the exact laws.
-/
import Derived.Test.YtabembjmeobhoaaGreatKDO
set_option linter.unusedVariables false
set_option linter.unusedSimpArgs false
open Classical renaming em→aa
open List renaming drop_eq_getElem_cons→ae,drop_of_length_le→ai
namespace Go.Proofs.YtabembjmeobhoaaGreat
open Go.Eng Go.Mod
open Int renaming reduceEq→Z1,reduceLT→Z2,reduceLE→Z3,reduceToNat→Z4
set_option maxRecDepth 100000
set_option maxHeartbeats 800000
theorem D1(a b:List Int):C E.P 29 [lv (bF a),lv (bF b)] [] (bz (bv (decide (a=b))) []):=by
 refine gT (nt:=26) (rs:=[.tmp 4]) hm Tryz.func29 fun hl he cq=>?_
 rcases aa (a.length=b.length) with h2|h2
 ·have k2:=eq_true h2
  try simp -implicitDefEqProofs only[go_sem,Z1,Z2,Z3,Z4,k2]
  refine sI ?_
  refine aL hm (fun(i:Nat)=> i≤a.length∧(a=b↔a.drop i=b.drop i)) (fun(i:Nat)=> ⟨dx 26 .any [(0,lv (bF a)),(1,lv (bF b)),(12,iv a.length),(13,iv i)],[]⟩) (fun(i:Nat)=> a.length-i) (0) ?_ (ar [] ?_ ?_ rfl rfl) ?_
  rotate_left
  ·refine sB ?_
   all_goals(first|done|(simp[h2])|(simp[aI, *];done)|(simp[aI];done)|(simp;omega)|skip)
  ·refine sB ?_
   all_goals(first|done|(simp[h2])|(simp[aI, *];done)|(simp[aI];done)|(simp;omega)|skip)
  rotate_left
  ·simp
  ·rintro i ⟨hi,hg⟩
   rcases aa (i<a.length) with h3|h3
   ·have h4:i<b.length:=by omega
    rw[ae h3,ae h4,List.cons.injEq] at hg
    rcases aa (a[i]=b[i]) with h5|h5
    ·have k5:=eq_true h5
     try simp -implicitDefEqProofs only[go_sem,Z1,Z2,Z3,Z4,h3,h4,k5]
     refine sJ ?_
     refine⟨i+1,?_,sL,ar [] ?_ ?_ rfl rfl⟩
     rotate_left
     ·refine sB ?_
      all_goals(try exact sM)
     ·refine sB ?_
      all_goals(try exact sM)
     refine⟨by omega,?_⟩
     rw[hg]
     simp[h5]
    ·have e:¬a=b:=fun hh=>h5 (hg.1 hh).1
     try simp -implicitDefEqProofs only[go_sem,Z1,Z2,Z3,Z4,h3,h4,h5]
     refine sI ?_
     refine an ?_
     refine sB ?_
     all_goals(first|done|(simp[e];done)|(simp[e];omega)|skip)
   ·rw[ai (by omega),ai (by omega)] at hg
    try simp -implicitDefEqProofs only[go_sem,Z1,Z2,Z3,Z4,h3]
    refine sI ?_
    refine an ?_
    refine sB ?_
    all_goals(first|done|(simp[hg];done)|(simp[hg];omega)|skip)
 ·have e:¬a=b:=fun hh=>h2 (by rw[hh])
  try simp -implicitDefEqProofs only[go_sem,Z1,Z2,Z3,Z4,h2]
  refine sI ?_
  refine an ?_
  refine sB ?_
  all_goals(first|done|(simp[e];done)|(simp[e];omega)|skip)
theorem kQ(a b:Atom):(a=b)=(a.kind=b.kind∧a.A=b.A∧a.B=b.B∧a.nums=b.nums∧a.times=b.times∧a.bound=b.bound∧a.strict=b.strict):=by
 cases a;cases b;simp only[Atom.mk.injEq]
theorem Ef(a b:Atom):C E.P 116 [av (fT a),av (fT b)] [] (bz (bv (decide (a=b))) []):=by
 refine gT (nt:=52) (rs:=[.tmp 4]) hm Tryz.func116 fun hl he cq=>?_
 rcases aa (a.kind=b.kind) with h1|h1
 rotate_left
 ·try simp -implicitDefEqProofs only[go_sem,Z1,Z2,Z3,Z4,h1]
  refine sI ?_
  refine an ?_
  refine sB ?_
  all_goals(first|done|(simp[kQ,h1];done)|(simp[kQ,h1];omega)|skip)
 have k1:=eq_true h1
 try simp -implicitDefEqProofs only[go_sem,Z1,Z2,Z3,Z4,k1]
 refine sI ?_
 refine aD [] (fG a.A b.A) ?_
 refine sI ?_
 rcases aa (a.A=b.A) with h2|h2
 rotate_left
 ·try simp -implicitDefEqProofs only[go_sem,Z1,Z2,Z3,Z4,h2]
  refine sI ?_
  refine an ?_
  refine sB ?_
  all_goals(first|done|(simp[kQ,h2];done)|(simp[kQ,h2];omega)|skip)
 have k2:=eq_true h2
 try simp -implicitDefEqProofs only[go_sem,Z1,Z2,Z3,Z4,k2]
 refine sI ?_
 refine aD [] (fG a.B b.B) ?_
 refine sI ?_
 rcases aa (a.B=b.B) with h3|h3
 rotate_left
 ·try simp -implicitDefEqProofs only[go_sem,Z1,Z2,Z3,Z4,h3]
  refine sI ?_
  refine an ?_
  refine sB ?_
  all_goals(first|done|(simp[kQ,h3];done)|(simp[kQ,h3];omega)|skip)
 have k3:=eq_true h3
 try simp -implicitDefEqProofs only[go_sem,Z1,Z2,Z3,Z4,k3]
 refine sI ?_
 refine aD [] (ui 30 a.nums b.nums (fun x _ y=>fG x y)) ?_
 refine sI ?_
 rcases aa (a.nums=b.nums) with h4|h4
 rotate_left
 ·try simp -implicitDefEqProofs only[go_sem,Z1,Z2,Z3,Z4,h4]
  refine sI ?_
  refine an ?_
  refine sB ?_
  all_goals(first|done|(simp[kQ,h4];done)|(simp[kQ,h4];omega)|skip)
 have k4:=eq_true h4
 try simp -implicitDefEqProofs only[go_sem,Z1,Z2,Z3,Z4,k4]
 refine sI ?_
 refine aD [] (D1 a.times b.times) ?_
 refine sI ?_
 rcases aa (a.times=b.times) with h5|h5
 rotate_left
 ·try simp -implicitDefEqProofs only[go_sem,Z1,Z2,Z3,Z4,h5]
  refine sI ?_
  refine an ?_
  refine sB ?_
  all_goals(first|done|(simp[kQ,h5];done)|(simp[kQ,h5];omega)|skip)
 have k5:=eq_true h5
 try simp -implicitDefEqProofs only[go_sem,Z1,Z2,Z3,Z4,k5]
 refine sI ?_
 rcases aa (a.bound=b.bound) with h6|h6
 rotate_left
 ·try simp -implicitDefEqProofs only[go_sem,Z1,Z2,Z3,Z4,h6]
  refine sI ?_
  refine an ?_
  refine sB ?_
  all_goals(first|done|(simp[kQ,h6];done)|(simp[kQ,h6];omega)|skip)
 have k6:=eq_true h6
 have e:decide (a=b)=(a.strict == b.strict):=by
  rw[Bool.beq_eq_decide_eq]
  exact decide_eq_decide.2 (by rw[kQ];simp[h1,h2,h3,h4,h5,h6])
 try simp -implicitDefEqProofs only[go_sem,Z1,Z2,Z3,Z4,k6]
 refine sI ?_
 refine an ?_
 refine sB ?_
 all_goals(first|done|(simp[e];done)|(simp[e];omega)|skip)
theorem EH:C E.P 104 [.b8] [] (bz (lv (bF [])) []):=by
 refine gT (nt:=8) (rs:=[.tmp 2]) hm Tryz.func104 fun hl he cq=>?_
 refine Kn 3 _ true rfl rfl (by simp -implicitDefEqProofs only[go_sem,Z1,Z2,Z3,Z4]) Kj ?_
 try simp -implicitDefEqProofs only[go_sem,Z1,Z2,Z3,Z4]
 refine sI ?_
 refine an ?_
 exact sD
theorem Et(a:Addr)(c:Nat):C E.P 104 [.d (.val (.slice (some a) 0 c))] [] (bz (lv (bF [])) []):=by
 refine gT (nt:=8) (rs:=[.tmp 2]) hm Tryz.func104 fun hl he cq=>?_
 refine Kn 3 _ false rfl rfl (p:=.d (.val (.slice (some a) 0 c))) (by simp -implicitDefEqProofs only[go_sem,Z1,Z2,Z3,Z4]) (J9 _ _ _) ?_
 try simp -implicitDefEqProofs only[go_sem,Z1,Z2,Z3,Z4]
 refine sJ ?_
 refine an ?_
 exact sD
theorem Co(r:List D)(rs:List (List D))(hl1:rs.length≤1000)(h1:∀y∈r::rs,y.length=1):C E.P 104 [.d (.dt (r::rs))] [] (bz (lv (r::rs)) []):=by
 refine gT (nt:=8) (rs:=[.tmp 2]) hm Tryz.func104 fun hl he cq=>?_
 refine Kn 3 _ false rfl rfl (p:=.d (.dt (r::rs))) (by simp -implicitDefEqProofs only[go_sem,Z1,Z2,Z3,Z4]) Kd ?_
 try simp -implicitDefEqProofs only[go_sem,Z1,Z2,Z3,Z4]
 refine sI ?_
 refine And.intro ⟨?_,by omega,by omega⟩ ?_
 ·simpa using h1
 refine an ?_
 exact sD
theorem N9(ns:List Int)(hl1:ns.length≤1000):C E.P 104 [lv (bF ns)] [] (bz (lv (bF ns)) []):=by
 cases ns with
 | nil=>exact RK EH Et
 | cons x xs=>
   have h1:=pr (x::xs)
   rw[jF] at h1⊢
   exact Co _ (bF xs) (by rw[JZ];simp at hl1;omega) h1
theorem BA{a:Atom}(h:cQ a=true):a.times.length≤4:=by
 rcases mH h with k|k
 ·rw[cQ,if_pos k] at h
  simp only[Bool.and_eq_true,decide_eq_true_eq] at h
  have:=h.2.2.2.1
  omega
 ·obtain⟨_,_,h3,h4,_⟩:=mM h k
  omega
end Go.Proofs.YtabembjmeobhoaaGreat
