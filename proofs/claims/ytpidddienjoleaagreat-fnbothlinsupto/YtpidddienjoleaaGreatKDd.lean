/-
  The program: the walks of formulas. A step towards the exact laws.
-/
import Derived.Test.YtpidddienjoleaaGreatKDE
import Derived.Test.YtpidddienjoleaaGreatKDO
set_option linter.unusedVariables false
set_option linter.unusedSimpArgs false
namespace Go.Proofs.YtpidddienjoleaaGreat
open Go.Eng Go.Mod
open Int renaming reduceEq→Z1,reduceLT→Z2,reduceLE→Z3,reduceToNat→Z4
set_option maxRecDepth 100000
set_option maxHeartbeats 800000
theorem v7(a b:List Int):C E.P 56 [lv (aJ a),lv (aJ b)] [] (aO (bv (decide (a=b))) []):=by
 refine gS (nt:=26) (rs:=[.tmp 4]) hm Tryz.func56 fun hl he hLB=>?_
 rcases Classical.em (a.length=b.length) with h2|h2
 ·have k2:=eq_true h2
  simp -implicitDefEqProofs only[go_sem,k2]
  refine au hm (fun(i:Nat)=> i≤a.length∧(a=b↔a.drop i=b.drop i)) (fun(i:Nat)=> ⟨b9 26 .any [(0,lv (aJ a)),(1,lv (aJ b)),(12,iv a.length),(13,iv i)],[]⟩) (fun(i:Nat)=> a.length-i) (0) ?_ (ah [] ?_ ?_ rfl rfl) ?_
  rotate_left
  ·exact sC
  ·exact sC
  rotate_left
  ·simp
  ·rintro i ⟨hi,hg⟩
   rcases Classical.em (i<a.length) with h3|h3
   ·have h4:i<b.length:=by omega
    rw[List.drop_eq_getElem_cons h3,List.drop_eq_getElem_cons h4,List.cons.injEq] at hg
    rcases Classical.em (a[i]=b[i]) with h5|h5
    ·have k5:=eq_true h5
     simp -implicitDefEqProofs only[go_sem,h3,h4,k5]
     refine iK ?_
     repeat(with_reducible apply And.intro;exact sO)
     refine⟨i+1,?_,?_,ah [] ?_ ?_ rfl rfl⟩
     rotate_left
     ·show _ < _
      omega
     ·exact sC
     ·exact sC
     refine⟨by omega,?_⟩
     rw[hg]
     simp[h5]
    ·have e:¬a=b:=fun hh=>h5 (hg.1 hh).1
     simp -implicitDefEqProofs only[go_sem,h3,h4,h5]
     refine iK ?_
     refine ab ?_
     refine sA ?_
     all_goals(simp[e];done)
   ·rw[List.drop_of_length_le (by omega),List.drop_of_length_le (by omega)] at hg
    simp -implicitDefEqProofs only[go_sem,h3]
    refine ab ?_
    refine sA ?_
    all_goals(simp[hg];done)
 ·have e:¬a=b:=fun hh=>h2 (by rw[hh])
  simp -implicitDefEqProofs only[go_sem,h2]
  refine ab ?_
  refine sA ?_
  all_goals(simp[e];done)
theorem lr(a b:Atom):(a=b)=(a.kind=b.kind∧a.A=b.A∧a.B=b.B∧a.nums=b.nums∧a.times=b.times∧a.bound=b.bound∧a.strict=b.strict):=by
 cases a;cases b;simp only[Atom.mk.injEq]
theorem xf(a b:Atom):C E.P 138 [av (gr a),av (gr b)] [] (aO (bv (decide (a=b))) []):=by
 refine gS (nt:=52) (rs:=[.tmp 4]) hm Tryz.func138 fun hl he hLB=>?_
 rcases Classical.em (a.kind=b.kind) with h1|h1
 rotate_left
 ·simp -implicitDefEqProofs only[go_sem,h1]
  refine ab ?_
  refine sA ?_
  all_goals(simp[lr,h1];done)
 have k1:=eq_true h1
 simp -implicitDefEqProofs only[go_sem,k1]
 refine aC [] (fj a.A b.A) ?_
 rcases Classical.em (a.A=b.A) with h2|h2
 rotate_left
 ·simp -implicitDefEqProofs only[go_sem,h2]
  refine ab ?_
  refine sA ?_
  all_goals(simp[lr,h2];done)
 have k2:=eq_true h2
 simp -implicitDefEqProofs only[go_sem,k2]
 refine aC [] (fj a.B b.B) ?_
 rcases Classical.em (a.B=b.B) with h3|h3
 rotate_left
 ·simp -implicitDefEqProofs only[go_sem,h3]
  refine ab ?_
  refine sA ?_
  all_goals(simp[lr,h3];done)
 have k3:=eq_true h3
 simp -implicitDefEqProofs only[go_sem,k3]
 refine aC [] (mV 15 a.nums b.nums (fun x _ y=>fj x y)) ?_
 rcases Classical.em (a.nums=b.nums) with h4|h4
 rotate_left
 ·simp -implicitDefEqProofs only[go_sem,h4]
  refine ab ?_
  refine sA ?_
  all_goals(simp[lr,h4];done)
 have k4:=eq_true h4
 simp -implicitDefEqProofs only[go_sem,k4]
 refine aC [] (v7 a.times b.times) ?_
 rcases Classical.em (a.times=b.times) with h5|h5
 rotate_left
 ·simp -implicitDefEqProofs only[go_sem,h5]
  refine ab ?_
  refine sA ?_
  all_goals(simp[lr,h5];done)
 have k5:=eq_true h5
 simp -implicitDefEqProofs only[go_sem,k5]
 rcases Classical.em (a.bound=b.bound) with h6|h6
 rotate_left
 ·simp -implicitDefEqProofs only[go_sem,h6]
  refine ab ?_
  refine sA ?_
  all_goals(simp[lr,h6];done)
 have k6:=eq_true h6
 have e:decide (a=b)=(a.strict == b.strict):=by
  rw[Bool.beq_eq_decide_eq]
  exact decide_eq_decide.2 (by rw[lr];simp[h1,h2,h3,h4,h5,h6])
 simp -implicitDefEqProofs only[go_sem,k6]
 refine ab ?_
 refine sA ?_
 all_goals(simp[e];done)
theorem wM:C E.P 110 [.aK] [] (aO (lv (aJ [])) []):=by
 refine gS (nt:=8) (rs:=[.tmp 2]) hm Tryz.func110 fun hl he hLB=>?_
 refine Bq 3 _ true rfl rfl (by simp -implicitDefEqProofs only[go_sem]) BS ?_
 refine sA ?_
 refine ab ?_
 exact sC
theorem wT(a:Addr)(c:Nat):C E.P 110 [.d (.val (.slice (some a) 0 c))] [] (aO (lv (aJ [])) []):=by
 refine gS (nt:=8) (rs:=[.tmp 2]) hm Tryz.func110 fun hl he hLB=>?_
 refine Bq 3 _ false rfl rfl (p:=.d (.val (.slice (some a) 0 c))) (by simp -implicitDefEqProofs only[go_sem]) (Bl _ _ _) ?_
 refine sA ?_
 repeat(with_reducible apply And.intro;exact sO)
 refine ab ?_
 exact sC
theorem ui(r:List D)(rs:List (List D))(hl1:rs.length≤1000)(h1:∀y∈r::rs,y.length=1):C E.P 110 [.d (.bx (r::rs))] [] (aO (lv (r::rs)) []):=by
 refine gS (nt:=8) (rs:=[.tmp 2]) hm Tryz.func110 fun hl he hLB=>?_
 refine Bq 3 _ false rfl rfl (p:=.d (.bx (r::rs))) (by simp -implicitDefEqProofs only[go_sem]) BK ?_
 refine sA ?_
 refine And.intro ⟨?_,by omega,by omega⟩ ?_
 ·simpa using h1
 refine ab ?_
 exact sC
theorem EB(ns:List Int)(hl1:ns.length≤1000):C E.P 110 [lv (aJ ns)] [] (aO (lv (aJ ns)) []):=by
 cases ns with
 | nil=>exact IA wM wT
 | cons x xs=>
   have h1:=uC (x::xs)
   rw[kW] at h1⊢
   exact ui _ (aJ xs) (by rw[Bs];simp at hl1;omega) h1
end Go.Proofs.YtpidddienjoleaaGreat
