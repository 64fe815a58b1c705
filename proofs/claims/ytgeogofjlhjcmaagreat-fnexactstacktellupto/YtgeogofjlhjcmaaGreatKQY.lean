/-
  The law FnExactStackPop, walked: whatever it is given, it answers yes. A step towards the exact law. The law FnExactStackTell, walked: whatever it is given, it answers yes. A step towards the exact law.
-/
import Derived.Test.YtgeogofjlhjcmaaGreatKQs
import Derived.Test.YtgeogofjlhjcmaaGreatKQt
import Derived.Test.YtgeogofjlhjcmaaGreatKQu
set_option linter.unusedVariables false
set_option linter.unusedSimpArgs false
namespace Go.Proofs.YtgeogofjlhjcmaaGreat
open Go.Eng Go.Mod
open Int renaming reduceEq → Z1,reduceLT → Z2,reduceLE → Z3,reduceToNat → Z4
set_option maxRecDepth 100000
set_option maxHeartbeats 400000
theorem mkStack_ct (s:Stack) (k:Int):(mkStack s k).2 = k + ctStack s:=by
 simp only [mkStack,mkL_ct mkSym_ct,mkL_ct mkForms_ct,ctStack]
 omega
end Go.Proofs.YtgeogofjlhjcmaaGreat
namespace Go.Proofs.YtgeogofjlhjcmaaGreat
open Go.Eng Go.Mod
open Int renaming reduceEq → Z1,reduceLT → Z2,reduceLE → Z3,reduceToNat → Z4
set_option maxRecDepth 100000
set_option maxHeartbeats 400000
theorem c_law_StackTell (k:Stack) (f:Mod.Form):C E.P 4 [av (cStack k),av (cForm f)] [] (Eq2 (bv true) []):=by
 have s1:=szStack_shr k 1048576 (by omega)
 have u1:=use_Stack k 1048576 (by omega)
 have hLB:=LB_eq
 refine C_goS (nt:=119) (rs:=[.tmp 4]) hm Tryz.func4 rfl rfl rfl rfl rfl (fun hl he=>?_)
 simp -implicitDefEqProofs only [go_sem,Z1,Z2,Z3,Z4] at hl ⊢
 refine atCall [] (c_laws_szStack k 1048576 (by omega) (by omega)) ?_ ?_ <;> simp -implicitDefEqProofs only [go_sem,Z1,Z2,Z3,Z4]
 generalize hr1:szStack k 1048576 = r1 at *
 rcases Classical.em (r1 < 0) with h1 | h1
 ·simp -implicitDefEqProofs only [go_sem,Z1,Z2,Z3,Z4,h1]
  refine fin1' ?_
  simp -implicitDefEqProofs only [go_sem,Z1,Z2,Z3,Z4]
 ·skip
  have s2:=szForm_shr f r1 (by omega)
  have u2:=use_Form f r1 (by omega)
  simp -implicitDefEqProofs only [go_sem,Z1,Z2,Z3,Z4,h1]
  refine atCall [] (c_laws_szForm f r1 (by omega) (by omega)) ?_ ?_ <;> simp -implicitDefEqProofs only [go_sem,Z1,Z2,Z3,Z4]
  generalize hr2:szForm f r1 = r2 at *
  rcases Classical.em (r2 < 0) with h2 | h2
  ·simp -implicitDefEqProofs only [go_sem,Z1,Z2,Z3,Z4,h2]
   refine fin1' ?_
   simp -implicitDefEqProofs only [go_sem,Z1,Z2,Z3,Z4]
  ·have hct:ctStack k + ctForm f ≤ 8000000:=by
    have:=u1 (by omega)
    have:=u2 (by omega)
    omega
   have hct2:=tell_ct k f
   have m1:=mkStack_ct k 1
   have m2:=mkStack_ct (stackTell k f).1 1
   have m3:=mkFormK_ct f (1 + ctStack k)
   have n2:¬ (1 + (ctStack (stackTell k f).1:Int) < 0):=by omega
   have n3:¬ (mkFormK f (1 + ctStack k) < 0):=by have:7 ≤ ctForm f:=by (rw [ctForm_eq,ctLit,ctT_eq,ctT_eq]; omega)
                                                 omega
   have b1:1 + ctL ctSym k.sig.syms + ctL ctForms k.levels ≤ 4398046511104:=by rw [ctStack] at hct; omega
   have b2:1 + ctL ctSym (stackTell k f).1.sig.syms + ctL ctForms (stackTell k f).1.levels ≤ 4398046511104:=by rw [ctStack] at hct2; omega
   simp -implicitDefEqProofs only [go_sem,Z1,Z2,Z3,Z4,h2]
   refine atCall [] (c_laws_toStack k) ?_ ?_ <;> simp -implicitDefEqProofs only [go_sem,Z1,Z2,Z3,Z4]
   refine atCall [] (c_laws_toForm f) ?_ ?_ <;> simp -implicitDefEqProofs only [go_sem,Z1,Z2,Z3,Z4]
   refine atCall [] (c_spec_StackTell k f hct) ?_ ?_ <;> simp -implicitDefEqProofs only [go_sem,Z1,Z2,Z3,Z4]
   with_reducible refine ind_andM (by kernel_rfl) ?_
   refine atOwn [] [3,4] (c_laws_toStack_T k) ?_ ?_ <;> simp -implicitDefEqProofs only [go_sem,Z1,Z2,Z3,Z4]
   refine atOwn [] [6,7,8,9,10] (c_laws_toForm_T f) ?_ ?_ <;> simp -implicitDefEqProofs only [go_sem,Z1,Z2,Z3,Z4]
   refine atLookO [] [3,4,6,7,8,9,10] [12,13] (c_impl_StackTell k f hct) rfl ?_ ?_ ?_
   ·(simp -implicitDefEqProofs only [go_sem,Z1,Z2,Z3,Z4]; repeat' (first | exact Vws.nil | apply Vws.cons | exact Vw.same (by first | rfl | simp -implicitDefEqProofs only [go_sem,Z1,Z2,Z3,Z4]) | exact Vw.acc rfl rfl | exact Vw.tre rfl rfl (by simp -implicitDefEqProofs only [go_sem,Z1,Z2,Z3,Z4]) | exact Vw.nil | apply Vw.agg | apply Vw.fn | refine Vw.box rfl rfl ?_))
   all_goals simp -implicitDefEqProofs only [go_sem,Z1,Z2,Z3,Z4]
   refine atLook [] [12,13] (c_laws_eqStack (stackTell k f).1) rfl ?_ ?_ ?_
   ·(simp -implicitDefEqProofs only [go_sem,Z1,Z2,Z3,Z4]; repeat' (first | exact Vws.nil | apply Vws.cons | exact Vw.same (by first | rfl | simp -implicitDefEqProofs only [go_sem,Z1,Z2,Z3,Z4]) | exact Vw.acc rfl rfl | exact Vw.tre rfl rfl (by simp -implicitDefEqProofs only [go_sem,Z1,Z2,Z3,Z4]) | exact Vw.nil | apply Vw.agg | apply Vw.fn | refine Vw.box rfl rfl ?_))
   all_goals simp -implicitDefEqProofs only [go_sem,Z1,Z2,Z3,Z4]
   refine atCall [] (c_laws_toStack k) ?_ ?_ <;> simp -implicitDefEqProofs only [go_sem,Z1,Z2,Z3,Z4]
   refine atLook [] [3,4] (c_laws_eqStack k) rfl ?_ ?_ ?_
   ·(simp -implicitDefEqProofs only [go_sem,Z1,Z2,Z3,Z4]; repeat' (first | exact Vws.nil | apply Vws.cons | exact Vw.same (by first | rfl | simp -implicitDefEqProofs only [go_sem,Z1,Z2,Z3,Z4]) | exact Vw.acc rfl rfl | exact Vw.tre rfl rfl (by simp -implicitDefEqProofs only [go_sem,Z1,Z2,Z3,Z4]) | exact Vw.nil | apply Vw.agg | apply Vw.fn | refine Vw.box rfl rfl ?_))
   all_goals simp -implicitDefEqProofs only [go_sem,Z1,Z2,Z3,Z4]
   with_reducible refine ind_andM (by kernel_rfl) ?_
   refine atCall [] (c_laws_toForm f) ?_ ?_ <;> simp -implicitDefEqProofs only [go_sem,Z1,Z2,Z3,Z4]
   refine atLook [] [6,7,8,9,10] (c_laws_eqForm f) rfl ?_ ?_ ?_
   ·(simp -implicitDefEqProofs only [go_sem,Z1,Z2,Z3,Z4]; repeat' (first | exact Vws.nil | apply Vws.cons | exact Vw.same (by first | rfl | simp -implicitDefEqProofs only [go_sem,Z1,Z2,Z3,Z4]) | exact Vw.acc rfl rfl | exact Vw.tre rfl rfl (by simp -implicitDefEqProofs only [go_sem,Z1,Z2,Z3,Z4]) | exact Vw.nil | apply Vw.agg | apply Vw.fn | refine Vw.box rfl rfl ?_))
   all_goals simp -implicitDefEqProofs only [go_sem,Z1,Z2,Z3,Z4]
   with_reducible refine ind_andM (by kernel_rfl) ?_
   refine atOwn [] [3,4] (c_laws_markStack k 1 (by omega) (by omega)) ?_ ?_
   ·simp -implicitDefEqProofs only [go_sem,Z1,Z2,Z3,Z4]
    rfl
   simp -implicitDefEqProofs only [go_sem,Z1,Z2,Z3,Z4,m1]
   refine atOwn [] [6,7,8,9,10] (c_laws_markForm f (1 + ctStack k) (by omega) (by omega)) ?_ ?_
   ·simp -implicitDefEqProofs only [go_sem,Z1,Z2,Z3,Z4]
    rfl
   simp -implicitDefEqProofs only [go_sem,Z1,Z2,Z3,Z4,n3]
   refine atLook [] [12,13] (c_laws_eqStack (stackTell k f).1) rfl ?_ ?_ ?_
   ·(simp -implicitDefEqProofs only [go_sem,Z1,Z2,Z3,Z4]; repeat' (first | exact Vws.nil | apply Vws.cons | exact Vw.same (by first | rfl | simp -implicitDefEqProofs only [go_sem,Z1,Z2,Z3,Z4]) | exact Vw.acc rfl rfl | exact Vw.tre rfl rfl (by simp -implicitDefEqProofs only [go_sem,Z1,Z2,Z3,Z4]) | exact Vw.nil | apply Vw.agg | apply Vw.fn | refine Vw.box rfl rfl ?_))
   all_goals simp -implicitDefEqProofs only [go_sem,Z1,Z2,Z3,Z4]
   refine atOwn [] [12,13] (c_laws_markStack (stackTell k f).1 1 (by omega) (by omega)) ?_ ?_
   ·simp -implicitDefEqProofs only [go_sem,Z1,Z2,Z3,Z4]
    rfl
   simp -implicitDefEqProofs only [go_sem,Z1,Z2,Z3,Z4,m2,n2]
   refine atLook [] [12,13] (c_laws_heldStack (stackTell k f).1 1 (by omega) (by omega)) rfl ?_ ?_ ?_
   ·(simp -implicitDefEqProofs only [go_sem,Z1,Z2,Z3,Z4]; repeat' (first | exact Vws.nil | apply Vws.cons | exact Vw.same (by first | rfl | simp -implicitDefEqProofs only [go_sem,Z1,Z2,Z3,Z4]) | exact Vw.acc rfl rfl | exact Vw.tre rfl rfl (by simp -implicitDefEqProofs only [go_sem,Z1,Z2,Z3,Z4]) | exact Vw.nil | apply Vw.agg | apply Vw.fn | refine Vw.box rfl rfl ?_))
   all_goals simp -implicitDefEqProofs only [go_sem,Z1,Z2,Z3,Z4,m2,n2]
   refine atCall [] (c_laws_toStack k) ?_ ?_ <;> simp -implicitDefEqProofs only [go_sem,Z1,Z2,Z3,Z4]
   refine atCall [] (c_laws_toForm f) ?_ ?_ <;> simp -implicitDefEqProofs only [go_sem,Z1,Z2,Z3,Z4]
   refine atOwn [] [15,16] (c_impl_StackTell k f hct) ?_ ?_ <;> simp -implicitDefEqProofs only [go_sem,Z1,Z2,Z3,Z4]
   with_reducible refine ind_andM (by kernel_rfl) ?_
   refine atLook [] [15,16] (c_laws_eqStack (stackTell k f).1) rfl ?_ ?_ ?_
   ·(simp -implicitDefEqProofs only [go_sem,Z1,Z2,Z3,Z4]; repeat' (first | exact Vws.nil | apply Vws.cons | exact Vw.same (by first | rfl | simp -implicitDefEqProofs only [go_sem,Z1,Z2,Z3,Z4]) | exact Vw.acc rfl rfl | exact Vw.tre rfl rfl (by simp -implicitDefEqProofs only [go_sem,Z1,Z2,Z3,Z4]) | exact Vw.nil | apply Vw.agg | apply Vw.fn | refine Vw.box rfl rfl ?_))
   all_goals simp -implicitDefEqProofs only [go_sem,Z1,Z2,Z3,Z4]
   refine atLook [] [12,13] (c_laws_heldStack (stackTell k f).1 1 (by omega) (by omega)) rfl ?_ ?_ ?_
   ·(simp -implicitDefEqProofs only [go_sem,Z1,Z2,Z3,Z4]; repeat' (first | exact Vws.nil | apply Vws.cons | exact Vw.same (by first | rfl | simp -implicitDefEqProofs only [go_sem,Z1,Z2,Z3,Z4]) | exact Vw.acc rfl rfl | exact Vw.tre rfl rfl (by simp -implicitDefEqProofs only [go_sem,Z1,Z2,Z3,Z4]) | exact Vw.nil | apply Vw.agg | apply Vw.fn | refine Vw.box rfl rfl ?_))
   all_goals simp -implicitDefEqProofs only [go_sem,Z1,Z2,Z3,Z4,m2,n2]
   refine fin1' ?_
   simp -implicitDefEqProofs only [go_sem,Z1,Z2,Z3,Z4]
end Go.Proofs.YtgeogofjlhjcmaaGreat
