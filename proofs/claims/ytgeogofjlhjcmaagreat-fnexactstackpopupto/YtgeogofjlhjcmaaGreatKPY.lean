/-
  The law FnExactStackPop, walked: whatever it is given, it answers yes. A step towards the exact law.
-/
import Derived.Test.YtgeogofjlhjcmaaGreatKPs
import Derived.Test.YtgeogofjlhjcmaaGreatKPt
set_option linter.unusedVariables false
set_option linter.unusedSimpArgs false
namespace Go.Proofs.YtgeogofjlhjcmaaGreat
open Go.Eng Go.Mod
open Int renaming reduceEq → Z1,reduceLT → Z2,reduceLE → Z3,reduceToNat → Z4
set_option maxRecDepth 100000
set_option maxHeartbeats 400000
theorem pop_ct (k:Stack):ctStack (stackPop k).1 ≤ ctStack k:=by
 unfold stackPop
 split
 ·split
  ·exact Nat.le_refl _
  ·simp only [ctStack]
   have h:∀ (xs:List (List Mod.Form)) (n:Nat),ctL ctForms (xs.take n) ≤ ctL ctForms xs:=by
    intro xs
    induction xs with
    | nil=>intro n; simp
    | cons x xs ih=>
      intro n
      cases n with
      | zero=>simp [ctL]
      | succ n=>have:=ih n; simp only [List.take_succ_cons,ctL]; omega
   have:=h k.levels (k.levels.length - 1)
   omega
 ·simp [ctStack,ctL]
theorem mkStack_ct (s:Stack) (k:Int):(mkStack s k).2 = k + ctStack s:=by
 simp only [mkStack,mkL_ct mkSym_ct,mkL_ct mkForms_ct,ctStack]
 omega
theorem c_law_StackPop (k:Stack):C E.P 3 [av (cStack k)] [] (Eq2 (bv true) []):=by
 have s1:=szStack_shr k 1048576 (by omega)
 have u1:=use_Stack k 1048576 (by omega)
 have hLB:=LB_eq
 refine C_goS (nt:=96) (rs:=[.tmp 2]) hm Tryz.func3 rfl rfl rfl rfl rfl (fun hl he=>?_)
 simp -implicitDefEqProofs only [go_sem,Z1,Z2,Z3,Z4] at hl ⊢
 refine atCall [] (c_laws_szStack k 1048576 (by omega) (by omega)) ?_ ?_ <;> simp -implicitDefEqProofs only [go_sem,Z1,Z2,Z3,Z4]
 generalize hr1:szStack k 1048576 = r1 at *
 rcases Classical.em (r1 < 0) with h1 | h1
 ·simp -implicitDefEqProofs only [go_sem,Z1,Z2,Z3,Z4,h1]
  refine fin1' ?_
  simp -implicitDefEqProofs only [go_sem,Z1,Z2,Z3,Z4]
 ·have hct:ctStack k ≤ 8000000:=by have:=u1 (by omega); omega
  have hct2:=pop_ct k
  have m1:=mkStack_ct k 1
  have m2:=mkStack_ct (stackPop k).1 1
  have n1:¬ (1 + (ctStack k:Int) < 0):=by omega
  have n2:¬ (1 + (ctStack (stackPop k).1:Int) < 0):=by omega
  have b1:1 + ctL ctSym k.sig.syms + ctL ctForms k.levels ≤ 4398046511104:=by rw [ctStack] at hct; omega
  have b2:1 + ctL ctSym (stackPop k).1.sig.syms + ctL ctForms (stackPop k).1.levels ≤ 4398046511104:=by rw [ctStack] at hct2; omega
  simp -implicitDefEqProofs only [go_sem,Z1,Z2,Z3,Z4,h1]
  refine atCall [] (c_laws_toStack k) ?_ ?_ <;> simp -implicitDefEqProofs only [go_sem,Z1,Z2,Z3,Z4]
  refine atCall [] (c_spec_StackPop k hct) ?_ ?_ <;> simp -implicitDefEqProofs only [go_sem,Z1,Z2,Z3,Z4]
  refine atOwn [] [2,3] (c_laws_toStack_T k) ?_ ?_ <;> simp -implicitDefEqProofs only [go_sem,Z1,Z2,Z3,Z4]
  refine atLookO [] [2,3] [5,6] (c_impl_StackPop k hct) rfl ?_ ?_ ?_
  ·(simp -implicitDefEqProofs only [go_sem,Z1,Z2,Z3,Z4]; repeat' (first | exact Vws.nil | apply Vws.cons | exact Vw.same (by first | rfl | simp -implicitDefEqProofs only [go_sem,Z1,Z2,Z3,Z4]) | exact Vw.acc rfl rfl | exact Vw.tre rfl rfl (by simp -implicitDefEqProofs only [go_sem,Z1,Z2,Z3,Z4]) | exact Vw.nil | apply Vw.agg | apply Vw.fn | refine Vw.box rfl rfl ?_))
  all_goals simp -implicitDefEqProofs only [go_sem,Z1,Z2,Z3,Z4]
  refine atLook [] [5,6] (c_laws_eqStack (stackPop k).1) rfl ?_ ?_ ?_
  ·(simp -implicitDefEqProofs only [go_sem,Z1,Z2,Z3,Z4]; repeat' (first | exact Vws.nil | apply Vws.cons | exact Vw.same (by first | rfl | simp -implicitDefEqProofs only [go_sem,Z1,Z2,Z3,Z4]) | exact Vw.acc rfl rfl | exact Vw.tre rfl rfl (by simp -implicitDefEqProofs only [go_sem,Z1,Z2,Z3,Z4]) | exact Vw.nil | apply Vw.agg | apply Vw.fn | refine Vw.box rfl rfl ?_))
  all_goals simp -implicitDefEqProofs only [go_sem,Z1,Z2,Z3,Z4]
  refine atCall [] (c_laws_toStack k) ?_ ?_ <;> simp -implicitDefEqProofs only [go_sem,Z1,Z2,Z3,Z4]
  refine atLook [] [2,3] (c_laws_eqStack k) rfl ?_ ?_ ?_
  ·(simp -implicitDefEqProofs only [go_sem,Z1,Z2,Z3,Z4]; repeat' (first | exact Vws.nil | apply Vws.cons | exact Vw.same (by first | rfl | simp -implicitDefEqProofs only [go_sem,Z1,Z2,Z3,Z4]) | exact Vw.acc rfl rfl | exact Vw.tre rfl rfl (by simp -implicitDefEqProofs only [go_sem,Z1,Z2,Z3,Z4]) | exact Vw.nil | apply Vw.agg | apply Vw.fn | refine Vw.box rfl rfl ?_))
  all_goals simp -implicitDefEqProofs only [go_sem,Z1,Z2,Z3,Z4]
  with_reducible refine ind_andM (by kernel_rfl) ?_
  refine atOwn [] [2,3] (c_laws_markStack k 1 (by omega) (by omega)) ?_ ?_
  ·simp -implicitDefEqProofs only [go_sem,Z1,Z2,Z3,Z4]
   rfl
  simp -implicitDefEqProofs only [go_sem,Z1,Z2,Z3,Z4,m1,n1]
  refine atLook [] [5,6] (c_laws_eqStack (stackPop k).1) rfl ?_ ?_ ?_
  ·(simp -implicitDefEqProofs only [go_sem,Z1,Z2,Z3,Z4]; repeat' (first | exact Vws.nil | apply Vws.cons | exact Vw.same (by first | rfl | simp -implicitDefEqProofs only [go_sem,Z1,Z2,Z3,Z4]) | exact Vw.acc rfl rfl | exact Vw.tre rfl rfl (by simp -implicitDefEqProofs only [go_sem,Z1,Z2,Z3,Z4]) | exact Vw.nil | apply Vw.agg | apply Vw.fn | refine Vw.box rfl rfl ?_))
  all_goals simp -implicitDefEqProofs only [go_sem,Z1,Z2,Z3,Z4]
  refine atOwn [] [5,6] (c_laws_markStack (stackPop k).1 1 (by omega) (by omega)) ?_ ?_
  ·simp -implicitDefEqProofs only [go_sem,Z1,Z2,Z3,Z4]
   rfl
  simp -implicitDefEqProofs only [go_sem,Z1,Z2,Z3,Z4,m2,n2]
  refine atLook [] [5,6] (c_laws_heldStack (stackPop k).1 1 (by omega) (by omega)) rfl ?_ ?_ ?_
  ·(simp -implicitDefEqProofs only [go_sem,Z1,Z2,Z3,Z4]; repeat' (first | exact Vws.nil | apply Vws.cons | exact Vw.same (by first | rfl | simp -implicitDefEqProofs only [go_sem,Z1,Z2,Z3,Z4]) | exact Vw.acc rfl rfl | exact Vw.tre rfl rfl (by simp -implicitDefEqProofs only [go_sem,Z1,Z2,Z3,Z4]) | exact Vw.nil | apply Vw.agg | apply Vw.fn | refine Vw.box rfl rfl ?_))
  all_goals simp -implicitDefEqProofs only [go_sem,Z1,Z2,Z3,Z4,m2,n2]
  refine atCall [] (c_laws_toStack k) ?_ ?_ <;> simp -implicitDefEqProofs only [go_sem,Z1,Z2,Z3,Z4]
  refine atOwn [] [8,9] (c_impl_StackPop k hct) ?_ ?_ <;> simp -implicitDefEqProofs only [go_sem,Z1,Z2,Z3,Z4]
  refine atLook [] [8,9] (c_laws_eqStack (stackPop k).1) rfl ?_ ?_ ?_
  ·(simp -implicitDefEqProofs only [go_sem,Z1,Z2,Z3,Z4]; repeat' (first | exact Vws.nil | apply Vws.cons | exact Vw.same (by first | rfl | simp -implicitDefEqProofs only [go_sem,Z1,Z2,Z3,Z4]) | exact Vw.acc rfl rfl | exact Vw.tre rfl rfl (by simp -implicitDefEqProofs only [go_sem,Z1,Z2,Z3,Z4]) | exact Vw.nil | apply Vw.agg | apply Vw.fn | refine Vw.box rfl rfl ?_))
  all_goals simp -implicitDefEqProofs only [go_sem,Z1,Z2,Z3,Z4]
  refine atLook [] [5,6] (c_laws_heldStack (stackPop k).1 1 (by omega) (by omega)) rfl ?_ ?_ ?_
  ·(simp -implicitDefEqProofs only [go_sem,Z1,Z2,Z3,Z4]; repeat' (first | exact Vws.nil | apply Vws.cons | exact Vw.same (by first | rfl | simp -implicitDefEqProofs only [go_sem,Z1,Z2,Z3,Z4]) | exact Vw.acc rfl rfl | exact Vw.tre rfl rfl (by simp -implicitDefEqProofs only [go_sem,Z1,Z2,Z3,Z4]) | exact Vw.nil | apply Vw.agg | apply Vw.fn | refine Vw.box rfl rfl ?_))
  all_goals simp -implicitDefEqProofs only [go_sem,Z1,Z2,Z3,Z4,m2,n2]
  refine fin1' ?_
  simp -implicitDefEqProofs only [go_sem,Z1,Z2,Z3,Z4]
end Go.Proofs.YtgeogofjlhjcmaaGreat
