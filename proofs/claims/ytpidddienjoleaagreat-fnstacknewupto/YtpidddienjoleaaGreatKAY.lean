/-
  The law FnStackNew, walked: whatever it is given, it answers yes. A step towards the law.
-/
import Derived.Test.YtpidddienjoleaaGreatKAyi
import Derived.Test.YtpidddienjoleaaGreatKAyj
set_option linter.unusedVariables false
set_option linter.unusedSimpArgs false
namespace Go.Proofs.YtpidddienjoleaaGreat
open Go.Eng Go.Mod
open Int renaming reduceEq → Z1,reduceLT → Z2,reduceLE → Z3,reduceToNat → Z4
set_option maxRecDepth 100000
set_option maxHeartbeats 400000
theorem c_law_StackNew (b:List Int) (hb:∀ x ∈ b,0 ≤ x ∧ x ≤ 255):C E.P 6 [lv (byD b)] [] (Eq2 (bv true) []):=by
 have hLB:=LB_eq
 refine C_goS (nt:=53) (rs:=[.tmp 2]) hm Tryz.func6 rfl rfl rfl rfl rfl (fun hl he=>?_)
 simp -implicitDefEqProofs only [go_sem,Z1,Z2,Z3,Z4] at hl ⊢
 rcases Classical.em ((1048576:Int) < (b.length:Int)) with h0 | h0
 ·try simp -implicitDefEqProofs only [go_sem,Z1,Z2,Z3,Z4,h0]
  try (with_reducible refine ind_andM (by kernel_rfl) ?_)
  refine fin1' ?_
  simp -implicitDefEqProofs only [go_sem,Z1,Z2,Z3,Z4]
  all_goals (first | done | (simp; done) | (simp; omega) | skip)
 ·have cD:=c_spec_DrawStackNew b hb (by omega)
  have hct:=drawSig_ct (b.take 2000)
  generalize drawSig (b.take 2000) = s at cD hct
  have cS:=c_impl_StackSame (stackNew s) (stackNew s)
  rw [decide_eq_true rfl] at cS
  try simp -implicitDefEqProofs only [go_sem,Z1,Z2,Z3,Z4,h0]
  try (with_reducible refine ind_andM (by kernel_rfl) ?_)
  refine atCall [] cD ?_ ?_ <;> simp -implicitDefEqProofs only [go_sem,Z1,Z2,Z3,Z4]
  try (with_reducible refine ind_andM (by kernel_rfl) ?_)
  refine atCall [] (c_impl_StackNew s hct) ?_ ?_ <;> simp -implicitDefEqProofs only [go_sem,Z1,Z2,Z3,Z4]
  try (with_reducible refine ind_andM (by kernel_rfl) ?_)
  refine atCall [] (c_spec_StackNew s hct) ?_ ?_ <;> simp -implicitDefEqProofs only [go_sem,Z1,Z2,Z3,Z4]
  try (with_reducible refine ind_andM (by kernel_rfl) ?_)
  refine atCall [] cS ?_ ?_ <;> simp -implicitDefEqProofs only [go_sem,Z1,Z2,Z3,Z4]
  try (with_reducible refine ind_andM (by kernel_rfl) ?_)
  try simp -implicitDefEqProofs only [go_sem,Z1,Z2,Z3,Z4]
  try (with_reducible refine ind_andM (by kernel_rfl) ?_)
  refine atCall [] (c_spec_SigOk s) ?_ ?_ <;> simp -implicitDefEqProofs only [go_sem,Z1,Z2,Z3,Z4]
  try (with_reducible refine ind_andM (by kernel_rfl) ?_)
  cases hok:sigOk s
  ·have e:stackNew s = stack0:=by simp [stackNew,hok,stack0]
   rw [e] at cS ⊢
   try simp -implicitDefEqProofs only [go_sem,Z1,Z2,Z3,Z4]
   try (with_reducible refine ind_andM (by kernel_rfl) ?_)
   refine atCall [] cS ?_ ?_ <;> simp -implicitDefEqProofs only [go_sem,Z1,Z2,Z3,Z4]
   try (with_reducible refine ind_andM (by kernel_rfl) ?_)
   ·exact ⟨rfl,rfl⟩
   refine fin1' ?_
   simp -implicitDefEqProofs only [go_sem,Z1,Z2,Z3,Z4]
   all_goals (first | done | (simp; done) | (simp; omega) | skip)
  ·have e:stackNew s = ⟨s,[[]]⟩:=by simp [stackNew,hok]
   have hsok:=stackOk0 hok
   have hp2:(stackPop ⟨s,[[]]⟩).2 = false:=by simp [stackPop,hsok]
   have cG:=c_impl_SigSame s s
   rw [decide_eq_true rfl] at cG
   rw [e] at cS ⊢
   try simp -implicitDefEqProofs only [go_sem,Z1,Z2,Z3,Z4]
   try (with_reducible refine ind_andM (by kernel_rfl) ?_)
   refine atOwn [] [2,3] (c_impl_StackPop ⟨s,[[]]⟩ (by simp [ctStack,ctL,ctForms]; omega)) ?_ ?_ <;> simp -implicitDefEqProofs only [go_sem,Z1,Z2,Z3,Z4]
   try (with_reducible refine ind_andM (by kernel_rfl) ?_)
   refine atCall [] (c_impl_StackOk ⟨s,[[]]⟩ (by simp)) ?_ ?_ <;> simp -implicitDefEqProofs only [go_sem,Z1,Z2,Z3,Z4]
   try (with_reducible refine ind_andM (by kernel_rfl) ?_)
   try simp -implicitDefEqProofs only [go_sem,Z1,Z2,Z3,Z4,hsok]
   try (with_reducible refine ind_andM (by kernel_rfl) ?_)
   refine atCall [] (c_StackForms0 s hok) ?_ ?_ <;> simp -implicitDefEqProofs only [go_sem,Z1,Z2,Z3,Z4]
   try (with_reducible refine ind_andM (by kernel_rfl) ?_)
   refine atCall [] (c_StackAsk0 s hok) ?_ ?_ <;> simp -implicitDefEqProofs only [go_sem,Z1,Z2,Z3,Z4]
   try (with_reducible refine ind_andM (by kernel_rfl) ?_)
   try simp -implicitDefEqProofs only [go_sem,Z1,Z2,Z3,Z4,hp2]
   try (with_reducible refine ind_andM (by kernel_rfl) ?_)
   refine atCall [] cG ?_ ?_ <;> simp -implicitDefEqProofs only [go_sem,Z1,Z2,Z3,Z4]
   try (with_reducible refine ind_andM (by kernel_rfl) ?_)
   refine fin1' ?_
   simp -implicitDefEqProofs only [go_sem,Z1,Z2,Z3,Z4]
   all_goals (first | done | (simp; done) | (simp; omega) | skip)
end Go.Proofs.YtpidddienjoleaaGreat
