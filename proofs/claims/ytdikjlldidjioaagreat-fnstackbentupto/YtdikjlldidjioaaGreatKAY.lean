/-
  The law FnStackBent, walked: whatever it is given, it answers yes. A step towards the law.
-/
import Derived.Test.YtdikjlldidjioaaGreatKAyi
import Derived.Test.YtdikjlldidjioaaGreatKAyh
set_option linter.unusedVariables false
set_option linter.unusedSimpArgs false
namespace Go.Proofs.YtdikjlldidjioaaGreat
open Go.Eng Go.Mod
open Int renaming reduceEq → Z1,reduceLT → Z2,reduceLE → Z3,reduceToNat → Z4
set_option maxRecDepth 100000
set_option maxHeartbeats 400000
theorem c_law_StackBent (b:List Int) (hb:∀ x ∈ b,0 ≤ x ∧ x ≤ 255):C E.P 4 [lv (byD b)] [] (Eq2 (bv true) []):=by
 have hLB:=LB_eq
 refine C_goS (nt:=87) (rs:=[.tmp 2]) hm Tryz.func4 rfl rfl rfl rfl rfl (fun hl he=>?_)
 simp -implicitDefEqProofs only [go_sem,Z1,Z2,Z3,Z4] at hl ⊢
 rcases Classical.em ((1048576:Int) < (b.length:Int)) with h0 | h0
 ·try simp -implicitDefEqProofs only [go_sem,Z1,Z2,Z3,Z4,h0]
  try (with_reducible refine ind_andM (by kernel_rfl) ?_)
  refine fin1' ?_
  simp -implicitDefEqProofs only [go_sem,Z1,Z2,Z3,Z4]
  all_goals (first | done | (simp; done) | (simp; omega) | skip)
 ·have cD:=c_spec_DrawStackTell b hb (by omega)
  have hfl:=drawTell_flat (openOk hb)
  generalize drawTell (b.take 2000) = r at cD hfl
  obtain ⟨k,f⟩:=r
  simp only at cD hfl
  try simp -implicitDefEqProofs only [go_sem,Z1,Z2,Z3,Z4,h0]
  try (with_reducible refine ind_andM (by kernel_rfl) ?_)
  refine atCall [] cD ?_ ?_ <;> simp -implicitDefEqProofs only [go_sem,Z1,Z2,Z3,Z4]
  try (with_reducible refine ind_andM (by kernel_rfl) ?_)
  refine atCall [] (c_impl_StackOk k hfl) ?_ ?_ <;> simp -implicitDefEqProofs only [go_sem,Z1,Z2,Z3,Z4]
  try (with_reducible refine ind_andM (by kernel_rfl) ?_)
  refine atCall [] (c_spec_StackOk k hfl) ?_ ?_ <;> simp -implicitDefEqProofs only [go_sem,Z1,Z2,Z3,Z4]
  try (with_reducible refine ind_andM (by kernel_rfl) ?_)
  cases hok:stackOk k
  ·have cS:=c_impl_StackSame stack0 stack0
   rw [decide_eq_true rfl] at cS
   try simp -implicitDefEqProofs only [go_sem,Z1,Z2,Z3,Z4]
   try (with_reducible refine ind_andM (by kernel_rfl) ?_)
   refine atCall [] (c_impl_StackTell_bad k f hfl hok) ?_ ?_ <;> simp -implicitDefEqProofs only [go_sem,Z1,Z2,Z3,Z4]
   try (with_reducible refine ind_andM (by kernel_rfl) ?_)
   refine atCall [] (c_impl_StackPush_bad k hfl hok) ?_ ?_ <;> simp -implicitDefEqProofs only [go_sem,Z1,Z2,Z3,Z4]
   try (with_reducible refine ind_andM (by kernel_rfl) ?_)
   refine atCall [] (c_impl_StackPop_bad k hfl hok) ?_ ?_ <;> simp -implicitDefEqProofs only [go_sem,Z1,Z2,Z3,Z4]
   try (with_reducible refine ind_andM (by kernel_rfl) ?_)
   refine atCall [] cS ?_ ?_ <;> simp -implicitDefEqProofs only [go_sem,Z1,Z2,Z3,Z4]
   try (with_reducible refine ind_andM (by kernel_rfl) ?_)
   ·exact ⟨rfl,rfl⟩
   refine atCall [] cS ?_ ?_ <;> simp -implicitDefEqProofs only [go_sem,Z1,Z2,Z3,Z4]
   try (with_reducible refine ind_andM (by kernel_rfl) ?_)
   ·exact ⟨rfl,rfl⟩
   refine atCall [] cS ?_ ?_ <;> simp -implicitDefEqProofs only [go_sem,Z1,Z2,Z3,Z4]
   try (with_reducible refine ind_andM (by kernel_rfl) ?_)
   ·exact ⟨rfl,rfl⟩
   refine atCall [] (c_impl_StackForms_bad k hfl hok) ?_ ?_ <;> simp -implicitDefEqProofs only [go_sem,Z1,Z2,Z3,Z4]
   try (with_reducible refine ind_andM (by kernel_rfl) ?_)
   refine atCall [] (c_impl_StackAsk_bad k hfl hok) ?_ ?_ <;> simp -implicitDefEqProofs only [go_sem,Z1,Z2,Z3,Z4]
   try (with_reducible refine ind_andM (by kernel_rfl) ?_)
   refine fin1' ?_
   simp -implicitDefEqProofs only [go_sem,Z1,Z2,Z3,Z4]
   all_goals (first | done | (simp; done) | (simp; omega) | skip)
  ·try simp -implicitDefEqProofs only [go_sem,Z1,Z2,Z3,Z4]
   try (with_reducible refine ind_andM (by kernel_rfl) ?_)
   refine atCall [] (c_spec_StackOk k hfl) ?_ ?_ <;> simp -implicitDefEqProofs only [go_sem,Z1,Z2,Z3,Z4]
   try (with_reducible refine ind_andM (by kernel_rfl) ?_)
   refine fin1' ?_
   simp -implicitDefEqProofs only [go_sem,Z1,Z2,Z3,Z4]
   all_goals (first | done | (simp [hok]; done) | (simp [hok]; omega) | skip)
end Go.Proofs.YtdikjlldidjioaaGreat
