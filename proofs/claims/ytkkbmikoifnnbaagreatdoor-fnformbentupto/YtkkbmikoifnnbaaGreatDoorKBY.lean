/-
  The law FnFormBent, walked: whatever it is given, it answers yes. A step towards the law.
-/
import Derived.Test.YtkkbmikoifnnbaaGreatDoorKBye
import Derived.Test.YtkkbmikoifnnbaaGreatDoorKByd
import Derived.Test.YtkkbmikoifnnbaaGreatDoorKByf
set_option linter.unusedVariables false
set_option linter.unusedSimpArgs false
namespace Go.Proofs.YtkkbmikoifnnbaaGreatDoor
open Go.Eng Go.Mod
open Int renaming reduceEq → Z1,reduceLT → Z2,reduceLE → Z3,reduceToNat → Z4
set_option maxRecDepth 100000
set_option maxHeartbeats 400000
theorem c_law_FormBent (b:List Int) (hb:∀ x ∈ b,0 ≤ x ∧ x ≤ 255):C E.P 3 [lv (byD b)] [] (Eq2 (bv true) []):=by
 have hLB:=LB_eq
 refine C_goS (nt:=55) (rs:=[.tmp 2]) hm Tryz.func3 rfl rfl rfl rfl rfl (fun hl he=>?_)
 simp -implicitDefEqProofs only [go_sem,Z1,Z2,Z3,Z4] at hl ⊢
 rcases Classical.em ((1048576:Int) < (b.length:Int)) with h0 | h0
 ·try simp -implicitDefEqProofs only [go_sem,Z1,Z2,Z3,Z4,h0]
  try (with_reducible refine ind_andM (by kernel_rfl) ?_)
  refine fin1' ?_
  simp -implicitDefEqProofs only [go_sem,Z1,Z2,Z3,Z4]
  all_goals (first | done | (simp; done) | (simp; omega) | skip)
 ·have cD:=c_spec_DrawFormIs b hb (by omega)
  generalize drawFormIs (b.take 2000) = r at cD
  obtain ⟨f,vals⟩:=r
  simp only at cD
  try simp -implicitDefEqProofs only [go_sem,Z1,Z2,Z3,Z4,h0]
  try (with_reducible refine ind_andM (by kernel_rfl) ?_)
  refine atCall [] cD ?_ ?_ <;> simp -implicitDefEqProofs only [go_sem,Z1,Z2,Z3,Z4]
  try (with_reducible refine ind_andM (by kernel_rfl) ?_)
  refine atCall [] (c_impl_FormText f) ?_ ?_ <;> simp -implicitDefEqProofs only [go_sem,Z1,Z2,Z3,Z4]
  try (with_reducible refine ind_andM (by kernel_rfl) ?_)
  refine atCall [] (c_spec_FormText f) ?_ ?_ <;> simp -implicitDefEqProofs only [go_sem,Z1,Z2,Z3,Z4]
  try (with_reducible refine ind_andM (by kernel_rfl) ?_)
  cases h:isForm f
  ·obtain ⟨h1,h2,h3,h4⟩:=noForm_all h vals
   have cF:=c_impl_FormIs f vals
   have cA:=c_impl_FormAtoms f
   have cC:=c_impl_CnfOf [f]
   have cS:=c_impl_CnfSame cnf0 cnf0
   rw [decide_eq_true rfl] at cS
   rw [h1] at cF
   rw [if_neg (by rw [h]; decide)] at cA
   rw [h3,rowsForm_cons,rowsForm_nil] at cC
   rw [h4]
   try simp -implicitDefEqProofs only [go_sem,Z1,Z2,Z3,Z4]
   try (with_reducible refine ind_andM (by kernel_rfl) ?_)
   refine atCall [] cF ?_ ?_ <;> simp -implicitDefEqProofs only [go_sem,Z1,Z2,Z3,Z4]
   try (with_reducible refine ind_andM (by kernel_rfl) ?_)
   refine atCall [] cA ?_ ?_ <;> simp -implicitDefEqProofs only [go_sem,Z1,Z2,Z3,Z4]
   try (with_reducible refine ind_andM (by kernel_rfl) ?_)
   repeat (first | with_reducible refine ind_andM (by kernel_rfl) ?_ | (with_reducible apply And.intro; case left=>first | omega | assumption | exact ⟨rowsT_all _,by omega⟩ | exact ⟨rowsI_all _,by omega⟩ | exact ⟨rowsLit_all _,by omega⟩ | exact ⟨rowsLin_all _,by omega⟩ | exact ⟨rowsEq_all _,by omega⟩ | rfl | (simp [*]; done) | (simp; omega) | exact ⟨rowsRat_all _,by omega⟩ | exact ⟨rowsAtom_all _,by omega⟩ | exact ⟨rowsB_all _,by omega⟩ | exact ⟨rowsForm_all _,by omega⟩ | exact ⟨rowsII_all _,by omega⟩))
   refine atCall [] cC ?_ ?_ <;> simp -implicitDefEqProofs only [go_sem,Z1,Z2,Z3,Z4]
   try (with_reducible refine ind_andM (by kernel_rfl) ?_)
   refine atCall [] cS ?_ ?_ <;> simp -implicitDefEqProofs only [go_sem,Z1,Z2,Z3,Z4]
   try (with_reducible refine ind_andM (by kernel_rfl) ?_)
   ·exact ⟨rfl,rfl⟩
   refine fin1' ?_
   simp -implicitDefEqProofs only [go_sem,Z1,Z2,Z3,Z4]
   all_goals (first | done | (simp; done) | (simp; omega) | skip)
  ·have hne:=formText_ne h
   try simp -implicitDefEqProofs only [go_sem,Z1,Z2,Z3,Z4,hne]
   try (with_reducible refine ind_andM (by kernel_rfl) ?_)
   refine atCall [] (c_spec_FormText f) ?_ ?_ <;> simp -implicitDefEqProofs only [go_sem,Z1,Z2,Z3,Z4]
   try (with_reducible refine ind_andM (by kernel_rfl) ?_)
   refine fin1' ?_
   simp -implicitDefEqProofs only [go_sem,Z1,Z2,Z3,Z4]
   all_goals (first | done | (simp; done) | (simp; omega) | skip)
end Go.Proofs.YtkkbmikoifnnbaaGreatDoor
