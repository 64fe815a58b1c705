/-
  The law FnExactSolveAll, walked: whatever it is given, it answers yes. A step towards the exact law.
-/
import Derived.Test.YthpjgpbcfdfmoaaGreatKSh
import Derived.Test.YthpjgpbcfdfmoaaGreatKSj
import Derived.Test.YthpjgpbcfdfmoaaGreatKSg
set_option linter.unusedVariables false
set_option linter.unusedSimpArgs false
namespace Go.Proofs.YthpjgpbcfdfmoaaGreat
open Go.Eng Go.Mod
open Int renaming reduceEq → Z1, reduceLT → Z2, reduceLE → Z3, reduceToNat → Z4
set_option maxRecDepth 100000
set_option maxHeartbeats 400000
theorem c_law_SolveAll (s : Sig) (m : Mod.Model) (list : List Mod.Form) : C E.P 4 [av (cSig s), av (cModel m), lv (rowsForm list)] [] (Eq2 (bv true) []) := by
  have s1 := szSig_shr s 1048576 (by omega)
  have hLB : LB = 1099511627776 := rfl
  refine C_goS (nt := 63) (rs := [.tmp 6]) hm Tryz.func4 rfl rfl rfl rfl rfl (fun hl he => ?_)
  simp -implicitDefEqProofs only [go_sem, Z1, Z2, Z3, Z4] at hl ⊢
  have hcall := c_laws_szSig s 1048576 (by omega) (by omega)
  refine atCall [] hcall ?_ ?_ <;> simp -implicitDefEqProofs only [go_sem, Z1, Z2, Z3, Z4]
  generalize hr1 : szSig s 1048576 = r1 at *
  rcases Classical.em (r1 < 0) with h1 | h1
  · simp -implicitDefEqProofs only [go_sem, Z1, Z2, Z3, Z4, h1]
    refine fin1' ?_
    simp -implicitDefEqProofs only [go_sem, Z1, Z2, Z3, Z4]
  · skip
    have s2 := szModel_shr m r1 (by omega)
    simp -implicitDefEqProofs only [go_sem, Z1, Z2, Z3, Z4, h1]
    have hcall := c_laws_szModel m r1 (by omega) (by omega)
    refine atCall [] hcall ?_ ?_ <;> simp -implicitDefEqProofs only [go_sem, Z1, Z2, Z3, Z4]
    generalize hr2 : szModel m r1 = r2 at *
    rcases Classical.em (r2 < 0) with h2 | h2
    · simp -implicitDefEqProofs only [go_sem, Z1, Z2, Z3, Z4, h2]
      refine fin1' ?_
      simp -implicitDefEqProofs only [go_sem, Z1, Z2, Z3, Z4]
    · skip
      have s3 := szS_shr (f := szForm) (xs := list) (fun l _ => szForm_shr l) r2 (by omega)
      simp -implicitDefEqProofs only [go_sem, Z1, Z2, Z3, Z4, h2]
      have hcall := c_laws_szFormS list r2 (by omega) (by omega) (fun t _ => szForm_shr t) (fun t _ l h0 h1 => c_laws_szForm t l h0 h1)
      refine atCall [] hcall ?_ ?_ <;> simp -implicitDefEqProofs only [go_sem, Z1, Z2, Z3, Z4]
      generalize hr3 : szS szForm list r2 = r3 at *
      rcases Classical.em (r3 < 0) with h3 | h3
      · simp -implicitDefEqProofs only [go_sem, Z1, Z2, Z3, Z4, h3]
        refine fin1' ?_
        simp -implicitDefEqProofs only [go_sem, Z1, Z2, Z3, Z4]
      · simp -implicitDefEqProofs only [go_sem, Z1, Z2, Z3, Z4, h3]
        have hcall := c_laws_toSig s
        refine atCall [] hcall ?_ ?_ <;> simp -implicitDefEqProofs only [go_sem, Z1, Z2, Z3, Z4]
        have hcall := c_laws_toModel m
        refine atCall [] hcall ?_ ?_ <;> simp -implicitDefEqProofs only [go_sem, Z1, Z2, Z3, Z4]
        have hcall := c_laws_toFormS list (fun t _ => c_laws_toForm t)
        refine atCall [] hcall ?_ ?_ <;> simp -implicitDefEqProofs only [go_sem, Z1, Z2, Z3, Z4]
        have hcall := c_spec_SolveAll s m list
        refine atCall [] hcall ?_ ?_ <;> simp -implicitDefEqProofs only [go_sem, Z1, Z2, Z3, Z4]
        with_reducible refine ind_andM (by kernel_rfl) ?_
        have hcall := c_laws_toSig s
        refine atCall [] hcall ?_ ?_ <;> simp -implicitDefEqProofs only [go_sem, Z1, Z2, Z3, Z4]
        have hcall := c_laws_toModel m
        refine atCall [] hcall ?_ ?_ <;> simp -implicitDefEqProofs only [go_sem, Z1, Z2, Z3, Z4]
        have hcall := c_laws_toFormS list (fun t _ => c_laws_toForm t)
        refine atCall [] hcall ?_ ?_ <;> simp -implicitDefEqProofs only [go_sem, Z1, Z2, Z3, Z4]
        have hcall := c_impl_SolveAll s m list
        refine atCall [] hcall ?_ ?_ <;> simp -implicitDefEqProofs only [go_sem, Z1, Z2, Z3, Z4]
        have hcall := c_laws_toSig s
        refine atCall [] hcall ?_ ?_ <;> simp -implicitDefEqProofs only [go_sem, Z1, Z2, Z3, Z4]
        have hcall := c_laws_eqSig s
        refine atCall [] hcall ?_ ?_ <;> simp -implicitDefEqProofs only [go_sem, Z1, Z2, Z3, Z4]
        with_reducible refine ind_andM (by kernel_rfl) ?_
        have hcall := c_laws_toModel m
        refine atCall [] hcall ?_ ?_ <;> simp -implicitDefEqProofs only [go_sem, Z1, Z2, Z3, Z4]
        have hcall := c_laws_eqModel m
        refine atCall [] hcall ?_ ?_ <;> simp -implicitDefEqProofs only [go_sem, Z1, Z2, Z3, Z4]
        with_reducible refine ind_andM (by kernel_rfl) ?_
        have hcall := c_laws_toFormS list (fun t _ => c_laws_toForm t)
        refine atCall [] hcall ?_ ?_ <;> simp -implicitDefEqProofs only [go_sem, Z1, Z2, Z3, Z4]
        have hcall := c_laws_eqFormS list (fun t _ => c_laws_eqForm t)
        refine atCall [] hcall ?_ ?_ <;> simp -implicitDefEqProofs only [go_sem, Z1, Z2, Z3, Z4]
        refine fin1' ?_
        simp -implicitDefEqProofs only [go_sem, Z1, Z2, Z3, Z4]
end Go.Proofs.YthpjgpbcfdfmoaaGreat
