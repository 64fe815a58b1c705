/-
  The law FnExactFormModel, walked: whatever it is given, it answers yes. A step towards the exact law.
-/
import Derived.Test.YthpjgpbcfdfmoaaGreatKFd
import Derived.Test.YthpjgpbcfdfmoaaGreatKFf
import Derived.Test.YthpjgpbcfdfmoaaGreatKFg
set_option linter.unusedVariables false
set_option linter.unusedSimpArgs false
namespace Go.Proofs.YthpjgpbcfdfmoaaGreat
open Go.Eng Go.Mod
open Int renaming reduceEq → Z1, reduceLT → Z2, reduceLE → Z3, reduceToNat → Z4
set_option maxRecDepth 100000
set_option maxHeartbeats 400000
theorem c_law_FormModel (s : Sig) (m : Mod.Model) (f : Mod.Form) : C E.P 3 [av (cSig s), av (cModel m), av (cForm f)] [] (Eq2 (bv true) []) := by
  have s1 := szSig_shr s 1048576 (by omega)
  have hLB : LB = 1099511627776 := rfl
  refine C_goS (nt := 76) (rs := [.tmp 6]) hm Tryz.func3 rfl rfl rfl rfl rfl (fun hl he => ?_)
  simp -implicitDefEqProofs only [go_sem, Z1, Z2, Z3, Z4] at hl ⊢
  have hcall := c_laws_szSig s 1048576 (by omega) (by omega)
  refine atCall [] hcall ?_ ?_ <;> simp -implicitDefEqProofs only [go_sem, Z1, Z2, Z3, Z4]
  generalize hr1 : szSig s 1048576 = r1 at *
  rcases Classical.em (r1 < 0) with h1 | h1
  · simp -implicitDefEqProofs only [go_sem, Z1, Z2, Z3, Z4, h1]
    refine fin1' ?_
    simp -implicitDefEqProofs only [go_sem, Z1, Z2, Z3, Z4]
  · skip
    have s2 := szModel_shr m r1 (by omega)
    simp -implicitDefEqProofs only [go_sem, Z1, Z2, Z3, Z4, h1]
    have hcall := c_laws_szModel m r1 (by omega) (by omega)
    refine atCall [] hcall ?_ ?_ <;> simp -implicitDefEqProofs only [go_sem, Z1, Z2, Z3, Z4]
    generalize hr2 : szModel m r1 = r2 at *
    rcases Classical.em (r2 < 0) with h2 | h2
    · simp -implicitDefEqProofs only [go_sem, Z1, Z2, Z3, Z4, h2]
      refine fin1' ?_
      simp -implicitDefEqProofs only [go_sem, Z1, Z2, Z3, Z4]
    · skip
      have s3 := szForm_shr f r2 (by omega)
      simp -implicitDefEqProofs only [go_sem, Z1, Z2, Z3, Z4, h2]
      have hcall := c_laws_szForm f r2 (by omega) (by omega)
      refine atCall [] hcall ?_ ?_ <;> simp -implicitDefEqProofs only [go_sem, Z1, Z2, Z3, Z4]
      generalize hr3 : szForm f r2 = r3 at *
      rcases Classical.em (r3 < 0) with h3 | h3
      · simp -implicitDefEqProofs only [go_sem, Z1, Z2, Z3, Z4, h3]
        refine fin1' ?_
        simp -implicitDefEqProofs only [go_sem, Z1, Z2, Z3, Z4]
      · simp -implicitDefEqProofs only [go_sem, Z1, Z2, Z3, Z4, h3]
        have hcall := c_laws_toSig s
        refine atCall [] hcall ?_ ?_ <;> simp -implicitDefEqProofs only [go_sem, Z1, Z2, Z3, Z4]
        have hcall := c_laws_toModel m
        refine atCall [] hcall ?_ ?_ <;> simp -implicitDefEqProofs only [go_sem, Z1, Z2, Z3, Z4]
        have hcall := c_laws_toForm f
        refine atCall [] hcall ?_ ?_ <;> simp -implicitDefEqProofs only [go_sem, Z1, Z2, Z3, Z4]
        have hcall := c_spec_FormModel s m f
        refine atCall [] hcall ?_ ?_ <;> simp -implicitDefEqProofs only [go_sem, Z1, Z2, Z3, Z4]
        with_reducible refine ind_andM (by kernel_rfl) ?_
        have hcall := c_laws_toSig s
        refine atCall [] hcall ?_ ?_ <;> simp -implicitDefEqProofs only [go_sem, Z1, Z2, Z3, Z4]
        have hcall := c_laws_toModel m
        refine atCall [] hcall ?_ ?_ <;> simp -implicitDefEqProofs only [go_sem, Z1, Z2, Z3, Z4]
        have hcall := c_laws_toForm f
        refine atCall [] hcall ?_ ?_ <;> simp -implicitDefEqProofs only [go_sem, Z1, Z2, Z3, Z4]
        have hcall := c_impl_FormModel s m f
        refine atCall [] hcall ?_ ?_ <;> simp -implicitDefEqProofs only [go_sem, Z1, Z2, Z3, Z4]
        have hcall := c_laws_toSig s
        refine atCall [] hcall ?_ ?_ <;> simp -implicitDefEqProofs only [go_sem, Z1, Z2, Z3, Z4]
        have hcall := c_laws_eqSig s
        refine atCall [] hcall ?_ ?_ <;> simp -implicitDefEqProofs only [go_sem, Z1, Z2, Z3, Z4]
        with_reducible refine ind_andM (by kernel_rfl) ?_
        have hcall := c_laws_toModel m
        refine atCall [] hcall ?_ ?_ <;> simp -implicitDefEqProofs only [go_sem, Z1, Z2, Z3, Z4]
        have hcall := c_laws_eqModel m
        refine atCall [] hcall ?_ ?_ <;> simp -implicitDefEqProofs only [go_sem, Z1, Z2, Z3, Z4]
        with_reducible refine ind_andM (by kernel_rfl) ?_
        have hcall := c_laws_toForm f
        refine atCall [] hcall ?_ ?_ <;> simp -implicitDefEqProofs only [go_sem, Z1, Z2, Z3, Z4]
        have hcall := c_laws_eqForm f
        refine atCall [] hcall ?_ ?_ <;> simp -implicitDefEqProofs only [go_sem, Z1, Z2, Z3, Z4]
        with_reducible refine ind_andM (by kernel_rfl) ?_
        refine fin1' ?_
        simp -implicitDefEqProofs only [go_sem, Z1, Z2, Z3, Z4]
end Go.Proofs.YthpjgpbcfdfmoaaGreat
