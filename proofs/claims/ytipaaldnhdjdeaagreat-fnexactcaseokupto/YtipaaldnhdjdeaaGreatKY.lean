/-
  The law FnExactCaseOk, walked: whatever it is given, it answers yes. A step towards the exact law.
-/
import Derived.Test.YtipaaldnhdjdeaaGreatKO
import Derived.Test.YtipaaldnhdjdeaaGreatKV
import Derived.Test.YtipaaldnhdjdeaaGreatKX
set_option linter.unusedVariables false
set_option linter.unusedSimpArgs false
namespace Go.Proofs.YtipaaldnhdjdeaaGreat
open Go.Eng Go.Mod
open Int (reduceEq reduceLT reduceLE reduceToNat)
set_option maxRecDepth 100000
set_option maxHeartbeats 400000
theorem c_law_CaseOk (s : Sig) (lits : List LitD) (c : Case) : C E.P 3 [av (cSig s), lv (rowsLit lits), av (cCase c)] [] (Eq2 (bv true) []) := by
  have s1 := szSig_shr s 1048576 (by omega)
  have hLB : LB = 1099511627776 := rfl
  refine C_goS (nt := 63) (rs := [.tmp 6]) hm Tryz.func3 rfl rfl rfl rfl rfl (fun hl he => ?_)
  simp -implicitDefEqProofs only [go_sem, reduceEq, reduceLT, reduceLE, reduceToNat] at hl ⊢
  have hcall := c_laws_szSig s 1048576 (by omega) (by omega)
  refine atCall [] hcall ?_ ?_ <;> simp -implicitDefEqProofs only [go_sem, reduceEq, reduceLT, reduceLE, reduceToNat]
  generalize hr1 : szSig s 1048576 = r1 at *
  rcases Classical.em (r1 < 0) with h1 | h1
  · simp -implicitDefEqProofs only [go_sem, reduceEq, reduceLT, reduceLE, reduceToNat, h1]
    refine fin1 (ps := ?_) ?_ ?_
    rotate_left
    · simp -implicitDefEqProofs only [go_sem, reduceEq, reduceLT, reduceLE, reduceToNat]
      rfl
    simp -implicitDefEqProofs only [go_sem, reduceEq, reduceLT, reduceLE, reduceToNat]
  · have s2 := szS_shr (f := szLit) (xs := lits) (fun l _ => szLit_shr l) r1 (by omega)
    simp -implicitDefEqProofs only [go_sem, reduceEq, reduceLT, reduceLE, reduceToNat, h1]
    have hcall := c_laws_szLitS lits r1 (by omega) (by omega) (fun t _ => szLit_shr t) (fun t _ l h0 h1 => c_laws_szLit t l h0 h1)
    refine atCall [] hcall ?_ ?_ <;> simp -implicitDefEqProofs only [go_sem, reduceEq, reduceLT, reduceLE, reduceToNat]
    generalize hr2 : szS szLit lits r1 = r2 at *
    rcases Classical.em (r2 < 0) with h2 | h2
    · simp -implicitDefEqProofs only [go_sem, reduceEq, reduceLT, reduceLE, reduceToNat, h2]
      refine fin1 (ps := ?_) ?_ ?_
      rotate_left
      · simp -implicitDefEqProofs only [go_sem, reduceEq, reduceLT, reduceLE, reduceToNat]
        rfl
      simp -implicitDefEqProofs only [go_sem, reduceEq, reduceLT, reduceLE, reduceToNat]
    · have s3 := szCase_shr c r2 (by omega)
      simp -implicitDefEqProofs only [go_sem, reduceEq, reduceLT, reduceLE, reduceToNat, h2]
      have hcall := c_laws_szCase c r2 (by omega) (by omega)
      refine atCall [] hcall ?_ ?_ <;> simp -implicitDefEqProofs only [go_sem, reduceEq, reduceLT, reduceLE, reduceToNat]
      generalize hr3 : szCase c r2 = r3 at *
      rcases Classical.em (r3 < 0) with h3 | h3
      · simp -implicitDefEqProofs only [go_sem, reduceEq, reduceLT, reduceLE, reduceToNat, h3]
        refine fin1 (ps := ?_) ?_ ?_
        rotate_left
        · simp -implicitDefEqProofs only [go_sem, reduceEq, reduceLT, reduceLE, reduceToNat]
          rfl
        simp -implicitDefEqProofs only [go_sem, reduceEq, reduceLT, reduceLE, reduceToNat]
      · simp -implicitDefEqProofs only [go_sem, reduceEq, reduceLT, reduceLE, reduceToNat, h3]
        have hcall := c_laws_toSig s
        refine atCall [] hcall ?_ ?_ <;> simp -implicitDefEqProofs only [go_sem, reduceEq, reduceLT, reduceLE, reduceToNat]
        have hcall := c_laws_toLitS lits (fun t _ => c_laws_toLit t)
        refine atCall [] hcall ?_ ?_ <;> simp -implicitDefEqProofs only [go_sem, reduceEq, reduceLT, reduceLE, reduceToNat]
        have hcall := c_laws_toCase c
        refine atCall [] hcall ?_ ?_ <;> simp -implicitDefEqProofs only [go_sem, reduceEq, reduceLT, reduceLE, reduceToNat]
        have hcall := c_spec_CaseOk s lits c
        refine atCall [] hcall ?_ ?_ <;> simp -implicitDefEqProofs only [go_sem, reduceEq, reduceLT, reduceLE, reduceToNat]
        with_reducible refine ind_andM (by kernel_rfl) ?_
        have hcall := c_laws_toSig s
        refine atCall [] hcall ?_ ?_ <;> simp -implicitDefEqProofs only [go_sem, reduceEq, reduceLT, reduceLE, reduceToNat]
        have hcall := c_laws_toLitS lits (fun t _ => c_laws_toLit t)
        refine atCall [] hcall ?_ ?_ <;> simp -implicitDefEqProofs only [go_sem, reduceEq, reduceLT, reduceLE, reduceToNat]
        have hcall := c_laws_toCase c
        refine atCall [] hcall ?_ ?_ <;> simp -implicitDefEqProofs only [go_sem, reduceEq, reduceLT, reduceLE, reduceToNat]
        have hcall := c_impl_CaseOk s lits c
        refine atCall [] hcall ?_ ?_ <;> simp -implicitDefEqProofs only [go_sem, reduceEq, reduceLT, reduceLE, reduceToNat]
        have hcall := c_laws_toSig s
        refine atCall [] hcall ?_ ?_ <;> simp -implicitDefEqProofs only [go_sem, reduceEq, reduceLT, reduceLE, reduceToNat]
        have hcall := c_laws_eqSig s
        refine atCall [] hcall ?_ ?_ <;> simp -implicitDefEqProofs only [go_sem, reduceEq, reduceLT, reduceLE, reduceToNat]
        with_reducible refine ind_andM (by kernel_rfl) ?_
        have hcall := c_laws_toLitS lits (fun t _ => c_laws_toLit t)
        refine atCall [] hcall ?_ ?_ <;> simp -implicitDefEqProofs only [go_sem, reduceEq, reduceLT, reduceLE, reduceToNat]
        have hcall := c_laws_eqLitS lits (fun t _ => c_laws_eqLit t)
        refine atCall [] hcall ?_ ?_ <;> simp -implicitDefEqProofs only [go_sem, reduceEq, reduceLT, reduceLE, reduceToNat]
        have hcall := c_laws_toCase c
        refine atCall [] hcall ?_ ?_ <;> simp -implicitDefEqProofs only [go_sem, reduceEq, reduceLT, reduceLE, reduceToNat]
        have hcall := c_laws_eqCase c
        refine atCall [] hcall ?_ ?_ <;> simp -implicitDefEqProofs only [go_sem, reduceEq, reduceLT, reduceLE, reduceToNat]
        with_reducible refine ind_andM (by kernel_rfl) ?_
        refine fin1 (ps := ?_) ?_ ?_
        rotate_left
        · simp -implicitDefEqProofs only [go_sem, reduceEq, reduceLT, reduceLE, reduceToNat]
          rfl
        simp -implicitDefEqProofs only [go_sem, reduceEq, reduceLT, reduceLE, reduceToNat]
end Go.Proofs.YtipaaldnhdjdeaaGreat
