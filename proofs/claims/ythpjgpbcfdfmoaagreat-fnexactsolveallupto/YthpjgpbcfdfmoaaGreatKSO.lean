/-
  The walk of certificates. A step towards the exact laws.
-/
import Derived.Test.YthpjgpbcfdfmoaaGreatKSN
set_option linter.unusedVariables false
set_option linter.unusedSimpArgs false
namespace Go.Proofs.YthpjgpbcfdfmoaaGreat
open Go.Eng Go.Mod
open Int renaming reduceEq → Z1, reduceLT → Z2, reduceLE → Z3, reduceToNat → Z4
set_option maxRecDepth 100000
set_option maxHeartbeats 400000
theorem c_impl_BothOk (s : Sig) (lits : List LitD) : C E.P 78 [av (cSig s), lv (rowsLit lits)] [] (Eq2 (bv (bothOk s lits)) []) := by
  have hLB : LB = 1099511627776 := rfl
  refine C_goS (nt := 38) (rs := [.tmp 4]) hm Tryz.func78 rfl rfl rfl rfl rfl (fun hl he => ?_)
  simp -implicitDefEqProofs only [go_sem, Z1, Z2, Z3, Z4] at hl ⊢
  have hcall := c_impl_SigOk s
  refine atCall [] hcall ?_ ?_ <;> simp -implicitDefEqProofs only [go_sem, Z1, Z2, Z3, Z4]
  cases h1 : sigOk s
  · simp -implicitDefEqProofs only [go_sem, Z1, Z2, Z3, Z4]
    refine fin1' ?_
    simp -implicitDefEqProofs only [go_sem, Z1, Z2, Z3, Z4]
    all_goals (simp [bothOk, h1]; done)
  · simp -implicitDefEqProofs only [go_sem, Z1, Z2, Z3, Z4]
    rcases Classical.em ((6 : Int) < (lits.length : Int)) with h2 | h2
    · have h2' : ¬ lits.length ≤ 6 := by omega
      simp -implicitDefEqProofs only [go_sem, Z1, Z2, Z3, Z4, h2]
      refine fin1' ?_
      simp -implicitDefEqProofs only [go_sem, Z1, Z2, Z3, Z4]
      all_goals (simp [bothOk, h2']; done)
    · have h2' : lits.length ≤ 6 := by omega
      simp -implicitDefEqProofs only [go_sem, Z1, Z2, Z3, Z4, h2]
      refine loop_go1 hm (fun (i : Nat) =>  i ≤ lits.length ∧ lits.all (fun l => atomOk s l.atom) = (lits.drop i).all (fun l => atomOk s l.atom)) (fun (i : Nat) =>  ⟨mkS 38 .any [(1, lv (rowsLit lits)), (2, .ptr 0 0), (15, lv (rowsLit lits)), (16, iv lits.length), (17, iv i)], [some (.box (pvs (cSig s)))]⟩) (fun (i : Nat) =>  lits.length - i) (0) ?_ (weakS [some 0] ?_ ?_ rfl rfl) ?_
      rotate_left
      · simp -implicitDefEqProofs only [go_sem, Z1, Z2, Z3, Z4]
      · simp -implicitDefEqProofs only [go_sem, Z1, Z2, Z3, Z4]
      rotate_left
      · simp
      · rintro i ⟨hi, hg⟩
        rcases Classical.em (i < lits.length) with h3 | h3
        · rw [List.drop_eq_getElem_cons h3, List.all_cons] at hg
          simp -implicitDefEqProofs only [go_sem, Z1, Z2, Z3, Z4, h3]
          have hcall := c_impl_AtomOk s lits[i].atom
          refine atCall [] hcall ?_ ?_ <;> simp -implicitDefEqProofs only [go_sem, Z1, Z2, Z3, Z4]
          cases h4 : atomOk s lits[i].atom
          · rw [h4, Bool.false_and] at hg
            simp -implicitDefEqProofs only [go_sem, Z1, Z2, Z3, Z4]
            refine fin1' ?_
            simp -implicitDefEqProofs only [go_sem, Z1, Z2, Z3, Z4]
            all_goals (simp [bothOk, hg]; done)
          · rw [h4, Bool.true_and] at hg
            simp -implicitDefEqProofs only [go_sem, Z1, Z2, Z3, Z4]
            repeat (with_reducible apply And.intro; case left => omega)
            refine ⟨i + 1, ?_, ?_, weakS [some 0] ?_ ?_ rfl rfl⟩
            rotate_left
            · show _ < _
              omega
            · simp -implicitDefEqProofs only [go_sem, Z1, Z2, Z3, Z4]
            · simp -implicitDefEqProofs only [go_sem, Z1, Z2, Z3, Z4]
            exact ⟨by omega, hg⟩
        · rw [List.drop_of_length_le (by omega), List.all_nil] at hg
          have hw : ∀ l ∈ lits, atomWf l.atom = true := by
            intro l hl
            have := List.all_eq_true.1 hg l hl
            simp only [atomOk, Bool.and_eq_true] at this
            exact this.2.1
          simp -implicitDefEqProofs only [go_sem, Z1, Z2, Z3, Z4, h3]
          have hcall := c_impl_termsOf lits (by omega) hw
          refine atOwn [] [1] hcall ?_ ?_ <;> simp -implicitDefEqProofs only [go_sem, Z1, Z2, Z3, Z4]
          rcases Classical.em (((termsOf lits).length : Int) ≤ 24) with h5 | h5
          · have h5' : (termsOf lits).length ≤ 24 := by omega
            simp -implicitDefEqProofs only [go_sem, Z1, Z2, Z3, Z4, h5]
            have hcall := c_impl_numsOf s lits (by omega) hw
            refine atCall [] hcall ?_ ?_ <;> simp -implicitDefEqProofs only [go_sem, Z1, Z2, Z3, Z4]
            refine fin1' ?_
            simp -implicitDefEqProofs only [go_sem, Z1, Z2, Z3, Z4]
            have e : decide (((numsOf s lits).length : Int) ≤ 4) = decide ((numsOf s lits).length ≤ 4) := decide_eq_decide.2 (by omega)
            simp [bothOk, h1, h2', hg, h5', e]
          · have h5' : ¬ (termsOf lits).length ≤ 24 := by omega
            simp -implicitDefEqProofs only [go_sem, Z1, Z2, Z3, Z4, h5]
            refine fin1' ?_
            simp -implicitDefEqProofs only [go_sem, Z1, Z2, Z3, Z4]
            all_goals (simp [bothOk, h5']; done)
end Go.Proofs.YthpjgpbcfdfmoaaGreat
