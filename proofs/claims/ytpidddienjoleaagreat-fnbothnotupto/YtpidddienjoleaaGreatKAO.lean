/-
  The walk of certificates. A step towards the exact laws.
-/
import Derived.Test.YtpidddienjoleaaGreatKAN
set_option linter.unusedVariables false
set_option linter.unusedSimpArgs false
namespace Go.Proofs.YtpidddienjoleaaGreat
open Go.Eng Go.Mod
open Int renaming reduceEq → Z1,reduceLT → Z2,reduceLE → Z3,reduceToNat → Z4
set_option maxRecDepth 100000
set_option maxHeartbeats 400000
theorem c_impl_BothOk (s:Sig) (lits:List LitD):C E.P 8 [av (cSig s),lv (rowsLit lits)] [] (Eq2 (bv (bothOk s lits)) []):=by
 have hLB:=LB_eq
 refine C_goS (nt:=38) (rs:=[.tmp 4]) hm Tryz.func8 rfl rfl rfl rfl rfl (fun hl he=>?_)
 simp -implicitDefEqProofs only [go_sem,Z1,Z2,Z3,Z4] at hl ⊢
 refine atCall [] (c_impl_SigOk s) ?_ ?_ <;> simp -implicitDefEqProofs only [go_sem,Z1,Z2,Z3,Z4]
 try (with_reducible refine ind_andM (by kernel_rfl) ?_)
 cases h1:sigOk s
 ·try simp -implicitDefEqProofs only [go_sem,Z1,Z2,Z3,Z4]
  try (with_reducible refine ind_andM (by kernel_rfl) ?_)
  refine fin1' ?_
  simp -implicitDefEqProofs only [go_sem,Z1,Z2,Z3,Z4]
  all_goals (first | done | (simp [bothOk,h1]; done) | (simp [bothOk,h1]; omega) | skip)
 ·try simp -implicitDefEqProofs only [go_sem,Z1,Z2,Z3,Z4]
  try (with_reducible refine ind_andM (by kernel_rfl) ?_)
  rcases Classical.em ((6:Int) < (lits.length:Int)) with h2 | h2
  ·have h2':¬ lits.length ≤ 6:=by omega
   try simp -implicitDefEqProofs only [go_sem,Z1,Z2,Z3,Z4,h2]
   try (with_reducible refine ind_andM (by kernel_rfl) ?_)
   refine fin1' ?_
   simp -implicitDefEqProofs only [go_sem,Z1,Z2,Z3,Z4]
   all_goals (first | done | (simp [bothOk,h2']; done) | (simp [bothOk,h2']; omega) | skip)
  ·have h2':lits.length ≤ 6:=by omega
   try simp -implicitDefEqProofs only [go_sem,Z1,Z2,Z3,Z4,h2]
   try (with_reducible refine ind_andM (by kernel_rfl) ?_)
   refine loop_go1 hm (fun (i:Nat)=> i ≤ lits.length ∧ lits.all (fun l=>atomOk s l.atom) = (lits.drop i).all (fun l=>atomOk s l.atom)) (fun (i:Nat)=> ⟨mkS 38 .any [(1,lv (rowsLit lits)),(2,.ptr 0 0),(15,lv (rowsLit lits)),(16,iv lits.length),(17,iv i)],[some (.box (pvs (cSig s)))]⟩) (fun (i:Nat)=> lits.length - i) (0) ?_ (weakS [some 0] ?_ ?_ rfl rfl) ?_
   rotate_left
   ·simp -implicitDefEqProofs only [go_sem,Z1,Z2,Z3,Z4]
    all_goals (first | done | (simp [wks_rfl, *]; done) | (simp [wks_rfl]; done) | (simp; omega) | skip)
   ·simp -implicitDefEqProofs only [go_sem,Z1,Z2,Z3,Z4]
    all_goals (first | done | (simp [wks_rfl, *]; done) | (simp [wks_rfl]; done) | (simp; omega) | skip)
   rotate_left
   ·simp
   ·rintro i ⟨hi,hg⟩
    rcases Classical.em (i < lits.length) with h3 | h3
    ·rw [List.drop_eq_getElem_cons h3,List.all_cons] at hg
     try simp -implicitDefEqProofs only [go_sem,Z1,Z2,Z3,Z4,h3]
     try (with_reducible refine ind_andM (by kernel_rfl) ?_)
     refine atCall [] (c_impl_AtomOk s lits[i].atom) ?_ ?_ <;> simp -implicitDefEqProofs only [go_sem,Z1,Z2,Z3,Z4]
     try (with_reducible refine ind_andM (by kernel_rfl) ?_)
     cases h4:atomOk s lits[i].atom
     ·rw [h4,Bool.false_and] at hg
      try simp -implicitDefEqProofs only [go_sem,Z1,Z2,Z3,Z4]
      try (with_reducible refine ind_andM (by kernel_rfl) ?_)
      refine fin1' ?_
      simp -implicitDefEqProofs only [go_sem,Z1,Z2,Z3,Z4]
      all_goals (first | done | (simp [bothOk,hg]; done) | (simp [bothOk,hg]; omega) | skip)
     ·rw [h4,Bool.true_and] at hg
      try simp -implicitDefEqProofs only [go_sem,Z1,Z2,Z3,Z4]
      try (with_reducible refine ind_andM (by kernel_rfl) ?_)
      repeat (first | with_reducible refine ind_andM (by kernel_rfl) ?_ | (with_reducible apply And.intro; case left=>first | omega | assumption | exact ⟨rowsT_all _,by omega⟩ | exact ⟨rowsI_all _,by omega⟩ | exact ⟨rowsLit_all _,by omega⟩ | exact ⟨rowsLin_all _,by omega⟩ | exact ⟨rowsEq_all _,by omega⟩ | rfl | (simp [*]; done) | (simp; omega) | exact ⟨rowsRat_all _,by omega⟩ | exact ⟨rowsAtom_all _,by omega⟩ | exact ⟨rowsB_all _,by omega⟩ | exact ⟨rowsForm_all _,by omega⟩ | exact ⟨rowsII_all _,by omega⟩))
      refine ⟨i + 1,?_,?_,weakS [some 0] ?_ ?_ rfl rfl⟩
      rotate_left
      ·show _ < _
       omega
      ·simp -implicitDefEqProofs only [go_sem,Z1,Z2,Z3,Z4]
       all_goals (first | done | (simp [wks_rfl, *]; done) | (simp [wks_rfl]; done) | (simp; omega) | skip)
      ·simp -implicitDefEqProofs only [go_sem,Z1,Z2,Z3,Z4]
       all_goals (first | done | (simp [wks_rfl, *]; done) | (simp [wks_rfl]; done) | (simp; omega) | skip)
      exact ⟨by omega,hg⟩
    ·rw [List.drop_of_length_le (by omega),List.all_nil] at hg
     have hw:∀ l ∈ lits,atomWf l.atom = true:=by
      intro l hl
      have:=List.all_eq_true.1 hg l hl
      simp only [atomOk,Bool.and_eq_true] at this
      exact this.2.1
     try simp -implicitDefEqProofs only [go_sem,Z1,Z2,Z3,Z4,h3]
     try (with_reducible refine ind_andM (by kernel_rfl) ?_)
     refine atOwn [] [1] (c_impl_termsOf lits (by omega) hw) ?_ ?_ <;> simp -implicitDefEqProofs only [go_sem,Z1,Z2,Z3,Z4]
     try (with_reducible refine ind_andM (by kernel_rfl) ?_)
     rcases Classical.em (((termsOf lits).length:Int) ≤ 24) with h5 | h5
     ·have h5':(termsOf lits).length ≤ 24:=by omega
      try simp -implicitDefEqProofs only [go_sem,Z1,Z2,Z3,Z4,h5]
      try (with_reducible refine ind_andM (by kernel_rfl) ?_)
      refine atCall [] (c_impl_numsOf s lits (by omega) hw) ?_ ?_ <;> simp -implicitDefEqProofs only [go_sem,Z1,Z2,Z3,Z4]
      try (with_reducible refine ind_andM (by kernel_rfl) ?_)
      refine fin1' ?_
      simp -implicitDefEqProofs only [go_sem,Z1,Z2,Z3,Z4]
      have e:decide (((numsOf s lits).length:Int) ≤ 4) = decide ((numsOf s lits).length ≤ 4):=decide_eq_decide.2 (by omega)
      simp [bothOk,h1,h2',hg,h5',e]
     ·have h5':¬ (termsOf lits).length ≤ 24:=by omega
      try simp -implicitDefEqProofs only [go_sem,Z1,Z2,Z3,Z4,h5]
      try (with_reducible refine ind_andM (by kernel_rfl) ?_)
      refine fin1' ?_
      simp -implicitDefEqProofs only [go_sem,Z1,Z2,Z3,Z4]
      all_goals (first | done | (simp [bothOk,h5']; done) | (simp [bothOk,h5']; omega) | skip)
end Go.Proofs.YtpidddienjoleaaGreat
