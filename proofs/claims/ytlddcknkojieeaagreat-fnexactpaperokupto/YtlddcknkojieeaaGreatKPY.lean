/-
  The law FnExactPaperOk, walked: whatever it is given, it answers yes. A step towards the exact law.
-/
import Derived.Test.YtlddcknkojieeaaGreatKPn
import Derived.Test.YtlddcknkojieeaaGreatKPp
import Derived.Test.YtlddcknkojieeaaGreatKPg
set_option linter.unusedVariables false
set_option linter.unusedSimpArgs false
namespace Go.Proofs.YtlddcknkojieeaaGreat
open Go.Eng Go.Mod
open Int renaming reduceEq → Z1,reduceLT → Z2,reduceLE → Z3,reduceToNat → Z4
set_option maxRecDepth 100000
set_option maxHeartbeats 400000
theorem c_law_PaperOk (s:Sig) (list:List Mod.Form) (p:Mod.Paper):C E.P 3 [av (cSig s),lv (rowsForm list),av (cPaper p)] [] (Eq2 (bv true) []):=by
 have s1:=szSig_shr s 1048576 (by omega)
 have hLB:=LB_eq
 refine C_goS (nt:=63) (rs:=[.tmp 6]) hm Tryz.func3 rfl rfl rfl rfl rfl (fun hl he=>?_)
 simp -implicitDefEqProofs only [go_sem] at hl ⊢
 refine atCall [] (c_laws_szSig s 1048576 (by omega) (by omega)) ?_ ?_ <;> simp -implicitDefEqProofs only [go_sem]
 generalize hr1:szSig s 1048576 = r1 at *
 rcases Classical.em (r1 < 0) with h1 | h1
 ·simp -implicitDefEqProofs only [go_sem,h1]
  refine fin1' ?_
  simp -implicitDefEqProofs only [go_sem]
 ·skip
  have s2:=szS_shr (f:=szForm) (xs:=list) (fun l _=>szForm_shr l) r1 (by omega)
  simp -implicitDefEqProofs only [go_sem,h1]
  refine atCall [] (c_laws_szFormS list r1 (by omega) (by omega) (fun t _=>szForm_shr t) (fun t _ l h0 h1=>c_laws_szForm t l h0 h1)) ?_ ?_ <;> simp -implicitDefEqProofs only [go_sem]
  generalize hr2:szS szForm list r1 = r2 at *
  rcases Classical.em (r2 < 0) with h2 | h2
  ·simp -implicitDefEqProofs only [go_sem,h2]
   refine fin1' ?_
   simp -implicitDefEqProofs only [go_sem]
  ·skip
   have s3:=szPaper_shr p r2 (by omega)
   simp -implicitDefEqProofs only [go_sem,h2]
   refine atCall [] (c_laws_szPaper p r2 (by omega) (by omega)) ?_ ?_ <;> simp -implicitDefEqProofs only [go_sem]
   generalize hr3:szPaper p r2 = r3 at *
   rcases Classical.em (r3 < 0) with h3 | h3
   ·simp -implicitDefEqProofs only [go_sem,h3]
    refine fin1' ?_
    simp -implicitDefEqProofs only [go_sem]
   ·simp -implicitDefEqProofs only [go_sem,h3]
    refine atCall [] (c_laws_toSig s) ?_ ?_ <;> simp -implicitDefEqProofs only [go_sem]
    refine atCall [] (c_laws_toFormS list (fun t _=>c_laws_toForm t)) ?_ ?_ <;> simp -implicitDefEqProofs only [go_sem]
    refine atCall [] (c_laws_toPaper p) ?_ ?_ <;> simp -implicitDefEqProofs only [go_sem]
    refine atCall [] (c_spec_PaperOk s list p) ?_ ?_ <;> simp -implicitDefEqProofs only [go_sem]
    with_reducible refine ind_andM (by kernel_rfl) ?_
    refine atCall [] (c_laws_toSig s) ?_ ?_ <;> simp -implicitDefEqProofs only [go_sem]
    refine atCall [] (c_laws_toFormS list (fun t _=>c_laws_toForm t)) ?_ ?_ <;> simp -implicitDefEqProofs only [go_sem]
    refine atCall [] (c_laws_toPaper p) ?_ ?_ <;> simp -implicitDefEqProofs only [go_sem]
    refine atCall [] (c_impl_PaperOk s list p) ?_ ?_ <;> simp -implicitDefEqProofs only [go_sem]
    refine atCall [] (c_laws_toSig s) ?_ ?_ <;> simp -implicitDefEqProofs only [go_sem]
    refine atCall [] (c_laws_eqSig s) ?_ ?_ <;> simp -implicitDefEqProofs only [go_sem]
    with_reducible refine ind_andM (by kernel_rfl) ?_
    refine atCall [] (c_laws_toFormS list (fun t _=>c_laws_toForm t)) ?_ ?_ <;> simp -implicitDefEqProofs only [go_sem]
    refine atCall [] (c_laws_eqFormS list (fun t _=>c_laws_eqForm t)) ?_ ?_ <;> simp -implicitDefEqProofs only [go_sem]
    refine atCall [] (c_laws_toPaper p) ?_ ?_ <;> simp -implicitDefEqProofs only [go_sem]
    refine atCall [] (c_laws_eqPaper p) ?_ ?_ <;> simp -implicitDefEqProofs only [go_sem]
    with_reducible refine ind_andM (by kernel_rfl) ?_
    refine fin1' ?_
    simp -implicitDefEqProofs only [go_sem]
end Go.Proofs.YtlddcknkojieeaaGreat
