/-
  The law FnExactFollowOk, walked: whatever it is given, it answers yes. A step towards the exact law.
-/
import Derived.Test.YtlddcknkojieeaaGreatKQn
import Derived.Test.YtlddcknkojieeaaGreatKQp
import Derived.Test.YtlddcknkojieeaaGreatKQg
set_option linter.unusedVariables false
set_option linter.unusedSimpArgs false
namespace Go.Proofs.YtlddcknkojieeaaGreat
open Go.Eng Go.Mod
open Int renaming reduceEq → Z1,reduceLT → Z2,reduceLE → Z3,reduceToNat → Z4
set_option maxRecDepth 100000
set_option maxHeartbeats 400000
theorem szS_len {α:Type} {f:α → Int → Int} {xs:List α} {l:Int} (h:¬ szS f xs l < 0):(xs.length:Int) ≤ l:=by
 rcases Classical.em (l - (xs.length:Int) < 0) with hc | hc
 ·exact absurd (by simp [szS,hc]) h
 ·omega
theorem c_law_FollowOk (s:Sig) (list:List Mod.Form) (f:Mod.Form) (p:Mod.Paper):C E.P 4 [av (cSig s),lv (rowsForm list),av (cForm f),av (cPaper p)] [] (Eq2 (bv true) []):=by
 have s1:=szSig_shr s 1048576 (by omega)
 have hLB:=LB_eq
 refine C_goS (nt:=81) (rs:=[.tmp 8]) hm Tryz.func4 rfl rfl rfl rfl rfl (fun hl he=>?_)
 simp -implicitDefEqProofs only [go_sem] at hl ⊢
 refine atCall [] (c_laws_szSig s 1048576 (by omega) (by omega)) ?_ ?_ <;> simp -implicitDefEqProofs only [go_sem]
 generalize hr1:szSig s 1048576 = r1 at *
 rcases Classical.em (r1 < 0) with h1 | h1
 ·simp -implicitDefEqProofs only [go_sem,h1]
  refine fin1' ?_
  simp -implicitDefEqProofs only [go_sem]
 ·skip
  have s2:=szS_shr (f:=szForm) (xs:=list) (fun l _=>szForm_shr l) r1 (by omega)
  simp -implicitDefEqProofs only [go_sem,h1]
  refine atCall [] (c_laws_szFormS list r1 (by omega) (by omega) (fun t _=>szForm_shr t) (fun t _ l h0 h1=>c_laws_szForm t l h0 h1)) ?_ ?_ <;> simp -implicitDefEqProofs only [go_sem]
  generalize hr2:szS szForm list r1 = r2 at *
  rcases Classical.em (r2 < 0) with h2 | h2
  ·simp -implicitDefEqProofs only [go_sem,h2]
   refine fin1' ?_
   simp -implicitDefEqProofs only [go_sem]
  ·skip
   have hlen:list.length ≤ 2000000:=by
    have:=szS_len (by rw [hr2]; exact h2)
    omega
   have s3:=szForm_shr f r2 (by omega)
   simp -implicitDefEqProofs only [go_sem,h2]
   refine atCall [] (c_laws_szForm f r2 (by omega) (by omega)) ?_ ?_ <;> simp -implicitDefEqProofs only [go_sem]
   generalize hr3:szForm f r2 = r3 at *
   rcases Classical.em (r3 < 0) with h3 | h3
   ·simp -implicitDefEqProofs only [go_sem,h3]
    refine fin1' ?_
    simp -implicitDefEqProofs only [go_sem]
   ·skip
    have s4:=szPaper_shr p r3 (by omega)
    simp -implicitDefEqProofs only [go_sem,h3]
    refine atCall [] (c_laws_szPaper p r3 (by omega) (by omega)) ?_ ?_ <;> simp -implicitDefEqProofs only [go_sem]
    generalize hr4:szPaper p r3 = r4 at *
    rcases Classical.em (r4 < 0) with h4 | h4
    ·simp -implicitDefEqProofs only [go_sem,h4]
     refine fin1' ?_
     simp -implicitDefEqProofs only [go_sem]
    ·simp -implicitDefEqProofs only [go_sem,h4]
     refine atCall [] (c_laws_toSig s) ?_ ?_ <;> simp -implicitDefEqProofs only [go_sem]
     refine atCall [] (c_laws_toFormS list (fun t _=>c_laws_toForm t)) ?_ ?_ <;> simp -implicitDefEqProofs only [go_sem]
     refine atCall [] (c_laws_toForm f) ?_ ?_ <;> simp -implicitDefEqProofs only [go_sem]
     refine atCall [] (c_laws_toPaper p) ?_ ?_ <;> simp -implicitDefEqProofs only [go_sem]
     refine atCall [] (c_spec_FollowOk s list f p hlen) ?_ ?_ <;> simp -implicitDefEqProofs only [go_sem]
     with_reducible refine ind_andM (by kernel_rfl) ?_
     refine atCall [] (c_laws_toSig s) ?_ ?_ <;> simp -implicitDefEqProofs only [go_sem]
     refine atCall [] (c_laws_toFormS list (fun t _=>c_laws_toForm t)) ?_ ?_ <;> simp -implicitDefEqProofs only [go_sem]
     refine atCall [] (c_laws_toForm f) ?_ ?_ <;> simp -implicitDefEqProofs only [go_sem]
     refine atCall [] (c_laws_toPaper p) ?_ ?_ <;> simp -implicitDefEqProofs only [go_sem]
     refine atCall [] (c_impl_FollowOk s list f p hlen) ?_ ?_ <;> simp -implicitDefEqProofs only [go_sem]
     refine atCall [] (c_laws_toSig s) ?_ ?_ <;> simp -implicitDefEqProofs only [go_sem]
     refine atCall [] (c_laws_eqSig s) ?_ ?_ <;> simp -implicitDefEqProofs only [go_sem]
     with_reducible refine ind_andM (by kernel_rfl) ?_
     refine atCall [] (c_laws_toFormS list (fun t _=>c_laws_toForm t)) ?_ ?_ <;> simp -implicitDefEqProofs only [go_sem]
     refine atCall [] (c_laws_eqFormS list (fun t _=>c_laws_eqForm t)) ?_ ?_ <;> simp -implicitDefEqProofs only [go_sem]
     refine atCall [] (c_laws_toForm f) ?_ ?_ <;> simp -implicitDefEqProofs only [go_sem]
     refine atCall [] (c_laws_eqForm f) ?_ ?_ <;> simp -implicitDefEqProofs only [go_sem]
     with_reducible refine ind_andM (by kernel_rfl) ?_
     refine atCall [] (c_laws_toPaper p) ?_ ?_ <;> simp -implicitDefEqProofs only [go_sem]
     refine atCall [] (c_laws_eqPaper p) ?_ ?_ <;> simp -implicitDefEqProofs only [go_sem]
     with_reducible refine ind_andM (by kernel_rfl) ?_
     refine fin1' ?_
     simp -implicitDefEqProofs only [go_sem]
end Go.Proofs.YtlddcknkojieeaaGreat
