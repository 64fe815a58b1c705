/-
  The law FnBothNot, walked: whatever it is given, it answers yes. A step towards the law.
-/
import Derived.Test.YtpidddienjoleaaGreatKAze
import Derived.Test.YtpidddienjoleaaGreatKAzi
import Derived.Test.YtpidddienjoleaaGreatKAzj
import Derived.Test.YtpidddienjoleaaGreatKAEl
set_option linter.unusedVariables false
set_option linter.unusedSimpArgs false
namespace Go.Proofs.YtpidddienjoleaaGreat
open Go.Eng Go.Mod
open Int renaming reduceEq → Z1,reduceLT → Z2,reduceLE → Z3,reduceToNat → Z4
set_option maxRecDepth 100000
set_option maxHeartbeats 1600000
theorem c_impl_LitNot (l:LitD) (hw:atomWf l.atom = true):C E.P 11 [av (cLit l)] [] (Eq2 (av (cLit ⟨l.atom,!l.no⟩)) []):=by
 have hLB:=LB_eq
 refine C_goS (nt:=15) (rs:=[.cell 2 48]) hm Tryz.func11 rfl rfl rfl rfl rfl (fun hl he=>?_)
 simp -implicitDefEqProofs only [go_sem] at hl ⊢
 refine atCall [] (c_impl_Atom_ok l.atom) ?_ ?_ <;> simp -implicitDefEqProofs only [go_sem]
 simp -implicitDefEqProofs only [go_sem,hw]
 refine atCall [] (c_impl_Atom_own l.atom (by have:=atomWf_times hw; omega)) ?_ ?_ <;> simp -implicitDefEqProofs only [go_sem]
 with_reducible refine ind_andM (by kernel_rfl) ?_
 refine fin1' ?_
 simp -implicitDefEqProofs only [go_sem]
 all_goals ((repeat' apply And.intro) <;> rfl)
theorem c_law_BothNot (b:List Int) (hb:∀ x ∈ b,0 ≤ x ∧ x ≤ 255):C E.P 3 [lv (byD b)] [] (Eq2 (bv true) []):=by
 have hLB:=LB_eq
 refine C_goS (nt:=72) (rs:=[.tmp 2]) hm Tryz.func3 rfl rfl rfl rfl rfl (fun hl he=>?_)
 simp -implicitDefEqProofs only [go_sem] at hl ⊢
 rcases Classical.em ((1048576:Int) < (b.length:Int)) with h0 | h0
 ·simp -implicitDefEqProofs only [go_sem,h0]
  refine fin1' ?_
  simp -implicitDefEqProofs only [go_sem]
 ·have cD:=c_spec_DrawBothRun b hb (by omega)
  generalize draw8 (b.take 2000) = g at cD
  obtain ⟨s,lits⟩:=g
  simp only at cD
  have c1:=c_impl_BothOk s lits
  have c2:=c_spec_BothOk s lits
  simp -implicitDefEqProofs only [go_sem,h0]
  refine atCall [] cD ?_ ?_ <;> simp -implicitDefEqProofs only [go_sem]
  refine atCall [] c1 ?_ ?_ <;> simp -implicitDefEqProofs only [go_sem]
  refine atCall [] c2 ?_ ?_ <;> simp -implicitDefEqProofs only [go_sem]
  cases hok:bothOk s lits
  ·rw [hok] at c1 c2
   refine atCall [] c2 ?_ ?_ <;> simp -implicitDefEqProofs only [go_sem]
   with_reducible refine ind_andM (by kernel_rfl) ?_
   refine atCall [] c1 ?_ ?_ <;> simp -implicitDefEqProofs only [go_sem]
   refine atCall [] c2 ?_ ?_ <;> simp -implicitDefEqProofs only [go_sem]
   with_reducible refine ind_andM (by kernel_rfl) ?_
   refine fin1' ?_
   simp -implicitDefEqProofs only [go_sem]
  ·rw [hok] at c1 c2
   have h6:=(fit_both hok).2.2.2.1
   have hwf:=(goodL_of hok).wf
   refine atCall [] c2 ?_ ?_ <;> simp -implicitDefEqProofs only [go_sem]
   rcases Classical.em ((lits.length:Int) = 0) with hz | hz
   ·have kz:=eq_true hz
    simp -implicitDefEqProofs only [go_sem,kz]
    with_reducible refine ind_andM (by kernel_rfl) ?_
    refine atCall [] c1 ?_ ?_ <;> simp -implicitDefEqProofs only [go_sem]
    refine atCall [] c2 ?_ ?_ <;> simp -implicitDefEqProofs only [go_sem]
    with_reducible refine ind_andM (by kernel_rfl) ?_
    refine fin1' ?_
    simp -implicitDefEqProofs only [go_sem]
   rcases Classical.em ((6:Int) ≤ (lits.length:Int)) with h5 | h5
   ·simp -implicitDefEqProofs only [go_sem,hz,h5]
    with_reducible refine ind_andM (by kernel_rfl) ?_
    refine atCall [] c1 ?_ ?_ <;> simp -implicitDefEqProofs only [go_sem]
    refine atCall [] c2 ?_ ?_ <;> simp -implicitDefEqProofs only [go_sem]
    with_reducible refine ind_andM (by kernel_rfl) ?_
    refine fin1' ?_
    simp -implicitDefEqProofs only [go_sem]
   have hpos:0 < lits.length:=by omega
   have cn:=c_impl_LitNot lits[0] (hwf _ (List.getElem_mem hpos))
   obtain ⟨l,hl⟩:∃ l,lits[0] = l:=⟨_,rfl⟩
   rw [hl] at cn
   have hlm:l ∈ lits:=by rw [← hl]; exact List.getElem_mem hpos
   have cr:=c_impl_BothRun insertOk s (lits ++ [⟨l.atom,!l.no⟩])
   have hs:rowsLit (lits ++ [(⟨l.atom,!l.no⟩:LitD)]) = rowsLit lits ++ [cLit ⟨l.atom,!l.no⟩]:=by rw [rowsLit,List.map_append]; rfl
   have y1:(bothRun s (lits ++ [⟨l.atom,!l.no⟩])).code ≠ 0:=fun e=>by
    have h1:=both_yes e
    rw [modelAll_not (l:=l) (by simp [hlm]) (by simp)] at h1
    cases h1
   have y2:=both_kind (s:=s) (lits:=lits ++ [⟨l.atom,!l.no⟩])
   rw [hs] at cr
   generalize bothRun s (lits ++ [⟨l.atom,!l.no⟩]) = r at *
   simp -implicitDefEqProofs only [go_sem,hz,h5,hpos,hl]
   with_reducible refine ind_andM (by kernel_rfl) ?_
   repeat (with_reducible apply And.intro; case left=>exact ⟨rowsLit_all _,by omega⟩)
   refine atCall [] cn ?_ ?_ <;> simp -implicitDefEqProofs only [go_sem]
   repeat (with_reducible apply And.intro; case left=>omega)
   refine atOwn [] [3] (C_eatV (e:=48) (args:=[av (cSig s),.acc 0]) (Vws.cons (Vw.same rfl) (Vws.cons (Vw.acc rfl rfl) Vws.nil)) rfl cr) ?_ ?_ <;> simp -implicitDefEqProofs only [go_sem]
   with_reducible refine ind_andM (by kernel_rfl) ?_
   rcases Classical.em (r.code = 1) with hr | hr
   ·have kr:=eq_true hr
    have y3:=y2 hr
    simp -implicitDefEqProofs only [go_sem,y1,kr,y3]
    refine fin1' ?_
    simp -implicitDefEqProofs only [go_sem]
   ·simp -implicitDefEqProofs only [go_sem,y1,hr]
    refine fin1' ?_
    simp -implicitDefEqProofs only [go_sem]
end Go.Proofs.YtpidddienjoleaaGreat
