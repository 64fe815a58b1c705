/-
  Stacks that share nothing: the program's walks. A step towards the exact laws.
-/
import Derived.Test.YtdikjlldidjioaaGreatKAq
import Derived.Test.YtdikjlldidjioaaGreatKAh
import Derived.Test.YtdikjlldidjioaaGreatKAE
import Derived.Test.YtdikjlldidjioaaGreatKAD
import Derived.Laws.StructEq
import Derived.Test.YtdikjlldidjioaaGreatKAEa
import Derived.Laws.IdiomCopy
import Derived.Deep.Draws
import Derived.Test.YtdikjlldidjioaaGreatKADa
set_option linter.unusedVariables false
set_option linter.unusedSimpArgs false
namespace Go.Proofs.YtdikjlldidjioaaGreat
open Go.Eng Go.Mod
open Int renaming reduceEq → Z1,reduceLT → Z2,reduceLE → Z3,reduceToNat → Z4
set_option maxRecDepth 100000
set_option maxHeartbeats 400000
theorem ctL_mem {α:Type} (c:α → Nat):∀ {xs:List α} {x:α},x ∈ xs → c x ≤ ctL c xs
 | a :: xs,x,h=>by
   simp only [ctL]
   rcases List.mem_cons.1 h with rfl | h
   ·omega
   ·have:=ctL_mem c h
    omega
theorem ctL_len {α:Type} (c:α → Nat) (h:∀ x,1 ≤ c x):∀ (xs:List α),xs.length ≤ ctL c xs
 | []=>by simp
 | x :: xs=>by
   have:=ctL_len c h xs
   have:=h x
   simp only [ctL,List.length_cons]
   omega
theorem c_impl_Stack_forms (s:Stack) (hl9:s.levels.flatten.length ≤ 8000000):C E.P 32 [av (cStack s)] [] (Eq2 (lv (rowsForm s.levels.flatten)) []):=by
 have hLB:=LB_eq
 refine C_goS (nt:=18) (rs:=[.tmp 2]) hm Tryz.func32 rfl rfl rfl rfl rfl (fun hl he=>?_)
 simp -implicitDefEqProofs only [go_sem,Z1,Z2,Z3,Z4] at hl ⊢
 refine loop_go1 hm (fun (i:Nat)=> i ≤ s.levels.length) (fun (i:Nat)=> ⟨mkS 18 .any [(3,.acc 1),(7,lv (rowsFF s.levels)),(8,iv s.levels.length),(9,iv i)],[some (.box (pvs (cStack s))),some (.acc 50 (rowsForm (s.levels.take i).flatten))]⟩) (fun (i:Nat)=> s.levels.length - i) (0) ?_ (weakS [some 0,none] ?_ ?_ rfl rfl) ?_
 rotate_left
 ·simp -implicitDefEqProofs only [go_sem,Z1,Z2,Z3,Z4]
 ·simp -implicitDefEqProofs only [go_sem,Z1,Z2,Z3,Z4]
  all_goals (rfl)
 rotate_left
 ·omega
 ·rintro i hi
  rcases Classical.em (i < s.levels.length) with h1 | h1
  ·have e:rowsForm (s.levels.take i).flatten ++ rowsForm s.levels[i] = rowsForm (s.levels.take (i + 1)).flatten:=by
    have e:s.levels.take (i + 1) = s.levels.take i ++ [s.levels[i]]:=by rw [List.take_add_one,List.getElem?_eq_getElem h1]; rfl
    rw [rowsForm_app,e,List.flatten_append]
    simp
   have e2:s.levels.flatten.length = (s.levels.take (i + 1)).flatten.length + (s.levels.drop (i + 1)).flatten.length:=by
    rw [← List.length_append,← List.flatten_append,List.take_append_drop]
   have e3:(s.levels.take (i + 1)).flatten.length = (s.levels.take i).flatten.length + s.levels[i].length:=by
    have:=congrArg List.length e
    rw [List.length_append,rowsForm_len,rowsForm_len,rowsForm_len] at this
    exact this.symm
   have hall:=rowsForm_all s.levels[i]
   simp -implicitDefEqProofs only [go_sem,Z1,Z2,Z3,Z4,h1]
   repeat (with_reducible apply And.intro; case left=>first | omega | exact ⟨rowsForm_all _,by omega⟩)
   refine ⟨i + 1,?_,?_,weakS [some 0,some 2] ?_ ?_ rfl rfl⟩
   rotate_left
   ·show _ < _
    omega
   ·simp -implicitDefEqProofs only [go_sem,Z1,Z2,Z3,Z4]
   ·simp -implicitDefEqProofs only [go_sem,Z1,Z2,Z3,Z4]
    all_goals (exact e)
   exact h1
  ·simp -implicitDefEqProofs only [go_sem,Z1,Z2,Z3,Z4,h1]
   refine fin1' ?_
   simp -implicitDefEqProofs only [go_sem,Z1,Z2,Z3,Z4]
   rw [List.take_of_length_le (by omega)]
theorem c_impl_StackOk (s:Stack) (hl9:s.levels.flatten.length ≤ 8000000):C E.P 11 [av (cStack s)] [] (Eq2 (bv (stackOk s)) []):=by
 have hLB:=LB_eq
 refine C_goS (nt:=14) (rs:=[.tmp 2]) hm Tryz.func11 rfl rfl rfl rfl rfl (fun hl he=>?_)
 simp -implicitDefEqProofs only [go_sem,Z1,Z2,Z3,Z4] at hl ⊢
 refine atCall [] (c_impl_within s.levels.length 1 4) ?_ ?_ <;> simp -implicitDefEqProofs only [go_sem,Z1,Z2,Z3,Z4]
 cases hw:within s.levels.length 1 4
 ·simp -implicitDefEqProofs only [go_sem,Z1,Z2,Z3,Z4]
  with_reducible refine ind_andM (by kernel_rfl) ?_
  refine fin1' ?_
  simp -implicitDefEqProofs only [go_sem,Z1,Z2,Z3,Z4]
  all_goals (simp [stackOk,hw]; done)
 ·simp -implicitDefEqProofs only [go_sem,Z1,Z2,Z3,Z4]
  refine atCall [] (c_impl_Stack_forms s hl9) ?_ ?_ <;> simp -implicitDefEqProofs only [go_sem,Z1,Z2,Z3,Z4]
  refine atCall [] (c_impl_FormsOk s.sig s.levels.flatten) ?_ ?_ <;> simp -implicitDefEqProofs only [go_sem,Z1,Z2,Z3,Z4]
  with_reducible refine ind_andM (by kernel_rfl) ?_
  refine fin1' ?_
  simp -implicitDefEqProofs only [go_sem,Z1,Z2,Z3,Z4]
  all_goals (simp [stackOk,hw]; done)
end Go.Proofs.YtdikjlldidjioaaGreat
