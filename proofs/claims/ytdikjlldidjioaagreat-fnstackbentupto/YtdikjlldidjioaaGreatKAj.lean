/-
  The reference: the walks of lists of formulas. A step towards the exact laws.
-/
import Derived.Test.YtdikjlldidjioaaGreatKAf
set_option linter.unusedVariables false
set_option linter.unusedSimpArgs false
namespace Go.Proofs.YtdikjlldidjioaaGreat
open Go.Eng Go.Mod
open Int renaming reduceEq → Z1,reduceLT → Z2,reduceLE → Z3,reduceToNat → Z4
set_option maxRecDepth 100000
set_option maxHeartbeats 400000
theorem c_spec_l10Told (list:List Mod.Form) (hall:∀ f ∈ list,isForm f = true) (hlen:list.length ≤ 5):C E.P 72 [lv (rowsForm list)] [] (Eq2 (lv (rowsAtom (withAtomss [] list))) []):=by
 have hLB:=LB_eq
 refine C_goS (nt:=19) (rs:=[.tmp 2]) hm Tryz.func72 rfl rfl rfl rfl rfl (fun hl he=>?_)
 simp -implicitDefEqProofs only [go_sem] at hl ⊢
 refine loop_go1 hm (fun (i:Nat)=> i ≤ list.length) (fun (i:Nat)=> ⟨mkS 19 .any [(0,lv (rowsForm list)),(3,.acc 0),(4,iv i)],[some (.acc 46 (rowsAtom (withAtomss [] (list.take i))))]⟩) (fun (i:Nat)=> list.length - i) (0) ?_ (weakS [some 0] ?_ ?_ rfl rfl) ?_
 rotate_left
 ·simp -implicitDefEqProofs only [go_sem]
 ·simp -implicitDefEqProofs only [go_sem]
  all_goals (simp [withAtomss,rowsAtom])
 rotate_left
 ·omega
 ·rintro i hi
  have hl2:(list.take i).length = i:=by rw [List.length_take]; omega
  have b1:=withAtomss_len10 (list.take i) [] (fun f hf=>hall f (List.mem_of_mem_take hf))
  simp only [List.length_nil] at b1
  rcases Classical.em (i < list.length) with h1 | h1
  ·have hs:=isForm_shape (hall list[i] (List.getElem_mem h1))
   simp -implicitDefEqProofs only [go_sem,h1]
   refine atOwn [] [0,1] (c_spec_l9Atoms list[i] 5 (withAtomss [] (list.take i)) hs.1 (by omega)) ?_ ?_ <;> simp -implicitDefEqProofs only [go_sem]
   repeat (with_reducible apply And.intro; case left=>omega)
   refine ⟨i + 1,?_,?_,weakS [some 1] ?_ ?_ rfl rfl⟩
   rotate_left
   ·show _ < _
    omega
   ·simp -implicitDefEqProofs only [go_sem]
   ·simp -implicitDefEqProofs only [go_sem]
    all_goals (simp only [withAtomss_snoc h1])
   exact h1
  ·have e:list.take i = list:=List.take_of_length_le (by omega)
   simp -implicitDefEqProofs only [go_sem,h1,e]
   refine fin1' ?_
   simp -implicitDefEqProofs only [go_sem]
theorem c_spec_l10Forms (list:List Mod.Form):C E.P 69 [lv (rowsForm list)] [] (Eq2 (bv (formsAtoms list).isSome) []):=by
 have e:=formsAtoms_eq list
 have hLB:=LB_eq
 refine C_goS (nt:=25) (rs:=[.tmp 2]) hm Tryz.func69 rfl rfl rfl rfl rfl (fun hl he=>?_)
 simp -implicitDefEqProofs only [go_sem] at hl ⊢
 refine loop_go1 hm (fun (i:Nat)=> i ≤ list.length ∧ list.all isForm = (list.drop i).all isForm) (fun (i:Nat)=> ⟨mkS 25 .any [(0,lv (rowsForm list)),(3,iv i)],[]⟩) (fun (i:Nat)=> list.length - i) (0) ?_ (weakS [] ?_ ?_ rfl rfl) ?_
 rotate_left
 ·simp -implicitDefEqProofs only [go_sem]
 ·simp -implicitDefEqProofs only [go_sem]
 rotate_left
 ·simp
 ·rintro i ⟨hi,hg⟩
  rcases Classical.em (i < list.length) with h1 | h1
  ·rw [List.drop_eq_getElem_cons h1,List.all_cons] at hg
   simp -implicitDefEqProofs only [go_sem,h1]
   refine atCall [] (c_spec_l9Right list[i]) ?_ ?_ <;> simp -implicitDefEqProofs only [go_sem]
   cases h2:isForm list[i]
   ·rw [h2,Bool.false_and] at hg
    rw [if_neg (fun hh=>by rw [hh.2.1] at hg; cases hg)] at e
    simp -implicitDefEqProofs only [go_sem]
    refine fin1' ?_
    simp -implicitDefEqProofs only [go_sem]
    all_goals (simp [e]; done)
   ·rw [h2,Bool.true_and] at hg
    simp -implicitDefEqProofs only [go_sem]
    repeat (with_reducible apply And.intro; case left=>omega)
    refine ⟨i + 1,?_,?_,weakS [] ?_ ?_ rfl rfl⟩
    rotate_left
    ·show _ < _
     omega
    ·simp -implicitDefEqProofs only [go_sem]
    ·simp -implicitDefEqProofs only [go_sem]
    exact ⟨by omega,hg⟩
  ·rw [List.drop_of_length_le (by omega),List.all_nil] at hg
   have hall:∀ f ∈ list,isForm f = true:=List.all_eq_true.1 hg
   simp -implicitDefEqProofs only [go_sem,h1]
   rcases Classical.em ((list.length:Int) ≤ 5) with h3 | h3
   ·have h3':list.length ≤ 5:=by omega
    simp -implicitDefEqProofs only [go_sem,h3]
    refine atCall [] (c_spec_l10Told list hall h3') ?_ ?_ <;> simp -implicitDefEqProofs only [go_sem]
    rcases Classical.em ((withAtomss [] list).length ≤ 6) with h4 | h4
    ·have h4':((withAtomss [] list).length:Int) ≤ 6:=by omega
     rw [if_pos ⟨h3',hg,h4⟩] at e
     refine fin1' ?_
     simp -implicitDefEqProofs only [go_sem]
     rw [e]
     simp only [h4',decide_true]
     rfl
    ·have h4':¬ ((withAtomss [] list).length:Int) ≤ 6:=by omega
     rw [if_neg (fun hh=>h4 hh.2.2)] at e
     refine fin1' ?_
     simp -implicitDefEqProofs only [go_sem]
     rw [e]
     simp only [h4',decide_false]
     rfl
   ·have h3':¬ list.length ≤ 5:=by omega
    rw [if_neg (fun hh=>h3' hh.1)] at e
    simp -implicitDefEqProofs only [go_sem,h3]
    refine fin1' ?_
    simp -implicitDefEqProofs only [go_sem]
    all_goals (simp [e]; done)
theorem c_spec_FormsOk (s:Sig) (list:List Mod.Form):C E.P 45 [av (cSig s),lv (rowsForm list)] [] (Eq2 (bv (formsOk s list)) []):=by
 have e:=formsAtoms_eq list
 have hLB:=LB_eq
 refine C_goS (nt:=18) (rs:=[.tmp 4]) hm Tryz.func45 rfl rfl rfl rfl rfl (fun hl he=>?_)
 simp -implicitDefEqProofs only [go_sem] at hl ⊢
 refine atCall [] (c_spec_SigOk s) ?_ ?_ <;> simp -implicitDefEqProofs only [go_sem]
 cases h1:sigOk s
 ·have e2:formsOk s list = false:=by unfold formsOk; split <;> simp [h1]
  simp -implicitDefEqProofs only [go_sem]
  with_reducible refine ind_andM (by kernel_rfl) ?_
  refine fin1' ?_
  simp -implicitDefEqProofs only [go_sem]
  all_goals (simp [e2]; done)
 ·simp -implicitDefEqProofs only [go_sem]
  refine atCall [] (c_spec_l10Forms list) ?_ ?_ <;> simp -implicitDefEqProofs only [go_sem]
  cases h2:formsAtoms list with
  | none=>
    have e2:formsOk s list = false:=by unfold formsOk; rw [h2]
    simp -implicitDefEqProofs only [go_sem,Option.isSome_none]
    with_reducible refine ind_andM (by kernel_rfl) ?_
    refine fin1' ?_
    simp -implicitDefEqProofs only [go_sem]
    all_goals (simp [e2]; done)
  | some xs=>
    rw [h2] at e
    rcases Classical.em (list.length ≤ 5 ∧ list.all isForm = true ∧ (withAtomss [] list).length ≤ 6) with hc | hc
    ·rw [if_pos hc] at e
     have e3:xs = withAtomss [] list:=Option.some.inj e
     have e2:formsOk s list = bothOk s (plain (withAtomss [] list)):=by unfold formsOk; rw [h2,h1,e3]; rfl
     simp -implicitDefEqProofs only [go_sem,Option.isSome_some]
     refine atCall [] (c_spec_l10Told list (List.all_eq_true.1 hc.2.1) hc.1) ?_ ?_ <;> simp -implicitDefEqProofs only [go_sem]
     refine atCall [] (c_spec_l9Lits (withAtomss [] list) (by omega)) ?_ ?_ <;> simp -implicitDefEqProofs only [go_sem]
     refine atCall [] (c_spec_BothOk s (plain (withAtomss [] list))) ?_ ?_ <;> simp -implicitDefEqProofs only [go_sem]
     with_reducible refine ind_andM (by kernel_rfl) ?_
     refine fin1' ?_
     simp -implicitDefEqProofs only [go_sem]
     all_goals (simp [e2]; done)
    ·rw [if_neg hc] at e
     cases e
end Go.Proofs.YtdikjlldidjioaaGreat
