/-
  The program: the walks of lists of formulas. A step towards the exact laws.
-/
import Derived.Test.YtpidddienjoleaaGreatKAd
set_option linter.unusedVariables false
set_option linter.unusedSimpArgs false
namespace Go.Proofs.YtpidddienjoleaaGreat
open Go.Eng Go.Mod
open Int renaming reduceEq → Z1,reduceLT → Z2,reduceLE → Z3,reduceToNat → Z4
set_option maxRecDepth 100000
set_option maxHeartbeats 400000
theorem c_impl_formsAtoms (list:List Mod.Form):C E.P 139 [lv (rowsForm list)] [] (Eq2 (.tup [lv (rowsAtom ((formsAtoms list).getD [])),bv (formsAtoms list).isSome]) []):=by
 have e:=formsAtoms_eq list
 have hLB:=LB_eq
 refine C_goS (nt:=27) (rs:=[.tmp 2,.tmp 3]) hm Tryz.func139 rfl rfl rfl rfl rfl (fun hl he=>?_)
 simp -implicitDefEqProofs only [go_sem] at hl ⊢
 rcases Classical.em ((5:Int) < (list.length:Int)) with h0 | h0
 ·rw [if_neg (fun hh=>by have:=hh.1; omega)] at e
  simp -implicitDefEqProofs only [go_sem,h0]
  refine fin1' ?_
  simp -implicitDefEqProofs only [go_sem]
  rw [e]
  exact ⟨rfl,rfl⟩
 ·have h0':list.length ≤ 5:=by omega
  simp -implicitDefEqProofs only [go_sem,h0]
  refine loop_go1 hm (fun (i:Nat)=> i ≤ list.length ∧ list.all isForm = (list.drop i).all isForm ∧ (∀ f ∈ list.take i,isForm f = true)) (fun (i:Nat)=> ⟨mkS 27 .any [(4,.acc 0),(10,lv (rowsForm list)),(11,iv list.length),(12,iv i)],[some (.acc 46 (rowsAtom (withAtomss [] (list.take i))))]⟩) (fun (i:Nat)=> list.length - i) (0) ?_ (weakS [none] ?_ ?_ rfl rfl) ?_
  rotate_left
  ·simp -implicitDefEqProofs only [go_sem]
  ·simp -implicitDefEqProofs only [go_sem]
   all_goals (simp [withAtomss,rowsAtom])
  rotate_left
  ·simp
  ·rintro i ⟨hi,hg,hp⟩
   have hl2:(list.take i).length = i:=by rw [List.length_take]; omega
   have b1:=withAtomss_len10 (list.take i) [] hp
   simp only [List.length_nil] at b1
   rcases Classical.em (i < list.length) with h1 | h1
   ·rw [List.drop_eq_getElem_cons h1,List.all_cons] at hg
    simp -implicitDefEqProofs only [go_sem,h1]
    refine atCall [] (c_impl_isForm list[i]) ?_ ?_ <;> simp -implicitDefEqProofs only [go_sem]
    cases h2:isForm list[i]
    ·rw [h2,Bool.false_and] at hg
     rw [if_neg (fun hh=>by rw [hh.2.1] at hg; cases hg)] at e
     simp -implicitDefEqProofs only [go_sem]
     refine fin1' ?_
     simp -implicitDefEqProofs only [go_sem]
     rw [e]
     exact ⟨rfl,rfl⟩
    ·rw [h2,Bool.true_and] at hg
     have hs:=isForm_shape h2
     simp -implicitDefEqProofs only [go_sem]
     refine atOwn [] [0,2] (c_impl_withAtoms list[i] 5 (withAtomss [] (list.take i)) hs.1 (by omega)) ?_ ?_ <;> simp -implicitDefEqProofs only [go_sem]
     repeat (with_reducible apply And.intro; case left=>omega)
     refine ⟨i + 1,?_,?_,weakS [some 2] ?_ ?_ rfl rfl⟩
     rotate_left
     ·show _ < _
      omega
     ·simp -implicitDefEqProofs only [go_sem]
     ·simp -implicitDefEqProofs only [go_sem]
      all_goals (simp only [withAtomss_snoc h1])
     refine ⟨by omega,hg,fun f hf=>?_⟩
     rw [take_snoc h1] at hf
     rcases List.mem_append.1 hf with hf | hf
     ·exact hp f hf
     ·simp only [List.mem_cons,List.not_mem_nil,or_false] at hf
      rw [hf]; exact h2
   ·have et:list.take i = list:=List.take_of_length_le (by omega)
    rw [List.drop_of_length_le (by omega),List.all_nil] at hg
    rw [et] at b1
    rcases Classical.em ((6:Int) < ((withAtomss [] list).length:Int)) with h3 | h3
    ·rw [if_neg (fun hh=>by have:=hh.2.2; omega)] at e
     simp -implicitDefEqProofs only [go_sem,h1,et,h3]
     refine fin1' ?_
     simp -implicitDefEqProofs only [go_sem]
     rw [e]
     exact ⟨rfl,rfl⟩
    ·rw [if_pos ⟨h0',hg,by omega⟩] at e
     simp -implicitDefEqProofs only [go_sem,h1,et,h3]
     refine fin1' ?_
     simp -implicitDefEqProofs only [go_sem]
     rw [e]
     exact ⟨rfl,rfl⟩
theorem c_impl_FormsOk (s:Sig) (list:List Mod.Form):C E.P 71 [av (cSig s),lv (rowsForm list)] [] (Eq2 (bv (formsOk s list)) []):=by
 have hLB:=LB_eq
 refine C_goS (nt:=23) (rs:=[.tmp 4]) hm Tryz.func71 rfl rfl rfl rfl rfl (fun hl he=>?_)
 simp -implicitDefEqProofs only [go_sem] at hl ⊢
 refine atCall [] (c_impl_formsAtoms list) ?_ ?_ <;> simp -implicitDefEqProofs only [go_sem]
 refine atCall [] (c_impl_SigOk s) ?_ ?_ <;> simp -implicitDefEqProofs only [go_sem]
 cases h1:sigOk s
 ·have e2:formsOk s list = false:=by unfold formsOk; split <;> simp [h1]
  simp -implicitDefEqProofs only [go_sem]
  with_reducible refine ind_andM (by kernel_rfl) ?_
  refine fin1' ?_
  simp -implicitDefEqProofs only [go_sem]
  all_goals (simp [e2]; done)
 ·cases h2:formsAtoms list with
  | none=>
    have e2:formsOk s list = false:=by unfold formsOk; rw [h2]
    simp -implicitDefEqProofs only [go_sem,Option.isSome_none,Option.getD_none]
    with_reducible refine ind_andM (by kernel_rfl) ?_
    refine fin1' ?_
    simp -implicitDefEqProofs only [go_sem]
    all_goals (simp [e2]; done)
  | some xs=>
    have e2:formsOk s list = bothOk s (plain xs):=by unfold formsOk; rw [h2,h1]; rfl
    have hlen:xs.length ≤ 6:=by
     have e:=formsAtoms_eq list
     rw [h2] at e
     rcases Classical.em (list.length ≤ 5 ∧ list.all isForm = true ∧ (withAtomss [] list).length ≤ 6) with hc | hc
     ·rw [if_pos hc] at e
      rw [Option.some.inj e]; exact hc.2.2
     ·rw [if_neg hc] at e; cases e
    simp -implicitDefEqProofs only [go_sem,Option.isSome_some,Option.getD_some]
    refine atCall [] (c_impl_plain xs (by omega)) ?_ ?_ <;> simp -implicitDefEqProofs only [go_sem]
    refine atCall [] (c_impl_BothOk s (plain xs)) ?_ ?_ <;> simp -implicitDefEqProofs only [go_sem]
    with_reducible refine ind_andM (by kernel_rfl) ?_
    refine fin1' ?_
    simp -implicitDefEqProofs only [go_sem]
    all_goals (simp [e2]; done)
end Go.Proofs.YtpidddienjoleaaGreat
