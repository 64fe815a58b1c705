/-
  The reference: the walks of clauses of papers, and of logs. A step towards the exact laws.
-/
import Derived.Test.YtkkbmikoifnnbaaGreatKBo
import Derived.Test.YtkkbmikoifnnbaaGreatKBEa
set_option linter.unusedVariables false
set_option linter.unusedSimpArgs false
namespace Go.Proofs.YtkkbmikoifnnbaaGreat
open Go.Eng Go.Mod
open Int renaming reduceEq → Z1,reduceLT → Z2,reduceLE → Z3,reduceToNat → Z4
set_option maxRecDepth 100000
set_option maxHeartbeats 400000
theorem c_spec_CnfOf (list:List Mod.Form):C E.P 9 [lv (rowsForm list)] [] (Eq2 (.agg [iv (cnfOf list).many,.acc 0]) [some (.acc 43 (rowsII (cnfOf list).list))]):=by
 have hLB:=LB_eq
 refine C_goS (nt:=39) (rs:=[.cell 2 29]) hm Tryz.func9 rfl rfl rfl rfl rfl (fun hl he=>?_)
 simp -implicitDefEqProofs only [go_sem,Z1,Z2,Z3,Z4] at hl ⊢
 refine atCall [] (c_spec_l10Forms list) ?_ ?_ <;> simp -implicitDefEqProofs only [go_sem,Z1,Z2,Z3,Z4]
 try (with_reducible refine ind_andM (by kernel_rfl) ?_)
 cases h:formsAtoms list with
 | none=>
   have e:=cnfOf_none h
   rw [e]
   try simp -implicitDefEqProofs only [go_sem,Z1,Z2,Z3,Z4,Option.isSome_none]
   try (with_reducible refine ind_andM (by kernel_rfl) ?_)
   refine finM' [none] ?_ rfl rfl
   simp -implicitDefEqProofs only [go_sem,Z1,Z2,Z3,Z4]
   exact ⟨rfl,rfl⟩
 | some atoms=>
   obtain ⟨p1,p2,p3,p4⟩:=formsAtoms_parts h
   have e:=cnfOf_some h
   rw [e]
   try simp -implicitDefEqProofs only [go_sem,Z1,Z2,Z3,Z4,Option.isSome_some]
   try (with_reducible refine ind_andM (by kernel_rfl) ?_)
   refine atCall [] (c_spec_l10Told list p2 p1) ?_ ?_ <;> simp -implicitDefEqProofs only [go_sem,Z1,Z2,Z3,Z4]
   try (with_reducible refine ind_andM (by kernel_rfl) ?_)
   rw [← p4]
   repeat (first | with_reducible refine ind_andM (by kernel_rfl) ?_ | (with_reducible apply And.intro; case left=>first | omega | assumption | exact ⟨rowsT_all _,by omega⟩ | exact ⟨rowsI_all _,by omega⟩ | exact ⟨rowsLit_all _,by omega⟩ | exact ⟨rowsLin_all _,by omega⟩ | exact ⟨rowsEq_all _,by omega⟩ | rfl | (simp [*]; done) | (simp; omega) | exact ⟨rowsRat_all _,by omega⟩ | exact ⟨rowsAtom_all _,by omega⟩ | exact ⟨rowsB_all _,by omega⟩ | exact ⟨rowsForm_all _,by omega⟩ | exact ⟨rowsII_all _,by omega⟩))
   refine loop_go2 hm (fun (i:Nat) (c:Mod.Cnf)=> i ≤ list.length ∧ (atoms.length:Int) ≤ c.many ∧ c.many ≤ 6 + 31 * i ∧ c.list.length ≤ 125 * i ∧ cnfGo atoms list ⟨atoms.length,[]⟩ = cnfGo atoms (list.drop i) c) (fun (i:Nat) (c:Mod.Cnf)=> ⟨mkS 39 .any [(0,lv (rowsForm list)),(2,.ptr 0 0),(3,lv (rowsAtom atoms)),(4,.ptr 2 0),(5,iv i)],[some (.box [iv 0,.nilS]),some (.acc 43 (rowsII c.list)),some (.box [iv c.many,.acc 1])]⟩) (fun (i:Nat) (c:Mod.Cnf)=> list.length - i) (0) (⟨atoms.length,[]⟩) ?_ (weakS [some 0,some 1,some 2] ?_ ?_ rfl rfl) ?_
   rotate_left
   ·simp -implicitDefEqProofs only [go_sem,Z1,Z2,Z3,Z4]
    all_goals (first | done | (simp [wks_rfl, *]; done) | (simp [wks_rfl]; done) | (simp; omega) | skip)
   ·simp -implicitDefEqProofs only [go_sem,Z1,Z2,Z3,Z4]
    all_goals (first | done | (simp [wks_rfl, *]; done) | (simp [wks_rfl]; done) | (simp; omega) | skip)
   rotate_left
   ·exact ⟨by omega,by simp only; omega,by simp only; omega,by simp,rfl⟩
   ·rintro i c ⟨hi,b1,b2,b3,hg⟩
    rcases Classical.em (i < list.length) with h1 | h1
    ·obtain ⟨q0,q1,q2,q3,q4,q5,q6,q7,q8⟩:=form_step h h1 b1 b2 b3
     rw [cnfGo_drop h1] at hg
     have cf:=c_spec_l10Form atoms (by omega) list[i] 5 c q3 q4 b1 (by omega) (by omega)
     have ca:=c_spec_l10Add (formC atoms list[i] c).1 [(formC atoms list[i] c).2] (by simp) (by omega)
     simp only [rowsI_cons,rowsI_nil] at ca
     try simp -implicitDefEqProofs only [go_sem,Z1,Z2,Z3,Z4,h1]
     try (with_reducible refine ind_andM (by kernel_rfl) ?_)
     refine atOwn [] [1,3] cf ?_ ?_ <;> simp -implicitDefEqProofs only [go_sem,Z1,Z2,Z3,Z4,h1]
     try (with_reducible refine ind_andM (by kernel_rfl) ?_)
     refine atOwn [] [3,5] ca ?_ ?_ <;> simp -implicitDefEqProofs only [go_sem,Z1,Z2,Z3,Z4]
     try (with_reducible refine ind_andM (by kernel_rfl) ?_)
     repeat (first | with_reducible refine ind_andM (by kernel_rfl) ?_ | (with_reducible apply And.intro; case left=>first | omega | assumption | exact ⟨rowsT_all _,by omega⟩ | exact ⟨rowsI_all _,by omega⟩ | exact ⟨rowsLit_all _,by omega⟩ | exact ⟨rowsLin_all _,by omega⟩ | exact ⟨rowsEq_all _,by omega⟩ | rfl | (simp [*]; done) | (simp; omega) | exact ⟨rowsRat_all _,by omega⟩ | exact ⟨rowsAtom_all _,by omega⟩ | exact ⟨rowsB_all _,by omega⟩ | exact ⟨rowsForm_all _,by omega⟩ | exact ⟨rowsII_all _,by omega⟩))
     refine ⟨i + 1,addC (formC atoms list[i] c).1 [(formC atoms list[i] c).2],?_,?_,weakS [some 0,some 5,some 2] ?_ ?_ rfl rfl⟩
     rotate_left
     ·show _ < _
      omega
     ·simp -implicitDefEqProofs only [go_sem,Z1,Z2,Z3,Z4]
      all_goals (first | done | (simp [wks_rfl, *]; done) | (simp [wks_rfl]; done) | (simp; omega) | skip)
     ·simp -implicitDefEqProofs only [go_sem,Z1,Z2,Z3,Z4]
      all_goals (first | done | (simp [wks_rfl, *]; done) | (simp [wks_rfl]; done) | (simp; omega) | skip)
     exact ⟨by omega,q6,q7,q8,hg⟩
    ·rw [List.drop_of_length_le (by omega),cnfGo] at hg
     rw [hg]
     try simp -implicitDefEqProofs only [go_sem,Z1,Z2,Z3,Z4,h1]
     try (with_reducible refine ind_andM (by kernel_rfl) ?_)
     refine finM' [some 1] ?_ rfl rfl
     simp -implicitDefEqProofs only [go_sem,Z1,Z2,Z3,Z4]
end Go.Proofs.YtkkbmikoifnnbaaGreat
