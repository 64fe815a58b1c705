/-
  The reference: the walks of clauses of papers, and of logs. A step towards the exact laws.
-/
import Derived.Test.YtgeogofjlhjcmaaGreatKRo
import Derived.Test.YtgeogofjlhjcmaaGreatKREa
set_option linter.unusedVariables false
set_option linter.unusedSimpArgs false
namespace Go.Proofs.YtgeogofjlhjcmaaGreat
open Go.Eng Go.Mod
open Int renaming reduceEq → Z1,reduceLT → Z2,reduceLE → Z3,reduceToNat → Z4
set_option maxRecDepth 100000
set_option maxHeartbeats 400000
theorem c_spec_CnfOf (list:List Mod.Form):C E.P 57 [lv (rowsForm list)] [] (Eq2 (.agg [iv (cnfOf list).many,.acc 0]) [some (.acc 44 (rowsII (cnfOf list).list))]):=by
 have hLB:=LB_eq
 refine C_goS (nt:=39) (rs:=[.cell 2 75]) hm Tryz.func57 rfl rfl rfl rfl rfl (fun hl he=>?_)
 simp -implicitDefEqProofs only [go_sem,Z1,Z2,Z3,Z4] at hl ⊢
 refine atCall [] (c_spec_l10Forms list) ?_ ?_ <;> simp -implicitDefEqProofs only [go_sem,Z1,Z2,Z3,Z4]
 try (with_reducible refine ind_andM (by kernel_rfl) ?_)
 cases h:formsAtoms list with
 | none=>
   have e:=cnfOf_none h
   rw [e]
   try simp -implicitDefEqProofs only [go_sem,Z1,Z2,Z3,Z4,Option.isSome_none]
   try (with_reducible refine ind_andM (by kernel_rfl) ?_)
   refine finM' [none] ?_ rfl rfl
   simp -implicitDefEqProofs only [go_sem,Z1,Z2,Z3,Z4]
   exact ⟨rfl,rfl⟩
 | some atoms=>
   obtain ⟨p1,p2,p3,p4⟩:=formsAtoms_parts h
   have e:=cnfOf_some h
   rw [e]
   try simp -implicitDefEqProofs only [go_sem,Z1,Z2,Z3,Z4,Option.isSome_some]
   try (with_reducible refine ind_andM (by kernel_rfl) ?_)
   refine atCall [] (c_spec_l10Told list p2 p1) ?_ ?_ <;> simp -implicitDefEqProofs only [go_sem,Z1,Z2,Z3,Z4]
   try (with_reducible refine ind_andM (by kernel_rfl) ?_)
   rw [← p4]
   repeat (first | with_reducible refine ind_andM (by kernel_rfl) ?_ | (with_reducible apply And.intro; case left=>first | omega | assumption | exact ⟨rowsT_all _,by omega⟩ | exact ⟨rowsI_all _,by omega⟩ | exact ⟨rowsLit_all _,by omega⟩ | exact ⟨rowsLin_all _,by omega⟩ | exact ⟨rowsEq_all _,by omega⟩ | rfl | (simp [*]; done) | (simp; omega) | exact ⟨rowsRat_all _,by omega⟩ | exact ⟨rowsAtom_all _,by omega⟩ | exact ⟨rowsB_all _,by omega⟩ | exact ⟨rowsForm_all _,by omega⟩ | exact ⟨rowsII_all _,by omega⟩))
   refine loop_go2 hm (fun (i:Nat) (c:Mod.Cnf)=> i ≤ list.length ∧ (atoms.length:Int) ≤ c.many ∧ c.many ≤ 6 + 31 * i ∧ c.list.length ≤ 125 * i ∧ cnfGo atoms list ⟨atoms.length,[]⟩ = cnfGo atoms (list.drop i) c) (fun (i:Nat) (c:Mod.Cnf)=> ⟨mkS 39 .any [(0,lv (rowsForm list)),(2,.ptr 0 0),(3,lv (rowsAtom atoms)),(4,.ptr 2 0),(5,iv i)],[some (.box [iv 0,.nilS]),some (.acc 44 (rowsII c.list)),some (.box [iv c.many,.acc 1])]⟩) (fun (i:Nat) (c:Mod.Cnf)=> list.length - i) (0) (⟨atoms.length,[]⟩) ?_ (weakS [some 0,some 1,some 2] ?_ ?_ rfl rfl) ?_
   rotate_left
   ·simp -implicitDefEqProofs only [go_sem,Z1,Z2,Z3,Z4]
    all_goals (first | done | (simp [wks_rfl, *]; done) | (simp [wks_rfl]; done) | (simp; omega) | skip)
   ·simp -implicitDefEqProofs only [go_sem,Z1,Z2,Z3,Z4]
    all_goals (first | done | (simp [wks_rfl, *]; done) | (simp [wks_rfl]; done) | (simp; omega) | skip)
   rotate_left
   ·exact ⟨by omega,by simp only; omega,by simp only; omega,by simp,rfl⟩
   ·rintro i c ⟨hi,b1,b2,b3,hg⟩
    rcases Classical.em (i < list.length) with h1 | h1
    ·obtain ⟨q0,q1,q2,q3,q4,q5,q6,q7,q8⟩:=form_step h h1 b1 b2 b3
     rw [cnfGo_drop h1] at hg
     have cf:=c_spec_l10Form atoms (by omega) list[i] 5 c q3 q4 b1 (by omega) (by omega)
     have ca:=c_spec_l10Add (formC atoms list[i] c).1 [(formC atoms list[i] c).2] (by simp) (by omega)
     simp only [rowsI_cons,rowsI_nil] at ca
     try simp -implicitDefEqProofs only [go_sem,Z1,Z2,Z3,Z4,h1]
     try (with_reducible refine ind_andM (by kernel_rfl) ?_)
     refine atOwn [] [1,3] cf ?_ ?_ <;> simp -implicitDefEqProofs only [go_sem,Z1,Z2,Z3,Z4,h1]
     try (with_reducible refine ind_andM (by kernel_rfl) ?_)
     refine atOwn [] [3,5] ca ?_ ?_ <;> simp -implicitDefEqProofs only [go_sem,Z1,Z2,Z3,Z4]
     try (with_reducible refine ind_andM (by kernel_rfl) ?_)
     repeat (first | with_reducible refine ind_andM (by kernel_rfl) ?_ | (with_reducible apply And.intro; case left=>first | omega | assumption | exact ⟨rowsT_all _,by omega⟩ | exact ⟨rowsI_all _,by omega⟩ | exact ⟨rowsLit_all _,by omega⟩ | exact ⟨rowsLin_all _,by omega⟩ | exact ⟨rowsEq_all _,by omega⟩ | rfl | (simp [*]; done) | (simp; omega) | exact ⟨rowsRat_all _,by omega⟩ | exact ⟨rowsAtom_all _,by omega⟩ | exact ⟨rowsB_all _,by omega⟩ | exact ⟨rowsForm_all _,by omega⟩ | exact ⟨rowsII_all _,by omega⟩))
     refine ⟨i + 1,addC (formC atoms list[i] c).1 [(formC atoms list[i] c).2],?_,?_,weakS [some 0,some 5,some 2] ?_ ?_ rfl rfl⟩
     rotate_left
     ·show _ < _
      omega
     ·simp -implicitDefEqProofs only [go_sem,Z1,Z2,Z3,Z4]
      all_goals (first | done | (simp [wks_rfl, *]; done) | (simp [wks_rfl]; done) | (simp; omega) | skip)
     ·simp -implicitDefEqProofs only [go_sem,Z1,Z2,Z3,Z4]
      all_goals (first | done | (simp [wks_rfl, *]; done) | (simp [wks_rfl]; done) | (simp; omega) | skip)
     exact ⟨by omega,q6,q7,q8,hg⟩
    ·rw [List.drop_of_length_le (by omega),cnfGo] at hg
     rw [hg]
     try simp -implicitDefEqProofs only [go_sem,Z1,Z2,Z3,Z4,h1]
     try (with_reducible refine ind_andM (by kernel_rfl) ?_)
     refine finM' [some 1] ?_ rfl rfl
     simp -implicitDefEqProofs only [go_sem,Z1,Z2,Z3,Z4]
theorem c_spec_l12Cnf (c:Mod.Cnf) (ls:List Mod.Lemma) (hl9:ls.length ≤ 64) (hc9:c.list.length ≤ 80000) (hb9:∀ l ∈ ls,l.marks.length ≤ 100 ∧ ∀ x ∈ l.marks,-1000000 ≤ x ∧ x ≤ 1000000):C E.P 56 [.agg [iv c.many,.acc 0],lv (rowsLemma ls)] [some (.acc 44 (rowsII c.list))] (Eq2 (.agg [iv (lemsGo c ls).many,.acc 1]) [some .dead,some (.acc 44 (rowsII (lemsGo c ls).list))]):=by
 have hLB:=LB_eq
 refine C_goS (nt:=21) (rs:=[.cell 4 75]) hm Tryz.func56 rfl rfl rfl rfl rfl (fun hl he=>?_)
 simp -implicitDefEqProofs only [go_sem,Z1,Z2,Z3,Z4] at hl ⊢
 refine loop_go2 hm (fun (i:Nat) (b:Mod.Cnf)=> i ≤ ls.length ∧ b.list.length ≤ 80000 + i ∧ lemsGo c ls = lemsGo b (ls.drop i)) (fun (i:Nat) (b:Mod.Cnf)=> ⟨mkS 21 .any [(1,lv (rowsLemma ls)),(2,.ptr 1 0),(4,.ptr 2 0),(5,iv i)],[some .dead,some (.box [iv b.many,.acc 3]),some (.box [iv 0,.nilS]),some (.acc 44 (rowsII b.list))]⟩) (fun (i:Nat) (b:Mod.Cnf)=> ls.length - i) (0) (c) ?_ (weakS [some 0,some 1,some 2,some 0] ?_ ?_ rfl rfl) ?_
 rotate_left
 ·simp -implicitDefEqProofs only [go_sem,Z1,Z2,Z3,Z4]
  all_goals (first | done | (simp [wks_rfl, *]; done) | (simp [wks_rfl]; done) | (simp; omega) | skip)
 ·simp -implicitDefEqProofs only [go_sem,Z1,Z2,Z3,Z4]
  all_goals (first | done | (simp [wks_rfl, *]; done) | (simp [wks_rfl]; done) | (simp; omega) | skip)
 rotate_left
 ·exact ⟨by omega,by omega,rfl⟩
 ·rintro i b ⟨hi,b1,hg⟩
  rcases Classical.em (i < ls.length) with h1 | h1
  ·obtain ⟨q1,q2⟩:=hb9 ls[i] (List.getElem_mem h1)
   have a1:=addC_len b (ls[i].marks.map fun m=>-m)
   rw [lemsGo_drop h1] at hg
   try simp -implicitDefEqProofs only [go_sem,Z1,Z2,Z3,Z4,h1]
   try (with_reducible refine ind_andM (by kernel_rfl) ?_)
   refine atCall [] (c_spec_l10Nots ls[i].marks (by omega) q2) ?_ ?_ <;> simp -implicitDefEqProofs only [go_sem,Z1,Z2,Z3,Z4,h1]
   try (with_reducible refine ind_andM (by kernel_rfl) ?_)
   refine atOwn [] [3,4] (c_spec_l10Add b (ls[i].marks.map fun m=>-m) (by rw [List.length_map]; omega) (by omega)) ?_ ?_ <;> simp -implicitDefEqProofs only [go_sem,Z1,Z2,Z3,Z4]
   try (with_reducible refine ind_andM (by kernel_rfl) ?_)
   repeat (first | with_reducible refine ind_andM (by kernel_rfl) ?_ | (with_reducible apply And.intro; case left=>first | omega | assumption | exact ⟨rowsT_all _,by omega⟩ | exact ⟨rowsI_all _,by omega⟩ | exact ⟨rowsLit_all _,by omega⟩ | exact ⟨rowsLin_all _,by omega⟩ | exact ⟨rowsEq_all _,by omega⟩ | rfl | (simp [*]; done) | (simp; omega) | exact ⟨rowsRat_all _,by omega⟩ | exact ⟨rowsAtom_all _,by omega⟩ | exact ⟨rowsB_all _,by omega⟩ | exact ⟨rowsForm_all _,by omega⟩ | exact ⟨rowsII_all _,by omega⟩))
   refine ⟨i + 1,addC b (ls[i].marks.map fun m=>-m),?_,?_,weakS [some 0,some 1,some 2,some 4] ?_ ?_ rfl rfl⟩
   rotate_left
   ·show _ < _
    omega
   ·simp -implicitDefEqProofs only [go_sem,Z1,Z2,Z3,Z4]
    all_goals (first | done | (simp [wks_rfl, *]; done) | (simp [wks_rfl]; done) | (simp; omega) | skip)
   ·simp -implicitDefEqProofs only [go_sem,Z1,Z2,Z3,Z4]
    all_goals (first | done | (simp [wks_rfl, *]; done) | (simp [wks_rfl]; done) | (simp; omega) | skip)
   exact ⟨by omega,by omega,hg⟩
  ·rw [List.drop_of_length_le (by omega),lemsGo] at hg
   rw [hg]
   try simp -implicitDefEqProofs only [go_sem,Z1,Z2,Z3,Z4,h1]
   try (with_reducible refine ind_andM (by kernel_rfl) ?_)
   refine finM' [some 0,some 3] ?_ rfl rfl
   simp -implicitDefEqProofs only [go_sem,Z1,Z2,Z3,Z4]
theorem c_spec_PaperCnf (list:List Mod.Form) (p:Mod.Paper):C E.P 21 [lv (rowsForm list),av (cPaper p)] [] (Eq2 (av (cCnf (paperCnf list p))) []):=by
 have hLB:=LB_eq
 refine C_goS (nt:=42) (rs:=[.cell 4 75]) hm Tryz.func21 rfl rfl rfl rfl rfl (fun hl he=>?_)
 simp -implicitDefEqProofs only [go_sem,Z1,Z2,Z3,Z4] at hl ⊢
 refine atCall [] (c_spec_l10Forms list) ?_ ?_ <;> simp -implicitDefEqProofs only [go_sem,Z1,Z2,Z3,Z4]
 try (with_reducible refine ind_andM (by kernel_rfl) ?_)
 cases h:formsAtoms list with
 | none=>
   rw [paperCnf_none h]
   try simp -implicitDefEqProofs only [go_sem,Z1,Z2,Z3,Z4,Option.isSome_none]
   try (with_reducible refine ind_andM (by kernel_rfl) ?_)
   refine fin1' ?_
   simp -implicitDefEqProofs only [go_sem,Z1,Z2,Z3,Z4]
   exact ⟨rfl,rfl⟩
 | some atoms=>
   obtain ⟨p1,p2,p3,p4⟩:=formsAtoms_parts h
   rw [paperCnf_some h]
   try simp -implicitDefEqProofs only [go_sem,Z1,Z2,Z3,Z4,Option.isSome_some]
   try (with_reducible refine ind_andM (by kernel_rfl) ?_)
   rcases Classical.em ((64:Int) < (p.lemmas.length:Int)) with h2 | h2
   ·have h2':¬ p.lemmas.length ≤ 64:=by omega
    rw [decide_eq_false h2',Bool.false_and,if_neg (by simp)]
    try simp -implicitDefEqProofs only [go_sem,Z1,Z2,Z3,Z4,h2]
    try (with_reducible refine ind_andM (by kernel_rfl) ?_)
    refine fin1' ?_
    simp -implicitDefEqProofs only [go_sem,Z1,Z2,Z3,Z4]
    exact ⟨rfl,rfl⟩
   ·have h2':p.lemmas.length ≤ 64:=by omega
    rw [decide_eq_true h2',Bool.true_and]
    try simp -implicitDefEqProofs only [go_sem,Z1,Z2,Z3,Z4,h2]
    try (with_reducible refine ind_andM (by kernel_rfl) ?_)
    refine atCall [] (c_spec_l10Told list p2 p1) ?_ ?_ <;> simp -implicitDefEqProofs only [go_sem,Z1,Z2,Z3,Z4]
    try (with_reducible refine ind_andM (by kernel_rfl) ?_)
    rw [← p4]
    refine loop_go1 hm (fun (i:Nat)=> i ≤ p.lemmas.length ∧ (∀ l ∈ p.lemmas.take i,isSelection l.marks atoms.length = true) ∧ p.lemmas.all (fun l=>isSelection l.marks atoms.length) = (p.lemmas.drop i).all (fun l=>isSelection l.marks atoms.length)) (fun (i:Nat)=> ⟨mkS 42 .any [(0,lv (rowsForm list)),(3,.ptr 0 0),(4,.ptr 1 0),(5,iv atoms.length),(6,iv i)],[some (.box (pvs (cPaper p))),some (.box [iv 0,.nilS])]⟩) (fun (i:Nat)=> p.lemmas.length - i) (0) ?_ (weakS [some 0,some 1] ?_ ?_ rfl rfl) ?_
    rotate_left
    ·simp -implicitDefEqProofs only [go_sem,Z1,Z2,Z3,Z4]
     all_goals (first | done | (simp [wks_rfl, *]; done) | (simp [wks_rfl]; done) | (simp; omega) | skip)
    ·simp -implicitDefEqProofs only [go_sem,Z1,Z2,Z3,Z4]
     all_goals (first | done | (simp [wks_rfl, *]; done) | (simp [wks_rfl]; done) | (simp; omega) | skip)
    rotate_left
    ·exact ⟨by omega,by simp,by simp⟩
    ·rintro i ⟨hi,ht,hg⟩
     rcases Classical.em (i < p.lemmas.length) with h1 | h1
     ·rw [List.drop_eq_getElem_cons h1,List.all_cons] at hg
      try simp -implicitDefEqProofs only [go_sem,Z1,Z2,Z3,Z4,h1]
      try (with_reducible refine ind_andM (by kernel_rfl) ?_)
      refine atCall [] (c_spec_l10Right p.lemmas[i].marks atoms.length (by omega)) ?_ ?_ <;> simp -implicitDefEqProofs only [go_sem,Z1,Z2,Z3,Z4,h1]
      try (with_reducible refine ind_andM (by kernel_rfl) ?_)
      cases h3:isSelection p.lemmas[i].marks atoms.length
      ·rw [h3,Bool.false_and] at hg
       rw [hg,if_neg (by simp)]
       try simp -implicitDefEqProofs only [go_sem,Z1,Z2,Z3,Z4]
       try (with_reducible refine ind_andM (by kernel_rfl) ?_)
       refine fin1' ?_
       simp -implicitDefEqProofs only [go_sem,Z1,Z2,Z3,Z4]
       exact ⟨rfl,rfl⟩
      ·rw [h3,Bool.true_and] at hg
       try simp -implicitDefEqProofs only [go_sem,Z1,Z2,Z3,Z4]
       try (with_reducible refine ind_andM (by kernel_rfl) ?_)
       repeat (first | with_reducible refine ind_andM (by kernel_rfl) ?_ | (with_reducible apply And.intro; case left=>first | omega | assumption | exact ⟨rowsT_all _,by omega⟩ | exact ⟨rowsI_all _,by omega⟩ | exact ⟨rowsLit_all _,by omega⟩ | exact ⟨rowsLin_all _,by omega⟩ | exact ⟨rowsEq_all _,by omega⟩ | rfl | (simp [*]; done) | (simp; omega) | exact ⟨rowsRat_all _,by omega⟩ | exact ⟨rowsAtom_all _,by omega⟩ | exact ⟨rowsB_all _,by omega⟩ | exact ⟨rowsForm_all _,by omega⟩ | exact ⟨rowsII_all _,by omega⟩))
       refine ⟨i + 1,?_,?_,weakS [some 0,some 1] ?_ ?_ rfl rfl⟩
       rotate_left
       ·show _ < _
        omega
       ·simp -implicitDefEqProofs only [go_sem,Z1,Z2,Z3,Z4]
        all_goals (first | done | (simp [wks_rfl, *]; done) | (simp [wks_rfl]; done) | (simp; omega) | skip)
       ·simp -implicitDefEqProofs only [go_sem,Z1,Z2,Z3,Z4]
        all_goals (first | done | (simp [wks_rfl, *]; done) | (simp [wks_rfl]; done) | (simp; omega) | skip)
       refine ⟨by omega,fun l hl=>?_,hg⟩
       rw [List.take_add_one,List.getElem?_eq_getElem h1] at hl
       simp only [Option.toList_some,List.mem_append,List.mem_singleton] at hl
       rcases hl with hl | hl
       ·exact ht l hl
       ·rw [hl]; exact h3
     ·rw [List.drop_of_length_le (by omega),List.all_nil] at hg
      rw [hg,if_pos rfl]
      have hall:∀ l ∈ p.lemmas,isSelection l.marks atoms.length = true:=by
       intro l hl
       exact List.all_eq_true.1 hg l hl
      have hlen:=cnfOf_len list
      try simp -implicitDefEqProofs only [go_sem,Z1,Z2,Z3,Z4,h1]
      try (with_reducible refine ind_andM (by kernel_rfl) ?_)
      refine atOwn [] [2] (c_spec_CnfOf list) ?_ ?_ <;> simp -implicitDefEqProofs only [go_sem,Z1,Z2,Z3,Z4]
      try (with_reducible refine ind_andM (by kernel_rfl) ?_)
      refine atOwn [] [2,3] (c_spec_l12Cnf (cnfOf list) p.lemmas h2' (by omega) (fun l hl=>⟨by have:=sel_len6 (hall l hl) p3; omega,fun x hx=>by have:=isSelection_mem (hall l hl) x hx; omega⟩)) ?_ ?_ <;> simp -implicitDefEqProofs only [go_sem,Z1,Z2,Z3,Z4]
      try (with_reducible refine ind_andM (by kernel_rfl) ?_)
      refine fin1' ?_
      simp -implicitDefEqProofs only [go_sem,Z1,Z2,Z3,Z4]
end Go.Proofs.YtgeogofjlhjcmaaGreat
