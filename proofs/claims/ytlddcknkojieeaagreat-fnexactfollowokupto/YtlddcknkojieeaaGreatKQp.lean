/-
  The reference: the walks of clauses of papers, and of logs. A step towards the exact laws. The reference: the walks of papers. A step towards the exact laws.
-/
import Derived.Test.YtlddcknkojieeaaGreatKQo
import Derived.Test.YtlddcknkojieeaaGreatKQEa
set_option linter.unusedVariables false
set_option linter.unusedSimpArgs false
namespace Go.Proofs.YtlddcknkojieeaaGreat
open Go.Eng Go.Mod
open Int renaming reduceEq → Z1,reduceLT → Z2,reduceLE → Z3,reduceToNat → Z4
set_option maxRecDepth 100000
set_option maxHeartbeats 400000
theorem c_spec_CnfOf (list:List Mod.Form):C E.P 59 [lv (rowsForm list)] [] (Eq2 (.agg [iv (cnfOf list).many,.acc 0]) [some (.acc 51 (rowsII (cnfOf list).list))]):=by
 have hLB:=LB_eq
 refine C_goS (nt:=39) (rs:=[.cell 2 87]) hm Tryz.func59 rfl rfl rfl rfl rfl (fun hl he=>?_)
 simp -implicitDefEqProofs only [go_sem] at hl ⊢
 refine atCall [] (c_spec_l10Forms list) ?_ ?_ <;> simp -implicitDefEqProofs only [go_sem]
 cases h:formsAtoms list with
 | none=>
   have e:=cnfOf_none h
   rw [e]
   simp -implicitDefEqProofs only [go_sem,Option.isSome_none]
   refine finM' [none] ?_ rfl rfl
   simp -implicitDefEqProofs only [go_sem]
   exact ⟨rfl,rfl⟩
 | some atoms=>
   obtain ⟨p1,p2,p3,p4⟩:=formsAtoms_parts h
   have e:=cnfOf_some h
   rw [e]
   simp -implicitDefEqProofs only [go_sem,Option.isSome_some]
   refine atCall [] (c_spec_l10Told list p2 p1) ?_ ?_ <;> simp -implicitDefEqProofs only [go_sem]
   rw [← p4]
   refine loop_go2 hm (fun (i:Nat) (c:Mod.Cnf)=> i ≤ list.length ∧ (atoms.length:Int) ≤ c.many ∧ c.many ≤ 6 + 31 * i ∧ c.list.length ≤ 125 * i ∧ cnfGo atoms list ⟨atoms.length,[]⟩ = cnfGo atoms (list.drop i) c) (fun (i:Nat) (c:Mod.Cnf)=> ⟨mkS 39 .any [(0,lv (rowsForm list)),(2,.ptr 0 0),(3,lv (rowsAtom atoms)),(4,.ptr 2 0),(5,iv i)],[some (.box [iv 0,.nilS]),some (.acc 51 (rowsII c.list)),some (.box [iv c.many,.acc 1])]⟩) (fun (i:Nat) (c:Mod.Cnf)=> list.length - i) (0) (⟨atoms.length,[]⟩) ?_ (weakS [some 0,some 1,some 2] ?_ ?_ rfl rfl) ?_
   rotate_left
   ·simp -implicitDefEqProofs only [go_sem]
   ·simp -implicitDefEqProofs only [go_sem]
   rotate_left
   ·exact ⟨by omega,by simp only; omega,by simp only; omega,by simp,rfl⟩
   ·rintro i c ⟨hi,b1,b2,b3,hg⟩
    rcases Classical.em (i < list.length) with h1 | h1
    ·obtain ⟨q0,q1,q2,q3,q4,q5,q6,q7,q8⟩:=form_step h h1 b1 b2 b3
     rw [cnfGo_drop h1] at hg
     have cf:=c_spec_l10Form atoms (by omega) list[i] 5 c q3 q4 b1 (by omega) (by omega)
     have ca:=c_spec_l10Add (formC atoms list[i] c).1 [(formC atoms list[i] c).2] (by simp) (by omega)
     simp only [rowsI_cons,rowsI_nil] at ca
     simp -implicitDefEqProofs only [go_sem,h1]
     refine atOwn [] [1,3] cf ?_ ?_ <;> simp -implicitDefEqProofs only [go_sem]
     with_reducible refine ind_andM (by kernel_rfl) ?_
     refine atOwn [] [3,5] ca ?_ ?_ <;> simp -implicitDefEqProofs only [go_sem]
     repeat (with_reducible apply And.intro; case left=>omega)
     refine ⟨i + 1,addC (formC atoms list[i] c).1 [(formC atoms list[i] c).2],?_,?_,weakS [some 0,some 5,some 2] ?_ ?_ rfl rfl⟩
     rotate_left
     ·show _ < _
      omega
     ·simp -implicitDefEqProofs only [go_sem]
     ·simp -implicitDefEqProofs only [go_sem]
     exact ⟨by omega,q6,q7,q8,hg⟩
    ·rw [List.drop_of_length_le (by omega),cnfGo] at hg
     rw [hg]
     simp -implicitDefEqProofs only [go_sem,h1]
     refine finM' [some 1] ?_ rfl rfl
     simp -implicitDefEqProofs only [go_sem]
theorem c_spec_l12Cnf (c:Mod.Cnf) (ls:List Mod.Lemma) (hl9:ls.length ≤ 64) (hc9:c.list.length ≤ 80000) (hb9:∀ l ∈ ls,l.marks.length ≤ 100 ∧ ∀ x ∈ l.marks,-1000000 ≤ x ∧ x ≤ 1000000):C E.P 58 [.agg [iv c.many,.acc 0],lv (rowsLemma ls)] [some (.acc 51 (rowsII c.list))] (Eq2 (.agg [iv (lemsGo c ls).many,.acc 1]) [some .dead,some (.acc 51 (rowsII (lemsGo c ls).list))]):=by
 have hLB:=LB_eq
 refine C_goS (nt:=21) (rs:=[.cell 4 87]) hm Tryz.func58 rfl rfl rfl rfl rfl (fun hl he=>?_)
 simp -implicitDefEqProofs only [go_sem] at hl ⊢
 refine loop_go2 hm (fun (i:Nat) (b:Mod.Cnf)=> i ≤ ls.length ∧ b.list.length ≤ 80000 + i ∧ lemsGo c ls = lemsGo b (ls.drop i)) (fun (i:Nat) (b:Mod.Cnf)=> ⟨mkS 21 .any [(1,lv (rowsLemma ls)),(2,.ptr 1 0),(4,.ptr 2 0),(5,iv i)],[some .dead,some (.box [iv b.many,.acc 3]),some (.box [iv 0,.nilS]),some (.acc 51 (rowsII b.list))]⟩) (fun (i:Nat) (b:Mod.Cnf)=> ls.length - i) (0) (c) ?_ (weakS [some 0,some 1,some 2,some 0] ?_ ?_ rfl rfl) ?_
 rotate_left
 ·simp -implicitDefEqProofs only [go_sem]
 ·simp -implicitDefEqProofs only [go_sem]
 rotate_left
 ·exact ⟨by omega,by omega,rfl⟩
 ·rintro i b ⟨hi,b1,hg⟩
  rcases Classical.em (i < ls.length) with h1 | h1
  ·obtain ⟨q1,q2⟩:=hb9 ls[i] (List.getElem_mem h1)
   have a1:=addC_len b (ls[i].marks.map fun m=>-m)
   rw [lemsGo_drop h1] at hg
   simp -implicitDefEqProofs only [go_sem,h1]
   refine atCall [] (c_spec_l10Nots ls[i].marks (by omega) q2) ?_ ?_ <;> simp -implicitDefEqProofs only [go_sem]
   refine atOwn [] [3,4] (c_spec_l10Add b (ls[i].marks.map fun m=>-m) (by rw [List.length_map]; omega) (by omega)) ?_ ?_ <;> simp -implicitDefEqProofs only [go_sem]
   with_reducible refine ind_andM (by kernel_rfl) ?_
   repeat (with_reducible apply And.intro; case left=>omega)
   refine ⟨i + 1,addC b (ls[i].marks.map fun m=>-m),?_,?_,weakS [some 0,some 1,some 2,some 4] ?_ ?_ rfl rfl⟩
   rotate_left
   ·show _ < _
    omega
   ·simp -implicitDefEqProofs only [go_sem]
   ·simp -implicitDefEqProofs only [go_sem]
   exact ⟨by omega,by omega,hg⟩
  ·rw [List.drop_of_length_le (by omega),lemsGo] at hg
   rw [hg]
   simp -implicitDefEqProofs only [go_sem,h1]
   refine finM' [some 0,some 3] ?_ rfl rfl
   simp -implicitDefEqProofs only [go_sem]
theorem c_spec_PaperCnf (list:List Mod.Form) (p:Mod.Paper):C E.P 27 [lv (rowsForm list),av (cPaper p)] [] (Eq2 (av (cCnf (paperCnf list p))) []):=by
 have hLB:=LB_eq
 refine C_goS (nt:=42) (rs:=[.cell 4 87]) hm Tryz.func27 rfl rfl rfl rfl rfl (fun hl he=>?_)
 simp -implicitDefEqProofs only [go_sem] at hl ⊢
 refine atCall [] (c_spec_l10Forms list) ?_ ?_ <;> simp -implicitDefEqProofs only [go_sem]
 cases h:formsAtoms list with
 | none=>
   rw [paperCnf_none h]
   simp -implicitDefEqProofs only [go_sem,Option.isSome_none]
   refine fin1' ?_
   simp -implicitDefEqProofs only [go_sem]
   exact ⟨rfl,rfl⟩
 | some atoms=>
   obtain ⟨p1,p2,p3,p4⟩:=formsAtoms_parts h
   rw [paperCnf_some h]
   simp -implicitDefEqProofs only [go_sem,Option.isSome_some]
   rcases Classical.em ((64:Int) < (p.lemmas.length:Int)) with h2 | h2
   ·have h2':¬ p.lemmas.length ≤ 64:=by omega
    rw [decide_eq_false h2',Bool.false_and,if_neg (by simp)]
    simp -implicitDefEqProofs only [go_sem,h2]
    refine fin1' ?_
    simp -implicitDefEqProofs only [go_sem]
    exact ⟨rfl,rfl⟩
   ·have h2':p.lemmas.length ≤ 64:=by omega
    rw [decide_eq_true h2',Bool.true_and]
    simp -implicitDefEqProofs only [go_sem,h2]
    refine atCall [] (c_spec_l10Told list p2 p1) ?_ ?_ <;> simp -implicitDefEqProofs only [go_sem]
    rw [← p4]
    refine loop_go1 hm (fun (i:Nat)=> i ≤ p.lemmas.length ∧ (∀ l ∈ p.lemmas.take i,isSelection l.marks atoms.length = true) ∧ p.lemmas.all (fun l=>isSelection l.marks atoms.length) = (p.lemmas.drop i).all (fun l=>isSelection l.marks atoms.length)) (fun (i:Nat)=> ⟨mkS 42 .any [(0,lv (rowsForm list)),(3,.ptr 0 0),(4,.ptr 1 0),(5,iv atoms.length),(6,iv i)],[some (.box (pvs (cPaper p))),some (.box [iv 0,.nilS])]⟩) (fun (i:Nat)=> p.lemmas.length - i) (0) ?_ (weakS [some 0,some 1] ?_ ?_ rfl rfl) ?_
    rotate_left
    ·simp -implicitDefEqProofs only [go_sem]
    ·simp -implicitDefEqProofs only [go_sem]
    rotate_left
    ·exact ⟨by omega,by simp,by simp⟩
    ·rintro i ⟨hi,ht,hg⟩
     rcases Classical.em (i < p.lemmas.length) with h1 | h1
     ·rw [List.drop_eq_getElem_cons h1,List.all_cons] at hg
      simp -implicitDefEqProofs only [go_sem,h1]
      refine atCall [] (c_spec_l10Right p.lemmas[i].marks atoms.length (by omega)) ?_ ?_ <;> simp -implicitDefEqProofs only [go_sem]
      cases h3:isSelection p.lemmas[i].marks atoms.length
      ·rw [h3,Bool.false_and] at hg
       rw [hg,if_neg (by simp)]
       simp -implicitDefEqProofs only [go_sem]
       refine fin1' ?_
       simp -implicitDefEqProofs only [go_sem]
       exact ⟨rfl,rfl⟩
      ·rw [h3,Bool.true_and] at hg
       simp -implicitDefEqProofs only [go_sem]
       repeat (with_reducible apply And.intro; case left=>omega)
       refine ⟨i + 1,?_,?_,weakS [some 0,some 1] ?_ ?_ rfl rfl⟩
       rotate_left
       ·show _ < _
        omega
       ·simp -implicitDefEqProofs only [go_sem]
       ·simp -implicitDefEqProofs only [go_sem]
       refine ⟨by omega,fun l hl=>?_,hg⟩
       rw [List.take_add_one,List.getElem?_eq_getElem h1] at hl
       simp only [Option.toList_some,List.mem_append,List.mem_singleton] at hl
       rcases hl with hl | hl
       ·exact ht l hl
       ·rw [hl]; exact h3
     ·rw [List.drop_of_length_le (by omega),List.all_nil] at hg
      rw [hg,if_pos rfl]
      have hall:∀ l ∈ p.lemmas,isSelection l.marks atoms.length = true:=by
       intro l hl
       exact List.all_eq_true.1 hg l hl
      have hlen:=cnfOf_len list
      simp -implicitDefEqProofs only [go_sem,h1]
      refine atOwn [] [2] (c_spec_CnfOf list) ?_ ?_ <;> simp -implicitDefEqProofs only [go_sem]
      refine atOwn [] [2,3] (c_spec_l12Cnf (cnfOf list) p.lemmas h2' (by omega) (fun l hl=>⟨by have:=sel_len6 (hall l hl) p3; omega,fun x hx=>by have:=isSelection_mem (hall l hl) x hx; omega⟩)) ?_ ?_ <;> simp -implicitDefEqProofs only [go_sem]
      with_reducible refine ind_andM (by kernel_rfl) ?_
      refine fin1' ?_
      simp -implicitDefEqProofs only [go_sem]
theorem c_spec_LogOk (c:Mod.Cnf) (log:List (List Int)):C E.P 26 [av (cCnf c),lv (rowsII log)] [] (Eq2 (bv (logOk c log)) []):=by
 have hLB:=LB_eq
 refine C_goS (nt:=53) (rs:=[.tmp 4]) hm Tryz.func26 rfl rfl rfl rfl rfl (fun hl he=>?_)
 simp -implicitDefEqProofs only [go_sem] at hl ⊢
 refine atCall [] (c_spec_CnfOk c) ?_ ?_ <;> simp -implicitDefEqProofs only [go_sem]
 cases h1:cnfOk c
 ·simp -implicitDefEqProofs only [go_sem]
  refine fin1' ?_
  simp -implicitDefEqProofs only [go_sem]
  all_goals (simp [logOk,h1]; done)
 ·have hcm:=cnfOk_mem h1
  rcases Classical.em ((130:Int) < (log.length:Int)) with h2 | h2
  ·have h2':¬ log.length ≤ 130:=by omega
   simp -implicitDefEqProofs only [go_sem,h2]
   refine fin1' ?_
   simp -implicitDefEqProofs only [go_sem]
   all_goals (simp [logOk,h2']; done)
  ·rcases Classical.em ((400:Int) < (c.list.length:Int) + (log.length:Int)) with h3 | h3
   ·have h3':¬ c.list.length + log.length ≤ 400:=by omega
    simp -implicitDefEqProofs only [go_sem,h2]
    repeat (with_reducible apply And.intro; case left=>omega)
    simp -implicitDefEqProofs only [go_sem,h3]
    refine fin1' ?_
    simp -implicitDefEqProofs only [go_sem]
    all_goals (simp [logOk,h3']; done)
   ·have h2':log.length ≤ 130:=by omega
    have h3':c.list.length + log.length ≤ 400:=by omega
    have e:logOk c log = logGo c.many c.list log:=by simp [logOk,h1,h2',h3']
    simp -implicitDefEqProofs only [go_sem,h2]
    repeat (with_reducible apply And.intro; case left=>omega)
    simp -implicitDefEqProofs only [go_sem,h3]
    repeat (first | with_reducible refine ind_andM (by kernel_rfl) ?_ | (with_reducible apply And.intro; case left=>exact ⟨rowsII_all _,by omega⟩))
    refine loop_go1 hm (fun (i:Nat)=> i ≤ log.length ∧ logGo c.many c.list log = logGo c.many (c.list ++ log.take i) (log.drop i)) (fun (i:Nat)=> ⟨mkS 53 .any [(1,lv (rowsII log)),(5,.ptr 0 0),(6,iv i)],[some (.box [iv c.many,.acc 1]),some (.acc 51 (rowsII (c.list ++ log.take i)))]⟩) (fun (i:Nat)=> log.length - i) (0) ?_ (weakS [some 3,some 2] ?_ ?_ rfl rfl) ?_
    rotate_left
    ·simp -implicitDefEqProofs only [go_sem]
    ·simp -implicitDefEqProofs only [go_sem]
    rotate_left
    ·simp
    ·rintro i ⟨hi,hg⟩
     rcases Classical.em (i < log.length) with h4 | h4
     ·rw [logGo_drop h4] at hg
      simp -implicitDefEqProofs only [go_sem,h4]
      refine atLook [] [0,1] (c_spec_CnfRup ⟨c.many,c.list ++ log.take i⟩ log[i]) rfl ?_ ?_ ?_
      ·(simp -implicitDefEqProofs only [go_sem]; repeat' (first | exact Vws.nil | apply Vws.cons | exact Vw.same (by first | rfl | simp -implicitDefEqProofs only [go_sem,Z1,Z2,Z3,Z4]) | exact Vw.acc rfl rfl | exact Vw.nil | apply Vw.agg | apply Vw.fn | refine Vw.box rfl rfl ?_))
      all_goals simp -implicitDefEqProofs only [go_sem]
      with_reducible refine ind_andM (by kernel_rfl) ?_
      cases h5:cnfRup ⟨c.many,c.list ++ log.take i⟩ log[i]
      ·rw [h5,Bool.false_and] at hg
       simp -implicitDefEqProofs only [go_sem]
       refine fin1' ?_
       simp -implicitDefEqProofs only [go_sem]
       all_goals (simp [e,hg]; done)
      ·rw [h5,Bool.true_and] at hg
       simp -implicitDefEqProofs only [go_sem,h4]
       repeat (first | with_reducible refine ind_andM (by kernel_rfl) ?_ | (with_reducible apply And.intro; case left=>first | omega | (simp; omega)))
       refine ⟨i + 1,?_,?_,weakS [some 0,some 2] ?_ ?_ rfl rfl⟩
       rotate_left
       ·show _ < _
        omega
       ·simp -implicitDefEqProofs only [go_sem]
       ·simp -implicitDefEqProofs only [go_sem]
        all_goals ((rw [take_snoc h4,← List.append_assoc,← rowsII_app (c.list ++ log.take i) [log[i]]]; rfl))
       exact ⟨by omega,hg⟩
     ·rw [logGo_end (by omega)] at hg
      simp -implicitDefEqProofs only [go_sem,h4]
      refine fin1' ?_
      simp -implicitDefEqProofs only [go_sem]
      all_goals (simp [e,hg]; done)
theorem c_spec_LogEnds (log:List (List Int)):C E.P 28 [lv (rowsII log)] [] (Eq2 (bv (logEnds log)) []):=by
 rw [logEnds_eq]
 have hLB:=LB_eq
 refine C_goS (nt:=16) (rs:=[.tmp 2]) hm Tryz.func28 rfl rfl rfl rfl rfl (fun hl he=>?_)
 simp -implicitDefEqProofs only [go_sem] at hl ⊢
 rcases Classical.em ((0:Int) < (log.length:Int)) with h1 | h1
 ·have h1':0 < log.length:=by omega
  have q1:((log.length:Int) - 1) = ((log.length - 1:Nat):Int):=by omega
  have q2:log.length - 1 < log.length:=by omega
  have q3:log.getD (log.length - 1) [] = log[log.length - 1]:=by simp [List.getD,q2]
  rw [q3]
  simp -implicitDefEqProofs only [go_sem,h1,q1,q2]
  repeat (with_reducible apply And.intro; case left=>omega)
  refine fin1' ?_
  simp -implicitDefEqProofs only [go_sem]
  all_goals (simp [h1']; done)
 ·have h1':¬ 0 < log.length:=by omega
  simp -implicitDefEqProofs only [go_sem,h1]
  refine fin1' ?_
  simp -implicitDefEqProofs only [go_sem]
  all_goals (simp [h1']; done)
end Go.Proofs.YtlddcknkojieeaaGreat
namespace Go.Proofs.YtlddcknkojieeaaGreat
open Go.Eng Go.Mod
open Int renaming reduceEq → Z1,reduceLT → Z2,reduceLE → Z3,reduceToNat → Z4
set_option maxRecDepth 100000
set_option maxHeartbeats 400000
theorem c_spec_PaperOk (s:Sig) (list:List Mod.Form) (p:Mod.Paper):C E.P 8 [av (cSig s),lv (rowsForm list),av (cPaper p)] [] (Eq2 (bv (paperOk s list p)) []):=by
 have hLB:=LB_eq
 refine C_goS (nt:=45) (rs:=[.tmp 6]) hm Tryz.func8 rfl rfl rfl rfl rfl (fun hl he=>?_)
 simp -implicitDefEqProofs only [go_sem] at hl ⊢
 refine atCall [] (c_spec_FormsOk s list) ?_ ?_ <;> simp -implicitDefEqProofs only [go_sem]
 cases h1:formsOk s list
 ·simp -implicitDefEqProofs only [go_sem]
  refine fin1' ?_
  simp -implicitDefEqProofs only [go_sem]
  all_goals (simp [paperOk,h1]; done)
 ·rcases Classical.em ((64:Int) < (p.lemmas.length:Int)) with h2 | h2
  ·have h2':¬ p.lemmas.length ≤ 64:=by omega
   simp -implicitDefEqProofs only [go_sem,h2]
   refine fin1' ?_
   simp -implicitDefEqProofs only [go_sem]
   all_goals (simp [paperOk,h2']; done)
  ·have h2':p.lemmas.length ≤ 64:=by omega
   have e:paperOk s list p = (p.lemmas.all (lemmaOk s list) && (logOk (paperCnf list p) p.log && logEnds p.log)):=by simp [paperOk,h1,h2']
   simp -implicitDefEqProofs only [go_sem,h2]
   refine loop_go1 hm (fun (i:Nat)=> i ≤ p.lemmas.length ∧ p.lemmas.all (lemmaOk s list) = (p.lemmas.drop i).all (lemmaOk s list)) (fun (i:Nat)=> ⟨mkS 45 .any [(1,lv (rowsForm list)),(3,.ptr 0 0),(5,.ptr 1 0),(7,iv i)],[some (.box (pvs (cSig s))),some (.box (pvs (cPaper p)))]⟩) (fun (i:Nat)=> p.lemmas.length - i) (0) ?_ (weakS [some 0,some 1] ?_ ?_ rfl rfl) ?_
   rotate_left
   ·simp -implicitDefEqProofs only [go_sem]
   ·simp -implicitDefEqProofs only [go_sem]
   rotate_left
   ·simp
   ·rintro i ⟨hi,hg⟩
    rcases Classical.em (i < p.lemmas.length) with h3 | h3
    ·rw [List.drop_eq_getElem_cons h3,List.all_cons] at hg
     simp -implicitDefEqProofs only [go_sem,h3]
     refine atCall [] (c_spec_LemmaOk s list p.lemmas[i]) ?_ ?_ <;> simp -implicitDefEqProofs only [go_sem]
     with_reducible refine ind_andM (by kernel_rfl) ?_
     cases h4:lemmaOk s list p.lemmas[i]
     ·rw [h4,Bool.false_and] at hg
      simp -implicitDefEqProofs only [go_sem]
      refine fin1' ?_
      simp -implicitDefEqProofs only [go_sem]
      all_goals (simp [e,hg]; done)
     ·rw [h4,Bool.true_and] at hg
      simp -implicitDefEqProofs only [go_sem]
      repeat (with_reducible apply And.intro; case left=>omega)
      refine ⟨i + 1,?_,?_,weakS [some 0,some 1] ?_ ?_ rfl rfl⟩
      rotate_left
      ·show _ < _
       omega
      ·simp -implicitDefEqProofs only [go_sem]
      ·simp -implicitDefEqProofs only [go_sem]
      exact ⟨by omega,hg⟩
    ·rw [List.drop_of_length_le (by omega),List.all_nil] at hg
     simp -implicitDefEqProofs only [go_sem,h3]
     refine atCall [] (c_spec_PaperCnf list p) ?_ ?_ <;> simp -implicitDefEqProofs only [go_sem]
     refine atCall [] (c_spec_LogOk (paperCnf list p) p.log) ?_ ?_ <;> simp -implicitDefEqProofs only [go_sem]
     cases h4:logOk (paperCnf list p) p.log
     ·simp -implicitDefEqProofs only [go_sem]
      with_reducible refine ind_andM (by kernel_rfl) ?_
      refine fin1' ?_
      simp -implicitDefEqProofs only [go_sem]
      all_goals (simp [e,hg,h4]; done)
     ·simp -implicitDefEqProofs only [go_sem]
      refine atCall [] (c_spec_LogEnds p.log) ?_ ?_ <;> simp -implicitDefEqProofs only [go_sem]
      with_reducible refine ind_andM (by kernel_rfl) ?_
      refine fin1' ?_
      simp -implicitDefEqProofs only [go_sem]
      all_goals (simp [e,hg,h4]; done)
theorem c_spec_l13Not (f:Mod.Form):C E.P 41 [av (cForm f)] [] (Eq2 (av (cForm (noForm f))) []):=by
 have hLB:=LB_eq
 refine C_goS (nt:=6) (rs:=[.cell 2 68]) hm Tryz.func41 rfl rfl rfl rfl rfl (fun hl he=>?_)
 simp -implicitDefEqProofs only [go_sem] at hl ⊢
 refine fin1' ?_
 simp -implicitDefEqProofs only [go_sem]
 refine ⟨rfl,rfl,rfl,rfl,rfl,rfl,rfl,rfl,rfl,rfl,rfl,?_⟩
 cases f; rfl
theorem c_spec_FollowOk (s:Sig) (list:List Mod.Form) (f:Mod.Form) (p:Mod.Paper) (hlen:list.length ≤ 2000000):C E.P 17 [av (cSig s),lv (rowsForm list),av (cForm f),av (cPaper p)] [] (Eq2 (bv (followOk s list f p)) []):=by
 have hc:=c_spec_PaperOk s (list ++ [noForm f]) p
 have e:rowsForm (list ++ [noForm f]) = rowsForm list ++ [cForm (noForm f)]:=by rw [← rowsForm_app]; rfl
 rw [e] at hc
 have hLB:=LB_eq
 refine C_goS (nt:=19) (rs:=[.tmp 8]) hm Tryz.func17 rfl rfl rfl rfl rfl (fun hl he=>?_)
 simp -implicitDefEqProofs only [go_sem] at hl ⊢
 repeat (with_reducible apply And.intro; case left=>exact ⟨rowsForm_all _,by omega⟩)
 refine atCall [] (c_spec_l13Not f) ?_ ?_ <;> simp -implicitDefEqProofs only [go_sem]
 repeat (with_reducible apply And.intro; case left=>omega)
 refine atLook [] [5] hc rfl ?_ ?_ ?_
 ·(simp -implicitDefEqProofs only [go_sem]; repeat' (first | exact Vws.nil | apply Vws.cons | exact Vw.same (by first | rfl | simp -implicitDefEqProofs only [go_sem,Z1,Z2,Z3,Z4]) | exact Vw.acc rfl rfl | exact Vw.nil | apply Vw.agg | apply Vw.fn | refine Vw.box rfl rfl ?_))
 all_goals simp -implicitDefEqProofs only [go_sem]
 with_reducible refine ind_andM (by kernel_rfl) ?_
 refine fin1' ?_
 simp -implicitDefEqProofs only [go_sem]
 all_goals (simp [followOk]; done)
end Go.Proofs.YtlddcknkojieeaaGreat
