/-
  The program: the walks of logs. A step towards the exact laws.
-/
import Derived.Test.YtlddcknkojieeaaGreatKPm
set_option linter.unusedVariables false
set_option linter.unusedSimpArgs false
namespace Go.Proofs.YtlddcknkojieeaaGreat
open Go.Eng Go.Mod
open Int renaming reduceEq → Z1,reduceLT → Z2,reduceLE → Z3,reduceToNat → Z4
set_option maxRecDepth 100000
set_option maxHeartbeats 400000
def rowsIII (xs:List (List (List Int))):List (List D):=xs.map fun x=>[.lst (rowsII x)]
theorem rowsIII_len (xs:List (List (List Int))):(rowsIII xs).length = xs.length:=by simp [rowsIII]
theorem rowsIII_row {xs:List (List (List Int))} {i:Nat} (h:i < xs.length):row (rowsIII xs) i = [.lst (rowsII xs[i])]:=by simp [rowsIII,row,List.getD,List.getElem?_eq_getElem h]
attribute [go_sem] rowsIII_len rowsIII_row
theorem flat_take (xs:List (List (List Int))) (i:Nat):(xs.take i).flatten.length ≤ xs.flatten.length:=by
 have e:xs.flatten = (xs.take i).flatten ++ (xs.drop i).flatten:=by rw [← List.flatten_append,List.take_append_drop]
 rw [e,List.length_append]
 omega
theorem flat_snoc {xs:List (List (List Int))} {i:Nat} (h:i < xs.length):(xs.take (i + 1)).flatten = (xs.take i).flatten ++ xs[i]:=by
 rw [take_snoc h,List.flatten_append]
 simp
theorem c_Concat (xs:List (List (List Int))) (hl9:xs.flatten.length ≤ 1000):C E.P 71 [lv (rowsIII xs)] [] (Eq2 (lv (rowsII xs.flatten)) []):=by
 have hLB:=LB_eq
 refine C_goS (nt:=36) (rs:=[.tmp 2]) hm Tryz.func71 rfl rfl rfl rfl rfl (fun hl he=>?_)
 simp -implicitDefEqProofs only [go_sem] at hl ⊢
 refine loop_go2 hm (fun (i:Nat) (n:Int)=> i ≤ xs.length ∧ n = ((xs.take i).flatten.length:Int)) (fun (i:Nat) (n:Int)=> ⟨mkS 36 .any [(0,lv (rowsIII xs)),(3,iv n),(9,lv (rowsIII xs)),(10,iv xs.length),(11,iv i)],[]⟩) (fun (i:Nat) (n:Int)=> xs.length - i) (0) (0) ?_ (weakS [] ?_ ?_ rfl rfl) ?_
 rotate_left
 ·simp -implicitDefEqProofs only [go_sem]
 ·simp -implicitDefEqProofs only [go_sem]
 rotate_left
 ·simp
 ·rintro i n ⟨hi,hn⟩
  have h2:=flat_take xs i
  rcases Classical.em (i < xs.length) with h1 | h1
  ·have h3:=flat_take xs (i + 1)
   have h4:=congrArg List.length (flat_snoc h1)
   rw [List.length_append] at h4
   have h5:¬ n + (xs[i].length:Int) < 0:=by omega
   simp -implicitDefEqProofs only [go_sem,h1]
   repeat (with_reducible apply And.intro; case left=>omega)
   simp -implicitDefEqProofs only [go_sem,h5]
   repeat (with_reducible apply And.intro; case left=>omega)
   refine ⟨i + 1,n + (xs[i].length:Int),?_,?_,weakS [] ?_ ?_ rfl rfl⟩
   rotate_left
   ·show _ < _
    omega
   ·simp -implicitDefEqProofs only [go_sem]
   ·simp -implicitDefEqProofs only [go_sem]
   exact ⟨h1,by omega⟩
  ·have et:xs.take i = xs:=List.take_of_length_le (by omega)
   rw [et] at hn
   subst hn
   simp -implicitDefEqProofs only [go_sem,h1]
   refine atOwn [] [0] (c_Grow xs.flatten.length hl9) ?_ ?_ <;> simp -implicitDefEqProofs only [go_sem]
   refine loop_go1 hm (fun (k:Nat)=> k ≤ xs.length) (fun (k:Nat)=> ⟨mkS 36 .any [(6,.acc 0),(25,lv (rowsIII xs)),(26,iv xs.length),(27,iv k)],[some (.acc 51 (rowsII (xs.take k).flatten))]⟩) (fun (k:Nat)=> xs.length - k) (0) ?_ (weakS [some 0] ?_ ?_ rfl rfl) ?_
   rotate_left
   ·simp -implicitDefEqProofs only [go_sem]
   ·simp -implicitDefEqProofs only [go_sem]
    all_goals (rfl)
   rotate_left
   ·omega
   ·rintro k hk
    have h6:=flat_take xs k
    rcases Classical.em (k < xs.length) with h7 | h7
    ·have h3:=flat_take xs (k + 1)
     have h4:=congrArg List.length (flat_snoc h7)
     rw [List.length_append] at h4
     simp -implicitDefEqProofs only [go_sem,h7]
     repeat (with_reducible apply And.intro; case left=>first | omega | exact ⟨rowsII_all _,by omega⟩)
     refine ⟨k + 1,?_,?_,weakS [some 1] ?_ ?_ rfl rfl⟩
     rotate_left
     ·show _ < _
      omega
     ·simp -implicitDefEqProofs only [go_sem]
     ·simp -implicitDefEqProofs only [go_sem]
      all_goals ((rw [flat_snoc h7,← rowsII_appI]))
     exact h7
    ·have et2:xs.take k = xs:=List.take_of_length_le (by omega)
     simp -implicitDefEqProofs only [go_sem,h7,et2]
     refine fin1' ?_
     simp -implicitDefEqProofs only [go_sem]
theorem c_impl_LogOk (c:Mod.Cnf) (log:List (List Int)):C E.P 34 [av (cCnf c),lv (rowsII log)] [] (Eq2 (bv (logOk c log)) []):=by
 have hLB:=LB_eq
 refine C_goS (nt:=55) (rs:=[.tmp 4]) hm Tryz.func34 rfl rfl rfl rfl rfl (fun hl he=>?_)
 simp -implicitDefEqProofs only [go_sem] at hl ⊢
 refine atCall [] (c_impl_CnfOk c) ?_ ?_ <;> simp -implicitDefEqProofs only [go_sem]
 cases h1:cnfOk c
 ·simp -implicitDefEqProofs only [go_sem]
  refine fin1' ?_
  simp -implicitDefEqProofs only [go_sem]
  all_goals (simp [logOk,h1]; done)
 ·have hcm:=cnfOk_mem h1
  rcases Classical.em ((130:Int) < (log.length:Int)) with h2 | h2
  ·have h2':¬ log.length ≤ 130:=by omega
   simp -implicitDefEqProofs only [go_sem,h2]
   refine fin1' ?_
   simp -implicitDefEqProofs only [go_sem]
   all_goals (simp [logOk,h2']; done)
  ·rcases Classical.em ((400:Int) < (log.length:Int) + (c.list.length:Int)) with h3 | h3
   ·have h3':¬ c.list.length + log.length ≤ 400:=by omega
    simp -implicitDefEqProofs only [go_sem,h2]
    repeat (with_reducible apply And.intro; case left=>omega)
    simp -implicitDefEqProofs only [go_sem,h3]
    refine fin1' ?_
    simp -implicitDefEqProofs only [go_sem]
    all_goals (simp [logOk,h3']; done)
   ·have h2':log.length ≤ 130:=by omega
    have h3':c.list.length + log.length ≤ 400:=by omega
    have e:logOk c log = logGo c.many c.list log:=by simp [logOk,h1,h2',h3']
    have hc:=c_Concat [c.list,log] (by simp; omega)
    simp only [rowsIII,List.map_cons,List.map_nil,List.flatten_cons,List.flatten_nil,List.append_nil] at hc
    simp -implicitDefEqProofs only [go_sem,h2]
    repeat (with_reducible apply And.intro; case left=>omega)
    simp -implicitDefEqProofs only [go_sem,h3]
    refine atCall [] hc ?_ ?_ <;> simp -implicitDefEqProofs only [go_sem]
    with_reducible refine ind_andM (by kernel_rfl) ?_
    refine loop_go1 hm (fun (i:Nat)=> i ≤ log.length ∧ logGo c.many c.list log = logGo c.many (c.list ++ log.take i) (log.drop i)) (fun (i:Nat)=> ⟨mkS 55 .any [(2,.ptr 0 0),(5,.ptr 1 0),(33,lv (rowsII log)),(34,iv log.length),(35,iv i)],[some (.box (pvs (cCnf c))),some (.box (pvs (cCnf ⟨c.many,c.list ++ log⟩)))]⟩) (fun (i:Nat)=> log.length - i) (0) ?_ (weakS [some 0,some 1] ?_ ?_ rfl rfl) ?_
    rotate_left
    ·simp -implicitDefEqProofs only [go_sem]
    ·simp -implicitDefEqProofs only [go_sem]
    rotate_left
    ·simp
    ·rintro i ⟨hi,hg⟩
     rcases Classical.em (i < log.length) with h4 | h4
     ·rw [logGo_drop h4] at hg
      have q:((c.list.length:Int) + (i:Int)).toNat = c.list.length + i:=by omega
      have ht:(c.list ++ log).take (c.list.length + i) = c.list ++ log.take i:=by rw [List.take_append,List.take_of_length_le (by omega)]; simp
      simp -implicitDefEqProofs only [go_sem,h4]
      repeat (with_reducible apply And.intro; case left=>omega)
      simp -implicitDefEqProofs only [go_sem,q]
      refine And.intro ⟨by omega,by rw [List.length_append]; omega,rowsII_all _⟩ ?_
      simp -implicitDefEqProofs only [go_sem,Nat.sub_zero,List.drop_zero,rowsII_take,ht]
      refine atCall [] (c_impl_CnfRup ⟨c.many,c.list ++ log.take i⟩ log[i]) ?_ ?_ <;> simp -implicitDefEqProofs only [go_sem]
      with_reducible refine ind_andM (by kernel_rfl) ?_
      cases h5:cnfRup ⟨c.many,c.list ++ log.take i⟩ log[i]
      ·rw [h5,Bool.false_and] at hg
       simp -implicitDefEqProofs only [go_sem]
       refine fin1' ?_
       simp -implicitDefEqProofs only [go_sem]
       all_goals (simp [e,hg]; done)
      ·rw [h5,Bool.true_and] at hg
       simp -implicitDefEqProofs only [go_sem]
       repeat (with_reducible apply And.intro; case left=>omega)
       refine ⟨i + 1,?_,?_,weakS [some 0,some 1] ?_ ?_ rfl rfl⟩
       rotate_left
       ·show _ < _
        omega
       ·simp -implicitDefEqProofs only [go_sem]
       ·simp -implicitDefEqProofs only [go_sem]
       exact ⟨by omega,hg⟩
     ·rw [logGo_end (by omega)] at hg
      simp -implicitDefEqProofs only [go_sem,h4]
      refine fin1' ?_
      simp -implicitDefEqProofs only [go_sem]
      all_goals (simp [e,hg]; done)
theorem c_impl_LogEnds (log:List (List Int)):C E.P 36 [lv (rowsII log)] [] (Eq2 (bv (logEnds log)) []):=by
 rw [logEnds_eq]
 have hLB:=LB_eq
 refine C_goS (nt:=16) (rs:=[.tmp 2]) hm Tryz.func36 rfl rfl rfl rfl rfl (fun hl he=>?_)
 simp -implicitDefEqProofs only [go_sem] at hl ⊢
 rcases Classical.em ((0:Int) < (log.length:Int)) with h1 | h1
 ·have h1':0 < log.length:=by omega
  have q1:((log.length:Int) - 1) = ((log.length - 1:Nat):Int):=by omega
  have q2:log.length - 1 < log.length:=by omega
  have q3:log.getD (log.length - 1) [] = log[log.length - 1]:=by simp [List.getD,q2]
  rw [q3]
  simp -implicitDefEqProofs only [go_sem,h1,q1,q2]
  repeat (with_reducible apply And.intro; case left=>omega)
  refine fin1' ?_
  simp -implicitDefEqProofs only [go_sem]
  all_goals (simp [h1']; done)
 ·have h1':¬ 0 < log.length:=by omega
  simp -implicitDefEqProofs only [go_sem,h1]
  refine fin1' ?_
  simp -implicitDefEqProofs only [go_sem]
  all_goals (simp [h1']; done)
theorem c_impl_PaperCnf (list:List Mod.Form) (atoms:List Atom) (h:formsAtoms list = some atoms) (p:Mod.Paper) (hl9:p.lemmas.length ≤ 64) (hs9:∀ l ∈ p.lemmas,isSelection l.marks atoms.length = true ∧ l.marks ≠ []):C E.P 35 [lv (rowsForm list),av (cPaper p)] [] (Eq2 (av (cCnf (paperCnf list p))) []):=by
 have e:paperCnf list p = lemsGo (cnfOf list) p.lemmas:=by
  rw [paperCnf_some h,decide_eq_true hl9,Bool.true_and,if_pos (List.all_eq_true.2 fun l hl=>(hs9 l hl).1)]
 rw [e]
 have hLB:=LB_eq
 refine C_goS (nt:=15) (rs:=[.cell 4 87]) hm Tryz.func35 rfl rfl rfl rfl rfl (fun hl he=>?_)
 simp -implicitDefEqProofs only [go_sem] at hl ⊢
 refine atCall [] (c_impl_paperCnf list atoms h p.lemmas hl9 hs9) ?_ ?_ <;> simp -implicitDefEqProofs only [go_sem]
 refine fin1' ?_
 simp -implicitDefEqProofs only [go_sem]
theorem lemmaOk_parts {s:Sig} {list:List Mod.Form} {l:Mod.Lemma} {atoms:List Atom} (h:formsAtoms list = some atoms) (hk:lemmaOk s list l = true):isSelection l.marks atoms.length = true ∧ l.marks ≠ []:=by
 unfold lemmaOk at hk
 rw [h] at hk
 simp only [Bool.and_eq_true,decide_eq_true_eq] at hk
 refine ⟨?_,fun e=>?_⟩
 ·exact hk.2.2.1
 ·have:=hk.2.1
  rw [e] at this
  simp at this
theorem c_impl_PaperOk (s:Sig) (list:List Mod.Form) (p:Mod.Paper):C E.P 12 [av (cSig s),lv (rowsForm list),av (cPaper p)] [] (Eq2 (bv (paperOk s list p)) []):=by
 have hLB:=LB_eq
 refine C_goS (nt:=43) (rs:=[.tmp 6]) hm Tryz.func12 rfl rfl rfl rfl rfl (fun hl he=>?_)
 simp -implicitDefEqProofs only [go_sem] at hl ⊢
 refine atCall [] (c_impl_FormsOk s list) ?_ ?_ <;> simp -implicitDefEqProofs only [go_sem]
 cases h1:formsOk s list
 ·simp -implicitDefEqProofs only [go_sem]
  refine fin1' ?_
  simp -implicitDefEqProofs only [go_sem]
  all_goals (simp [paperOk,h1]; done)
 ·obtain ⟨f1,f2⟩:=formsOk_someI h1
  rcases Classical.em ((64:Int) < (p.lemmas.length:Int)) with h2 | h2
  ·have h2':¬ p.lemmas.length ≤ 64:=by omega
   simp -implicitDefEqProofs only [go_sem,h2]
   refine fin1' ?_
   simp -implicitDefEqProofs only [go_sem]
   all_goals (simp [paperOk,h2']; done)
  ·have h2':p.lemmas.length ≤ 64:=by omega
   have e:paperOk s list p = (p.lemmas.all (lemmaOk s list) && (logOk (paperCnf list p) p.log && logEnds p.log)):=by simp [paperOk,h1,h2']
   simp -implicitDefEqProofs only [go_sem,h2]
   refine loop_go1 hm (fun (i:Nat)=> i ≤ p.lemmas.length ∧ (∀ l ∈ p.lemmas.take i,lemmaOk s list l = true) ∧ p.lemmas.all (lemmaOk s list) = (p.lemmas.drop i).all (lemmaOk s list)) (fun (i:Nat)=> ⟨mkS 43 .any [(1,lv (rowsForm list)),(3,.ptr 0 0),(5,.ptr 1 0),(20,lv (rowsLemma p.lemmas)),(21,iv p.lemmas.length),(22,iv i)],[some (.box (pvs (cSig s))),some (.box (pvs (cPaper p)))]⟩) (fun (i:Nat)=> p.lemmas.length - i) (0) ?_ (weakS [some 0,some 1] ?_ ?_ rfl rfl) ?_
   rotate_left
   ·simp -implicitDefEqProofs only [go_sem]
   ·simp -implicitDefEqProofs only [go_sem]
   rotate_left
   ·simp
   ·rintro i ⟨hi,ht,hg⟩
    rcases Classical.em (i < p.lemmas.length) with h3 | h3
    ·rw [List.drop_eq_getElem_cons h3,List.all_cons] at hg
     simp -implicitDefEqProofs only [go_sem,h3]
     refine atCall [] (c_impl_LemmaOk s list p.lemmas[i]) ?_ ?_ <;> simp -implicitDefEqProofs only [go_sem]
     cases h4:lemmaOk s list p.lemmas[i]
     ·rw [h4,Bool.false_and] at hg
      simp -implicitDefEqProofs only [go_sem]
      refine fin1' ?_
      simp -implicitDefEqProofs only [go_sem]
      all_goals (simp [e,hg]; done)
     ·rw [h4,Bool.true_and] at hg
      simp -implicitDefEqProofs only [go_sem]
      repeat (with_reducible apply And.intro; case left=>omega)
      refine ⟨i + 1,?_,?_,weakS [some 0,some 1] ?_ ?_ rfl rfl⟩
      rotate_left
      ·show _ < _
       omega
      ·simp -implicitDefEqProofs only [go_sem]
      ·simp -implicitDefEqProofs only [go_sem]
      refine ⟨by omega,fun l hl=>?_,hg⟩
      rw [take_snoc h3] at hl
      rcases List.mem_append.1 hl with hl | hl
      ·exact ht l hl
      ·rw [List.mem_singleton.1 hl]; exact h4
    ·rw [List.drop_of_length_le (by omega),List.all_nil] at hg
     rw [List.take_of_length_le (by omega)] at ht
     simp -implicitDefEqProofs only [go_sem,h3]
     refine atCall [] (c_impl_PaperCnf list (withAtomss [] list) f2 p h2' (fun l hl=>lemmaOk_parts f2 (ht l hl))) ?_ ?_ <;> simp -implicitDefEqProofs only [go_sem]
     refine atCall [] (c_impl_LogOk (paperCnf list p) p.log) ?_ ?_ <;> simp -implicitDefEqProofs only [go_sem]
     cases h4:logOk (paperCnf list p) p.log
     ·simp -implicitDefEqProofs only [go_sem]
      with_reducible refine ind_andM (by kernel_rfl) ?_
      refine fin1' ?_
      simp -implicitDefEqProofs only [go_sem]
      all_goals (simp [e,hg,h4]; done)
     ·simp -implicitDefEqProofs only [go_sem]
      refine atCall [] (c_impl_LogEnds p.log) ?_ ?_ <;> simp -implicitDefEqProofs only [go_sem]
      with_reducible refine ind_andM (by kernel_rfl) ?_
      refine fin1' ?_
      simp -implicitDefEqProofs only [go_sem]
      all_goals (simp [e,hg,h4]; done)
end Go.Proofs.YtlddcknkojieeaaGreat
