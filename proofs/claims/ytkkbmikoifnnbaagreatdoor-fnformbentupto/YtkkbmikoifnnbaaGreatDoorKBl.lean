/-
  The program: the walks of clauses and of unit propagation. A step towards the exact laws. The program: the walks of sorting, and of what clauses are made of. A step towards the exact laws.
-/
import Derived.Test.YtkkbmikoifnnbaaGreatDoorKBi
import Derived.Test.YtkkbmikoifnnbaaGreatDoorKBEa
import Derived.Test.YtkkbmikoifnnbaaGreatDoorKBD
import Derived.Test.YtkkbmikoifnnbaaGreatDoorKBG
set_option linter.unusedVariables false
set_option linter.unusedSimpArgs false
namespace Go.Proofs.YtkkbmikoifnnbaaGreatDoor
open Go.Eng Go.Mod
open Int renaming reduceEq → Z1,reduceLT → Z2,reduceLE → Z3,reduceToNat → Z4
set_option maxRecDepth 100000
set_option maxHeartbeats 400000
theorem c_Clone_int_consO (r:List D) (rs:List (List D)) (hl1:rs.length ≤ 1000) (h1:∀ y ∈ r :: rs,y.length = 1):C E.P 104 [.d (.lst (r :: rs))] [] (Eq2 (.acc 0) [some (.acc 3 (r :: rs))]):=by
 have hLB:=LB_eq
 refine C_goS (nt:=8) (rs:=[.tmp 2]) hm Tryz.func104 rfl rfl rfl rfl rfl (fun hl he=>?_)
 simp -implicitDefEqProofs only [go_sem,Z1,Z2,Z3,Z4] at hl ⊢
 refine atNil 3 _ false rfl rfl (p:=.d (.lst (r :: rs))) (by simp -implicitDefEqProofs only [go_sem,Z1,Z2,Z3,Z4]) eqnil_lst ?_
 try simp -implicitDefEqProofs only [go_sem,Z1,Z2,Z3,Z4]
 try (with_reducible refine ind_andM (by kernel_rfl) ?_)
 refine And.intro ⟨?_,by omega,by omega⟩ ?_
 ·simpa using h1
 refine finM' [some 1] ?_ rfl rfl
 simp -implicitDefEqProofs only [go_sem,Z1,Z2,Z3,Z4]
end Go.Proofs.YtkkbmikoifnnbaaGreatDoor
namespace Go.Proofs.YtkkbmikoifnnbaaGreatDoor
open Go.Eng Go.Mod
open Int renaming reduceEq → Z1,reduceLT → Z2,reduceLE → Z3,reduceToNat → Z4
set_option maxRecDepth 100000
set_option maxHeartbeats 400000
theorem c_isNaN_int (a:Int):C E.P 161 [iv a] [] (Eq2 (bv false) []):=by
 have hLB:=LB_eq
 refine C_goS (nt:=6) (rs:=[.tmp 2]) hm Tryz.func161 rfl rfl rfl rfl rfl (fun hl he=>?_)
 simp -implicitDefEqProofs only [go_sem,Z1,Z2,Z3,Z4] at hl ⊢
 refine fin1' ?_
 simp -implicitDefEqProofs only [go_sem,Z1,Z2,Z3,Z4]
 all_goals (first | done | (simp; done) | (simp; omega) | skip)
theorem c_Compare_int (a b:Int):C E.P 138 [iv a,iv b] [] (Eq2 (iv (cmpA a b)) []):=by
 have hLB:=LB_eq
 refine C_goS (nt:=20) (rs:=[.tmp 4]) hm Tryz.func138 rfl rfl rfl rfl rfl (fun hl he=>?_)
 simp -implicitDefEqProofs only [go_sem,Z1,Z2,Z3,Z4] at hl ⊢
 refine atCall [] (c_isNaN_int a) ?_ ?_ <;> simp -implicitDefEqProofs only [go_sem,Z1,Z2,Z3,Z4]
 try (with_reducible refine ind_andM (by kernel_rfl) ?_)
 refine atCall [] (c_isNaN_int b) ?_ ?_ <;> simp -implicitDefEqProofs only [go_sem,Z1,Z2,Z3,Z4]
 try (with_reducible refine ind_andM (by kernel_rfl) ?_)
 rcases Classical.em (a < b) with h1 | h1
 ·try simp -implicitDefEqProofs only [go_sem,Z1,Z2,Z3,Z4,h1]
  try (with_reducible refine ind_andM (by kernel_rfl) ?_)
  refine fin1' ?_
  simp -implicitDefEqProofs only [go_sem,Z1,Z2,Z3,Z4]
  all_goals (first | done | (simp [cmpA,h1]; done) | (simp [cmpA,h1]; omega) | skip)
 ·rcases Classical.em (b < a) with h2 | h2
  ·try simp -implicitDefEqProofs only [go_sem,Z1,Z2,Z3,Z4,h1,h2]
   try (with_reducible refine ind_andM (by kernel_rfl) ?_)
   refine fin1' ?_
   simp -implicitDefEqProofs only [go_sem,Z1,Z2,Z3,Z4]
   all_goals (first | done | (simp [cmpA,h1,h2]; done) | (simp [cmpA,h1,h2]; omega) | skip)
  ·try simp -implicitDefEqProofs only [go_sem,Z1,Z2,Z3,Z4,h1,h2]
   try (with_reducible refine ind_andM (by kernel_rfl) ?_)
   refine fin1' ?_
   simp -implicitDefEqProofs only [go_sem,Z1,Z2,Z3,Z4]
   all_goals (first | done | (simp [cmpA,h1,h2]; done) | (simp [cmpA,h1,h2]; omega) | skip)
theorem c_impl_ClauseOf_1 (a b:Int) (ha:-60 ≤ a ∧ a ≤ 60) (hb:-60 ≤ b ∧ b ≤ 60):C E.P 137 [iv a,iv b] [] (Eq2 (iv (cmpA (a.natAbs:Int) (b.natAbs:Int))) []):=by
 have hLB:=LB_eq
 refine C_goS (nt:=10) (rs:=[.tmp 4]) hm Tryz.func137 rfl rfl rfl rfl rfl (fun hl he=>?_)
 simp -implicitDefEqProofs only [go_sem,Z1,Z2,Z3,Z4] at hl ⊢
 refine atCall [] (c_impl_variable a ha) ?_ ?_ <;> simp -implicitDefEqProofs only [go_sem,Z1,Z2,Z3,Z4]
 try (with_reducible refine ind_andM (by kernel_rfl) ?_)
 refine atCall [] (c_impl_variable b hb) ?_ ?_ <;> simp -implicitDefEqProofs only [go_sem,Z1,Z2,Z3,Z4]
 try (with_reducible refine ind_andM (by kernel_rfl) ?_)
 refine atCall [] (c_Compare_int (a.natAbs:Int) (b.natAbs:Int)) ?_ ?_ <;> simp -implicitDefEqProofs only [go_sem,Z1,Z2,Z3,Z4]
 try (with_reducible refine ind_andM (by kernel_rfl) ?_)
 refine fin1' ?_
 simp -implicitDefEqProofs only [go_sem,Z1,Z2,Z3,Z4]
 all_goals (first | done | (simp; done) | (simp; omega) | skip)
theorem isort_one (l:List Int):isort (l.take 1) ++ l.drop 1 = l:=by
 cases l <;> rfl
theorem c_insertionSort (l:List Int) (hl9:l.length ≤ 1000) (hb9:∀ x ∈ l,-60 ≤ x ∧ x ≤ 60):C E.P 178 [.acc 0,iv 0,iv l.length,.fn 137 []] [some (.acc 3 (rowsI l))] (Eq2 (.tup []) [some (.acc 3 (rowsI (isort l)))]):=by
 have hbp:∀ i,∀ x ∈ isort (l.take i),-60 ≤ x ∧ x ≤ 60:=fun i x hx=>hb9 x (List.mem_of_mem_take ((isort_mem _ _).1 hx))
 have hLB:=LB_eq
 refine C_goS (nt:=53) (rs:=[]) hm Tryz.func178 rfl rfl rfl rfl rfl (fun hl he=>?_)
 simp -implicitDefEqProofs only [go_sem,Z1,Z2,Z3,Z4] at hl ⊢
 repeat (first | with_reducible refine ind_andM (by kernel_rfl) ?_ | (with_reducible apply And.intro; case left=>first | omega | assumption | exact ⟨rowsT_all _,by omega⟩ | exact ⟨rowsI_all _,by omega⟩ | exact ⟨rowsLit_all _,by omega⟩ | exact ⟨rowsLin_all _,by omega⟩ | exact ⟨rowsEq_all _,by omega⟩ | rfl | (simp [*]; done) | (simp; omega) | exact ⟨rowsRat_all _,by omega⟩ | exact ⟨rowsAtom_all _,by omega⟩ | exact ⟨rowsB_all _,by omega⟩ | exact ⟨rowsForm_all _,by omega⟩ | exact ⟨rowsII_all _,by omega⟩))
 refine loop_go1 hm (fun (i:Nat)=> 1 ≤ i ∧ (i ≤ l.length ∨ l.length = 0 ∧ i = 1)) (fun (i:Nat)=> ⟨mkS 53 .any [(0,.acc 0),(1,iv 0),(2,iv l.length),(3,.fn 137 []),(8,iv i)],[some (.acc 3 (rowsI (isort (l.take i) ++ l.drop i)))]⟩) (fun (i:Nat)=> l.length - i) (1) ?_ (weakS [some 0] ?_ ?_ rfl rfl) ?_
 rotate_left
 ·simp -implicitDefEqProofs only [go_sem,Z1,Z2,Z3,Z4]
  all_goals (first | done | ((rw [isort_one])) | (simp [wks_rfl, *]; done) | (simp [wks_rfl]; done) | (simp; omega) | skip)
 ·simp -implicitDefEqProofs only [go_sem,Z1,Z2,Z3,Z4]
  all_goals (first | done | ((rw [isort_one])) | (simp [wks_rfl, *]; done) | (simp [wks_rfl]; done) | (simp; omega) | skip)
 rotate_left
 ·omega
 ·rintro i ⟨hi1,hi2⟩
  rcases Classical.em (i < l.length) with h1 | h1
  ·try simp -implicitDefEqProofs only [go_sem,Z1,Z2,Z3,Z4,h1]
   try (with_reducible refine ind_andM (by kernel_rfl) ?_)
   have hp:(isort (l.take i)).length = i:=by rw [isort_len,List.length_take]; omega
   have ed:l.drop i = l[i] :: l.drop (i + 1):=List.drop_eq_getElem_cons h1
   have est:isort (l.take i) ++ l.drop i = sk (isort (l.take i)) l[i] (l.drop (i + 1)) i:=by rw [sk_top _ _ (by omega),ed]
   have hbx:=hb9 l[i] (List.getElem_mem h1)
   rw [est]
   refine loop_go1 hm (fun (j:Nat)=> j ≤ i ∧ ∀ y ∈ (isort (l.take i)).drop j,l[i].natAbs < y.natAbs) (fun (j:Nat)=> ⟨mkS 53 .any [(0,.acc 0),(1,iv 0),(2,iv l.length),(3,.fn 137 []),(8,iv i),(9,iv j)],[some (.acc 3 (rowsI (sk (isort (l.take i)) l[i] (l.drop (i + 1)) j)))]⟩) (fun (j:Nat)=> j) (i) ?_ (weakS [some 0] ?_ ?_ rfl rfl) ?_
   rotate_left
   ·simp -implicitDefEqProofs only [go_sem,Z1,Z2,Z3,Z4]
    all_goals (first | done | (simp [wks_rfl, *]; done) | (simp [wks_rfl]; done) | (simp; omega) | skip)
   ·simp -implicitDefEqProofs only [go_sem,Z1,Z2,Z3,Z4]
    all_goals (first | done | (simp [wks_rfl, *]; done) | (simp [wks_rfl]; done) | (simp; omega) | skip)
   rotate_left
   ·exact ⟨Nat.le_refl _,by rw [List.drop_of_length_le (by omega)]; simp⟩
   ·rintro j ⟨hj,hd⟩
    have hsl:(sk (isort (l.take i)) l[i] (l.drop (i + 1)) j).length = l.length:=by rw [sk_len _ _ (by omega),hp,List.length_drop]; omega
    have hjl:j < (sk (isort (l.take i)) l[i] (l.drop (i + 1)) j).length:=by omega
    have e1:=sk_at l[i] (l.drop (i + 1)) (p:=isort (l.take i)) (by omega) hjl
    rcases Classical.em ((0:Int) < (j:Int)) with h0 | h0
    ·have hj1:j - 1 < (sk (isort (l.take i)) l[i] (l.drop (i + 1)) j).length:=by omega
     have hjp:j - 1 < (isort (l.take i)).length:=by omega
     have e2:=sk_before l[i] (l.drop (i + 1)) (p:=isort (l.take i)) (by omega) (by omega) hjp hj1
     have q:((j:Int) - 1) = ((j - 1:Nat):Int):=by omega
     have hb2:=hbp i _ (List.getElem_mem hjp)
     have estep:((sk (isort (l.take i)) l[i] (l.drop (i + 1)) j).set j (isort (l.take i))[j - 1]).set (j - 1) l[i] = sk (isort (l.take i)) l[i] (l.drop (i + 1)) (j - 1):=by
      have e3:=sk_step (p:=isort (l.take i)) l[i] (l.drop (i + 1)) hjp
      have e4:j - 1 + 1 = j:=by omega
      rwa [e4] at e3
     generalize hs:sk (isort (l.take i)) l[i] (l.drop (i + 1)) j = s at *
     try simp -implicitDefEqProofs only [go_sem,Z1,Z2,Z3,Z4,h0,q,hjl,hj1]
     try (with_reducible refine ind_andM (by kernel_rfl) ?_)
     repeat (first | with_reducible refine ind_andM (by kernel_rfl) ?_ | (with_reducible apply And.intro; case left=>first | omega | assumption | exact ⟨rowsT_all _,by omega⟩ | exact ⟨rowsI_all _,by omega⟩ | exact ⟨rowsLit_all _,by omega⟩ | exact ⟨rowsLin_all _,by omega⟩ | exact ⟨rowsEq_all _,by omega⟩ | rfl | (simp [*]; done) | (simp; omega) | exact ⟨rowsRat_all _,by omega⟩ | exact ⟨rowsAtom_all _,by omega⟩ | exact ⟨rowsB_all _,by omega⟩ | exact ⟨rowsForm_all _,by omega⟩ | exact ⟨rowsII_all _,by omega⟩))
     refine atCall [] (c_impl_ClauseOf_1 s[j] s[j - 1] (by rw [e1]; exact hbx) (by rw [e2]; exact hb2)) ?_ ?_ <;> simp -implicitDefEqProofs only [go_sem,Z1,Z2,Z3,Z4,hjl,hj1]
     try (with_reducible refine ind_andM (by kernel_rfl) ?_)
     rw [e1,e2]
     rcases Classical.em (l[i].natAbs < ((isort (l.take i))[j - 1]).natAbs) with h3 | h3
     ·have k3:cmpA (l[i].natAbs:Int) (((isort (l.take i))[j - 1]).natAbs:Int) < 0:=cmpA_neg.2 (by omega)
      try simp -implicitDefEqProofs only [go_sem,Z1,Z2,Z3,Z4,k3,q,hjl,hj1]
      try (with_reducible refine ind_andM (by kernel_rfl) ?_)
      repeat (first | with_reducible refine ind_andM (by kernel_rfl) ?_ | (with_reducible apply And.intro; case left=>first | omega | assumption | exact ⟨rowsT_all _,by omega⟩ | exact ⟨rowsI_all _,by omega⟩ | exact ⟨rowsLit_all _,by omega⟩ | exact ⟨rowsLin_all _,by omega⟩ | exact ⟨rowsEq_all _,by omega⟩ | rfl | (simp [*]; done) | (simp; omega) | exact ⟨rowsRat_all _,by omega⟩ | exact ⟨rowsAtom_all _,by omega⟩ | exact ⟨rowsB_all _,by omega⟩ | exact ⟨rowsForm_all _,by omega⟩ | exact ⟨rowsII_all _,by omega⟩))
      refine And.intro (by rw [List.length_set,rowsI_len]; exact hj1) ?_
      refine And.intro (by rw [List.length_set,rowsI_len]; exact hj1) ?_
      repeat (first | with_reducible refine ind_andM (by kernel_rfl) ?_ | (with_reducible apply And.intro; case left=>first | omega | assumption | exact ⟨rowsT_all _,by omega⟩ | exact ⟨rowsI_all _,by omega⟩ | exact ⟨rowsLit_all _,by omega⟩ | exact ⟨rowsLin_all _,by omega⟩ | exact ⟨rowsEq_all _,by omega⟩ | rfl | (simp [*]; done) | (simp; omega) | exact ⟨rowsRat_all _,by omega⟩ | exact ⟨rowsAtom_all _,by omega⟩ | exact ⟨rowsB_all _,by omega⟩ | exact ⟨rowsForm_all _,by omega⟩ | exact ⟨rowsII_all _,by omega⟩))
      have r1:(rowsI s).set j (spl [D.val (Value.int .i64 s[j])] 0 [D.val (Value.int .i64 s[j - 1])]) = rowsI (s.set j s[j - 1]):=rowsI_set hjl
      have r2:(rowsI (s.set j s[j - 1])).set (j - 1) (spl (row (rowsI (s.set j s[j - 1])) (j - 1)) 0 [D.val (Value.int .i64 s[j])]) = rowsI ((s.set j s[j - 1]).set (j - 1) s[j]):=by
       rw [rowsI_row (by rw [List.length_set]; exact hj1)]
       exact rowsI_set (by rw [List.length_set]; exact hj1)
      have e5:(isort (l.take i)).drop (j - 1) = (isort (l.take i))[j - 1] :: (isort (l.take i)).drop j:=by
       rw [List.drop_eq_getElem_cons hjp]
       have e6:j - 1 + 1 = j:=by omega
       rw [e6]
      refine ⟨j - 1,?_,?_,weakS [some 0] ?_ ?_ rfl rfl⟩
      rotate_left
      ·show _ < _
       omega
      ·simp -implicitDefEqProofs only [go_sem,Z1,Z2,Z3,Z4]
       all_goals (first | done | ((rw [r1,r2,e1,e2,estep])) | (simp [wks_rfl, *]; done) | (simp [wks_rfl]; done) | (simp; omega) | skip)
      ·simp -implicitDefEqProofs only [go_sem,Z1,Z2,Z3,Z4]
       all_goals (first | done | ((rw [r1,r2,e1,e2,estep])) | (simp [wks_rfl, *]; done) | (simp [wks_rfl]; done) | (simp; omega) | skip)
      refine ⟨by omega,fun y hy=>?_⟩
      rw [e5] at hy
      rcases List.mem_cons.1 hy with hy | hy
      ·rw [hy]; exact h3
      ·exact hd y hy
     ·have k3:¬ cmpA (l[i].natAbs:Int) (((isort (l.take i))[j - 1]).natAbs:Int) < 0:=fun hh=>h3 (by have:=cmpA_neg.1 hh; omega)
      have eend:s = isort (l.take (i + 1)) ++ l.drop (i + 1):=by
       rw [take_snoc h1,isort_snoc,← hs]
       exact sk_end (isort_srt _) hd (fun _ _=>by omega) (by omega)
      try simp -implicitDefEqProofs only [go_sem,Z1,Z2,Z3,Z4,k3]
      try (with_reducible refine ind_andM (by kernel_rfl) ?_)
      repeat (first | with_reducible refine ind_andM (by kernel_rfl) ?_ | (with_reducible apply And.intro; case left=>first | omega | assumption | exact ⟨rowsT_all _,by omega⟩ | exact ⟨rowsI_all _,by omega⟩ | exact ⟨rowsLit_all _,by omega⟩ | exact ⟨rowsLin_all _,by omega⟩ | exact ⟨rowsEq_all _,by omega⟩ | rfl | (simp [*]; done) | (simp; omega) | exact ⟨rowsRat_all _,by omega⟩ | exact ⟨rowsAtom_all _,by omega⟩ | exact ⟨rowsB_all _,by omega⟩ | exact ⟨rowsForm_all _,by omega⟩ | exact ⟨rowsII_all _,by omega⟩))
      rw [eend]
      refine ⟨i + 1,?_,?_,weakS [some 0] ?_ ?_ rfl rfl⟩
      rotate_left
      ·show _ < _
       omega
      ·simp -implicitDefEqProofs only [go_sem,Z1,Z2,Z3,Z4]
       all_goals (first | done | (simp [wks_rfl, *]; done) | (simp [wks_rfl]; done) | (simp; omega) | skip)
      ·simp -implicitDefEqProofs only [go_sem,Z1,Z2,Z3,Z4]
       all_goals (first | done | (simp [wks_rfl, *]; done) | (simp [wks_rfl]; done) | (simp; omega) | skip)
      omega
    ·have eend:sk (isort (l.take i)) l[i] (l.drop (i + 1)) j = isort (l.take (i + 1)) ++ l.drop (i + 1):=by
      rw [take_snoc h1,isort_snoc]
      exact sk_end (isort_srt _) hd (fun _ _=>by omega) (by omega)
     try simp -implicitDefEqProofs only [go_sem,Z1,Z2,Z3,Z4,h0]
     try (with_reducible refine ind_andM (by kernel_rfl) ?_)
     repeat (first | with_reducible refine ind_andM (by kernel_rfl) ?_ | (with_reducible apply And.intro; case left=>first | omega | assumption | exact ⟨rowsT_all _,by omega⟩ | exact ⟨rowsI_all _,by omega⟩ | exact ⟨rowsLit_all _,by omega⟩ | exact ⟨rowsLin_all _,by omega⟩ | exact ⟨rowsEq_all _,by omega⟩ | rfl | (simp [*]; done) | (simp; omega) | exact ⟨rowsRat_all _,by omega⟩ | exact ⟨rowsAtom_all _,by omega⟩ | exact ⟨rowsB_all _,by omega⟩ | exact ⟨rowsForm_all _,by omega⟩ | exact ⟨rowsII_all _,by omega⟩))
     rw [eend]
     refine ⟨i + 1,?_,?_,weakS [some 0] ?_ ?_ rfl rfl⟩
     rotate_left
     ·show _ < _
      omega
     ·simp -implicitDefEqProofs only [go_sem,Z1,Z2,Z3,Z4]
      all_goals (first | done | (simp [wks_rfl, *]; done) | (simp [wks_rfl]; done) | (simp; omega) | skip)
     ·simp -implicitDefEqProofs only [go_sem,Z1,Z2,Z3,Z4]
      all_goals (first | done | (simp [wks_rfl, *]; done) | (simp [wks_rfl]; done) | (simp; omega) | skip)
     omega
  ·try simp -implicitDefEqProofs only [go_sem,Z1,Z2,Z3,Z4,h1]
   try (with_reducible refine ind_andM (by kernel_rfl) ?_)
   have et:l.take i = l:=List.take_of_length_le (by omega)
   have ed:l.drop i = []:=List.drop_of_length_le (by omega)
   rw [et,ed,List.append_nil]
   refine finM' [some 0] ?_ rfl rfl
   simp -implicitDefEqProofs only [go_sem,Z1,Z2,Z3,Z4]
theorem c_bitsLen (n:Nat) (h:n ≤ 1000):C E.P 160 [.d (.val (.int .u64 (n:Int)))] [] (Eq2 (iv (Lib.bitLen n)) []):=by
 refine C_pure1 (v:=.int .u64 (n:Int)) ⟨_,Tryz.func160,rfl,rfl⟩ (fun w ok ν st u hu=>?_) rfl fun w=>?_
 ·simp only [RepPV] at hu
  cases hu
  rfl
 ·have:=Tryz.bits_Len (n:Int) w (by omega) (by omega)
  simp only [Int.toNat_natCast] at this
  exact this
theorem c_pdqsort (l:List Int) (hl9:l.length ≤ 12) (k:Int) (hb9:∀ x ∈ l,-60 ≤ x ∧ x ≤ 60):C E.P 159 [.acc 0,iv 0,iv l.length,iv k,.fn 137 []] [some (.acc 3 (rowsI l))] (Eq2 (.tup []) [some (.acc 3 (rowsI (isort l)))]):=by
 have h1:(l.length:Int) ≤ 12:=by omega
 have hLB:=LB_eq
 refine C_goS (nt:=148) (rs:=[]) hm Tryz.func159 rfl rfl rfl rfl rfl (fun hl he=>?_)
 simp -implicitDefEqProofs only [go_sem,Z1,Z2,Z3,Z4] at hl ⊢
 refine loop_go1 hm (fun (u:Nat)=> u = 0) (fun (u:Nat)=> ⟨mkS 148 .any [(0,.acc 0),(1,iv 0),(2,iv l.length),(3,iv k),(4,.fn 137 []),(10,bv true),(11,bv true)],[some (.acc 3 (rowsI l))]⟩) (fun (u:Nat)=> u) (0) ?_ (weakS [some 0] ?_ ?_ rfl rfl) ?_
 rotate_left
 ·simp -implicitDefEqProofs only [go_sem,Z1,Z2,Z3,Z4]
  all_goals (first | done | (simp [wks_rfl, *]; done) | (simp [wks_rfl]; done) | (simp; omega) | skip)
 ·simp -implicitDefEqProofs only [go_sem,Z1,Z2,Z3,Z4]
  all_goals (first | done | (simp [wks_rfl, *]; done) | (simp [wks_rfl]; done) | (simp; omega) | skip)
 rotate_left
 ·rfl
 ·rintro u rfl
  try simp -implicitDefEqProofs only [go_sem,Z1,Z2,Z3,Z4,h1]
  try (with_reducible refine ind_andM (by kernel_rfl) ?_)
  repeat (first | with_reducible refine ind_andM (by kernel_rfl) ?_ | (with_reducible apply And.intro; case left=>first | omega | assumption | exact ⟨rowsT_all _,by omega⟩ | exact ⟨rowsI_all _,by omega⟩ | exact ⟨rowsLit_all _,by omega⟩ | exact ⟨rowsLin_all _,by omega⟩ | exact ⟨rowsEq_all _,by omega⟩ | rfl | (simp [*]; done) | (simp; omega) | exact ⟨rowsRat_all _,by omega⟩ | exact ⟨rowsAtom_all _,by omega⟩ | exact ⟨rowsB_all _,by omega⟩ | exact ⟨rowsForm_all _,by omega⟩ | exact ⟨rowsII_all _,by omega⟩))
  try simp -implicitDefEqProofs only [go_sem,Z1,Z2,Z3,Z4,Int.sub_zero,h1]
  try (with_reducible refine ind_andM (by kernel_rfl) ?_)
  refine atOwn [] [0] (c_insertionSort l (by omega) hb9) ?_ ?_ <;> simp -implicitDefEqProofs only [go_sem,Z1,Z2,Z3,Z4]
  try (with_reducible refine ind_andM (by kernel_rfl) ?_)
  refine finM' [some 0] ?_ rfl rfl
  simp -implicitDefEqProofs only [go_sem,Z1,Z2,Z3,Z4]
theorem c_SortFunc (l:List Int) (hl9:l.length ≤ 12) (hb9:∀ x ∈ l,-60 ≤ x ∧ x ≤ 60):C E.P 136 [.acc 0,.fn 137 []] [some (.acc 3 (rowsI l))] (Eq2 (.tup []) [some (.acc 3 (rowsI (isort l)))]):=by
 have hw:=wrap_u64 (n:=(l.length:Int)) (by omega) (by omega)
 have hLB:=LB_eq
 refine C_goS (nt:=14) (rs:=[]) hm Tryz.func136 rfl rfl rfl rfl rfl (fun hl he=>?_)
 simp -implicitDefEqProofs only [go_sem,Z1,Z2,Z3,Z4] at hl ⊢
 repeat (first | with_reducible refine ind_andM (by kernel_rfl) ?_ | (with_reducible apply And.intro; case left=>first | omega | assumption | exact ⟨rowsT_all _,by omega⟩ | exact ⟨rowsI_all _,by omega⟩ | exact ⟨rowsLit_all _,by omega⟩ | exact ⟨rowsLin_all _,by omega⟩ | exact ⟨rowsEq_all _,by omega⟩ | rfl | (simp [*]; done) | (simp; omega) | exact ⟨rowsRat_all _,by omega⟩ | exact ⟨rowsAtom_all _,by omega⟩ | exact ⟨rowsB_all _,by omega⟩ | exact ⟨rowsForm_all _,by omega⟩ | exact ⟨rowsII_all _,by omega⟩))
 try simp -implicitDefEqProofs only [go_sem,Z1,Z2,Z3,Z4,hw]
 try (with_reducible refine ind_andM (by kernel_rfl) ?_)
 refine atCall [] (c_bitsLen l.length (by omega)) ?_ ?_ <;> simp -implicitDefEqProofs only [go_sem,Z1,Z2,Z3,Z4]
 try (with_reducible refine ind_andM (by kernel_rfl) ?_)
 refine atOwn [] [0] (c_pdqsort l hl9 (Lib.bitLen l.length) hb9) ?_ ?_ <;> simp -implicitDefEqProofs only [go_sem,Z1,Z2,Z3,Z4]
 try (with_reducible refine ind_andM (by kernel_rfl) ?_)
 refine finM' [some 0] ?_ rfl rfl
 simp -implicitDefEqProofs only [go_sem,Z1,Z2,Z3,Z4]
theorem rowsI_vals {w:World} {ok:Nat → Prop}:∀ {zs:List Int} {us:List (List Value)},RepRows w ok 1 (rowsI zs) us → us.flatten = zs.map (Value.int .i64)
 | [],us,h=>by
   have e:us = []:=List.length_eq_zero_iff.1 h.len
   rw [e]
   rfl
 | z :: zs,us,h=>by
   have hl:=h.len
   cases us with
   | nil=>simp [rowsI_cons] at hl
   | cons u us=>
     have hu:=h.hu 0 u rfl
     obtain ⟨v,rfl⟩:=List.length_eq_one_iff.1 hu
     have hr:=h.hr 0 0 _ _ _ _ (by rw [rowsI_cons]; rfl) rfl rfl rfl
     have ih:=rowsI_vals (w:=w) (ok:=ok) (zs:=zs) (us:=us) ⟨by simpa [rowsI_cons] using hl,fun i x hx=>h.hx (i + 1) x (by rw [rowsI_cons]; exact hx),fun i x hx=>h.hu (i + 1) x hx,fun i j x y d e h1 h2 h3 h4=>h.hr (i + 1) j x y d e (by rw [rowsI_cons]; exact h1) h2 h3 h4⟩
     cases hr
     rw [List.flatten_cons,ih]
     rfl
theorem rowsI_rep (w:World) (ok:Nat → Prop) (zs:List Int):RepRows w ok 1 (rowsI zs) (zs.map fun z=>[Value.int .i64 z]):=by
 refine ⟨by rw [List.length_map,rowsI_len],fun i x hx=>rowsI_all zs x (List.mem_of_getElem? hx),fun i u hu=>?_,fun i j x u d v h1 h2 h3 h4=>?_⟩
 ·obtain ⟨z,_,rfl⟩:∃ z,zs[i]? = some z ∧ [Value.int .i64 z] = u:=by simpa using hu
  rfl
 ·obtain ⟨z,hz,rfl⟩:∃ z,zs[i]? = some z ∧ [Value.int .i64 z] = u:=by simpa using h2
  have hx:x = [.val (.int .i64 z)]:=by
   unfold rowsI at h1
   rw [List.getElem?_map,hz] at h1
   exact (Option.some.inj h1).symm
  subst hx
  cases j with
  | zero=>
    cases h3; cases h4
    exact .val _ rfl
  | succ j=>cases h3
theorem compact_len:∀ (l:List Int),(compact l).length ≤ l.length
 | []=>by simp [compact]
 | [x]=>by simp [compact]
 | x :: y :: l=>by
   have:=compact_len (y :: l)
   simp only [compact]
   split
   ·simp only [List.length_cons] at this ⊢; omega
   ·simp only [List.length_cons] at this ⊢; omega
theorem c_Compact_int (zs:List Int) (hl9:zs.length ≤ 1000):C E.P 140 [.acc 0] [some (.acc 3 (rowsI zs))] (Eq2 (.acc 1) [some .dead,some (.acc 3 (rowsI (compact zs)))]):=by
 refine ⟨⟨_,Tryz.func140,rfl,rfl⟩,?_⟩
 intro X vs hst hO hs
 have hsz:=hs.size
 obtain ⟨v,rfl⟩:=List.length_eq_one_iff.1 (show vs.length = 1 by simpa using hsz)
 have hv0:=hs.sl 0
 obtain ⟨us,hown,hrr,hB,hf0⟩:=hs.en 0 (.acc 3 (rowsI zs)) rfl
 have hcell:E.P.cellsOf 3 = 1:=(E.ok 3 _ rfl).cells
 rw [hcell] at hown hrr
 have hus:=rowsI_vals hrr
 rw [hus,rowsI_len] at hown
 have hv:v = (X.ν0 0).v:=hv0.2
 have hcl:=compact_len zs
 have old0:∀ k,some 0 = some k → ∃ e,G.at ⟨[PV.acc 0],[some (En.acc 3 (rowsI zs))]⟩ k = some e ∧ e.live = true:=fun k hk=>by cases hk; exact ⟨_,rfl,rfl⟩
 rcases hown.2 with ⟨hnil,h0⟩ | ⟨g,cap,cur,hvv,_,hg,hn,hcm,hcs,htk⟩
 ·have hz:zs = []:=List.length_eq_zero_iff.1 h0
  subst hz
  rw [hv,hnil]
  refine (Tryz.slices_Compact_int_empty none 0 X.w0).mono ?_
  rintro e w' ⟨rfl,rfl⟩
  refine ⟨_,.acc 1,_,_,rfl,⟨rfl,rfl⟩,hs.move (some 0) old0 ((Chg.refl _ _)) 1 rfl (.acc 3 (rowsI [])) ⟨.slice none 0 0,[]⟩ rfl (fun b hb=>by have:=(has_nil rfl).1 hb; simp [blk] at this) 0 (.acc 1) (.slice none 0 0) (fun ok st ν' hν _ _=>?_) (fun ok st ν' hν hst _ _=>?_)⟩
  ·refine ⟨[],?_,RepRows.nil _ _ _,by simp [rowsI],by rw [hν]⟩
   rw [hν]
   exact ⟨by simp,.inl ⟨rfl,rfl⟩⟩
  ·simp only [RepPV]
   exact ⟨by rw [hst]; rfl,by rw [hν]⟩
 ·have hcur:∀ j,j < zs.length → cur[j]? = some (.int .i64 (zs.getD j 0)):=by
   intro j hj
   have h1:=congrArg (fun l=>l[j]?) htk
   simp only [Nat.mul_one,List.getElem?_take_of_lt hj,Array.getElem?_toList,List.getElem?_map] at h1
   rw [h1,List.getElem?_eq_getElem hj]
   simp [List.getD,hj]
  have key:=Tryz.slices_Compact_int_cells g 0 zs.length cap zs X.w0 (Nat.le_refl _) (by omega) hn (fun j hj=>by
   have:=cell_of_row X.w0 g (0 + j) cur _ (0,0) hg
   rw [this,Nat.zero_add]
   exact hcur j hj) (fun j hj=>by simp [World.frozen?,hg])
  rw [List.take_length,compact_lib _ zs rfl] at key
  rw [hv,hvv]
  refine key.mono ?_
  rintro e w' ⟨rfl,q,rfl⟩
  generalize hvals:(compact zs ++ List.replicate (zs.length - (compact zs).length) 0).map (Value.int .i64) = vals
  have hvl:vals.length = zs.length:=by rw [← hvals]; simp; omega
  obtain ⟨c1,c2,c3,c4,c5,c6⟩:=sets_chg g vals 0 (X.w0.drewN q)
  have hsz2:cur.size = cap:=by omega
  have hlist:=layA_list vals 0 cur (by omega)
  have hchg:Chg (fun b=>∃ k,some 0 = some k ∧ (X.ν0 k).has b) X.w0 ((X.w0.drewN q).setCells g 0 vals):=by
   refine ⟨c1,c2,c3,by rw [c4]; exact Nat.le_refl _,fun k hk hnb=>?_⟩
   rw [c5 k (fun hkg=>hnb ⟨0,rfl,.inl (by rw [hvv,hkg]; rfl)⟩)]
   rfl
  refine ⟨_,.acc 1,_,_,rfl,⟨rfl,rfl⟩,hs.move (some 0) old0 hchg 1 rfl (.acc 3 (rowsI (compact zs))) ⟨.slice (some ⟨g,0,none⟩) (compact zs).length cap,[]⟩ rfl (fun b hb=>.inl ⟨0,rfl,.inl (by rw [hvv]; exact (has_nil rfl).1 hb)⟩) 0 (.acc 1) (.slice (some ⟨g,0,none⟩) (compact zs).length cap) (fun ok st ν' hν _ _=>?_) (fun ok st ν' hν hst _ _=>?_)⟩
  ·refine ⟨(compact zs).map fun z=>[Value.int .i64 z],?_,by rw [hcell]; exact rowsI_rep _ _ _,by rw [rowsI_len]; unfold LB; omega,by rw [hν]⟩
   have hfl:((compact zs).map fun z=>[Value.int .i64 z]).flatten = (compact zs).map (Value.int .i64):=by
    induction compact zs with
    | nil=>rfl
    | cons a l ih=>rw [List.map_cons,List.flatten_cons,ih]; rfl
   rw [hν,hcell,rowsI_len,hfl]
   refine ⟨by simp,.inr ⟨g,cap,layA cur 0 vals,rfl,Nat.zero_le _,c6 _ _ _ hg,by omega,hcm,?_,?_⟩⟩
   ·have:=congrArg List.length hlist
    simp only [Array.length_toList,List.length_append,List.length_take,List.length_drop] at this
    omega
   ·rw [hlist,← hvals]
    simp
  ·simp only [RepPV]
   exact ⟨by rw [hst]; rfl,by rw [hν]⟩
theorem c_Clone_int_own (l:List Int) (hne:l ≠ []) (hl9:l.length ≤ 1000):C E.P 104 [lv (rowsI l)] [] (Eq2 (.acc 0) [some (.acc 3 (rowsI l))]):=by
 cases l with
 | nil=>exact absurd rfl hne
 | cons x xs=>
   have h1:=rowsI_all (x :: xs)
   rw [rowsI_cons] at h1 ⊢
   exact c_Clone_int_consO _ (rowsI xs) (by rw [rowsI_len]; simp at hl9; omega) h1
theorem c_impl_ClauseOf (l:List Int) (hne:l ≠ []) (hl9:l.length ≤ 12) (hb9:∀ x ∈ l,-1000000 ≤ x ∧ x ≤ 1000000):C E.P 105 [lv (rowsI l)] [] (Eq2 (.tup [lv (rowsI ((clauseOf l).getD [])),bv (clauseOf l).isSome]) []):=by
 have e:=clauseOf_fairB l
 have hLB:=LB_eq
 refine C_goS (nt:=29) (rs:=[.tmp 2,.tmp 3]) hm Tryz.func105 rfl rfl rfl rfl rfl (fun hl he=>?_)
 simp -implicitDefEqProofs only [go_sem,Z1,Z2,Z3,Z4] at hl ⊢
 refine loop_go1 hm (fun (i:Nat)=> i ≤ l.length ∧ (∀ x ∈ l.take i,-60 ≤ x ∧ x ≤ 60) ∧ fairB l = (l.drop i).all fun x=>isMark x 60 && !l.contains (-x)) (fun (i:Nat)=> ⟨mkS 29 .any [(0,lv (rowsI l)),(7,lv (rowsI l)),(8,iv l.length),(9,iv i)],[]⟩) (fun (i:Nat)=> l.length - i) (0) ?_ (weakS [] ?_ ?_ rfl rfl) ?_
 rotate_left
 ·simp -implicitDefEqProofs only [go_sem,Z1,Z2,Z3,Z4]
  all_goals (first | done | (simp [wks_rfl, *]; done) | (simp [wks_rfl]; done) | (simp; omega) | skip)
 ·simp -implicitDefEqProofs only [go_sem,Z1,Z2,Z3,Z4]
  all_goals (first | done | (simp [wks_rfl, *]; done) | (simp [wks_rfl]; done) | (simp; omega) | skip)
 rotate_left
 ·exact ⟨by omega,by simp,rfl⟩
 ·rintro i ⟨hi,ht,hg⟩
  rcases Classical.em (i < l.length) with h1 | h1
  ·have hb:=hb9 l[i] (List.getElem_mem h1)
   rw [List.drop_eq_getElem_cons h1,List.all_cons] at hg
   have hc:C E.P 134 [iv l[i],iv 60] [] (Eq2 (bv (isMark l[i] 60)) []):=c_impl_isMark l[i] 60 (by omega)
   try simp -implicitDefEqProofs only [go_sem,Z1,Z2,Z3,Z4,h1]
   try (with_reducible refine ind_andM (by kernel_rfl) ?_)
   refine atCall [] hc ?_ ?_ <;> simp -implicitDefEqProofs only [go_sem,Z1,Z2,Z3,Z4]
   try (with_reducible refine ind_andM (by kernel_rfl) ?_)
   cases h2:isMark l[i] 60
   ·rw [h2,Bool.false_and,Bool.false_and] at hg
    rw [hg,if_neg (by simp)] at e
    try simp -implicitDefEqProofs only [go_sem,Z1,Z2,Z3,Z4]
    try (with_reducible refine ind_andM (by kernel_rfl) ?_)
    refine fin1' ?_
    simp -implicitDefEqProofs only [go_sem,Z1,Z2,Z3,Z4]
    all_goals (first | done | (simp [e]; done) | (simp [e]; omega) | skip)
   ·have hm:=isMark_iff.1 h2
    rw [h2,Bool.true_and] at hg
    try simp -implicitDefEqProofs only [go_sem,Z1,Z2,Z3,Z4]
    try (with_reducible refine ind_andM (by kernel_rfl) ?_)
    repeat (first | with_reducible refine ind_andM (by kernel_rfl) ?_ | (with_reducible apply And.intro; case left=>first | omega | assumption | exact ⟨rowsT_all _,by omega⟩ | exact ⟨rowsI_all _,by omega⟩ | exact ⟨rowsLit_all _,by omega⟩ | exact ⟨rowsLin_all _,by omega⟩ | exact ⟨rowsEq_all _,by omega⟩ | rfl | (simp [*]; done) | (simp; omega) | exact ⟨rowsRat_all _,by omega⟩ | exact ⟨rowsAtom_all _,by omega⟩ | exact ⟨rowsB_all _,by omega⟩ | exact ⟨rowsForm_all _,by omega⟩ | exact ⟨rowsII_all _,by omega⟩))
    refine atCall [] (c_Contains_int l (-l[i])) ?_ ?_ <;> simp -implicitDefEqProofs only [go_sem,Z1,Z2,Z3,Z4]
    try (with_reducible refine ind_andM (by kernel_rfl) ?_)
    cases h3:l.contains (-l[i])
    ·rw [h3,Bool.not_false,Bool.true_and] at hg
     try simp -implicitDefEqProofs only [go_sem,Z1,Z2,Z3,Z4]
     try (with_reducible refine ind_andM (by kernel_rfl) ?_)
     repeat (first | with_reducible refine ind_andM (by kernel_rfl) ?_ | (with_reducible apply And.intro; case left=>first | omega | assumption | exact ⟨rowsT_all _,by omega⟩ | exact ⟨rowsI_all _,by omega⟩ | exact ⟨rowsLit_all _,by omega⟩ | exact ⟨rowsLin_all _,by omega⟩ | exact ⟨rowsEq_all _,by omega⟩ | rfl | (simp [*]; done) | (simp; omega) | exact ⟨rowsRat_all _,by omega⟩ | exact ⟨rowsAtom_all _,by omega⟩ | exact ⟨rowsB_all _,by omega⟩ | exact ⟨rowsForm_all _,by omega⟩ | exact ⟨rowsII_all _,by omega⟩))
     refine ⟨i + 1,?_,?_,weakS [] ?_ ?_ rfl rfl⟩
     rotate_left
     ·show _ < _
      omega
     ·simp -implicitDefEqProofs only [go_sem,Z1,Z2,Z3,Z4]
      all_goals (first | done | (simp [wks_rfl, *]; done) | (simp [wks_rfl]; done) | (simp; omega) | skip)
     ·simp -implicitDefEqProofs only [go_sem,Z1,Z2,Z3,Z4]
      all_goals (first | done | (simp [wks_rfl, *]; done) | (simp [wks_rfl]; done) | (simp; omega) | skip)
     refine ⟨by omega,fun x hx=>?_,hg⟩
     rw [take_snoc h1] at hx
     rcases List.mem_append.1 hx with hx | hx
     ·exact ht x hx
     ·rw [List.mem_singleton.1 hx]; omega
    ·rw [h3,Bool.not_true,Bool.false_and] at hg
     rw [hg,if_neg (by simp)] at e
     try simp -implicitDefEqProofs only [go_sem,Z1,Z2,Z3,Z4]
     try (with_reducible refine ind_andM (by kernel_rfl) ?_)
     refine fin1' ?_
     simp -implicitDefEqProofs only [go_sem,Z1,Z2,Z3,Z4]
     all_goals (first | done | (simp [e]; done) | (simp [e]; omega) | skip)
  ·rw [List.drop_of_length_le (by omega),List.all_nil] at hg
   rw [List.take_of_length_le (by omega)] at ht
   rw [hg,if_pos rfl] at e
   try simp -implicitDefEqProofs only [go_sem,Z1,Z2,Z3,Z4,h1]
   try (with_reducible refine ind_andM (by kernel_rfl) ?_)
   refine atOwn [] [0] (c_Clone_int_own l hne (by omega)) ?_ ?_ <;> simp -implicitDefEqProofs only [go_sem,Z1,Z2,Z3,Z4]
   try (with_reducible refine ind_andM (by kernel_rfl) ?_)
   refine atOwn [] [0] (c_SortFunc l hl9 ht) ?_ ?_ <;> simp -implicitDefEqProofs only [go_sem,Z1,Z2,Z3,Z4]
   try (with_reducible refine ind_andM (by kernel_rfl) ?_)
   refine atOwn [] [0,1] (c_Compact_int (isort l) (by rw [isort_len]; omega)) ?_ ?_ <;> simp -implicitDefEqProofs only [go_sem,Z1,Z2,Z3,Z4]
   try (with_reducible refine ind_andM (by kernel_rfl) ?_)
   refine fin1' ?_
   simp -implicitDefEqProofs only [go_sem,Z1,Z2,Z3,Z4]
   rw [e]
   exact ⟨rfl,rfl⟩
end Go.Proofs.YtkkbmikoifnnbaaGreatDoor
