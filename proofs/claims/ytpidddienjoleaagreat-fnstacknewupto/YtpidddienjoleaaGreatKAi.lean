/-
  The program: the walks of lemmas. A step towards the exact laws.
-/
import Derived.Test.YtpidddienjoleaaGreatKAh
import Derived.Test.YtpidddienjoleaaGreatKAE
set_option linter.unusedVariables false
set_option linter.unusedSimpArgs false
namespace Go.Proofs.YtpidddienjoleaaGreat
open Go.Eng Go.Mod
open Int renaming reduceEq → Z1,reduceLT → Z2,reduceLE → Z3,reduceToNat → Z4
set_option maxRecDepth 100000
set_option maxHeartbeats 400000
theorem c_impl_variable (n:Int) (hn:-60 ≤ n ∧ n ≤ 60):C E.P 204 [iv n] [] (Eq2 (iv (n.natAbs:Int)) []):=by
 have hLB:=LB_eq
 refine C_goS (nt:=7) (rs:=[.tmp 2]) hm Tryz.func204 rfl rfl rfl rfl rfl (fun hl he=>?_)
 simp -implicitDefEqProofs only [go_sem,Z1,Z2,Z3,Z4] at hl ⊢
 repeat (first | with_reducible refine ind_andM (by kernel_rfl) ?_ | (with_reducible apply And.intro; case left=>first | omega | assumption | exact ⟨rowsT_all _,by omega⟩ | exact ⟨rowsI_all _,by omega⟩ | exact ⟨rowsLit_all _,by omega⟩ | exact ⟨rowsLin_all _,by omega⟩ | exact ⟨rowsEq_all _,by omega⟩ | rfl | (simp [*]; done) | (simp; omega) | exact ⟨rowsRat_all _,by omega⟩ | exact ⟨rowsAtom_all _,by omega⟩ | exact ⟨rowsB_all _,by omega⟩ | exact ⟨rowsForm_all _,by omega⟩ | exact ⟨rowsII_all _,by omega⟩))
 refine atMax n (-n) (n.natAbs:Int) maxI_abs (by simp -implicitDefEqProofs only [go_sem,Z1,Z2,Z3,Z4]) (by simp -implicitDefEqProofs only [go_sem,Z1,Z2,Z3,Z4]) ?_
 try simp -implicitDefEqProofs only [go_sem,Z1,Z2,Z3,Z4]
 try (with_reducible refine ind_andM (by kernel_rfl) ?_)
 refine fin1' ?_
 simp -implicitDefEqProofs only [go_sem,Z1,Z2,Z3,Z4]
 all_goals (first | done | (simp; done) | (simp; omega) | skip)
theorem c_impl_isMark (l:Int) (many:Nat) (hm1:many ≤ 60):C E.P 237 [iv l,iv many] [] (Eq2 (bv (isMark l many)) []):=by
 have hLB:=LB_eq
 refine C_goS (nt:=14) (rs:=[.tmp 4]) hm Tryz.func237 rfl rfl rfl rfl rfl (fun hl he=>?_)
 simp -implicitDefEqProofs only [go_sem,Z1,Z2,Z3,Z4] at hl ⊢
 rcases Classical.em (l = 0) with h | h
 ·have k:=eq_true h
  try simp -implicitDefEqProofs only [go_sem,Z1,Z2,Z3,Z4,k]
  try (with_reducible refine ind_andM (by kernel_rfl) ?_)
  refine fin1' ?_
  simp -implicitDefEqProofs only [go_sem,Z1,Z2,Z3,Z4]
  all_goals (first | done | (simp [isMark,h]; done) | (simp [isMark,h]; omega) | skip)
 ·try simp -implicitDefEqProofs only [go_sem,Z1,Z2,Z3,Z4,h]
  try (with_reducible refine ind_andM (by kernel_rfl) ?_)
  repeat (first | with_reducible refine ind_andM (by kernel_rfl) ?_ | (with_reducible apply And.intro; case left=>first | omega | assumption | exact ⟨rowsT_all _,by omega⟩ | exact ⟨rowsI_all _,by omega⟩ | exact ⟨rowsLit_all _,by omega⟩ | exact ⟨rowsLin_all _,by omega⟩ | exact ⟨rowsEq_all _,by omega⟩ | rfl | (simp [*]; done) | (simp; omega) | exact ⟨rowsRat_all _,by omega⟩ | exact ⟨rowsAtom_all _,by omega⟩ | exact ⟨rowsB_all _,by omega⟩ | exact ⟨rowsForm_all _,by omega⟩ | exact ⟨rowsII_all _,by omega⟩))
  refine atCall [] (c_impl_within l (-(many:Int)) many) ?_ ?_ <;> simp -implicitDefEqProofs only [go_sem,Z1,Z2,Z3,Z4]
  try (with_reducible refine ind_andM (by kernel_rfl) ?_)
  refine fin1' ?_
  simp -implicitDefEqProofs only [go_sem,Z1,Z2,Z3,Z4]
  all_goals (first | done | (simp [isMark,h]; done) | (simp [isMark,h]; omega) | skip)
theorem c_Index_int (ns:List Int) (n:Int):C E.P 262 [lv (rowsI ns),iv n] [] (Eq2 (iv (idxOf (fun x=>decide (n = x)) ns)) []):=by
 have hLB:=LB_eq
 refine C_goS (nt:=19) (rs:=[.tmp 4]) hm Tryz.func262 rfl rfl rfl rfl rfl (fun hl he=>?_)
 simp -implicitDefEqProofs only [go_sem,Z1,Z2,Z3,Z4] at hl ⊢
 refine loop_go1 hm (fun (i:Nat)=> i ≤ ns.length ∧ idxOf (fun x=>decide (n = x)) ns = idxGo (fun x=>decide (n = x)) (ns.drop i) i) (fun (i:Nat)=> ⟨mkS 19 .any [(0,lv (rowsI ns)),(1,iv n),(7,iv ns.length),(8,iv i)],[]⟩) (fun (i:Nat)=> ns.length - i) (0) ?_ (weakS [] ?_ ?_ rfl rfl) ?_
 rotate_left
 ·simp -implicitDefEqProofs only [go_sem,Z1,Z2,Z3,Z4]
  all_goals (first | done | (simp [wks_rfl, *]; done) | (simp [wks_rfl]; done) | (simp; omega) | skip)
 ·simp -implicitDefEqProofs only [go_sem,Z1,Z2,Z3,Z4]
  all_goals (first | done | (simp [wks_rfl, *]; done) | (simp [wks_rfl]; done) | (simp; omega) | skip)
 rotate_left
 ·simp [idxOf]
 ·rintro i ⟨hi,hg⟩
  rcases Classical.em (i < ns.length) with h1 | h1
  ·rw [List.drop_eq_getElem_cons h1,idxGo] at hg
   rcases Classical.em (n = ns[i]) with h2 | h2
   ·have k2:=eq_true h2
    simp only [← h2,decide_true,if_true] at hg
    try simp -implicitDefEqProofs only [go_sem,Z1,Z2,Z3,Z4,h1,k2]
    try (with_reducible refine ind_andM (by kernel_rfl) ?_)
    refine fin1' ?_
    simp -implicitDefEqProofs only [go_sem,Z1,Z2,Z3,Z4]
    all_goals (first | done | (simp [hg]; done) | (simp [hg]; omega) | skip)
   ·simp only [h2,decide_false,Bool.false_eq_true,if_false] at hg
    try simp -implicitDefEqProofs only [go_sem,Z1,Z2,Z3,Z4,h1,h2]
    try (with_reducible refine ind_andM (by kernel_rfl) ?_)
    repeat (first | with_reducible refine ind_andM (by kernel_rfl) ?_ | (with_reducible apply And.intro; case left=>first | omega | assumption | exact ⟨rowsT_all _,by omega⟩ | exact ⟨rowsI_all _,by omega⟩ | exact ⟨rowsLit_all _,by omega⟩ | exact ⟨rowsLin_all _,by omega⟩ | exact ⟨rowsEq_all _,by omega⟩ | rfl | (simp [*]; done) | (simp; omega) | exact ⟨rowsRat_all _,by omega⟩ | exact ⟨rowsAtom_all _,by omega⟩ | exact ⟨rowsB_all _,by omega⟩ | exact ⟨rowsForm_all _,by omega⟩ | exact ⟨rowsII_all _,by omega⟩))
    refine ⟨i + 1,?_,?_,weakS [] ?_ ?_ rfl rfl⟩
    rotate_left
    ·show _ < _
     omega
    ·simp -implicitDefEqProofs only [go_sem,Z1,Z2,Z3,Z4]
     all_goals (first | done | (simp [wks_rfl, *]; done) | (simp [wks_rfl]; done) | (simp; omega) | skip)
    ·simp -implicitDefEqProofs only [go_sem,Z1,Z2,Z3,Z4]
     all_goals (first | done | (simp [wks_rfl, *]; done) | (simp [wks_rfl]; done) | (simp; omega) | skip)
    exact ⟨by omega,by rw [hg]; rfl⟩
  ·rw [List.drop_of_length_le (by omega),idxGo] at hg
   try simp -implicitDefEqProofs only [go_sem,Z1,Z2,Z3,Z4,h1]
   try (with_reducible refine ind_andM (by kernel_rfl) ?_)
   refine fin1' ?_
   simp -implicitDefEqProofs only [go_sem,Z1,Z2,Z3,Z4]
   all_goals (first | done | (simp [hg]; done) | (simp [hg]; omega) | skip)
theorem idxOf_contains (ns:List Int) (n:Int):decide (0 ≤ idxOf (fun x=>decide (n = x)) ns) = ns.contains n:=by
 have key:∀ {ns:List Int} {i:Int},0 ≤ i → decide (0 ≤ idxGo (fun x=>decide (n = x)) ns i) = ns.contains n:=by
  intro ns
  induction ns with
  | nil=>intro i hi; simp [idxGo]
  | cons a ns ih=>
    intro i hi
    simp only [idxGo,List.contains_cons]
    rcases Classical.em (n = a) with h | h
    ·simp [h,hi]
    ·have hb:(n == a) = false:=by simpa using h
     simp only [h,decide_false,Bool.false_eq_true,if_false,hb,Bool.false_or]
     exact ih (by omega)
 exact key (by omega)
theorem c_Contains_int (ns:List Int) (n:Int):C E.P 238 [lv (rowsI ns),iv n] [] (Eq2 (bv (ns.contains n)) []):=by
 have hLB:=LB_eq
 refine C_goS (nt:=9) (rs:=[.tmp 4]) hm Tryz.func238 rfl rfl rfl rfl rfl (fun hl he=>?_)
 simp -implicitDefEqProofs only [go_sem,Z1,Z2,Z3,Z4] at hl ⊢
 refine atCall [] (c_Index_int ns n) ?_ ?_ <;> simp -implicitDefEqProofs only [go_sem,Z1,Z2,Z3,Z4]
 try (with_reducible refine ind_andM (by kernel_rfl) ?_)
 refine fin1' ?_
 simp -implicitDefEqProofs only [go_sem,Z1,Z2,Z3,Z4]
 rw [← idxOf_contains]
theorem c_impl_isSelection (marks:List Int) (atoms:List Atom) (hm1:atoms.length ≤ 60):C E.P 199 [lv (rowsI marks),lv (rowsAtom atoms)] [] (Eq2 (bv (isSelection marks atoms.length)) []):=by
 have e:isSelection marks atoms.length = selGo [] marks atoms.length:=rfl
 have hLB:=LB_eq
 refine C_goS (nt:=35) (rs:=[.tmp 4]) hm Tryz.func199 rfl rfl rfl rfl rfl (fun hl he=>?_)
 simp -implicitDefEqProofs only [go_sem,Z1,Z2,Z3,Z4] at hl ⊢
 refine loop_go1 hm (fun (i:Nat)=> i ≤ marks.length ∧ selGo [] marks atoms.length = selGo (marks.take i) (marks.drop i) atoms.length) (fun (i:Nat)=> ⟨mkS 35 .any [(0,lv (rowsI marks)),(1,lv (rowsAtom atoms)),(7,lv (rowsI marks)),(8,iv marks.length),(9,iv i)],[]⟩) (fun (i:Nat)=> marks.length - i) (0) ?_ (weakS [] ?_ ?_ rfl rfl) ?_
 rotate_left
 ·simp -implicitDefEqProofs only [go_sem,Z1,Z2,Z3,Z4]
  all_goals (first | done | (simp [wks_rfl, *]; done) | (simp [wks_rfl]; done) | (simp; omega) | skip)
 ·simp -implicitDefEqProofs only [go_sem,Z1,Z2,Z3,Z4]
  all_goals (first | done | (simp [wks_rfl, *]; done) | (simp [wks_rfl]; done) | (simp; omega) | skip)
 rotate_left
 ·simp
 ·rintro i ⟨hi,hg⟩
  rcases Classical.em (i < marks.length) with h1 | h1
  ·rw [selGo_take h1] at hg
   try simp -implicitDefEqProofs only [go_sem,Z1,Z2,Z3,Z4,h1]
   try (with_reducible refine ind_andM (by kernel_rfl) ?_)
   refine atCall [] (c_impl_isMark marks[i] atoms.length hm1) ?_ ?_ <;> simp -implicitDefEqProofs only [go_sem,Z1,Z2,Z3,Z4]
   try (with_reducible refine ind_andM (by kernel_rfl) ?_)
   cases h2:isMark marks[i] atoms.length
   ·rw [h2,Bool.false_and] at hg
    try simp -implicitDefEqProofs only [go_sem,Z1,Z2,Z3,Z4]
    try (with_reducible refine ind_andM (by kernel_rfl) ?_)
    refine fin1' ?_
    simp -implicitDefEqProofs only [go_sem,Z1,Z2,Z3,Z4]
    all_goals (first | done | (simp [e,hg]; done) | (simp [e,hg]; omega) | skip)
   ·have hb:=h2
    simp only [isMark,Bool.and_eq_true,withinB_iff] at hb
    rw [h2,Bool.true_and] at hg
    try simp -implicitDefEqProofs only [go_sem,Z1,Z2,Z3,Z4]
    try (with_reducible refine ind_andM (by kernel_rfl) ?_)
    refine And.intro ⟨by omega,rowsI_all _⟩ ?_
    try simp -implicitDefEqProofs only [go_sem,Z1,Z2,Z3,Z4,Nat.sub_zero,List.drop_zero,rowsI_take]
    try (with_reducible refine ind_andM (by kernel_rfl) ?_)
    refine atCall [] (c_Contains_int (marks.take i) marks[i]) ?_ ?_ <;> simp -implicitDefEqProofs only [go_sem,Z1,Z2,Z3,Z4]
    try (with_reducible refine ind_andM (by kernel_rfl) ?_)
    cases h3:(marks.take i).contains marks[i]
    ·rw [h3] at hg
     simp only [Bool.not_false,Bool.true_and] at hg
     try simp -implicitDefEqProofs only [go_sem,Z1,Z2,Z3,Z4]
     try (with_reducible refine ind_andM (by kernel_rfl) ?_)
     refine And.intro ⟨by omega,rowsI_all _⟩ ?_
     try simp -implicitDefEqProofs only [go_sem,Z1,Z2,Z3,Z4,Nat.sub_zero,List.drop_zero,rowsI_take]
     try (with_reducible refine ind_andM (by kernel_rfl) ?_)
     repeat (first | with_reducible refine ind_andM (by kernel_rfl) ?_ | (with_reducible apply And.intro; case left=>first | omega | assumption | exact ⟨rowsT_all _,by omega⟩ | exact ⟨rowsI_all _,by omega⟩ | exact ⟨rowsLit_all _,by omega⟩ | exact ⟨rowsLin_all _,by omega⟩ | exact ⟨rowsEq_all _,by omega⟩ | rfl | (simp [*]; done) | (simp; omega) | exact ⟨rowsRat_all _,by omega⟩ | exact ⟨rowsAtom_all _,by omega⟩ | exact ⟨rowsB_all _,by omega⟩ | exact ⟨rowsForm_all _,by omega⟩ | exact ⟨rowsII_all _,by omega⟩))
     refine atCall [] (c_Contains_int (marks.take i) (-marks[i])) ?_ ?_ <;> simp -implicitDefEqProofs only [go_sem,Z1,Z2,Z3,Z4]
     try (with_reducible refine ind_andM (by kernel_rfl) ?_)
     cases h4:(marks.take i).contains (-marks[i])
     ·rw [h4] at hg
      simp only [Bool.not_false,Bool.true_and] at hg
      try simp -implicitDefEqProofs only [go_sem,Z1,Z2,Z3,Z4]
      try (with_reducible refine ind_andM (by kernel_rfl) ?_)
      repeat (first | with_reducible refine ind_andM (by kernel_rfl) ?_ | (with_reducible apply And.intro; case left=>first | omega | assumption | exact ⟨rowsT_all _,by omega⟩ | exact ⟨rowsI_all _,by omega⟩ | exact ⟨rowsLit_all _,by omega⟩ | exact ⟨rowsLin_all _,by omega⟩ | exact ⟨rowsEq_all _,by omega⟩ | rfl | (simp [*]; done) | (simp; omega) | exact ⟨rowsRat_all _,by omega⟩ | exact ⟨rowsAtom_all _,by omega⟩ | exact ⟨rowsB_all _,by omega⟩ | exact ⟨rowsForm_all _,by omega⟩ | exact ⟨rowsII_all _,by omega⟩))
      refine ⟨i + 1,?_,?_,weakS [] ?_ ?_ rfl rfl⟩
      rotate_left
      ·show _ < _
       omega
      ·simp -implicitDefEqProofs only [go_sem,Z1,Z2,Z3,Z4]
       all_goals (first | done | (simp [wks_rfl, *]; done) | (simp [wks_rfl]; done) | (simp; omega) | skip)
      ·simp -implicitDefEqProofs only [go_sem,Z1,Z2,Z3,Z4]
       all_goals (first | done | (simp [wks_rfl, *]; done) | (simp [wks_rfl]; done) | (simp; omega) | skip)
      exact ⟨by omega,hg⟩
     ·rw [h4] at hg
      simp only [Bool.not_true,Bool.false_and] at hg
      try simp -implicitDefEqProofs only [go_sem,Z1,Z2,Z3,Z4]
      try (with_reducible refine ind_andM (by kernel_rfl) ?_)
      refine fin1' ?_
      simp -implicitDefEqProofs only [go_sem,Z1,Z2,Z3,Z4]
      all_goals (first | done | (simp [e,hg]; done) | (simp [e,hg]; omega) | skip)
    ·rw [h3] at hg
     simp only [Bool.not_true,Bool.false_and] at hg
     try simp -implicitDefEqProofs only [go_sem,Z1,Z2,Z3,Z4]
     try (with_reducible refine ind_andM (by kernel_rfl) ?_)
     refine fin1' ?_
     simp -implicitDefEqProofs only [go_sem,Z1,Z2,Z3,Z4]
     all_goals (first | done | (simp [e,hg]; done) | (simp [e,hg]; omega) | skip)
  ·rw [selGo_end (by omega)] at hg
   try simp -implicitDefEqProofs only [go_sem,Z1,Z2,Z3,Z4,h1]
   try (with_reducible refine ind_andM (by kernel_rfl) ?_)
   refine fin1' ?_
   simp -implicitDefEqProofs only [go_sem,Z1,Z2,Z3,Z4]
   all_goals (first | done | (simp [e,hg]; done) | (simp [e,hg]; omega) | skip)
theorem c_impl_standFor (marks:List Int) (atoms:List Atom) (hlen:atoms.length ≤ 60) (hin:∀ m ∈ marks,m ≠ 0 ∧ -(atoms.length:Int) ≤ m ∧ m ≤ atoms.length) (hl9:marks.length ≤ 900000):C E.P 144 [lv (rowsI marks),lv (rowsAtom atoms)] [] (Eq2 (lv (rowsLit (standFor marks atoms))) []):=by
 have hLB:=LB_eq
 refine C_goS (nt:=28) (rs:=[.tmp 4]) hm Tryz.func144 rfl rfl rfl rfl rfl (fun hl he=>?_)
 simp -implicitDefEqProofs only [go_sem,Z1,Z2,Z3,Z4] at hl ⊢
 refine loop_go1 hm (fun (i:Nat)=> i ≤ marks.length) (fun (i:Nat)=> ⟨mkS 28 .any [(1,lv (rowsAtom atoms)),(5,.acc 0),(8,lv (rowsI marks)),(9,iv marks.length),(10,iv i)],[some (.acc 48 (rowsLit (standFor (marks.take i) atoms)))]⟩) (fun (i:Nat)=> marks.length - i) (0) ?_ (weakS [none] ?_ ?_ rfl rfl) ?_
 rotate_left
 ·simp -implicitDefEqProofs only [go_sem,Z1,Z2,Z3,Z4]
  all_goals (first | done | (simp [standFor,rowsLit]) | (simp [wks_rfl, *]; done) | (simp [wks_rfl]; done) | (simp; omega) | skip)
 ·simp -implicitDefEqProofs only [go_sem,Z1,Z2,Z3,Z4]
  all_goals (first | done | (simp [standFor,rowsLit]) | (simp [wks_rfl, *]; done) | (simp [wks_rfl]; done) | (simp; omega) | skip)
 rotate_left
 ·omega
 ·rintro i hi
  have hv:(standFor (marks.take i) atoms).length = i:=by simp only [standFor,List.length_map,List.length_take]; omega
  rcases Classical.em (i < marks.length) with h1 | h1
  ·obtain ⟨q1,q2,q3⟩:=hin marks[i] (List.getElem_mem h1)
   have q5:((marks[i].natAbs:Int) - 1) = ((marks[i].natAbs - 1:Nat):Int):=by omega
   have q6:marks[i].natAbs - 1 < atoms.length:=by omega
   have q7:atoms.getD (marks[i].natAbs - 1) atom0 = atoms[marks[i].natAbs - 1]:=by simp [List.getD,q6]
   try simp -implicitDefEqProofs only [go_sem,Z1,Z2,Z3,Z4,h1]
   try (with_reducible refine ind_andM (by kernel_rfl) ?_)
   refine atCall [] (c_impl_variable marks[i] (by omega)) ?_ ?_ <;> simp -implicitDefEqProofs only [go_sem,Z1,Z2,Z3,Z4]
   try (with_reducible refine ind_andM (by kernel_rfl) ?_)
   try simp -implicitDefEqProofs only [go_sem,Z1,Z2,Z3,Z4,q5,q6,h1]
   try (with_reducible refine ind_andM (by kernel_rfl) ?_)
   repeat (first | with_reducible refine ind_andM (by kernel_rfl) ?_ | (with_reducible apply And.intro; case left=>first | omega | assumption | exact ⟨rowsT_all _,by omega⟩ | exact ⟨rowsI_all _,by omega⟩ | exact ⟨rowsLit_all _,by omega⟩ | exact ⟨rowsLin_all _,by omega⟩ | exact ⟨rowsEq_all _,by omega⟩ | rfl | (simp [*]; done) | (simp; omega) | exact ⟨rowsRat_all _,by omega⟩ | exact ⟨rowsAtom_all _,by omega⟩ | exact ⟨rowsB_all _,by omega⟩ | exact ⟨rowsForm_all _,by omega⟩ | exact ⟨rowsII_all _,by omega⟩))
   refine ⟨i + 1,?_,?_,weakS [some 1] ?_ ?_ rfl rfl⟩
   rotate_left
   ·show _ < _
    omega
   ·simp -implicitDefEqProofs only [go_sem,Z1,Z2,Z3,Z4]
    all_goals (first | done | ((rw [standFor_snoc h1,q7,← rowsLit_app]; rfl)) | (simp [wks_rfl, *]; done) | (simp [wks_rfl]; done) | (simp; omega) | skip)
   ·simp -implicitDefEqProofs only [go_sem,Z1,Z2,Z3,Z4]
    all_goals (first | done | ((rw [standFor_snoc h1,q7,← rowsLit_app]; rfl)) | (simp [wks_rfl, *]; done) | (simp [wks_rfl]; done) | (simp; omega) | skip)
   exact h1
  ·have et:marks.take i = marks:=List.take_of_length_le (by omega)
   try simp -implicitDefEqProofs only [go_sem,Z1,Z2,Z3,Z4,h1,et]
   try (with_reducible refine ind_andM (by kernel_rfl) ?_)
   refine fin1' ?_
   simp -implicitDefEqProofs only [go_sem,Z1,Z2,Z3,Z4]
end Go.Proofs.YtpidddienjoleaaGreat
