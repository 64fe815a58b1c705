/-
  The program: the walks of clauses and of unit propagation. A step towards the exact laws. The program: the walks of sorting, and of what clauses are made of. A step towards the exact laws.
-/
import Derived.Test.YtpidddienjoleaaGreatKAi
import Derived.Test.YtpidddienjoleaaGreatKAEa
import Derived.Test.YtpidddienjoleaaGreatKAD
import Derived.Test.YtpidddienjoleaaGreatKAG
set_option linter.unusedVariables false
set_option linter.unusedSimpArgs false
namespace Go.Proofs.YtpidddienjoleaaGreat
open Go.Eng Go.Mod
open Int renaming reduceEq → Z1,reduceLT → Z2,reduceLE → Z3,reduceToNat → Z4
set_option maxRecDepth 100000
set_option maxHeartbeats 400000
theorem c_IndexFunc_Ints (f:Nat) (cap:List PV) (hcap:lts 0 cap = true) (p:(List Int) → Bool) (xs:List (List Int)) (hf:∀ x ∈ xs,C E.P f (lv (rowsI x) :: cap) [] (Eq2 (bv (p x)) [])) :
 C E.P 266 [lv (rowsII xs),.fn f cap] [] (Eq2 (iv (idxOf p xs)) []):=by
 have hLB:=LB_eq
 refine C_goS (nt:=19) (rs:=[.tmp 4]) hm Tryz.func266 rfl rfl rfl rfl rfl (fun hl he=>?_)
 simp -implicitDefEqProofs only [go_sem,Z1,Z2,Z3,Z4] at hl ⊢
 refine loop_go1 hm (fun (i:Nat)=> i ≤ xs.length ∧ idxOf p xs = idxGo p (xs.drop i) i) (fun (i:Nat)=> ⟨mkS 19 .any [(0,lv (rowsII xs)),(1,.fn f cap),(7,iv xs.length),(8,iv i)],[]⟩) (fun (i:Nat)=> xs.length - i) (0) ?_ (weakS [] ?_ ?_ rfl rfl) ?_
 rotate_left
 ·simp -implicitDefEqProofs only [go_sem,Z1,Z2,Z3,Z4]
  all_goals (first | done | (simp [wks_rfl, *]; done) | (simp [wks_rfl]; done) | (simp; omega) | skip)
 ·simp -implicitDefEqProofs only [go_sem,Z1,Z2,Z3,Z4]
  all_goals (first | done | (simp [wks_rfl, *]; done) | (simp [wks_rfl]; done) | (simp; omega) | skip)
 rotate_left
 ·simp [idxOf]
 ·rintro i ⟨hi,hg⟩
  rcases Classical.em (i < xs.length) with h1 | h1
  ·rw [List.drop_eq_getElem_cons h1,idxGo] at hg
   try simp -implicitDefEqProofs only [go_sem,Z1,Z2,Z3,Z4,h1]
   try (with_reducible refine ind_andM (by kernel_rfl) ?_)
   have hc:=hf xs[i] (List.getElem_mem h1)
   refine atCall cap hc ?_ ?_ <;> simp -implicitDefEqProofs only [go_sem,Z1,Z2,Z3,Z4,hcap]
   try (with_reducible refine ind_andM (by kernel_rfl) ?_)
   cases h2:p xs[i]
   ·rw [h2] at hg
    simp only [Bool.false_eq_true,if_false] at hg
    try simp -implicitDefEqProofs only [go_sem,Z1,Z2,Z3,Z4]
    try (with_reducible refine ind_andM (by kernel_rfl) ?_)
    refine ⟨by omega,?_⟩
    refine ⟨i + 1,?_,?_,weakS [] ?_ ?_ rfl rfl⟩
    rotate_left
    ·show _ < _
     omega
    ·simp -implicitDefEqProofs only [go_sem,Z1,Z2,Z3,Z4]
     all_goals (first | done | (simp [wks_rfl, *]; done) | (simp [wks_rfl]; done) | (simp; omega) | skip)
    ·simp -implicitDefEqProofs only [go_sem,Z1,Z2,Z3,Z4]
     all_goals (first | done | (simp [wks_rfl, *]; done) | (simp [wks_rfl]; done) | (simp; omega) | skip)
    exact ⟨by omega,hg⟩
   ·rw [h2] at hg
    simp only [if_true] at hg
    try simp -implicitDefEqProofs only [go_sem,Z1,Z2,Z3,Z4]
    try (with_reducible refine ind_andM (by kernel_rfl) ?_)
    refine fin1' ?_
    simp -implicitDefEqProofs only [go_sem,Z1,Z2,Z3,Z4]
    all_goals (first | done | (simp [hg]; done) | (simp [hg]; omega) | skip)
  ·rw [List.drop_of_length_le (by omega),idxGo] at hg
   try simp -implicitDefEqProofs only [go_sem,Z1,Z2,Z3,Z4,h1]
   try (with_reducible refine ind_andM (by kernel_rfl) ?_)
   refine fin1' ?_
   simp -implicitDefEqProofs only [go_sem,Z1,Z2,Z3,Z4]
   all_goals (first | done | (simp [hg]; done) | (simp [hg]; omega) | skip)
theorem c_ContainsFunc_Ints (f:Nat) (cap:List PV) (hcap:lts 0 cap = true) (p:(List Int) → Bool) (xs:List (List Int)) (hf:∀ x ∈ xs,C E.P f (lv (rowsI x) :: cap) [] (Eq2 (bv (p x)) [])) :
 C E.P 240 [lv (rowsII xs),.fn f cap] [] (Eq2 (bv (xs.any p)) []):=by
 have hLB:=LB_eq
 refine C_goS (nt:=9) (rs:=[.tmp 4]) hm Tryz.func240 rfl rfl rfl rfl rfl (fun hl he=>?_)
 simp -implicitDefEqProofs only [go_sem,Z1,Z2,Z3,Z4] at hl ⊢
 refine atCall [] (c_IndexFunc_Ints f cap hcap p xs hf) ?_ ?_ <;> simp -implicitDefEqProofs only [go_sem,Z1,Z2,Z3,Z4,hcap]
 try (with_reducible refine ind_andM (by kernel_rfl) ?_)
 refine fin1' ?_
 simp -implicitDefEqProofs only [go_sem,Z1,Z2,Z3,Z4]
 all_goals (first | done | (simp [idx_any]; done) | (simp [idx_any]; omega) | skip)
theorem c_impl_ClauseOk (c:List Int) (many:Int):C E.P 242 [lv (rowsI c),iv many] [] (Eq2 (bv (clauseOk c many)) []):=by
 have hLB:=LB_eq
 refine C_goS (nt:=37) (rs:=[.tmp 4]) hm Tryz.func242 rfl rfl rfl rfl rfl (fun hl he=>?_)
 simp -implicitDefEqProofs only [go_sem,Z1,Z2,Z3,Z4] at hl ⊢
 refine atCall [] (c_impl_within many 0 60) ?_ ?_ <;> simp -implicitDefEqProofs only [go_sem,Z1,Z2,Z3,Z4]
 try (with_reducible refine ind_andM (by kernel_rfl) ?_)
 cases hw:within many 0 60
 ·try simp -implicitDefEqProofs only [go_sem,Z1,Z2,Z3,Z4]
  try (with_reducible refine ind_andM (by kernel_rfl) ?_)
  refine fin1' ?_
  simp -implicitDefEqProofs only [go_sem,Z1,Z2,Z3,Z4]
  all_goals (first | done | (simp [clauseOk,hw]; done) | (simp [clauseOk,hw]; omega) | skip)
 ·have hb:=withinB_iff.1 hw
  obtain ⟨m,rfl⟩:∃ m:Nat,many = (m:Int):=⟨many.toNat,by omega⟩
  have e:clauseOk c m = clauseGo m (prevI c 0) (c.drop 0):=by simp [clauseOk,hw,prevI]
  try simp -implicitDefEqProofs only [go_sem,Z1,Z2,Z3,Z4]
  try (with_reducible refine ind_andM (by kernel_rfl) ?_)
  refine loop_go1 hm (fun (i:Nat)=> i ≤ c.length ∧ (∀ q,prevI c i = some q → -60 ≤ q ∧ q ≤ 60) ∧ clauseOk c m = clauseGo m (prevI c i) (c.drop i)) (fun (i:Nat)=> ⟨mkS 37 .any [(0,lv (rowsI c)),(1,iv m),(10,lv (rowsI c)),(11,iv c.length),(12,iv i)],[]⟩) (fun (i:Nat)=> c.length - i) (0) ?_ (weakS [] ?_ ?_ rfl rfl) ?_
  rotate_left
  ·simp -implicitDefEqProofs only [go_sem,Z1,Z2,Z3,Z4]
   all_goals (first | done | (simp [wks_rfl, *]; done) | (simp [wks_rfl]; done) | (simp; omega) | skip)
  ·simp -implicitDefEqProofs only [go_sem,Z1,Z2,Z3,Z4]
   all_goals (first | done | (simp [wks_rfl, *]; done) | (simp [wks_rfl]; done) | (simp; omega) | skip)
  rotate_left
  ·exact ⟨by omega,by simp [prevI],e⟩
  ·rintro i ⟨hi,hq,hg⟩
   rcases Classical.em (i < c.length) with h1 | h1
   ·have hpq:∀ q,prevI c (i + 1) = some q → q = c[i]:=fun q h=>by rw [prevI_succ h1] at h; exact (Option.some.inj h).symm
    try simp -implicitDefEqProofs only [go_sem,Z1,Z2,Z3,Z4,h1]
    try (with_reducible refine ind_andM (by kernel_rfl) ?_)
    refine atCall [] (c_impl_isMark c[i] m (by omega)) ?_ ?_ <;> simp -implicitDefEqProofs only [go_sem,Z1,Z2,Z3,Z4]
    try (with_reducible refine ind_andM (by kernel_rfl) ?_)
    rcases Classical.em ((0:Int) < (i:Int)) with h0 | h0
    ·have h1p:i - 1 < c.length:=by omega
     have q5:((i:Int) - 1) = ((i - 1:Nat):Int):=by omega
     have hqb:=hq c[i - 1] (by simp [prevI,h1p]; omega)
     rw [clauseGo_succ h1 (by omega) h1p] at hg
     cases h2:isMark c[i] m
     ·rw [h2,Bool.false_and] at hg
      try simp -implicitDefEqProofs only [go_sem,Z1,Z2,Z3,Z4]
      try (with_reducible refine ind_andM (by kernel_rfl) ?_)
      refine fin1' ?_
      simp -implicitDefEqProofs only [go_sem,Z1,Z2,Z3,Z4]
      all_goals (first | done | (simp [hg]; done) | (simp [hg]; omega) | skip)
     ·have hb2:=isMark_iff.1 h2
      rw [h2,Bool.true_and] at hg
      try simp -implicitDefEqProofs only [go_sem,Z1,Z2,Z3,Z4,h0,q5,h1p]
      try (with_reducible refine ind_andM (by kernel_rfl) ?_)
      repeat (first | with_reducible refine ind_andM (by kernel_rfl) ?_ | (with_reducible apply And.intro; case left=>first | omega | assumption | exact ⟨rowsT_all _,by omega⟩ | exact ⟨rowsI_all _,by omega⟩ | exact ⟨rowsLit_all _,by omega⟩ | exact ⟨rowsLin_all _,by omega⟩ | exact ⟨rowsEq_all _,by omega⟩ | rfl | (simp [*]; done) | (simp; omega) | exact ⟨rowsRat_all _,by omega⟩ | exact ⟨rowsAtom_all _,by omega⟩ | exact ⟨rowsB_all _,by omega⟩ | exact ⟨rowsForm_all _,by omega⟩ | exact ⟨rowsII_all _,by omega⟩))
      refine atCall [] (c_impl_variable c[i - 1] hqb) ?_ ?_ <;> simp -implicitDefEqProofs only [go_sem,Z1,Z2,Z3,Z4]
      try (with_reducible refine ind_andM (by kernel_rfl) ?_)
      refine atCall [] (c_impl_variable c[i] (by omega)) ?_ ?_ <;> simp -implicitDefEqProofs only [go_sem,Z1,Z2,Z3,Z4]
      try (with_reducible refine ind_andM (by kernel_rfl) ?_)
      rcases Classical.em ((c[i].natAbs:Int) ≤ (c[i - 1].natAbs:Int)) with h3 | h3
      ·have h3':¬ c[i - 1].natAbs < c[i].natAbs:=by omega
       simp only [h3',decide_false,Bool.false_and] at hg
       have h3n:c[i].natAbs ≤ c[i - 1].natAbs:=by omega
       try simp -implicitDefEqProofs only [go_sem,Z1,Z2,Z3,Z4,h3n]
       try (with_reducible refine ind_andM (by kernel_rfl) ?_)
       refine fin1' ?_
       simp -implicitDefEqProofs only [go_sem,Z1,Z2,Z3,Z4]
       all_goals (first | done | (simp [hg]; done) | (simp [hg]; omega) | skip)
      ·have h3':c[i - 1].natAbs < c[i].natAbs:=by omega
       have h3n:¬ c[i].natAbs ≤ c[i - 1].natAbs:=by omega
       simp only [h3',decide_true,Bool.true_and] at hg
       try simp -implicitDefEqProofs only [go_sem,Z1,Z2,Z3,Z4,h3n]
       try (with_reducible refine ind_andM (by kernel_rfl) ?_)
       repeat (first | with_reducible refine ind_andM (by kernel_rfl) ?_ | (with_reducible apply And.intro; case left=>first | omega | assumption | exact ⟨rowsT_all _,by omega⟩ | exact ⟨rowsI_all _,by omega⟩ | exact ⟨rowsLit_all _,by omega⟩ | exact ⟨rowsLin_all _,by omega⟩ | exact ⟨rowsEq_all _,by omega⟩ | rfl | (simp [*]; done) | (simp; omega) | exact ⟨rowsRat_all _,by omega⟩ | exact ⟨rowsAtom_all _,by omega⟩ | exact ⟨rowsB_all _,by omega⟩ | exact ⟨rowsForm_all _,by omega⟩ | exact ⟨rowsII_all _,by omega⟩))
       refine ⟨i + 1,?_,?_,weakS [] ?_ ?_ rfl rfl⟩
       rotate_left
       ·show _ < _
        omega
       ·simp -implicitDefEqProofs only [go_sem,Z1,Z2,Z3,Z4]
        all_goals (first | done | (simp [wks_rfl, *]; done) | (simp [wks_rfl]; done) | (simp; omega) | skip)
       ·simp -implicitDefEqProofs only [go_sem,Z1,Z2,Z3,Z4]
        all_goals (first | done | (simp [wks_rfl, *]; done) | (simp [wks_rfl]; done) | (simp; omega) | skip)
       exact ⟨by omega,fun q h=>by rw [hpq q h]; omega,hg⟩
    ·rw [clauseGo_zero h1 (by omega)] at hg
     cases h2:isMark c[i] m
     ·rw [h2,Bool.false_and] at hg
      try simp -implicitDefEqProofs only [go_sem,Z1,Z2,Z3,Z4]
      try (with_reducible refine ind_andM (by kernel_rfl) ?_)
      refine fin1' ?_
      simp -implicitDefEqProofs only [go_sem,Z1,Z2,Z3,Z4]
      all_goals (first | done | (simp [hg]; done) | (simp [hg]; omega) | skip)
     ·have hb2:=isMark_iff.1 h2
      rw [h2,Bool.true_and] at hg
      try simp -implicitDefEqProofs only [go_sem,Z1,Z2,Z3,Z4,h0]
      try (with_reducible refine ind_andM (by kernel_rfl) ?_)
      repeat (first | with_reducible refine ind_andM (by kernel_rfl) ?_ | (with_reducible apply And.intro; case left=>first | omega | assumption | exact ⟨rowsT_all _,by omega⟩ | exact ⟨rowsI_all _,by omega⟩ | exact ⟨rowsLit_all _,by omega⟩ | exact ⟨rowsLin_all _,by omega⟩ | exact ⟨rowsEq_all _,by omega⟩ | rfl | (simp [*]; done) | (simp; omega) | exact ⟨rowsRat_all _,by omega⟩ | exact ⟨rowsAtom_all _,by omega⟩ | exact ⟨rowsB_all _,by omega⟩ | exact ⟨rowsForm_all _,by omega⟩ | exact ⟨rowsII_all _,by omega⟩))
      refine ⟨i + 1,?_,?_,weakS [] ?_ ?_ rfl rfl⟩
      rotate_left
      ·show _ < _
       omega
      ·simp -implicitDefEqProofs only [go_sem,Z1,Z2,Z3,Z4]
       all_goals (first | done | (simp [wks_rfl, *]; done) | (simp [wks_rfl]; done) | (simp; omega) | skip)
      ·simp -implicitDefEqProofs only [go_sem,Z1,Z2,Z3,Z4]
       all_goals (first | done | (simp [wks_rfl, *]; done) | (simp [wks_rfl]; done) | (simp; omega) | skip)
      exact ⟨by omega,fun q h=>by rw [hpq q h]; omega,hg⟩
   ·rw [List.drop_of_length_le (by omega),clauseGo] at hg
    try simp -implicitDefEqProofs only [go_sem,Z1,Z2,Z3,Z4,h1]
    try (with_reducible refine ind_andM (by kernel_rfl) ?_)
    refine fin1' ?_
    simp -implicitDefEqProofs only [go_sem,Z1,Z2,Z3,Z4]
    all_goals (first | done | (simp [hg]; done) | (simp [hg]; omega) | skip)
theorem c_impl_CnfOk_1 (c:Mod.Cnf) (x:List Int):C E.P 241 [lv (rowsI x),.iptr [cCnf c] 0 0] [] (Eq2 (bv (!clauseOk x c.many)) []):=by
 have hLB:=LB_eq
 refine C_goS (nt:=9) (rs:=[.tmp 3]) hm Tryz.func241 rfl rfl rfl rfl rfl (fun hl he=>?_)
 simp -implicitDefEqProofs only [go_sem,Z1,Z2,Z3,Z4] at hl ⊢
 refine atCall [] (c_impl_ClauseOk x c.many) ?_ ?_ <;> simp -implicitDefEqProofs only [go_sem,Z1,Z2,Z3,Z4]
 try (with_reducible refine ind_andM (by kernel_rfl) ?_)
 refine fin1' ?_
 simp -implicitDefEqProofs only [go_sem,Z1,Z2,Z3,Z4]
 all_goals (first | done | (simp; done) | (simp; omega) | skip)
theorem c_impl_CnfOk (c:Mod.Cnf):C E.P 202 [av (cCnf c)] [] (Eq2 (bv (cnfOk c)) []):=by
 have hLB:=LB_eq
 refine C_goS (nt:=18) (rs:=[.tmp 2]) hm Tryz.func202 rfl rfl rfl rfl rfl (fun hl he=>?_)
 simp -implicitDefEqProofs only [go_sem,Z1,Z2,Z3,Z4] at hl ⊢
 refine atCall [] (c_impl_within c.many 0 60) ?_ ?_ <;> simp -implicitDefEqProofs only [go_sem,Z1,Z2,Z3,Z4]
 try (with_reducible refine ind_andM (by kernel_rfl) ?_)
 cases h1:within c.many 0 60
 ·try simp -implicitDefEqProofs only [go_sem,Z1,Z2,Z3,Z4]
  try (with_reducible refine ind_andM (by kernel_rfl) ?_)
  refine fin1' ?_
  simp -implicitDefEqProofs only [go_sem,Z1,Z2,Z3,Z4]
  all_goals (first | done | (simp [cnfOk,h1]; done) | (simp [cnfOk,h1]; omega) | skip)
 ·rcases Classical.em ((400:Int) < (c.list.length:Int)) with h2 | h2
  ·have h2':¬ c.list.length ≤ 400:=by omega
   try simp -implicitDefEqProofs only [go_sem,Z1,Z2,Z3,Z4,h2]
   try (with_reducible refine ind_andM (by kernel_rfl) ?_)
   refine fin1' ?_
   simp -implicitDefEqProofs only [go_sem,Z1,Z2,Z3,Z4]
   all_goals (first | done | (simp [cnfOk,h2']; done) | (simp [cnfOk,h2']; omega) | skip)
  ·have h2':c.list.length ≤ 400:=by omega
   have e:cnfOk c = !(c.list.any fun x=>!clauseOk x c.many):=by simp [cnfOk,h1,h2',List.all_eq_not_any_not]
   try simp -implicitDefEqProofs only [go_sem,Z1,Z2,Z3,Z4,h2]
   try (with_reducible refine ind_andM (by kernel_rfl) ?_)
   refine atLook [] [0] (c_ContainsFunc_Ints 241 [.iptr [cCnf c] 0 0] rfl (fun x=>!clauseOk x c.many) c.list (fun x _=>c_impl_CnfOk_1 c x)) rfl ?_ ?_ ?_
   ·(simp -implicitDefEqProofs only [go_sem,Z1,Z2,Z3,Z4]; repeat' (first | exact Vws.nil | apply Vws.cons | exact Vw.same (by first | rfl | simp -implicitDefEqProofs only [go_sem,Z1,Z2,Z3,Z4]) | exact Vw.acc rfl rfl | exact Vw.tre rfl rfl (by simp -implicitDefEqProofs only [go_sem,Z1,Z2,Z3,Z4]) | exact Vw.nil | apply Vw.agg | apply Vw.fn | refine Vw.box rfl rfl ?_))
   all_goals simp -implicitDefEqProofs only [go_sem,Z1,Z2,Z3,Z4]
   try (with_reducible refine ind_andM (by kernel_rfl) ?_)
   refine fin1' ?_
   simp -implicitDefEqProofs only [go_sem,Z1,Z2,Z3,Z4]
   all_goals (first | done | (simp [e]; done) | (simp [e]; omega) | skip)
theorem c_impl_unit (c put:List Int) (hc9:∀ l ∈ c,l ≠ 0 ∧ l.natAbs ≤ 60) (hl9:c.length ≤ 1000):C E.P 267 [lv (rowsI c),lv (rowsI put)] [] (Eq2 (.tup [iv (unit put c).1,bv (unit put c).2]) []):=by
 rw [unit_unitI]
 have hLB:=LB_eq
 refine C_goS (nt:=35) (rs:=[.tmp 4,.tmp 5]) hm Tryz.func267 rfl rfl rfl rfl rfl (fun hl he=>?_)
 simp -implicitDefEqProofs only [go_sem,Z1,Z2,Z3,Z4] at hl ⊢
 refine loop_go3 hm (fun (i:Nat) (f:Int) (n:Int)=> i ≤ c.length ∧ 0 ≤ n ∧ n ≤ i ∧ unitI put c 0 0 = unitI put (c.drop i) f n) (fun (i:Nat) (f:Int) (n:Int)=> ⟨mkS 35 .any [(1,lv (rowsI put)),(6,iv f),(7,iv n),(10,lv (rowsI c)),(11,iv c.length),(12,iv i)],[]⟩) (fun (i:Nat) (f:Int) (n:Int)=> c.length - i) (0) (0) (0) ?_ (weakS [] ?_ ?_ rfl rfl) ?_
 rotate_left
 ·simp -implicitDefEqProofs only [go_sem,Z1,Z2,Z3,Z4]
  all_goals (first | done | (simp [wks_rfl, *]; done) | (simp [wks_rfl]; done) | (simp; omega) | skip)
 ·simp -implicitDefEqProofs only [go_sem,Z1,Z2,Z3,Z4]
  all_goals (first | done | (simp [wks_rfl, *]; done) | (simp [wks_rfl]; done) | (simp; omega) | skip)
 rotate_left
 ·simp
 ·rintro i f n ⟨hi,hn0,hn,hg⟩
  rcases Classical.em (i < c.length) with h1 | h1
  ·have hb:=hc9 c[i] (List.getElem_mem h1)
   rw [List.drop_eq_getElem_cons h1,unitI] at hg
   try simp -implicitDefEqProofs only [go_sem,Z1,Z2,Z3,Z4,h1]
   try (with_reducible refine ind_andM (by kernel_rfl) ?_)
   refine atCall [] (c_Contains_int put c[i]) ?_ ?_ <;> simp -implicitDefEqProofs only [go_sem,Z1,Z2,Z3,Z4]
   try (with_reducible refine ind_andM (by kernel_rfl) ?_)
   cases h2:put.contains c[i]
   ·rw [h2] at hg
    simp only [Bool.false_eq_true,if_false] at hg
    try simp -implicitDefEqProofs only [go_sem,Z1,Z2,Z3,Z4]
    try (with_reducible refine ind_andM (by kernel_rfl) ?_)
    repeat (first | with_reducible refine ind_andM (by kernel_rfl) ?_ | (with_reducible apply And.intro; case left=>first | omega | assumption | exact ⟨rowsT_all _,by omega⟩ | exact ⟨rowsI_all _,by omega⟩ | exact ⟨rowsLit_all _,by omega⟩ | exact ⟨rowsLin_all _,by omega⟩ | exact ⟨rowsEq_all _,by omega⟩ | rfl | (simp [*]; done) | (simp; omega) | exact ⟨rowsRat_all _,by omega⟩ | exact ⟨rowsAtom_all _,by omega⟩ | exact ⟨rowsB_all _,by omega⟩ | exact ⟨rowsForm_all _,by omega⟩ | exact ⟨rowsII_all _,by omega⟩))
    refine atCall [] (c_Contains_int put (-c[i])) ?_ ?_ <;> simp -implicitDefEqProofs only [go_sem,Z1,Z2,Z3,Z4]
    try (with_reducible refine ind_andM (by kernel_rfl) ?_)
    cases h3:put.contains (-c[i])
    ·rw [h3] at hg
     simp only [Bool.false_eq_true,if_false] at hg
     try simp -implicitDefEqProofs only [go_sem,Z1,Z2,Z3,Z4]
     try (with_reducible refine ind_andM (by kernel_rfl) ?_)
     repeat (first | with_reducible refine ind_andM (by kernel_rfl) ?_ | (with_reducible apply And.intro; case left=>first | omega | assumption | exact ⟨rowsT_all _,by omega⟩ | exact ⟨rowsI_all _,by omega⟩ | exact ⟨rowsLit_all _,by omega⟩ | exact ⟨rowsLin_all _,by omega⟩ | exact ⟨rowsEq_all _,by omega⟩ | rfl | (simp [*]; done) | (simp; omega) | exact ⟨rowsRat_all _,by omega⟩ | exact ⟨rowsAtom_all _,by omega⟩ | exact ⟨rowsB_all _,by omega⟩ | exact ⟨rowsForm_all _,by omega⟩ | exact ⟨rowsII_all _,by omega⟩))
     refine ⟨i + 1,c[i],n + 1,?_,?_,weakS [] ?_ ?_ rfl rfl⟩
     rotate_left
     ·show _ < _
      omega
     ·simp -implicitDefEqProofs only [go_sem,Z1,Z2,Z3,Z4]
      all_goals (first | done | (simp [wks_rfl, *]; done) | (simp [wks_rfl]; done) | (simp; omega) | skip)
     ·simp -implicitDefEqProofs only [go_sem,Z1,Z2,Z3,Z4]
      all_goals (first | done | (simp [wks_rfl, *]; done) | (simp [wks_rfl]; done) | (simp; omega) | skip)
     exact ⟨by omega,by omega,by omega,hg⟩
    ·rw [h3] at hg
     simp only [if_true] at hg
     try simp -implicitDefEqProofs only [go_sem,Z1,Z2,Z3,Z4]
     try (with_reducible refine ind_andM (by kernel_rfl) ?_)
     repeat (first | with_reducible refine ind_andM (by kernel_rfl) ?_ | (with_reducible apply And.intro; case left=>first | omega | assumption | exact ⟨rowsT_all _,by omega⟩ | exact ⟨rowsI_all _,by omega⟩ | exact ⟨rowsLit_all _,by omega⟩ | exact ⟨rowsLin_all _,by omega⟩ | exact ⟨rowsEq_all _,by omega⟩ | rfl | (simp [*]; done) | (simp; omega) | exact ⟨rowsRat_all _,by omega⟩ | exact ⟨rowsAtom_all _,by omega⟩ | exact ⟨rowsB_all _,by omega⟩ | exact ⟨rowsForm_all _,by omega⟩ | exact ⟨rowsII_all _,by omega⟩))
     refine ⟨i + 1,f,n,?_,?_,weakS [] ?_ ?_ rfl rfl⟩
     rotate_left
     ·show _ < _
      omega
     ·simp -implicitDefEqProofs only [go_sem,Z1,Z2,Z3,Z4]
      all_goals (first | done | (simp [wks_rfl, *]; done) | (simp [wks_rfl]; done) | (simp; omega) | skip)
     ·simp -implicitDefEqProofs only [go_sem,Z1,Z2,Z3,Z4]
      all_goals (first | done | (simp [wks_rfl, *]; done) | (simp [wks_rfl]; done) | (simp; omega) | skip)
     exact ⟨by omega,by omega,by omega,hg⟩
   ·rw [h2] at hg
    simp only [if_true] at hg
    try simp -implicitDefEqProofs only [go_sem,Z1,Z2,Z3,Z4]
    try (with_reducible refine ind_andM (by kernel_rfl) ?_)
    refine fin1' ?_
    simp -implicitDefEqProofs only [go_sem,Z1,Z2,Z3,Z4]
    all_goals (first | done | (simp [hg]; done) | (simp [hg]; omega) | skip)
  ·rw [List.drop_of_length_le (by omega),unitI] at hg
   rcases Classical.em (1 < n) with h2 | h2
   ·have h3:¬ n = 0:=by omega
    try simp -implicitDefEqProofs only [go_sem,Z1,Z2,Z3,Z4,h1,h2]
    try (with_reducible refine ind_andM (by kernel_rfl) ?_)
    refine fin1' ?_
    simp -implicitDefEqProofs only [go_sem,Z1,Z2,Z3,Z4]
    all_goals (first | done | (simp [hg,h2,h3]; done) | (simp [hg,h2,h3]; omega) | skip)
   ·try simp -implicitDefEqProofs only [go_sem,Z1,Z2,Z3,Z4,h1,h2]
    try (with_reducible refine ind_andM (by kernel_rfl) ?_)
    refine fin1' ?_
    simp -implicitDefEqProofs only [go_sem,Z1,Z2,Z3,Z4]
    all_goals (first | done | (simp [hg,h2]; done) | (simp [hg,h2]; omega) | skip)
theorem c_Clone_int_nilO:C E.P 110 [.nilS] [] (Eq2 .nilS []):=by
 have hLB:=LB_eq
 refine C_goS (nt:=8) (rs:=[.tmp 2]) hm Tryz.func110 rfl rfl rfl rfl rfl (fun hl he=>?_)
 simp -implicitDefEqProofs only [go_sem,Z1,Z2,Z3,Z4] at hl ⊢
 refine atNil 3 _ true rfl rfl (by simp -implicitDefEqProofs only [go_sem,Z1,Z2,Z3,Z4]) eqnil_nil ?_
 try simp -implicitDefEqProofs only [go_sem,Z1,Z2,Z3,Z4]
 try (with_reducible refine ind_andM (by kernel_rfl) ?_)
 refine fin1' ?_
 simp -implicitDefEqProofs only [go_sem,Z1,Z2,Z3,Z4]
theorem c_Clone_int_valO (a:Addr) (c:Nat):C E.P 110 [.d (.val (.slice (some a) 0 c))] [] (Eq2 (.acc 0) [some (.acc 3 (rowsI []))]):=by
 have hLB:=LB_eq
 refine C_goS (nt:=8) (rs:=[.tmp 2]) hm Tryz.func110 rfl rfl rfl rfl rfl (fun hl he=>?_)
 simp -implicitDefEqProofs only [go_sem,Z1,Z2,Z3,Z4] at hl ⊢
 refine atNil 3 _ false rfl rfl (p:=.d (.val (.slice (some a) 0 c))) (by simp -implicitDefEqProofs only [go_sem,Z1,Z2,Z3,Z4]) (eqnil_val _ _ _) ?_
 try simp -implicitDefEqProofs only [go_sem,Z1,Z2,Z3,Z4]
 try (with_reducible refine ind_andM (by kernel_rfl) ?_)
 repeat (first | with_reducible refine ind_andM (by kernel_rfl) ?_ | (with_reducible apply And.intro; case left=>first | omega | assumption | exact ⟨rowsT_all _,by omega⟩ | exact ⟨rowsI_all _,by omega⟩ | exact ⟨rowsLit_all _,by omega⟩ | exact ⟨rowsLin_all _,by omega⟩ | exact ⟨rowsEq_all _,by omega⟩ | rfl | (simp [*]; done) | (simp; omega) | exact ⟨rowsRat_all _,by omega⟩ | exact ⟨rowsAtom_all _,by omega⟩ | exact ⟨rowsB_all _,by omega⟩ | exact ⟨rowsForm_all _,by omega⟩ | exact ⟨rowsII_all _,by omega⟩))
 refine finM' [some 1] ?_ rfl rfl
 simp -implicitDefEqProofs only [go_sem,Z1,Z2,Z3,Z4]
theorem c_Clone_int_consO (r:List D) (rs:List (List D)) (hl1:rs.length ≤ 1000) (h1:∀ y ∈ r :: rs,y.length = 1):C E.P 110 [.d (.lst (r :: rs))] [] (Eq2 (.acc 0) [some (.acc 3 (r :: rs))]):=by
 have hLB:=LB_eq
 refine C_goS (nt:=8) (rs:=[.tmp 2]) hm Tryz.func110 rfl rfl rfl rfl rfl (fun hl he=>?_)
 simp -implicitDefEqProofs only [go_sem,Z1,Z2,Z3,Z4] at hl ⊢
 refine atNil 3 _ false rfl rfl (p:=.d (.lst (r :: rs))) (by simp -implicitDefEqProofs only [go_sem,Z1,Z2,Z3,Z4]) eqnil_lst ?_
 try simp -implicitDefEqProofs only [go_sem,Z1,Z2,Z3,Z4]
 try (with_reducible refine ind_andM (by kernel_rfl) ?_)
 refine And.intro ⟨?_,by omega,by omega⟩ ?_
 ·simpa using h1
 refine finM' [some 1] ?_ rfl rfl
 simp -implicitDefEqProofs only [go_sem,Z1,Z2,Z3,Z4]
theorem c_impl_units_nil (list:List (List Int)) (hc9:∀ x ∈ list,(∀ l ∈ x,l ≠ 0 ∧ l.natAbs ≤ 60) ∧ x.length ≤ 1000):C E.P 243 [lv (rowsII list),.nilS] [] (Eq2 (.tup [lv (rowsI (units list []).1),bv (units list []).2]) []):=by
 have hp9:PutOk []:=⟨List.Pairwise.nil,by simp⟩
 generalize hput:([]:List Int) = put at hp9 ⊢
 have hLB:=LB_eq
 refine C_goS (nt:=39) (rs:=[.tmp 4,.tmp 5]) hm Tryz.func243 rfl rfl rfl rfl rfl (fun hl he=>?_)
 simp -implicitDefEqProofs only [go_sem,Z1,Z2,Z3,Z4] at hl ⊢
 refine atCall [] c_Clone_int_nilO ?_ ?_ <;> simp -implicitDefEqProofs only [go_sem,Z1,Z2,Z3,Z4]
 try (with_reducible refine ind_andM (by kernel_rfl) ?_)
 try simp -implicitDefEqProofs only [go_sem,Z1,Z2,Z3,Z4]
 try (with_reducible refine ind_andM (by kernel_rfl) ?_)
 refine loop_go1 hm (fun (p:List Int)=> PutOk p ∧ units list put = units list p) (fun (p:List Int)=> ⟨mkS 39 .any [(0,lv (rowsII list)),(6,.acc 0)],[some (.acc 3 (rowsI p))]⟩) (fun (p:List Int)=> 61 - p.length) (put) ?_ (weakS [none] ?_ ?_ rfl rfl) ?_
 rotate_left
 ·simp -implicitDefEqProofs only [go_sem,Z1,Z2,Z3,Z4]
  all_goals (first | done | ((rw [← hput]; rfl)) | (simp [wks_rfl, *]; done) | (simp [wks_rfl]; done) | (simp; omega) | skip)
 ·simp -implicitDefEqProofs only [go_sem,Z1,Z2,Z3,Z4]
  all_goals (first | done | ((rw [← hput]; rfl)) | (simp [wks_rfl, *]; done) | (simp [wks_rfl]; done) | (simp; omega) | skip)
 rotate_left
 ·exact ⟨hp9,rfl⟩
 ·rintro p ⟨hp,hu⟩
  have hl:=put_len hp
  have hst:=units_step (list:=list) hl
  try simp -implicitDefEqProofs only [go_sem,Z1,Z2,Z3,Z4]
  try (with_reducible refine ind_andM (by kernel_rfl) ?_)
  refine loop_go1 hm (fun (i:Nat)=> i ≤ list.length ∧ scan p list = scan p (list.drop i)) (fun (i:Nat)=> ⟨mkS 39 .any [(0,lv (rowsII list)),(6,.acc 0),(7,iv 0),(14,lv (rowsII list)),(15,iv list.length),(16,iv i)],[some (.acc 3 (rowsI p))]⟩) (fun (i:Nat)=> list.length - i) (0) ?_ (weakS [some 0] ?_ ?_ rfl rfl) ?_
  rotate_left
  ·simp -implicitDefEqProofs only [go_sem,Z1,Z2,Z3,Z4]
   all_goals (first | done | (simp [wks_rfl, *]; done) | (simp [wks_rfl]; done) | (simp; omega) | skip)
  ·simp -implicitDefEqProofs only [go_sem,Z1,Z2,Z3,Z4]
   all_goals (first | done | (simp [wks_rfl, *]; done) | (simp [wks_rfl]; done) | (simp; omega) | skip)
  rotate_left
  ·simp
  ·rintro i ⟨hi,hs⟩
   rcases Classical.em (i < list.length) with h1 | h1
   ·obtain ⟨b1,b2⟩:=hc9 list[i] (List.getElem_mem h1)
    rw [scan_drop h1] at hs
    try simp -implicitDefEqProofs only [go_sem,Z1,Z2,Z3,Z4,h1]
    try (with_reducible refine ind_andM (by kernel_rfl) ?_)
    refine atLook [] [0] (c_impl_unit list[i] p b1 b2) rfl ?_ ?_ ?_
    ·(simp -implicitDefEqProofs only [go_sem,Z1,Z2,Z3,Z4]; repeat' (first | exact Vws.nil | apply Vws.cons | exact Vw.same (by first | rfl | simp -implicitDefEqProofs only [go_sem,Z1,Z2,Z3,Z4]) | exact Vw.acc rfl rfl | exact Vw.tre rfl rfl (by simp -implicitDefEqProofs only [go_sem,Z1,Z2,Z3,Z4]) | exact Vw.nil | apply Vw.agg | apply Vw.fn | refine Vw.box rfl rfl ?_))
    all_goals simp -implicitDefEqProofs only [go_sem,Z1,Z2,Z3,Z4,h1]
    try (with_reducible refine ind_andM (by kernel_rfl) ?_)
    cases u1:(unit p list[i]).2
    ·rw [u1] at hs
     simp only [Bool.false_eq_true,if_false] at hs
     rcases Classical.em ((unit p list[i]).1 = 0) with u2 | u2
     ·have k2:=eq_true u2
      rw [if_pos u2] at hs
      try simp -implicitDefEqProofs only [go_sem,Z1,Z2,Z3,Z4,k2]
      try (with_reducible refine ind_andM (by kernel_rfl) ?_)
      repeat (first | with_reducible refine ind_andM (by kernel_rfl) ?_ | (with_reducible apply And.intro; case left=>first | omega | assumption | exact ⟨rowsT_all _,by omega⟩ | exact ⟨rowsI_all _,by omega⟩ | exact ⟨rowsLit_all _,by omega⟩ | exact ⟨rowsLin_all _,by omega⟩ | exact ⟨rowsEq_all _,by omega⟩ | rfl | (simp [*]; done) | (simp; omega) | exact ⟨rowsRat_all _,by omega⟩ | exact ⟨rowsAtom_all _,by omega⟩ | exact ⟨rowsB_all _,by omega⟩ | exact ⟨rowsForm_all _,by omega⟩ | exact ⟨rowsII_all _,by omega⟩))
      refine ⟨i + 1,?_,?_,weakS [some 0] ?_ ?_ rfl rfl⟩
      rotate_left
      ·show _ < _
       omega
      ·simp -implicitDefEqProofs only [go_sem,Z1,Z2,Z3,Z4]
       all_goals (first | done | (simp [wks_rfl, *]; done) | (simp [wks_rfl]; done) | (simp; omega) | skip)
      ·simp -implicitDefEqProofs only [go_sem,Z1,Z2,Z3,Z4]
       all_goals (first | done | (simp [wks_rfl, *]; done) | (simp [wks_rfl]; done) | (simp; omega) | skip)
      exact ⟨by omega,hs⟩
     ·rw [if_neg u2] at hs
      have hsn:(scan p list).1 ≠ 0:=by rw [hs]; exact u2
      have hok:=scan_ok hp (fun x hx l hl=>(hc9 x hx).1 l hl) hsn
      have hl2:=put_len hok
      rw [hs] at hst hok hl2
      simp only [Bool.false_eq_true,if_false,u2] at hst
      simp only [List.length_append,List.length_singleton] at hl2
      have hlx:(p ++ [(unit p list[i]).1]).length = p.length + 1:=by simp
      try simp -implicitDefEqProofs only [go_sem,Z1,Z2,Z3,Z4,u2]
      try (with_reducible refine ind_andM (by kernel_rfl) ?_)
      repeat (first | with_reducible refine ind_andM (by kernel_rfl) ?_ | (with_reducible apply And.intro; case left=>first | omega | assumption | exact ⟨rowsT_all _,by omega⟩ | exact ⟨rowsI_all _,by omega⟩ | exact ⟨rowsLit_all _,by omega⟩ | exact ⟨rowsLin_all _,by omega⟩ | exact ⟨rowsEq_all _,by omega⟩ | rfl | (simp [*]; done) | (simp; omega) | exact ⟨rowsRat_all _,by omega⟩ | exact ⟨rowsAtom_all _,by omega⟩ | exact ⟨rowsB_all _,by omega⟩ | exact ⟨rowsForm_all _,by omega⟩ | exact ⟨rowsII_all _,by omega⟩))
      refine ⟨p ++ [(unit p list[i]).1],?_,?_,weakS [some 1] ?_ ?_ rfl rfl⟩
      rotate_left
      ·show _ < _
       omega
      ·simp -implicitDefEqProofs only [go_sem,Z1,Z2,Z3,Z4]
       all_goals (first | done | ((rw [← rowsI_app]; rfl)) | (simp [wks_rfl, *]; done) | (simp [wks_rfl]; done) | (simp; omega) | skip)
      ·simp -implicitDefEqProofs only [go_sem,Z1,Z2,Z3,Z4]
       all_goals (first | done | ((rw [← rowsI_app]; rfl)) | (simp [wks_rfl, *]; done) | (simp [wks_rfl]; done) | (simp; omega) | skip)
      exact ⟨hok,by rw [hu,hst]⟩
    ·rw [u1] at hs
     simp only [if_true] at hs
     rw [hs] at hst
     simp only [if_true] at hst
     try simp -implicitDefEqProofs only [go_sem,Z1,Z2,Z3,Z4]
     try (with_reducible refine ind_andM (by kernel_rfl) ?_)
     refine fin1' ?_
     simp -implicitDefEqProofs only [go_sem,Z1,Z2,Z3,Z4]
     rw [hu,hst]
     exact ⟨rfl,rfl⟩
   ·rw [scan_end (by omega)] at hs
    rw [hs] at hst
    simp only [Bool.false_eq_true,if_false,if_true] at hst
    try simp -implicitDefEqProofs only [go_sem,Z1,Z2,Z3,Z4,h1]
    try (with_reducible refine ind_andM (by kernel_rfl) ?_)
    refine fin1' ?_
    simp -implicitDefEqProofs only [go_sem,Z1,Z2,Z3,Z4]
    rw [hu,hst]
    exact ⟨rfl,rfl⟩
theorem c_impl_units_val (list:List (List Int)) (a:Addr) (c:Nat) (hc9:∀ x ∈ list,(∀ l ∈ x,l ≠ 0 ∧ l.natAbs ≤ 60) ∧ x.length ≤ 1000):C E.P 243 [lv (rowsII list),.d (.val (.slice (some a) 0 c))] [] (Eq2 (.tup [lv (rowsI (units list []).1),bv (units list []).2]) []):=by
 have hp9:PutOk []:=⟨List.Pairwise.nil,by simp⟩
 generalize hput:([]:List Int) = put at hp9 ⊢
 have hLB:=LB_eq
 refine C_goS (nt:=39) (rs:=[.tmp 4,.tmp 5]) hm Tryz.func243 rfl rfl rfl rfl rfl (fun hl he=>?_)
 simp -implicitDefEqProofs only [go_sem,Z1,Z2,Z3,Z4] at hl ⊢
 refine atOwn [] [0] (c_Clone_int_valO a c) ?_ ?_ <;> simp -implicitDefEqProofs only [go_sem,Z1,Z2,Z3,Z4]
 try (with_reducible refine ind_andM (by kernel_rfl) ?_)
 try simp -implicitDefEqProofs only [go_sem,Z1,Z2,Z3,Z4]
 try (with_reducible refine ind_andM (by kernel_rfl) ?_)
 refine loop_go1 hm (fun (p:List Int)=> PutOk p ∧ units list put = units list p) (fun (p:List Int)=> ⟨mkS 39 .any [(0,lv (rowsII list)),(6,.acc 0)],[some (.acc 3 (rowsI p))]⟩) (fun (p:List Int)=> 61 - p.length) (put) ?_ (weakS [some 0] ?_ ?_ rfl rfl) ?_
 rotate_left
 ·simp -implicitDefEqProofs only [go_sem,Z1,Z2,Z3,Z4]
  all_goals (first | done | ((rw [← hput]; rfl)) | (simp [wks_rfl, *]; done) | (simp [wks_rfl]; done) | (simp; omega) | skip)
 ·simp -implicitDefEqProofs only [go_sem,Z1,Z2,Z3,Z4]
  all_goals (first | done | ((rw [← hput]; rfl)) | (simp [wks_rfl, *]; done) | (simp [wks_rfl]; done) | (simp; omega) | skip)
 rotate_left
 ·exact ⟨hp9,rfl⟩
 ·rintro p ⟨hp,hu⟩
  have hl:=put_len hp
  have hst:=units_step (list:=list) hl
  try simp -implicitDefEqProofs only [go_sem,Z1,Z2,Z3,Z4]
  try (with_reducible refine ind_andM (by kernel_rfl) ?_)
  refine loop_go1 hm (fun (i:Nat)=> i ≤ list.length ∧ scan p list = scan p (list.drop i)) (fun (i:Nat)=> ⟨mkS 39 .any [(0,lv (rowsII list)),(6,.acc 0),(7,iv 0),(14,lv (rowsII list)),(15,iv list.length),(16,iv i)],[some (.acc 3 (rowsI p))]⟩) (fun (i:Nat)=> list.length - i) (0) ?_ (weakS [some 0] ?_ ?_ rfl rfl) ?_
  rotate_left
  ·simp -implicitDefEqProofs only [go_sem,Z1,Z2,Z3,Z4]
   all_goals (first | done | (simp [wks_rfl, *]; done) | (simp [wks_rfl]; done) | (simp; omega) | skip)
  ·simp -implicitDefEqProofs only [go_sem,Z1,Z2,Z3,Z4]
   all_goals (first | done | (simp [wks_rfl, *]; done) | (simp [wks_rfl]; done) | (simp; omega) | skip)
  rotate_left
  ·simp
  ·rintro i ⟨hi,hs⟩
   rcases Classical.em (i < list.length) with h1 | h1
   ·obtain ⟨b1,b2⟩:=hc9 list[i] (List.getElem_mem h1)
    rw [scan_drop h1] at hs
    try simp -implicitDefEqProofs only [go_sem,Z1,Z2,Z3,Z4,h1]
    try (with_reducible refine ind_andM (by kernel_rfl) ?_)
    refine atLook [] [0] (c_impl_unit list[i] p b1 b2) rfl ?_ ?_ ?_
    ·(simp -implicitDefEqProofs only [go_sem,Z1,Z2,Z3,Z4]; repeat' (first | exact Vws.nil | apply Vws.cons | exact Vw.same (by first | rfl | simp -implicitDefEqProofs only [go_sem,Z1,Z2,Z3,Z4]) | exact Vw.acc rfl rfl | exact Vw.tre rfl rfl (by simp -implicitDefEqProofs only [go_sem,Z1,Z2,Z3,Z4]) | exact Vw.nil | apply Vw.agg | apply Vw.fn | refine Vw.box rfl rfl ?_))
    all_goals simp -implicitDefEqProofs only [go_sem,Z1,Z2,Z3,Z4,h1]
    try (with_reducible refine ind_andM (by kernel_rfl) ?_)
    cases u1:(unit p list[i]).2
    ·rw [u1] at hs
     simp only [Bool.false_eq_true,if_false] at hs
     rcases Classical.em ((unit p list[i]).1 = 0) with u2 | u2
     ·have k2:=eq_true u2
      rw [if_pos u2] at hs
      try simp -implicitDefEqProofs only [go_sem,Z1,Z2,Z3,Z4,k2]
      try (with_reducible refine ind_andM (by kernel_rfl) ?_)
      repeat (first | with_reducible refine ind_andM (by kernel_rfl) ?_ | (with_reducible apply And.intro; case left=>first | omega | assumption | exact ⟨rowsT_all _,by omega⟩ | exact ⟨rowsI_all _,by omega⟩ | exact ⟨rowsLit_all _,by omega⟩ | exact ⟨rowsLin_all _,by omega⟩ | exact ⟨rowsEq_all _,by omega⟩ | rfl | (simp [*]; done) | (simp; omega) | exact ⟨rowsRat_all _,by omega⟩ | exact ⟨rowsAtom_all _,by omega⟩ | exact ⟨rowsB_all _,by omega⟩ | exact ⟨rowsForm_all _,by omega⟩ | exact ⟨rowsII_all _,by omega⟩))
      refine ⟨i + 1,?_,?_,weakS [some 0] ?_ ?_ rfl rfl⟩
      rotate_left
      ·show _ < _
       omega
      ·simp -implicitDefEqProofs only [go_sem,Z1,Z2,Z3,Z4]
       all_goals (first | done | (simp [wks_rfl, *]; done) | (simp [wks_rfl]; done) | (simp; omega) | skip)
      ·simp -implicitDefEqProofs only [go_sem,Z1,Z2,Z3,Z4]
       all_goals (first | done | (simp [wks_rfl, *]; done) | (simp [wks_rfl]; done) | (simp; omega) | skip)
      exact ⟨by omega,hs⟩
     ·rw [if_neg u2] at hs
      have hsn:(scan p list).1 ≠ 0:=by rw [hs]; exact u2
      have hok:=scan_ok hp (fun x hx l hl=>(hc9 x hx).1 l hl) hsn
      have hl2:=put_len hok
      rw [hs] at hst hok hl2
      simp only [Bool.false_eq_true,if_false,u2] at hst
      simp only [List.length_append,List.length_singleton] at hl2
      have hlx:(p ++ [(unit p list[i]).1]).length = p.length + 1:=by simp
      try simp -implicitDefEqProofs only [go_sem,Z1,Z2,Z3,Z4,u2]
      try (with_reducible refine ind_andM (by kernel_rfl) ?_)
      repeat (first | with_reducible refine ind_andM (by kernel_rfl) ?_ | (with_reducible apply And.intro; case left=>first | omega | assumption | exact ⟨rowsT_all _,by omega⟩ | exact ⟨rowsI_all _,by omega⟩ | exact ⟨rowsLit_all _,by omega⟩ | exact ⟨rowsLin_all _,by omega⟩ | exact ⟨rowsEq_all _,by omega⟩ | rfl | (simp [*]; done) | (simp; omega) | exact ⟨rowsRat_all _,by omega⟩ | exact ⟨rowsAtom_all _,by omega⟩ | exact ⟨rowsB_all _,by omega⟩ | exact ⟨rowsForm_all _,by omega⟩ | exact ⟨rowsII_all _,by omega⟩))
      refine ⟨p ++ [(unit p list[i]).1],?_,?_,weakS [some 1] ?_ ?_ rfl rfl⟩
      rotate_left
      ·show _ < _
       omega
      ·simp -implicitDefEqProofs only [go_sem,Z1,Z2,Z3,Z4]
       all_goals (first | done | ((rw [← rowsI_app]; rfl)) | (simp [wks_rfl, *]; done) | (simp [wks_rfl]; done) | (simp; omega) | skip)
      ·simp -implicitDefEqProofs only [go_sem,Z1,Z2,Z3,Z4]
       all_goals (first | done | ((rw [← rowsI_app]; rfl)) | (simp [wks_rfl, *]; done) | (simp [wks_rfl]; done) | (simp; omega) | skip)
      exact ⟨hok,by rw [hu,hst]⟩
    ·rw [u1] at hs
     simp only [if_true] at hs
     rw [hs] at hst
     simp only [if_true] at hst
     try simp -implicitDefEqProofs only [go_sem,Z1,Z2,Z3,Z4]
     try (with_reducible refine ind_andM (by kernel_rfl) ?_)
     refine fin1' ?_
     simp -implicitDefEqProofs only [go_sem,Z1,Z2,Z3,Z4]
     rw [hu,hst]
     exact ⟨rfl,rfl⟩
   ·rw [scan_end (by omega)] at hs
    rw [hs] at hst
    simp only [Bool.false_eq_true,if_false,if_true] at hst
    try simp -implicitDefEqProofs only [go_sem,Z1,Z2,Z3,Z4,h1]
    try (with_reducible refine ind_andM (by kernel_rfl) ?_)
    refine fin1' ?_
    simp -implicitDefEqProofs only [go_sem,Z1,Z2,Z3,Z4]
    rw [hu,hst]
    exact ⟨rfl,rfl⟩
theorem c_impl_units_cons (list:List (List Int)) (put:List Int) (r:List D) (rs:List (List D)) (hr:rowsI put = r :: rs) (hp9:PutOk put) (hc9:∀ x ∈ list,(∀ l ∈ x,l ≠ 0 ∧ l.natAbs ≤ 60) ∧ x.length ≤ 1000):C E.P 243 [lv (rowsII list),.d (.lst (r :: rs))] [] (Eq2 (.tup [lv (rowsI (units list put).1),bv (units list put).2]) []):=by
 have h1:∀ y ∈ r :: rs,y.length = 1:=by rw [← hr]; exact rowsI_all put
 have hl1:rs.length ≤ 1000:=by
  have:=congrArg List.length hr
  rw [rowsI_len] at this
  have h2:=put_len hp9
  simp only [List.length_cons] at this
  omega
 have hLB:=LB_eq
 refine C_goS (nt:=39) (rs:=[.tmp 4,.tmp 5]) hm Tryz.func243 rfl rfl rfl rfl rfl (fun hl he=>?_)
 simp -implicitDefEqProofs only [go_sem,Z1,Z2,Z3,Z4] at hl ⊢
 refine atOwn [] [0] (c_Clone_int_consO r rs hl1 h1) ?_ ?_ <;> simp -implicitDefEqProofs only [go_sem,Z1,Z2,Z3,Z4]
 try (with_reducible refine ind_andM (by kernel_rfl) ?_)
 try simp -implicitDefEqProofs only [go_sem,Z1,Z2,Z3,Z4]
 try (with_reducible refine ind_andM (by kernel_rfl) ?_)
 refine loop_go1 hm (fun (p:List Int)=> PutOk p ∧ units list put = units list p) (fun (p:List Int)=> ⟨mkS 39 .any [(0,lv (rowsII list)),(6,.acc 0)],[some (.acc 3 (rowsI p))]⟩) (fun (p:List Int)=> 61 - p.length) (put) ?_ (weakS [some 0] ?_ ?_ rfl rfl) ?_
 rotate_left
 ·simp -implicitDefEqProofs only [go_sem,Z1,Z2,Z3,Z4]
  all_goals (first | done | ((rw [hr])) | (simp [wks_rfl, *]; done) | (simp [wks_rfl]; done) | (simp; omega) | skip)
 ·simp -implicitDefEqProofs only [go_sem,Z1,Z2,Z3,Z4]
  all_goals (first | done | ((rw [hr])) | (simp [wks_rfl, *]; done) | (simp [wks_rfl]; done) | (simp; omega) | skip)
 rotate_left
 ·exact ⟨hp9,rfl⟩
 ·rintro p ⟨hp,hu⟩
  have hl:=put_len hp
  have hst:=units_step (list:=list) hl
  try simp -implicitDefEqProofs only [go_sem,Z1,Z2,Z3,Z4]
  try (with_reducible refine ind_andM (by kernel_rfl) ?_)
  refine loop_go1 hm (fun (i:Nat)=> i ≤ list.length ∧ scan p list = scan p (list.drop i)) (fun (i:Nat)=> ⟨mkS 39 .any [(0,lv (rowsII list)),(6,.acc 0),(7,iv 0),(14,lv (rowsII list)),(15,iv list.length),(16,iv i)],[some (.acc 3 (rowsI p))]⟩) (fun (i:Nat)=> list.length - i) (0) ?_ (weakS [some 0] ?_ ?_ rfl rfl) ?_
  rotate_left
  ·simp -implicitDefEqProofs only [go_sem,Z1,Z2,Z3,Z4]
   all_goals (first | done | (simp [wks_rfl, *]; done) | (simp [wks_rfl]; done) | (simp; omega) | skip)
  ·simp -implicitDefEqProofs only [go_sem,Z1,Z2,Z3,Z4]
   all_goals (first | done | (simp [wks_rfl, *]; done) | (simp [wks_rfl]; done) | (simp; omega) | skip)
  rotate_left
  ·simp
  ·rintro i ⟨hi,hs⟩
   rcases Classical.em (i < list.length) with h1 | h1
   ·obtain ⟨b1,b2⟩:=hc9 list[i] (List.getElem_mem h1)
    rw [scan_drop h1] at hs
    try simp -implicitDefEqProofs only [go_sem,Z1,Z2,Z3,Z4,h1]
    try (with_reducible refine ind_andM (by kernel_rfl) ?_)
    refine atLook [] [0] (c_impl_unit list[i] p b1 b2) rfl ?_ ?_ ?_
    ·(simp -implicitDefEqProofs only [go_sem,Z1,Z2,Z3,Z4]; repeat' (first | exact Vws.nil | apply Vws.cons | exact Vw.same (by first | rfl | simp -implicitDefEqProofs only [go_sem,Z1,Z2,Z3,Z4]) | exact Vw.acc rfl rfl | exact Vw.tre rfl rfl (by simp -implicitDefEqProofs only [go_sem,Z1,Z2,Z3,Z4]) | exact Vw.nil | apply Vw.agg | apply Vw.fn | refine Vw.box rfl rfl ?_))
    all_goals simp -implicitDefEqProofs only [go_sem,Z1,Z2,Z3,Z4,h1]
    try (with_reducible refine ind_andM (by kernel_rfl) ?_)
    cases u1:(unit p list[i]).2
    ·rw [u1] at hs
     simp only [Bool.false_eq_true,if_false] at hs
     rcases Classical.em ((unit p list[i]).1 = 0) with u2 | u2
     ·have k2:=eq_true u2
      rw [if_pos u2] at hs
      try simp -implicitDefEqProofs only [go_sem,Z1,Z2,Z3,Z4,k2]
      try (with_reducible refine ind_andM (by kernel_rfl) ?_)
      repeat (first | with_reducible refine ind_andM (by kernel_rfl) ?_ | (with_reducible apply And.intro; case left=>first | omega | assumption | exact ⟨rowsT_all _,by omega⟩ | exact ⟨rowsI_all _,by omega⟩ | exact ⟨rowsLit_all _,by omega⟩ | exact ⟨rowsLin_all _,by omega⟩ | exact ⟨rowsEq_all _,by omega⟩ | rfl | (simp [*]; done) | (simp; omega) | exact ⟨rowsRat_all _,by omega⟩ | exact ⟨rowsAtom_all _,by omega⟩ | exact ⟨rowsB_all _,by omega⟩ | exact ⟨rowsForm_all _,by omega⟩ | exact ⟨rowsII_all _,by omega⟩))
      refine ⟨i + 1,?_,?_,weakS [some 0] ?_ ?_ rfl rfl⟩
      rotate_left
      ·show _ < _
       omega
      ·simp -implicitDefEqProofs only [go_sem,Z1,Z2,Z3,Z4]
       all_goals (first | done | (simp [wks_rfl, *]; done) | (simp [wks_rfl]; done) | (simp; omega) | skip)
      ·simp -implicitDefEqProofs only [go_sem,Z1,Z2,Z3,Z4]
       all_goals (first | done | (simp [wks_rfl, *]; done) | (simp [wks_rfl]; done) | (simp; omega) | skip)
      exact ⟨by omega,hs⟩
     ·rw [if_neg u2] at hs
      have hsn:(scan p list).1 ≠ 0:=by rw [hs]; exact u2
      have hok:=scan_ok hp (fun x hx l hl=>(hc9 x hx).1 l hl) hsn
      have hl2:=put_len hok
      rw [hs] at hst hok hl2
      simp only [Bool.false_eq_true,if_false,u2] at hst
      simp only [List.length_append,List.length_singleton] at hl2
      have hlx:(p ++ [(unit p list[i]).1]).length = p.length + 1:=by simp
      try simp -implicitDefEqProofs only [go_sem,Z1,Z2,Z3,Z4,u2]
      try (with_reducible refine ind_andM (by kernel_rfl) ?_)
      repeat (first | with_reducible refine ind_andM (by kernel_rfl) ?_ | (with_reducible apply And.intro; case left=>first | omega | assumption | exact ⟨rowsT_all _,by omega⟩ | exact ⟨rowsI_all _,by omega⟩ | exact ⟨rowsLit_all _,by omega⟩ | exact ⟨rowsLin_all _,by omega⟩ | exact ⟨rowsEq_all _,by omega⟩ | rfl | (simp [*]; done) | (simp; omega) | exact ⟨rowsRat_all _,by omega⟩ | exact ⟨rowsAtom_all _,by omega⟩ | exact ⟨rowsB_all _,by omega⟩ | exact ⟨rowsForm_all _,by omega⟩ | exact ⟨rowsII_all _,by omega⟩))
      refine ⟨p ++ [(unit p list[i]).1],?_,?_,weakS [some 1] ?_ ?_ rfl rfl⟩
      rotate_left
      ·show _ < _
       omega
      ·simp -implicitDefEqProofs only [go_sem,Z1,Z2,Z3,Z4]
       all_goals (first | done | ((rw [← rowsI_app]; rfl)) | (simp [wks_rfl, *]; done) | (simp [wks_rfl]; done) | (simp; omega) | skip)
      ·simp -implicitDefEqProofs only [go_sem,Z1,Z2,Z3,Z4]
       all_goals (first | done | ((rw [← rowsI_app]; rfl)) | (simp [wks_rfl, *]; done) | (simp [wks_rfl]; done) | (simp; omega) | skip)
      exact ⟨hok,by rw [hu,hst]⟩
    ·rw [u1] at hs
     simp only [if_true] at hs
     rw [hs] at hst
     simp only [if_true] at hst
     try simp -implicitDefEqProofs only [go_sem,Z1,Z2,Z3,Z4]
     try (with_reducible refine ind_andM (by kernel_rfl) ?_)
     refine fin1' ?_
     simp -implicitDefEqProofs only [go_sem,Z1,Z2,Z3,Z4]
     rw [hu,hst]
     exact ⟨rfl,rfl⟩
   ·rw [scan_end (by omega)] at hs
    rw [hs] at hst
    simp only [Bool.false_eq_true,if_false,if_true] at hst
    try simp -implicitDefEqProofs only [go_sem,Z1,Z2,Z3,Z4,h1]
    try (with_reducible refine ind_andM (by kernel_rfl) ?_)
    refine fin1' ?_
    simp -implicitDefEqProofs only [go_sem,Z1,Z2,Z3,Z4]
    rw [hu,hst]
    exact ⟨rfl,rfl⟩
theorem c_impl_units (list:List (List Int)) (put:List Int) (hp9:PutOk put) (hc9:∀ x ∈ list,(∀ l ∈ x,l ≠ 0 ∧ l.natAbs ≤ 60) ∧ x.length ≤ 1000):C E.P 243 [lv (rowsII list),lv (rowsI put)] [] (Eq2 (.tup [lv (rowsI (units list put).1),bv (units list put).2]) []):=by
 cases put with
 | nil=>exact C_split2 (c_impl_units_nil list hc9) (fun a c=>c_impl_units_val list a c hc9)
 | cons x xs=>
   have h:=c_impl_units_cons list (x :: xs) _ _ (rowsI_cons x xs) hp9 hc9
   rw [rowsI_cons]
   exact h
theorem c_impl_negated (l:List Int) (hl9:l.length ≤ 1000) (hb9:∀ x ∈ l,-1000000 ≤ x ∧ x ≤ 1000000):C E.P 201 [lv (rowsI l)] [] (Eq2 (lv (rowsI (l.map fun x=>-x))) []):=by
 have hLB:=LB_eq
 refine C_goS (nt:=19) (rs:=[.tmp 2]) hm Tryz.func201 rfl rfl rfl rfl rfl (fun hl he=>?_)
 simp -implicitDefEqProofs only [go_sem,Z1,Z2,Z3,Z4] at hl ⊢
 refine loop_go1 hm (fun (i:Nat)=> i ≤ l.length) (fun (i:Nat)=> ⟨mkS 19 .any [(3,.acc 0),(6,lv (rowsI l)),(7,iv l.length),(8,iv i)],[some (.acc 3 (rowsI ((l.take i).map fun x=>-x)))]⟩) (fun (i:Nat)=> l.length - i) (0) ?_ (weakS [none] ?_ ?_ rfl rfl) ?_
 rotate_left
 ·simp -implicitDefEqProofs only [go_sem,Z1,Z2,Z3,Z4]
  all_goals (first | done | (simp [rowsI]) | (simp [wks_rfl, *]; done) | (simp [wks_rfl]; done) | (simp; omega) | skip)
 ·simp -implicitDefEqProofs only [go_sem,Z1,Z2,Z3,Z4]
  all_goals (first | done | (simp [rowsI]) | (simp [wks_rfl, *]; done) | (simp [wks_rfl]; done) | (simp; omega) | skip)
 rotate_left
 ·omega
 ·rintro i hi
  have hv:((l.take i).map fun x=>-x).length = i:=by rw [List.length_map,List.length_take]; omega
  rcases Classical.em (i < l.length) with h1 | h1
  ·have hb:=hb9 l[i] (List.getElem_mem h1)
   try simp -implicitDefEqProofs only [go_sem,Z1,Z2,Z3,Z4,h1]
   try (with_reducible refine ind_andM (by kernel_rfl) ?_)
   repeat (first | with_reducible refine ind_andM (by kernel_rfl) ?_ | (with_reducible apply And.intro; case left=>first | omega | assumption | exact ⟨rowsT_all _,by omega⟩ | exact ⟨rowsI_all _,by omega⟩ | exact ⟨rowsLit_all _,by omega⟩ | exact ⟨rowsLin_all _,by omega⟩ | exact ⟨rowsEq_all _,by omega⟩ | rfl | (simp [*]; done) | (simp; omega) | exact ⟨rowsRat_all _,by omega⟩ | exact ⟨rowsAtom_all _,by omega⟩ | exact ⟨rowsB_all _,by omega⟩ | exact ⟨rowsForm_all _,by omega⟩ | exact ⟨rowsII_all _,by omega⟩))
   refine ⟨i + 1,?_,?_,weakS [some 1] ?_ ?_ rfl rfl⟩
   rotate_left
   ·show _ < _
    omega
   ·simp -implicitDefEqProofs only [go_sem,Z1,Z2,Z3,Z4]
    all_goals (first | done | ((rw [take_snoc h1,List.map_append,← rowsI_app]; rfl)) | (simp [wks_rfl, *]; done) | (simp [wks_rfl]; done) | (simp; omega) | skip)
   ·simp -implicitDefEqProofs only [go_sem,Z1,Z2,Z3,Z4]
    all_goals (first | done | ((rw [take_snoc h1,List.map_append,← rowsI_app]; rfl)) | (simp [wks_rfl, *]; done) | (simp [wks_rfl]; done) | (simp; omega) | skip)
   exact h1
  ·have et:l.take i = l:=List.take_of_length_le (by omega)
   try simp -implicitDefEqProofs only [go_sem,Z1,Z2,Z3,Z4,h1,et]
   try (with_reducible refine ind_andM (by kernel_rfl) ?_)
   refine fin1' ?_
   simp -implicitDefEqProofs only [go_sem,Z1,Z2,Z3,Z4]
end Go.Proofs.YtpidddienjoleaaGreat
namespace Go.Proofs.YtpidddienjoleaaGreat
open Go.Eng Go.Mod
open Int renaming reduceEq → Z1,reduceLT → Z2,reduceLE → Z3,reduceToNat → Z4
set_option maxRecDepth 100000
set_option maxHeartbeats 400000
theorem c_isNaN_int (a:Int):C E.P 231 [iv a] [] (Eq2 (bv false) []):=by
 have hLB:=LB_eq
 refine C_goS (nt:=6) (rs:=[.tmp 2]) hm Tryz.func231 rfl rfl rfl rfl rfl (fun hl he=>?_)
 simp -implicitDefEqProofs only [go_sem,Z1,Z2,Z3,Z4] at hl ⊢
 refine fin1' ?_
 simp -implicitDefEqProofs only [go_sem,Z1,Z2,Z3,Z4]
 all_goals (first | done | (simp; done) | (simp; omega) | skip)
theorem c_Compare_int (a b:Int):C E.P 177 [iv a,iv b] [] (Eq2 (iv (cmpA a b)) []):=by
 have hLB:=LB_eq
 refine C_goS (nt:=20) (rs:=[.tmp 4]) hm Tryz.func177 rfl rfl rfl rfl rfl (fun hl he=>?_)
 simp -implicitDefEqProofs only [go_sem,Z1,Z2,Z3,Z4] at hl ⊢
 refine atCall [] (c_isNaN_int a) ?_ ?_ <;> simp -implicitDefEqProofs only [go_sem,Z1,Z2,Z3,Z4]
 try (with_reducible refine ind_andM (by kernel_rfl) ?_)
 refine atCall [] (c_isNaN_int b) ?_ ?_ <;> simp -implicitDefEqProofs only [go_sem,Z1,Z2,Z3,Z4]
 try (with_reducible refine ind_andM (by kernel_rfl) ?_)
 rcases Classical.em (a < b) with h1 | h1
 ·try simp -implicitDefEqProofs only [go_sem,Z1,Z2,Z3,Z4,h1]
  try (with_reducible refine ind_andM (by kernel_rfl) ?_)
  refine fin1' ?_
  simp -implicitDefEqProofs only [go_sem,Z1,Z2,Z3,Z4]
  all_goals (first | done | (simp [cmpA,h1]; done) | (simp [cmpA,h1]; omega) | skip)
 ·rcases Classical.em (b < a) with h2 | h2
  ·try simp -implicitDefEqProofs only [go_sem,Z1,Z2,Z3,Z4,h1,h2]
   try (with_reducible refine ind_andM (by kernel_rfl) ?_)
   refine fin1' ?_
   simp -implicitDefEqProofs only [go_sem,Z1,Z2,Z3,Z4]
   all_goals (first | done | (simp [cmpA,h1,h2]; done) | (simp [cmpA,h1,h2]; omega) | skip)
  ·try simp -implicitDefEqProofs only [go_sem,Z1,Z2,Z3,Z4,h1,h2]
   try (with_reducible refine ind_andM (by kernel_rfl) ?_)
   refine fin1' ?_
   simp -implicitDefEqProofs only [go_sem,Z1,Z2,Z3,Z4]
   all_goals (first | done | (simp [cmpA,h1,h2]; done) | (simp [cmpA,h1,h2]; omega) | skip)
theorem c_impl_ClauseOf_1 (a b:Int) (ha:-60 ≤ a ∧ a ≤ 60) (hb:-60 ≤ b ∧ b ≤ 60):C E.P 264 [iv a,iv b] [] (Eq2 (iv (cmpA (a.natAbs:Int) (b.natAbs:Int))) []):=by
 have hLB:=LB_eq
 refine C_goS (nt:=10) (rs:=[.tmp 4]) hm Tryz.func264 rfl rfl rfl rfl rfl (fun hl he=>?_)
 simp -implicitDefEqProofs only [go_sem,Z1,Z2,Z3,Z4] at hl ⊢
 refine atCall [] (c_impl_variable a ha) ?_ ?_ <;> simp -implicitDefEqProofs only [go_sem,Z1,Z2,Z3,Z4]
 try (with_reducible refine ind_andM (by kernel_rfl) ?_)
 refine atCall [] (c_impl_variable b hb) ?_ ?_ <;> simp -implicitDefEqProofs only [go_sem,Z1,Z2,Z3,Z4]
 try (with_reducible refine ind_andM (by kernel_rfl) ?_)
 refine atCall [] (c_Compare_int (a.natAbs:Int) (b.natAbs:Int)) ?_ ?_ <;> simp -implicitDefEqProofs only [go_sem,Z1,Z2,Z3,Z4]
 try (with_reducible refine ind_andM (by kernel_rfl) ?_)
 refine fin1' ?_
 simp -implicitDefEqProofs only [go_sem,Z1,Z2,Z3,Z4]
 all_goals (first | done | (simp; done) | (simp; omega) | skip)
theorem isort_one (l:List Int):isort (l.take 1) ++ l.drop 1 = l:=by
 cases l <;> rfl
theorem c_insertionSort (l:List Int) (hl9:l.length ≤ 1000) (hb9:∀ x ∈ l,-60 ≤ x ∧ x ≤ 60):C E.P 273 [.acc 0,iv 0,iv l.length,.fn 264 []] [some (.acc 3 (rowsI l))] (Eq2 (.tup []) [some (.acc 3 (rowsI (isort l)))]):=by
 have hbp:∀ i,∀ x ∈ isort (l.take i),-60 ≤ x ∧ x ≤ 60:=fun i x hx=>hb9 x (List.mem_of_mem_take ((isort_mem _ _).1 hx))
 have hLB:=LB_eq
 refine C_goS (nt:=53) (rs:=[]) hm Tryz.func273 rfl rfl rfl rfl rfl (fun hl he=>?_)
 simp -implicitDefEqProofs only [go_sem,Z1,Z2,Z3,Z4] at hl ⊢
 repeat (first | with_reducible refine ind_andM (by kernel_rfl) ?_ | (with_reducible apply And.intro; case left=>first | omega | assumption | exact ⟨rowsT_all _,by omega⟩ | exact ⟨rowsI_all _,by omega⟩ | exact ⟨rowsLit_all _,by omega⟩ | exact ⟨rowsLin_all _,by omega⟩ | exact ⟨rowsEq_all _,by omega⟩ | rfl | (simp [*]; done) | (simp; omega) | exact ⟨rowsRat_all _,by omega⟩ | exact ⟨rowsAtom_all _,by omega⟩ | exact ⟨rowsB_all _,by omega⟩ | exact ⟨rowsForm_all _,by omega⟩ | exact ⟨rowsII_all _,by omega⟩))
 refine loop_go1 hm (fun (i:Nat)=> 1 ≤ i ∧ (i ≤ l.length ∨ l.length = 0 ∧ i = 1)) (fun (i:Nat)=> ⟨mkS 53 .any [(0,.acc 0),(1,iv 0),(2,iv l.length),(3,.fn 264 []),(8,iv i)],[some (.acc 3 (rowsI (isort (l.take i) ++ l.drop i)))]⟩) (fun (i:Nat)=> l.length - i) (1) ?_ (weakS [some 0] ?_ ?_ rfl rfl) ?_
 rotate_left
 ·simp -implicitDefEqProofs only [go_sem,Z1,Z2,Z3,Z4]
  all_goals (first | done | ((rw [isort_one])) | (simp [wks_rfl, *]; done) | (simp [wks_rfl]; done) | (simp; omega) | skip)
 ·simp -implicitDefEqProofs only [go_sem,Z1,Z2,Z3,Z4]
  all_goals (first | done | ((rw [isort_one])) | (simp [wks_rfl, *]; done) | (simp [wks_rfl]; done) | (simp; omega) | skip)
 rotate_left
 ·omega
 ·rintro i ⟨hi1,hi2⟩
  rcases Classical.em (i < l.length) with h1 | h1
  ·try simp -implicitDefEqProofs only [go_sem,Z1,Z2,Z3,Z4,h1]
   try (with_reducible refine ind_andM (by kernel_rfl) ?_)
   have hp:(isort (l.take i)).length = i:=by rw [isort_len,List.length_take]; omega
   have ed:l.drop i = l[i] :: l.drop (i + 1):=List.drop_eq_getElem_cons h1
   have est:isort (l.take i) ++ l.drop i = sk (isort (l.take i)) l[i] (l.drop (i + 1)) i:=by rw [sk_top _ _ (by omega),ed]
   have hbx:=hb9 l[i] (List.getElem_mem h1)
   rw [est]
   refine loop_go1 hm (fun (j:Nat)=> j ≤ i ∧ ∀ y ∈ (isort (l.take i)).drop j,l[i].natAbs < y.natAbs) (fun (j:Nat)=> ⟨mkS 53 .any [(0,.acc 0),(1,iv 0),(2,iv l.length),(3,.fn 264 []),(8,iv i),(9,iv j)],[some (.acc 3 (rowsI (sk (isort (l.take i)) l[i] (l.drop (i + 1)) j)))]⟩) (fun (j:Nat)=> j) (i) ?_ (weakS [some 0] ?_ ?_ rfl rfl) ?_
   rotate_left
   ·simp -implicitDefEqProofs only [go_sem,Z1,Z2,Z3,Z4]
    all_goals (first | done | (simp [wks_rfl, *]; done) | (simp [wks_rfl]; done) | (simp; omega) | skip)
   ·simp -implicitDefEqProofs only [go_sem,Z1,Z2,Z3,Z4]
    all_goals (first | done | (simp [wks_rfl, *]; done) | (simp [wks_rfl]; done) | (simp; omega) | skip)
   rotate_left
   ·exact ⟨Nat.le_refl _,by rw [List.drop_of_length_le (by omega)]; simp⟩
   ·rintro j ⟨hj,hd⟩
    have hsl:(sk (isort (l.take i)) l[i] (l.drop (i + 1)) j).length = l.length:=by rw [sk_len _ _ (by omega),hp,List.length_drop]; omega
    have hjl:j < (sk (isort (l.take i)) l[i] (l.drop (i + 1)) j).length:=by omega
    have e1:=sk_at l[i] (l.drop (i + 1)) (p:=isort (l.take i)) (by omega) hjl
    rcases Classical.em ((0:Int) < (j:Int)) with h0 | h0
    ·have hj1:j - 1 < (sk (isort (l.take i)) l[i] (l.drop (i + 1)) j).length:=by omega
     have hjp:j - 1 < (isort (l.take i)).length:=by omega
     have e2:=sk_before l[i] (l.drop (i + 1)) (p:=isort (l.take i)) (by omega) (by omega) hjp hj1
     have q:((j:Int) - 1) = ((j - 1:Nat):Int):=by omega
     have hb2:=hbp i _ (List.getElem_mem hjp)
     have estep:((sk (isort (l.take i)) l[i] (l.drop (i + 1)) j).set j (isort (l.take i))[j - 1]).set (j - 1) l[i] = sk (isort (l.take i)) l[i] (l.drop (i + 1)) (j - 1):=by
      have e3:=sk_step (p:=isort (l.take i)) l[i] (l.drop (i + 1)) hjp
      have e4:j - 1 + 1 = j:=by omega
      rwa [e4] at e3
     generalize hs:sk (isort (l.take i)) l[i] (l.drop (i + 1)) j = s at *
     try simp -implicitDefEqProofs only [go_sem,Z1,Z2,Z3,Z4,h0,q,hjl,hj1]
     try (with_reducible refine ind_andM (by kernel_rfl) ?_)
     repeat (first | with_reducible refine ind_andM (by kernel_rfl) ?_ | (with_reducible apply And.intro; case left=>first | omega | assumption | exact ⟨rowsT_all _,by omega⟩ | exact ⟨rowsI_all _,by omega⟩ | exact ⟨rowsLit_all _,by omega⟩ | exact ⟨rowsLin_all _,by omega⟩ | exact ⟨rowsEq_all _,by omega⟩ | rfl | (simp [*]; done) | (simp; omega) | exact ⟨rowsRat_all _,by omega⟩ | exact ⟨rowsAtom_all _,by omega⟩ | exact ⟨rowsB_all _,by omega⟩ | exact ⟨rowsForm_all _,by omega⟩ | exact ⟨rowsII_all _,by omega⟩))
     refine atCall [] (c_impl_ClauseOf_1 s[j] s[j - 1] (by rw [e1]; exact hbx) (by rw [e2]; exact hb2)) ?_ ?_ <;> simp -implicitDefEqProofs only [go_sem,Z1,Z2,Z3,Z4,hjl,hj1]
     try (with_reducible refine ind_andM (by kernel_rfl) ?_)
     rw [e1,e2]
     rcases Classical.em (l[i].natAbs < ((isort (l.take i))[j - 1]).natAbs) with h3 | h3
     ·have k3:cmpA (l[i].natAbs:Int) (((isort (l.take i))[j - 1]).natAbs:Int) < 0:=cmpA_neg.2 (by omega)
      try simp -implicitDefEqProofs only [go_sem,Z1,Z2,Z3,Z4,k3,q,hjl,hj1]
      try (with_reducible refine ind_andM (by kernel_rfl) ?_)
      repeat (first | with_reducible refine ind_andM (by kernel_rfl) ?_ | (with_reducible apply And.intro; case left=>first | omega | assumption | exact ⟨rowsT_all _,by omega⟩ | exact ⟨rowsI_all _,by omega⟩ | exact ⟨rowsLit_all _,by omega⟩ | exact ⟨rowsLin_all _,by omega⟩ | exact ⟨rowsEq_all _,by omega⟩ | rfl | (simp [*]; done) | (simp; omega) | exact ⟨rowsRat_all _,by omega⟩ | exact ⟨rowsAtom_all _,by omega⟩ | exact ⟨rowsB_all _,by omega⟩ | exact ⟨rowsForm_all _,by omega⟩ | exact ⟨rowsII_all _,by omega⟩))
      refine And.intro (by rw [List.length_set,rowsI_len]; exact hj1) ?_
      refine And.intro (by rw [List.length_set,rowsI_len]; exact hj1) ?_
      repeat (first | with_reducible refine ind_andM (by kernel_rfl) ?_ | (with_reducible apply And.intro; case left=>first | omega | assumption | exact ⟨rowsT_all _,by omega⟩ | exact ⟨rowsI_all _,by omega⟩ | exact ⟨rowsLit_all _,by omega⟩ | exact ⟨rowsLin_all _,by omega⟩ | exact ⟨rowsEq_all _,by omega⟩ | rfl | (simp [*]; done) | (simp; omega) | exact ⟨rowsRat_all _,by omega⟩ | exact ⟨rowsAtom_all _,by omega⟩ | exact ⟨rowsB_all _,by omega⟩ | exact ⟨rowsForm_all _,by omega⟩ | exact ⟨rowsII_all _,by omega⟩))
      have r1:(rowsI s).set j (spl [D.val (Value.int .i64 s[j])] 0 [D.val (Value.int .i64 s[j - 1])]) = rowsI (s.set j s[j - 1]):=rowsI_set hjl
      have r2:(rowsI (s.set j s[j - 1])).set (j - 1) (spl (row (rowsI (s.set j s[j - 1])) (j - 1)) 0 [D.val (Value.int .i64 s[j])]) = rowsI ((s.set j s[j - 1]).set (j - 1) s[j]):=by
       rw [rowsI_row (by rw [List.length_set]; exact hj1)]
       exact rowsI_set (by rw [List.length_set]; exact hj1)
      have e5:(isort (l.take i)).drop (j - 1) = (isort (l.take i))[j - 1] :: (isort (l.take i)).drop j:=by
       rw [List.drop_eq_getElem_cons hjp]
       have e6:j - 1 + 1 = j:=by omega
       rw [e6]
      refine ⟨j - 1,?_,?_,weakS [some 0] ?_ ?_ rfl rfl⟩
      rotate_left
      ·show _ < _
       omega
      ·simp -implicitDefEqProofs only [go_sem,Z1,Z2,Z3,Z4]
       all_goals (first | done | ((rw [r1,r2,e1,e2,estep])) | (simp [wks_rfl, *]; done) | (simp [wks_rfl]; done) | (simp; omega) | skip)
      ·simp -implicitDefEqProofs only [go_sem,Z1,Z2,Z3,Z4]
       all_goals (first | done | ((rw [r1,r2,e1,e2,estep])) | (simp [wks_rfl, *]; done) | (simp [wks_rfl]; done) | (simp; omega) | skip)
      refine ⟨by omega,fun y hy=>?_⟩
      rw [e5] at hy
      rcases List.mem_cons.1 hy with hy | hy
      ·rw [hy]; exact h3
      ·exact hd y hy
     ·have k3:¬ cmpA (l[i].natAbs:Int) (((isort (l.take i))[j - 1]).natAbs:Int) < 0:=fun hh=>h3 (by have:=cmpA_neg.1 hh; omega)
      have eend:s = isort (l.take (i + 1)) ++ l.drop (i + 1):=by
       rw [take_snoc h1,isort_snoc,← hs]
       exact sk_end (isort_srt _) hd (fun _ _=>by omega) (by omega)
      try simp -implicitDefEqProofs only [go_sem,Z1,Z2,Z3,Z4,k3]
      try (with_reducible refine ind_andM (by kernel_rfl) ?_)
      repeat (first | with_reducible refine ind_andM (by kernel_rfl) ?_ | (with_reducible apply And.intro; case left=>first | omega | assumption | exact ⟨rowsT_all _,by omega⟩ | exact ⟨rowsI_all _,by omega⟩ | exact ⟨rowsLit_all _,by omega⟩ | exact ⟨rowsLin_all _,by omega⟩ | exact ⟨rowsEq_all _,by omega⟩ | rfl | (simp [*]; done) | (simp; omega) | exact ⟨rowsRat_all _,by omega⟩ | exact ⟨rowsAtom_all _,by omega⟩ | exact ⟨rowsB_all _,by omega⟩ | exact ⟨rowsForm_all _,by omega⟩ | exact ⟨rowsII_all _,by omega⟩))
      rw [eend]
      refine ⟨i + 1,?_,?_,weakS [some 0] ?_ ?_ rfl rfl⟩
      rotate_left
      ·show _ < _
       omega
      ·simp -implicitDefEqProofs only [go_sem,Z1,Z2,Z3,Z4]
       all_goals (first | done | (simp [wks_rfl, *]; done) | (simp [wks_rfl]; done) | (simp; omega) | skip)
      ·simp -implicitDefEqProofs only [go_sem,Z1,Z2,Z3,Z4]
       all_goals (first | done | (simp [wks_rfl, *]; done) | (simp [wks_rfl]; done) | (simp; omega) | skip)
      omega
    ·have eend:sk (isort (l.take i)) l[i] (l.drop (i + 1)) j = isort (l.take (i + 1)) ++ l.drop (i + 1):=by
      rw [take_snoc h1,isort_snoc]
      exact sk_end (isort_srt _) hd (fun _ _=>by omega) (by omega)
     try simp -implicitDefEqProofs only [go_sem,Z1,Z2,Z3,Z4,h0]
     try (with_reducible refine ind_andM (by kernel_rfl) ?_)
     repeat (first | with_reducible refine ind_andM (by kernel_rfl) ?_ | (with_reducible apply And.intro; case left=>first | omega | assumption | exact ⟨rowsT_all _,by omega⟩ | exact ⟨rowsI_all _,by omega⟩ | exact ⟨rowsLit_all _,by omega⟩ | exact ⟨rowsLin_all _,by omega⟩ | exact ⟨rowsEq_all _,by omega⟩ | rfl | (simp [*]; done) | (simp; omega) | exact ⟨rowsRat_all _,by omega⟩ | exact ⟨rowsAtom_all _,by omega⟩ | exact ⟨rowsB_all _,by omega⟩ | exact ⟨rowsForm_all _,by omega⟩ | exact ⟨rowsII_all _,by omega⟩))
     rw [eend]
     refine ⟨i + 1,?_,?_,weakS [some 0] ?_ ?_ rfl rfl⟩
     rotate_left
     ·show _ < _
      omega
     ·simp -implicitDefEqProofs only [go_sem,Z1,Z2,Z3,Z4]
      all_goals (first | done | (simp [wks_rfl, *]; done) | (simp [wks_rfl]; done) | (simp; omega) | skip)
     ·simp -implicitDefEqProofs only [go_sem,Z1,Z2,Z3,Z4]
      all_goals (first | done | (simp [wks_rfl, *]; done) | (simp [wks_rfl]; done) | (simp; omega) | skip)
     omega
  ·try simp -implicitDefEqProofs only [go_sem,Z1,Z2,Z3,Z4,h1]
   try (with_reducible refine ind_andM (by kernel_rfl) ?_)
   have et:l.take i = l:=List.take_of_length_le (by omega)
   have ed:l.drop i = []:=List.drop_of_length_le (by omega)
   rw [et,ed,List.append_nil]
   refine finM' [some 0] ?_ rfl rfl
   simp -implicitDefEqProofs only [go_sem,Z1,Z2,Z3,Z4]
theorem c_bitsLen (n:Nat) (h:n ≤ 1000):C E.P 272 [.d (.val (.int .u64 (n:Int)))] [] (Eq2 (iv (Lib.bitLen n)) []):=by
 refine C_pure1 (v:=.int .u64 (n:Int)) ⟨_,Tryz.func272,rfl,rfl⟩ (fun w ok ν st u hu=>?_) rfl fun w=>?_
 ·simp only [RepPV] at hu
  cases hu
  rfl
 ·have:=Tryz.bits_Len (n:Int) w (by omega) (by omega)
  simp only [Int.toNat_natCast] at this
  exact this
theorem c_pdqsort (l:List Int) (hl9:l.length ≤ 12) (k:Int) (hb9:∀ x ∈ l,-60 ≤ x ∧ x ≤ 60):C E.P 271 [.acc 0,iv 0,iv l.length,iv k,.fn 264 []] [some (.acc 3 (rowsI l))] (Eq2 (.tup []) [some (.acc 3 (rowsI (isort l)))]):=by
 have h1:(l.length:Int) ≤ 12:=by omega
 have hLB:=LB_eq
 refine C_goS (nt:=148) (rs:=[]) hm Tryz.func271 rfl rfl rfl rfl rfl (fun hl he=>?_)
 simp -implicitDefEqProofs only [go_sem,Z1,Z2,Z3,Z4] at hl ⊢
 refine loop_go1 hm (fun (u:Nat)=> u = 0) (fun (u:Nat)=> ⟨mkS 148 .any [(0,.acc 0),(1,iv 0),(2,iv l.length),(3,iv k),(4,.fn 264 []),(10,bv true),(11,bv true)],[some (.acc 3 (rowsI l))]⟩) (fun (u:Nat)=> u) (0) ?_ (weakS [some 0] ?_ ?_ rfl rfl) ?_
 rotate_left
 ·simp -implicitDefEqProofs only [go_sem,Z1,Z2,Z3,Z4]
  all_goals (first | done | (simp [wks_rfl, *]; done) | (simp [wks_rfl]; done) | (simp; omega) | skip)
 ·simp -implicitDefEqProofs only [go_sem,Z1,Z2,Z3,Z4]
  all_goals (first | done | (simp [wks_rfl, *]; done) | (simp [wks_rfl]; done) | (simp; omega) | skip)
 rotate_left
 ·rfl
 ·rintro u rfl
  try simp -implicitDefEqProofs only [go_sem,Z1,Z2,Z3,Z4,h1]
  try (with_reducible refine ind_andM (by kernel_rfl) ?_)
  repeat (first | with_reducible refine ind_andM (by kernel_rfl) ?_ | (with_reducible apply And.intro; case left=>first | omega | assumption | exact ⟨rowsT_all _,by omega⟩ | exact ⟨rowsI_all _,by omega⟩ | exact ⟨rowsLit_all _,by omega⟩ | exact ⟨rowsLin_all _,by omega⟩ | exact ⟨rowsEq_all _,by omega⟩ | rfl | (simp [*]; done) | (simp; omega) | exact ⟨rowsRat_all _,by omega⟩ | exact ⟨rowsAtom_all _,by omega⟩ | exact ⟨rowsB_all _,by omega⟩ | exact ⟨rowsForm_all _,by omega⟩ | exact ⟨rowsII_all _,by omega⟩))
  try simp -implicitDefEqProofs only [go_sem,Z1,Z2,Z3,Z4,Int.sub_zero,h1]
  try (with_reducible refine ind_andM (by kernel_rfl) ?_)
  refine atOwn [] [0] (c_insertionSort l (by omega) hb9) ?_ ?_ <;> simp -implicitDefEqProofs only [go_sem,Z1,Z2,Z3,Z4]
  try (with_reducible refine ind_andM (by kernel_rfl) ?_)
  refine finM' [some 0] ?_ rfl rfl
  simp -implicitDefEqProofs only [go_sem,Z1,Z2,Z3,Z4]
theorem c_SortFunc (l:List Int) (hl9:l.length ≤ 12) (hb9:∀ x ∈ l,-60 ≤ x ∧ x ≤ 60):C E.P 263 [.acc 0,.fn 264 []] [some (.acc 3 (rowsI l))] (Eq2 (.tup []) [some (.acc 3 (rowsI (isort l)))]):=by
 have hw:=wrap_u64 (n:=(l.length:Int)) (by omega) (by omega)
 have hLB:=LB_eq
 refine C_goS (nt:=14) (rs:=[]) hm Tryz.func263 rfl rfl rfl rfl rfl (fun hl he=>?_)
 simp -implicitDefEqProofs only [go_sem,Z1,Z2,Z3,Z4] at hl ⊢
 repeat (first | with_reducible refine ind_andM (by kernel_rfl) ?_ | (with_reducible apply And.intro; case left=>first | omega | assumption | exact ⟨rowsT_all _,by omega⟩ | exact ⟨rowsI_all _,by omega⟩ | exact ⟨rowsLit_all _,by omega⟩ | exact ⟨rowsLin_all _,by omega⟩ | exact ⟨rowsEq_all _,by omega⟩ | rfl | (simp [*]; done) | (simp; omega) | exact ⟨rowsRat_all _,by omega⟩ | exact ⟨rowsAtom_all _,by omega⟩ | exact ⟨rowsB_all _,by omega⟩ | exact ⟨rowsForm_all _,by omega⟩ | exact ⟨rowsII_all _,by omega⟩))
 try simp -implicitDefEqProofs only [go_sem,Z1,Z2,Z3,Z4,hw]
 try (with_reducible refine ind_andM (by kernel_rfl) ?_)
 refine atCall [] (c_bitsLen l.length (by omega)) ?_ ?_ <;> simp -implicitDefEqProofs only [go_sem,Z1,Z2,Z3,Z4]
 try (with_reducible refine ind_andM (by kernel_rfl) ?_)
 refine atOwn [] [0] (c_pdqsort l hl9 (Lib.bitLen l.length) hb9) ?_ ?_ <;> simp -implicitDefEqProofs only [go_sem,Z1,Z2,Z3,Z4]
 try (with_reducible refine ind_andM (by kernel_rfl) ?_)
 refine finM' [some 0] ?_ rfl rfl
 simp -implicitDefEqProofs only [go_sem,Z1,Z2,Z3,Z4]
theorem rowsI_vals {w:World} {ok:Nat → Prop}:∀ {zs:List Int} {us:List (List Value)},RepRows w ok 1 (rowsI zs) us → us.flatten = zs.map (Value.int .i64)
 | [],us,h=>by
   have e:us = []:=List.length_eq_zero_iff.1 h.len
   rw [e]
   rfl
 | z :: zs,us,h=>by
   have hl:=h.len
   cases us with
   | nil=>simp [rowsI_cons] at hl
   | cons u us=>
     have hu:=h.hu 0 u rfl
     obtain ⟨v,rfl⟩:=List.length_eq_one_iff.1 hu
     have hr:=h.hr 0 0 _ _ _ _ (by rw [rowsI_cons]; rfl) rfl rfl rfl
     have ih:=rowsI_vals (w:=w) (ok:=ok) (zs:=zs) (us:=us) ⟨by simpa [rowsI_cons] using hl,fun i x hx=>h.hx (i + 1) x (by rw [rowsI_cons]; exact hx),fun i x hx=>h.hu (i + 1) x hx,fun i j x y d e h1 h2 h3 h4=>h.hr (i + 1) j x y d e (by rw [rowsI_cons]; exact h1) h2 h3 h4⟩
     cases hr
     rw [List.flatten_cons,ih]
     rfl
theorem rowsI_rep (w:World) (ok:Nat → Prop) (zs:List Int):RepRows w ok 1 (rowsI zs) (zs.map fun z=>[Value.int .i64 z]):=by
 refine ⟨by rw [List.length_map,rowsI_len],fun i x hx=>rowsI_all zs x (List.mem_of_getElem? hx),fun i u hu=>?_,fun i j x u d v h1 h2 h3 h4=>?_⟩
 ·obtain ⟨z,_,rfl⟩:∃ z,zs[i]? = some z ∧ [Value.int .i64 z] = u:=by simpa using hu
  rfl
 ·obtain ⟨z,hz,rfl⟩:∃ z,zs[i]? = some z ∧ [Value.int .i64 z] = u:=by simpa using h2
  have hx:x = [.val (.int .i64 z)]:=by
   unfold rowsI at h1
   rw [List.getElem?_map,hz] at h1
   exact (Option.some.inj h1).symm
  subst hx
  cases j with
  | zero=>
    cases h3; cases h4
    exact .val _ rfl
  | succ j=>cases h3
theorem compact_len:∀ (l:List Int),(compact l).length ≤ l.length
 | []=>by simp [compact]
 | [x]=>by simp [compact]
 | x :: y :: l=>by
   have:=compact_len (y :: l)
   simp only [compact]
   split
   ·simp only [List.length_cons] at this ⊢; omega
   ·simp only [List.length_cons] at this ⊢; omega
theorem c_Compact_int (zs:List Int) (hl9:zs.length ≤ 1000):C E.P 265 [.acc 0] [some (.acc 3 (rowsI zs))] (Eq2 (.acc 1) [some .dead,some (.acc 3 (rowsI (compact zs)))]):=by
 refine ⟨⟨_,Tryz.func265,rfl,rfl⟩,?_⟩
 intro X vs hst hO hs
 have hsz:=hs.size
 obtain ⟨v,rfl⟩:=List.length_eq_one_iff.1 (show vs.length = 1 by simpa using hsz)
 have hv0:=hs.sl 0
 obtain ⟨us,hown,hrr,hB,hf0⟩:=hs.en 0 (.acc 3 (rowsI zs)) rfl
 have hcell:E.P.cellsOf 3 = 1:=(E.ok 3 _ rfl).cells
 rw [hcell] at hown hrr
 have hus:=rowsI_vals hrr
 rw [hus,rowsI_len] at hown
 have hv:v = (X.ν0 0).v:=hv0.2
 have hcl:=compact_len zs
 have old0:∀ k,some 0 = some k → ∃ e,G.at ⟨[PV.acc 0],[some (En.acc 3 (rowsI zs))]⟩ k = some e ∧ e.live = true:=fun k hk=>by cases hk; exact ⟨_,rfl,rfl⟩
 rcases hown.2 with ⟨hnil,h0⟩ | ⟨g,cap,cur,hvv,_,hg,hn,hcm,hcs,htk⟩
 ·have hz:zs = []:=List.length_eq_zero_iff.1 h0
  subst hz
  rw [hv,hnil]
  refine (Tryz.slices_Compact_int_empty none 0 X.w0).mono ?_
  rintro e w' ⟨rfl,rfl⟩
  refine ⟨_,.acc 1,_,_,rfl,⟨rfl,rfl⟩,hs.move (some 0) old0 ((Chg.refl _ _)) 1 rfl (.acc 3 (rowsI [])) ⟨.slice none 0 0,[]⟩ rfl (fun b hb=>by have:=(has_nil rfl).1 hb; simp [blk] at this) 0 (.acc 1) (.slice none 0 0) (fun ok st ν' hν _ _=>?_) (fun ok st ν' hν hst _ _=>?_)⟩
  ·refine ⟨[],?_,RepRows.nil _ _ _,by simp [rowsI],by rw [hν]⟩
   rw [hν]
   exact ⟨by simp,.inl ⟨rfl,rfl⟩⟩
  ·simp only [RepPV]
   exact ⟨by rw [hst]; rfl,by rw [hν]⟩
 ·have hcur:∀ j,j < zs.length → cur[j]? = some (.int .i64 (zs.getD j 0)):=by
   intro j hj
   have h1:=congrArg (fun l=>l[j]?) htk
   simp only [Nat.mul_one,List.getElem?_take_of_lt hj,Array.getElem?_toList,List.getElem?_map] at h1
   rw [h1,List.getElem?_eq_getElem hj]
   simp [List.getD,hj]
  have key:=Tryz.slices_Compact_int_cells g 0 zs.length cap zs X.w0 (Nat.le_refl _) (by omega) hn (fun j hj=>by
   have:=cell_of_row X.w0 g (0 + j) cur _ (0,0) hg
   rw [this,Nat.zero_add]
   exact hcur j hj) (fun j hj=>by simp [World.frozen?,hg])
  rw [List.take_length,compact_lib _ zs rfl] at key
  rw [hv,hvv]
  refine key.mono ?_
  rintro e w' ⟨rfl,q,rfl⟩
  generalize hvals:(compact zs ++ List.replicate (zs.length - (compact zs).length) 0).map (Value.int .i64) = vals
  have hvl:vals.length = zs.length:=by rw [← hvals]; simp; omega
  obtain ⟨c1,c2,c3,c4,c5,c6⟩:=sets_chg g vals 0 (X.w0.drewN q)
  have hsz2:cur.size = cap:=by omega
  have hlist:=layA_list vals 0 cur (by omega)
  have hchg:Chg (fun b=>∃ k,some 0 = some k ∧ (X.ν0 k).has b) X.w0 ((X.w0.drewN q).setCells g 0 vals):=by
   refine ⟨c1,c2,c3,by rw [c4]; exact Nat.le_refl _,fun k hk hnb=>?_⟩
   rw [c5 k (fun hkg=>hnb ⟨0,rfl,.inl (by rw [hvv,hkg]; rfl)⟩)]
   rfl
  refine ⟨_,.acc 1,_,_,rfl,⟨rfl,rfl⟩,hs.move (some 0) old0 hchg 1 rfl (.acc 3 (rowsI (compact zs))) ⟨.slice (some ⟨g,0,none⟩) (compact zs).length cap,[]⟩ rfl (fun b hb=>.inl ⟨0,rfl,.inl (by rw [hvv]; exact (has_nil rfl).1 hb)⟩) 0 (.acc 1) (.slice (some ⟨g,0,none⟩) (compact zs).length cap) (fun ok st ν' hν _ _=>?_) (fun ok st ν' hν hst _ _=>?_)⟩
  ·refine ⟨(compact zs).map fun z=>[Value.int .i64 z],?_,by rw [hcell]; exact rowsI_rep _ _ _,by rw [rowsI_len]; unfold LB; omega,by rw [hν]⟩
   have hfl:((compact zs).map fun z=>[Value.int .i64 z]).flatten = (compact zs).map (Value.int .i64):=by
    induction compact zs with
    | nil=>rfl
    | cons a l ih=>rw [List.map_cons,List.flatten_cons,ih]; rfl
   rw [hν,hcell,rowsI_len,hfl]
   refine ⟨by simp,.inr ⟨g,cap,layA cur 0 vals,rfl,Nat.zero_le _,c6 _ _ _ hg,by omega,hcm,?_,?_⟩⟩
   ·have:=congrArg List.length hlist
    simp only [Array.length_toList,List.length_append,List.length_take,List.length_drop] at this
    omega
   ·rw [hlist,← hvals]
    simp
  ·simp only [RepPV]
   exact ⟨by rw [hst]; rfl,by rw [hν]⟩
theorem c_Clone_int_own (l:List Int) (hne:l ≠ []) (hl9:l.length ≤ 1000):C E.P 110 [lv (rowsI l)] [] (Eq2 (.acc 0) [some (.acc 3 (rowsI l))]):=by
 cases l with
 | nil=>exact absurd rfl hne
 | cons x xs=>
   have h1:=rowsI_all (x :: xs)
   rw [rowsI_cons] at h1 ⊢
   exact c_Clone_int_consO _ (rowsI xs) (by rw [rowsI_len]; simp at hl9; omega) h1
theorem c_impl_ClauseOf (l:List Int) (hne:l ≠ []) (hl9:l.length ≤ 12) (hb9:∀ x ∈ l,-1000000 ≤ x ∧ x ≤ 1000000):C E.P 239 [lv (rowsI l)] [] (Eq2 (.tup [lv (rowsI ((clauseOf l).getD [])),bv (clauseOf l).isSome]) []):=by
 have e:=clauseOf_fairB l
 have hLB:=LB_eq
 refine C_goS (nt:=29) (rs:=[.tmp 2,.tmp 3]) hm Tryz.func239 rfl rfl rfl rfl rfl (fun hl he=>?_)
 simp -implicitDefEqProofs only [go_sem,Z1,Z2,Z3,Z4] at hl ⊢
 refine loop_go1 hm (fun (i:Nat)=> i ≤ l.length ∧ (∀ x ∈ l.take i,-60 ≤ x ∧ x ≤ 60) ∧ fairB l = (l.drop i).all fun x=>isMark x 60 && !l.contains (-x)) (fun (i:Nat)=> ⟨mkS 29 .any [(0,lv (rowsI l)),(7,lv (rowsI l)),(8,iv l.length),(9,iv i)],[]⟩) (fun (i:Nat)=> l.length - i) (0) ?_ (weakS [] ?_ ?_ rfl rfl) ?_
 rotate_left
 ·simp -implicitDefEqProofs only [go_sem,Z1,Z2,Z3,Z4]
  all_goals (first | done | (simp [wks_rfl, *]; done) | (simp [wks_rfl]; done) | (simp; omega) | skip)
 ·simp -implicitDefEqProofs only [go_sem,Z1,Z2,Z3,Z4]
  all_goals (first | done | (simp [wks_rfl, *]; done) | (simp [wks_rfl]; done) | (simp; omega) | skip)
 rotate_left
 ·exact ⟨by omega,by simp,rfl⟩
 ·rintro i ⟨hi,ht,hg⟩
  rcases Classical.em (i < l.length) with h1 | h1
  ·have hb:=hb9 l[i] (List.getElem_mem h1)
   rw [List.drop_eq_getElem_cons h1,List.all_cons] at hg
   have hc:C E.P 237 [iv l[i],iv 60] [] (Eq2 (bv (isMark l[i] 60)) []):=c_impl_isMark l[i] 60 (by omega)
   try simp -implicitDefEqProofs only [go_sem,Z1,Z2,Z3,Z4,h1]
   try (with_reducible refine ind_andM (by kernel_rfl) ?_)
   refine atCall [] hc ?_ ?_ <;> simp -implicitDefEqProofs only [go_sem,Z1,Z2,Z3,Z4]
   try (with_reducible refine ind_andM (by kernel_rfl) ?_)
   cases h2:isMark l[i] 60
   ·rw [h2,Bool.false_and,Bool.false_and] at hg
    rw [hg,if_neg (by simp)] at e
    try simp -implicitDefEqProofs only [go_sem,Z1,Z2,Z3,Z4]
    try (with_reducible refine ind_andM (by kernel_rfl) ?_)
    refine fin1' ?_
    simp -implicitDefEqProofs only [go_sem,Z1,Z2,Z3,Z4]
    all_goals (first | done | (simp [e]; done) | (simp [e]; omega) | skip)
   ·have hm:=isMark_iff.1 h2
    rw [h2,Bool.true_and] at hg
    try simp -implicitDefEqProofs only [go_sem,Z1,Z2,Z3,Z4]
    try (with_reducible refine ind_andM (by kernel_rfl) ?_)
    repeat (first | with_reducible refine ind_andM (by kernel_rfl) ?_ | (with_reducible apply And.intro; case left=>first | omega | assumption | exact ⟨rowsT_all _,by omega⟩ | exact ⟨rowsI_all _,by omega⟩ | exact ⟨rowsLit_all _,by omega⟩ | exact ⟨rowsLin_all _,by omega⟩ | exact ⟨rowsEq_all _,by omega⟩ | rfl | (simp [*]; done) | (simp; omega) | exact ⟨rowsRat_all _,by omega⟩ | exact ⟨rowsAtom_all _,by omega⟩ | exact ⟨rowsB_all _,by omega⟩ | exact ⟨rowsForm_all _,by omega⟩ | exact ⟨rowsII_all _,by omega⟩))
    refine atCall [] (c_Contains_int l (-l[i])) ?_ ?_ <;> simp -implicitDefEqProofs only [go_sem,Z1,Z2,Z3,Z4]
    try (with_reducible refine ind_andM (by kernel_rfl) ?_)
    cases h3:l.contains (-l[i])
    ·rw [h3,Bool.not_false,Bool.true_and] at hg
     try simp -implicitDefEqProofs only [go_sem,Z1,Z2,Z3,Z4]
     try (with_reducible refine ind_andM (by kernel_rfl) ?_)
     repeat (first | with_reducible refine ind_andM (by kernel_rfl) ?_ | (with_reducible apply And.intro; case left=>first | omega | assumption | exact ⟨rowsT_all _,by omega⟩ | exact ⟨rowsI_all _,by omega⟩ | exact ⟨rowsLit_all _,by omega⟩ | exact ⟨rowsLin_all _,by omega⟩ | exact ⟨rowsEq_all _,by omega⟩ | rfl | (simp [*]; done) | (simp; omega) | exact ⟨rowsRat_all _,by omega⟩ | exact ⟨rowsAtom_all _,by omega⟩ | exact ⟨rowsB_all _,by omega⟩ | exact ⟨rowsForm_all _,by omega⟩ | exact ⟨rowsII_all _,by omega⟩))
     refine ⟨i + 1,?_,?_,weakS [] ?_ ?_ rfl rfl⟩
     rotate_left
     ·show _ < _
      omega
     ·simp -implicitDefEqProofs only [go_sem,Z1,Z2,Z3,Z4]
      all_goals (first | done | (simp [wks_rfl, *]; done) | (simp [wks_rfl]; done) | (simp; omega) | skip)
     ·simp -implicitDefEqProofs only [go_sem,Z1,Z2,Z3,Z4]
      all_goals (first | done | (simp [wks_rfl, *]; done) | (simp [wks_rfl]; done) | (simp; omega) | skip)
     refine ⟨by omega,fun x hx=>?_,hg⟩
     rw [take_snoc h1] at hx
     rcases List.mem_append.1 hx with hx | hx
     ·exact ht x hx
     ·rw [List.mem_singleton.1 hx]; omega
    ·rw [h3,Bool.not_true,Bool.false_and] at hg
     rw [hg,if_neg (by simp)] at e
     try simp -implicitDefEqProofs only [go_sem,Z1,Z2,Z3,Z4]
     try (with_reducible refine ind_andM (by kernel_rfl) ?_)
     refine fin1' ?_
     simp -implicitDefEqProofs only [go_sem,Z1,Z2,Z3,Z4]
     all_goals (first | done | (simp [e]; done) | (simp [e]; omega) | skip)
  ·rw [List.drop_of_length_le (by omega),List.all_nil] at hg
   rw [List.take_of_length_le (by omega)] at ht
   rw [hg,if_pos rfl] at e
   try simp -implicitDefEqProofs only [go_sem,Z1,Z2,Z3,Z4,h1]
   try (with_reducible refine ind_andM (by kernel_rfl) ?_)
   refine atOwn [] [0] (c_Clone_int_own l hne (by omega)) ?_ ?_ <;> simp -implicitDefEqProofs only [go_sem,Z1,Z2,Z3,Z4]
   try (with_reducible refine ind_andM (by kernel_rfl) ?_)
   refine atOwn [] [0] (c_SortFunc l hl9 ht) ?_ ?_ <;> simp -implicitDefEqProofs only [go_sem,Z1,Z2,Z3,Z4]
   try (with_reducible refine ind_andM (by kernel_rfl) ?_)
   refine atOwn [] [0,1] (c_Compact_int (isort l) (by rw [isort_len]; omega)) ?_ ?_ <;> simp -implicitDefEqProofs only [go_sem,Z1,Z2,Z3,Z4]
   try (with_reducible refine ind_andM (by kernel_rfl) ?_)
   refine fin1' ?_
   simp -implicitDefEqProofs only [go_sem,Z1,Z2,Z3,Z4]
   rw [e]
   exact ⟨rfl,rfl⟩
end Go.Proofs.YtpidddienjoleaaGreat
