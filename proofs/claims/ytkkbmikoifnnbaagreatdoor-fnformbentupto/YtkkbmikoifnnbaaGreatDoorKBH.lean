/-
  The walks of the small functions of the first chapters. A step towards the exact laws. The walks of signatures and terms. A step towards the exact laws. The walks of signatures, sorts and parts. A step towards the exact laws. The walks of sorts, parts and equations. A step towards the exact laws.
-/
import Derived.Test.YtkkbmikoifnnbaaGreatDoorKBF
import Derived.Test.YtkkbmikoifnnbaaGreatDoorKBE
set_option linter.unusedVariables false
set_option linter.unusedSimpArgs false
namespace Go.Proofs.YtkkbmikoifnnbaaGreatDoor
open Go.Eng Go.Mod
open Int renaming reduceEq → Z1,reduceLT → Z2,reduceLE → Z3,reduceToNat → Z4
set_option maxRecDepth 100000
theorem c_impl_within (n lo hi:Int):C E.P 123 [iv n,iv lo,iv hi] [] (Eq2 (bv (within n lo hi)) []):=by
 have hLB:=LB_eq
 refine C_goS (nt:=15) (rs:=[.tmp 6]) hm Tryz.func123 rfl rfl rfl rfl rfl (fun hl he=>?_)
 simp -implicitDefEqProofs only [go_sem] at hl ⊢
 refine ifB_intro (fun h=>?_) (fun h=>?_) <;> simp only [h,go_sem]
 ·refine fin1' ?_
  simp -implicitDefEqProofs only [go_sem]
  all_goals (simp [within,h]; done)
 ·refine fin1' ?_
  simp -implicitDefEqProofs only [go_sem]
  all_goals (simp [within,h]; done)
theorem c_impl_NameOk (s:Str):C E.P 175 [sv s] [] (Eq2 (bv (nameOk s)) []):=by
 have hLB:=LB_eq
 refine C_goS (nt:=24) (rs:=[.tmp 2]) hm Tryz.func175 rfl rfl rfl rfl rfl (fun hl he=>?_)
 simp -implicitDefEqProofs only [go_sem] at hl ⊢
 have h:∃ b,within s.length 1 2 = b:=⟨_,rfl⟩
 obtain ⟨b,h⟩:=h
 refine atCall [] (c_impl_within s.length 1 2) ?_ ?_ <;> simp -implicitDefEqProofs only [go_sem,h]
 cases b
 ·simp -implicitDefEqProofs only [go_sem]
  refine fin1' ?_
  simp -implicitDefEqProofs only [go_sem]
  all_goals (simp [nameOk,h]; done)
 ·simp -implicitDefEqProofs only [go_sem]
  refine loop_go1 hm (fun (i:Nat)=> i ≤ s.length ∧ nameOk s = (s.drop i).all letter) (fun (i:Nat)=> ⟨mkS 24 .any [(0,sv s),(9,iv s.length),(10,iv i)],[]⟩) (fun (i:Nat)=> s.length - i) (0) ?_ (weakS [] ?_ ?_ rfl rfl) ?_
  rotate_left
  ·simp -implicitDefEqProofs only [go_sem]
  ·simp -implicitDefEqProofs only [go_sem]
  rotate_left
  ·simp [nameOk,h]
  ·rintro i ⟨hi,hg⟩
   rcases Classical.em (i < s.length) with h1 | h1
   ·rw [List.drop_eq_getElem_cons h1,List.all_cons] at hg
    simp -implicitDefEqProofs only [go_sem,h1]
    rw [getD_lt h1]
    rcases Classical.em ((s[i].toNat:Int) < 97) with h2 | h2
    ·have h3:letter s[i] = false:=by simp [letter]; omega
     rw [h3,Bool.false_and] at hg
     simp -implicitDefEqProofs only [go_sem,h2]
     refine fin1' ?_
     simp -implicitDefEqProofs only [go_sem]
     all_goals (simp [hg]; done)
    ·simp -implicitDefEqProofs only [go_sem,h2,h1]
     rw [getD_lt h1]
     rcases Classical.em (122 < (s[i].toNat:Int)) with h4 | h4
     ·have h3:letter s[i] = false:=by simp [letter]; omega
      rw [h3,Bool.false_and] at hg
      simp -implicitDefEqProofs only [go_sem,h4]
      refine fin1' ?_
      simp -implicitDefEqProofs only [go_sem]
      all_goals (simp [hg]; done)
     ·have h3:letter s[i] = true:=by simp [letter]; omega
      rw [h3,Bool.true_and] at hg
      simp -implicitDefEqProofs only [go_sem,h4]
      refine ⟨by omega,?_⟩
      refine ⟨i + 1,?_,?_,weakS [] ?_ ?_ rfl rfl⟩
      rotate_left
      ·show _ < _
       omega
      ·simp -implicitDefEqProofs only [go_sem]
      ·simp -implicitDefEqProofs only [go_sem]
      exact ⟨by omega,hg⟩
   ·rw [List.drop_of_length_le (by omega)] at hg
    simp -implicitDefEqProofs only [go_sem,h1]
    refine fin1' ?_
    simp -implicitDefEqProofs only [go_sem]
    all_goals (simp [hg]; done)
end Go.Proofs.YtkkbmikoifnnbaaGreatDoor
namespace Go.Proofs.YtkkbmikoifnnbaaGreatDoor
open Go.Eng Go.Mod
open Int renaming reduceEq → Z1,reduceLT → Z2,reduceLE → Z3,reduceToNat → Z4
set_option maxRecDepth 100000
theorem c_EqualFunc_Term (f:Nat) (xs ys:List Term) (hf:∀ x ∈ xs,∀ y,C E.P f [av (cT x),av (cT y)] [] (Eq2 (bv (decide (x = y))) [])) :
 C E.P 84 [lv (rowsT xs),lv (rowsT ys),.fn f []] [] (Eq2 (bv (decide (xs = ys))) []):=by
 have hLB:=LB_eq
 refine C_goS (nt:=32) (rs:=[.tmp 6]) hm Tryz.func84 rfl rfl rfl rfl rfl (fun hl he=>?_)
 simp -implicitDefEqProofs only [go_sem,Z1,Z2,Z3,Z4] at hl ⊢
 rcases Classical.em (xs.length = ys.length) with hl' | hl'
 ·try simp -implicitDefEqProofs only [go_sem,Z1,Z2,Z3,Z4,hl']
  try (with_reducible refine ind_andM (by kernel_rfl) ?_)
  refine loop_go1 hm (fun (i:Nat)=> i ≤ ys.length ∧ decide (xs = ys) = decide (xs.drop i = ys.drop i)) (fun (i:Nat)=> ⟨mkS 32 .any [(1,lv (rowsT ys)),(2,.fn f []),(15,lv (rowsT xs)),(16,iv ys.length),(17,iv i)],[]⟩) (fun (i:Nat)=> ys.length - i) (0) ?_ (weakS [] ?_ ?_ rfl rfl) ?_
  rotate_left
  ·simp -implicitDefEqProofs only [go_sem,Z1,Z2,Z3,Z4]
   all_goals (first | done | (simp [wks_rfl, *]; done) | (simp [wks_rfl]; done) | (simp; omega) | skip)
  ·simp -implicitDefEqProofs only [go_sem,Z1,Z2,Z3,Z4]
   all_goals (first | done | (simp [wks_rfl, *]; done) | (simp [wks_rfl]; done) | (simp; omega) | skip)
  rotate_left
  ·simp
  ·rintro i ⟨hi,hg⟩
   rcases Classical.em (i < ys.length) with h1 | h1
   ·have h2:i < xs.length:=by omega
    rw [List.drop_eq_getElem_cons h1,List.drop_eq_getElem_cons h2] at hg
    try simp -implicitDefEqProofs only [go_sem,Z1,Z2,Z3,Z4,h1,h2]
    try (with_reducible refine ind_andM (by kernel_rfl) ?_)
    have hc:=hf xs[i] (List.getElem_mem h2) ys[i]
    refine atCall [] hc ?_ ?_ <;> simp -implicitDefEqProofs only [go_sem,Z1,Z2,Z3,Z4]
    try (with_reducible refine ind_andM (by kernel_rfl) ?_)
    rcases Classical.em (xs[i] = ys[i]) with h3 | h3
    ·try simp -implicitDefEqProofs only [go_sem,Z1,Z2,Z3,Z4,h3]
     try (with_reducible refine ind_andM (by kernel_rfl) ?_)
     refine ⟨by omega,?_⟩
     refine ⟨i + 1,?_,?_,weakS [] ?_ ?_ rfl rfl⟩
     rotate_left
     ·show _ < _
      omega
     ·simp -implicitDefEqProofs only [go_sem,Z1,Z2,Z3,Z4]
      all_goals (first | done | (simp [wks_rfl, *]; done) | (simp [wks_rfl]; done) | (simp; omega) | skip)
     ·simp -implicitDefEqProofs only [go_sem,Z1,Z2,Z3,Z4]
      all_goals (first | done | (simp [wks_rfl, *]; done) | (simp [wks_rfl]; done) | (simp; omega) | skip)
     exact ⟨by omega,by rw [hg]; simp only [h3,List.cons.injEq,true_and]⟩
    ·have hg:decide (xs = ys) = false:=by rw [hg]; simp only [h3,List.cons.injEq,false_and,decide_false]
     try simp -implicitDefEqProofs only [go_sem,Z1,Z2,Z3,Z4,h3]
     try (with_reducible refine ind_andM (by kernel_rfl) ?_)
     refine fin1' ?_
     simp -implicitDefEqProofs only [go_sem,Z1,Z2,Z3,Z4]
     all_goals (first | done | (simp [hg]; done) | (simp [hg]; omega) | skip)
   ·have hg:decide (xs = ys) = true:=by
     rw [hg,List.drop_of_length_le (by omega),List.drop_of_length_le (by omega)]
     rfl
    try simp -implicitDefEqProofs only [go_sem,Z1,Z2,Z3,Z4,h1]
    try (with_reducible refine ind_andM (by kernel_rfl) ?_)
    refine fin1' ?_
    simp -implicitDefEqProofs only [go_sem,Z1,Z2,Z3,Z4]
    all_goals (first | done | (simp [hg]; done) | (simp [hg]; omega) | skip)
 ·have hn:¬ xs = ys:=fun h=>hl' (by rw [h])
  try simp -implicitDefEqProofs only [go_sem,Z1,Z2,Z3,Z4,hl']
  try (with_reducible refine ind_andM (by kernel_rfl) ?_)
  refine fin1' ?_
  simp -implicitDefEqProofs only [go_sem,Z1,Z2,Z3,Z4]
  all_goals (first | done | (simp [hn]; done) | (simp [hn]; omega) | skip)
theorem term_eq {a b:Term}:a = b ↔ a.name = b.name ∧ a.kids = b.kids:=by
 cases a; cases b; simp [Term.name,Term.kids]
theorem c_impl_TermSame1 (a b:Term) (ih:∀ k ∈ a.kids,∀ y,C E.P 83 [av (cT k),av (cT y)] [] (Eq2 (bv (decide (k = y))) [])):C E.P 83 [av (cT a),av (cT b)] [] (Eq2 (bv (decide (a = b))) []):=by
 have hLB:=LB_eq
 refine C_goS (nt:=17) (rs:=[.tmp 4]) hm Tryz.func83 rfl rfl rfl rfl rfl (fun hl he=>?_)
 simp -implicitDefEqProofs only [go_sem,Z1,Z2,Z3,Z4] at hl ⊢
 rcases Classical.em (a.name = b.name) with h | h
 ·try simp -implicitDefEqProofs only [go_sem,Z1,Z2,Z3,Z4,h]
  try (with_reducible refine ind_andM (by kernel_rfl) ?_)
  refine atCall [] (c_EqualFunc_Term 83 a.kids b.kids ih) ?_ ?_ <;> simp -implicitDefEqProofs only [go_sem,Z1,Z2,Z3,Z4]
  try (with_reducible refine ind_andM (by kernel_rfl) ?_)
  refine fin1' ?_
  simp -implicitDefEqProofs only [go_sem,Z1,Z2,Z3,Z4]
  all_goals (first | done | (simp [term_eq,h]; done) | (simp [term_eq,h]; omega) | skip)
 ·try simp -implicitDefEqProofs only [go_sem,Z1,Z2,Z3,Z4,h]
  try (with_reducible refine ind_andM (by kernel_rfl) ?_)
  refine fin1' ?_
  simp -implicitDefEqProofs only [go_sem,Z1,Z2,Z3,Z4]
  all_goals (first | done | (simp [term_eq,h]; done) | (simp [term_eq,h]; omega) | skip)
theorem c_impl_TermSame:∀ a b,C E.P 83 [av (cT a),av (cT b)] [] (Eq2 (bv (decide (a = b))) []):=
 Term.ind fun n ks ih b=>c_impl_TermSame1 _ b ih
theorem c_impl_ownTerms1 (ts:List Term) (ih:∀ k ∈ ts,C E.P 102 [av (cT k)] [] (Eq2 (av (cT k)) [])):C E.P 103 [lv (rowsT ts)] [] (Eq2 (lv (rowsT ts)) []):=by
 have hLB:=LB_eq
 refine C_goS (nt:=19) (rs:=[.tmp 2]) hm Tryz.func103 rfl rfl rfl rfl rfl (fun hl he=>?_)
 simp -implicitDefEqProofs only [go_sem,Z1,Z2,Z3,Z4] at hl ⊢
 refine loop_go1 hm (fun (i:Nat)=> i ≤ ts.length) (fun (i:Nat)=> ⟨mkS 19 .any [(3,.acc 0),(6,lv (rowsT ts)),(7,iv ts.length),(8,iv i)],[some (.acc 25 (rowsT (ts.take i)))]⟩) (fun (i:Nat)=> ts.length - i) (0) ?_ (weakS [none] ?_ ?_ rfl rfl) ?_
 rotate_left
 ·simp -implicitDefEqProofs only [go_sem,Z1,Z2,Z3,Z4]
  all_goals (first | done | (simp [wks_rfl, *]; done) | (simp [wks_rfl]; done) | (simp; omega) | skip)
 ·simp -implicitDefEqProofs only [go_sem,Z1,Z2,Z3,Z4]
  all_goals (first | done | (simp [wks_rfl, *]; done) | (simp [wks_rfl]; done) | (simp; omega) | skip)
 rotate_left
 ·omega
 ·rintro i hi
  rcases Classical.em (i < ts.length) with h1 | h1
  ·try simp -implicitDefEqProofs only [go_sem,Z1,Z2,Z3,Z4,h1]
   try (with_reducible refine ind_andM (by kernel_rfl) ?_)
   have hc:=ih ts[i] (List.getElem_mem h1)
   refine atCall [] hc ?_ ?_ <;> simp -implicitDefEqProofs only [go_sem,Z1,Z2,Z3,Z4]
   try (with_reducible refine ind_andM (by kernel_rfl) ?_)
   refine ⟨by omega,by omega,?_⟩
   refine ⟨i + 1,?_,?_,weakS [some 2] ?_ ?_ rfl rfl⟩
   rotate_left
   ·show _ < _
    omega
   ·simp -implicitDefEqProofs only [go_sem,Z1,Z2,Z3,Z4]
    all_goals (first | done | (exact rowsT_snoc h1) | (simp [wks_rfl, *]; done) | (simp [wks_rfl]; done) | (simp; omega) | skip)
   ·simp -implicitDefEqProofs only [go_sem,Z1,Z2,Z3,Z4]
    all_goals (first | done | (exact rowsT_snoc h1) | (simp [wks_rfl, *]; done) | (simp [wks_rfl]; done) | (simp; omega) | skip)
   exact h1
  ·try simp -implicitDefEqProofs only [go_sem,Z1,Z2,Z3,Z4,h1]
   try (with_reducible refine ind_andM (by kernel_rfl) ?_)
   refine fin1' ?_
   simp -implicitDefEqProofs only [go_sem,Z1,Z2,Z3,Z4]
   rw [List.take_of_length_le (by omega)]
theorem c_impl_own1 (t:Term) (ih:∀ k ∈ t.kids,C E.P 102 [av (cT k)] [] (Eq2 (av (cT k)) [])):C E.P 102 [av (cT t)] [] (Eq2 (av (cT t)) []):=by
 have hLB:=LB_eq
 refine C_goS (nt:=9) (rs:=[.cell 2 25]) hm Tryz.func102 rfl rfl rfl rfl rfl (fun hl he=>?_)
 simp -implicitDefEqProofs only [go_sem,Z1,Z2,Z3,Z4] at hl ⊢
 refine atCall [] (c_impl_ownTerms1 t.kids ih) ?_ ?_ <;> simp -implicitDefEqProofs only [go_sem,Z1,Z2,Z3,Z4]
 try (with_reducible refine ind_andM (by kernel_rfl) ?_)
 skip
 refine fin1' ?_
 simp -implicitDefEqProofs only [go_sem,Z1,Z2,Z3,Z4]
 all_goals (first | done | (simp; done) | (simp; omega) | skip)
theorem c_impl_Term_own:∀ t,C E.P 102 [av (cT t)] [] (Eq2 (av (cT t)) []):=
 Term.ind fun n ks ih=>c_impl_own1 _ ih
theorem c_impl_ownTerms (ts:List Term):C E.P 103 [lv (rowsT ts)] [] (Eq2 (lv (rowsT ts)) []):=c_impl_ownTerms1 ts fun t _=>c_impl_Term_own t
end Go.Proofs.YtkkbmikoifnnbaaGreatDoor
namespace Go.Proofs.YtkkbmikoifnnbaaGreatDoor
open Go.Eng Go.Mod
open Int renaming reduceEq → Z1,reduceLT → Z2,reduceLE → Z3,reduceToNat → Z4
set_option maxRecDepth 100000
theorem termSize_eq (t:Term) (deep:Nat):termSize t deep = if nameOk t.name && decide (t.kids.length ≤ 2) && decide (deep ≤ 4) then 1 + termSizes t.kids (deep + 1) else 13:=by
 cases t; rfl
theorem termSizes_take {ts:List Term} {i:Nat} (h:i < ts.length) (deep:Nat):termSizes (ts.take (i + 1)) deep = termSizes (ts.take i) deep + termSize ts[i] deep:=by
 have e:ts.take (i + 1) = ts.take i ++ [ts[i]]:=by rw [List.take_add_one,List.getElem?_eq_getElem h]; rfl
 have key:∀ (xs ys:List Term),termSizes (xs ++ ys) deep = termSizes xs deep + termSizes ys deep:=by
  intro xs ys
  induction xs with
  | nil=>simp [termSizes]
  | cons a xs ih=>simp only [List.cons_append,termSizes,ih]; omega
 rw [e,key]
 simp [termSizes]
theorem c_impl_termSize1 (t:Term) (ih:∀ k ∈ t.kids,∀ deep:Nat,1 ≤ deep → deep ≤ 5 → C E.P 150 [av (cT k),iv deep] [] (Eq2 (iv (termSize k deep)) [])) (deep:Nat) (g1:1 ≤ deep) (g5:deep ≤ 5) :
 C E.P 150 [av (cT t),iv deep] [] (Eq2 (iv (termSize t deep)) []):=by
 have ht:=termSize_eq t deep
 have hLB:=LB_eq
 refine C_goS (nt:=37) (rs:=[.tmp 4]) hm Tryz.func150 rfl rfl rfl rfl rfl (fun hl he=>?_)
 simp -implicitDefEqProofs only [go_sem,Z1,Z2,Z3,Z4] at hl ⊢
 refine atCall [] (c_impl_NameOk t.name) ?_ ?_ <;> simp -implicitDefEqProofs only [go_sem,Z1,Z2,Z3,Z4]
 try (with_reducible refine ind_andM (by kernel_rfl) ?_)
 cases hn:nameOk t.name
 ·rw [hn] at ht
  try simp -implicitDefEqProofs only [go_sem,Z1,Z2,Z3,Z4]
  try (with_reducible refine ind_andM (by kernel_rfl) ?_)
  refine fin1' ?_
  simp -implicitDefEqProofs only [go_sem,Z1,Z2,Z3,Z4]
  all_goals (first | done | (simp [ht]; done) | (simp [ht]; omega) | skip)
 ·rw [hn] at ht
  rcases Classical.em ((2:Int) < (t.kids.length:Int)) with h2 | h2
  ·have h2':¬ t.kids.length ≤ 2:=by omega
   simp only [h2',decide_false,Bool.and_false,Bool.false_and,Bool.false_eq_true,if_false] at ht
   try simp -implicitDefEqProofs only [go_sem,Z1,Z2,Z3,Z4,h2]
   try (with_reducible refine ind_andM (by kernel_rfl) ?_)
   refine fin1' ?_
   simp -implicitDefEqProofs only [go_sem,Z1,Z2,Z3,Z4]
   all_goals (first | done | (simp [ht]; done) | (simp [ht]; omega) | skip)
  ·have h2':t.kids.length ≤ 2:=by omega
   rcases Classical.em ((4:Int) < (deep:Int)) with h4 | h4
   ·have h4':¬ deep ≤ 4:=by omega
    simp only [h4',decide_false,Bool.and_false,Bool.false_and,Bool.false_eq_true,if_false] at ht
    try simp -implicitDefEqProofs only [go_sem,Z1,Z2,Z3,Z4,h2,h4]
    try (with_reducible refine ind_andM (by kernel_rfl) ?_)
    refine fin1' ?_
    simp -implicitDefEqProofs only [go_sem,Z1,Z2,Z3,Z4]
    all_goals (first | done | (simp [ht]; done) | (simp [ht]; omega) | skip)
   ·have h4':deep ≤ 4:=by omega
    simp only [h2',h4',decide_true,Bool.and_self,if_true] at ht
    try simp -implicitDefEqProofs only [go_sem,Z1,Z2,Z3,Z4,h2,h4]
    try (with_reducible refine ind_andM (by kernel_rfl) ?_)
    refine loop_go1 hm (fun (i:Nat)=> i ≤ t.kids.length) (fun (i:Nat)=> ⟨mkS 37 .any [(1,iv deep),(5,iv ((1 + termSizes (t.kids.take i) (deep + 1):Nat):Int)),(23,lv (rowsT t.kids)),(24,iv t.kids.length),(25,iv i)],[]⟩) (fun (i:Nat)=> t.kids.length - i) (0) ?_ (weakS [] ?_ ?_ rfl rfl) ?_
    rotate_left
    ·simp -implicitDefEqProofs only [go_sem,Z1,Z2,Z3,Z4]
     all_goals (first | done | (simp [termSizes]) | (simp [wks_rfl, *]; done) | (simp [wks_rfl]; done) | (simp; omega) | skip)
    ·simp -implicitDefEqProofs only [go_sem,Z1,Z2,Z3,Z4]
     all_goals (first | done | (simp [termSizes]) | (simp [wks_rfl, *]; done) | (simp [wks_rfl]; done) | (simp; omega) | skip)
    rotate_left
    ·omega
    ·rintro i hi
     have hb:=termSizes_le (t.kids.take i) (deep + 1) (by omega) (by omega)
     have hp:(2:Nat) ^ (5 - (deep + 1)) ≤ 2 ^ 4:=Nat.pow_le_pow_right (by omega) (by omega)
     have hq:(t.kids.take i).length * (27 * 2 ^ (5 - (deep + 1)) - 14) ≤ 2 * (27 * 2 ^ (5 - (deep + 1)) - 14):=Nat.mul_le_mul_right _ (by simp; omega)
     rcases Classical.em (i < t.kids.length) with h1 | h1
     ·have hk:=termSize_le t.kids[i] (deep + 1) (by omega) (by omega)
      try simp -implicitDefEqProofs only [go_sem,Z1,Z2,Z3,Z4,h1]
      try (with_reducible refine ind_andM (by kernel_rfl) ?_)
      refine ⟨by omega,?_⟩
      have hc:=ih t.kids[i] (List.getElem_mem h1) (deep + 1) (by omega) (by omega)
      refine atCall [] hc ?_ ?_ <;> simp -implicitDefEqProofs only [go_sem,Z1,Z2,Z3,Z4]
      try (with_reducible refine ind_andM (by kernel_rfl) ?_)
      refine ⟨by omega,by omega,?_⟩
      refine ⟨i + 1,?_,?_,weakS [] ?_ ?_ rfl rfl⟩
      rotate_left
      ·show _ < _
       omega
      ·simp -implicitDefEqProofs only [go_sem,Z1,Z2,Z3,Z4]
       all_goals (first | done | ((simp only [termSizes_take h1]; simp; omega)) | (simp [wks_rfl, *]; done) | (simp [wks_rfl]; done) | (simp; omega) | skip)
      ·simp -implicitDefEqProofs only [go_sem,Z1,Z2,Z3,Z4]
       all_goals (first | done | ((simp only [termSizes_take h1]; simp; omega)) | (simp [wks_rfl, *]; done) | (simp [wks_rfl]; done) | (simp; omega) | skip)
      exact h1
     ·rw [← List.take_of_length_le (l:=t.kids) (i:=i) (by omega)] at ht
      try simp -implicitDefEqProofs only [go_sem,Z1,Z2,Z3,Z4,h1]
      try (with_reducible refine ind_andM (by kernel_rfl) ?_)
      refine fin1' ?_
      simp -implicitDefEqProofs only [go_sem,Z1,Z2,Z3,Z4]
      all_goals (first | done | (simp [ht]; done) | (simp [ht]; omega) | skip)
theorem c_impl_termSize:∀ (t:Term) (deep:Nat),1 ≤ deep → deep ≤ 5 → C E.P 150 [av (cT t),iv deep] [] (Eq2 (iv (termSize t deep)) []):=
 Term.ind fun n ks ih deep h1 h2=>c_impl_termSize1 (.mk n ks) ih deep h1 h2
theorem c_impl_isTerm (t:Term):C E.P 121 [av (cT t)] [] (Eq2 (bv (isTerm t)) []):=by
 have hLB:=LB_eq
 refine C_goS (nt:=6) (rs:=[.tmp 2]) hm Tryz.func121 rfl rfl rfl rfl rfl (fun hl he=>?_)
 simp -implicitDefEqProofs only [go_sem,Z1,Z2,Z3,Z4] at hl ⊢
 have hc:=c_impl_termSize t 1 (by omega) (by omega)
 refine atCall [] hc ?_ ?_ <;> simp -implicitDefEqProofs only [go_sem,Z1,Z2,Z3,Z4]
 try (with_reducible refine ind_andM (by kernel_rfl) ?_)
 refine fin1' ?_
 simp -implicitDefEqProofs only [go_sem,Z1,Z2,Z3,Z4]
 all_goals (first | done | (simp [isTerm]; done) | (simp [isTerm]; omega) | skip)
def prevName (l:List Sym):Nat → Option Str
 | 0=>none
 | j + 1=>(l[j]?).map (·.name)
end Go.Proofs.YtkkbmikoifnnbaaGreatDoor
namespace Go.Proofs.YtkkbmikoifnnbaaGreatDoor
open Go.Eng Go.Mod
open Int renaming reduceEq → Z1,reduceLT → Z2,reduceLE → Z3,reduceToNat → Z4
set_option maxRecDepth 100000
theorem sortOf_eq (s:Sig) (t:Term):sortOf s t = match symbol s t.name with
 | none=>none
 | some x=>if decide (x.args.length = t.kids.length) && sortsOk s t.kids x.args then some x.sort else none:=by
 cases t; simp only [sortOf,Term.name,Term.kids]; rfl
theorem sortsOk_drop {s:Sig} {ks:List Term} {ns:List Int} {i:Nat} (h:i < ks.length) (h':i < ns.length):sortsOk s (ks.drop i) (ns.drop i) = (decide (sortOf s ks[i] = some ns[i]) && sortsOk s (ks.drop (i + 1)) (ns.drop (i + 1))):=by
 rw [List.drop_eq_getElem_cons h,List.drop_eq_getElem_cons h',sortsOk]
theorem c_impl_isNone (t:Term):C E.P 122 [av (cT t)] [] (Eq2 (bv (isNone t)) []):=by
 have hLB:=LB_eq
 refine C_goS (nt:=12) (rs:=[.tmp 2]) hm Tryz.func122 rfl rfl rfl rfl rfl (fun hl he=>?_)
 simp -implicitDefEqProofs only [go_sem,Z1,Z2,Z3,Z4] at hl ⊢
 rcases Classical.em (t.name = []) with h | h
 ·try simp -implicitDefEqProofs only [go_sem,Z1,Z2,Z3,Z4,h]
  try (with_reducible refine ind_andM (by kernel_rfl) ?_)
  refine fin1' ?_
  simp -implicitDefEqProofs only [go_sem,Z1,Z2,Z3,Z4]
  all_goals (first | done | (simp [isNone,h]; done) | (simp [isNone,h]; omega) | skip)
 ·try simp -implicitDefEqProofs only [go_sem,Z1,Z2,Z3,Z4,h]
  try (with_reducible refine ind_andM (by kernel_rfl) ?_)
  refine fin1' ?_
  simp -implicitDefEqProofs only [go_sem,Z1,Z2,Z3,Z4]
  all_goals (first | done | (simp [isNone,h]; done) | (simp [isNone,h]; omega) | skip)
end Go.Proofs.YtkkbmikoifnnbaaGreatDoor
