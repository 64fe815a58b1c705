/-
  The program: the walks of clause form, compared, valued, judged. A step towards the laws.
-/
import Derived.Test.YtkkbmikoifnnbaaGreatDoorKBm
import Derived.Test.YtkkbmikoifnnbaaGreatDoorKBd
import Derived.Test.YtkkbmikoifnnbaaGreatDoorKBEa
import Derived.Test.YtkkbmikoifnnbaaGreatDoorKBDa
set_option linter.unusedVariables false
set_option linter.unusedSimpArgs false
namespace Go.Proofs.YtkkbmikoifnnbaaGreatDoor
open Go.Eng Go.Mod
open Int renaming reduceEq → Z1,reduceLT → Z2,reduceLE → Z3,reduceToNat → Z4
set_option maxRecDepth 100000
set_option maxHeartbeats 400000
theorem c_EqualFunc_Ints (f:Nat) (xs ys:List (List Int)) (hf:∀ x ∈ xs,∀ y,C E.P f [lv (rowsI x),lv (rowsI y)] [] (Eq2 (bv (decide (x = y))) [])) :
 C E.P 33 [lv (rowsII xs),lv (rowsII ys),.fn f []] [] (Eq2 (bv (decide (xs = ys))) []):=by
 have hLB:=LB_eq
 refine C_goS (nt:=32) (rs:=[.tmp 6]) hm Tryz.func33 rfl rfl rfl rfl rfl (fun hl he=>?_)
 simp -implicitDefEqProofs only [go_sem,Z1,Z2,Z3,Z4] at hl ⊢
 rcases Classical.em (xs.length = ys.length) with hl' | hl'
 ·try simp -implicitDefEqProofs only [go_sem,Z1,Z2,Z3,Z4,hl']
  try (with_reducible refine ind_andM (by kernel_rfl) ?_)
  refine loop_go1 hm (fun (i:Nat)=> i ≤ ys.length ∧ decide (xs = ys) = decide (xs.drop i = ys.drop i)) (fun (i:Nat)=> ⟨mkS 32 .any [(1,lv (rowsII ys)),(2,.fn f []),(15,lv (rowsII xs)),(16,iv ys.length),(17,iv i)],[]⟩) (fun (i:Nat)=> ys.length - i) (0) ?_ (weakS [] ?_ ?_ rfl rfl) ?_
  rotate_left
  ·simp -implicitDefEqProofs only [go_sem,Z1,Z2,Z3,Z4]
   all_goals (first | done | (simp [wks_rfl, *]; done) | (simp [wks_rfl]; done) | (simp; omega) | skip)
  ·simp -implicitDefEqProofs only [go_sem,Z1,Z2,Z3,Z4]
   all_goals (first | done | (simp [wks_rfl, *]; done) | (simp [wks_rfl]; done) | (simp; omega) | skip)
  rotate_left
  ·simp
  ·rintro i ⟨hi,hg⟩
   rcases Classical.em (i < ys.length) with h1 | h1
   ·have h2:i < xs.length:=by omega
    rw [List.drop_eq_getElem_cons h1,List.drop_eq_getElem_cons h2] at hg
    try simp -implicitDefEqProofs only [go_sem,Z1,Z2,Z3,Z4,h1,h2]
    try (with_reducible refine ind_andM (by kernel_rfl) ?_)
    have hc:=hf xs[i] (List.getElem_mem h2) ys[i]
    refine atCall [] hc ?_ ?_ <;> simp -implicitDefEqProofs only [go_sem,Z1,Z2,Z3,Z4]
    try (with_reducible refine ind_andM (by kernel_rfl) ?_)
    rcases Classical.em (xs[i] = ys[i]) with h3 | h3
    ·try simp -implicitDefEqProofs only [go_sem,Z1,Z2,Z3,Z4,h3]
     try (with_reducible refine ind_andM (by kernel_rfl) ?_)
     refine ⟨by omega,?_⟩
     refine ⟨i + 1,?_,?_,weakS [] ?_ ?_ rfl rfl⟩
     rotate_left
     ·show _ < _
      omega
     ·simp -implicitDefEqProofs only [go_sem,Z1,Z2,Z3,Z4]
      all_goals (first | done | (simp [wks_rfl, *]; done) | (simp [wks_rfl]; done) | (simp; omega) | skip)
     ·simp -implicitDefEqProofs only [go_sem,Z1,Z2,Z3,Z4]
      all_goals (first | done | (simp [wks_rfl, *]; done) | (simp [wks_rfl]; done) | (simp; omega) | skip)
     exact ⟨by omega,by rw [hg]; simp only [h3,List.cons.injEq,true_and]⟩
    ·have hg:decide (xs = ys) = false:=by rw [hg]; simp only [h3,List.cons.injEq,false_and,decide_false]
     try simp -implicitDefEqProofs only [go_sem,Z1,Z2,Z3,Z4,h3]
     try (with_reducible refine ind_andM (by kernel_rfl) ?_)
     refine fin1' ?_
     simp -implicitDefEqProofs only [go_sem,Z1,Z2,Z3,Z4]
     all_goals (first | done | (simp [hg]; done) | (simp [hg]; omega) | skip)
   ·have hg:decide (xs = ys) = true:=by
     rw [hg,List.drop_of_length_le (by omega),List.drop_of_length_le (by omega)]
     rfl
    try simp -implicitDefEqProofs only [go_sem,Z1,Z2,Z3,Z4,h1]
    try (with_reducible refine ind_andM (by kernel_rfl) ?_)
    refine fin1' ?_
    simp -implicitDefEqProofs only [go_sem,Z1,Z2,Z3,Z4]
    all_goals (first | done | (simp [hg]; done) | (simp [hg]; omega) | skip)
 ·have hn:¬ xs = ys:=fun h=>hl' (by rw [h])
  try simp -implicitDefEqProofs only [go_sem,Z1,Z2,Z3,Z4,hl']
  try (with_reducible refine ind_andM (by kernel_rfl) ?_)
  refine fin1' ?_
  simp -implicitDefEqProofs only [go_sem,Z1,Z2,Z3,Z4]
  all_goals (first | done | (simp [hn]; done) | (simp [hn]; omega) | skip)
theorem c_impl_translated_no (list:List Mod.Form) (h:formsAtoms list = none):C E.P 35 [lv (rowsForm list)] [] (Eq2 (.tup [.d (.val (.pointer none)),bv false]) []):=by
 have hLB:=LB_eq
 refine C_goS (nt:=36) (rs:=[.tmp 2,.tmp 3]) hm Tryz.func35 rfl rfl rfl rfl rfl (fun hl he=>?_)
 simp -implicitDefEqProofs only [go_sem,Z1,Z2,Z3,Z4] at hl ⊢
 have hc:=c_impl_formsAtoms list
 rw [h] at hc
 simp only [Option.getD_none,Option.isSome_none] at hc
 refine atCall [] hc ?_ ?_ <;> simp -implicitDefEqProofs only [go_sem,Z1,Z2,Z3,Z4]
 try (with_reducible refine ind_andM (by kernel_rfl) ?_)
 try simp -implicitDefEqProofs only [go_sem,Z1,Z2,Z3,Z4]
 try (with_reducible refine ind_andM (by kernel_rfl) ?_)
 refine fin1' ?_
 simp -implicitDefEqProofs only [go_sem,Z1,Z2,Z3,Z4]
theorem c_impl_CnfOf (list:List Mod.Form):C E.P 12 [lv (rowsForm list)] [] (Eq2 (av (cCnf (cnfOf list))) []):=by
 have hLB:=LB_eq
 refine C_goS (nt:=17) (rs:=[.cell 2 45]) hm Tryz.func12 rfl rfl rfl rfl rfl (fun hl he=>?_)
 simp -implicitDefEqProofs only [go_sem,Z1,Z2,Z3,Z4] at hl ⊢
 cases h:formsAtoms list with
 | none=>
   rw [cnfOf_none h]
   refine atCall [] (c_impl_translated_no list h) ?_ ?_ <;> simp -implicitDefEqProofs only [go_sem,Z1,Z2,Z3,Z4]
   try (with_reducible refine ind_andM (by kernel_rfl) ?_)
   try simp -implicitDefEqProofs only [go_sem,Z1,Z2,Z3,Z4]
   try (with_reducible refine ind_andM (by kernel_rfl) ?_)
   refine fin1' ?_
   simp -implicitDefEqProofs only [go_sem,Z1,Z2,Z3,Z4]
   repeat' apply And.intro
   all_goals rfl
 | some atoms=>
   refine atOwn [] [1,2,3] (c_impl_translated list atoms h) ?_ ?_ <;> simp -implicitDefEqProofs only [go_sem,Z1,Z2,Z3,Z4]
   try (with_reducible refine ind_andM (by kernel_rfl) ?_)
   refine fin1' ?_
   simp -implicitDefEqProofs only [go_sem,Z1,Z2,Z3,Z4]
theorem c_impl_FormAtoms (t:Mod.Form):C E.P 10 [av (cForm t)] [] (Eq2 (lv (rowsAtom (if isForm t then withAtoms [] t else []))) []):=by
 have hLB:=LB_eq
 refine C_goS (nt:=8) (rs:=[.tmp 2]) hm Tryz.func10 rfl rfl rfl rfl rfl (fun hl he=>?_)
 simp -implicitDefEqProofs only [go_sem,Z1,Z2,Z3,Z4] at hl ⊢
 refine atCall [] (c_impl_isForm t) ?_ ?_ <;> simp -implicitDefEqProofs only [go_sem,Z1,Z2,Z3,Z4]
 try (with_reducible refine ind_andM (by kernel_rfl) ?_)
 cases h:isForm t
 ·try simp -implicitDefEqProofs only [go_sem,Z1,Z2,Z3,Z4]
  try (with_reducible refine ind_andM (by kernel_rfl) ?_)
  refine fin1' ?_
  simp -implicitDefEqProofs only [go_sem,Z1,Z2,Z3,Z4]
  rfl
 ·try simp -implicitDefEqProofs only [go_sem,Z1,Z2,Z3,Z4]
  try (with_reducible refine ind_andM (by kernel_rfl) ?_)
  refine atCall [] (c_impl_withAtoms_nil t (isForm_shape h).1) ?_ ?_ <;> simp -implicitDefEqProofs only [go_sem,Z1,Z2,Z3,Z4]
  try (with_reducible refine ind_andM (by kernel_rfl) ?_)
  refine fin1' ?_
  simp -implicitDefEqProofs only [go_sem,Z1,Z2,Z3,Z4]
theorem c_impl_CnfSame (a c:Mod.Cnf):C E.P 11 [av (cCnf a),av (cCnf c)] [] (Eq2 (bv (decide (a = c))) []):=by
 have hLB:=LB_eq
 refine C_goS (nt:=17) (rs:=[.tmp 4]) hm Tryz.func11 rfl rfl rfl rfl rfl (fun hl he=>?_)
 simp -implicitDefEqProofs only [go_sem,Z1,Z2,Z3,Z4] at hl ⊢
 rcases Classical.em (a.many = c.many) with h | h
 ·have k:=eq_true h
  try simp -implicitDefEqProofs only [go_sem,Z1,Z2,Z3,Z4,k]
  try (with_reducible refine ind_andM (by kernel_rfl) ?_)
  refine atCall [] (c_EqualFunc_Ints 34 a.list c.list (fun x _ y=>c_Equal_int x y)) ?_ ?_ <;> simp -implicitDefEqProofs only [go_sem,Z1,Z2,Z3,Z4]
  try (with_reducible refine ind_andM (by kernel_rfl) ?_)
  refine fin1' ?_
  simp -implicitDefEqProofs only [go_sem,Z1,Z2,Z3,Z4]
  cases a; cases c
  simp only at h
  simp [h]
 ·try simp -implicitDefEqProofs only [go_sem,Z1,Z2,Z3,Z4,h]
  try (with_reducible refine ind_andM (by kernel_rfl) ?_)
  refine fin1' ?_
  simp -implicitDefEqProofs only [go_sem,Z1,Z2,Z3,Z4]
  cases a; cases c
  simp only at h
  simp [h]
def trE (vals:List Bool) (atoms:List Atom) (m:Int) (cl:List (List Int)) (fs:List Mod.Form):List (Option En):=[some (.box [lv (rowsB vals)]),some (.box [.ptr 2 0]),some (.box [iv m,.acc 3,lv (rowsAtom atoms),.acc 4]),some (.acc 26 (rowsII cl)),some (.acc 33 (rowsForm fs))]
attribute [go_sem] trE
end Go.Proofs.YtkkbmikoifnnbaaGreatDoor
