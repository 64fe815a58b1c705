/-
  The program: words, forms and stacks compared. A step towards the laws. The program: what a stack that is none answers. A step towards the laws.
-/
import Derived.Test.YtpidddienjoleaaGreatKAd
import Derived.Test.YtpidddienjoleaaGreatKAc
import Derived.Test.YtpidddienjoleaaGreatKAEa
import Derived.Test.YtpidddienjoleaaGreatKAs
set_option linter.unusedVariables false
set_option linter.unusedSimpArgs false
namespace Go.Proofs.YtpidddienjoleaaGreat
open Go.Eng Go.Mod
open Int renaming reduceEq → Z1,reduceLT → Z2,reduceLE → Z3,reduceToNat → Z4
set_option maxRecDepth 100000
set_option maxHeartbeats 400000
theorem c_EqualFunc_Sym (f:Nat) (xs ys:List Sym) (hf:∀ x ∈ xs,∀ y,C E.P f [av (cSym x),av (cSym y)] [] (Eq2 (bv (decide (x = y))) [])) :
 C E.P 75 [lv (rowsSym xs),lv (rowsSym ys),.fn f []] [] (Eq2 (bv (decide (xs = ys))) []):=by
 have hLB:=LB_eq
 refine C_goS (nt:=32) (rs:=[.tmp 6]) hm Tryz.func75 rfl rfl rfl rfl rfl (fun hl he=>?_)
 simp -implicitDefEqProofs only [go_sem,Z1,Z2,Z3,Z4] at hl ⊢
 rcases Classical.em (xs.length = ys.length) with hl' | hl'
 ·try simp -implicitDefEqProofs only [go_sem,Z1,Z2,Z3,Z4,hl']
  try (with_reducible refine ind_andM (by kernel_rfl) ?_)
  refine loop_go1 hm (fun (i:Nat)=> i ≤ ys.length ∧ decide (xs = ys) = decide (xs.drop i = ys.drop i)) (fun (i:Nat)=> ⟨mkS 32 .any [(1,lv (rowsSym ys)),(2,.fn f []),(15,lv (rowsSym xs)),(16,iv ys.length),(17,iv i)],[]⟩) (fun (i:Nat)=> ys.length - i) (0) ?_ (weakS [] ?_ ?_ rfl rfl) ?_
  rotate_left
  ·simp -implicitDefEqProofs only [go_sem,Z1,Z2,Z3,Z4]
   all_goals (first | done | (simp [wks_rfl, *]; done) | (simp [wks_rfl]; done) | (simp; omega) | skip)
  ·simp -implicitDefEqProofs only [go_sem,Z1,Z2,Z3,Z4]
   all_goals (first | done | (simp [wks_rfl, *]; done) | (simp [wks_rfl]; done) | (simp; omega) | skip)
  rotate_left
  ·simp
  ·rintro i ⟨hi,hg⟩
   rcases Classical.em (i < ys.length) with h1 | h1
   ·have h2:i < xs.length:=by omega
    rw [List.drop_eq_getElem_cons h1,List.drop_eq_getElem_cons h2] at hg
    try simp -implicitDefEqProofs only [go_sem,Z1,Z2,Z3,Z4,h1,h2]
    try (with_reducible refine ind_andM (by kernel_rfl) ?_)
    have hc:=hf xs[i] (List.getElem_mem h2) ys[i]
    refine atCall [] hc ?_ ?_ <;> simp -implicitDefEqProofs only [go_sem,Z1,Z2,Z3,Z4]
    try (with_reducible refine ind_andM (by kernel_rfl) ?_)
    rcases Classical.em (xs[i] = ys[i]) with h3 | h3
    ·try simp -implicitDefEqProofs only [go_sem,Z1,Z2,Z3,Z4,h3]
     try (with_reducible refine ind_andM (by kernel_rfl) ?_)
     refine ⟨by omega,?_⟩
     refine ⟨i + 1,?_,?_,weakS [] ?_ ?_ rfl rfl⟩
     rotate_left
     ·show _ < _
      omega
     ·simp -implicitDefEqProofs only [go_sem,Z1,Z2,Z3,Z4]
      all_goals (first | done | (simp [wks_rfl, *]; done) | (simp [wks_rfl]; done) | (simp; omega) | skip)
     ·simp -implicitDefEqProofs only [go_sem,Z1,Z2,Z3,Z4]
      all_goals (first | done | (simp [wks_rfl, *]; done) | (simp [wks_rfl]; done) | (simp; omega) | skip)
     exact ⟨by omega,by rw [hg]; simp only [h3,List.cons.injEq,true_and]⟩
    ·have hg:decide (xs = ys) = false:=by rw [hg]; simp only [h3,List.cons.injEq,false_and,decide_false]
     try simp -implicitDefEqProofs only [go_sem,Z1,Z2,Z3,Z4,h3]
     try (with_reducible refine ind_andM (by kernel_rfl) ?_)
     refine fin1' ?_
     simp -implicitDefEqProofs only [go_sem,Z1,Z2,Z3,Z4]
     all_goals (first | done | (simp [hg]; done) | (simp [hg]; omega) | skip)
   ·have hg:decide (xs = ys) = true:=by
     rw [hg,List.drop_of_length_le (by omega),List.drop_of_length_le (by omega)]
     rfl
    try simp -implicitDefEqProofs only [go_sem,Z1,Z2,Z3,Z4,h1]
    try (with_reducible refine ind_andM (by kernel_rfl) ?_)
    refine fin1' ?_
    simp -implicitDefEqProofs only [go_sem,Z1,Z2,Z3,Z4]
    all_goals (first | done | (simp [hg]; done) | (simp [hg]; omega) | skip)
 ·have hn:¬ xs = ys:=fun h=>hl' (by rw [h])
  try simp -implicitDefEqProofs only [go_sem,Z1,Z2,Z3,Z4,hl']
  try (with_reducible refine ind_andM (by kernel_rfl) ?_)
  refine fin1' ?_
  simp -implicitDefEqProofs only [go_sem,Z1,Z2,Z3,Z4]
  all_goals (first | done | (simp [hn]; done) | (simp [hn]; omega) | skip)
theorem c_EqualFunc_Form (f:Nat) (xs ys:List Mod.Form) (hf:∀ x ∈ xs,∀ y,C E.P f [av (cForm x),av (cForm y)] [] (Eq2 (bv (decide (x = y))) [])) :
 C E.P 64 [lv (rowsForm xs),lv (rowsForm ys),.fn f []] [] (Eq2 (bv (decide (xs = ys))) []):=by
 have hLB:=LB_eq
 refine C_goS (nt:=32) (rs:=[.tmp 6]) hm Tryz.func64 rfl rfl rfl rfl rfl (fun hl he=>?_)
 simp -implicitDefEqProofs only [go_sem,Z1,Z2,Z3,Z4] at hl ⊢
 rcases Classical.em (xs.length = ys.length) with hl' | hl'
 ·try simp -implicitDefEqProofs only [go_sem,Z1,Z2,Z3,Z4,hl']
  try (with_reducible refine ind_andM (by kernel_rfl) ?_)
  refine loop_go1 hm (fun (i:Nat)=> i ≤ ys.length ∧ decide (xs = ys) = decide (xs.drop i = ys.drop i)) (fun (i:Nat)=> ⟨mkS 32 .any [(1,lv (rowsForm ys)),(2,.fn f []),(15,lv (rowsForm xs)),(16,iv ys.length),(17,iv i)],[]⟩) (fun (i:Nat)=> ys.length - i) (0) ?_ (weakS [] ?_ ?_ rfl rfl) ?_
  rotate_left
  ·simp -implicitDefEqProofs only [go_sem,Z1,Z2,Z3,Z4]
   all_goals (first | done | (simp [wks_rfl, *]; done) | (simp [wks_rfl]; done) | (simp; omega) | skip)
  ·simp -implicitDefEqProofs only [go_sem,Z1,Z2,Z3,Z4]
   all_goals (first | done | (simp [wks_rfl, *]; done) | (simp [wks_rfl]; done) | (simp; omega) | skip)
  rotate_left
  ·simp
  ·rintro i ⟨hi,hg⟩
   rcases Classical.em (i < ys.length) with h1 | h1
   ·have h2:i < xs.length:=by omega
    rw [List.drop_eq_getElem_cons h1,List.drop_eq_getElem_cons h2] at hg
    try simp -implicitDefEqProofs only [go_sem,Z1,Z2,Z3,Z4,h1,h2]
    try (with_reducible refine ind_andM (by kernel_rfl) ?_)
    have hc:=hf xs[i] (List.getElem_mem h2) ys[i]
    refine atCall [] hc ?_ ?_ <;> simp -implicitDefEqProofs only [go_sem,Z1,Z2,Z3,Z4]
    try (with_reducible refine ind_andM (by kernel_rfl) ?_)
    rcases Classical.em (xs[i] = ys[i]) with h3 | h3
    ·try simp -implicitDefEqProofs only [go_sem,Z1,Z2,Z3,Z4,h3]
     try (with_reducible refine ind_andM (by kernel_rfl) ?_)
     refine ⟨by omega,?_⟩
     refine ⟨i + 1,?_,?_,weakS [] ?_ ?_ rfl rfl⟩
     rotate_left
     ·show _ < _
      omega
     ·simp -implicitDefEqProofs only [go_sem,Z1,Z2,Z3,Z4]
      all_goals (first | done | (simp [wks_rfl, *]; done) | (simp [wks_rfl]; done) | (simp; omega) | skip)
     ·simp -implicitDefEqProofs only [go_sem,Z1,Z2,Z3,Z4]
      all_goals (first | done | (simp [wks_rfl, *]; done) | (simp [wks_rfl]; done) | (simp; omega) | skip)
     exact ⟨by omega,by rw [hg]; simp only [h3,List.cons.injEq,true_and]⟩
    ·have hg:decide (xs = ys) = false:=by rw [hg]; simp only [h3,List.cons.injEq,false_and,decide_false]
     try simp -implicitDefEqProofs only [go_sem,Z1,Z2,Z3,Z4,h3]
     try (with_reducible refine ind_andM (by kernel_rfl) ?_)
     refine fin1' ?_
     simp -implicitDefEqProofs only [go_sem,Z1,Z2,Z3,Z4]
     all_goals (first | done | (simp [hg]; done) | (simp [hg]; omega) | skip)
   ·have hg:decide (xs = ys) = true:=by
     rw [hg,List.drop_of_length_le (by omega),List.drop_of_length_le (by omega)]
     rfl
    try simp -implicitDefEqProofs only [go_sem,Z1,Z2,Z3,Z4,h1]
    try (with_reducible refine ind_andM (by kernel_rfl) ?_)
    refine fin1' ?_
    simp -implicitDefEqProofs only [go_sem,Z1,Z2,Z3,Z4]
    all_goals (first | done | (simp [hg]; done) | (simp [hg]; omega) | skip)
 ·have hn:¬ xs = ys:=fun h=>hl' (by rw [h])
  try simp -implicitDefEqProofs only [go_sem,Z1,Z2,Z3,Z4,hl']
  try (with_reducible refine ind_andM (by kernel_rfl) ?_)
  refine fin1' ?_
  simp -implicitDefEqProofs only [go_sem,Z1,Z2,Z3,Z4]
  all_goals (first | done | (simp [hn]; done) | (simp [hn]; omega) | skip)
theorem c_EqualFunc_Forms (f:Nat) (xs ys:List (List Mod.Form)) (hf:∀ x ∈ xs,∀ y,C E.P f [lv (rowsForm x),lv (rowsForm y)] [] (Eq2 (bv (decide (x = y))) [])) :
 C E.P 62 [lv (rowsFF xs),lv (rowsFF ys),.fn f []] [] (Eq2 (bv (decide (xs = ys))) []):=by
 have hLB:=LB_eq
 refine C_goS (nt:=32) (rs:=[.tmp 6]) hm Tryz.func62 rfl rfl rfl rfl rfl (fun hl he=>?_)
 simp -implicitDefEqProofs only [go_sem,Z1,Z2,Z3,Z4] at hl ⊢
 rcases Classical.em (xs.length = ys.length) with hl' | hl'
 ·try simp -implicitDefEqProofs only [go_sem,Z1,Z2,Z3,Z4,hl']
  try (with_reducible refine ind_andM (by kernel_rfl) ?_)
  refine loop_go1 hm (fun (i:Nat)=> i ≤ ys.length ∧ decide (xs = ys) = decide (xs.drop i = ys.drop i)) (fun (i:Nat)=> ⟨mkS 32 .any [(1,lv (rowsFF ys)),(2,.fn f []),(15,lv (rowsFF xs)),(16,iv ys.length),(17,iv i)],[]⟩) (fun (i:Nat)=> ys.length - i) (0) ?_ (weakS [] ?_ ?_ rfl rfl) ?_
  rotate_left
  ·simp -implicitDefEqProofs only [go_sem,Z1,Z2,Z3,Z4]
   all_goals (first | done | (simp [wks_rfl, *]; done) | (simp [wks_rfl]; done) | (simp; omega) | skip)
  ·simp -implicitDefEqProofs only [go_sem,Z1,Z2,Z3,Z4]
   all_goals (first | done | (simp [wks_rfl, *]; done) | (simp [wks_rfl]; done) | (simp; omega) | skip)
  rotate_left
  ·simp
  ·rintro i ⟨hi,hg⟩
   rcases Classical.em (i < ys.length) with h1 | h1
   ·have h2:i < xs.length:=by omega
    rw [List.drop_eq_getElem_cons h1,List.drop_eq_getElem_cons h2] at hg
    try simp -implicitDefEqProofs only [go_sem,Z1,Z2,Z3,Z4,h1,h2]
    try (with_reducible refine ind_andM (by kernel_rfl) ?_)
    have hc:=hf xs[i] (List.getElem_mem h2) ys[i]
    refine atCall [] hc ?_ ?_ <;> simp -implicitDefEqProofs only [go_sem,Z1,Z2,Z3,Z4]
    try (with_reducible refine ind_andM (by kernel_rfl) ?_)
    rcases Classical.em (xs[i] = ys[i]) with h3 | h3
    ·try simp -implicitDefEqProofs only [go_sem,Z1,Z2,Z3,Z4,h3]
     try (with_reducible refine ind_andM (by kernel_rfl) ?_)
     refine ⟨by omega,?_⟩
     refine ⟨i + 1,?_,?_,weakS [] ?_ ?_ rfl rfl⟩
     rotate_left
     ·show _ < _
      omega
     ·simp -implicitDefEqProofs only [go_sem,Z1,Z2,Z3,Z4]
      all_goals (first | done | (simp [wks_rfl, *]; done) | (simp [wks_rfl]; done) | (simp; omega) | skip)
     ·simp -implicitDefEqProofs only [go_sem,Z1,Z2,Z3,Z4]
      all_goals (first | done | (simp [wks_rfl, *]; done) | (simp [wks_rfl]; done) | (simp; omega) | skip)
     exact ⟨by omega,by rw [hg]; simp only [h3,List.cons.injEq,true_and]⟩
    ·have hg:decide (xs = ys) = false:=by rw [hg]; simp only [h3,List.cons.injEq,false_and,decide_false]
     try simp -implicitDefEqProofs only [go_sem,Z1,Z2,Z3,Z4,h3]
     try (with_reducible refine ind_andM (by kernel_rfl) ?_)
     refine fin1' ?_
     simp -implicitDefEqProofs only [go_sem,Z1,Z2,Z3,Z4]
     all_goals (first | done | (simp [hg]; done) | (simp [hg]; omega) | skip)
   ·have hg:decide (xs = ys) = true:=by
     rw [hg,List.drop_of_length_le (by omega),List.drop_of_length_le (by omega)]
     rfl
    try simp -implicitDefEqProofs only [go_sem,Z1,Z2,Z3,Z4,h1]
    try (with_reducible refine ind_andM (by kernel_rfl) ?_)
    refine fin1' ?_
    simp -implicitDefEqProofs only [go_sem,Z1,Z2,Z3,Z4]
    all_goals (first | done | (simp [hg]; done) | (simp [hg]; omega) | skip)
 ·have hn:¬ xs = ys:=fun h=>hl' (by rw [h])
  try simp -implicitDefEqProofs only [go_sem,Z1,Z2,Z3,Z4,hl']
  try (with_reducible refine ind_andM (by kernel_rfl) ?_)
  refine fin1' ?_
  simp -implicitDefEqProofs only [go_sem,Z1,Z2,Z3,Z4]
  all_goals (first | done | (simp [hn]; done) | (simp [hn]; omega) | skip)
theorem sym_eq {a b:Sym}:a = b ↔ a.name = b.name ∧ a.args = b.args ∧ a.sort = b.sort:=by
 cases a; cases b; simp
theorem c_impl_SigSame_1 (a b:Sym):C E.P 76 [av (cSym a),av (cSym b)] [] (Eq2 (bv (decide (a = b))) []):=by
 have hLB:=LB_eq
 refine C_goS (nt:=24) (rs:=[.tmp 4]) hm Tryz.func76 rfl rfl rfl rfl rfl (fun hl he=>?_)
 simp -implicitDefEqProofs only [go_sem,Z1,Z2,Z3,Z4] at hl ⊢
 rcases Classical.em (a.name = b.name) with h1 | h1
 ·have k1:=eq_true h1
  try simp -implicitDefEqProofs only [go_sem,Z1,Z2,Z3,Z4,k1]
  try (with_reducible refine ind_andM (by kernel_rfl) ?_)
  refine atCall [] (c_Equal_int a.args b.args) ?_ ?_ <;> simp -implicitDefEqProofs only [go_sem,Z1,Z2,Z3,Z4]
  try (with_reducible refine ind_andM (by kernel_rfl) ?_)
  rcases Classical.em (a.args = b.args) with h2 | h2
  ·have k2:=eq_true h2
   try simp -implicitDefEqProofs only [go_sem,Z1,Z2,Z3,Z4,k2]
   try (with_reducible refine ind_andM (by kernel_rfl) ?_)
   refine fin1' ?_
   simp -implicitDefEqProofs only [go_sem,Z1,Z2,Z3,Z4]
   all_goals (first | done | (simp [sym_eq,h1,h2]; done) | (simp [sym_eq,h1,h2]; omega) | skip)
  ·try simp -implicitDefEqProofs only [go_sem,Z1,Z2,Z3,Z4,h2]
   try (with_reducible refine ind_andM (by kernel_rfl) ?_)
   refine fin1' ?_
   simp -implicitDefEqProofs only [go_sem,Z1,Z2,Z3,Z4]
   all_goals (first | done | (simp [sym_eq,h2]; done) | (simp [sym_eq,h2]; omega) | skip)
 ·try simp -implicitDefEqProofs only [go_sem,Z1,Z2,Z3,Z4,h1]
  try (with_reducible refine ind_andM (by kernel_rfl) ?_)
  refine fin1' ?_
  simp -implicitDefEqProofs only [go_sem,Z1,Z2,Z3,Z4]
  all_goals (first | done | (simp [sym_eq,h1]; done) | (simp [sym_eq,h1]; omega) | skip)
theorem sig_eq {a b:Sig}:a = b ↔ a.syms = b.syms:=by
 cases a; cases b; simp
theorem c_impl_SigSame (a b:Sig):C E.P 34 [av (cSig a),av (cSig b)] [] (Eq2 (bv (decide (a = b))) []):=by
 have hLB:=LB_eq
 refine C_goS (nt:=10) (rs:=[.tmp 4]) hm Tryz.func34 rfl rfl rfl rfl rfl (fun hl he=>?_)
 simp -implicitDefEqProofs only [go_sem,Z1,Z2,Z3,Z4] at hl ⊢
 refine atCall [] (c_EqualFunc_Sym 76 a.syms b.syms (fun x _ y=>c_impl_SigSame_1 x y)) ?_ ?_ <;> simp -implicitDefEqProofs only [go_sem,Z1,Z2,Z3,Z4]
 try (with_reducible refine ind_andM (by kernel_rfl) ?_)
 refine fin1' ?_
 simp -implicitDefEqProofs only [go_sem,Z1,Z2,Z3,Z4]
 all_goals (first | done | (simp [sig_eq]; done) | (simp [sig_eq]; omega) | skip)
theorem lit_eq {a b:LitD}:a = b ↔ a.atom = b.atom ∧ a.no = b.no:=by
 cases a; cases b; simp
theorem form_eq {a b:Mod.Form}:a = b ↔ a.kind = b.kind ∧ a.lit = b.lit ∧ a.kids = b.kids:=by
 cases a; cases b; simp [Form.kind,Form.lit,Form.kids]
theorem c_impl_FormSame1 (a b:Mod.Form) (ih:∀ k ∈ a.kids,∀ y,C E.P 65 [av (cForm k),av (cForm y)] [] (Eq2 (bv (decide (k = y))) [])):C E.P 65 [av (cForm a),av (cForm b)] [] (Eq2 (bv (decide (a = b))) []):=by
 have hLB:=LB_eq
 refine C_goS (nt:=35) (rs:=[.tmp 4]) hm Tryz.func65 rfl rfl rfl rfl rfl (fun hl he=>?_)
 simp -implicitDefEqProofs only [go_sem,Z1,Z2,Z3,Z4] at hl ⊢
 rcases Classical.em (a.kind = b.kind) with h1 | h1
 ·have k1:=eq_true h1
  rcases Classical.em (a.lit.no = b.lit.no) with h2 | h2
  ·have k2:(a.lit.no == b.lit.no) = true:=by rw [h2]; simp
   try simp -implicitDefEqProofs only [go_sem,Z1,Z2,Z3,Z4,k1,k2]
   try (with_reducible refine ind_andM (by kernel_rfl) ?_)
   refine atCall [] (c_impl_AtomSame a.lit.atom b.lit.atom) ?_ ?_ <;> simp -implicitDefEqProofs only [go_sem,Z1,Z2,Z3,Z4]
   try (with_reducible refine ind_andM (by kernel_rfl) ?_)
   rcases Classical.em (a.lit.atom = b.lit.atom) with h3 | h3
   ·have k3:=eq_true h3
    try simp -implicitDefEqProofs only [go_sem,Z1,Z2,Z3,Z4,k3]
    try (with_reducible refine ind_andM (by kernel_rfl) ?_)
    refine atCall [] (c_EqualFunc_Form 65 a.kids b.kids ih) ?_ ?_ <;> simp -implicitDefEqProofs only [go_sem,Z1,Z2,Z3,Z4]
    try (with_reducible refine ind_andM (by kernel_rfl) ?_)
    refine fin1' ?_
    simp -implicitDefEqProofs only [go_sem,Z1,Z2,Z3,Z4]
    all_goals (first | done | (simp [form_eq,lit_eq,h1,h2,h3]; done) | (simp [form_eq,lit_eq,h1,h2,h3]; omega) | skip)
   ·try simp -implicitDefEqProofs only [go_sem,Z1,Z2,Z3,Z4,h3]
    try (with_reducible refine ind_andM (by kernel_rfl) ?_)
    refine fin1' ?_
    simp -implicitDefEqProofs only [go_sem,Z1,Z2,Z3,Z4]
    all_goals (first | done | (simp [form_eq,lit_eq,h3]; done) | (simp [form_eq,lit_eq,h3]; omega) | skip)
  ·have k2:(a.lit.no == b.lit.no) = false:=by simpa using h2
   try simp -implicitDefEqProofs only [go_sem,Z1,Z2,Z3,Z4,k1,k2]
   try (with_reducible refine ind_andM (by kernel_rfl) ?_)
   refine fin1' ?_
   simp -implicitDefEqProofs only [go_sem,Z1,Z2,Z3,Z4]
   all_goals (first | done | (simp [form_eq,lit_eq,h2]; done) | (simp [form_eq,lit_eq,h2]; omega) | skip)
 ·try simp -implicitDefEqProofs only [go_sem,Z1,Z2,Z3,Z4,h1]
  try (with_reducible refine ind_andM (by kernel_rfl) ?_)
  refine fin1' ?_
  simp -implicitDefEqProofs only [go_sem,Z1,Z2,Z3,Z4]
  all_goals (first | done | (simp [form_eq,h1]; done) | (simp [form_eq,h1]; omega) | skip)
theorem c_impl_FormSame:∀ a b,C E.P 65 [av (cForm a),av (cForm b)] [] (Eq2 (bv (decide (a = b))) []):=
 Form.ind fun k l ks ih b=>c_impl_FormSame1 (.mk k l ks) b ih
theorem c_impl_StackSame_1 (a b:List Mod.Form):C E.P 63 [lv (rowsForm a),lv (rowsForm b)] [] (Eq2 (bv (decide (a = b))) []):=by
 have hLB:=LB_eq
 refine C_goS (nt:=8) (rs:=[.tmp 4]) hm Tryz.func63 rfl rfl rfl rfl rfl (fun hl he=>?_)
 simp -implicitDefEqProofs only [go_sem,Z1,Z2,Z3,Z4] at hl ⊢
 refine atCall [] (c_EqualFunc_Form 65 a b (fun x _ y=>c_impl_FormSame x y)) ?_ ?_ <;> simp -implicitDefEqProofs only [go_sem,Z1,Z2,Z3,Z4]
 try (with_reducible refine ind_andM (by kernel_rfl) ?_)
 refine fin1' ?_
 simp -implicitDefEqProofs only [go_sem,Z1,Z2,Z3,Z4]
 all_goals (first | done | (simp; done) | (simp; omega) | skip)
theorem stack_eq {a b:Stack}:a = b ↔ a.sig = b.sig ∧ a.levels = b.levels:=by
 cases a; cases b; simp
theorem c_impl_StackSame (a b:Stack):C E.P 27 [av (cStack a),av (cStack b)] [] (Eq2 (bv (decide (a = b))) []):=by
 have hLB:=LB_eq
 refine C_goS (nt:=17) (rs:=[.tmp 4]) hm Tryz.func27 rfl rfl rfl rfl rfl (fun hl he=>?_)
 simp -implicitDefEqProofs only [go_sem,Z1,Z2,Z3,Z4] at hl ⊢
 refine atCall [] (c_impl_SigSame a.sig b.sig) ?_ ?_ <;> simp -implicitDefEqProofs only [go_sem,Z1,Z2,Z3,Z4]
 try (with_reducible refine ind_andM (by kernel_rfl) ?_)
 rcases Classical.em (a.sig = b.sig) with h1 | h1
 ·have k1:=eq_true h1
  try simp -implicitDefEqProofs only [go_sem,Z1,Z2,Z3,Z4,k1]
  try (with_reducible refine ind_andM (by kernel_rfl) ?_)
  refine atCall [] (c_EqualFunc_Forms 63 a.levels b.levels (fun x _ y=>c_impl_StackSame_1 x y)) ?_ ?_ <;> simp -implicitDefEqProofs only [go_sem,Z1,Z2,Z3,Z4]
  try (with_reducible refine ind_andM (by kernel_rfl) ?_)
  refine fin1' ?_
  simp -implicitDefEqProofs only [go_sem,Z1,Z2,Z3,Z4]
  all_goals (first | done | (simp [stack_eq,h1]; done) | (simp [stack_eq,h1]; omega) | skip)
 ·try simp -implicitDefEqProofs only [go_sem,Z1,Z2,Z3,Z4,h1]
  try (with_reducible refine ind_andM (by kernel_rfl) ?_)
  refine fin1' ?_
  simp -implicitDefEqProofs only [go_sem,Z1,Z2,Z3,Z4]
  all_goals (first | done | (simp [stack_eq,h1]; done) | (simp [stack_eq,h1]; omega) | skip)
end Go.Proofs.YtpidddienjoleaaGreat
namespace Go.Proofs.YtpidddienjoleaaGreat
open Go.Eng Go.Mod
open Int renaming reduceEq → Z1,reduceLT → Z2,reduceLE → Z3,reduceToNat → Z4
set_option maxRecDepth 100000
set_option maxHeartbeats 400000
def stack0:Stack:=⟨⟨[]⟩,[]⟩
end Go.Proofs.YtpidddienjoleaaGreat
