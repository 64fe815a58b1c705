/-
  The walks of the small functions of the first chapters. A step towards the exact laws. The walks of signatures and terms. A step towards the exact laws. The walks of signatures, sorts and parts. A step towards the exact laws. The walks of sorts, parts and equations. A step towards the exact laws.
-/
import Derived.Test.YtpidddienjoleaaGreatKAF
import Derived.Test.YtpidddienjoleaaGreatKAE
set_option linter.unusedVariables false
set_option linter.unusedSimpArgs false
namespace Go.Proofs.YtpidddienjoleaaGreat
open Go.Eng Go.Mod
open Int renaming reduceEq → Z1,reduceLT → Z2,reduceLE → Z3,reduceToNat → Z4
set_option maxRecDepth 100000
theorem c_impl_within (n lo hi:Int):C E.P 70 [iv n,iv lo,iv hi] [] (Eq2 (bv (within n lo hi)) []):=by
 have hLB:=LB_eq
 refine C_goS (nt:=15) (rs:=[.tmp 6]) hm Tryz.func70 rfl rfl rfl rfl rfl (fun hl he=>?_)
 simp -implicitDefEqProofs only [go_sem] at hl ⊢
 refine ifB_intro (fun h=>?_) (fun h=>?_) <;> simp only [h,go_sem]
 ·refine fin1' ?_
  simp -implicitDefEqProofs only [go_sem]
  all_goals (simp [within,h]; done)
 ·refine fin1' ?_
  simp -implicitDefEqProofs only [go_sem]
  all_goals (simp [within,h]; done)
theorem c_impl_NameOk (s:Str):C E.P 150 [sv s] [] (Eq2 (bv (nameOk s)) []):=by
 have hLB:=LB_eq
 refine C_goS (nt:=24) (rs:=[.tmp 2]) hm Tryz.func150 rfl rfl rfl rfl rfl (fun hl he=>?_)
 simp -implicitDefEqProofs only [go_sem] at hl ⊢
 have h:∃ b,within s.length 1 2 = b:=⟨_,rfl⟩
 obtain ⟨b,h⟩:=h
 refine atCall [] (c_impl_within s.length 1 2) ?_ ?_ <;> simp -implicitDefEqProofs only [go_sem,h]
 cases b
 ·simp -implicitDefEqProofs only [go_sem]
  refine fin1' ?_
  simp -implicitDefEqProofs only [go_sem]
  all_goals (simp [nameOk,h]; done)
 ·simp -implicitDefEqProofs only [go_sem]
  refine loop_go1 hm (fun (i:Nat)=> i ≤ s.length ∧ nameOk s = (s.drop i).all letter) (fun (i:Nat)=> ⟨mkS 24 .any [(0,sv s),(9,iv s.length),(10,iv i)],[]⟩) (fun (i:Nat)=> s.length - i) (0) ?_ (weakS [] ?_ ?_ rfl rfl) ?_
  rotate_left
  ·simp -implicitDefEqProofs only [go_sem]
  ·simp -implicitDefEqProofs only [go_sem]
  rotate_left
  ·simp [nameOk,h]
  ·rintro i ⟨hi,hg⟩
   rcases Classical.em (i < s.length) with h1 | h1
   ·rw [List.drop_eq_getElem_cons h1,List.all_cons] at hg
    simp -implicitDefEqProofs only [go_sem,h1]
    rw [getD_lt h1]
    rcases Classical.em ((s[i].toNat:Int) < 97) with h2 | h2
    ·have h3:letter s[i] = false:=by simp [letter]; omega
     rw [h3,Bool.false_and] at hg
     simp -implicitDefEqProofs only [go_sem,h2]
     refine fin1' ?_
     simp -implicitDefEqProofs only [go_sem]
     all_goals (simp [hg]; done)
    ·simp -implicitDefEqProofs only [go_sem,h2,h1]
     rw [getD_lt h1]
     rcases Classical.em (122 < (s[i].toNat:Int)) with h4 | h4
     ·have h3:letter s[i] = false:=by simp [letter]; omega
      rw [h3,Bool.false_and] at hg
      simp -implicitDefEqProofs only [go_sem,h4]
      refine fin1' ?_
      simp -implicitDefEqProofs only [go_sem]
      all_goals (simp [hg]; done)
     ·have h3:letter s[i] = true:=by simp [letter]; omega
      rw [h3,Bool.true_and] at hg
      simp -implicitDefEqProofs only [go_sem,h4]
      refine ⟨by omega,?_⟩
      refine ⟨i + 1,?_,?_,weakS [] ?_ ?_ rfl rfl⟩
      rotate_left
      ·show _ < _
       omega
      ·simp -implicitDefEqProofs only [go_sem]
      ·simp -implicitDefEqProofs only [go_sem]
      exact ⟨by omega,hg⟩
   ·rw [List.drop_of_length_le (by omega)] at hg
    simp -implicitDefEqProofs only [go_sem,h1]
    refine fin1' ?_
    simp -implicitDefEqProofs only [go_sem]
    all_goals (simp [hg]; done)
end Go.Proofs.YtpidddienjoleaaGreat
namespace Go.Proofs.YtpidddienjoleaaGreat
open Go.Eng Go.Mod
open Int renaming reduceEq → Z1,reduceLT → Z2,reduceLE → Z3,reduceToNat → Z4
set_option maxRecDepth 100000
theorem idxGo_nn {α:Type} {p:α → Bool}:∀ {xs:List α} {i:Int},0 ≤ i → (0 ≤ idxGo p xs i ↔ xs.any p = true)
 | [],i,h=>by simp [idxGo]
 | x :: xs,i,h=>by
   simp only [idxGo,List.any_cons,Bool.or_eq_true]
   split
   ·rename_i hx
    simp [hx,h]
   ·rename_i hx
    rw [idxGo_nn (by omega)]
    simp [hx]
theorem idx_any {α:Type} {p:α → Bool} {xs:List α}:decide (0 ≤ idxOf p xs) = xs.any p:=by
 rw [Bool.eq_iff_iff,decide_eq_true_eq]
 exact idxGo_nn (by omega)
theorem c_IndexFunc_int (f:Nat) (cap:List PV) (hcap:lts 0 cap = true) (p:Int → Bool) (xs:List Int) (hf:∀ x ∈ xs,C E.P f (iv x :: cap) [] (Eq2 (bv (p x)) [])) :
 C E.P 211 [lv (rowsI xs),.fn f cap] [] (Eq2 (iv (idxOf p xs)) []):=by
 have hLB:=LB_eq
 refine C_goS (nt:=19) (rs:=[.tmp 4]) hm Tryz.func211 rfl rfl rfl rfl rfl (fun hl he=>?_)
 simp -implicitDefEqProofs only [go_sem] at hl ⊢
 refine loop_go1 hm (fun (i:Nat)=> i ≤ xs.length ∧ idxOf p xs = idxGo p (xs.drop i) i) (fun (i:Nat)=> ⟨mkS 19 .any [(0,lv (rowsI xs)),(1,.fn f cap),(7,iv xs.length),(8,iv i)],[]⟩) (fun (i:Nat)=> xs.length - i) (0) ?_ (weakS [] ?_ ?_ rfl rfl) ?_
 rotate_left
 ·simp -implicitDefEqProofs only [go_sem]
  all_goals (simp [wks_rfl, *]; done)
 ·simp -implicitDefEqProofs only [go_sem]
 rotate_left
 ·simp [idxOf]
 ·rintro i ⟨hi,hg⟩
  rcases Classical.em (i < xs.length) with h1 | h1
  ·rw [List.drop_eq_getElem_cons h1,idxGo] at hg
   simp -implicitDefEqProofs only [go_sem,h1]
   have hc:=hf xs[i] (List.getElem_mem h1)
   refine atCall cap hc ?_ ?_ <;> simp -implicitDefEqProofs only [go_sem,hcap]
   cases h2:p xs[i]
   ·rw [h2] at hg
    simp only [Bool.false_eq_true,if_false] at hg
    simp -implicitDefEqProofs only [go_sem]
    refine ⟨by omega,?_⟩
    refine ⟨i + 1,?_,?_,weakS [] ?_ ?_ rfl rfl⟩
    rotate_left
    ·show _ < _
     omega
    ·simp -implicitDefEqProofs only [go_sem]
     all_goals (simp [wks_rfl, *]; done)
    ·simp -implicitDefEqProofs only [go_sem]
    exact ⟨by omega,hg⟩
   ·rw [h2] at hg
    simp only [if_true] at hg
    simp -implicitDefEqProofs only [go_sem]
    refine fin1' ?_
    simp -implicitDefEqProofs only [go_sem]
    all_goals (simp [hg]; done)
  ·rw [List.drop_of_length_le (by omega),idxGo] at hg
   simp -implicitDefEqProofs only [go_sem,h1]
   refine fin1' ?_
   simp -implicitDefEqProofs only [go_sem]
   all_goals (simp [hg]; done)
theorem c_IndexFunc_Term (f:Nat) (cap:List PV) (hcap:lts 0 cap = true) (p:Term → Bool) (xs:List Term) (hf:∀ x ∈ xs,C E.P f (av (cT x) :: cap) [] (Eq2 (bv (p x)) [])) :
 C E.P 154 [lv (rowsT xs),.fn f cap] [] (Eq2 (iv (idxOf p xs)) []):=by
 have hLB:=LB_eq
 refine C_goS (nt:=19) (rs:=[.tmp 4]) hm Tryz.func154 rfl rfl rfl rfl rfl (fun hl he=>?_)
 simp -implicitDefEqProofs only [go_sem] at hl ⊢
 refine loop_go1 hm (fun (i:Nat)=> i ≤ xs.length ∧ idxOf p xs = idxGo p (xs.drop i) i) (fun (i:Nat)=> ⟨mkS 19 .any [(0,lv (rowsT xs)),(1,.fn f cap),(7,iv xs.length),(8,iv i)],[]⟩) (fun (i:Nat)=> xs.length - i) (0) ?_ (weakS [] ?_ ?_ rfl rfl) ?_
 rotate_left
 ·simp -implicitDefEqProofs only [go_sem]
  all_goals (simp [wks_rfl, *]; done)
 ·simp -implicitDefEqProofs only [go_sem]
 rotate_left
 ·simp [idxOf]
 ·rintro i ⟨hi,hg⟩
  rcases Classical.em (i < xs.length) with h1 | h1
  ·rw [List.drop_eq_getElem_cons h1,idxGo] at hg
   simp -implicitDefEqProofs only [go_sem,h1]
   have hc:=hf xs[i] (List.getElem_mem h1)
   refine atCall cap hc ?_ ?_ <;> simp -implicitDefEqProofs only [go_sem,hcap]
   cases h2:p xs[i]
   ·rw [h2] at hg
    simp only [Bool.false_eq_true,if_false] at hg
    simp -implicitDefEqProofs only [go_sem]
    refine ⟨by omega,?_⟩
    refine ⟨i + 1,?_,?_,weakS [] ?_ ?_ rfl rfl⟩
    rotate_left
    ·show _ < _
     omega
    ·simp -implicitDefEqProofs only [go_sem]
     all_goals (simp [wks_rfl, *]; done)
    ·simp -implicitDefEqProofs only [go_sem]
    exact ⟨by omega,hg⟩
   ·rw [h2] at hg
    simp only [if_true] at hg
    simp -implicitDefEqProofs only [go_sem]
    refine fin1' ?_
    simp -implicitDefEqProofs only [go_sem]
    all_goals (simp [hg]; done)
  ·rw [List.drop_of_length_le (by omega),idxGo] at hg
   simp -implicitDefEqProofs only [go_sem,h1]
   refine fin1' ?_
   simp -implicitDefEqProofs only [go_sem]
   all_goals (simp [hg]; done)
theorem c_IndexFunc_Lin (f:Nat) (cap:List PV) (hcap:lts 0 cap = true) (p:Lin → Bool) (xs:List Lin) (hf:∀ x ∈ xs,C E.P f (av (cLin x) :: cap) [] (Eq2 (bv (p x)) [])) :
 C E.P 186 [lv (rowsLin xs),.fn f cap] [] (Eq2 (iv (idxOf p xs)) []):=by
 have hLB:=LB_eq
 refine C_goS (nt:=19) (rs:=[.tmp 4]) hm Tryz.func186 rfl rfl rfl rfl rfl (fun hl he=>?_)
 simp -implicitDefEqProofs only [go_sem] at hl ⊢
 refine loop_go1 hm (fun (i:Nat)=> i ≤ xs.length ∧ idxOf p xs = idxGo p (xs.drop i) i) (fun (i:Nat)=> ⟨mkS 19 .any [(0,lv (rowsLin xs)),(1,.fn f cap),(7,iv xs.length),(8,iv i)],[]⟩) (fun (i:Nat)=> xs.length - i) (0) ?_ (weakS [] ?_ ?_ rfl rfl) ?_
 rotate_left
 ·simp -implicitDefEqProofs only [go_sem]
  all_goals (simp [wks_rfl, *]; done)
 ·simp -implicitDefEqProofs only [go_sem]
 rotate_left
 ·simp [idxOf]
 ·rintro i ⟨hi,hg⟩
  rcases Classical.em (i < xs.length) with h1 | h1
  ·rw [List.drop_eq_getElem_cons h1,idxGo] at hg
   simp -implicitDefEqProofs only [go_sem,h1]
   have hc:=hf xs[i] (List.getElem_mem h1)
   refine atCall cap hc ?_ ?_ <;> simp -implicitDefEqProofs only [go_sem,hcap]
   cases h2:p xs[i]
   ·rw [h2] at hg
    simp only [Bool.false_eq_true,if_false] at hg
    simp -implicitDefEqProofs only [go_sem]
    refine ⟨by omega,?_⟩
    refine ⟨i + 1,?_,?_,weakS [] ?_ ?_ rfl rfl⟩
    rotate_left
    ·show _ < _
     omega
    ·simp -implicitDefEqProofs only [go_sem]
     all_goals (simp [wks_rfl, *]; done)
    ·simp -implicitDefEqProofs only [go_sem]
    exact ⟨by omega,hg⟩
   ·rw [h2] at hg
    simp only [if_true] at hg
    simp -implicitDefEqProofs only [go_sem]
    refine fin1' ?_
    simp -implicitDefEqProofs only [go_sem]
    all_goals (simp [hg]; done)
  ·rw [List.drop_of_length_le (by omega),idxGo] at hg
   simp -implicitDefEqProofs only [go_sem,h1]
   refine fin1' ?_
   simp -implicitDefEqProofs only [go_sem]
   all_goals (simp [hg]; done)
theorem c_ContainsFunc_int (f:Nat) (cap:List PV) (hcap:lts 0 cap = true) (p:Int → Bool) (xs:List Int) (hf:∀ x ∈ xs,C E.P f (iv x :: cap) [] (Eq2 (bv (p x)) [])) :
 C E.P 152 [lv (rowsI xs),.fn f cap] [] (Eq2 (bv (xs.any p)) []):=by
 have hLB:=LB_eq
 refine C_goS (nt:=9) (rs:=[.tmp 4]) hm Tryz.func152 rfl rfl rfl rfl rfl (fun hl he=>?_)
 simp -implicitDefEqProofs only [go_sem] at hl ⊢
 refine atCall [] (c_IndexFunc_int f cap hcap p xs hf) ?_ ?_ <;> simp -implicitDefEqProofs only [go_sem,hcap]
 refine fin1' ?_
 simp -implicitDefEqProofs only [go_sem]
 all_goals (simp [idx_any]; done)
theorem c_ContainsFunc_Term (f:Nat) (cap:List PV) (hcap:lts 0 cap = true) (p:Term → Bool) (xs:List Term) (hf:∀ x ∈ xs,C E.P f (av (cT x) :: cap) [] (Eq2 (bv (p x)) [])) :
 C E.P 81 [lv (rowsT xs),.fn f cap] [] (Eq2 (bv (xs.any p)) []):=by
 have hLB:=LB_eq
 refine C_goS (nt:=9) (rs:=[.tmp 4]) hm Tryz.func81 rfl rfl rfl rfl rfl (fun hl he=>?_)
 simp -implicitDefEqProofs only [go_sem] at hl ⊢
 refine atCall [] (c_IndexFunc_Term f cap hcap p xs hf) ?_ ?_ <;> simp -implicitDefEqProofs only [go_sem,hcap]
 refine fin1' ?_
 simp -implicitDefEqProofs only [go_sem]
 all_goals (simp [idx_any]; done)
theorem c_ContainsFunc_Lin (f:Nat) (cap:List PV) (hcap:lts 0 cap = true) (p:Lin → Bool) (xs:List Lin) (hf:∀ x ∈ xs,C E.P f (av (cLin x) :: cap) [] (Eq2 (bv (p x)) [])) :
 C E.P 128 [lv (rowsLin xs),.fn f cap] [] (Eq2 (bv (xs.any p)) []):=by
 have hLB:=LB_eq
 refine C_goS (nt:=9) (rs:=[.tmp 4]) hm Tryz.func128 rfl rfl rfl rfl rfl (fun hl he=>?_)
 simp -implicitDefEqProofs only [go_sem] at hl ⊢
 refine atCall [] (c_IndexFunc_Lin f cap hcap p xs hf) ?_ ?_ <;> simp -implicitDefEqProofs only [go_sem,hcap]
 refine fin1' ?_
 simp -implicitDefEqProofs only [go_sem]
 all_goals (simp [idx_any]; done)
theorem c_EqualFunc_Term (f:Nat) (xs ys:List Term) (hf:∀ x ∈ xs,∀ y,C E.P f [av (cT x),av (cT y)] [] (Eq2 (bv (decide (x = y))) [])) :
 C E.P 47 [lv (rowsT xs),lv (rowsT ys),.fn f []] [] (Eq2 (bv (decide (xs = ys))) []):=by
 have hLB:=LB_eq
 refine C_goS (nt:=32) (rs:=[.tmp 6]) hm Tryz.func47 rfl rfl rfl rfl rfl (fun hl he=>?_)
 simp -implicitDefEqProofs only [go_sem] at hl ⊢
 rcases Classical.em (xs.length = ys.length) with hl' | hl'
 ·simp -implicitDefEqProofs only [go_sem,hl']
  refine loop_go1 hm (fun (i:Nat)=> i ≤ ys.length ∧ decide (xs = ys) = decide (xs.drop i = ys.drop i)) (fun (i:Nat)=> ⟨mkS 32 .any [(1,lv (rowsT ys)),(2,.fn f []),(15,lv (rowsT xs)),(16,iv ys.length),(17,iv i)],[]⟩) (fun (i:Nat)=> ys.length - i) (0) ?_ (weakS [] ?_ ?_ rfl rfl) ?_
  rotate_left
  ·simp -implicitDefEqProofs only [go_sem]
  ·simp -implicitDefEqProofs only [go_sem]
  rotate_left
  ·simp
  ·rintro i ⟨hi,hg⟩
   rcases Classical.em (i < ys.length) with h1 | h1
   ·have h2:i < xs.length:=by omega
    rw [List.drop_eq_getElem_cons h1,List.drop_eq_getElem_cons h2] at hg
    simp -implicitDefEqProofs only [go_sem,h1,h2]
    have hc:=hf xs[i] (List.getElem_mem h2) ys[i]
    refine atCall [] hc ?_ ?_ <;> simp -implicitDefEqProofs only [go_sem]
    rcases Classical.em (xs[i] = ys[i]) with h3 | h3
    ·simp -implicitDefEqProofs only [go_sem,h3]
     refine ⟨by omega,?_⟩
     refine ⟨i + 1,?_,?_,weakS [] ?_ ?_ rfl rfl⟩
     rotate_left
     ·show _ < _
      omega
     ·simp -implicitDefEqProofs only [go_sem]
     ·simp -implicitDefEqProofs only [go_sem]
     exact ⟨by omega,by rw [hg]; simp only [h3,List.cons.injEq,true_and]⟩
    ·have hg:decide (xs = ys) = false:=by rw [hg]; simp only [h3,List.cons.injEq,false_and,decide_false]
     simp -implicitDefEqProofs only [go_sem,h3]
     refine fin1' ?_
     simp -implicitDefEqProofs only [go_sem]
     all_goals (simp [hg]; done)
   ·have hg:decide (xs = ys) = true:=by
     rw [hg,List.drop_of_length_le (by omega),List.drop_of_length_le (by omega)]
     rfl
    simp -implicitDefEqProofs only [go_sem,h1]
    refine fin1' ?_
    simp -implicitDefEqProofs only [go_sem]
    all_goals (simp [hg]; done)
 ·have hn:¬ xs = ys:=fun h=>hl' (by rw [h])
  simp -implicitDefEqProofs only [go_sem,hl']
  refine fin1' ?_
  simp -implicitDefEqProofs only [go_sem]
  all_goals (simp [hn]; done)
theorem term_eq {a b:Term}:a = b ↔ a.name = b.name ∧ a.kids = b.kids:=by
 cases a; cases b; simp [Term.name,Term.kids]
theorem c_impl_TermSame1 (a b:Term) (ih:∀ k ∈ a.kids,∀ y,C E.P 15 [av (cT k),av (cT y)] [] (Eq2 (bv (decide (k = y))) [])):C E.P 15 [av (cT a),av (cT b)] [] (Eq2 (bv (decide (a = b))) []):=by
 have hLB:=LB_eq
 refine C_goS (nt:=17) (rs:=[.tmp 4]) hm Tryz.func15 rfl rfl rfl rfl rfl (fun hl he=>?_)
 simp -implicitDefEqProofs only [go_sem] at hl ⊢
 rcases Classical.em (a.name = b.name) with h | h
 ·simp -implicitDefEqProofs only [go_sem,h]
  refine atCall [] (c_EqualFunc_Term 15 a.kids b.kids ih) ?_ ?_ <;> simp -implicitDefEqProofs only [go_sem]
  refine fin1' ?_
  simp -implicitDefEqProofs only [go_sem]
  all_goals (simp [term_eq,h]; done)
 ·simp -implicitDefEqProofs only [go_sem,h]
  refine fin1' ?_
  simp -implicitDefEqProofs only [go_sem]
  all_goals (simp [term_eq,h]; done)
theorem c_impl_TermSame:∀ a b,C E.P 15 [av (cT a),av (cT b)] [] (Eq2 (bv (decide (a = b))) []):=
 Term.ind fun n ks ih b=>c_impl_TermSame1 _ b ih
theorem c_impl_termIndex_1 (t u:Term):C E.P 182 [av (cT u),.iptr [cT t] 0 0] [] (Eq2 (bv (decide (t = u))) []):=by
 have hLB:=LB_eq
 refine C_goS (nt:=7) (rs:=[.tmp 3]) hm Tryz.func182 rfl rfl rfl rfl rfl (fun hl he=>?_)
 simp -implicitDefEqProofs only [go_sem] at hl ⊢
 refine atCall [] (c_impl_TermSame t u) ?_ ?_ <;> simp -implicitDefEqProofs only [go_sem]
 refine fin1' ?_
 simp -implicitDefEqProofs only [go_sem]
theorem c_impl_termIndex (ts:List Term) (t:Term):C E.P 121 [lv (rowsT ts),av (cT t)] [] (Eq2 (iv (termIdx ts t)) []):=by
 have hLB:=LB_eq
 refine C_goS (nt:=8) (rs:=[.tmp 4]) hm Tryz.func121 rfl rfl rfl rfl rfl (fun hl he=>?_)
 simp -implicitDefEqProofs only [go_sem] at hl ⊢
 refine atLook [] [0] (c_IndexFunc_Term 182 [.iptr [cT t] 0 0] rfl (fun u=>decide (t = u)) ts (fun u _=>c_impl_termIndex_1 t u)) rfl ?_ ?_ ?_
 ·(simp -implicitDefEqProofs only [go_sem]; repeat' (first | exact Vws.nil | apply Vws.cons | exact Vw.same (by first | rfl | simp -implicitDefEqProofs only [go_sem,Z1,Z2,Z3,Z4]) | exact Vw.acc rfl rfl | exact Vw.tre rfl rfl (by simp -implicitDefEqProofs only [go_sem,Z1,Z2,Z3,Z4]) | exact Vw.nil | apply Vw.agg | apply Vw.fn | refine Vw.box rfl rfl ?_))
 all_goals simp -implicitDefEqProofs only [go_sem]
 refine fin1' ?_
 simp -implicitDefEqProofs only [go_sem]
 all_goals (simp [termIdx]; done)
theorem c_impl_ownTerms1 (ts:List Term) (ih:∀ k ∈ ts,C E.P 102 [av (cT k)] [] (Eq2 (av (cT k)) [])):C E.P 109 [lv (rowsT ts)] [] (Eq2 (lv (rowsT ts)) []):=by
 have hLB:=LB_eq
 refine C_goS (nt:=19) (rs:=[.tmp 2]) hm Tryz.func109 rfl rfl rfl rfl rfl (fun hl he=>?_)
 simp -implicitDefEqProofs only [go_sem] at hl ⊢
 refine loop_go1 hm (fun (i:Nat)=> i ≤ ts.length) (fun (i:Nat)=> ⟨mkS 19 .any [(3,.acc 0),(6,lv (rowsT ts)),(7,iv ts.length),(8,iv i)],[some (.acc 35 (rowsT (ts.take i)))]⟩) (fun (i:Nat)=> ts.length - i) (0) ?_ (weakS [none] ?_ ?_ rfl rfl) ?_
 rotate_left
 ·simp -implicitDefEqProofs only [go_sem]
 ·simp -implicitDefEqProofs only [go_sem]
 rotate_left
 ·omega
 ·rintro i hi
  rcases Classical.em (i < ts.length) with h1 | h1
  ·simp -implicitDefEqProofs only [go_sem,h1]
   have hc:=ih ts[i] (List.getElem_mem h1)
   refine atCall [] hc ?_ ?_ <;> simp -implicitDefEqProofs only [go_sem]
   refine ⟨by omega,by omega,?_⟩
   refine ⟨i + 1,?_,?_,weakS [some 2] ?_ ?_ rfl rfl⟩
   rotate_left
   ·show _ < _
    omega
   ·simp -implicitDefEqProofs only [go_sem]
   ·simp -implicitDefEqProofs only [go_sem]
    all_goals (exact rowsT_snoc h1)
   exact h1
  ·simp -implicitDefEqProofs only [go_sem,h1]
   refine fin1' ?_
   simp -implicitDefEqProofs only [go_sem]
   rw [List.take_of_length_le (by omega)]
theorem c_impl_own1 (t:Term) (ih:∀ k ∈ t.kids,C E.P 102 [av (cT k)] [] (Eq2 (av (cT k)) [])):C E.P 102 [av (cT t)] [] (Eq2 (av (cT t)) []):=by
 have hLB:=LB_eq
 refine C_goS (nt:=9) (rs:=[.cell 2 35]) hm Tryz.func102 rfl rfl rfl rfl rfl (fun hl he=>?_)
 simp -implicitDefEqProofs only [go_sem] at hl ⊢
 refine atCall [] (c_impl_ownTerms1 t.kids ih) ?_ ?_ <;> simp -implicitDefEqProofs only [go_sem]
 with_reducible refine ind_andM (by kernel_rfl) ?_
 skip
 refine fin1' ?_
 simp -implicitDefEqProofs only [go_sem]
theorem c_impl_Term_own:∀ t,C E.P 102 [av (cT t)] [] (Eq2 (av (cT t)) []):=
 Term.ind fun n ks ih=>c_impl_own1 _ ih
theorem c_impl_ownTerms (ts:List Term):C E.P 109 [lv (rowsT ts)] [] (Eq2 (lv (rowsT ts)) []):=c_impl_ownTerms1 ts fun t _=>c_impl_Term_own t
theorem c_impl_withParts1 (t:Term) (ih:∀ k ∈ t.kids,∀ (d:Nat) (l:List Term),d ≤ 4 → tShape k d = true → l.length ≤ 999000 + 15 * (4 - d) → C E.P 155 [.acc 0,av (cT k)] [some (.acc 35 (rowsT l))] (Eq2 (.acc 1) [some .dead,some (.acc 35 (rowsT (withParts l k)))])) (d:Nat) (l:List Term)
 (hd:d ≤ 4) (hsh:tShape t d = true) (hl1:l.length ≤ 999000 + 15 * (4 - d)) :
 C E.P 155 [.acc 0,av (cT t)] [some (.acc 35 (rowsT l))] (Eq2 (.acc 1) [some .dead,some (.acc 35 (rowsT (withParts l t)))]):=by
 cases d with
 | zero=>cases t; simp [tShape] at hsh
 | succ d=>
 have hk:=tShape_kids hsh
 have hle:=fun i=>withPartss_le (l:=l) hsh (by omega) i
 have hLB:=LB_eq
 refine C_goS (nt:=28) (rs:=[.tmp 4]) hm Tryz.func155 rfl rfl rfl rfl rfl (fun hl he=>?_)
 simp -implicitDefEqProofs only [go_sem] at hl ⊢
 refine loop_go1 hm (fun (i:Nat)=> i ≤ t.kids.length) (fun (i:Nat)=> ⟨mkS 28 .any [(0,.acc 2),(3,.ptr 1 0),(8,lv (rowsT t.kids)),(9,iv t.kids.length),(10,iv i)],[some .dead,some (.box (pvs (cT t))),some (.acc 35 (rowsT (withPartss l (t.kids.take i))))]⟩) (fun (i:Nat)=> t.kids.length - i) (0) ?_ (weakS [some 0,some 1,some 0] ?_ ?_ rfl rfl) ?_
 rotate_left
 ·simp -implicitDefEqProofs only [go_sem]
 ·simp -implicitDefEqProofs only [go_sem]
  all_goals (simp only [withPartss])
 rotate_left
 ·omega
 ·rintro i hi
  rcases Classical.em (i < t.kids.length) with h1 | h1
  ·simp -implicitDefEqProofs only [go_sem,h1]
   have hc:=ih t.kids[i] (List.getElem_mem h1) d (withPartss l (t.kids.take i)) (by omega) (tShapes_mem hk.2.2 _ (List.getElem_mem h1)) (by have:=hle i; omega)
   refine atOwn [] [2,4] hc ?_ ?_ <;> simp -implicitDefEqProofs only [go_sem]
   refine ⟨by omega,?_⟩
   refine ⟨i + 1,?_,?_,weakS [some 0,some 1,some 4] ?_ ?_ rfl rfl⟩
   rotate_left
   ·show _ < _
    omega
   ·simp -implicitDefEqProofs only [go_sem]
   ·simp -implicitDefEqProofs only [go_sem]
    all_goals (simp only [withPartss_snoc h1])
   exact h1
  ·have e:t.kids.take i = t.kids:=List.take_of_length_le (by omega)
   have h2:=hle i
   rw [e] at h2
   simp -implicitDefEqProofs only [go_sem,h1,e]
   refine atLook [] [2] (c_impl_termIndex (withPartss l t.kids) t) rfl ?_ ?_ ?_
   ·(simp -implicitDefEqProofs only [go_sem]; repeat' (first | exact Vws.nil | apply Vws.cons | exact Vw.same (by first | rfl | simp -implicitDefEqProofs only [go_sem,Z1,Z2,Z3,Z4]) | exact Vw.acc rfl rfl | exact Vw.tre rfl rfl (by simp -implicitDefEqProofs only [go_sem,Z1,Z2,Z3,Z4]) | exact Vw.nil | apply Vw.agg | apply Vw.fn | refine Vw.box rfl rfl ?_))
   all_goals simp -implicitDefEqProofs only [go_sem]
   rcases Classical.em (termIdx (withPartss l t.kids) t < 0) with hx | hx
   ·simp -implicitDefEqProofs only [go_sem,hx]
    refine atCall [] (c_impl_Term_own t) ?_ ?_ <;> simp -implicitDefEqProofs only [go_sem]
    refine ⟨by omega,?_⟩
    refine finM' [some 0,some 3] ?_ rfl rfl
    simp -implicitDefEqProofs only [go_sem]
    rw [withParts_eq,if_pos hx,← rowsT_app,rowsT_cons,rowsT_nil]
    rfl
   ·simp -implicitDefEqProofs only [go_sem,hx]
    refine finM' [some 0,some 2] ?_ rfl rfl
    simp -implicitDefEqProofs only [go_sem]
    rw [withParts_eq,if_neg hx]
theorem c_impl_withParts:∀ (t:Term) (d:Nat) (l:List Term),d ≤ 4 → tShape t d = true → l.length ≤ 999000 + 15 * (4 - d) → C E.P 155 [.acc 0,av (cT t)] [some (.acc 35 (rowsT l))] (Eq2 (.acc 1) [some .dead,some (.acc 35 (rowsT (withParts l t)))]):=
 Term.ind fun n ks ih d l h1 h2 h3=>c_impl_withParts1 (.mk n ks) ih d l h1 h2 h3
end Go.Proofs.YtpidddienjoleaaGreat
namespace Go.Proofs.YtpidddienjoleaaGreat
open Go.Eng Go.Mod
open Int renaming reduceEq → Z1,reduceLT → Z2,reduceLE → Z3,reduceToNat → Z4
set_option maxRecDepth 100000
theorem termSize_eq (t:Term) (deep:Nat):termSize t deep = if nameOk t.name && decide (t.kids.length ≤ 2) && decide (deep ≤ 4) then 1 + termSizes t.kids (deep + 1) else 13:=by
 cases t; rfl
theorem termSizes_take {ts:List Term} {i:Nat} (h:i < ts.length) (deep:Nat):termSizes (ts.take (i + 1)) deep = termSizes (ts.take i) deep + termSize ts[i] deep:=by
 have e:ts.take (i + 1) = ts.take i ++ [ts[i]]:=by rw [List.take_add_one,List.getElem?_eq_getElem h]; rfl
 have key:∀ (xs ys:List Term),termSizes (xs ++ ys) deep = termSizes xs deep + termSizes ys deep:=by
  intro xs ys
  induction xs with
  | nil=>simp [termSizes]
  | cons a xs ih=>simp only [List.cons_append,termSizes,ih]; omega
 rw [e,key]
 simp [termSizes]
theorem c_impl_termSize1 (t:Term) (ih:∀ k ∈ t.kids,∀ deep:Nat,1 ≤ deep → deep ≤ 5 → C E.P 172 [av (cT k),iv deep] [] (Eq2 (iv (termSize k deep)) [])) (deep:Nat) (g1:1 ≤ deep) (g5:deep ≤ 5) :
 C E.P 172 [av (cT t),iv deep] [] (Eq2 (iv (termSize t deep)) []):=by
 have ht:=termSize_eq t deep
 have hLB:=LB_eq
 refine C_goS (nt:=37) (rs:=[.tmp 4]) hm Tryz.func172 rfl rfl rfl rfl rfl (fun hl he=>?_)
 simp -implicitDefEqProofs only [go_sem] at hl ⊢
 refine atCall [] (c_impl_NameOk t.name) ?_ ?_ <;> simp -implicitDefEqProofs only [go_sem]
 cases hn:nameOk t.name
 ·rw [hn] at ht
  simp -implicitDefEqProofs only [go_sem]
  refine fin1' ?_
  simp -implicitDefEqProofs only [go_sem]
  all_goals (simp [ht]; done)
 ·rw [hn] at ht
  rcases Classical.em ((2:Int) < (t.kids.length:Int)) with h2 | h2
  ·have h2':¬ t.kids.length ≤ 2:=by omega
   simp only [h2',decide_false,Bool.and_false,Bool.false_and,Bool.false_eq_true,if_false] at ht
   simp -implicitDefEqProofs only [go_sem,h2]
   refine fin1' ?_
   simp -implicitDefEqProofs only [go_sem]
   all_goals (simp [ht]; done)
  ·have h2':t.kids.length ≤ 2:=by omega
   rcases Classical.em ((4:Int) < (deep:Int)) with h4 | h4
   ·have h4':¬ deep ≤ 4:=by omega
    simp only [h4',decide_false,Bool.and_false,Bool.false_eq_true,if_false] at ht
    simp -implicitDefEqProofs only [go_sem,h2,h4]
    refine fin1' ?_
    simp -implicitDefEqProofs only [go_sem]
    all_goals (simp [ht]; done)
   ·have h4':deep ≤ 4:=by omega
    simp only [h2',h4',decide_true,Bool.and_self,if_true] at ht
    simp -implicitDefEqProofs only [go_sem,h2,h4]
    refine loop_go1 hm (fun (i:Nat)=> i ≤ t.kids.length) (fun (i:Nat)=> ⟨mkS 37 .any [(1,iv deep),(5,iv ((1 + termSizes (t.kids.take i) (deep + 1):Nat):Int)),(23,lv (rowsT t.kids)),(24,iv t.kids.length),(25,iv i)],[]⟩) (fun (i:Nat)=> t.kids.length - i) (0) ?_ (weakS [] ?_ ?_ rfl rfl) ?_
    rotate_left
    ·simp -implicitDefEqProofs only [go_sem]
     all_goals (simp [termSizes])
    ·simp -implicitDefEqProofs only [go_sem]
    rotate_left
    ·omega
    ·rintro i hi
     have hb:=termSizes_le (t.kids.take i) (deep + 1) (by omega) (by omega)
     have hp:(2:Nat) ^ (5 - (deep + 1)) ≤ 2 ^ 4:=Nat.pow_le_pow_right (by omega) (by omega)
     have hq:(t.kids.take i).length * (27 * 2 ^ (5 - (deep + 1)) - 14) ≤ 2 * (27 * 2 ^ (5 - (deep + 1)) - 14):=Nat.mul_le_mul_right _ (by simp; omega)
     rcases Classical.em (i < t.kids.length) with h1 | h1
     ·have hk:=termSize_le t.kids[i] (deep + 1) (by omega) (by omega)
      simp -implicitDefEqProofs only [go_sem,h1]
      refine ⟨by omega,?_⟩
      have hc:=ih t.kids[i] (List.getElem_mem h1) (deep + 1) (by omega) (by omega)
      refine atCall [] hc ?_ ?_ <;> simp -implicitDefEqProofs only [go_sem]
      refine ⟨by omega,by omega,?_⟩
      refine ⟨i + 1,?_,?_,weakS [] ?_ ?_ rfl rfl⟩
      rotate_left
      ·show _ < _
       omega
      ·simp -implicitDefEqProofs only [go_sem]
       all_goals ((simp only [termSizes_take h1]; simp; omega))
      ·simp -implicitDefEqProofs only [go_sem]
      exact h1
     ·rw [← List.take_of_length_le (l:=t.kids) (i:=i) (by omega)] at ht
      simp -implicitDefEqProofs only [go_sem,h1]
      refine fin1' ?_
      simp -implicitDefEqProofs only [go_sem]
      all_goals (simp [ht]; done)
theorem c_impl_termSize:∀ (t:Term) (deep:Nat),1 ≤ deep → deep ≤ 5 → C E.P 172 [av (cT t),iv deep] [] (Eq2 (iv (termSize t deep)) []):=
 Term.ind fun n ks ih deep h1 h2=>c_impl_termSize1 (.mk n ks) ih deep h1 h2
theorem c_impl_isTerm (t:Term):C E.P 106 [av (cT t)] [] (Eq2 (bv (isTerm t)) []):=by
 have hLB:=LB_eq
 refine C_goS (nt:=6) (rs:=[.tmp 2]) hm Tryz.func106 rfl rfl rfl rfl rfl (fun hl he=>?_)
 simp -implicitDefEqProofs only [go_sem] at hl ⊢
 have hc:=c_impl_termSize t 1 (by omega) (by omega)
 refine atCall [] hc ?_ ?_ <;> simp -implicitDefEqProofs only [go_sem]
 refine fin1' ?_
 simp -implicitDefEqProofs only [go_sem]
 all_goals (simp [isTerm]; omega)
theorem c_impl_isSort (n:Int):C E.P 151 [iv n] [] (Eq2 (bv (isSort n)) []):=by
 have hLB:=LB_eq
 refine C_goS (nt:=9) (rs:=[.tmp 2]) hm Tryz.func151 rfl rfl rfl rfl rfl (fun hl he=>?_)
 simp -implicitDefEqProofs only [go_sem] at hl ⊢
 rcases Classical.em (n = 0) with h | h
 ·simp -implicitDefEqProofs only [go_sem,h]
  refine fin1' ?_
  simp -implicitDefEqProofs only [go_sem]
  all_goals (simp [isSort]; done)
 ·simp -implicitDefEqProofs only [go_sem,h]
  refine fin1' ?_
  simp -implicitDefEqProofs only [go_sem]
  all_goals (simp [isSort,h]; done)
theorem c_impl_Sym_ok_1 (n:Int):C E.P 153 [iv n] [] (Eq2 (bv (!isSort n)) []):=by
 have hLB:=LB_eq
 refine C_goS (nt:=6) (rs:=[.tmp 2]) hm Tryz.func153 rfl rfl rfl rfl rfl (fun hl he=>?_)
 simp -implicitDefEqProofs only [go_sem] at hl ⊢
 refine atCall [] (c_impl_isSort n) ?_ ?_ <;> simp -implicitDefEqProofs only [go_sem]
 refine fin1' ?_
 simp -implicitDefEqProofs only [go_sem]
theorem c_impl_Sym_ok (x:Sym):C E.P 79 [av (cSym x)] [] (Eq2 (bv (symOk x)) []):=by
 have hLB:=LB_eq
 refine C_goS (nt:=23) (rs:=[.tmp 2]) hm Tryz.func79 rfl rfl rfl rfl rfl (fun hl he=>?_)
 simp -implicitDefEqProofs only [go_sem] at hl ⊢
 refine atCall [] (c_impl_NameOk x.name) ?_ ?_ <;> simp -implicitDefEqProofs only [go_sem]
 cases h1:nameOk x.name
 ·simp -implicitDefEqProofs only [go_sem]
  refine fin1' ?_
  simp -implicitDefEqProofs only [go_sem]
  all_goals (simp [symOk,h1]; done)
 ·rcases Classical.em ((x.args.length:Int) ≤ 2) with h2 | h2
  ·have h2':x.args.length ≤ 2:=by omega
   simp -implicitDefEqProofs only [go_sem,h2]
   refine atCall [] (c_impl_isSort x.sort) ?_ ?_ <;> simp -implicitDefEqProofs only [go_sem]
   cases h3:isSort x.sort
   ·simp -implicitDefEqProofs only [go_sem]
    refine fin1' ?_
    simp -implicitDefEqProofs only [go_sem]
    all_goals (simp [symOk,h1,h2',h3]; done)
   ·simp -implicitDefEqProofs only [go_sem]
    refine atCall [] (c_ContainsFunc_int 153 [] rfl (fun n=>!isSort n) x.args (fun n _=>c_impl_Sym_ok_1 n)) ?_ ?_ <;> simp -implicitDefEqProofs only [go_sem]
    refine fin1' ?_
    simp -implicitDefEqProofs only [go_sem]
    all_goals (simp [symOk,h1,h2',h3,List.all_eq_not_any_not]; done)
  ·have h2':¬ x.args.length ≤ 2:=by omega
   simp -implicitDefEqProofs only [go_sem,h2]
   refine fin1' ?_
   simp -implicitDefEqProofs only [go_sem]
   all_goals (simp [symOk,h1,h2']; done)
def prevName (l:List Sym):Nat → Option Str
 | 0=>none
 | j + 1=>(l[j]?).map (·.name)
theorem c_impl_SigOk (s:Sig):C E.P 36 [av (cSig s)] [] (Eq2 (bv (sigOk s)) []):=by
 have hLB:=LB_eq
 refine C_goS (nt:=37) (rs:=[.tmp 2]) hm Tryz.func36 rfl rfl rfl rfl rfl (fun hl he=>?_)
 simp -implicitDefEqProofs only [go_sem] at hl ⊢
 refine loop_go1 hm (fun (i:Nat)=> i ≤ s.syms.length ∧ symsGo none s.syms = symsGo (prevName s.syms i) (s.syms.drop i)) (fun (i:Nat)=> ⟨mkS 37 .any [(1,.ptr 0 0),(6,lv (rowsSym s.syms)),(7,iv s.syms.length),(8,iv i)],[some (.box (pvs (cSig s)))]⟩) (fun (i:Nat)=> s.syms.length - i) (0) ?_ (weakS [some 0] ?_ ?_ rfl rfl) ?_
 rotate_left
 ·simp -implicitDefEqProofs only [go_sem]
 ·simp -implicitDefEqProofs only [go_sem]
 rotate_left
 ·simp [prevName]
 ·rintro i ⟨hi,hg⟩
  rcases Classical.em (i < s.syms.length) with h1 | h1
  ·rw [List.drop_eq_getElem_cons h1] at hg
   simp only [symsGo] at hg
   simp -implicitDefEqProofs only [go_sem,h1]
   refine atCall [] (c_impl_Sym_ok s.syms[i]) ?_ ?_ <;> simp -implicitDefEqProofs only [go_sem]
   cases h2:symOk s.syms[i]
   ·have e:sigOk s = false:=by simp [sigOk,hg,h2]
    simp -implicitDefEqProofs only [go_sem]
    with_reducible refine ind_andM (by kernel_rfl) ?_
    skip
    refine fin1' ?_
    simp -implicitDefEqProofs only [go_sem]
    all_goals (simp [e]; done)
   ·rw [h2,Bool.true_and] at hg
    cases i with
    | zero=>
      simp only [prevName,Bool.true_and] at hg
      simp -implicitDefEqProofs only [go_sem,Int.lt_irrefl]
      with_reducible refine ind_andM (by kernel_rfl) ?_
      skip
      refine ⟨by omega,?_⟩
      refine ⟨0 + 1,?_,?_,weakS [some 0] ?_ ?_ rfl rfl⟩
      rotate_left
      ·show _ < _
       omega
      ·simp -implicitDefEqProofs only [go_sem]
       all_goals (simp [*]; done)
      ·simp -implicitDefEqProofs only [go_sem]
      refine ⟨by omega,?_⟩
      rw [hg]
      simp [prevName,h1]
    | succ j=>
      have hj:j < s.syms.length:=by omega
      have e1:((j:Int) + 1 - 1) = (j:Int):=by omega
      have e2:(0:Int) < (j:Int) + 1:=by omega
      have e3:prevName s.syms (j + 1) = some s.syms[j].name:=by simp [prevName,hj]
      rw [e3] at hg
      simp only at hg
      simp -implicitDefEqProofs only [go_sem,e1,e2,hj]
      refine ⟨by omega,?_⟩
      cases h4:sLess s.syms[j].name s.syms[j + 1].name
      ·rw [h4,Bool.false_and] at hg
       have e:sigOk s = false:=by simp [sigOk,hg]
       have h5:Op.bytesLess s.syms[j].name s.syms[j + 1].name = false:=h4
       simp -implicitDefEqProofs only [go_sem,h5]
       with_reducible refine ind_andM (by kernel_rfl) ?_
       skip
       refine fin1' ?_
       simp -implicitDefEqProofs only [go_sem]
       all_goals (simp [e]; done)
      ·rw [h4,Bool.true_and] at hg
       have h5:Op.bytesLess s.syms[j].name s.syms[j + 1].name = true:=h4
       simp -implicitDefEqProofs only [go_sem,h5]
       with_reducible refine ind_andM (by kernel_rfl) ?_
       skip
       refine ⟨by omega,?_⟩
       refine ⟨j + 1 + 1,?_,?_,weakS [some 0] ?_ ?_ rfl rfl⟩
       rotate_left
       ·show _ < _
        omega
       ·simp -implicitDefEqProofs only [go_sem]
       ·simp -implicitDefEqProofs only [go_sem]
       refine ⟨by omega,?_⟩
       rw [hg]
       simp [prevName,h1]
  ·rw [List.drop_of_length_le (by omega)] at hg
   simp only [symsGo] at hg
   have e:sigOk s = decide ((s.syms.length:Int) ≤ 7):=by simp [sigOk,hg]; omega
   simp -implicitDefEqProofs only [go_sem,h1]
   refine fin1' ?_
   simp -implicitDefEqProofs only [go_sem]
   all_goals (simp [e]; done)
theorem c_impl_Sig_symbol (s:Sig) (n:Str):C E.P 113 [av (cSig s),sv n] [] (Eq2 (.tup [av (cSym ((symbol s n).getD sym0)),bv (symbol s n).isSome]) []):=by
 have hLB:=LB_eq
 refine C_goS (nt:=22) (rs:=[.cell 4 117,.tmp 5]) hm Tryz.func113 rfl rfl rfl rfl rfl (fun hl he=>?_)
 simp -implicitDefEqProofs only [go_sem] at hl ⊢
 refine loop_go1 hm (fun (i:Nat)=> i ≤ s.syms.length ∧ symbol s n = (s.syms.drop i).find? (fun x=>decide (x.name = n))) (fun (i:Nat)=> ⟨mkS 22 .any [(1,sv n),(4,.ptr 1 0),(9,lv (rowsSym s.syms)),(10,iv s.syms.length),(11,iv i)],[some (.box (pvs (cSig s))),some (.box (pvs (cSym sym0)))]⟩) (fun (i:Nat)=> s.syms.length - i) (0) ?_ (weakS [some 0,some 1] ?_ ?_ rfl rfl) ?_
 rotate_left
 ·simp -implicitDefEqProofs only [go_sem]
 ·simp -implicitDefEqProofs only [go_sem]
 rotate_left
 ·simp [symbol]
 ·rintro i ⟨hi,hg⟩
  rcases Classical.em (i < s.syms.length) with h1 | h1
  ·rw [List.drop_eq_getElem_cons h1] at hg
   rcases Classical.em (s.syms[i].name = n) with h2 | h2
   ·have e:symbol s n = some s.syms[i]:=by rw [hg]; simp only [List.find?_cons,h2,decide_true]
    simp -implicitDefEqProofs only [go_sem,h1,h2]
    refine fin1' ?_
    simp -implicitDefEqProofs only [go_sem]
    all_goals (simp [e,h2]; done)
   ·have e:symbol s n = (s.syms.drop (i + 1)).find? (fun x=>decide (x.name = n)):=by rw [hg]; simp only [List.find?_cons,h2,decide_false]
    simp -implicitDefEqProofs only [go_sem,h1,h2]
    refine ⟨by omega,?_⟩
    refine ⟨i + 1,?_,?_,weakS [some 0,some 1] ?_ ?_ rfl rfl⟩
    rotate_left
    ·show _ < _
     omega
    ·simp -implicitDefEqProofs only [go_sem]
    ·simp -implicitDefEqProofs only [go_sem]
    exact ⟨by omega,e⟩
  ·have e:symbol s n = none:=by rw [hg,List.drop_of_length_le (by omega)]; rfl
   simp -implicitDefEqProofs only [go_sem,h1]
   refine fin1' ?_
   simp -implicitDefEqProofs only [go_sem]
   all_goals (simp [e,sym0,rowsI_nil]; done)
end Go.Proofs.YtpidddienjoleaaGreat
namespace Go.Proofs.YtpidddienjoleaaGreat
open Go.Eng Go.Mod
open Int renaming reduceEq → Z1,reduceLT → Z2,reduceLE → Z3,reduceToNat → Z4
set_option maxRecDepth 100000
theorem sortOf_eq (s:Sig) (t:Term):sortOf s t = match symbol s t.name with
 | none=>none
 | some x=>if decide (x.args.length = t.kids.length) && sortsOk s t.kids x.args then some x.sort else none:=by
 cases t; simp only [sortOf,Term.name,Term.kids]; rfl
theorem sortsOk_drop {s:Sig} {ks:List Term} {ns:List Int} {i:Nat} (h:i < ks.length) (h':i < ns.length):sortsOk s (ks.drop i) (ns.drop i) = (decide (sortOf s ks[i] = some ns[i]) && sortsOk s (ks.drop (i + 1)) (ns.drop (i + 1))):=by
 rw [List.drop_eq_getElem_cons h,List.drop_eq_getElem_cons h',sortsOk]
theorem c_impl_Sig_sortOf1 (s:Sig) (t:Term) (ih:∀ k ∈ t.kids,C E.P 111 [av (cSig s),av (cT k)] [] (Eq2 (.tup [iv ((sortOf s k).getD 0),bv (sortOf s k).isSome]) [])) :
 C E.P 111 [av (cSig s),av (cT t)] [] (Eq2 (.tup [iv ((sortOf s t).getD 0),bv (sortOf s t).isSome]) []):=by
 have ht:=sortOf_eq s t
 have hLB:=LB_eq
 refine C_goS (nt:=58) (rs:=[.tmp 4,.tmp 5]) hm Tryz.func111 rfl rfl rfl rfl rfl (fun hl he=>?_)
 simp -implicitDefEqProofs only [go_sem] at hl ⊢
 refine atCall [] (c_impl_Sig_symbol s t.name) ?_ ?_ <;> simp -implicitDefEqProofs only [go_sem]
 cases hx:symbol s t.name with
 | none=>
   rw [hx] at ht
   simp only at ht
   simp -implicitDefEqProofs only [go_sem,Option.isSome_none]
   refine fin1' ?_
   simp -implicitDefEqProofs only [go_sem]
   all_goals (simp [ht]; done)
 | some x=>
   rw [hx] at ht
   simp only at ht
   rcases Classical.em (x.args.length = t.kids.length) with h1 | h1
   ·simp only [h1,decide_true,Bool.true_and] at ht
    simp -implicitDefEqProofs only [go_sem,Option.isSome_some,Option.getD_some,h1]
    refine loop_go1 hm (fun (i:Nat)=> i ≤ t.kids.length ∧ sortsOk s t.kids x.args = sortsOk s (t.kids.drop i) (x.args.drop i)) (fun (i:Nat)=> ⟨mkS 58 .any [(2,.ptr 0 0),(6,.ptr 2 0),(31,lv (rowsT t.kids)),(32,iv t.kids.length),(33,iv i)],[some (.box (pvs (cSig s))),some (.box (pvs (cT t))),some (.box (pvs (cSym x)))]⟩) (fun (i:Nat)=> t.kids.length - i) (0) ?_ (weakS [some 0,some 1,some 2] ?_ ?_ rfl rfl) ?_
    rotate_left
    ·simp -implicitDefEqProofs only [go_sem]
    ·simp -implicitDefEqProofs only [go_sem]
    rotate_left
    ·simp
    ·rintro i ⟨hi,hg⟩
     rcases Classical.em (i < t.kids.length) with h2 | h2
     ·have h3:i < x.args.length:=by omega
      rw [sortsOk_drop h2 h3] at hg
      simp -implicitDefEqProofs only [go_sem,h2]
      have hc:=ih t.kids[i] (List.getElem_mem h2)
      refine atCall [] hc ?_ ?_ <;> simp -implicitDefEqProofs only [go_sem]
      cases hk:sortOf s t.kids[i] with
      | none=>
        rw [hk] at hg
        have hz:sortsOk s t.kids x.args = false:=by rw [hg]; simp
        rw [hz] at ht
        simp only [Bool.false_eq_true,if_false] at ht
        simp -implicitDefEqProofs only [go_sem,Option.isSome_none]
        refine fin1' ?_
        simp -implicitDefEqProofs only [go_sem]
        all_goals (simp [ht]; done)
      | some n=>
        rw [hk] at hg
        rcases Classical.em (n = x.args[i]) with hn | hn
        ·have hz:sortsOk s t.kids x.args = sortsOk s (t.kids.drop (i + 1)) (x.args.drop (i + 1)):=by rw [hg,hn]; simp
         simp -implicitDefEqProofs only [go_sem,Option.isSome_some,Option.getD_some,hn,h3]
         refine ⟨by omega,?_⟩
         refine ⟨i + 1,?_,?_,weakS [some 0,some 1,some 2] ?_ ?_ rfl rfl⟩
         rotate_left
         ·show _ < _
          omega
         ·simp -implicitDefEqProofs only [go_sem]
         ·simp -implicitDefEqProofs only [go_sem]
         exact ⟨by omega,hz⟩
        ·have hz:sortsOk s t.kids x.args = false:=by
          rw [hg]
          simp [hn]
         rw [hz] at ht
         simp only [Bool.false_eq_true,if_false] at ht
         simp -implicitDefEqProofs only [go_sem,Option.isSome_some,Option.getD_some,hn,h3]
         refine fin1' ?_
         simp -implicitDefEqProofs only [go_sem]
         all_goals (simp [ht]; done)
     ·rw [List.drop_of_length_le (by omega),List.drop_of_length_le (by omega)] at hg
      rw [hg] at ht
      simp only [sortsOk,if_true] at ht
      simp -implicitDefEqProofs only [go_sem,h2]
      refine fin1' ?_
      simp -implicitDefEqProofs only [go_sem]
      all_goals (simp [ht]; done)
   ·simp only [h1,decide_false,Bool.false_and,Bool.false_eq_true,if_false] at ht
    have h1':¬ (x.args.length:Int) = t.kids.length:=by omega
    simp -implicitDefEqProofs only [go_sem,Option.isSome_some,Option.getD_some,h1]
    refine fin1' ?_
    simp -implicitDefEqProofs only [go_sem]
    all_goals (simp [ht]; done)
theorem c_impl_Sig_sortOf (s:Sig):∀ (t:Term),C E.P 111 [av (cSig s),av (cT t)] [] (Eq2 (.tup [iv ((sortOf s t).getD 0),bv (sortOf s t).isSome]) []):=
 Term.ind fun n ks ih=>c_impl_Sig_sortOf1 s (.mk n ks) ih
theorem c_impl_TermSort (s:Sig) (t:Term):C E.P 48 [av (cSig s),av (cT t)] [] (Eq2 (.tup [iv ((termSort s t).getD 0),bv (termSort s t).isSome]) []):=by
 have hLB:=LB_eq
 refine C_goS (nt:=19) (rs:=[.tmp 4,.tmp 5]) hm Tryz.func48 rfl rfl rfl rfl rfl (fun hl he=>?_)
 simp -implicitDefEqProofs only [go_sem] at hl ⊢
 refine atCall [] (c_impl_SigOk s) ?_ ?_ <;> simp -implicitDefEqProofs only [go_sem]
 cases h1:sigOk s
 ·simp -implicitDefEqProofs only [go_sem]
  refine fin1' ?_
  simp -implicitDefEqProofs only [go_sem]
  all_goals (simp [termSort,h1]; done)
 ·simp -implicitDefEqProofs only [go_sem]
  refine atCall [] (c_impl_isTerm t) ?_ ?_ <;> simp -implicitDefEqProofs only [go_sem]
  cases h2:isTerm t
  ·simp -implicitDefEqProofs only [go_sem]
   refine fin1' ?_
   simp -implicitDefEqProofs only [go_sem]
   all_goals (simp [termSort,h1,h2]; done)
  ·simp -implicitDefEqProofs only [go_sem]
   refine atCall [] (c_impl_Sig_sortOf s t) ?_ ?_ <;> simp -implicitDefEqProofs only [go_sem]
   refine fin1' ?_
   simp -implicitDefEqProofs only [go_sem]
   all_goals (simp [termSort,h1,h2]; done)
theorem c_impl_isNumber (s:Sig) (t:Term):C E.P 83 [av (cSig s),av (cT t)] [] (Eq2 (bv (isNumber s t)) []):=by
 have hLB:=LB_eq
 refine C_goS (nt:=18) (rs:=[.tmp 4]) hm Tryz.func83 rfl rfl rfl rfl rfl (fun hl he=>?_)
 simp -implicitDefEqProofs only [go_sem] at hl ⊢
 refine atCall [] (c_impl_TermSort s t) ?_ ?_ <;> simp -implicitDefEqProofs only [go_sem]
 cases h:termSort s t with
 | none=>
   simp -implicitDefEqProofs only [go_sem,Option.isSome_none]
   refine fin1' ?_
   simp -implicitDefEqProofs only [go_sem]
   all_goals (simp [isNumber,h]; done)
 | some n=>
   simp -implicitDefEqProofs only [go_sem,Option.isSome_some,Option.getD_some]
   refine fin1' ?_
   simp -implicitDefEqProofs only [go_sem]
   all_goals (simp [isNumber,h]; done)
theorem c_impl_isNone (t:Term):C E.P 107 [av (cT t)] [] (Eq2 (bv (isNone t)) []):=by
 have hLB:=LB_eq
 refine C_goS (nt:=12) (rs:=[.tmp 2]) hm Tryz.func107 rfl rfl rfl rfl rfl (fun hl he=>?_)
 simp -implicitDefEqProofs only [go_sem] at hl ⊢
 rcases Classical.em (t.name = []) with h | h
 ·simp -implicitDefEqProofs only [go_sem,h]
  refine fin1' ?_
  simp -implicitDefEqProofs only [go_sem]
  all_goals (simp [isNone,h]; done)
 ·simp -implicitDefEqProofs only [go_sem,h]
  refine fin1' ?_
  simp -implicitDefEqProofs only [go_sem]
  all_goals (simp [isNone,h]; done)
theorem c_impl_Eq_sorted (e:EqD) (s:Sig):C E.P 80 [av (cEq e),av (cSig s)] [] (Eq2 (bv (eqSorted s e)) []):=by
 have hLB:=LB_eq
 refine C_goS (nt:=32) (rs:=[.tmp 4]) hm Tryz.func80 rfl rfl rfl rfl rfl (fun hl he=>?_)
 simp -implicitDefEqProofs only [go_sem] at hl ⊢
 refine atCall [] (c_impl_TermSort s e.A) ?_ ?_ <;> simp -implicitDefEqProofs only [go_sem]
 refine atCall [] (c_impl_TermSort s e.B) ?_ ?_ <;> simp -implicitDefEqProofs only [go_sem]
 cases h1:termSort s e.A with
 | none=>
   simp -implicitDefEqProofs only [go_sem,Option.isSome_none]
   refine fin1' ?_
   simp -implicitDefEqProofs only [go_sem]
   all_goals (simp [eqSorted,h1]; done)
 | some n=>
   cases h2:termSort s e.B with
   | none=>
     simp -implicitDefEqProofs only [go_sem,Option.isSome_some,Option.getD_some,Option.isSome_none]
     refine fin1' ?_
     simp -implicitDefEqProofs only [go_sem]
     all_goals (simp [eqSorted,h1,h2]; done)
   | some m=>
     simp -implicitDefEqProofs only [go_sem,Option.isSome_some,Option.getD_some]
     refine fin1' ?_
     simp -implicitDefEqProofs only [go_sem]
     all_goals (simp [eqSorted,h1,h2]; done)
theorem c_impl_Atom_terms (a:Atom):C E.P 84 [av (cAtom a)] [] (Eq2 (lv (rowsT (atomTerms a))) []):=by
 have hLB:=LB_eq
 refine C_goS (nt:=13) (rs:=[.tmp 2]) hm Tryz.func84 rfl rfl rfl rfl rfl (fun hl he=>?_)
 simp -implicitDefEqProofs only [go_sem] at hl ⊢
 rcases Classical.em (a.kind = 1) with h | h
 ·simp -implicitDefEqProofs only [go_sem,h]
  refine fin1' ?_
  simp -implicitDefEqProofs only [go_sem]
  all_goals (simp [atomTerms,h,rowsT_cons,rowsT_nil,cT]; done)
 ·simp -implicitDefEqProofs only [go_sem,h]
  refine fin1' ?_
  simp -implicitDefEqProofs only [go_sem]
  all_goals (simp [atomTerms,h]; done)
theorem partsGo_step {xs:List Term} {i:Nat} (h:i < xs.length) (hi:isTerm xs[i] = true) (out:List Term):partsGo (xs.drop i) out = partsGo (xs.drop (i + 1)) (withParts out xs[i]):=by
 rw [List.drop_eq_getElem_cons h,partsGo,hi]; rfl
end Go.Proofs.YtpidddienjoleaaGreat
