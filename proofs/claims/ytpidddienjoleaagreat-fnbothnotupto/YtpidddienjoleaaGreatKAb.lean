/-
  The program: the walks of models. A step towards the exact laws.
-/
import Derived.Test.YtpidddienjoleaaGreatKAL
import Derived.Test.YtpidddienjoleaaGreatKAa
set_option linter.unusedVariables false
set_option linter.unusedSimpArgs false
namespace Go.Proofs.YtpidddienjoleaaGreat
open Go.Eng Go.Mod
open Int renaming reduceEq → Z1,reduceLT → Z2,reduceLE → Z3,reduceToNat → Z4
set_option maxRecDepth 100000
set_option maxHeartbeats 400000
theorem c_IndexFunc_Rat (f:Nat) (cap:List PV) (hcap:lts 0 cap = true) (p:Mod.Rat → Bool) (xs:List Mod.Rat) (hf:∀ x ∈ xs,C E.P f (av (cRat x) :: cap) [] (Eq2 (bv (p x)) [])) :
 C E.P 188 [lv (rowsRat xs),.fn f cap] [] (Eq2 (iv (idxOf p xs)) []):=by
 have hLB:=LB_eq
 refine C_goS (nt:=19) (rs:=[.tmp 4]) hm Tryz.func188 rfl rfl rfl rfl rfl (fun hl he=>?_)
 simp -implicitDefEqProofs only [go_sem,Z1,Z2,Z3,Z4] at hl ⊢
 refine loop_go1 hm (fun (i:Nat)=> i ≤ xs.length ∧ idxOf p xs = idxGo p (xs.drop i) i) (fun (i:Nat)=> ⟨mkS 19 .any [(0,lv (rowsRat xs)),(1,.fn f cap),(7,iv xs.length),(8,iv i)],[]⟩) (fun (i:Nat)=> xs.length - i) (0) ?_ (weakS [] ?_ ?_ rfl rfl) ?_
 rotate_left
 ·simp -implicitDefEqProofs only [go_sem,Z1,Z2,Z3,Z4]
  all_goals (simp [wks_rfl, *]; done)
 ·simp -implicitDefEqProofs only [go_sem,Z1,Z2,Z3,Z4]
 rotate_left
 ·simp [idxOf]
 ·rintro i ⟨hi,hg⟩
  rcases Classical.em (i < xs.length) with h1 | h1
  ·rw [List.drop_eq_getElem_cons h1,idxGo] at hg
   simp -implicitDefEqProofs only [go_sem,Z1,Z2,Z3,Z4,h1]
   have hc:=hf xs[i] (List.getElem_mem h1)
   refine atCall cap hc ?_ ?_ <;> simp -implicitDefEqProofs only [go_sem,Z1,Z2,Z3,Z4,hcap]
   cases h2:p xs[i]
   ·rw [h2] at hg
    simp only [Bool.false_eq_true,if_false] at hg
    simp -implicitDefEqProofs only [go_sem,Z1,Z2,Z3,Z4]
    refine ⟨by omega,?_⟩
    refine ⟨i + 1,?_,?_,weakS [] ?_ ?_ rfl rfl⟩
    rotate_left
    ·show _ < _
     omega
    ·simp -implicitDefEqProofs only [go_sem,Z1,Z2,Z3,Z4]
     all_goals (simp [wks_rfl, *]; done)
    ·simp -implicitDefEqProofs only [go_sem,Z1,Z2,Z3,Z4]
    exact ⟨by omega,hg⟩
   ·rw [h2] at hg
    simp only [if_true] at hg
    simp -implicitDefEqProofs only [go_sem,Z1,Z2,Z3,Z4]
    refine fin1' ?_
    simp -implicitDefEqProofs only [go_sem,Z1,Z2,Z3,Z4]
    all_goals (simp [hg]; done)
  ·rw [List.drop_of_length_le (by omega),idxGo] at hg
   simp -implicitDefEqProofs only [go_sem,Z1,Z2,Z3,Z4,h1]
   refine fin1' ?_
   simp -implicitDefEqProofs only [go_sem,Z1,Z2,Z3,Z4]
   all_goals (simp [hg]; done)
theorem c_ContainsFunc_Rat (f:Nat) (cap:List PV) (hcap:lts 0 cap = true) (p:Mod.Rat → Bool) (xs:List Mod.Rat) (hf:∀ x ∈ xs,C E.P f (av (cRat x) :: cap) [] (Eq2 (bv (p x)) [])) :
 C E.P 131 [lv (rowsRat xs),.fn f cap] [] (Eq2 (bv (xs.any p)) []):=by
 have hLB:=LB_eq
 refine C_goS (nt:=9) (rs:=[.tmp 4]) hm Tryz.func131 rfl rfl rfl rfl rfl (fun hl he=>?_)
 simp -implicitDefEqProofs only [go_sem,Z1,Z2,Z3,Z4] at hl ⊢
 refine atCall [] (c_IndexFunc_Rat f cap hcap p xs hf) ?_ ?_ <;> simp -implicitDefEqProofs only [go_sem,Z1,Z2,Z3,Z4,hcap]
 refine fin1' ?_
 simp -implicitDefEqProofs only [go_sem,Z1,Z2,Z3,Z4]
 all_goals (simp [idx_any]; done)
theorem c_cmp_isNaN_string (a:Str):C E.P 230 [sv a] [] (Eq2 (bv false) []):=by
 have hLB:=LB_eq
 refine C_goS (nt:=6) (rs:=[.tmp 2]) hm Tryz.func230 rfl rfl rfl rfl rfl (fun hl he=>?_)
 simp -implicitDefEqProofs only [go_sem,Z1,Z2,Z3,Z4] at hl ⊢
 refine fin1' ?_
 simp -implicitDefEqProofs only [go_sem,Z1,Z2,Z3,Z4]
theorem c_cmp_isNaN_int (a:Int):C E.P 231 [iv a] [] (Eq2 (bv false) []):=by
 have hLB:=LB_eq
 refine C_goS (nt:=6) (rs:=[.tmp 2]) hm Tryz.func231 rfl rfl rfl rfl rfl (fun hl he=>?_)
 simp -implicitDefEqProofs only [go_sem,Z1,Z2,Z3,Z4] at hl ⊢
 refine fin1' ?_
 simp -implicitDefEqProofs only [go_sem,Z1,Z2,Z3,Z4]
theorem c_cmp_Compare_string (a b:Str):C E.P 176 [sv a,sv b] [] (Eq2 (iv (cmpStr a b)) []):=by
 have hg:=less_gt a b
 have hLB:=LB_eq
 refine C_goS (nt:=20) (rs:=[.tmp 4]) hm Tryz.func176 rfl rfl rfl rfl rfl (fun hl he=>?_)
 simp -implicitDefEqProofs only [go_sem,Z1,Z2,Z3,Z4] at hl ⊢
 refine atCall [] (c_cmp_isNaN_string a) ?_ ?_ <;> simp -implicitDefEqProofs only [go_sem,Z1,Z2,Z3,Z4]
 refine atCall [] (c_cmp_isNaN_string b) ?_ ?_ <;> simp -implicitDefEqProofs only [go_sem,Z1,Z2,Z3,Z4]
 cases h1:Op.bytesLess a b
 ·rw [h1,Bool.false_or] at hg
  cases h2:Op.bytesLess b a
  ·rw [h2] at hg
   simp -implicitDefEqProofs only [go_sem,Z1,Z2,Z3,Z4,h1,h2,hg]
   refine fin1' ?_
   simp -implicitDefEqProofs only [go_sem,Z1,Z2,Z3,Z4]
   all_goals (simp [cmpStr,sLess,h1,h2]; done)
  ·rw [h2] at hg
   simp -implicitDefEqProofs only [go_sem,Z1,Z2,Z3,Z4,h1,h2,hg]
   refine fin1' ?_
   simp -implicitDefEqProofs only [go_sem,Z1,Z2,Z3,Z4]
   all_goals (simp [cmpStr,sLess,h1,h2]; done)
 ·simp -implicitDefEqProofs only [go_sem,Z1,Z2,Z3,Z4,h1]
  refine fin1' ?_
  simp -implicitDefEqProofs only [go_sem,Z1,Z2,Z3,Z4]
  all_goals (simp [cmpStr,sLess,h1]; done)
theorem c_cmp_Compare_int (a b:Int):C E.P 177 [iv a,iv b] [] (Eq2 (iv (cmpInt a b)) []):=by
 have hLB:=LB_eq
 refine C_goS (nt:=20) (rs:=[.tmp 4]) hm Tryz.func177 rfl rfl rfl rfl rfl (fun hl he=>?_)
 simp -implicitDefEqProofs only [go_sem,Z1,Z2,Z3,Z4] at hl ⊢
 refine atCall [] (c_cmp_isNaN_int a) ?_ ?_ <;> simp -implicitDefEqProofs only [go_sem,Z1,Z2,Z3,Z4]
 refine atCall [] (c_cmp_isNaN_int b) ?_ ?_ <;> simp -implicitDefEqProofs only [go_sem,Z1,Z2,Z3,Z4]
 rcases Classical.em (a < b) with h1 | h1
 ·simp -implicitDefEqProofs only [go_sem,Z1,Z2,Z3,Z4,h1]
  refine fin1' ?_
  simp -implicitDefEqProofs only [go_sem,Z1,Z2,Z3,Z4]
  all_goals (simp [cmpInt,h1]; done)
 ·rcases Classical.em (b < a) with h2 | h2
  ·simp -implicitDefEqProofs only [go_sem,Z1,Z2,Z3,Z4,h1,h2]
   refine fin1' ?_
   simp -implicitDefEqProofs only [go_sem,Z1,Z2,Z3,Z4]
   all_goals (simp [cmpInt,h1,h2]; done)
  ·simp -implicitDefEqProofs only [go_sem,Z1,Z2,Z3,Z4,h1,h2]
   refine fin1' ?_
   simp -implicitDefEqProofs only [go_sem,Z1,Z2,Z3,Z4]
   all_goals (simp [cmpInt,h1,h2]; done)
def orI:List Int → Int
 | []=>0
 | n :: ns=>if n = 0 then orI ns else n
theorem c_cmp_Or (ns:List Int):C E.P 175 [lv (rowsI ns)] [] (Eq2 (iv (orI ns)) []):=by
 have hLB:=LB_eq
 refine C_goS (nt:=18) (rs:=[.tmp 2]) hm Tryz.func175 rfl rfl rfl rfl rfl (fun hl he=>?_)
 simp -implicitDefEqProofs only [go_sem,Z1,Z2,Z3,Z4] at hl ⊢
 refine loop_go1 hm (fun (i:Nat)=> i ≤ ns.length ∧ orI ns = orI (ns.drop i)) (fun (i:Nat)=> ⟨mkS 18 .any [(3,iv 0),(6,lv (rowsI ns)),(7,iv ns.length),(8,iv i)],[]⟩) (fun (i:Nat)=> ns.length - i) (0) ?_ (weakS [] ?_ ?_ rfl rfl) ?_
 rotate_left
 ·simp -implicitDefEqProofs only [go_sem,Z1,Z2,Z3,Z4]
 ·simp -implicitDefEqProofs only [go_sem,Z1,Z2,Z3,Z4]
 rotate_left
 ·simp
 ·rintro i ⟨hi,hg⟩
  rcases Classical.em (i < ns.length) with h1 | h1
  ·rw [List.drop_eq_getElem_cons h1,orI] at hg
   simp -implicitDefEqProofs only [go_sem,Z1,Z2,Z3,Z4,h1]
   rcases Classical.em (ns[i] = 0) with h2 | h2
   ·rw [if_pos h2] at hg
    have k2:=eq_true h2
    simp -implicitDefEqProofs only [go_sem,Z1,Z2,Z3,Z4,k2]
    repeat (with_reducible apply And.intro; case left=>omega)
    refine ⟨i + 1,?_,?_,weakS [] ?_ ?_ rfl rfl⟩
    rotate_left
    ·show _ < _
     omega
    ·simp -implicitDefEqProofs only [go_sem,Z1,Z2,Z3,Z4]
    ·simp -implicitDefEqProofs only [go_sem,Z1,Z2,Z3,Z4]
    exact ⟨by omega,hg⟩
   ·rw [if_neg h2] at hg
    simp -implicitDefEqProofs only [go_sem,Z1,Z2,Z3,Z4,h2,h1]
    refine fin1' ?_
    simp -implicitDefEqProofs only [go_sem,Z1,Z2,Z3,Z4]
    all_goals (simp [hg]; done)
  ·rw [List.drop_of_length_le (by omega),orI] at hg
   simp -implicitDefEqProofs only [go_sem,Z1,Z2,Z3,Z4,h1]
   refine fin1' ?_
   simp -implicitDefEqProofs only [go_sem,Z1,Z2,Z3,Z4]
   all_goals (simp [hg]; done)
theorem c_impl_compareRats (a b:Mod.Rat):C E.P 179 [av (cRat a),av (cRat b)] [] (Eq2 (iv (cmpRat a b)) []):=by
 have hLB:=LB_eq
 refine C_goS (nt:=13) (rs:=[.tmp 4]) hm Tryz.func179 rfl rfl rfl rfl rfl (fun hl he=>?_)
 simp -implicitDefEqProofs only [go_sem,Z1,Z2,Z3,Z4] at hl ⊢
 refine atCall [] (c_impl_RatLess a b) ?_ ?_ <;> simp -implicitDefEqProofs only [go_sem,Z1,Z2,Z3,Z4]
 cases h1:ratLess a b
 ·simp -implicitDefEqProofs only [go_sem,Z1,Z2,Z3,Z4]
  refine atCall [] (c_impl_RatLess b a) ?_ ?_ <;> simp -implicitDefEqProofs only [go_sem,Z1,Z2,Z3,Z4]
  cases h2:ratLess b a
  ·simp -implicitDefEqProofs only [go_sem,Z1,Z2,Z3,Z4]
   refine fin1' ?_
   simp -implicitDefEqProofs only [go_sem,Z1,Z2,Z3,Z4]
   all_goals (simp [cmpRat,h1,h2]; done)
  ·simp -implicitDefEqProofs only [go_sem,Z1,Z2,Z3,Z4]
   refine fin1' ?_
   simp -implicitDefEqProofs only [go_sem,Z1,Z2,Z3,Z4]
   all_goals (simp [cmpRat,h1,h2]; done)
 ·simp -implicitDefEqProofs only [go_sem,Z1,Z2,Z3,Z4]
  refine fin1' ?_
  simp -implicitDefEqProofs only [go_sem,Z1,Z2,Z3,Z4]
  all_goals (simp [cmpRat,h1]; done)
theorem cmpRats_drop {xs ys:List Mod.Rat} {i:Nat} (h:i < xs.length) (h':i < ys.length):cmpRats (xs.drop i) (ys.drop i) = if cmpRat xs[i] ys[i] = 0 then cmpRats (xs.drop (i + 1)) (ys.drop (i + 1)) else cmpRat xs[i] ys[i]:=by
 rw [List.drop_eq_getElem_cons h,List.drop_eq_getElem_cons h',cmpRats]
theorem c_CompareFunc_Rat (a b:List Mod.Rat):C E.P 178 [lv (rowsRat a),lv (rowsRat b),.fn 179 []] [] (Eq2 (iv (cmpRats a b)) []):=by
 have hLB:=LB_eq
 refine C_goS (nt:=39) (rs:=[.tmp 6]) hm Tryz.func178 rfl rfl rfl rfl rfl (fun hl he=>?_)
 simp -implicitDefEqProofs only [go_sem,Z1,Z2,Z3,Z4] at hl ⊢
 refine loop_go1 hm (fun (i:Nat)=> i ≤ a.length ∧ i ≤ b.length ∧ cmpRats a b = cmpRats (a.drop i) (b.drop i)) (fun (i:Nat)=> ⟨mkS 39 .any [(0,lv (rowsRat a)),(1,lv (rowsRat b)),(2,.fn 179 []),(11,lv (rowsRat a)),(12,iv a.length),(13,iv i)],[]⟩) (fun (i:Nat)=> a.length - i) (0) ?_ (weakS [] ?_ ?_ rfl rfl) ?_
 rotate_left
 ·simp -implicitDefEqProofs only [go_sem,Z1,Z2,Z3,Z4]
 ·simp -implicitDefEqProofs only [go_sem,Z1,Z2,Z3,Z4]
 rotate_left
 ·simp
 ·rintro i ⟨hi,hi2,hg⟩
  rcases Classical.em (i < a.length) with h1 | h1
  ·rcases Classical.em ((b.length:Int) ≤ (i:Int)) with h2 | h2
   ·have e:i = b.length:=by omega
    rw [List.drop_eq_getElem_cons h1,List.drop_of_length_le (l:=b) (by omega),cmpRats] at hg
    simp -implicitDefEqProofs only [go_sem,Z1,Z2,Z3,Z4,h1,h2]
    refine fin1' ?_
    simp -implicitDefEqProofs only [go_sem,Z1,Z2,Z3,Z4]
    all_goals (simp [hg]; done)
   ·have h3:i < b.length:=by omega
    rw [cmpRats_drop h1 h3] at hg
    simp -implicitDefEqProofs only [go_sem,Z1,Z2,Z3,Z4,h1,h2,h3]
    refine atCall [] (c_impl_compareRats a[i] b[i]) ?_ ?_ <;> simp -implicitDefEqProofs only [go_sem,Z1,Z2,Z3,Z4]
    rcases Classical.em (cmpRat a[i] b[i] = 0) with h4 | h4
    ·rw [if_pos h4] at hg
     have k4:=eq_true h4
     simp -implicitDefEqProofs only [go_sem,Z1,Z2,Z3,Z4,k4]
     repeat (with_reducible apply And.intro; case left=>omega)
     refine ⟨i + 1,?_,?_,weakS [] ?_ ?_ rfl rfl⟩
     rotate_left
     ·show _ < _
      omega
     ·simp -implicitDefEqProofs only [go_sem,Z1,Z2,Z3,Z4]
     ·simp -implicitDefEqProofs only [go_sem,Z1,Z2,Z3,Z4]
     exact ⟨by omega,by omega,hg⟩
    ·rw [if_neg h4] at hg
     simp -implicitDefEqProofs only [go_sem,Z1,Z2,Z3,Z4,h4]
     refine fin1' ?_
     simp -implicitDefEqProofs only [go_sem,Z1,Z2,Z3,Z4]
     all_goals (simp [hg]; done)
  ·rw [List.drop_of_length_le (l:=a) (by omega)] at hg
   rcases Classical.em ((a.length:Int) < (b.length:Int)) with h2 | h2
   ·have h3:i < b.length:=by omega
    rw [List.drop_eq_getElem_cons h3,cmpRats] at hg
    simp -implicitDefEqProofs only [go_sem,Z1,Z2,Z3,Z4,h1,h2]
    refine fin1' ?_
    simp -implicitDefEqProofs only [go_sem,Z1,Z2,Z3,Z4]
    all_goals (simp [hg]; done)
   ·rw [List.drop_of_length_le (l:=b) (by omega),cmpRats] at hg
    simp -implicitDefEqProofs only [go_sem,Z1,Z2,Z3,Z4,h1,h2]
    refine fin1' ?_
    simp -implicitDefEqProofs only [go_sem,Z1,Z2,Z3,Z4]
    all_goals (simp [hg]; done)
theorem orI_row (a b:Mod.Row):orI [cmpStr a.name b.name,cmpInt a.args.length b.args.length,cmpRats a.args b.args] = cmpRow a b:=by
 simp only [orI,cmpRow]
 rcases Classical.em (cmpStr a.name b.name = 0) with h1 | h1
 ·rcases Classical.em (cmpInt a.args.length b.args.length = 0) with h2 | h2
  ·by_cases h3:cmpRats a.args b.args = 0 <;> simp [h1,h2,h3]
  ·simp [h1,h2]
 ·simp [h1]
theorem c_impl_compareRows (a b:Mod.Row):C E.P 116 [av (cRow a),av (cRow b)] [] (Eq2 (iv (cmpRow a b)) []):=by
 have hLB:=LB_eq
 refine C_goS (nt:=24) (rs:=[.tmp 4]) hm Tryz.func116 rfl rfl rfl rfl rfl (fun hl he=>?_)
 simp -implicitDefEqProofs only [go_sem,Z1,Z2,Z3,Z4] at hl ⊢
 refine atCall [] (c_cmp_Compare_string a.name b.name) ?_ ?_ <;> simp -implicitDefEqProofs only [go_sem,Z1,Z2,Z3,Z4]
 refine atCall [] (c_cmp_Compare_int a.args.length b.args.length) ?_ ?_ <;> simp -implicitDefEqProofs only [go_sem,Z1,Z2,Z3,Z4]
 refine atCall [] (c_CompareFunc_Rat a.args b.args) ?_ ?_ <;> simp -implicitDefEqProofs only [go_sem,Z1,Z2,Z3,Z4]
 refine atLook [] [2] (c_cmp_Or [cmpStr a.name b.name,cmpInt a.args.length b.args.length,cmpRats a.args b.args]) rfl ?_ ?_ ?_
 ·(simp -implicitDefEqProofs only [go_sem,Z1,Z2,Z3,Z4]; repeat' (first | exact Vws.nil | apply Vws.cons | exact Vw.same (by first | rfl | simp -implicitDefEqProofs only [go_sem,Z1,Z2,Z3,Z4]) | exact Vw.acc rfl rfl | exact Vw.tre rfl rfl (by simp -implicitDefEqProofs only [go_sem,Z1,Z2,Z3,Z4]) | exact Vw.nil | apply Vw.agg | apply Vw.fn | refine Vw.box rfl rfl ?_))
 all_goals simp -implicitDefEqProofs only [go_sem,Z1,Z2,Z3,Z4]
 with_reducible refine ind_andM (by kernel_rfl) ?_
 refine fin1' ?_
 simp -implicitDefEqProofs only [go_sem,Z1,Z2,Z3,Z4]
 all_goals (simp [orI_row]; done)
theorem c_impl_Row_ok_1 (a:Mod.Rat):C E.P 229 [av (cRat a)] [] (Eq2 (bv (!ratOk a)) []):=by
 have hLB:=LB_eq
 refine C_goS (nt:=6) (rs:=[.tmp 2]) hm Tryz.func229 rfl rfl rfl rfl rfl (fun hl he=>?_)
 simp -implicitDefEqProofs only [go_sem,Z1,Z2,Z3,Z4] at hl ⊢
 refine atCall [] (c_impl_RatOk a) ?_ ?_ <;> simp -implicitDefEqProofs only [go_sem,Z1,Z2,Z3,Z4]
 refine fin1' ?_
 simp -implicitDefEqProofs only [go_sem,Z1,Z2,Z3,Z4]
theorem c_impl_Row_ok (x:Mod.Row):C E.P 174 [av (cRow x)] [] (Eq2 (bv (rowWf x)) []):=by
 have hLB:=LB_eq
 refine C_goS (nt:=23) (rs:=[.tmp 2]) hm Tryz.func174 rfl rfl rfl rfl rfl (fun hl he=>?_)
 simp -implicitDefEqProofs only [go_sem,Z1,Z2,Z3,Z4] at hl ⊢
 refine atCall [] (c_impl_NameOk x.name) ?_ ?_ <;> simp -implicitDefEqProofs only [go_sem,Z1,Z2,Z3,Z4]
 cases h1:nameOk x.name
 ·simp -implicitDefEqProofs only [go_sem,Z1,Z2,Z3,Z4]
  refine fin1' ?_
  simp -implicitDefEqProofs only [go_sem,Z1,Z2,Z3,Z4]
  all_goals (simp [rowWf,h1]; done)
 ·rcases Classical.em ((x.args.length:Int) ≤ 2) with h2 | h2
  ·have h2':x.args.length ≤ 2:=by omega
   simp -implicitDefEqProofs only [go_sem,Z1,Z2,Z3,Z4,h2]
   refine atCall [] (c_impl_RatOk x.val) ?_ ?_ <;> simp -implicitDefEqProofs only [go_sem,Z1,Z2,Z3,Z4]
   cases h3:ratOk x.val
   ·simp -implicitDefEqProofs only [go_sem,Z1,Z2,Z3,Z4]
    refine fin1' ?_
    simp -implicitDefEqProofs only [go_sem,Z1,Z2,Z3,Z4]
    all_goals (simp [rowWf,h1,h2',h3]; done)
   ·simp -implicitDefEqProofs only [go_sem,Z1,Z2,Z3,Z4]
    refine atCall [] (c_ContainsFunc_Rat 229 [] rfl (fun n=>!ratOk n) x.args (fun n _=>c_impl_Row_ok_1 n)) ?_ ?_ <;> simp -implicitDefEqProofs only [go_sem,Z1,Z2,Z3,Z4]
    refine fin1' ?_
    simp -implicitDefEqProofs only [go_sem,Z1,Z2,Z3,Z4]
    all_goals (simp [rowWf,h1,h2',h3,List.all_eq_not_any_not]; done)
  ·have h2':¬ x.args.length ≤ 2:=by omega
   simp -implicitDefEqProofs only [go_sem,Z1,Z2,Z3,Z4,h2]
   refine fin1' ?_
   simp -implicitDefEqProofs only [go_sem,Z1,Z2,Z3,Z4]
   all_goals (simp [rowWf,h1,h2']; done)
def prevRowI (l:List Mod.Row):Nat → Option Mod.Row
 | 0=>none
 | j + 1=>l[j]?
theorem c_impl_Model_ok (m:Mod.Model):C E.P 112 [av (cModel m)] [] (Eq2 (bv (modelWf m)) []):=by
 have hLB:=LB_eq
 refine C_goS (nt:=36) (rs:=[.tmp 2]) hm Tryz.func112 rfl rfl rfl rfl rfl (fun hl he=>?_)
 simp -implicitDefEqProofs only [go_sem,Z1,Z2,Z3,Z4] at hl ⊢
 rcases Classical.em ((40:Int) < (m.rows.length:Int)) with h0 | h0
 ·have h0':¬ m.rows.length ≤ 40:=by omega
  simp -implicitDefEqProofs only [go_sem,Z1,Z2,Z3,Z4,h0]
  refine fin1' ?_
  simp -implicitDefEqProofs only [go_sem,Z1,Z2,Z3,Z4]
  all_goals (simp [modelWf,h0']; done)
 ·have hmo:modelWf m = rowsGo none m.rows:=by
   have h0':m.rows.length ≤ 40:=by omega
   simp [modelWf,h0']
  simp -implicitDefEqProofs only [go_sem,Z1,Z2,Z3,Z4,h0]
  refine loop_go1 hm (fun (i:Nat)=> i ≤ m.rows.length ∧ rowsGo none m.rows = rowsGo (prevRowI m.rows i) (m.rows.drop i)) (fun (i:Nat)=> ⟨mkS 36 .any [(1,.ptr 0 0),(10,lv (rowsRow m.rows)),(11,iv m.rows.length),(12,iv i)],[some (.box (pvs (cModel m)))]⟩) (fun (i:Nat)=> m.rows.length - i) (0) ?_ (weakS [some 0] ?_ ?_ rfl rfl) ?_
  rotate_left
  ·simp -implicitDefEqProofs only [go_sem,Z1,Z2,Z3,Z4]
  ·simp -implicitDefEqProofs only [go_sem,Z1,Z2,Z3,Z4]
  rotate_left
  ·simp [prevRowI]
  ·rintro i ⟨hi,hg⟩
   rcases Classical.em (i < m.rows.length) with h1 | h1
   ·rw [List.drop_eq_getElem_cons h1] at hg
    simp only [rowsGo] at hg
    simp -implicitDefEqProofs only [go_sem,Z1,Z2,Z3,Z4,h1]
    refine atCall [] (c_impl_Row_ok m.rows[i]) ?_ ?_ <;> simp -implicitDefEqProofs only [go_sem,Z1,Z2,Z3,Z4]
    cases h2:rowWf m.rows[i]
    ·have e:modelWf m = false:=by rw [hmo,hg,h2]; simp
     simp -implicitDefEqProofs only [go_sem,Z1,Z2,Z3,Z4]
     with_reducible refine ind_andM (by kernel_rfl) ?_
     refine fin1' ?_
     simp -implicitDefEqProofs only [go_sem,Z1,Z2,Z3,Z4]
     all_goals (simp [e]; done)
    ·rw [h2,Bool.true_and] at hg
     cases i with
     | zero=>
       simp only [prevRowI,Bool.true_and] at hg
       simp -implicitDefEqProofs only [go_sem,Z1,Z2,Z3,Z4,Int.lt_irrefl]
       with_reducible refine ind_andM (by kernel_rfl) ?_
       repeat (with_reducible apply And.intro; case left=>omega)
       refine ⟨0 + 1,?_,?_,weakS [some 0] ?_ ?_ rfl rfl⟩
       rotate_left
       ·show _ < _
        omega
       ·simp -implicitDefEqProofs only [go_sem,Z1,Z2,Z3,Z4]
        all_goals (simp [wks_rfl, *]; done)
       ·simp -implicitDefEqProofs only [go_sem,Z1,Z2,Z3,Z4]
       refine ⟨by omega,?_⟩
       rw [hg]
       simp [prevRowI,h1]
     | succ j=>
       have hj:j < m.rows.length:=by omega
       have e1:((j:Int) + 1 - 1) = (j:Int):=by omega
       have e2:(0:Int) < (j:Int) + 1:=by omega
       have et:((j:Int) + 1).toNat = j + 1:=by omega
       have e3:prevRowI m.rows (j + 1) = some m.rows[j]:=by simp [prevRowI,hj]
       rw [e3] at hg
       simp only at hg
       simp -implicitDefEqProofs only [go_sem,Z1,Z2,Z3,Z4,e1,e2,et,hj,h1]
       repeat (with_reducible apply And.intro; case left=>omega)
       refine atCall [] (c_impl_compareRows m.rows[j] m.rows[j + 1]) ?_ ?_ <;> simp -implicitDefEqProofs only [go_sem,Z1,Z2,Z3,Z4]
       with_reducible refine ind_andM (by kernel_rfl) ?_
       rcases Classical.em (0 ≤ cmpRow m.rows[j] m.rows[j + 1]) with q4 | q4
       ·have q5:¬ cmpRow m.rows[j] m.rows[j + 1] < 0:=by omega
        have e:modelWf m = false:=by rw [hmo,hg]; simp [q5]
        simp -implicitDefEqProofs only [go_sem,Z1,Z2,Z3,Z4,q4]
        refine fin1' ?_
        simp -implicitDefEqProofs only [go_sem,Z1,Z2,Z3,Z4]
        all_goals (simp [e]; done)
       ·have q5:cmpRow m.rows[j] m.rows[j + 1] < 0:=by omega
        simp -implicitDefEqProofs only [go_sem,Z1,Z2,Z3,Z4,q4]
        repeat (with_reducible apply And.intro; case left=>omega)
        refine ⟨j + 1 + 1,?_,?_,weakS [some 0] ?_ ?_ rfl rfl⟩
        rotate_left
        ·show _ < _
         omega
        ·simp -implicitDefEqProofs only [go_sem,Z1,Z2,Z3,Z4]
        ·simp -implicitDefEqProofs only [go_sem,Z1,Z2,Z3,Z4]
        refine ⟨by omega,?_⟩
        rw [hg]
        simp [prevRowI,h1,q5]
   ·rw [List.drop_of_length_le (by omega)] at hg
    simp only [rowsGo] at hg
    simp -implicitDefEqProofs only [go_sem,Z1,Z2,Z3,Z4,h1]
    refine fin1' ?_
    simp -implicitDefEqProofs only [go_sem,Z1,Z2,Z3,Z4]
    all_goals (simp [hmo,hg]; done)
end Go.Proofs.YtpidddienjoleaaGreat
