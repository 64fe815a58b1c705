/-
  The walks of literals: their terms, equations and sums. A step towards the exact laws. The walks of certificates: the numbers among the terms (slices.DeleteFunc). A step towards the exact laws.
-/
import Derived.Test.YtdikjlldidjioaaGreatKAH
import Derived.Test.YtdikjlldidjioaaGreatKAL
import Derived.Test.YtdikjlldidjioaaGreatKAE
import Derived.Test.YtdikjlldidjioaaGreatKAD
import Derived.Test.YtdikjlldidjioaaGreatKAI
set_option linter.unusedVariables false
set_option linter.unusedSimpArgs false
namespace Go.Proofs.YtdikjlldidjioaaGreat
open Go.Eng Go.Mod
open Int renaming reduceEq → Z1,reduceLT → Z2,reduceLE → Z3,reduceToNat → Z4
set_option maxRecDepth 100000
set_option maxHeartbeats 400000
theorem c_impl_TermParts_own (xs:List Term) (hx:xs.length ≤ 1000) (hall:∀ t ∈ xs,isTerm t = true):C E.P 115 [lv (rowsT xs)] [] (Eq2 (.acc 0) [some (.acc 43 (rowsT (termParts xs)))]):=by
 have hLB:=LB_eq
 refine C_goS (nt:=20) (rs:=[.tmp 2]) hm Tryz.func115 rfl rfl rfl rfl rfl (fun hl he=>?_)
 simp -implicitDefEqProofs only [go_sem] at hl ⊢
 refine loop_go2 hm (fun (i:Nat) (out:List Term)=> i ≤ xs.length ∧ termParts xs = partsGo (xs.drop i) out ∧ out.length ≤ 15 * i) (fun (i:Nat) (out:List Term)=> ⟨mkS 20 .any [(3,.acc 0),(6,lv (rowsT xs)),(7,iv xs.length),(8,iv i)],[some (.acc 43 (rowsT out))]⟩) (fun (i:Nat) (out:List Term)=> xs.length - i) (0) ([]) ?_ (weakS [none] ?_ ?_ rfl rfl) ?_
 rotate_left
 ·simp -implicitDefEqProofs only [go_sem]
 ·simp -implicitDefEqProofs only [go_sem]
 rotate_left
 ·simp [termParts]
 ·rintro i out ⟨hi,hg,ho⟩
  rcases Classical.em (i < xs.length) with h1 | h1
  ·have h2:=hall xs[i] (List.getElem_mem h1)
   rw [partsGo_step h1 h2] at hg
   have hs:=isTerm_tShape h2
   have hle:=withParts_le (l:=out) hs (by omega)
   simp -implicitDefEqProofs only [go_sem,h1]
   refine atCall [] (c_impl_isTerm xs[i]) ?_ ?_ <;> simp -implicitDefEqProofs only [go_sem]
   simp -implicitDefEqProofs only [go_sem,h2]
   refine atOwn [] [0,2] (c_impl_withParts xs[i] 4 out (by omega) hs (by omega)) ?_ ?_ <;> simp -implicitDefEqProofs only [go_sem]
   repeat (with_reducible apply And.intro; case left=>omega)
   refine ⟨i + 1,withParts out xs[i],?_,?_,weakS [some 2] ?_ ?_ rfl rfl⟩
   rotate_left
   ·show _ < _
    omega
   ·simp -implicitDefEqProofs only [go_sem]
   ·simp -implicitDefEqProofs only [go_sem]
   exact ⟨by omega,hg,by omega⟩
  ·rw [List.drop_of_length_le (by omega),partsGo] at hg
   simp -implicitDefEqProofs only [go_sem,h1]
   refine finM' [some 0] ?_ rfl rfl
   simp -implicitDefEqProofs only [go_sem]
   rw [hg]
theorem c_impl_termsOf (lits:List LitD) (hl1:lits.length ≤ 100) (hw:∀ l ∈ lits,atomWf l.atom = true):C E.P 84 [lv (rowsLit lits)] [] (Eq2 (.acc 0) [some (.acc 43 (rowsT (termsOf lits)))]):=by
 obtain ⟨hle,hok⟩:=allTerms_ok hw
 have hLB:=LB_eq
 refine C_goS (nt:=20) (rs:=[.tmp 2]) hm Tryz.func84 rfl rfl rfl rfl rfl (fun hl he=>?_)
 simp -implicitDefEqProofs only [go_sem] at hl ⊢
 refine loop_go1 hm (fun (i:Nat)=> i ≤ lits.length) (fun (i:Nat)=> ⟨mkS 20 .any [(3,.acc 0),(6,lv (rowsLit lits)),(7,iv lits.length),(8,iv i)],[some (.acc 43 (rowsT (allTerms (lits.take i))))]⟩) (fun (i:Nat)=> lits.length - i) (0) ?_ (weakS [none] ?_ ?_ rfl rfl) ?_
 rotate_left
 ·simp -implicitDefEqProofs only [go_sem]
 ·simp -implicitDefEqProofs only [go_sem]
  all_goals (rfl)
 rotate_left
 ·omega
 ·rintro i hi
  rcases Classical.em (i < lits.length) with h1 | h1
  ·have h2:=allTerms_ok (lits:=lits.take i) fun l hl=>hw l (List.mem_of_mem_take hl)
   have h3:=atomTerms_ok (hw lits[i] (List.getElem_mem h1))
   have h4:(lits.take i).length ≤ 100:=by simp; omega
   simp -implicitDefEqProofs only [go_sem,h1]
   refine atCall [] (c_impl_Atom_terms lits[i].atom) ?_ ?_ <;> simp -implicitDefEqProofs only [go_sem]
   repeat (with_reducible apply And.intro; case left=>first | omega | exact ⟨rowsT_all _,by omega⟩)
   refine ⟨i + 1,?_,?_,weakS [some 2] ?_ ?_ rfl rfl⟩
   rotate_left
   ·show _ < _
    omega
   ·simp -implicitDefEqProofs only [go_sem]
   ·simp -implicitDefEqProofs only [go_sem]
    all_goals ((rw [allTerms_snoc h1,← rowsT_app]))
   exact h1
  ·have e:lits.take i = lits:=List.take_of_length_le (by omega)
   simp -implicitDefEqProofs only [go_sem,h1,e]
   refine atOwn [] [0,1] (C_eat1 (e:=43) (rest:=[]) rfl (c_impl_TermParts_own (allTerms lits) (by omega) hok)) ?_ ?_ <;> simp -implicitDefEqProofs only [go_sem]
   refine finM' [some 1] ?_ rfl rfl
   simp -implicitDefEqProofs only [go_sem]
   rfl
end Go.Proofs.YtdikjlldidjioaaGreat
namespace Go.Proofs.YtdikjlldidjioaaGreat
open Go.Eng Go.Mod
open Int renaming reduceEq → Z1,reduceLT → Z2,reduceLE → Z3,reduceToNat → Z4
set_option maxRecDepth 100000
set_option maxHeartbeats 400000
theorem c_impl_numsOf_1 (s:Sig) (t:Term):C E.P 117 [av (cT t),.iptr [cSig s] 0 0] [] (Eq2 (bv (!isNumber s t)) []):=by
 have hLB:=LB_eq
 refine C_goS (nt:=8) (rs:=[.tmp 3]) hm Tryz.func117 rfl rfl rfl rfl rfl (fun hl he=>?_)
 simp -implicitDefEqProofs only [go_sem] at hl ⊢
 refine atCall [] (c_impl_isNumber s t) ?_ ?_ <;> simp -implicitDefEqProofs only [go_sem]
 refine fin1' ?_
 simp -implicitDefEqProofs only [go_sem]
theorem rowsT_put {a:List Term} {i:Nat} (h:i < a.length) (v:Term):(rowsT a).set i (spl (row (rowsT a) i) 0 (cT v)) = rowsT (a.set i v):=by
 have e:spl (row (rowsT a) i) 0 (cT v) = cT v:=by
  rw [rowsT_row h]
  simp [spl,cT]
 rw [e,rowsT_map,rowsT_map,List.map_set]
theorem idxGo_take {p:Term → Bool}:∀ {xs:List Term} {i:Int},0 ≤ i → (idxGo p xs i = -1 ∧ xs.filter (fun t=>!p t) = xs) ∨ ∃ j:Nat,idxGo p xs i = i + j ∧ j < xs.length ∧ (xs.take (j + 1)).filter (fun t=>!p t) = xs.take j
 | [],i,_=>.inl (by simp [idxGo])
 | x :: xs,i,h=>by
   simp only [idxGo]
   cases hx:p x with
   | true=>
     refine .inr ⟨0,?_,by simp,by simp [hx]⟩
     simp
   | false=>
     simp only [Bool.false_eq_true,if_false]
     rcases idxGo_take (p:=p) (xs:=xs) (i:=i + 1) (by omega) with ⟨h1,h2⟩ | ⟨j,h1,h2,h3⟩
     ·exact .inl ⟨h1,by simp [hx,h2]⟩
     ·refine .inr ⟨j + 1,by rw [h1]; omega,by simp; omega,?_⟩
      rw [List.take_succ_cons,List.filter_cons,List.take_succ_cons,h3]
      simp [hx]
theorem c_DeleteFunc_nums (s:Sig) (xs:List Term) (hl1:xs.length ≤ 10000):C E.P 116 [.acc 0,.fn 117 [.ptr 1 0]] [some (.acc 43 (rowsT xs)),some (.box (pvs (cSig s)))] (Eq2 (lv (rowsT (xs.filter (isNumber s)))) [some .dead,some (.box (pvs (cSig s)))]):=by
 have hLB:LB = 1099511627776:=rfl
 refine C_goW (nt:=42) (rs:=[.tmp 4]) Tryz.func116 rfl rfl rfl rfl rfl (fun hl he=>?_)
 simp -implicitDefEqProofs only [go_sem] at hl he ⊢
 refine W_seq (W_of hm ?_)
 simp -implicitDefEqProofs only [go_sem,onQ_on,thenQ_n]
 refine W_seq (W_of hm ?_)
 simp -implicitDefEqProofs only [go_sem]
 refine atLook [] [0,1] (c_IndexFunc_Term 117 [.iptr [cSig s] 0 0] rfl (fun t=>!isNumber s t) xs (fun t _=>c_impl_numsOf_1 s t)) rfl ?_ ?_ ?_
 ·(simp -implicitDefEqProofs only [go_sem]; repeat' (first | exact Vws.nil | apply Vws.cons | exact Vw.same (by first | rfl | simp -implicitDefEqProofs only [go_sem,Z1,Z2,Z3,Z4]) | exact Vw.acc rfl rfl | exact Vw.tre rfl rfl (by simp -implicitDefEqProofs only [go_sem,Z1,Z2,Z3,Z4]) | exact Vw.nil | apply Vw.agg | apply Vw.fn | refine Vw.box rfl rfl ?_))
 all_goals simp -implicitDefEqProofs only [go_sem]
 simp -implicitDefEqProofs only [go_sem,onQ_on,thenQ_n]
 rcases idxGo_take (p:=fun t=>!isNumber s t) (xs:=xs) (i:=0) (by omega) with ⟨h1,h2⟩ | ⟨j0,h1,h2,h3⟩
 ·have e:idxOf (fun t=>!isNumber s t) xs = -1:=h1
  rw [e]
  refine W_seq (W_of hm ?_)
  simp -implicitDefEqProofs only [go_sem,onQ_on,thenQ_r]
  refine ⟨_,weak_give 4 0 43 (rowsT xs) rfl rfl,?_⟩
  have e2:xs.filter (isNumber s) = xs:=by simpa using h2
  rw [e2]
  refine finM' [some 0,some 1] ?_ rfl rfl
  simp -implicitDefEqProofs only [go_sem]
  all_goals simp
 ·have e:idxOf (fun t=>!isNumber s t) xs = (j0:Int):=by rw [idxOf,h1]; omega
  rw [e]
  have n1:¬ (j0:Int) = -1:=by omega
  refine W_seq (W_of hm ?_)
  simp -implicitDefEqProofs only [go_sem,onQ_on,thenQ_n,n1]
  refine W_seq (W_of hm ?_)
  simp -implicitDefEqProofs only [go_sem]
  repeat (with_reducible apply And.intro; case left=>omega)
  refine loop_go3 hm (fun (i:Nat) (j:Nat) (a:List Term)=> i ≤ j ∧ j ≤ xs.length ∧ a.length = xs.length ∧ a.take i = (xs.take j).filter (isNumber s) ∧ a.drop j = xs.drop j) (fun (i:Nat) (j:Nat) (a:List Term)=> ⟨mkS 42 .any [(0,.acc 0),(1,.fn 117 [.ptr 1 0]),(5,iv i),(6,iv j)],[some (.acc 43 (rowsT a)),some (.box (pvs (cSig s)))]⟩) (fun (i:Nat) (j:Nat) (a:List Term)=> xs.length - j) (j0) (j0 + 1) (xs) ?_ (weakS [some 0,some 1] ?_ ?_ rfl rfl) ?_
  rotate_left
  ·simp -implicitDefEqProofs only [go_sem]
  ·simp -implicitDefEqProofs only [go_sem]
  rotate_left
  ·exact ⟨by omega,by omega,rfl,by simpa using h3.symm,rfl⟩
  ·rintro i j a ⟨hij,hj,hal,ht,hd⟩
   rcases Classical.em (j < xs.length) with h1 | h1
   ·have h1a:j < a.length:=by omega
    have hia:i < a.length:=by omega
    have hx:a[j] = xs[j]:=by
     have h4:(a.drop j)[0]? = (xs.drop j)[0]?:=by rw [hd]
     simpa [h1,h1a] using h4
    have hf:(xs.take (j + 1)).filter (isNumber s) = (xs.take j).filter (isNumber s) ++ (if isNumber s xs[j] then [xs[j]] else []):=by
     rw [List.take_add_one,List.getElem?_eq_getElem h1,List.filter_append]
     congr 1
     simp [List.filter_cons]
    simp -implicitDefEqProofs only [go_sem,h1a]
    refine atLook [.ptr 1 0] [1] (c_impl_numsOf_1 s a[j]) rfl ?_ ?_ ?_
    ·(simp -implicitDefEqProofs only [go_sem]; repeat' (first | exact Vws.nil | apply Vws.cons | exact Vw.same (by first | rfl | simp -implicitDefEqProofs only [go_sem,Z1,Z2,Z3,Z4]) | exact Vw.acc rfl rfl | exact Vw.tre rfl rfl (by simp -implicitDefEqProofs only [go_sem,Z1,Z2,Z3,Z4]) | exact Vw.nil | apply Vw.agg | apply Vw.fn | refine Vw.box rfl rfl ?_))
    all_goals simp -implicitDefEqProofs only [go_sem]
    rw [hx]
    cases h4:isNumber s xs[j]
    ·rw [h4] at hf
     simp -implicitDefEqProofs only [go_sem]
     refine And.intro (by omega) ?_
     refine ⟨i,j + 1,a,?_,?_,weakS [some 0,some 1] ?_ ?_ rfl rfl⟩
     rotate_left
     ·show _ < _
      omega
     ·simp -implicitDefEqProofs only [go_sem]
     ·simp -implicitDefEqProofs only [go_sem]
     refine ⟨by omega,by omega,hal,by rw [hf,ht]; simp,?_⟩
     have h5:=congrArg (List.drop 1) hd
     simpa [List.drop_drop] using h5
    ·rw [h4] at hf
     simp -implicitDefEqProofs only [go_sem,hia]
     have hset:(rowsT a).set i (spl [D.str a[i].name,D.lst (rowsT a[i].kids)] 0 [D.str xs[j].name,D.lst (rowsT xs[j].kids)]) = rowsT (a.set i xs[j]):=by
      have h5:=rowsT_put hia xs[j]
      rw [rowsT_row hia] at h5
      exact h5
     refine And.intro (by omega) (And.intro (by omega) ?_)
     refine ⟨i + 1,j + 1,a.set i xs[j],?_,?_,weakS [some 0,some 1] ?_ ?_ rfl rfl⟩
     rotate_left
     ·show _ < _
      omega
     ·simp -implicitDefEqProofs only [go_sem]
     ·simp -implicitDefEqProofs only [go_sem]
      all_goals (exact hset)
     refine ⟨by omega,by omega,by simp [hal],?_,?_⟩
     ·rw [hf,← ht,List.take_add_one]
      simp [hia,List.take_set_of_le]
     ·have h5:=congrArg (List.drop 1) hd
      rw [List.drop_set_of_lt (by omega)]
      simpa [List.drop_drop] using h5
   ·simp -implicitDefEqProofs only [go_sem,h1,hal]
    simp only [onQ_on,thenQ_n]
    have hjn:j = xs.length:=by omega
    refine W_seq (W_region ?_)
    refine WO_cons (StG.plain rfl (st_move _)) (WO_cons (StG.plain rfl (st_move _)) ?_)
    simp -implicitDefEqProofs only [go_sem]
    refine WO_clr (t:=41) (e:=43) (k:=0) (m:=(i:Int)) (xs:=rowsT a) [.str [],.lst []] _ _ rfl rfl rfl rfl ?_ ?_ ?_ (by omega) (by rw [rowsT_len]; omega) ?_ ?_
    ·simp -implicitDefEqProofs only [go_sem]
    ·simp -implicitDefEqProofs only [go_sem]
    ·simp -implicitDefEqProofs only [go_sem]
    ·simp only [mkS_len]
     omega
    refine WO_nil ?_
    simp -implicitDefEqProofs only [go_sem,thenQ_n]
    refine W_of hm ?_
    simp -implicitDefEqProofs only [go_sem]
    refine atOp_by (st_head (.tmp 39) (.tmp 40) 41 43 0 _ _ (clr [.str [],.lst []] (rowsT a) i) (i:Int) rfl rfl rfl ?_ ?_ ?_ (by omega) (by rw [clr_len _ _ _ (by rw [rowsT_len]; omega),rowsT_len]; omega)) ?_
    ·simp -implicitDefEqProofs only [go_sem]
    ·simp -implicitDefEqProofs only [go_sem]
    ·simp -implicitDefEqProofs only [go_sem]
    simp -implicitDefEqProofs only [go_sem,onQ_on]
    refine FinW_of ?_
    refine finM' [some 0,some 1] ?_ rfl rfl
    simp -implicitDefEqProofs only [go_sem]
    rw [clr_take _ _ _ (by rw [rowsT_len]; omega),rowsT_take,ht,hjn,List.take_length]
theorem c_impl_numsOf (s:Sig) (lits:List LitD) (hl1:lits.length ≤ 100) (hw:∀ l ∈ lits,atomWf l.atom = true):C E.P 85 [av (cSig s),lv (rowsLit lits)] [] (Eq2 (lv (rowsT (numsOf s lits))) []):=by
 have hn:(termsOf lits).length ≤ 10000:=by
  obtain ⟨hle,hok⟩:=allTerms_ok hw
  have h1:=withPartss_len4 (allTerms lits) [] hok
  rw [termsOf_eq,termParts_all hok]
  simp only [List.length_nil] at h1
  omega
 have e:(termsOf lits).filter (isNumber s) = numsOf s lits:=rfl
 have hLB:=LB_eq
 refine C_goS (nt:=9) (rs:=[.tmp 4]) hm Tryz.func85 rfl rfl rfl rfl rfl (fun hl he=>?_)
 simp -implicitDefEqProofs only [go_sem] at hl ⊢
 refine atOwn [] [1] (c_impl_termsOf lits hl1 hw) ?_ ?_ <;> simp -implicitDefEqProofs only [go_sem]
 have hcall:=c_DeleteFunc_nums s (termsOf lits) hn
 rw [e] at hcall
 refine atOwn [] [1,0] hcall ?_ ?_
 ·simp -implicitDefEqProofs only [go_sem]
  rfl
 simp -implicitDefEqProofs only [go_sem]
 refine fin1' ?_
 simp -implicitDefEqProofs only [go_sem]
end Go.Proofs.YtdikjlldidjioaaGreat
