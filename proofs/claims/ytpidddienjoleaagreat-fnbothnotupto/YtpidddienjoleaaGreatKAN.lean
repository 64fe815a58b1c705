/-
  The walks of literals: their terms, equations and sums. A step towards the exact laws. The walks of certificates: the small functions. A step towards the exact laws. The walks of certificates: the numbers among the terms (slices.DeleteFunc). A step towards the exact laws.
-/
import Derived.Test.YtpidddienjoleaaGreatKAH
import Derived.Test.YtpidddienjoleaaGreatKAL
import Derived.Test.YtpidddienjoleaaGreatKAM
import Derived.Test.YtpidddienjoleaaGreatKAE
import Derived.Test.YtpidddienjoleaaGreatKAD
import Derived.Test.YtpidddienjoleaaGreatKAI
set_option linter.unusedVariables false
set_option linter.unusedSimpArgs false
namespace Go.Proofs.YtpidddienjoleaaGreat
open Go.Eng Go.Mod
open Int renaming reduceEq → Z1,reduceLT → Z2,reduceLE → Z3,reduceToNat → Z4
set_option maxRecDepth 100000
set_option maxHeartbeats 400000
theorem c_impl_TermParts_own (xs:List Term) (hx:xs.length ≤ 1000) (hall:∀ t ∈ xs,isTerm t = true):C E.P 85 [lv (rowsT xs)] [] (Eq2 (.acc 0) [some (.acc 35 (rowsT (termParts xs)))]):=by
 have hLB:=LB_eq
 refine C_goS (nt:=20) (rs:=[.tmp 2]) hm Tryz.func85 rfl rfl rfl rfl rfl (fun hl he=>?_)
 simp -implicitDefEqProofs only [go_sem] at hl ⊢
 refine loop_go2 hm (fun (i:Nat) (out:List Term)=> i ≤ xs.length ∧ termParts xs = partsGo (xs.drop i) out ∧ out.length ≤ 15 * i) (fun (i:Nat) (out:List Term)=> ⟨mkS 20 .any [(3,.acc 0),(6,lv (rowsT xs)),(7,iv xs.length),(8,iv i)],[some (.acc 35 (rowsT out))]⟩) (fun (i:Nat) (out:List Term)=> xs.length - i) (0) ([]) ?_ (weakS [none] ?_ ?_ rfl rfl) ?_
 rotate_left
 ·simp -implicitDefEqProofs only [go_sem]
 ·simp -implicitDefEqProofs only [go_sem]
 rotate_left
 ·simp [termParts]
 ·rintro i out ⟨hi,hg,ho⟩
  rcases Classical.em (i < xs.length) with h1 | h1
  ·have h2:=hall xs[i] (List.getElem_mem h1)
   rw [partsGo_step h1 h2] at hg
   have hs:=isTerm_tShape h2
   have hle:=withParts_le (l:=out) hs (by omega)
   simp -implicitDefEqProofs only [go_sem,h1]
   refine atCall [] (c_impl_isTerm xs[i]) ?_ ?_ <;> simp -implicitDefEqProofs only [go_sem]
   simp -implicitDefEqProofs only [go_sem,h2]
   refine atOwn [] [0,2] (c_impl_withParts xs[i] 4 out (by omega) hs (by omega)) ?_ ?_ <;> simp -implicitDefEqProofs only [go_sem]
   repeat (with_reducible apply And.intro; case left=>omega)
   refine ⟨i + 1,withParts out xs[i],?_,?_,weakS [some 2] ?_ ?_ rfl rfl⟩
   rotate_left
   ·show _ < _
    omega
   ·simp -implicitDefEqProofs only [go_sem]
   ·simp -implicitDefEqProofs only [go_sem]
   exact ⟨by omega,hg,by omega⟩
  ·rw [List.drop_of_length_le (by omega),partsGo] at hg
   simp -implicitDefEqProofs only [go_sem,h1]
   refine finM' [some 0] ?_ rfl rfl
   simp -implicitDefEqProofs only [go_sem]
   rw [hg]
theorem c_impl_termsOf (lits:List LitD) (hl1:lits.length ≤ 100) (hw:∀ l ∈ lits,atomWf l.atom = true):C E.P 38 [lv (rowsLit lits)] [] (Eq2 (.acc 0) [some (.acc 35 (rowsT (termsOf lits)))]):=by
 obtain ⟨hle,hok⟩:=allTerms_ok hw
 have hLB:=LB_eq
 refine C_goS (nt:=20) (rs:=[.tmp 2]) hm Tryz.func38 rfl rfl rfl rfl rfl (fun hl he=>?_)
 simp -implicitDefEqProofs only [go_sem] at hl ⊢
 refine loop_go1 hm (fun (i:Nat)=> i ≤ lits.length) (fun (i:Nat)=> ⟨mkS 20 .any [(3,.acc 0),(6,lv (rowsLit lits)),(7,iv lits.length),(8,iv i)],[some (.acc 35 (rowsT (allTerms (lits.take i))))]⟩) (fun (i:Nat)=> lits.length - i) (0) ?_ (weakS [none] ?_ ?_ rfl rfl) ?_
 rotate_left
 ·simp -implicitDefEqProofs only [go_sem]
 ·simp -implicitDefEqProofs only [go_sem]
  all_goals (rfl)
 rotate_left
 ·omega
 ·rintro i hi
  rcases Classical.em (i < lits.length) with h1 | h1
  ·have h2:=allTerms_ok (lits:=lits.take i) fun l hl=>hw l (List.mem_of_mem_take hl)
   have h3:=atomTerms_ok (hw lits[i] (List.getElem_mem h1))
   have h4:(lits.take i).length ≤ 100:=by simp; omega
   simp -implicitDefEqProofs only [go_sem,h1]
   refine atCall [] (c_impl_Atom_terms lits[i].atom) ?_ ?_ <;> simp -implicitDefEqProofs only [go_sem]
   repeat (with_reducible apply And.intro; case left=>first | omega | exact ⟨rowsT_all _,by omega⟩)
   refine ⟨i + 1,?_,?_,weakS [some 2] ?_ ?_ rfl rfl⟩
   rotate_left
   ·show _ < _
    omega
   ·simp -implicitDefEqProofs only [go_sem]
   ·simp -implicitDefEqProofs only [go_sem]
    all_goals ((rw [allTerms_snoc h1,← rowsT_app]))
   exact h1
  ·have e:lits.take i = lits:=List.take_of_length_le (by omega)
   simp -implicitDefEqProofs only [go_sem,h1,e]
   refine atOwn [] [0,1] (C_eat1 (e:=35) (rest:=[]) rfl (c_impl_TermParts_own (allTerms lits) (by omega) hok)) ?_ ?_ <;> simp -implicitDefEqProofs only [go_sem]
   refine finM' [some 1] ?_ rfl rfl
   simp -implicitDefEqProofs only [go_sem]
   rfl
theorem c_impl_eqsOf (lits:List LitD) (hl1:lits.length ≤ 100):C E.P 44 [lv (rowsLit lits)] [] (Eq2 (lv (rowsEq (eqsOf lits))) []):=by
 have hLB:=LB_eq
 refine C_goS (nt:=35) (rs:=[.tmp 2]) hm Tryz.func44 rfl rfl rfl rfl rfl (fun hl he=>?_)
 simp -implicitDefEqProofs only [go_sem] at hl ⊢
 refine loop_go1 hm (fun (i:Nat)=> i ≤ lits.length) (fun (i:Nat)=> ⟨mkS 35 .any [(3,.acc 0),(6,lv (rowsLit lits)),(7,iv lits.length),(8,iv i)],[some (.acc 55 (rowsEq (eqsOf (lits.take i))))]⟩) (fun (i:Nat)=> lits.length - i) (0) ?_ (weakS [none] ?_ ?_ rfl rfl) ?_
 rotate_left
 ·simp -implicitDefEqProofs only [go_sem]
 ·simp -implicitDefEqProofs only [go_sem]
  all_goals (rfl)
 rotate_left
 ·omega
 ·rintro i hi
  rcases Classical.em (i < lits.length) with h1 | h1
  ·have h2:=eqsOf_len (lits.take i)
   have h4:(lits.take i).length ≤ 100:=by simp; omega
   have hs:=eqsOf_snoc h1
   rcases Classical.em (lits[i].atom.kind = 1) with h5 | h5
   ·have k5:=eq_true h5
    cases h6:lits[i].no
    ·rw [if_pos ⟨h5,h6⟩] at hs
     simp -implicitDefEqProofs only [go_sem,h1,k5,h6]
     refine atCall [] (c_impl_Term_own lits[i].atom.A) ?_ ?_ <;> simp -implicitDefEqProofs only [go_sem]
     refine atCall [] (c_impl_Term_own lits[i].atom.B) ?_ ?_ <;> simp -implicitDefEqProofs only [go_sem]
     repeat (first | with_reducible refine ind_andM (by kernel_rfl) ?_ | (with_reducible apply And.intro; case left=>omega))
     refine ⟨i + 1,?_,?_,weakS [some 2] ?_ ?_ rfl rfl⟩
     rotate_left
     ·show _ < _
      omega
     ·simp -implicitDefEqProofs only [go_sem]
     ·simp -implicitDefEqProofs only [go_sem]
      all_goals ((rw [hs,← rowsEq_app,rowsEq_cons,rowsEq_nil]; rfl))
     exact h1
    ·rw [if_neg (by simp [h6]),List.append_nil] at hs
     simp -implicitDefEqProofs only [go_sem,h1,k5,h6]
     repeat (with_reducible apply And.intro; case left=>omega)
     refine ⟨i + 1,?_,?_,weakS [some 0] ?_ ?_ rfl rfl⟩
     rotate_left
     ·show _ < _
      omega
     ·simp -implicitDefEqProofs only [go_sem]
     ·simp -implicitDefEqProofs only [go_sem]
      all_goals ((rw [hs]))
     exact h1
   ·rw [if_neg (by simp [h5]),List.append_nil] at hs
    simp -implicitDefEqProofs only [go_sem,h1,h5]
    repeat (with_reducible apply And.intro; case left=>omega)
    refine ⟨i + 1,?_,?_,weakS [some 0] ?_ ?_ rfl rfl⟩
    rotate_left
    ·show _ < _
     omega
    ·simp -implicitDefEqProofs only [go_sem]
    ·simp -implicitDefEqProofs only [go_sem]
     all_goals ((rw [hs]))
    exact h1
  ·simp -implicitDefEqProofs only [go_sem,h1]
   refine fin1' ?_
   simp -implicitDefEqProofs only [go_sem]
   rw [List.take_of_length_le (by omega)]
theorem c_impl_linOf (nums ts:List Term) (ns:List Int) (b:Int) (st:Bool) (h4:nums.length ≤ 4) (hin:∀ t ∈ ts,t ∈ nums) (hn:ns.length = ts.length) (hb:∀ n ∈ ns,-50 ≤ n ∧ n ≤ 50) (hl4:ts.length ≤ 4) :
 C E.P 119 [lv (rowsT nums),lv (rowsT ts),lv (rowsI ns),iv b,bv st] [] (Eq2 (av (cLin (linOf nums ts ns b st))) []):=by
 have hLB:=LB_eq
 refine C_goS (nt:=40) (rs:=[.cell 10 66]) hm Tryz.func119 rfl rfl rfl rfl rfl (fun hl he=>?_)
 simp -implicitDefEqProofs only [go_sem,Z3,Z4] at hl ⊢
 repeat (with_reducible apply And.intro; case left=>omega)
 refine loop_go1 hm (fun (i:Nat)=> i ≤ ts.length) (fun (i:Nat)=> ⟨mkS 40 .any [(0,lv (rowsT nums)),(2,lv (rowsI ns)),(10,.ptr 0 0),(11,.ptr 1 0),(18,lv (rowsT ts)),(19,iv ts.length),(20,iv i)],[some (.box (pvs (cLin lin0))),some (.box [.acc 2,.d (.val (.int .i64 b)),.d (.val (.bool st))]),some (.acc 3 (rowsI (linGo nums (ts.take i) (ns.take i) [0,0,0,0])))]⟩) (fun (i:Nat)=> ts.length - i) (0) ?_ (weakS [some 0,some 2,some 1] ?_ ?_ rfl rfl) ?_
 rotate_left
 ·simp -implicitDefEqProofs only [go_sem]
 ·simp -implicitDefEqProofs only [go_sem]
  all_goals (simp [rowsI,List.replicate,linGo])
 rotate_left
 ·omega
 ·rintro i hi
  rcases Classical.em (i < ts.length) with h1 | h1
  ·have h2:i < ns.length:=by omega
   have hin:=hin ts[i] (List.getElem_mem h1)
   have x1:=termIdx_nn.2 hin
   have x2:=termIdx_lt hin
   have hL:(linGo nums (ts.take i) (ns.take i) [0,0,0,0]).length = 4:=linGo_len
   have x3:(termIdx nums ts[i]).toNat < (linGo nums (ts.take i) (ns.take i) [0,0,0,0]).length:=by omega
   have hB:=linGo_bound (nums:=nums) (ts:=ts.take i) (ns:=ns.take i) (cs:=[0,0,0,0]) (m:=0) (by simp) (fun n hn=>hb n (List.mem_of_mem_take hn)) (by omega) _ (List.getElem_mem x3)
   have hB2:((ts.take i).length:Int) ≤ 4:=by simp; omega
   have hB3:=hb ns[i] (List.getElem_mem h2)
   simp -implicitDefEqProofs only [go_sem,h1]
   refine atCall [] (c_impl_termIndex nums ts[i]) ?_ ?_ <;> simp -implicitDefEqProofs only [go_sem,x3,h2]
   repeat (first | with_reducible refine ind_andM (by kernel_rfl) ?_ | (with_reducible apply And.intro; case left=>omega))
   refine ⟨i + 1,?_,?_,weakS [some 0,some 1,some 2] ?_ ?_ rfl rfl⟩
   rotate_left
   ·show _ < _
    omega
   ·simp -implicitDefEqProofs only [go_sem]
   ·simp -implicitDefEqProofs only [go_sem]
    all_goals ((rw [linGo_snoc h1 h2,addAt_set _ x1,← rowsI_set x3,getD_lt x3]; simp [spl]))
   exact h1
  ·have e1:ts.take i = ts:=List.take_of_length_le (by omega)
   have e2:ns.take i = ns:=List.take_of_length_le (by omega)
   simp -implicitDefEqProofs only [go_sem,h1,e1,e2]
   refine fin1' ?_
   simp -implicitDefEqProofs only [go_sem]
   all_goals (simp [linOf]; done)
theorem c_impl_linsOf (nums:List Term) (lits:List LitD) (h4:nums.length ≤ 4) (hl1:lits.length ≤ 100) (hf:∀ l ∈ lits,Fit nums l):C E.P 52 [lv (rowsT nums),lv (rowsLit lits)] [] (Eq2 (lv (rowsLin (linsOf nums lits))) []):=by
 have hLB:=LB_eq
 refine C_goS (nt:=70) (rs:=[.tmp 4]) hm Tryz.func52 rfl rfl rfl rfl rfl (fun hl he=>?_)
 simp -implicitDefEqProofs only [go_sem] at hl ⊢
 refine loop_go1 hm (fun (i:Nat)=> i ≤ lits.length) (fun (i:Nat)=> ⟨mkS 70 .any [(0,lv (rowsT nums)),(5,.acc 0),(11,lv (rowsLit lits)),(12,iv lits.length),(13,iv i)],[some (.acc 66 (rowsLin (linsOf nums (lits.take i))))]⟩) (fun (i:Nat)=> lits.length - i) (0) ?_ (weakS [none] ?_ ?_ rfl rfl) ?_
 rotate_left
 ·simp -implicitDefEqProofs only [go_sem]
 ·simp -implicitDefEqProofs only [go_sem]
  all_goals (rfl)
 rotate_left
 ·omega
 ·rintro i hi
  rcases Classical.em (i < lits.length) with h1 | h1
  ·have h2:=linsOf_len nums (lits.take i)
   have h3:(lits.take i).length ≤ 100:=by simp; omega
   have hs:=linsOf_snoc (nums:=nums) h1
   have hF:=hf lits[i] (List.getElem_mem h1)
   rcases Classical.em (lits[i].atom.kind = 2) with k2 | k2
   ·have k:=eq_true k2
    have hw:=atomWf_sum hF.wf k2
    have hc:=c_impl_linOf nums lits[i].atom.nums lits[i].atom.times lits[i].atom.bound lits[i].atom.strict h4 (hF.sum k2) hw.2.2.2.1 (numsGo_mem hw.2.2.2.2.2 hw.2.2.2.1).2 hw.2.2.1
    simp -implicitDefEqProofs only [go_sem,h1,k]
    refine atCall [] hc ?_ ?_ <;> simp -implicitDefEqProofs only [go_sem]
    cases h6:lits[i].no
    ·rw [litLins,if_pos k2,h6] at hs
     simp only [Bool.false_eq_true,if_false] at hs
     simp -implicitDefEqProofs only [go_sem]
     repeat (with_reducible apply And.intro; case left=>omega)
     refine ⟨i + 1,?_,?_,weakS [some 4] ?_ ?_ rfl rfl⟩
     rotate_left
     ·show _ < _
      omega
     ·simp -implicitDefEqProofs only [go_sem]
     ·simp -implicitDefEqProofs only [go_sem]
      all_goals ((rw [hs,← rowsLin_app,rowsLin_cons,rowsLin_nil]; rfl))
     exact h1
    ·rw [litLins,if_pos k2,h6] at hs
     simp only [if_true] at hs
     simp -implicitDefEqProofs only [go_sem]
     refine atCall [] (c_impl_LinNot (linOf nums lits[i].atom.nums lits[i].atom.times lits[i].atom.bound lits[i].atom.strict)) ?_ ?_ <;> simp -implicitDefEqProofs only [go_sem]
     repeat (with_reducible apply And.intro; case left=>omega)
     refine ⟨i + 1,?_,?_,weakS [some 4] ?_ ?_ rfl rfl⟩
     rotate_left
     ·show _ < _
      omega
     ·simp -implicitDefEqProofs only [go_sem]
     ·simp -implicitDefEqProofs only [go_sem]
      all_goals ((rw [hs,← rowsLin_app,rowsLin_cons,rowsLin_nil]; rfl))
     exact h1
   ·have k1:lits[i].atom.kind = 1:=(atomWf_kind hF.wf).resolve_right k2
    cases h6:lits[i].no
    ·simp -implicitDefEqProofs only [go_sem,h1,k2,h6]
     refine atCall [] (c_impl_termIndex nums lits[i].atom.A) ?_ ?_ <;> simp -implicitDefEqProofs only [go_sem]
     rcases Classical.em (0 ≤ termIdx nums lits[i].atom.A) with h7 | h7
     ·rw [litLins,if_neg k2,if_pos ⟨h6,h7⟩] at hs
      have hA:=termIdx_nn.1 h7
      have hB:=(hF.eq k1).1 hA
      have hm:∀ t ∈ [lits[i].atom.A,lits[i].atom.B],t ∈ nums:=by
       intro t ht
       simp only [List.mem_cons,List.not_mem_nil,or_false] at ht
       rcases ht with rfl | rfl
       ·exact hA
       ·exact hB
      have c1:=c_impl_linOf nums [lits[i].atom.A,lits[i].atom.B] [1,-1] 0 false h4 hm rfl (by intro n hn; simp at hn; omega) (by simp)
      have c2:=c_impl_linOf nums [lits[i].atom.A,lits[i].atom.B] [-1,1] 0 false h4 hm rfl (by intro n hn; simp at hn; omega) (by simp)
      clear hm
      simp -implicitDefEqProofs only [go_sem,h7]
      refine atCall [] c1 ?_ ?_ <;> simp -implicitDefEqProofs only [go_sem,rowsT_cons,rowsI_cons]
      refine atCall [] c2 ?_ ?_ <;> simp -implicitDefEqProofs only [go_sem,rowsT_cons,rowsI_cons]
      repeat (with_reducible apply And.intro; case left=>first | omega | (simp; omega))
      refine ⟨i + 1,?_,?_,weakS [some 3] ?_ ?_ rfl rfl⟩
      rotate_left
      ·show _ < _
       omega
      ·simp -implicitDefEqProofs only [go_sem]
      ·simp -implicitDefEqProofs only [go_sem]
       all_goals ((rw [hs,← rowsLin_app,rowsLin_cons,rowsLin_cons,rowsLin_nil]; rfl))
      exact h1
     ·rw [litLins,if_neg k2,if_neg (by simp [h6,h7]),List.append_nil] at hs
      simp -implicitDefEqProofs only [go_sem,h7]
      repeat (with_reducible apply And.intro; case left=>omega)
      refine ⟨i + 1,?_,?_,weakS [some 0] ?_ ?_ rfl rfl⟩
      rotate_left
      ·show _ < _
       omega
      ·simp -implicitDefEqProofs only [go_sem]
      ·simp -implicitDefEqProofs only [go_sem]
       all_goals ((rw [hs]))
      exact h1
    ·rw [litLins,if_neg k2,if_neg (by simp [h6]),List.append_nil] at hs
     simp -implicitDefEqProofs only [go_sem,h1,k2,h6]
     repeat (with_reducible apply And.intro; case left=>omega)
     refine ⟨i + 1,?_,?_,weakS [some 0] ?_ ?_ rfl rfl⟩
     rotate_left
     ·show _ < _
      omega
     ·simp -implicitDefEqProofs only [go_sem]
     ·simp -implicitDefEqProofs only [go_sem]
      all_goals ((rw [hs]))
     exact h1
  ·simp -implicitDefEqProofs only [go_sem,h1]
   refine fin1' ?_
   simp -implicitDefEqProofs only [go_sem]
   rw [List.take_of_length_le (by omega)]
theorem c_impl_eqLit (a b:Term):C E.P 98 [av (cT a),av (cT b)] [] (Eq2 (av (cLit (eqLit a b))) []):=by
 have hLB:=LB_eq
 refine C_goS (nt:=9) (rs:=[.cell 4 48]) hm Tryz.func98 rfl rfl rfl rfl rfl (fun hl he=>?_)
 simp -implicitDefEqProofs only [go_sem] at hl ⊢
 refine fin1' ?_
 simp -implicitDefEqProofs only [go_sem]
 all_goals (simp [eqLit,eqAtom]; done)
theorem c_impl_lessLit (a b:Term) (ha:isTerm a = true) (hb:isTerm b = true):C E.P 166 [av (cT a),av (cT b)] [] (Eq2 (av (cLit (lessLit a b))) []):=by
 have hLB:=LB_eq
 refine C_goS (nt:=24) (rs:=[.cell 4 48]) hm Tryz.func166 rfl rfl rfl rfl rfl (fun hl he=>?_)
 simp -implicitDefEqProofs only [go_sem] at hl ⊢
 refine atCall [] (c_impl_termText' a ha) ?_ ?_ <;> simp -implicitDefEqProofs only [go_sem]
 refine atCall [] (c_impl_termText' b hb) ?_ ?_ <;> simp -implicitDefEqProofs only [go_sem,less_gt]
 with_reducible refine ind_andM (by kernel_rfl) ?_
 cases q:sLess (termText b) (termText a)
 ·have h5:Op.bytesLess (termText b) (termText a) = false:=q
  simp -implicitDefEqProofs only [go_sem,h5]
  refine fin1' ?_
  simp -implicitDefEqProofs only [go_sem]
  all_goals (simp [lessLit,q,rowsT_cons,rowsI_cons,cT]; done)
 ·have h5:Op.bytesLess (termText b) (termText a) = true:=q
  simp -implicitDefEqProofs only [go_sem,h5]
  refine fin1' ?_
  simp -implicitDefEqProofs only [go_sem]
  all_goals (simp [lessLit,q,rowsT_cons,rowsI_cons,cT]; done)
end Go.Proofs.YtpidddienjoleaaGreat
namespace Go.Proofs.YtpidddienjoleaaGreat
open Go.Eng Go.Mod
open Int renaming reduceEq → Z1,reduceLT → Z2,reduceLE → Z3,reduceToNat → Z4
set_option maxRecDepth 100000
set_option maxHeartbeats 400000
theorem c_Clone_Lit_nil:C E.P 164 [.nilS] [] (Eq2 (.acc 0) [some (.acc 48 [])]):=by
 have hLB:=LB_eq
 refine C_goS (nt:=8) (rs:=[.tmp 2]) hm Tryz.func164 rfl rfl rfl rfl rfl (fun hl he=>?_)
 simp -implicitDefEqProofs only [go_sem,Z1,Z2,Z3,Z4] at hl ⊢
 refine atNil 48 _ true rfl rfl (by simp -implicitDefEqProofs only [go_sem,Z1,Z2,Z3,Z4]) eqnil_nil ?_
 try simp -implicitDefEqProofs only [go_sem,Z1,Z2,Z3,Z4]
 try (with_reducible refine ind_andM (by kernel_rfl) ?_)
 refine finM' [none] ?_ rfl rfl
 simp -implicitDefEqProofs only [go_sem,Z1,Z2,Z3,Z4]
theorem c_Clone_Lit_val (a:Addr) (c:Nat):C E.P 164 [.d (.val (.slice (some a) 0 c))] [] (Eq2 (.acc 0) [some (.acc 48 [])]):=by
 have hLB:=LB_eq
 refine C_goS (nt:=8) (rs:=[.tmp 2]) hm Tryz.func164 rfl rfl rfl rfl rfl (fun hl he=>?_)
 simp -implicitDefEqProofs only [go_sem,Z1,Z2,Z3,Z4] at hl ⊢
 refine atNil 48 _ false rfl rfl (p:=.d (.val (.slice (some a) 0 c))) (by simp -implicitDefEqProofs only [go_sem,Z1,Z2,Z3,Z4]) (eqnil_val _ _ _) ?_
 try simp -implicitDefEqProofs only [go_sem,Z1,Z2,Z3,Z4]
 try (with_reducible refine ind_andM (by kernel_rfl) ?_)
 repeat (first | with_reducible refine ind_andM (by kernel_rfl) ?_ | (with_reducible apply And.intro; case left=>first | omega | assumption | exact ⟨rowsT_all _,by omega⟩ | exact ⟨rowsI_all _,by omega⟩ | exact ⟨rowsLit_all _,by omega⟩ | exact ⟨rowsLin_all _,by omega⟩ | exact ⟨rowsEq_all _,by omega⟩ | rfl | (simp [*]; done) | (simp; omega) | exact ⟨rowsRat_all _,by omega⟩ | exact ⟨rowsAtom_all _,by omega⟩ | exact ⟨rowsB_all _,by omega⟩ | exact ⟨rowsForm_all _,by omega⟩ | exact ⟨rowsII_all _,by omega⟩))
 refine finM' [some 1] ?_ rfl rfl
 simp -implicitDefEqProofs only [go_sem,Z1,Z2,Z3,Z4]
theorem c_Clone_Lit_cons (r:List D) (rs:List (List D)) (hl1:rs.length ≤ 1000) (h1:∀ y ∈ r :: rs,y.length = 10):C E.P 164 [.d (.lst (r :: rs))] [] (Eq2 (.acc 0) [some (.acc 48 (r :: rs))]):=by
 have hLB:=LB_eq
 refine C_goS (nt:=8) (rs:=[.tmp 2]) hm Tryz.func164 rfl rfl rfl rfl rfl (fun hl he=>?_)
 simp -implicitDefEqProofs only [go_sem,Z1,Z2,Z3,Z4] at hl ⊢
 refine atNil 48 _ false rfl rfl (p:=.d (.lst (r :: rs))) (by simp -implicitDefEqProofs only [go_sem,Z1,Z2,Z3,Z4]) eqnil_lst ?_
 try simp -implicitDefEqProofs only [go_sem,Z1,Z2,Z3,Z4]
 try (with_reducible refine ind_andM (by kernel_rfl) ?_)
 refine And.intro ⟨?_,by omega,by omega⟩ ?_
 ·simpa using h1
 refine finM' [some 1] ?_ rfl rfl
 simp -implicitDefEqProofs only [go_sem,Z1,Z2,Z3,Z4]
theorem c_Clone_Lit (lits:List LitD) (hl1:lits.length ≤ 1000):C E.P 164 [lv (rowsLit lits)] [] (Eq2 (.acc 0) [some (.acc 48 (rowsLit lits))]):=by
 cases lits with
 | nil=>exact C_split c_Clone_Lit_nil c_Clone_Lit_val
 | cons x xs=>
   have h1:=rowsLit_all (x :: xs)
   rw [rowsLit_cons] at h1 ⊢
   exact c_Clone_Lit_cons (cLit x) (rowsLit xs) (by rw [rowsLit_len]; simp at hl1; omega) h1
theorem c_impl_and (lits:List LitD) (l:LitD) (hl1:lits.length ≤ 100):C E.P 97 [lv (rowsLit lits),av (cLit l)] [] (Eq2 (lv (rowsLit (lits ++ [l]))) []):=by
 have hLB:=LB_eq
 refine C_goS (nt:=10) (rs:=[.tmp 4]) hm Tryz.func97 rfl rfl rfl rfl rfl (fun hl he=>?_)
 simp -implicitDefEqProofs only [go_sem,Z1,Z2,Z3,Z4] at hl ⊢
 refine atOwn [] [1] (c_Clone_Lit lits (by omega)) ?_ ?_ <;> simp -implicitDefEqProofs only [go_sem,Z1,Z2,Z3,Z4]
 try (with_reducible refine ind_andM (by kernel_rfl) ?_)
 repeat (first | with_reducible refine ind_andM (by kernel_rfl) ?_ | (with_reducible apply And.intro; case left=>first | omega | assumption | exact ⟨rowsT_all _,by omega⟩ | exact ⟨rowsI_all _,by omega⟩ | exact ⟨rowsLit_all _,by omega⟩ | exact ⟨rowsLin_all _,by omega⟩ | exact ⟨rowsEq_all _,by omega⟩ | rfl | (simp [*]; done) | (simp; omega) | exact ⟨rowsRat_all _,by omega⟩ | exact ⟨rowsAtom_all _,by omega⟩ | exact ⟨rowsB_all _,by omega⟩ | exact ⟨rowsForm_all _,by omega⟩ | exact ⟨rowsII_all _,by omega⟩))
 refine fin1' ?_
 simp -implicitDefEqProofs only [go_sem,Z1,Z2,Z3,Z4]
 rw [← rowsLit_app,rowsLit_cons,rowsLit_nil]
 rfl
theorem c_impl_parted (a b:Term) (ta:isTerm a = true) (tb:isTerm b = true):C E.P 103 [av (cT a),av (cT b)] [] (Eq2 (lv (rowsLit (parted a b))) []):=by
 have hLB:=LB_eq
 refine C_goS (nt:=15) (rs:=[.tmp 4]) hm Tryz.func103 rfl rfl rfl rfl rfl (fun hl he=>?_)
 simp -implicitDefEqProofs only [go_sem,Z1,Z2,Z3,Z4] at hl ⊢
 refine atCall [] (c_impl_eqLit a b) ?_ ?_ <;> simp -implicitDefEqProofs only [go_sem,Z1,Z2,Z3,Z4]
 try (with_reducible refine ind_andM (by kernel_rfl) ?_)
 refine atCall [] (c_impl_lessLit a b ta tb) ?_ ?_ <;> simp -implicitDefEqProofs only [go_sem,Z1,Z2,Z3,Z4]
 try (with_reducible refine ind_andM (by kernel_rfl) ?_)
 refine atCall [] (c_impl_lessLit b a tb ta) ?_ ?_ <;> simp -implicitDefEqProofs only [go_sem,Z1,Z2,Z3,Z4]
 try (with_reducible refine ind_andM (by kernel_rfl) ?_)
 repeat (first | with_reducible refine ind_andM (by kernel_rfl) ?_ | (with_reducible apply And.intro; case left=>first | omega | assumption | exact ⟨rowsT_all _,by omega⟩ | exact ⟨rowsI_all _,by omega⟩ | exact ⟨rowsLit_all _,by omega⟩ | exact ⟨rowsLin_all _,by omega⟩ | exact ⟨rowsEq_all _,by omega⟩ | rfl | (simp [*]; done) | (simp; omega) | exact ⟨rowsRat_all _,by omega⟩ | exact ⟨rowsAtom_all _,by omega⟩ | exact ⟨rowsB_all _,by omega⟩ | exact ⟨rowsForm_all _,by omega⟩ | exact ⟨rowsII_all _,by omega⟩))
 refine fin1' ?_
 simp -implicitDefEqProofs only [go_sem,Z1,Z2,Z3,Z4]
 rw [parted,rowsLit_cons,rowsLit_cons,rowsLit_cons,rowsLit_nil]
 rfl
end Go.Proofs.YtpidddienjoleaaGreat
namespace Go.Proofs.YtpidddienjoleaaGreat
open Go.Eng Go.Mod
open Int renaming reduceEq → Z1,reduceLT → Z2,reduceLE → Z3,reduceToNat → Z4
set_option maxRecDepth 100000
set_option maxHeartbeats 400000
theorem c_impl_numsOf_1 (s:Sig) (t:Term):C E.P 87 [av (cT t),.iptr [cSig s] 0 0] [] (Eq2 (bv (!isNumber s t)) []):=by
 have hLB:=LB_eq
 refine C_goS (nt:=8) (rs:=[.tmp 3]) hm Tryz.func87 rfl rfl rfl rfl rfl (fun hl he=>?_)
 simp -implicitDefEqProofs only [go_sem] at hl ⊢
 refine atCall [] (c_impl_isNumber s t) ?_ ?_ <;> simp -implicitDefEqProofs only [go_sem]
 refine fin1' ?_
 simp -implicitDefEqProofs only [go_sem]
theorem rowsT_put {a:List Term} {i:Nat} (h:i < a.length) (v:Term):(rowsT a).set i (spl (row (rowsT a) i) 0 (cT v)) = rowsT (a.set i v):=by
 have e:spl (row (rowsT a) i) 0 (cT v) = cT v:=by
  rw [rowsT_row h]
  simp [spl,cT]
 rw [e,rowsT_map,rowsT_map,List.map_set]
theorem idxGo_take {p:Term → Bool}:∀ {xs:List Term} {i:Int},0 ≤ i → (idxGo p xs i = -1 ∧ xs.filter (fun t=>!p t) = xs) ∨ ∃ j:Nat,idxGo p xs i = i + j ∧ j < xs.length ∧ (xs.take (j + 1)).filter (fun t=>!p t) = xs.take j
 | [],i,_=>.inl (by simp [idxGo])
 | x :: xs,i,h=>by
   simp only [idxGo]
   cases hx:p x with
   | true=>
     refine .inr ⟨0,?_,by simp,by simp [hx]⟩
     simp
   | false=>
     simp only [Bool.false_eq_true,if_false]
     rcases idxGo_take (p:=p) (xs:=xs) (i:=i + 1) (by omega) with ⟨h1,h2⟩ | ⟨j,h1,h2,h3⟩
     ·exact .inl ⟨h1,by simp [hx,h2]⟩
     ·refine .inr ⟨j + 1,by rw [h1]; omega,by simp; omega,?_⟩
      rw [List.take_succ_cons,List.filter_cons,List.take_succ_cons,h3]
      simp [hx]
theorem c_DeleteFunc_nums (s:Sig) (xs:List Term) (hl1:xs.length ≤ 10000):C E.P 86 [.acc 0,.fn 87 [.ptr 1 0]] [some (.acc 35 (rowsT xs)),some (.box (pvs (cSig s)))] (Eq2 (lv (rowsT (xs.filter (isNumber s)))) [some .dead,some (.box (pvs (cSig s)))]):=by
 have hLB:LB = 1099511627776:=rfl
 refine C_goW (nt:=42) (rs:=[.tmp 4]) Tryz.func86 rfl rfl rfl rfl rfl (fun hl he=>?_)
 simp -implicitDefEqProofs only [go_sem] at hl he ⊢
 refine W_seq (W_of hm ?_)
 simp -implicitDefEqProofs only [go_sem,onQ_on,thenQ_n]
 refine W_seq (W_of hm ?_)
 simp -implicitDefEqProofs only [go_sem]
 refine atLook [] [0,1] (c_IndexFunc_Term 87 [.iptr [cSig s] 0 0] rfl (fun t=>!isNumber s t) xs (fun t _=>c_impl_numsOf_1 s t)) rfl ?_ ?_ ?_
 ·(simp -implicitDefEqProofs only [go_sem]; repeat' (first | exact Vws.nil | apply Vws.cons | exact Vw.same (by first | rfl | simp -implicitDefEqProofs only [go_sem,Z1,Z2,Z3,Z4]) | exact Vw.acc rfl rfl | exact Vw.tre rfl rfl (by simp -implicitDefEqProofs only [go_sem,Z1,Z2,Z3,Z4]) | exact Vw.nil | apply Vw.agg | apply Vw.fn | refine Vw.box rfl rfl ?_))
 all_goals simp -implicitDefEqProofs only [go_sem]
 simp -implicitDefEqProofs only [go_sem,onQ_on,thenQ_n]
 rcases idxGo_take (p:=fun t=>!isNumber s t) (xs:=xs) (i:=0) (by omega) with ⟨h1,h2⟩ | ⟨j0,h1,h2,h3⟩
 ·have e:idxOf (fun t=>!isNumber s t) xs = -1:=h1
  rw [e]
  refine W_seq (W_of hm ?_)
  simp -implicitDefEqProofs only [go_sem,onQ_on,thenQ_r]
  refine ⟨_,weak_give 4 0 35 (rowsT xs) rfl rfl,?_⟩
  have e2:xs.filter (isNumber s) = xs:=by simpa using h2
  rw [e2]
  refine finM' [some 0,some 1] ?_ rfl rfl
  simp -implicitDefEqProofs only [go_sem]
  all_goals simp
 ·have e:idxOf (fun t=>!isNumber s t) xs = (j0:Int):=by rw [idxOf,h1]; omega
  rw [e]
  have n1:¬ (j0:Int) = -1:=by omega
  refine W_seq (W_of hm ?_)
  simp -implicitDefEqProofs only [go_sem,onQ_on,thenQ_n,n1]
  refine W_seq (W_of hm ?_)
  simp -implicitDefEqProofs only [go_sem]
  repeat (with_reducible apply And.intro; case left=>omega)
  refine loop_go3 hm (fun (i:Nat) (j:Nat) (a:List Term)=> i ≤ j ∧ j ≤ xs.length ∧ a.length = xs.length ∧ a.take i = (xs.take j).filter (isNumber s) ∧ a.drop j = xs.drop j) (fun (i:Nat) (j:Nat) (a:List Term)=> ⟨mkS 42 .any [(0,.acc 0),(1,.fn 87 [.ptr 1 0]),(5,iv i),(6,iv j)],[some (.acc 35 (rowsT a)),some (.box (pvs (cSig s)))]⟩) (fun (i:Nat) (j:Nat) (a:List Term)=> xs.length - j) (j0) (j0 + 1) (xs) ?_ (weakS [some 0,some 1] ?_ ?_ rfl rfl) ?_
  rotate_left
  ·simp -implicitDefEqProofs only [go_sem]
  ·simp -implicitDefEqProofs only [go_sem]
  rotate_left
  ·exact ⟨by omega,by omega,rfl,by simpa using h3.symm,rfl⟩
  ·rintro i j a ⟨hij,hj,hal,ht,hd⟩
   rcases Classical.em (j < xs.length) with h1 | h1
   ·have h1a:j < a.length:=by omega
    have hia:i < a.length:=by omega
    have hx:a[j] = xs[j]:=by
     have h4:(a.drop j)[0]? = (xs.drop j)[0]?:=by rw [hd]
     simpa [h1,h1a] using h4
    have hf:(xs.take (j + 1)).filter (isNumber s) = (xs.take j).filter (isNumber s) ++ (if isNumber s xs[j] then [xs[j]] else []):=by
     rw [List.take_add_one,List.getElem?_eq_getElem h1,List.filter_append]
     congr 1
     simp [List.filter_cons]
    simp -implicitDefEqProofs only [go_sem,h1a]
    refine atLook [.ptr 1 0] [1] (c_impl_numsOf_1 s a[j]) rfl ?_ ?_ ?_
    ·(simp -implicitDefEqProofs only [go_sem]; repeat' (first | exact Vws.nil | apply Vws.cons | exact Vw.same (by first | rfl | simp -implicitDefEqProofs only [go_sem,Z1,Z2,Z3,Z4]) | exact Vw.acc rfl rfl | exact Vw.tre rfl rfl (by simp -implicitDefEqProofs only [go_sem,Z1,Z2,Z3,Z4]) | exact Vw.nil | apply Vw.agg | apply Vw.fn | refine Vw.box rfl rfl ?_))
    all_goals simp -implicitDefEqProofs only [go_sem]
    rw [hx]
    cases h4:isNumber s xs[j]
    ·rw [h4] at hf
     simp -implicitDefEqProofs only [go_sem]
     refine And.intro (by omega) ?_
     refine ⟨i,j + 1,a,?_,?_,weakS [some 0,some 1] ?_ ?_ rfl rfl⟩
     rotate_left
     ·show _ < _
      omega
     ·simp -implicitDefEqProofs only [go_sem]
     ·simp -implicitDefEqProofs only [go_sem]
     refine ⟨by omega,by omega,hal,by rw [hf,ht]; simp,?_⟩
     have h5:=congrArg (List.drop 1) hd
     simpa [List.drop_drop] using h5
    ·rw [h4] at hf
     simp -implicitDefEqProofs only [go_sem,hia]
     have hset:(rowsT a).set i (spl [D.str a[i].name,D.lst (rowsT a[i].kids)] 0 [D.str xs[j].name,D.lst (rowsT xs[j].kids)]) = rowsT (a.set i xs[j]):=by
      have h5:=rowsT_put hia xs[j]
      rw [rowsT_row hia] at h5
      exact h5
     refine And.intro (by omega) (And.intro (by omega) ?_)
     refine ⟨i + 1,j + 1,a.set i xs[j],?_,?_,weakS [some 0,some 1] ?_ ?_ rfl rfl⟩
     rotate_left
     ·show _ < _
      omega
     ·simp -implicitDefEqProofs only [go_sem]
     ·simp -implicitDefEqProofs only [go_sem]
      all_goals (exact hset)
     refine ⟨by omega,by omega,by simp [hal],?_,?_⟩
     ·rw [hf,← ht,List.take_add_one]
      simp [hia,List.take_set_of_le]
     ·have h5:=congrArg (List.drop 1) hd
      rw [List.drop_set_of_lt (by omega)]
      simpa [List.drop_drop] using h5
   ·simp -implicitDefEqProofs only [go_sem,h1,hal]
    simp only [onQ_on,thenQ_n]
    have hjn:j = xs.length:=by omega
    refine W_seq (W_region ?_)
    refine WO_cons (StG.plain rfl (st_move _)) (WO_cons (StG.plain rfl (st_move _)) ?_)
    simp -implicitDefEqProofs only [go_sem]
    refine WO_clr (t:=33) (e:=35) (k:=0) (m:=(i:Int)) (xs:=rowsT a) [.str [],.lst []] _ _ rfl rfl rfl rfl ?_ ?_ ?_ (by omega) (by rw [rowsT_len]; omega) ?_ ?_
    ·simp -implicitDefEqProofs only [go_sem]
    ·simp -implicitDefEqProofs only [go_sem]
    ·simp -implicitDefEqProofs only [go_sem]
    ·simp only [mkS_len]
     omega
    refine WO_nil ?_
    simp -implicitDefEqProofs only [go_sem,thenQ_n]
    refine W_of hm ?_
    simp -implicitDefEqProofs only [go_sem]
    refine atOp_by (st_head (.tmp 39) (.tmp 40) 33 35 0 _ _ (clr [.str [],.lst []] (rowsT a) i) (i:Int) rfl rfl rfl ?_ ?_ ?_ (by omega) (by rw [clr_len _ _ _ (by rw [rowsT_len]; omega),rowsT_len]; omega)) ?_
    ·simp -implicitDefEqProofs only [go_sem]
    ·simp -implicitDefEqProofs only [go_sem]
    ·simp -implicitDefEqProofs only [go_sem]
    simp -implicitDefEqProofs only [go_sem,onQ_on]
    refine FinW_of ?_
    refine finM' [some 0,some 1] ?_ rfl rfl
    simp -implicitDefEqProofs only [go_sem]
    rw [clr_take _ _ _ (by rw [rowsT_len]; omega),rowsT_take,ht,hjn,List.take_length]
theorem c_impl_numsOf (s:Sig) (lits:List LitD) (hl1:lits.length ≤ 100) (hw:∀ l ∈ lits,atomWf l.atom = true):C E.P 39 [av (cSig s),lv (rowsLit lits)] [] (Eq2 (lv (rowsT (numsOf s lits))) []):=by
 have hn:(termsOf lits).length ≤ 10000:=by
  obtain ⟨hle,hok⟩:=allTerms_ok hw
  have h1:=withPartss_len4 (allTerms lits) [] hok
  rw [termsOf_eq,termParts_all hok]
  simp only [List.length_nil] at h1
  omega
 have e:(termsOf lits).filter (isNumber s) = numsOf s lits:=rfl
 have hLB:=LB_eq
 refine C_goS (nt:=9) (rs:=[.tmp 4]) hm Tryz.func39 rfl rfl rfl rfl rfl (fun hl he=>?_)
 simp -implicitDefEqProofs only [go_sem] at hl ⊢
 refine atOwn [] [1] (c_impl_termsOf lits hl1 hw) ?_ ?_ <;> simp -implicitDefEqProofs only [go_sem]
 have hcall:=c_DeleteFunc_nums s (termsOf lits) hn
 rw [e] at hcall
 refine atOwn [] [1,0] hcall ?_ ?_
 ·simp -implicitDefEqProofs only [go_sem]
  rfl
 simp -implicitDefEqProofs only [go_sem]
 refine fin1' ?_
 simp -implicitDefEqProofs only [go_sem]
end Go.Proofs.YtpidddienjoleaaGreat
