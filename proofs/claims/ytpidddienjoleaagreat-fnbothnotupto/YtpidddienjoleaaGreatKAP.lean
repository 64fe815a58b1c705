/-
  The reference: the walks of atoms and literals. A step towards the exact laws.
-/
import Derived.Test.YtpidddienjoleaaGreatKAI
import Derived.Test.YtpidddienjoleaaGreatKAE
set_option linter.unusedVariables false
set_option linter.unusedSimpArgs false
namespace Go.Proofs.YtpidddienjoleaaGreat
open Go.Eng Go.Mod
open Int renaming reduceEq → Z1,reduceLT → Z2,reduceLE → Z3,reduceToNat → Z4
set_option maxRecDepth 100000
set_option maxHeartbeats 400000
theorem within_no {n lo hi:Int} (h:within n lo hi = false):n < lo ∨ hi < n:=by
 simp only [within,Bool.and_eq_false_iff,decide_eq_false_iff_not] at h
 omega
theorem atomWf_2 {a:Atom} (k2:a.kind = 2):atomWf a = (isNone a.A && (isNone a.B && (within a.nums.length 1 4 && (decide (a.times.length = a.nums.length) && (within a.bound (-1000) 1000 && numsGo none a.nums a.times))))):=by simp [atomWf,k2]
theorem c_spec_l6Sum_yes (a:Atom) (e:atomWf a = numsGo none a.nums a.times) (h1:isNone a.A = true) (h2:isNone a.B = true) (h4:a.nums.length = a.times.length) (h5:¬ (a.nums.length:Int) < 1) (h6:¬ (4:Int) < (a.nums.length:Int)) (h8:¬ a.bound < -1000) (h9:¬ 1000 < a.bound):C E.P 212 [av (cAtom a)] [] (Eq2 (bv (atomWf a)) []):=by
 have k4:=eq_true h4
 have hLB:=LB_eq
 refine C_goS (nt:=97) (rs:=[.tmp 2]) hm Tryz.func212 rfl rfl rfl rfl rfl (fun hl he=>?_)
 simp -implicitDefEqProofs only [go_sem] at hl ⊢
 refine atCall [] (c_spec_l6None a.A) ?_ ?_ <;> simp -implicitDefEqProofs only [go_sem,h1]
 refine atCall [] (c_spec_l6None a.B) ?_ ?_ <;> simp -implicitDefEqProofs only [go_sem,h2,k4,h5,h6,h8,h9]
 refine loop_go1 hm (fun (i:Nat)=> i ≤ a.nums.length ∧ atomWf a = numsGo (prevTerm a.nums i) (a.nums.drop i) (a.times.drop i) ∧ ∀ q,prevTerm a.nums i = some q → isTerm q = true) (fun (i:Nat)=> ⟨mkS 97 .any [(1,.ptr 0 0),(3,iv i)],[some (.box (pvs (cAtom a)))]⟩) (fun (i:Nat)=> a.nums.length - i) (0) ?_ (weakS [some 0] ?_ ?_ rfl rfl) ?_
 rotate_left
 ·simp -implicitDefEqProofs only [go_sem]
 ·simp -implicitDefEqProofs only [go_sem]
 rotate_left
 ·exact ⟨by omega,e,fun q h=>by cases h⟩
 ·rintro i ⟨hi,hg,hp⟩
  rcases Classical.em (i < a.nums.length) with g1 | g1
  ·have g2:i < a.times.length:=by omega
   rw [numsGo_drop g1 g2] at hg
   simp -implicitDefEqProofs only [go_sem,g1,g2]
   refine atCall [] (c_spec_l4Right a.nums[i]) ?_ ?_ <;> simp -implicitDefEqProofs only [go_sem]
   cases q1:isTerm a.nums[i]
   ·rw [q1,Bool.false_and] at hg
    simp -implicitDefEqProofs only [go_sem]
    with_reducible refine ind_andM (by kernel_rfl) ?_
    refine fin1' ?_
    simp -implicitDefEqProofs only [go_sem]
    all_goals (simp [hg]; done)
   ·rw [q1,Bool.true_and] at hg
    simp -implicitDefEqProofs only [go_sem]
    rcases Classical.em (a.times[i] = 0) with q3 | q3
    ·have k3:=eq_true q3
     have hg:atomWf a = false:=by rw [hg]; simp [q3]
     simp -implicitDefEqProofs only [go_sem,k3]
     with_reducible refine ind_andM (by kernel_rfl) ?_
     refine fin1' ?_
     simp -implicitDefEqProofs only [go_sem]
     all_goals (simp [hg]; done)
    ·simp -implicitDefEqProofs only [go_sem,q3]
     cases q2:within a.times[i] (-50) 50
     ·have hg:atomWf a = false:=by rw [hg,q2]; rfl
      rcases Classical.em (a.times[i] < -50) with q5 | q5
      ·simp -implicitDefEqProofs only [go_sem,q5]
       with_reducible refine ind_andM (by kernel_rfl) ?_
       refine fin1' ?_
       simp -implicitDefEqProofs only [go_sem]
       all_goals (simp [hg]; done)
      ·have q6:50 < a.times[i]:=by have:=within_no q2; omega
       simp -implicitDefEqProofs only [go_sem,q5,q6]
       with_reducible refine ind_andM (by kernel_rfl) ?_
       refine fin1' ?_
       simp -implicitDefEqProofs only [go_sem]
       all_goals (simp [hg]; done)
     ·have q2':=withinB_iff.1 q2
      have q5:¬ a.times[i] < -50:=by omega
      have q6:¬ 50 < a.times[i]:=by omega
      rw [q2,Bool.true_and] at hg
      simp only [q3,not_false_eq_true,ne_eq,decide_true,Bool.true_and] at hg
      cases i with
      | zero=>
        simp only [prevTerm,Bool.true_and] at hg
        simp -implicitDefEqProofs only [go_sem,q5,q6,Int.lt_irrefl]
        with_reducible refine ind_andM (by kernel_rfl) ?_
        repeat (with_reducible apply And.intro; case left=>omega)
        refine ⟨0 + 1,?_,?_,weakS [some 0] ?_ ?_ rfl rfl⟩
        rotate_left
        ·show _ < _
         omega
        ·simp -implicitDefEqProofs only [go_sem]
         all_goals (simp [*]; done)
        ·simp -implicitDefEqProofs only [go_sem]
        refine ⟨by omega,?_,?_⟩
        ·rw [hg,prev_step g1]
        ·intro q hq
         rw [prev_step g1] at hq
         cases hq
         exact q1
      | succ j=>
        have hj:j < a.nums.length:=by omega
        have e1:((j:Int) + 1 - 1) = (j:Int):=by omega
        have e2:(0:Int) < (j:Int) + 1:=by omega
        have et:((j:Int) + 1).toNat = j + 1:=by omega
        have tp:=hp _ (prev_step hj)
        rw [prev_step hj] at hg
        simp only at hg
        simp -implicitDefEqProofs only [go_sem,q5,q6,e1,e2,hj]
        repeat (with_reducible apply And.intro; case left=>omega)
        refine atCall [] (c_spec_l4Text' a.nums[j] tp) ?_ ?_ <;> simp -implicitDefEqProofs only [go_sem,et,g1]
        repeat (with_reducible apply And.intro; case left=>omega)
        refine atCall [] (c_spec_l4Text' a.nums[j + 1] q1) ?_ ?_ <;> simp -implicitDefEqProofs only [go_sem]
        with_reducible refine ind_andM (by kernel_rfl) ?_
        cases q4:sLess (termText a.nums[j]) (termText a.nums[j + 1])
        ·rw [q4,Bool.false_and] at hg
         have h5:Op.bytesLess (termText a.nums[j]) (termText a.nums[j + 1]) = false:=q4
         simp -implicitDefEqProofs only [go_sem,h5]
         refine fin1' ?_
         simp -implicitDefEqProofs only [go_sem]
         all_goals (simp [hg]; done)
        ·rw [q4,Bool.true_and] at hg
         have h5:Op.bytesLess (termText a.nums[j]) (termText a.nums[j + 1]) = true:=q4
         simp -implicitDefEqProofs only [go_sem,h5]
         repeat (with_reducible apply And.intro; case left=>omega)
         refine ⟨j + 1 + 1,?_,?_,weakS [some 0] ?_ ?_ rfl rfl⟩
         rotate_left
         ·show _ < _
          omega
         ·simp -implicitDefEqProofs only [go_sem]
         ·simp -implicitDefEqProofs only [go_sem]
         refine ⟨by omega,?_,?_⟩
         ·rw [hg,prev_step g1]
         ·intro q hq
          rw [prev_step g1] at hq
          cases hq
          exact q1
  ·rw [List.drop_of_length_le (by omega),List.drop_of_length_le (by omega)] at hg
   have hg:atomWf a = true:=by rw [hg]; cases prevTerm a.nums i <;> rfl
   simp -implicitDefEqProofs only [go_sem,g1]
   refine fin1' ?_
   simp -implicitDefEqProofs only [go_sem]
   all_goals (simp [hg]; done)
theorem c_spec_l6Sum_no (a:Atom) (k2:a.kind = 2) (hno:¬ (isNone a.A = true ∧ isNone a.B = true ∧ a.nums.length = a.times.length ∧ within a.nums.length 1 4 = true ∧ within a.bound (-1000) 1000 = true)):C E.P 212 [av (cAtom a)] [] (Eq2 (bv (atomWf a)) []):=by
 have e:=atomWf_2 k2
 have hLB:=LB_eq
 refine C_goS (nt:=97) (rs:=[.tmp 2]) hm Tryz.func212 rfl rfl rfl rfl rfl (fun hl he=>?_)
 simp -implicitDefEqProofs only [go_sem] at hl ⊢
 refine atCall [] (c_spec_l6None a.A) ?_ ?_ <;> simp -implicitDefEqProofs only [go_sem]
 cases h1:isNone a.A
 ·simp -implicitDefEqProofs only [go_sem]
  refine fin1' ?_
  simp -implicitDefEqProofs only [go_sem]
  all_goals (simp [e,h1]; done)
 ·simp -implicitDefEqProofs only [go_sem]
  refine atCall [] (c_spec_l6None a.B) ?_ ?_ <;> simp -implicitDefEqProofs only [go_sem]
  cases h2:isNone a.B
  ·simp -implicitDefEqProofs only [go_sem]
   refine fin1' ?_
   simp -implicitDefEqProofs only [go_sem]
   all_goals (simp [e,h1,h2]; done)
  ·simp -implicitDefEqProofs only [go_sem]
   rcases Classical.em (a.nums.length = a.times.length) with h4 | h4
   ·have h4':a.times.length = a.nums.length:=h4.symm
    have k4:=eq_true h4
    simp -implicitDefEqProofs only [go_sem,k4]
    cases h3:within a.nums.length 1 4
    ·have e0:atomWf a = false:=by simp [e,h3]
     rcases Classical.em ((a.nums.length:Int) < 1) with h5 | h5
     ·simp -implicitDefEqProofs only [go_sem,h5]
      refine fin1' ?_
      simp -implicitDefEqProofs only [go_sem]
      all_goals (simp [e0]; done)
     ·have h6:(4:Int) < (a.nums.length:Int):=by have:=within_no h3; omega
      simp -implicitDefEqProofs only [go_sem,h5,h6]
      refine fin1' ?_
      simp -implicitDefEqProofs only [go_sem]
      all_goals (simp [e0]; done)
    ·have h3':=withinB_iff.1 h3
     have h5:¬ (a.nums.length:Int) < 1:=by omega
     have h6:¬ (4:Int) < (a.nums.length:Int):=by omega
     simp -implicitDefEqProofs only [go_sem,h5,h6]
     cases h7:within a.bound (-1000) 1000
     ·have e0:atomWf a = false:=by simp [e,h7]
      rcases Classical.em (a.bound < -1000) with h8 | h8
      ·simp -implicitDefEqProofs only [go_sem,h8]
       refine fin1' ?_
       simp -implicitDefEqProofs only [go_sem]
       all_goals (simp [e0]; done)
      ·have h9:1000 < a.bound:=by have:=within_no h7; omega
       simp -implicitDefEqProofs only [go_sem,h8,h9]
       refine fin1' ?_
       simp -implicitDefEqProofs only [go_sem]
       all_goals (simp [e0]; done)
     ·exact absurd ⟨h1,h2,h4,h3,h7⟩ hno
   ·have h4':¬ a.times.length = a.nums.length:=fun h=>h4 h.symm
    simp -implicitDefEqProofs only [go_sem,h4]
    refine fin1' ?_
    simp -implicitDefEqProofs only [go_sem]
    all_goals (simp [e,h4']; done)
theorem c_spec_l6Sum (a:Atom) (k2:a.kind = 2):C E.P 212 [av (cAtom a)] [] (Eq2 (bv (atomWf a)) []):=by
 rcases Classical.em (isNone a.A = true ∧ isNone a.B = true ∧ a.nums.length = a.times.length ∧ within a.nums.length 1 4 = true ∧ within a.bound (-1000) 1000 = true) with h | h
 ·obtain ⟨h1,h2,h4,h3,h7⟩:=h
  have h3':=withinB_iff.1 h3
  have h7':=withinB_iff.1 h7
  have h4':=h4.symm
  exact c_spec_l6Sum_yes a (by simp [atomWf_2 k2,h1,h2,h3,h4',h7]) h1 h2 h4 (by omega) (by omega) (by omega) (by omega)
 ·exact c_spec_l6Sum_no a k2 h
theorem c_spec_l6Right (a:Atom):C E.P 156 [av (cAtom a)] [] (Eq2 (bv (atomWf a)) []):=by
 have hLB:=LB_eq
 refine C_goS (nt:=43) (rs:=[.tmp 2]) hm Tryz.func156 rfl rfl rfl rfl rfl (fun hl he=>?_)
 simp -implicitDefEqProofs only [go_sem] at hl ⊢
 rcases Classical.em (a.kind = 2) with k2 | k2
 ·have k:=eq_true k2
  simp -implicitDefEqProofs only [go_sem,k]
  refine atCall [] (c_spec_l6Sum a k2) ?_ ?_ <;> simp -implicitDefEqProofs only [go_sem]
  refine fin1' ?_
  simp -implicitDefEqProofs only [go_sem]
 ·simp -implicitDefEqProofs only [go_sem,k2]
  rcases Classical.em (a.kind = 1) with k1 | k1
  ·have e:atomWf a = (isTerm a.A && (isTerm a.B && (decide (a.nums.length = 0) && (decide (a.times.length = 0) && (decide (a.bound = 0) && !a.strict))))):=by simp [atomWf,k1]
   have k:=eq_true k1
   simp -implicitDefEqProofs only [go_sem,k]
   refine atCall [] (c_spec_l4Right a.A) ?_ ?_ <;> simp -implicitDefEqProofs only [go_sem]
   cases h1:isTerm a.A
   ·simp -implicitDefEqProofs only [go_sem]
    refine fin1' ?_
    simp -implicitDefEqProofs only [go_sem]
    all_goals (simp [e,h1]; done)
   ·simp -implicitDefEqProofs only [go_sem]
    refine atCall [] (c_spec_l4Right a.B) ?_ ?_ <;> simp -implicitDefEqProofs only [go_sem]
    cases h2:isTerm a.B
    ·simp -implicitDefEqProofs only [go_sem]
     refine fin1' ?_
     simp -implicitDefEqProofs only [go_sem]
     all_goals (simp [e,h1,h2]; done)
    ·simp -implicitDefEqProofs only [go_sem]
     rcases Classical.em ((a.nums.length:Int) = 0) with h3 | h3
     ·have h3':a.nums.length = 0:=by omega
      have k3:=eq_true h3
      simp -implicitDefEqProofs only [go_sem,k3]
      rcases Classical.em ((a.times.length:Int) = 0) with h4 | h4
      ·have h4':a.times.length = 0:=by omega
       have k4:=eq_true h4
       simp -implicitDefEqProofs only [go_sem,k4]
       rcases Classical.em (a.bound = 0) with h5 | h5
       ·have k5:=eq_true h5
        simp -implicitDefEqProofs only [go_sem,k5]
        refine fin1' ?_
        simp -implicitDefEqProofs only [go_sem]
        all_goals (simp [e,h1,h2,h3',h4',h5]; done)
       ·simp -implicitDefEqProofs only [go_sem,h5]
        refine fin1' ?_
        simp -implicitDefEqProofs only [go_sem]
        all_goals (simp [e,h1,h2,h3',h4',h5]; done)
      ·have h4':¬ a.times.length = 0:=by omega
       simp -implicitDefEqProofs only [go_sem,h4]
       refine fin1' ?_
       simp -implicitDefEqProofs only [go_sem]
       all_goals (simp [e,h1,h2,h3',h4']; done)
     ·have h3':¬ a.nums.length = 0:=by omega
      simp -implicitDefEqProofs only [go_sem,h3]
      refine fin1' ?_
      simp -implicitDefEqProofs only [go_sem]
      all_goals (simp [e,h1,h2,h3']; done)
  ·simp -implicitDefEqProofs only [go_sem,k1]
   refine fin1' ?_
   simp -implicitDefEqProofs only [go_sem]
   all_goals (simp [atomWf,k1,k2]; done)
theorem sort_num {s:Sig} {t:Term} (hs:sigOk s = true) (ht:isTerm t = true):isNumber s t = decide ((sortOf s t).getD (-1) = 1):=by
 simp only [isNumber,termSort,hs,ht,Bool.and_self,if_true]
 cases sortOf s t <;> simp
theorem c_spec_AtomOk (s:Sig) (a:Atom):C E.P 88 [av (cSig s),av (cAtom a)] [] (Eq2 (bv (atomOk s a)) []):=by
 have hLB:=LB_eq
 refine C_goS (nt:=47) (rs:=[.tmp 4]) hm Tryz.func88 rfl rfl rfl rfl rfl (fun hl he=>?_)
 simp -implicitDefEqProofs only [go_sem] at hl ⊢
 refine atCall [] (c_spec_SigOk s) ?_ ?_ <;> simp -implicitDefEqProofs only [go_sem]
 cases h1:sigOk s
 ·simp -implicitDefEqProofs only [go_sem]
  refine fin1' ?_
  simp -implicitDefEqProofs only [go_sem]
  all_goals (simp [atomOk,h1]; done)
 ·simp -implicitDefEqProofs only [go_sem]
  refine atCall [] (c_spec_l6Right a) ?_ ?_ <;> simp -implicitDefEqProofs only [go_sem]
  cases h2:atomWf a
  ·simp -implicitDefEqProofs only [go_sem]
   refine fin1' ?_
   simp -implicitDefEqProofs only [go_sem]
   all_goals (simp [atomOk,h1,h2]; done)
  ·simp -implicitDefEqProofs only [go_sem]
   rcases Classical.em (a.kind = 1) with k1 | k1
   ·have hAB:=atomWf_eq h2 k1
    have k:=eq_true k1
    have tA:termSort s a.A = sortOf s a.A:=by simp [termSort,h1,hAB.1]
    have tB:termSort s a.B = sortOf s a.B:=by simp [termSort,h1,hAB.2]
    have cA:=c_spec_l4Of s h1 a.A
    have cB:=c_spec_l4Of s h1 a.B
    simp -implicitDefEqProofs only [go_sem,k]
    refine atCall [] cA ?_ ?_ <;> simp -implicitDefEqProofs only [go_sem]
    cases qA:sortOf s a.A with
    | none=>
      simp -implicitDefEqProofs only [go_sem,Z3,Option.getD_none]
      refine fin1' ?_
      simp -implicitDefEqProofs only [go_sem]
      all_goals (simp [atomOk,h1,h2,k1,eqSorted,tA,qA]; done)
    | some n=>
      have hn:=isSort_iff.1 (sortOf_sort h1 qA)
      have hn2:0 ≤ n:=by omega
      simp -implicitDefEqProofs only [go_sem,Option.getD_some,hn2]
      refine atCall [] cB ?_ ?_ <;> simp -implicitDefEqProofs only [go_sem]
      cases qB:sortOf s a.B with
      | none=>
        have hn3:¬ n = -1:=by omega
        simp -implicitDefEqProofs only [go_sem,Option.getD_none]
        refine fin1' ?_
        simp -implicitDefEqProofs only [go_sem]
        all_goals (simp [atomOk,h1,h2,k1,eqSorted,tA,tB,qA,qB,hn3]; done)
      | some m=>
        simp -implicitDefEqProofs only [go_sem,Option.getD_some]
        refine fin1' ?_
        simp -implicitDefEqProofs only [go_sem]
        all_goals (simp [atomOk,h1,h2,k1,eqSorted,tA,tB,qA,qB]; done)
   ·have k2:a.kind = 2:=(atomWf_kind h2).resolve_left k1
    have hw:=atomWf_sum h2 k2
    have hT:=(numsGo_mem hw.2.2.2.2.2 hw.2.2.2.1).1
    simp -implicitDefEqProofs only [go_sem,k1]
    refine loop_go1 hm (fun (i:Nat)=> i ≤ a.nums.length ∧ a.nums.all (isNumber s) = (a.nums.drop i).all (isNumber s)) (fun (i:Nat)=> ⟨mkS 47 .any [(2,.ptr 0 0),(3,.ptr 1 0),(6,iv i)],[some (.box (pvs (cSig s))),some (.box (pvs (cAtom a)))]⟩) (fun (i:Nat)=> a.nums.length - i) (0) ?_ (weakS [some 0,some 1] ?_ ?_ rfl rfl) ?_
    rotate_left
    ·simp -implicitDefEqProofs only [go_sem]
    ·simp -implicitDefEqProofs only [go_sem]
    rotate_left
    ·simp
    ·rintro i ⟨hi,hg⟩
     rcases Classical.em (i < a.nums.length) with g1 | g1
     ·rw [List.drop_eq_getElem_cons g1,List.all_cons,sort_num h1 (hT _ (List.getElem_mem g1))] at hg
      have cT:=c_spec_l4Of s h1 a.nums[i]
      simp -implicitDefEqProofs only [go_sem,g1]
      refine atCall [] cT ?_ ?_ <;> simp -implicitDefEqProofs only [go_sem]
      with_reducible refine ind_andM (by kernel_rfl) ?_
      rcases Classical.em ((sortOf s a.nums[i]).getD (-1) = 1) with q | q
      ·have k:=eq_true q
       simp only [k,decide_true,Bool.true_and] at hg
       simp -implicitDefEqProofs only [go_sem,k]
       repeat (with_reducible apply And.intro; case left=>omega)
       refine ⟨i + 1,?_,?_,weakS [some 0,some 1] ?_ ?_ rfl rfl⟩
       rotate_left
       ·show _ < _
        omega
       ·simp -implicitDefEqProofs only [go_sem]
       ·simp -implicitDefEqProofs only [go_sem]
       exact ⟨by omega,hg⟩
      ·have k:=eq_false q
       simp only [k,decide_false,Bool.false_and] at hg
       simp -implicitDefEqProofs only [go_sem,k]
       refine fin1' ?_
       simp -implicitDefEqProofs only [go_sem]
       all_goals (simp [atomOk,h1,h2,k1,hg]; done)
     ·rw [List.drop_of_length_le (by omega),List.all_nil] at hg
      simp -implicitDefEqProofs only [go_sem,g1]
      refine fin1' ?_
      simp -implicitDefEqProofs only [go_sem]
      all_goals (simp [atomOk,h1,h2,k1,hg]; done)
theorem c_spec_LitTerms (l:LitD) (h:atomWf l.atom = true):C E.P 126 [av (cLit l)] [] (Eq2 (lv (rowsT (atomTerms l.atom))) []):=by
 have hle:=(atomTerms_ok h).1
 have hLB:=LB_eq
 refine C_goS (nt:=43) (rs:=[.tmp 2]) hm Tryz.func126 rfl rfl rfl rfl rfl (fun hl he=>?_)
 simp -implicitDefEqProofs only [go_sem] at hl ⊢
 refine atCall [] (c_spec_l6Right l.atom) ?_ ?_ <;> simp -implicitDefEqProofs only [go_sem,h]
 rcases Classical.em (l.atom.kind = 1) with k1 | k1
 ·have k:=eq_true k1
  simp -implicitDefEqProofs only [go_sem,k]
  refine atCall [] (c_spec_l4Copy l.atom.A) ?_ ?_ <;> simp -implicitDefEqProofs only [go_sem]
  refine atCall [] (c_spec_l4Copy l.atom.B) ?_ ?_ <;> simp -implicitDefEqProofs only [go_sem]
  with_reducible refine ind_andM (by kernel_rfl) ?_
  refine fin1' ?_
  simp -implicitDefEqProofs only [go_sem]
  all_goals (simp [atomTerms,k1,rowsT_cons,rowsT_nil,cT]; done)
 ·have e:atomTerms l.atom = l.atom.nums:=by simp [atomTerms,k1]
  rw [e] at hle
  simp -implicitDefEqProofs only [go_sem,k1]
  refine loop_go1 hm (fun (i:Nat)=> i ≤ l.atom.nums.length) (fun (i:Nat)=> ⟨mkS 43 .any [(1,.ptr 0 0),(3,.acc 1),(4,iv i)],[some (.box (pvs (cLit l))),some (.acc 35 (rowsT (l.atom.nums.take i)))]⟩) (fun (i:Nat)=> l.atom.nums.length - i) (0) ?_ (weakS [some 0,some 1] ?_ ?_ rfl rfl) ?_
  rotate_left
  ·simp -implicitDefEqProofs only [go_sem]
  ·simp -implicitDefEqProofs only [go_sem]
  rotate_left
  ·omega
  ·rintro i hi
   rcases Classical.em (i < l.atom.nums.length) with h1 | h1
   ·simp -implicitDefEqProofs only [go_sem,h1]
    refine atCall [] (c_spec_l4Copy l.atom.nums[i]) ?_ ?_ <;> simp -implicitDefEqProofs only [go_sem]
    repeat (with_reducible apply And.intro; case left=>omega)
    refine ⟨i + 1,?_,?_,weakS [some 0,some 2] ?_ ?_ rfl rfl⟩
    rotate_left
    ·show _ < _
     omega
    ·simp -implicitDefEqProofs only [go_sem]
    ·simp -implicitDefEqProofs only [go_sem]
     all_goals (exact rowsT_snoc h1)
    exact h1
   ·simp -implicitDefEqProofs only [go_sem,h1]
    refine fin1' ?_
    simp -implicitDefEqProofs only [go_sem]
    rw [List.take_of_length_le (by omega),e]
theorem c_spec_l8Terms (lits:List LitD) (hl1:lits.length ≤ 100) (hw:∀ l ∈ lits,atomWf l.atom = true):C E.P 55 [lv (rowsLit lits)] [] (Eq2 (lv (rowsT (termsOf lits))) []):=by
 obtain ⟨hle,hok⟩:=allTerms_ok hw
 have e:termsOf lits = withPartss [] (allTerms lits):=by rw [termsOf_eq,termParts_all hok]
 have hLB:=LB_eq
 refine C_goS (nt:=32) (rs:=[.tmp 2]) hm Tryz.func55 rfl rfl rfl rfl rfl (fun hl he=>?_)
 simp -implicitDefEqProofs only [go_sem] at hl ⊢
 refine loop_go1 hm (fun (i:Nat)=> i ≤ lits.length) (fun (i:Nat)=> ⟨mkS 32 .any [(0,lv (rowsLit lits)),(3,.acc 0),(4,iv i)],[some (.acc 35 (rowsT (withPartss [] (allTerms (lits.take i)))))]⟩) (fun (i:Nat)=> lits.length - i) (0) ?_ (weakS [some 0] ?_ ?_ rfl rfl) ?_
 rotate_left
 ·simp -implicitDefEqProofs only [go_sem]
 ·simp -implicitDefEqProofs only [go_sem]
  all_goals (simp [allTerms,withPartss])
 rotate_left
 ·omega
 ·rintro i hi
  rcases Classical.em (i < lits.length) with h1 | h1
  ·have hwi:=hw lits[i] (List.getElem_mem h1)
   have h3:=atomTerms_ok hwi
   have h2:=allTerms_ok (lits:=lits.take i) fun l hl=>hw l (List.mem_of_mem_take hl)
   have h4:(lits.take i).length ≤ 100:=by simp; omega
   simp -implicitDefEqProofs only [go_sem,h1]
   refine atCall [] (c_spec_LitTerms lits[i] hwi) ?_ ?_ <;> simp -implicitDefEqProofs only [go_sem]
   refine loop_go1 hm (fun (j:Nat)=> j ≤ (atomTerms lits[i].atom).length) (fun (j:Nat)=> ⟨mkS 32 .any [(0,lv (rowsLit lits)),(3,.acc 0),(4,iv i),(5,lv (rowsT (atomTerms lits[i].atom))),(6,iv j)],[some (.acc 35 (rowsT (withPartss [] (allTerms (lits.take i) ++ (atomTerms lits[i].atom).take j))))]⟩) (fun (j:Nat)=> (atomTerms lits[i].atom).length - j) (0) ?_ (weakS [some 0] ?_ ?_ rfl rfl) ?_
   rotate_left
   ·simp -implicitDefEqProofs only [go_sem]
   ·simp -implicitDefEqProofs only [go_sem]
   rotate_left
   ·omega
   ·rintro j hj
    rcases Classical.em (j < (atomTerms lits[i].atom).length) with g1 | g1
    ·have ht:=h3.2 (atomTerms lits[i].atom)[j] (List.getElem_mem g1)
     have hsub:∀ t ∈ allTerms (lits.take i) ++ (atomTerms lits[i].atom).take j,isTerm t = true:=by
      intro t ht
      rcases List.mem_append.1 ht with ht | ht
      ·exact h2.2 t ht
      ·exact h3.2 t (List.mem_of_mem_take ht)
     have b1:=withPartss_len4 _ [] hsub
     have b2:(allTerms (lits.take i) ++ (atomTerms lits[i].atom).take j).length ≤ 410:=by rw [List.length_append,List.length_take]; omega
     simp only [List.length_nil] at b1
     simp -implicitDefEqProofs only [go_sem,g1]
     refine atOwn [] [0,1] (c_spec_l4Parts (atomTerms lits[i].atom)[j] 4 _ (by omega) (isTerm_tShape ht) (Nat.le_trans b1 (by omega))) ?_ ?_ <;> simp -implicitDefEqProofs only [go_sem]
     repeat (with_reducible apply And.intro; case left=>omega)
     refine ⟨j + 1,?_,?_,weakS [some 1] ?_ ?_ rfl rfl⟩
     rotate_left
     ·show _ < _
      omega
     ·simp -implicitDefEqProofs only [go_sem]
     ·simp -implicitDefEqProofs only [go_sem]
      all_goals ((simp only [take_snoc g1,← List.append_assoc,withPartss_app,withPartss]))
     exact g1
    ·have ej:(atomTerms lits[i].atom).take j = atomTerms lits[i].atom:=List.take_of_length_le (by omega)
     simp -implicitDefEqProofs only [go_sem,g1]
     repeat (with_reducible apply And.intro; case left=>omega)
     refine ⟨i + 1,?_,?_,weakS [some 0] ?_ ?_ rfl rfl⟩
     rotate_left
     ·show _ < _
      omega
     ·simp -implicitDefEqProofs only [go_sem]
     ·simp -implicitDefEqProofs only [go_sem]
      all_goals ((rw [allTerms_snoc h1,ej]))
     exact h1
  ·have et:lits.take i = lits:=List.take_of_length_le (by omega)
   simp -implicitDefEqProofs only [go_sem,h1,et]
   refine fin1' ?_
   simp -implicitDefEqProofs only [go_sem]
   rw [e]
theorem c_spec_l8Nums (s:Sig) (ts:List Term) (hs:sigOk s = true) (ht:∀ t ∈ ts,isTerm t = true) (hl1:ts.length ≤ 10000):C E.P 54 [av (cSig s),lv (rowsT ts)] [] (Eq2 (lv (rowsT (ts.filter (isNumber s)))) []):=by
 have hLB:=LB_eq
 refine C_goS (nt:=29) (rs:=[.tmp 4]) hm Tryz.func54 rfl rfl rfl rfl rfl (fun hl he=>?_)
 simp -implicitDefEqProofs only [go_sem] at hl ⊢
 refine loop_go1 hm (fun (i:Nat)=> i ≤ ts.length) (fun (i:Nat)=> ⟨mkS 29 .any [(1,lv (rowsT ts)),(2,.ptr 0 0),(5,.acc 1),(6,iv i)],[some (.box (pvs (cSig s))),some (.acc 35 (rowsT ((ts.take i).filter (isNumber s))))]⟩) (fun (i:Nat)=> ts.length - i) (0) ?_ (weakS [some 0,some 1] ?_ ?_ rfl rfl) ?_
 rotate_left
 ·simp -implicitDefEqProofs only [go_sem]
 ·simp -implicitDefEqProofs only [go_sem]
  all_goals (simp [*]; done)
 rotate_left
 ·omega
 ·rintro i hi
  rcases Classical.em (i < ts.length) with h1 | h1
  ·have hc:=c_spec_l4Of s hs ts[i]
   have hn:=sort_num hs (ht ts[i] (List.getElem_mem h1))
   have hb:((ts.take i).filter (isNumber s)).length ≤ 10000:=Nat.le_trans (List.length_filter_le _ _) (by simp; omega)
   simp -implicitDefEqProofs only [go_sem,h1]
   refine atCall [] hc ?_ ?_ <;> simp -implicitDefEqProofs only [go_sem]
   with_reducible refine ind_andM (by kernel_rfl) ?_
   rcases Classical.em ((sortOf s ts[i]).getD (-1) = 1) with q | q
   ·have k:=eq_true q
    have hn:isNumber s ts[i] = true:=by rw [hn]; exact decide_eq_true q
    simp -implicitDefEqProofs only [go_sem,k,h1]
    repeat (with_reducible apply And.intro; case left=>omega)
    refine ⟨i + 1,?_,?_,weakS [some 0,some 2] ?_ ?_ rfl rfl⟩
    rotate_left
    ·show _ < _
     omega
    ·simp -implicitDefEqProofs only [go_sem]
    ·simp -implicitDefEqProofs only [go_sem]
     all_goals ((rw [take_snoc h1,List.filter_append,← rowsT_app]; simp [hn,rowsT_cons,cT]))
    exact h1
   ·have k:=eq_false q
    have hn:isNumber s ts[i] = false:=by rw [hn]; exact decide_eq_false q
    simp -implicitDefEqProofs only [go_sem,k]
    repeat (with_reducible apply And.intro; case left=>omega)
    refine ⟨i + 1,?_,?_,weakS [some 0,some 1] ?_ ?_ rfl rfl⟩
    rotate_left
    ·show _ < _
     omega
    ·simp -implicitDefEqProofs only [go_sem]
    ·simp -implicitDefEqProofs only [go_sem]
     all_goals ((rw [take_snoc h1,List.filter_append]; simp [hn]))
    exact h1
  ·simp -implicitDefEqProofs only [go_sem,h1]
   refine fin1' ?_
   simp -implicitDefEqProofs only [go_sem]
   rw [List.take_of_length_le (by omega)]
theorem c_spec_l8Right (s:Sig) (lits:List LitD) (hl1:lits.length ≤ 100):C E.P 40 [av (cSig s),lv (rowsLit lits)] [] (Eq2 (bv (sigOk s && (lits.all (fun l=>atomOk s l.atom) && (decide ((termsOf lits).length ≤ 24) && decide ((numsOf s lits).length ≤ 4))))) []):=by
 have hLB:=LB_eq
 refine C_goS (nt:=37) (rs:=[.tmp 4]) hm Tryz.func40 rfl rfl rfl rfl rfl (fun hl he=>?_)
 simp -implicitDefEqProofs only [go_sem] at hl ⊢
 refine loop_go1 hm (fun (i:Nat)=> i ≤ lits.length ∧ lits.all (fun l=>atomOk s l.atom) = (lits.drop i).all (fun l=>atomOk s l.atom)) (fun (i:Nat)=> ⟨mkS 37 .any [(1,lv (rowsLit lits)),(2,.ptr 0 0),(5,iv i)],[some (.box (pvs (cSig s)))]⟩) (fun (i:Nat)=> lits.length - i) (0) ?_ (weakS [some 0] ?_ ?_ rfl rfl) ?_
 rotate_left
 ·simp -implicitDefEqProofs only [go_sem]
 ·simp -implicitDefEqProofs only [go_sem]
 rotate_left
 ·simp
 ·rintro i ⟨hi,hg⟩
  rcases Classical.em (i < lits.length) with h1 | h1
  ·rw [List.drop_eq_getElem_cons h1,List.all_cons] at hg
   simp -implicitDefEqProofs only [go_sem,h1]
   refine atCall [] (c_spec_AtomOk s lits[i].atom) ?_ ?_ <;> simp -implicitDefEqProofs only [go_sem]
   with_reducible refine ind_andM (by kernel_rfl) ?_
   cases h2:atomOk s lits[i].atom
   ·rw [h2,Bool.false_and] at hg
    simp -implicitDefEqProofs only [go_sem]
    refine fin1' ?_
    simp -implicitDefEqProofs only [go_sem]
    all_goals (simp [hg]; done)
   ·rw [h2,Bool.true_and] at hg
    simp -implicitDefEqProofs only [go_sem]
    repeat (with_reducible apply And.intro; case left=>omega)
    refine ⟨i + 1,?_,?_,weakS [some 0] ?_ ?_ rfl rfl⟩
    rotate_left
    ·show _ < _
     omega
    ·simp -implicitDefEqProofs only [go_sem]
    ·simp -implicitDefEqProofs only [go_sem]
    exact ⟨by omega,hg⟩
  ·rw [List.drop_of_length_le (by omega),List.all_nil] at hg
   have hw:∀ l ∈ lits,atomWf l.atom = true:=by
    intro l hl
    have:=List.all_eq_true.1 hg l hl
    simp only [atomOk,Bool.and_eq_true] at this
    exact this.2.1
   have hok:=(allTerms_ok hw).2
   have htt:∀ t ∈ termsOf lits,isTerm t = true:=by rw [termsOf_eq]; exact termParts_terms hok
   simp -implicitDefEqProofs only [go_sem,h1]
   refine atCall [] (c_spec_l8Terms lits hl1 hw) ?_ ?_ <;> simp -implicitDefEqProofs only [go_sem]
   refine atCall [] (c_spec_SigOk s) ?_ ?_ <;> simp -implicitDefEqProofs only [go_sem]
   cases h2:sigOk s
   ·simp -implicitDefEqProofs only [go_sem]
    refine fin1' ?_
    simp -implicitDefEqProofs only [go_sem]
   ·simp -implicitDefEqProofs only [go_sem]
    rcases Classical.em (((termsOf lits).length:Int) ≤ 24) with h3 | h3
    ·have h3':(termsOf lits).length ≤ 24:=by omega
     have e:numsOf s lits = (termsOf lits).filter (isNumber s):=rfl
     simp -implicitDefEqProofs only [go_sem,h3]
     refine atCall [] (c_spec_l8Nums s (termsOf lits) h2 htt (by omega)) ?_ ?_ <;> simp -implicitDefEqProofs only [go_sem]
     refine fin1' ?_
     simp -implicitDefEqProofs only [go_sem]
     simp only [hg,h3',e,decide_true,Bool.true_and]
     congr 2
     exact decide_eq_decide.2 (by omega)
    ·have h3':¬ (termsOf lits).length ≤ 24:=by omega
     simp -implicitDefEqProofs only [go_sem,h3]
     refine fin1' ?_
     simp -implicitDefEqProofs only [go_sem]
     all_goals (simp [h3']; done)
theorem c_spec_BothOk (s:Sig) (lits:List LitD):C E.P 9 [av (cSig s),lv (rowsLit lits)] [] (Eq2 (bv (bothOk s lits)) []):=by
 have hLB:=LB_eq
 refine C_goS (nt:=13) (rs:=[.tmp 4]) hm Tryz.func9 rfl rfl rfl rfl rfl (fun hl he=>?_)
 simp -implicitDefEqProofs only [go_sem] at hl ⊢
 rcases Classical.em ((lits.length:Int) ≤ 6) with h | h
 ·have h':lits.length ≤ 6:=by omega
  simp -implicitDefEqProofs only [go_sem,h]
  refine atCall [] (c_spec_l8Right s lits (by omega)) ?_ ?_ <;> simp -implicitDefEqProofs only [go_sem]
  refine fin1' ?_
  simp -implicitDefEqProofs only [go_sem]
  simp only [bothOk,h',decide_true,Bool.and_true,Bool.and_assoc]
 ·have h':¬ lits.length ≤ 6:=by omega
  simp -implicitDefEqProofs only [go_sem,h]
  refine fin1' ?_
  simp -implicitDefEqProofs only [go_sem]
  all_goals (simp [bothOk,h']; done)
end Go.Proofs.YtpidddienjoleaaGreat
