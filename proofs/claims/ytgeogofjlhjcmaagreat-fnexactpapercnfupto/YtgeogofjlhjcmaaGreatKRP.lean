/-
  The reference: the walks of atoms and literals. A step towards the exact laws.
-/
import Derived.Test.YtgeogofjlhjcmaaGreatKRI
import Derived.Test.YtgeogofjlhjcmaaGreatKRE
set_option linter.unusedVariables false
set_option linter.unusedSimpArgs false
namespace Go.Proofs.YtgeogofjlhjcmaaGreat
open Go.Eng Go.Mod
open Int renaming reduceEq → Z1,reduceLT → Z2,reduceLE → Z3,reduceToNat → Z4
set_option maxRecDepth 100000
set_option maxHeartbeats 400000
theorem within_no {n lo hi:Int} (h:within n lo hi = false):n < lo ∨ hi < n:=by
 simp only [within,Bool.and_eq_false_iff,decide_eq_false_iff_not] at h
 omega
theorem atomWf_2 {a:Atom} (k2:a.kind = 2):atomWf a = (isNone a.A && (isNone a.B && (within a.nums.length 1 4 && (decide (a.times.length = a.nums.length) && (within a.bound (-1000) 1000 && numsGo none a.nums a.times))))):=by simp [atomWf,k2]
theorem c_spec_l6Sum_yes (a:Atom) (e:atomWf a = numsGo none a.nums a.times) (h1:isNone a.A = true) (h2:isNone a.B = true) (h4:a.nums.length = a.times.length) (h5:¬ (a.nums.length:Int) < 1) (h6:¬ (4:Int) < (a.nums.length:Int)) (h8:¬ a.bound < -1000) (h9:¬ 1000 < a.bound):C E.P 192 [av (cAtom a)] [] (Eq2 (bv (atomWf a)) []):=by
 have k4:=eq_true h4
 have hLB:=LB_eq
 refine C_goS (nt:=97) (rs:=[.tmp 2]) hm Tryz.func192 rfl rfl rfl rfl rfl (fun hl he=>?_)
 simp -implicitDefEqProofs only [go_sem] at hl ⊢
 refine atCall [] (c_spec_l6None a.A) ?_ ?_ <;> simp -implicitDefEqProofs only [go_sem,h1]
 refine atCall [] (c_spec_l6None a.B) ?_ ?_ <;> simp -implicitDefEqProofs only [go_sem,h2,k4,h5,h6,h8,h9]
 refine loop_go1 hm (fun (i:Nat)=> i ≤ a.nums.length ∧ atomWf a = numsGo (prevTerm a.nums i) (a.nums.drop i) (a.times.drop i) ∧ ∀ q,prevTerm a.nums i = some q → isTerm q = true) (fun (i:Nat)=> ⟨mkS 97 .any [(1,.ptr 0 0),(3,iv i)],[some (.box (pvs (cAtom a)))]⟩) (fun (i:Nat)=> a.nums.length - i) (0) ?_ (weakS [some 0] ?_ ?_ rfl rfl) ?_
 rotate_left
 ·simp -implicitDefEqProofs only [go_sem]
 ·simp -implicitDefEqProofs only [go_sem]
 rotate_left
 ·exact ⟨by omega,e,fun q h=>by cases h⟩
 ·rintro i ⟨hi,hg,hp⟩
  rcases Classical.em (i < a.nums.length) with g1 | g1
  ·have g2:i < a.times.length:=by omega
   rw [numsGo_drop g1 g2] at hg
   simp -implicitDefEqProofs only [go_sem,g1,g2]
   refine atCall [] (c_spec_l4Right a.nums[i]) ?_ ?_ <;> simp -implicitDefEqProofs only [go_sem]
   cases q1:isTerm a.nums[i]
   ·rw [q1,Bool.false_and] at hg
    simp -implicitDefEqProofs only [go_sem]
    with_reducible refine ind_andM (by kernel_rfl) ?_
    refine fin1' ?_
    simp -implicitDefEqProofs only [go_sem]
    all_goals (simp [hg]; done)
   ·rw [q1,Bool.true_and] at hg
    simp -implicitDefEqProofs only [go_sem]
    rcases Classical.em (a.times[i] = 0) with q3 | q3
    ·have k3:=eq_true q3
     have hg:atomWf a = false:=by rw [hg]; simp [q3]
     simp -implicitDefEqProofs only [go_sem,k3]
     with_reducible refine ind_andM (by kernel_rfl) ?_
     refine fin1' ?_
     simp -implicitDefEqProofs only [go_sem]
     all_goals (simp [hg]; done)
    ·simp -implicitDefEqProofs only [go_sem,q3]
     cases q2:within a.times[i] (-50) 50
     ·have hg:atomWf a = false:=by rw [hg,q2]; rfl
      rcases Classical.em (a.times[i] < -50) with q5 | q5
      ·simp -implicitDefEqProofs only [go_sem,q5]
       with_reducible refine ind_andM (by kernel_rfl) ?_
       refine fin1' ?_
       simp -implicitDefEqProofs only [go_sem]
       all_goals (simp [hg]; done)
      ·have q6:50 < a.times[i]:=by have:=within_no q2; omega
       simp -implicitDefEqProofs only [go_sem,q5,q6]
       with_reducible refine ind_andM (by kernel_rfl) ?_
       refine fin1' ?_
       simp -implicitDefEqProofs only [go_sem]
       all_goals (simp [hg]; done)
     ·have q2':=withinB_iff.1 q2
      have q5:¬ a.times[i] < -50:=by omega
      have q6:¬ 50 < a.times[i]:=by omega
      rw [q2,Bool.true_and] at hg
      simp only [q3,not_false_eq_true,ne_eq,decide_true,Bool.true_and] at hg
      cases i with
      | zero=>
        simp only [prevTerm,Bool.true_and] at hg
        simp -implicitDefEqProofs only [go_sem,q5,q6,Int.lt_irrefl]
        with_reducible refine ind_andM (by kernel_rfl) ?_
        repeat (with_reducible apply And.intro; case left=>omega)
        refine ⟨0 + 1,?_,?_,weakS [some 0] ?_ ?_ rfl rfl⟩
        rotate_left
        ·show _ < _
         omega
        ·simp -implicitDefEqProofs only [go_sem]
         all_goals (simp [*]; done)
        ·simp -implicitDefEqProofs only [go_sem]
        refine ⟨by omega,?_,?_⟩
        ·rw [hg,prev_step g1]
        ·intro q hq
         rw [prev_step g1] at hq
         cases hq
         exact q1
      | succ j=>
        have hj:j < a.nums.length:=by omega
        have e1:((j:Int) + 1 - 1) = (j:Int):=by omega
        have e2:(0:Int) < (j:Int) + 1:=by omega
        have et:((j:Int) + 1).toNat = j + 1:=by omega
        have tp:=hp _ (prev_step hj)
        rw [prev_step hj] at hg
        simp only at hg
        simp -implicitDefEqProofs only [go_sem,q5,q6,e1,e2,hj]
        repeat (with_reducible apply And.intro; case left=>omega)
        refine atCall [] (c_spec_l4Text' a.nums[j] tp) ?_ ?_ <;> simp -implicitDefEqProofs only [go_sem,et,g1]
        repeat (with_reducible apply And.intro; case left=>omega)
        refine atCall [] (c_spec_l4Text' a.nums[j + 1] q1) ?_ ?_ <;> simp -implicitDefEqProofs only [go_sem]
        with_reducible refine ind_andM (by kernel_rfl) ?_
        cases q4:sLess (termText a.nums[j]) (termText a.nums[j + 1])
        ·rw [q4,Bool.false_and] at hg
         have h5:Op.bytesLess (termText a.nums[j]) (termText a.nums[j + 1]) = false:=q4
         simp -implicitDefEqProofs only [go_sem,h5]
         refine fin1' ?_
         simp -implicitDefEqProofs only [go_sem]
         all_goals (simp [hg]; done)
        ·rw [q4,Bool.true_and] at hg
         have h5:Op.bytesLess (termText a.nums[j]) (termText a.nums[j + 1]) = true:=q4
         simp -implicitDefEqProofs only [go_sem,h5]
         repeat (with_reducible apply And.intro; case left=>omega)
         refine ⟨j + 1 + 1,?_,?_,weakS [some 0] ?_ ?_ rfl rfl⟩
         rotate_left
         ·show _ < _
          omega
         ·simp -implicitDefEqProofs only [go_sem]
         ·simp -implicitDefEqProofs only [go_sem]
         refine ⟨by omega,?_,?_⟩
         ·rw [hg,prev_step g1]
         ·intro q hq
          rw [prev_step g1] at hq
          cases hq
          exact q1
  ·rw [List.drop_of_length_le (by omega),List.drop_of_length_le (by omega)] at hg
   have hg:atomWf a = true:=by rw [hg]; cases prevTerm a.nums i <;> rfl
   simp -implicitDefEqProofs only [go_sem,g1]
   refine fin1' ?_
   simp -implicitDefEqProofs only [go_sem]
   all_goals (simp [hg]; done)
theorem c_spec_l6Sum_no (a:Atom) (k2:a.kind = 2) (hno:¬ (isNone a.A = true ∧ isNone a.B = true ∧ a.nums.length = a.times.length ∧ within a.nums.length 1 4 = true ∧ within a.bound (-1000) 1000 = true)):C E.P 192 [av (cAtom a)] [] (Eq2 (bv (atomWf a)) []):=by
 have e:=atomWf_2 k2
 have hLB:=LB_eq
 refine C_goS (nt:=97) (rs:=[.tmp 2]) hm Tryz.func192 rfl rfl rfl rfl rfl (fun hl he=>?_)
 simp -implicitDefEqProofs only [go_sem] at hl ⊢
 refine atCall [] (c_spec_l6None a.A) ?_ ?_ <;> simp -implicitDefEqProofs only [go_sem]
 cases h1:isNone a.A
 ·simp -implicitDefEqProofs only [go_sem]
  refine fin1' ?_
  simp -implicitDefEqProofs only [go_sem]
  all_goals (simp [e,h1]; done)
 ·simp -implicitDefEqProofs only [go_sem]
  refine atCall [] (c_spec_l6None a.B) ?_ ?_ <;> simp -implicitDefEqProofs only [go_sem]
  cases h2:isNone a.B
  ·simp -implicitDefEqProofs only [go_sem]
   refine fin1' ?_
   simp -implicitDefEqProofs only [go_sem]
   all_goals (simp [e,h1,h2]; done)
  ·simp -implicitDefEqProofs only [go_sem]
   rcases Classical.em (a.nums.length = a.times.length) with h4 | h4
   ·have h4':a.times.length = a.nums.length:=h4.symm
    have k4:=eq_true h4
    simp -implicitDefEqProofs only [go_sem,k4]
    cases h3:within a.nums.length 1 4
    ·have e0:atomWf a = false:=by simp [e,h3]
     rcases Classical.em ((a.nums.length:Int) < 1) with h5 | h5
     ·simp -implicitDefEqProofs only [go_sem,h5]
      refine fin1' ?_
      simp -implicitDefEqProofs only [go_sem]
      all_goals (simp [e0]; done)
     ·have h6:(4:Int) < (a.nums.length:Int):=by have:=within_no h3; omega
      simp -implicitDefEqProofs only [go_sem,h5,h6]
      refine fin1' ?_
      simp -implicitDefEqProofs only [go_sem]
      all_goals (simp [e0]; done)
    ·have h3':=withinB_iff.1 h3
     have h5:¬ (a.nums.length:Int) < 1:=by omega
     have h6:¬ (4:Int) < (a.nums.length:Int):=by omega
     simp -implicitDefEqProofs only [go_sem,h5,h6]
     cases h7:within a.bound (-1000) 1000
     ·have e0:atomWf a = false:=by simp [e,h7]
      rcases Classical.em (a.bound < -1000) with h8 | h8
      ·simp -implicitDefEqProofs only [go_sem,h8]
       refine fin1' ?_
       simp -implicitDefEqProofs only [go_sem]
       all_goals (simp [e0]; done)
      ·have h9:1000 < a.bound:=by have:=within_no h7; omega
       simp -implicitDefEqProofs only [go_sem,h8,h9]
       refine fin1' ?_
       simp -implicitDefEqProofs only [go_sem]
       all_goals (simp [e0]; done)
     ·exact absurd ⟨h1,h2,h4,h3,h7⟩ hno
   ·have h4':¬ a.times.length = a.nums.length:=fun h=>h4 h.symm
    simp -implicitDefEqProofs only [go_sem,h4]
    refine fin1' ?_
    simp -implicitDefEqProofs only [go_sem]
    all_goals (simp [e,h4']; done)
theorem c_spec_l6Sum (a:Atom) (k2:a.kind = 2):C E.P 192 [av (cAtom a)] [] (Eq2 (bv (atomWf a)) []):=by
 rcases Classical.em (isNone a.A = true ∧ isNone a.B = true ∧ a.nums.length = a.times.length ∧ within a.nums.length 1 4 = true ∧ within a.bound (-1000) 1000 = true) with h | h
 ·obtain ⟨h1,h2,h4,h3,h7⟩:=h
  have h3':=withinB_iff.1 h3
  have h7':=withinB_iff.1 h7
  have h4':=h4.symm
  exact c_spec_l6Sum_yes a (by simp [atomWf_2 k2,h1,h2,h3,h4',h7]) h1 h2 h4 (by omega) (by omega) (by omega) (by omega)
 ·exact c_spec_l6Sum_no a k2 h
theorem c_spec_l6Right (a:Atom):C E.P 157 [av (cAtom a)] [] (Eq2 (bv (atomWf a)) []):=by
 have hLB:=LB_eq
 refine C_goS (nt:=43) (rs:=[.tmp 2]) hm Tryz.func157 rfl rfl rfl rfl rfl (fun hl he=>?_)
 simp -implicitDefEqProofs only [go_sem] at hl ⊢
 rcases Classical.em (a.kind = 2) with k2 | k2
 ·have k:=eq_true k2
  simp -implicitDefEqProofs only [go_sem,k]
  refine atCall [] (c_spec_l6Sum a k2) ?_ ?_ <;> simp -implicitDefEqProofs only [go_sem]
  refine fin1' ?_
  simp -implicitDefEqProofs only [go_sem]
 ·simp -implicitDefEqProofs only [go_sem,k2]
  rcases Classical.em (a.kind = 1) with k1 | k1
  ·have e:atomWf a = (isTerm a.A && (isTerm a.B && (decide (a.nums.length = 0) && (decide (a.times.length = 0) && (decide (a.bound = 0) && !a.strict))))):=by simp [atomWf,k1]
   have k:=eq_true k1
   simp -implicitDefEqProofs only [go_sem,k]
   refine atCall [] (c_spec_l4Right a.A) ?_ ?_ <;> simp -implicitDefEqProofs only [go_sem]
   cases h1:isTerm a.A
   ·simp -implicitDefEqProofs only [go_sem]
    refine fin1' ?_
    simp -implicitDefEqProofs only [go_sem]
    all_goals (simp [e,h1]; done)
   ·simp -implicitDefEqProofs only [go_sem]
    refine atCall [] (c_spec_l4Right a.B) ?_ ?_ <;> simp -implicitDefEqProofs only [go_sem]
    cases h2:isTerm a.B
    ·simp -implicitDefEqProofs only [go_sem]
     refine fin1' ?_
     simp -implicitDefEqProofs only [go_sem]
     all_goals (simp [e,h1,h2]; done)
    ·simp -implicitDefEqProofs only [go_sem]
     rcases Classical.em ((a.nums.length:Int) = 0) with h3 | h3
     ·have h3':a.nums.length = 0:=by omega
      have k3:=eq_true h3
      simp -implicitDefEqProofs only [go_sem,k3]
      rcases Classical.em ((a.times.length:Int) = 0) with h4 | h4
      ·have h4':a.times.length = 0:=by omega
       have k4:=eq_true h4
       simp -implicitDefEqProofs only [go_sem,k4]
       rcases Classical.em (a.bound = 0) with h5 | h5
       ·have k5:=eq_true h5
        simp -implicitDefEqProofs only [go_sem,k5]
        refine fin1' ?_
        simp -implicitDefEqProofs only [go_sem]
        all_goals (simp [e,h1,h2,h3',h4',h5]; done)
       ·simp -implicitDefEqProofs only [go_sem,h5]
        refine fin1' ?_
        simp -implicitDefEqProofs only [go_sem]
        all_goals (simp [e,h1,h2,h3',h4',h5]; done)
      ·have h4':¬ a.times.length = 0:=by omega
       simp -implicitDefEqProofs only [go_sem,h4]
       refine fin1' ?_
       simp -implicitDefEqProofs only [go_sem]
       all_goals (simp [e,h1,h2,h3',h4']; done)
     ·have h3':¬ a.nums.length = 0:=by omega
      simp -implicitDefEqProofs only [go_sem,h3]
      refine fin1' ?_
      simp -implicitDefEqProofs only [go_sem]
      all_goals (simp [e,h1,h2,h3']; done)
  ·simp -implicitDefEqProofs only [go_sem,k1]
   refine fin1' ?_
   simp -implicitDefEqProofs only [go_sem]
   all_goals (simp [atomWf,k1,k2]; done)
end Go.Proofs.YtgeogofjlhjcmaaGreat
