/-
  The walks of constraints and their certificates. A step towards the exact laws.
-/
import Derived.Test.YtpidddienjoleaaGreatKAH
import Derived.Test.YtpidddienjoleaaGreatKAE
set_option linter.unusedVariables false
set_option linter.unusedSimpArgs false
namespace Go.Proofs.YtpidddienjoleaaGreat
open Go.Eng Go.Mod
open Int renaming reduceEq → Z1,reduceLT → Z2,reduceLE → Z3,reduceToNat → Z4
set_option maxRecDepth 100000
set_option maxHeartbeats 400000
theorem c_impl_isCoef (n:Int):C E.P 187 [iv n] [] (Eq2 (bv (isCoef n)) []):=by
 have hLB:=LB_eq
 refine C_goS (nt:=5) (rs:=[.tmp 2]) hm Tryz.func187 rfl rfl rfl rfl rfl (fun hl he=>?_)
 simp -implicitDefEqProofs only [go_sem] at hl ⊢
 refine atCall [] (c_impl_within n (-1000000) 1000000) ?_ ?_ <;> simp -implicitDefEqProofs only [go_sem]
 refine fin1' ?_
 simp -implicitDefEqProofs only [go_sem]
 all_goals (simp [isCoef]; done)
theorem c_impl_LinOk (l:Lin):C E.P 130 [av (cLin l)] [] (Eq2 (bv (linOk l)) []):=by
 have hLB:=LB_eq
 refine C_goS (nt:=25) (rs:=[.tmp 2]) hm Tryz.func130 rfl rfl rfl rfl rfl (fun hl he=>?_)
 simp -implicitDefEqProofs only [go_sem] at hl ⊢
 refine loop_go1 hm (fun (i:Nat)=> i ≤ l.coefs.length ∧ l.coefs.all isCoef = (l.coefs.drop i).all isCoef) (fun (i:Nat)=> ⟨mkS 25 .any [(1,.ptr 0 0),(6,lv (rowsI l.coefs)),(7,iv l.coefs.length),(8,iv i)],[some (.box (pvs (cLin l)))]⟩) (fun (i:Nat)=> l.coefs.length - i) (0) ?_ (weakS [some 0] ?_ ?_ rfl rfl) ?_
 rotate_left
 ·simp -implicitDefEqProofs only [go_sem]
 ·simp -implicitDefEqProofs only [go_sem]
 rotate_left
 ·simp
 ·rintro i ⟨hi,hg⟩
  rcases Classical.em (i < l.coefs.length) with h1 | h1
  ·rw [List.drop_eq_getElem_cons h1,List.all_cons] at hg
   simp -implicitDefEqProofs only [go_sem,h1]
   refine atCall [] (c_impl_isCoef l.coefs[i]) ?_ ?_ <;> simp -implicitDefEqProofs only [go_sem]
   cases h2:isCoef l.coefs[i]
   ·rw [h2,Bool.false_and] at hg
    have e:linOk l = false:=by simp [linOk,hg]
    simp -implicitDefEqProofs only [go_sem]
    refine fin1' ?_
    simp -implicitDefEqProofs only [go_sem]
    all_goals (simp [e]; done)
   ·rw [h2,Bool.true_and] at hg
    simp -implicitDefEqProofs only [go_sem]
    refine ⟨by omega,?_⟩
    refine ⟨i + 1,?_,?_,weakS [some 0] ?_ ?_ rfl rfl⟩
    rotate_left
    ·show _ < _
     omega
    ·simp -implicitDefEqProofs only [go_sem]
    ·simp -implicitDefEqProofs only [go_sem]
    exact ⟨by omega,hg⟩
  ·rw [List.drop_of_length_le (by omega),List.all_nil] at hg
   rcases Classical.em ((l.coefs.length:Int) = 4) with h3 | h3
   ·have h3':l.coefs.length = 4:=by omega
    have k3:=eq_true h3
    simp -implicitDefEqProofs only [go_sem,h1,k3]
    refine atCall [] (c_impl_isCoef l.bound) ?_ ?_ <;> simp -implicitDefEqProofs only [go_sem]
    refine fin1' ?_
    simp -implicitDefEqProofs only [go_sem]
    all_goals (simp [linOk,hg,h3']; done)
   ·have h3':¬ l.coefs.length = 4:=by omega
    simp -implicitDefEqProofs only [go_sem,h1,h3]
    refine fin1' ?_
    simp -implicitDefEqProofs only [go_sem]
    all_goals (simp [linOk,hg,h3']; done)
theorem c_impl_LinNot (l:Lin):C E.P 120 [av (cLin l)] [] (Eq2 (av (cLin (linNot l))) []):=by
 have hLB:=LB_eq
 refine C_goS (nt:=33) (rs:=[.cell 2 66]) hm Tryz.func120 rfl rfl rfl rfl rfl (fun hl he=>?_)
 simp -implicitDefEqProofs only [go_sem] at hl ⊢
 refine atCall [] (c_impl_LinOk l) ?_ ?_ <;> simp -implicitDefEqProofs only [go_sem]
 cases h:linOk l
 ·simp -implicitDefEqProofs only [go_sem]
  refine fin1' ?_
  simp -implicitDefEqProofs only [go_sem]
  all_goals (simp [linNot,h]; done)
 ·obtain ⟨h4,hc,hb⟩:=linOk_iff.1 h
  have e:linNot l = ⟨l.coefs.map fun c=>-c,-l.bound,!l.strict⟩:=by simp [linNot,h]
  simp -implicitDefEqProofs only [go_sem]
  refine ⟨by omega,?_⟩
  refine loop_go1 hm (fun (i:Nat)=> i ≤ l.coefs.length) (fun (i:Nat)=> ⟨mkS 33 .any [(2,.ptr 0 0),(3,.ptr 1 0),(18,lv (rowsI l.coefs)),(19,iv l.coefs.length),(20,iv i)],[some (.box (pvs (cLin lin0))),some (.box [.acc 2,.d (.val (.int .i64 (-l.bound))),.d (.val (.bool (!l.strict)))]),some (.acc 3 (rowsI ((l.coefs.take i).map fun c=>-c)))]⟩) (fun (i:Nat)=> l.coefs.length - i) (0) ?_ (weakS [some 1,some 2,none] ?_ ?_ rfl rfl) ?_
  rotate_left
  ·simp -implicitDefEqProofs only [go_sem]
  ·simp -implicitDefEqProofs only [go_sem]
  rotate_left
  ·omega
  ·rintro i hi
   rcases Classical.em (i < l.coefs.length) with h1 | h1
   ·have hn:=hc l.coefs[i] (List.getElem_mem h1)
    simp -implicitDefEqProofs only [go_sem,h1]
    refine ⟨by omega,by omega,by omega,?_⟩
    refine ⟨i + 1,?_,?_,weakS [some 0,some 1,some 3] ?_ ?_ rfl rfl⟩
    rotate_left
    ·show _ < _
     omega
    ·simp -implicitDefEqProofs only [go_sem]
    ·simp -implicitDefEqProofs only [go_sem]
     all_goals ((rw [List.take_add_one,List.getElem?_eq_getElem h1,List.map_append,← rowsI_app]; rfl))
    exact h1
   ·simp -implicitDefEqProofs only [go_sem,h1]
    refine fin1' ?_
    simp -implicitDefEqProofs only [go_sem]
    rw [List.take_of_length_le (by omega),e]
    simp []
theorem c_impl_isSystem_1 (l:Lin):C E.P 129 [av (cLin l)] [] (Eq2 (bv (!linOk l)) []):=by
 have hLB:=LB_eq
 refine C_goS (nt:=6) (rs:=[.tmp 2]) hm Tryz.func129 rfl rfl rfl rfl rfl (fun hl he=>?_)
 simp -implicitDefEqProofs only [go_sem] at hl ⊢
 refine atCall [] (c_impl_LinOk l) ?_ ?_ <;> simp -implicitDefEqProofs only [go_sem]
 refine fin1' ?_
 simp -implicitDefEqProofs only [go_sem]
theorem c_impl_isSystem (ls:List Lin):C E.P 57 [lv (rowsLin ls)] [] (Eq2 (bv (isSystem ls)) []):=by
 have hLB:=LB_eq
 refine C_goS (nt:=11) (rs:=[.tmp 2]) hm Tryz.func57 rfl rfl rfl rfl rfl (fun hl he=>?_)
 simp -implicitDefEqProofs only [go_sem] at hl ⊢
 rcases Classical.em ((ls.length:Int) ≤ 20) with h | h
 ·have h':ls.length ≤ 20:=by omega
  simp -implicitDefEqProofs only [go_sem,h]
  refine atCall [] (c_ContainsFunc_Lin 129 [] rfl (fun l=>!linOk l) ls (fun l _=>c_impl_isSystem_1 l)) ?_ ?_ <;> simp -implicitDefEqProofs only [go_sem]
  refine fin1' ?_
  simp -implicitDefEqProofs only [go_sem]
  all_goals (simp [isSystem,h',List.all_eq_not_any_not]; done)
 ·have h':¬ ls.length ≤ 20:=by omega
  simp -implicitDefEqProofs only [go_sem,h]
  refine fin1' ?_
  simp -implicitDefEqProofs only [go_sem]
  all_goals (simp [isSystem,h']; done)
end Go.Proofs.YtpidddienjoleaaGreat
