/-
  The walks of constraints and their certificates. A step towards the exact laws.
-/
import Derived.Test.YtpidddienjoleaaGreatKAH
import Derived.Test.YtpidddienjoleaaGreatKAE
set_option linter.unusedVariables false
set_option linter.unusedSimpArgs false
namespace Go.Proofs.YtpidddienjoleaaGreat
open Go.Eng Go.Mod
open Int renaming reduceEq → Z1,reduceLT → Z2,reduceLE → Z3,reduceToNat → Z4
set_option maxRecDepth 100000
set_option maxHeartbeats 400000
theorem c_impl_isCoef (n:Int):C E.P 187 [iv n] [] (Eq2 (bv (isCoef n)) []):=by
 have hLB:=LB_eq
 refine C_goS (nt:=5) (rs:=[.tmp 2]) hm Tryz.func187 rfl rfl rfl rfl rfl (fun hl he=>?_)
 simp -implicitDefEqProofs only [go_sem] at hl ⊢
 refine atCall [] (c_impl_within n (-1000000) 1000000) ?_ ?_ <;> simp -implicitDefEqProofs only [go_sem]
 refine fin1' ?_
 simp -implicitDefEqProofs only [go_sem]
 all_goals (simp [isCoef]; done)
theorem c_impl_LinOk (l:Lin):C E.P 130 [av (cLin l)] [] (Eq2 (bv (linOk l)) []):=by
 have hLB:=LB_eq
 refine C_goS (nt:=25) (rs:=[.tmp 2]) hm Tryz.func130 rfl rfl rfl rfl rfl (fun hl he=>?_)
 simp -implicitDefEqProofs only [go_sem] at hl ⊢
 refine loop_go1 hm (fun (i:Nat)=> i ≤ l.coefs.length ∧ l.coefs.all isCoef = (l.coefs.drop i).all isCoef) (fun (i:Nat)=> ⟨mkS 25 .any [(1,.ptr 0 0),(6,lv (rowsI l.coefs)),(7,iv l.coefs.length),(8,iv i)],[some (.box (pvs (cLin l)))]⟩) (fun (i:Nat)=> l.coefs.length - i) (0) ?_ (weakS [some 0] ?_ ?_ rfl rfl) ?_
 rotate_left
 ·simp -implicitDefEqProofs only [go_sem]
 ·simp -implicitDefEqProofs only [go_sem]
 rotate_left
 ·simp
 ·rintro i ⟨hi,hg⟩
  rcases Classical.em (i < l.coefs.length) with h1 | h1
  ·rw [List.drop_eq_getElem_cons h1,List.all_cons] at hg
   simp -implicitDefEqProofs only [go_sem,h1]
   refine atCall [] (c_impl_isCoef l.coefs[i]) ?_ ?_ <;> simp -implicitDefEqProofs only [go_sem]
   cases h2:isCoef l.coefs[i]
   ·rw [h2,Bool.false_and] at hg
    have e:linOk l = false:=by simp [linOk,hg]
    simp -implicitDefEqProofs only [go_sem]
    refine fin1' ?_
    simp -implicitDefEqProofs only [go_sem]
    all_goals (simp [e]; done)
   ·rw [h2,Bool.true_and] at hg
    simp -implicitDefEqProofs only [go_sem]
    refine ⟨by omega,?_⟩
    refine ⟨i + 1,?_,?_,weakS [some 0] ?_ ?_ rfl rfl⟩
    rotate_left
    ·show _ < _
     omega
    ·simp -implicitDefEqProofs only [go_sem]
    ·simp -implicitDefEqProofs only [go_sem]
    exact ⟨by omega,hg⟩
  ·rw [List.drop_of_length_le (by omega),List.all_nil] at hg
   rcases Classical.em ((l.coefs.length:Int) = 4) with h3 | h3
   ·have h3':l.coefs.length = 4:=by omega
    have k3:=eq_true h3
    simp -implicitDefEqProofs only [go_sem,h1,k3]
    refine atCall [] (c_impl_isCoef l.bound) ?_ ?_ <;> simp -implicitDefEqProofs only [go_sem]
    refine fin1' ?_
    simp -implicitDefEqProofs only [go_sem]
    all_goals (simp [linOk,hg,h3']; done)
   ·have h3':¬ l.coefs.length = 4:=by omega
    simp -implicitDefEqProofs only [go_sem,h1,h3]
    refine fin1' ?_
    simp -implicitDefEqProofs only [go_sem]
    all_goals (simp [linOk,hg,h3']; done)
theorem c_impl_LinNot (l:Lin):C E.P 120 [av (cLin l)] [] (Eq2 (av (cLin (linNot l))) []):=by
 have hLB:=LB_eq
 refine C_goS (nt:=33) (rs:=[.cell 2 66]) hm Tryz.func120 rfl rfl rfl rfl rfl (fun hl he=>?_)
 simp -implicitDefEqProofs only [go_sem] at hl ⊢
 refine atCall [] (c_impl_LinOk l) ?_ ?_ <;> simp -implicitDefEqProofs only [go_sem]
 cases h:linOk l
 ·simp -implicitDefEqProofs only [go_sem]
  refine fin1' ?_
  simp -implicitDefEqProofs only [go_sem]
  all_goals (simp [linNot,h]; done)
 ·obtain ⟨h4,hc,hb⟩:=linOk_iff.1 h
  have e:linNot l = ⟨l.coefs.map fun c=>-c,-l.bound,!l.strict⟩:=by simp [linNot,h]
  simp -implicitDefEqProofs only [go_sem]
  refine ⟨by omega,?_⟩
  refine loop_go1 hm (fun (i:Nat)=> i ≤ l.coefs.length) (fun (i:Nat)=> ⟨mkS 33 .any [(2,.ptr 0 0),(3,.ptr 1 0),(18,lv (rowsI l.coefs)),(19,iv l.coefs.length),(20,iv i)],[some (.box (pvs (cLin lin0))),some (.box [.acc 2,.d (.val (.int .i64 (-l.bound))),.d (.val (.bool (!l.strict)))]),some (.acc 3 (rowsI ((l.coefs.take i).map fun c=>-c)))]⟩) (fun (i:Nat)=> l.coefs.length - i) (0) ?_ (weakS [some 1,some 2,none] ?_ ?_ rfl rfl) ?_
  rotate_left
  ·simp -implicitDefEqProofs only [go_sem]
  ·simp -implicitDefEqProofs only [go_sem]
  rotate_left
  ·omega
  ·rintro i hi
   rcases Classical.em (i < l.coefs.length) with h1 | h1
   ·have hn:=hc l.coefs[i] (List.getElem_mem h1)
    simp -implicitDefEqProofs only [go_sem,h1]
    refine ⟨by omega,by omega,by omega,?_⟩
    refine ⟨i + 1,?_,?_,weakS [some 0,some 1,some 3] ?_ ?_ rfl rfl⟩
    rotate_left
    ·show _ < _
     omega
    ·simp -implicitDefEqProofs only [go_sem]
    ·simp -implicitDefEqProofs only [go_sem]
     all_goals ((rw [List.take_add_one,List.getElem?_eq_getElem h1,List.map_append,← rowsI_app]; rfl))
    exact h1
   ·simp -implicitDefEqProofs only [go_sem,h1]
    refine fin1' ?_
    simp -implicitDefEqProofs only [go_sem]
    rw [List.take_of_length_le (by omega),e]
    simp []
theorem c_impl_isFlat_1 (c:Int):C E.P 251 [iv c] [] (Eq2 (bv (decide (c ≠ 0))) []):=by
 have hLB:=LB_eq
 refine C_goS (nt:=5) (rs:=[.tmp 2]) hm Tryz.func251 rfl rfl rfl rfl rfl (fun hl he=>?_)
 simp -implicitDefEqProofs only [go_sem] at hl ⊢
 refine fin1' ?_
 simp -implicitDefEqProofs only [go_sem]
 all_goals (simp; done)
theorem flat_any (l:Lin):l.coefs.any (fun c=>decide (c ≠ 0)) = !flat l:=by
 simp [flat,List.all_eq_not_any_not]
theorem c_impl_isFlat (l:Lin):C E.P 216 [av (cLin l)] [] (Eq2 (bv (linOk l && flat l)) []):=by
 have hLB:=LB_eq
 refine C_goS (nt:=11) (rs:=[.tmp 2]) hm Tryz.func216 rfl rfl rfl rfl rfl (fun hl he=>?_)
 simp -implicitDefEqProofs only [go_sem] at hl ⊢
 refine atCall [] (c_impl_LinOk l) ?_ ?_ <;> simp -implicitDefEqProofs only [go_sem]
 cases h:linOk l
 ·simp -implicitDefEqProofs only [go_sem]
  refine fin1' ?_
  simp -implicitDefEqProofs only [go_sem]
 ·simp -implicitDefEqProofs only [go_sem]
  refine atCall [] (c_ContainsFunc_int 251 [] rfl (fun c=>decide (c ≠ 0)) l.coefs (fun c _=>c_impl_isFlat_1 c)) ?_ ?_ <;> simp -implicitDefEqProofs only [go_sem]
  refine fin1' ?_
  simp -implicitDefEqProofs only [go_sem]
  rw [flat_any]
  simp
theorem c_impl_LinBad (l:Lin):C E.P 161 [av (cLin l)] [] (Eq2 (bv (linBad l)) []):=by
 have hLB:=LB_eq
 refine C_goS (nt:=19) (rs:=[.tmp 2]) hm Tryz.func161 rfl rfl rfl rfl rfl (fun hl he=>?_)
 simp -implicitDefEqProofs only [go_sem] at hl ⊢
 refine atCall [] (c_impl_isFlat l) ?_ ?_ <;> simp -implicitDefEqProofs only [go_sem]
 cases h:linOk l && flat l
 ·have e:linBad l = false:=by
   simp only [linBad]
   rw [← Bool.and_assoc,h]
   rfl
  simp -implicitDefEqProofs only [go_sem]
  refine fin1' ?_
  simp -implicitDefEqProofs only [go_sem]
  all_goals (simp [e]; done)
 ·have e:linBad l = (decide (l.bound < 0) || (decide (l.bound = 0) && l.strict)):=by
   simp only [linBad]
   rw [← Bool.and_assoc,h]
   rfl
  rcases Classical.em (l.bound < 0) with h1 | h1
  ·simp -implicitDefEqProofs only [go_sem,h1]
   refine fin1' ?_
   simp -implicitDefEqProofs only [go_sem]
   all_goals (simp [e,h1]; done)
  ·rcases Classical.em (l.bound = 0) with h2 | h2
   ·simp -implicitDefEqProofs only [go_sem,Z2,h2]
    refine fin1' ?_
    simp -implicitDefEqProofs only [go_sem]
    all_goals (simp [e,h2]; done)
   ·simp -implicitDefEqProofs only [go_sem,h1,h2]
    refine fin1' ?_
    simp -implicitDefEqProofs only [go_sem]
    all_goals (simp [e,h1,h2]; done)
theorem c_impl_isSystem_1 (l:Lin):C E.P 129 [av (cLin l)] [] (Eq2 (bv (!linOk l)) []):=by
 have hLB:=LB_eq
 refine C_goS (nt:=6) (rs:=[.tmp 2]) hm Tryz.func129 rfl rfl rfl rfl rfl (fun hl he=>?_)
 simp -implicitDefEqProofs only [go_sem] at hl ⊢
 refine atCall [] (c_impl_LinOk l) ?_ ?_ <;> simp -implicitDefEqProofs only [go_sem]
 refine fin1' ?_
 simp -implicitDefEqProofs only [go_sem]
theorem c_impl_isSystem (ls:List Lin):C E.P 57 [lv (rowsLin ls)] [] (Eq2 (bv (isSystem ls)) []):=by
 have hLB:=LB_eq
 refine C_goS (nt:=11) (rs:=[.tmp 2]) hm Tryz.func57 rfl rfl rfl rfl rfl (fun hl he=>?_)
 simp -implicitDefEqProofs only [go_sem] at hl ⊢
 rcases Classical.em ((ls.length:Int) ≤ 20) with h | h
 ·have h':ls.length ≤ 20:=by omega
  simp -implicitDefEqProofs only [go_sem,h]
  refine atCall [] (c_ContainsFunc_Lin 129 [] rfl (fun l=>!linOk l) ls (fun l _=>c_impl_isSystem_1 l)) ?_ ?_ <;> simp -implicitDefEqProofs only [go_sem]
  refine fin1' ?_
  simp -implicitDefEqProofs only [go_sem]
  all_goals (simp [isSystem,h',List.all_eq_not_any_not]; done)
 ·have h':¬ ls.length ≤ 20:=by omega
  simp -implicitDefEqProofs only [go_sem,h]
  refine fin1' ?_
  simp -implicitDefEqProofs only [go_sem]
  all_goals (simp [isSystem,h']; done)
theorem c_impl_LinSum (a:Lin) (m:Int) (b:Lin) (n:Int):C E.P 250 [av (cLin a),iv m,av (cLin b),iv n] [] (Eq2 (.tup [av (cLin (linSum a m b n).1),bv (linSum a m b n).2]) []):=by
 have hLB:=LB_eq
 refine C_goS (nt:=87) (rs:=[.cell 8 66,.tmp 9]) hm Tryz.func250 rfl rfl rfl rfl rfl (fun hl he=>?_)
 simp -implicitDefEqProofs only [go_sem] at hl ⊢
 refine atCall [] (c_impl_LinOk a) ?_ ?_ <;> simp -implicitDefEqProofs only [go_sem]
 cases g1:linOk a
 ·simp -implicitDefEqProofs only [go_sem]
  refine fin1' ?_
  simp -implicitDefEqProofs only [go_sem]
  all_goals (simp [linSum,g1]; done)
 ·simp -implicitDefEqProofs only [go_sem]
  refine atCall [] (c_impl_LinOk b) ?_ ?_ <;> simp -implicitDefEqProofs only [go_sem]
  cases g2:linOk b
  ·simp -implicitDefEqProofs only [go_sem]
   refine fin1' ?_
   simp -implicitDefEqProofs only [go_sem]
   all_goals (simp [linSum,g1,g2]; done)
  ·simp -implicitDefEqProofs only [go_sem]
   refine atCall [] (c_impl_within m 0 1000000) ?_ ?_ <;> simp -implicitDefEqProofs only [go_sem]
   cases g3:within m 0 1000000
   ·simp -implicitDefEqProofs only [go_sem]
    refine fin1' ?_
    simp -implicitDefEqProofs only [go_sem]
    all_goals (simp [linSum,g1,g2,g3]; done)
   ·simp -implicitDefEqProofs only [go_sem]
    refine atCall [] (c_impl_within n 0 1000000) ?_ ?_ <;> simp -implicitDefEqProofs only [go_sem]
    cases g4:within n 0 1000000
    ·simp -implicitDefEqProofs only [go_sem]
     refine fin1' ?_
     simp -implicitDefEqProofs only [go_sem]
     all_goals (simp [linSum,g1,g2,g3,g4]; done)
    ·obtain ⟨hn1,hc1,hb1⟩:=linOk_iff.1 g1
     obtain ⟨hn2,hc2,hb2⟩:=linOk_iff.1 g2
     have h5:=withinB_iff.1 g3
     have h6:=withinB_iff.1 g4
     have p1:=mul_bound h5.1 h5.2 hb1
     have p2:=mul_bound h6.1 h6.2 hb2
     rcases Classical.em (0 < m) with t1 | t1
     ·cases t2:a.strict
      ·rcases Classical.em (0 < n) with t3 | t3
       ·simp -implicitDefEqProofs only [go_sem,t1,t3]
        repeat (with_reducible apply And.intro; case left=>omega)
        refine loop_go1 hm (fun (i:Nat)=> i ≤ a.coefs.length) (fun (i:Nat)=> ⟨mkS 87 .any [(1,iv m),(3,iv n),(4,.ptr 0 0),(6,.ptr 1 0),(8,.ptr 2 0),(10,.ptr 3 0),(57,iv a.coefs.length),(58,iv i)],[some (.box (pvs (cLin a))),some (.box (pvs (cLin b))),some (.box (pvs (cLin lin0))),some (.box [.acc 4,.d (.val (.int .i64 (m * a.bound + n * b.bound))),.d (.val (.bool b.strict))]),some (.acc 3 (rowsI (comb m n (a.coefs.take i) (b.coefs.take i))))]⟩) (fun (i:Nat)=> a.coefs.length - i) (0) ?_ (weakS [some 0,some 1,some 2,some 3,none] ?_ ?_ rfl rfl) ?_
        rotate_left
        ·simp -implicitDefEqProofs only [go_sem]
        ·simp -implicitDefEqProofs only [go_sem]
         all_goals (simp [comb, *])
        rotate_left
        ·omega
        ·rintro i hi
         rcases Classical.em (i < a.coefs.length) with h1 | h1
         ·have h2:i < b.coefs.length:=by omega
          have q1:=mul_bound h5.1 h5.2 (hc1 a.coefs[i] (List.getElem_mem h1))
          have q2:=mul_bound h6.1 h6.2 (hc2 b.coefs[i] (List.getElem_mem h2))
          have hlen:(comb m n (a.coefs.take i) (b.coefs.take i)).length ≤ 4:=by rw [comb_len (by simp; omega)]; simp; omega
          simp -implicitDefEqProofs only [go_sem,h1,h2]
          repeat (first | with_reducible refine ind_andM (by kernel_rfl) ?_ | (with_reducible apply And.intro; case left=>omega))
          refine ⟨i + 1,?_,?_,weakS [some 0,some 1,some 2,some 3,some 5] ?_ ?_ rfl rfl⟩
          rotate_left
          ·show _ < _
           omega
          ·simp -implicitDefEqProofs only [go_sem]
          ·simp -implicitDefEqProofs only [go_sem]
           all_goals ((rw [comb_snoc h1 h2,← rowsI_app]; rfl))
          exact h1
         ·rw [List.take_of_length_le (by omega),List.take_of_length_le (by omega)]
          have e2:linAdd a m b n = ⟨comb m n a.coefs b.coefs,m * a.bound + n * b.bound,b.strict⟩:=by simp [linAdd, *]
          simp -implicitDefEqProofs only [go_sem,h1]
          refine atLook [] [4] (c_impl_LinOk ⟨comb m n a.coefs b.coefs,m * a.bound + n * b.bound,b.strict⟩) rfl ?_ ?_ ?_
          ·(simp -implicitDefEqProofs only [go_sem]; repeat' (first | exact Vws.nil | apply Vws.cons | exact Vw.same (by first | rfl | simp -implicitDefEqProofs only [go_sem,Z1,Z2,Z3,Z4]) | exact Vw.acc rfl rfl | exact Vw.tre rfl rfl (by simp -implicitDefEqProofs only [go_sem,Z1,Z2,Z3,Z4]) | exact Vw.nil | apply Vw.agg | apply Vw.fn | refine Vw.box rfl rfl ?_))
          all_goals simp -implicitDefEqProofs only [go_sem]
          rw [linSum_eq g1 g2 g3 g4,linSum0,e2]
          cases h7:linOk ⟨comb m n a.coefs b.coefs,m * a.bound + n * b.bound,b.strict⟩
          ·simp -implicitDefEqProofs only [go_sem]
           refine fin1' ?_
           simp -implicitDefEqProofs only [go_sem]
           all_goals (simp; done)
          ·simp -implicitDefEqProofs only [go_sem]
           refine fin1' ?_
           simp -implicitDefEqProofs only [go_sem]
       ·simp -implicitDefEqProofs only [go_sem,t1,t3]
        repeat (with_reducible apply And.intro; case left=>omega)
        refine loop_go1 hm (fun (i:Nat)=> i ≤ a.coefs.length) (fun (i:Nat)=> ⟨mkS 87 .any [(1,iv m),(3,iv n),(4,.ptr 0 0),(6,.ptr 1 0),(8,.ptr 2 0),(10,.ptr 3 0),(57,iv a.coefs.length),(58,iv i)],[some (.box (pvs (cLin a))),some (.box (pvs (cLin b))),some (.box (pvs (cLin lin0))),some (.box [.acc 4,.d (.val (.int .i64 (m * a.bound + n * b.bound))),.d (.val (.bool false))]),some (.acc 3 (rowsI (comb m n (a.coefs.take i) (b.coefs.take i))))]⟩) (fun (i:Nat)=> a.coefs.length - i) (0) ?_ (weakS [some 0,some 1,some 2,some 3,none] ?_ ?_ rfl rfl) ?_
        rotate_left
        ·simp -implicitDefEqProofs only [go_sem]
        ·simp -implicitDefEqProofs only [go_sem]
         all_goals (simp [comb, *])
        rotate_left
        ·omega
        ·rintro i hi
         rcases Classical.em (i < a.coefs.length) with h1 | h1
         ·have h2:i < b.coefs.length:=by omega
          have q1:=mul_bound h5.1 h5.2 (hc1 a.coefs[i] (List.getElem_mem h1))
          have q2:=mul_bound h6.1 h6.2 (hc2 b.coefs[i] (List.getElem_mem h2))
          have hlen:(comb m n (a.coefs.take i) (b.coefs.take i)).length ≤ 4:=by rw [comb_len (by simp; omega)]; simp; omega
          simp -implicitDefEqProofs only [go_sem,h1,h2]
          repeat (first | with_reducible refine ind_andM (by kernel_rfl) ?_ | (with_reducible apply And.intro; case left=>omega))
          refine ⟨i + 1,?_,?_,weakS [some 0,some 1,some 2,some 3,some 5] ?_ ?_ rfl rfl⟩
          rotate_left
          ·show _ < _
           omega
          ·simp -implicitDefEqProofs only [go_sem]
          ·simp -implicitDefEqProofs only [go_sem]
           all_goals ((rw [comb_snoc h1 h2,← rowsI_app]; rfl))
          exact h1
         ·rw [List.take_of_length_le (by omega),List.take_of_length_le (by omega)]
          have e2:linAdd a m b n = ⟨comb m n a.coefs b.coefs,m * a.bound + n * b.bound,false⟩:=by simp [linAdd, *]
          simp -implicitDefEqProofs only [go_sem,h1]
          refine atLook [] [4] (c_impl_LinOk ⟨comb m n a.coefs b.coefs,m * a.bound + n * b.bound,false⟩) rfl ?_ ?_ ?_
          ·(simp -implicitDefEqProofs only [go_sem]; repeat' (first | exact Vws.nil | apply Vws.cons | exact Vw.same (by first | rfl | simp -implicitDefEqProofs only [go_sem,Z1,Z2,Z3,Z4]) | exact Vw.acc rfl rfl | exact Vw.tre rfl rfl (by simp -implicitDefEqProofs only [go_sem,Z1,Z2,Z3,Z4]) | exact Vw.nil | apply Vw.agg | apply Vw.fn | refine Vw.box rfl rfl ?_))
          all_goals simp -implicitDefEqProofs only [go_sem]
          rw [linSum_eq g1 g2 g3 g4,linSum0,e2]
          cases h7:linOk ⟨comb m n a.coefs b.coefs,m * a.bound + n * b.bound,false⟩
          ·simp -implicitDefEqProofs only [go_sem]
           refine fin1' ?_
           simp -implicitDefEqProofs only [go_sem]
           all_goals (simp; done)
          ·simp -implicitDefEqProofs only [go_sem]
           refine fin1' ?_
           simp -implicitDefEqProofs only [go_sem]
      ·simp -implicitDefEqProofs only [go_sem,t1]
       repeat (with_reducible apply And.intro; case left=>omega)
       refine loop_go1 hm (fun (i:Nat)=> i ≤ a.coefs.length) (fun (i:Nat)=> ⟨mkS 87 .any [(1,iv m),(3,iv n),(4,.ptr 0 0),(6,.ptr 1 0),(8,.ptr 2 0),(10,.ptr 3 0),(57,iv a.coefs.length),(58,iv i)],[some (.box (pvs (cLin a))),some (.box (pvs (cLin b))),some (.box (pvs (cLin lin0))),some (.box [.acc 4,.d (.val (.int .i64 (m * a.bound + n * b.bound))),.d (.val (.bool true))]),some (.acc 3 (rowsI (comb m n (a.coefs.take i) (b.coefs.take i))))]⟩) (fun (i:Nat)=> a.coefs.length - i) (0) ?_ (weakS [some 0,some 1,some 2,some 3,none] ?_ ?_ rfl rfl) ?_
       rotate_left
       ·simp -implicitDefEqProofs only [go_sem]
       ·simp -implicitDefEqProofs only [go_sem]
        all_goals (simp [comb, *])
       rotate_left
       ·omega
       ·rintro i hi
        rcases Classical.em (i < a.coefs.length) with h1 | h1
        ·have h2:i < b.coefs.length:=by omega
         have q1:=mul_bound h5.1 h5.2 (hc1 a.coefs[i] (List.getElem_mem h1))
         have q2:=mul_bound h6.1 h6.2 (hc2 b.coefs[i] (List.getElem_mem h2))
         have hlen:(comb m n (a.coefs.take i) (b.coefs.take i)).length ≤ 4:=by rw [comb_len (by simp; omega)]; simp; omega
         simp -implicitDefEqProofs only [go_sem,h1,h2]
         repeat (first | with_reducible refine ind_andM (by kernel_rfl) ?_ | (with_reducible apply And.intro; case left=>omega))
         refine ⟨i + 1,?_,?_,weakS [some 0,some 1,some 2,some 3,some 5] ?_ ?_ rfl rfl⟩
         rotate_left
         ·show _ < _
          omega
         ·simp -implicitDefEqProofs only [go_sem]
         ·simp -implicitDefEqProofs only [go_sem]
          all_goals ((rw [comb_snoc h1 h2,← rowsI_app]; rfl))
         exact h1
        ·rw [List.take_of_length_le (by omega),List.take_of_length_le (by omega)]
         have e2:linAdd a m b n = ⟨comb m n a.coefs b.coefs,m * a.bound + n * b.bound,true⟩:=by simp [linAdd, *]
         simp -implicitDefEqProofs only [go_sem,h1]
         refine atLook [] [4] (c_impl_LinOk ⟨comb m n a.coefs b.coefs,m * a.bound + n * b.bound,true⟩) rfl ?_ ?_ ?_
         ·(simp -implicitDefEqProofs only [go_sem]; repeat' (first | exact Vws.nil | apply Vws.cons | exact Vw.same (by first | rfl | simp -implicitDefEqProofs only [go_sem,Z1,Z2,Z3,Z4]) | exact Vw.acc rfl rfl | exact Vw.tre rfl rfl (by simp -implicitDefEqProofs only [go_sem,Z1,Z2,Z3,Z4]) | exact Vw.nil | apply Vw.agg | apply Vw.fn | refine Vw.box rfl rfl ?_))
         all_goals simp -implicitDefEqProofs only [go_sem]
         rw [linSum_eq g1 g2 g3 g4,linSum0,e2]
         cases h7:linOk ⟨comb m n a.coefs b.coefs,m * a.bound + n * b.bound,true⟩
         ·simp -implicitDefEqProofs only [go_sem]
          refine fin1' ?_
          simp -implicitDefEqProofs only [go_sem]
          all_goals (simp; done)
         ·simp -implicitDefEqProofs only [go_sem]
          refine fin1' ?_
          simp -implicitDefEqProofs only [go_sem]
     ·rcases Classical.em (0 < n) with t3 | t3
      ·simp -implicitDefEqProofs only [go_sem,t1,t3]
       repeat (with_reducible apply And.intro; case left=>omega)
       refine loop_go1 hm (fun (i:Nat)=> i ≤ a.coefs.length) (fun (i:Nat)=> ⟨mkS 87 .any [(1,iv m),(3,iv n),(4,.ptr 0 0),(6,.ptr 1 0),(8,.ptr 2 0),(10,.ptr 3 0),(57,iv a.coefs.length),(58,iv i)],[some (.box (pvs (cLin a))),some (.box (pvs (cLin b))),some (.box (pvs (cLin lin0))),some (.box [.acc 4,.d (.val (.int .i64 (m * a.bound + n * b.bound))),.d (.val (.bool b.strict))]),some (.acc 3 (rowsI (comb m n (a.coefs.take i) (b.coefs.take i))))]⟩) (fun (i:Nat)=> a.coefs.length - i) (0) ?_ (weakS [some 0,some 1,some 2,some 3,none] ?_ ?_ rfl rfl) ?_
       rotate_left
       ·simp -implicitDefEqProofs only [go_sem]
       ·simp -implicitDefEqProofs only [go_sem]
        all_goals (simp [comb, *])
       rotate_left
       ·omega
       ·rintro i hi
        rcases Classical.em (i < a.coefs.length) with h1 | h1
        ·have h2:i < b.coefs.length:=by omega
         have q1:=mul_bound h5.1 h5.2 (hc1 a.coefs[i] (List.getElem_mem h1))
         have q2:=mul_bound h6.1 h6.2 (hc2 b.coefs[i] (List.getElem_mem h2))
         have hlen:(comb m n (a.coefs.take i) (b.coefs.take i)).length ≤ 4:=by rw [comb_len (by simp; omega)]; simp; omega
         simp -implicitDefEqProofs only [go_sem,h1,h2]
         repeat (first | with_reducible refine ind_andM (by kernel_rfl) ?_ | (with_reducible apply And.intro; case left=>omega))
         refine ⟨i + 1,?_,?_,weakS [some 0,some 1,some 2,some 3,some 5] ?_ ?_ rfl rfl⟩
         rotate_left
         ·show _ < _
          omega
         ·simp -implicitDefEqProofs only [go_sem]
         ·simp -implicitDefEqProofs only [go_sem]
          all_goals ((rw [comb_snoc h1 h2,← rowsI_app]; rfl))
         exact h1
        ·rw [List.take_of_length_le (by omega),List.take_of_length_le (by omega)]
         have e2:linAdd a m b n = ⟨comb m n a.coefs b.coefs,m * a.bound + n * b.bound,b.strict⟩:=by simp [linAdd, *]
         simp -implicitDefEqProofs only [go_sem,h1]
         refine atLook [] [4] (c_impl_LinOk ⟨comb m n a.coefs b.coefs,m * a.bound + n * b.bound,b.strict⟩) rfl ?_ ?_ ?_
         ·(simp -implicitDefEqProofs only [go_sem]; repeat' (first | exact Vws.nil | apply Vws.cons | exact Vw.same (by first | rfl | simp -implicitDefEqProofs only [go_sem,Z1,Z2,Z3,Z4]) | exact Vw.acc rfl rfl | exact Vw.tre rfl rfl (by simp -implicitDefEqProofs only [go_sem,Z1,Z2,Z3,Z4]) | exact Vw.nil | apply Vw.agg | apply Vw.fn | refine Vw.box rfl rfl ?_))
         all_goals simp -implicitDefEqProofs only [go_sem]
         rw [linSum_eq g1 g2 g3 g4,linSum0,e2]
         cases h7:linOk ⟨comb m n a.coefs b.coefs,m * a.bound + n * b.bound,b.strict⟩
         ·simp -implicitDefEqProofs only [go_sem]
          refine fin1' ?_
          simp -implicitDefEqProofs only [go_sem]
          all_goals (simp; done)
         ·simp -implicitDefEqProofs only [go_sem]
          refine fin1' ?_
          simp -implicitDefEqProofs only [go_sem]
      ·simp -implicitDefEqProofs only [go_sem,t1,t3]
       repeat (with_reducible apply And.intro; case left=>omega)
       refine loop_go1 hm (fun (i:Nat)=> i ≤ a.coefs.length) (fun (i:Nat)=> ⟨mkS 87 .any [(1,iv m),(3,iv n),(4,.ptr 0 0),(6,.ptr 1 0),(8,.ptr 2 0),(10,.ptr 3 0),(57,iv a.coefs.length),(58,iv i)],[some (.box (pvs (cLin a))),some (.box (pvs (cLin b))),some (.box (pvs (cLin lin0))),some (.box [.acc 4,.d (.val (.int .i64 (m * a.bound + n * b.bound))),.d (.val (.bool false))]),some (.acc 3 (rowsI (comb m n (a.coefs.take i) (b.coefs.take i))))]⟩) (fun (i:Nat)=> a.coefs.length - i) (0) ?_ (weakS [some 0,some 1,some 2,some 3,none] ?_ ?_ rfl rfl) ?_
       rotate_left
       ·simp -implicitDefEqProofs only [go_sem]
       ·simp -implicitDefEqProofs only [go_sem]
        all_goals (simp [comb, *])
       rotate_left
       ·omega
       ·rintro i hi
        rcases Classical.em (i < a.coefs.length) with h1 | h1
        ·have h2:i < b.coefs.length:=by omega
         have q1:=mul_bound h5.1 h5.2 (hc1 a.coefs[i] (List.getElem_mem h1))
         have q2:=mul_bound h6.1 h6.2 (hc2 b.coefs[i] (List.getElem_mem h2))
         have hlen:(comb m n (a.coefs.take i) (b.coefs.take i)).length ≤ 4:=by rw [comb_len (by simp; omega)]; simp; omega
         simp -implicitDefEqProofs only [go_sem,h1,h2]
         repeat (first | with_reducible refine ind_andM (by kernel_rfl) ?_ | (with_reducible apply And.intro; case left=>omega))
         refine ⟨i + 1,?_,?_,weakS [some 0,some 1,some 2,some 3,some 5] ?_ ?_ rfl rfl⟩
         rotate_left
         ·show _ < _
          omega
         ·simp -implicitDefEqProofs only [go_sem]
         ·simp -implicitDefEqProofs only [go_sem]
          all_goals ((rw [comb_snoc h1 h2,← rowsI_app]; rfl))
         exact h1
        ·rw [List.take_of_length_le (by omega),List.take_of_length_le (by omega)]
         have e2:linAdd a m b n = ⟨comb m n a.coefs b.coefs,m * a.bound + n * b.bound,false⟩:=by simp [linAdd, *]
         simp -implicitDefEqProofs only [go_sem,h1]
         refine atLook [] [4] (c_impl_LinOk ⟨comb m n a.coefs b.coefs,m * a.bound + n * b.bound,false⟩) rfl ?_ ?_ ?_
         ·(simp -implicitDefEqProofs only [go_sem]; repeat' (first | exact Vws.nil | apply Vws.cons | exact Vw.same (by first | rfl | simp -implicitDefEqProofs only [go_sem,Z1,Z2,Z3,Z4]) | exact Vw.acc rfl rfl | exact Vw.tre rfl rfl (by simp -implicitDefEqProofs only [go_sem,Z1,Z2,Z3,Z4]) | exact Vw.nil | apply Vw.agg | apply Vw.fn | refine Vw.box rfl rfl ?_))
         all_goals simp -implicitDefEqProofs only [go_sem]
         rw [linSum_eq g1 g2 g3 g4,linSum0,e2]
         cases h7:linOk ⟨comb m n a.coefs b.coefs,m * a.bound + n * b.bound,false⟩
         ·simp -implicitDefEqProofs only [go_sem]
          refine fin1' ?_
          simp -implicitDefEqProofs only [go_sem]
          all_goals (simp; done)
         ·simp -implicitDefEqProofs only [go_sem]
          refine fin1' ?_
          simp -implicitDefEqProofs only [go_sem]
theorem c_impl_FarSum (ls:List Lin) (ts:List Int):C E.P 217 [lv (rowsLin ls),lv (rowsI ts)] [] (Eq2 (.tup [av (cLin (farSum ls ts).1),bv (farSum ls ts).2]) []):=by
 have hLB:=LB_eq
 refine C_goS (nt:=47) (rs:=[.cell 4 66,.tmp 5]) hm Tryz.func217 rfl rfl rfl rfl rfl (fun hl he=>?_)
 simp -implicitDefEqProofs only [go_sem] at hl ⊢
 refine atCall [] (c_impl_isSystem ls) ?_ ?_ <;> simp -implicitDefEqProofs only [go_sem]
 cases g1:isSystem ls
 ·simp -implicitDefEqProofs only [go_sem]
  refine fin1' ?_
  simp -implicitDefEqProofs only [go_sem]
  all_goals (simp [farSum,g1]; done)
 ·rcases Classical.em (ts.length = ls.length) with g2 | g2
  ·have e:farSum ls ts = farGo ls ts ⟨[0,0,0,0],0,false⟩:=by simp [farSum,g1,g2]
   simp -implicitDefEqProofs only [go_sem,Z3,Z4,g2]
   repeat (with_reducible apply And.intro; case left=>omega)
   refine loop_go2 hm (fun (i:Nat) (out:Lin)=> i ≤ ls.length ∧ farSum ls ts = farGo (ls.drop i) (ts.drop i) out) (fun (i:Nat) (out:Lin)=> ⟨mkS 47 .any [(1,lv (rowsI ts)),(4,.ptr 0 0),(6,.ptr 1 0),(24,lv (rowsLin ls)),(25,iv ls.length),(26,iv i)],[some (.box (pvs (cLin lin0))),some (.box (pvs (cLin out)))]⟩) (fun (i:Nat) (out:Lin)=> ls.length - i) (0) (⟨[0,0,0,0],0,false⟩) ?_ (weakS [some 0,some 2] ?_ ?_ rfl rfl) ?_
   rotate_left
   ·simp -implicitDefEqProofs only [go_sem]
   ·simp -implicitDefEqProofs only [go_sem]
    all_goals (simp [rowsI,List.replicate])
   rotate_left
   ·simp [e]
   ·rintro i out ⟨hi,hg⟩
    rcases Classical.em (i < ls.length) with h1 | h1
    ·have h2:i < ts.length:=by omega
     rw [farGo_step h1 h2] at hg
     simp -implicitDefEqProofs only [go_sem,h1,h2]
     refine atCall [] (c_impl_LinSum out 1 ls[i] ts[i]) ?_ ?_ <;> simp -implicitDefEqProofs only [go_sem]
     with_reducible refine ind_andM (by kernel_rfl) ?_
     cases h3:(linSum out 1 ls[i] ts[i]).2
     ·rw [h3] at hg
      simp only [Bool.false_eq_true,if_false] at hg
      simp -implicitDefEqProofs only [go_sem]
      refine fin1' ?_
      simp -implicitDefEqProofs only [go_sem]
      all_goals (simp [hg]; done)
     ·rw [h3] at hg
      simp only [if_true] at hg
      simp -implicitDefEqProofs only [go_sem]
      refine ⟨by omega,?_⟩
      refine ⟨i + 1,(linSum out 1 ls[i] ts[i]).1,?_,?_,weakS [some 0,some 1] ?_ ?_ rfl rfl⟩
      rotate_left
      ·show _ < _
       omega
      ·simp -implicitDefEqProofs only [go_sem]
      ·simp -implicitDefEqProofs only [go_sem]
      exact ⟨by omega,hg⟩
    ·rw [List.drop_of_length_le (by omega),List.drop_of_length_le (by omega),farGo] at hg
     simp -implicitDefEqProofs only [go_sem,h1]
     refine fin1' ?_
     simp -implicitDefEqProofs only [go_sem]
     all_goals (simp [hg]; done)
  ·have g2':¬ (ts.length:Int) = ls.length:=by omega
   simp -implicitDefEqProofs only [go_sem,g2']
   refine fin1' ?_
   simp -implicitDefEqProofs only [go_sem]
   all_goals (simp [farSum,g1,g2]; done)
theorem c_impl_FarOk (ls:List Lin) (ts:List Int):C E.P 162 [lv (rowsLin ls),lv (rowsI ts)] [] (Eq2 (bv (farOk ls ts)) []):=by
 have hLB:=LB_eq
 refine C_goS (nt:=18) (rs:=[.tmp 4]) hm Tryz.func162 rfl rfl rfl rfl rfl (fun hl he=>?_)
 simp -implicitDefEqProofs only [go_sem] at hl ⊢
 refine atCall [] (c_impl_FarSum ls ts) ?_ ?_ <;> simp -implicitDefEqProofs only [go_sem]
 cases h:(farSum ls ts).2
 ·simp -implicitDefEqProofs only [go_sem]
  refine fin1' ?_
  simp -implicitDefEqProofs only [go_sem]
  all_goals (simp [farOk,h]; done)
 ·simp -implicitDefEqProofs only [go_sem]
  refine atCall [] (c_impl_LinBad (farSum ls ts).1) ?_ ?_ <;> simp -implicitDefEqProofs only [go_sem]
  refine fin1' ?_
  simp -implicitDefEqProofs only [go_sem]
  all_goals (simp [farOk,h]; done)
end Go.Proofs.YtpidddienjoleaaGreat
