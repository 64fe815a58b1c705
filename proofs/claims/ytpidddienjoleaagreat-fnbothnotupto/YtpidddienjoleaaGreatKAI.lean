/-
  The reference: the walks of names, signatures, shapes and sorts. A step towards the exact laws. The reference: the walks of sorts, copies, places, parts and texts of terms. A step towards the exact laws. The reference: the walks of texts, equations and explanations. A step towards the exact laws.
-/
import Derived.Test.YtpidddienjoleaaGreatKAH
import Derived.Test.YtpidddienjoleaaGreatKAE
import Derived.Test.YtpidddienjoleaaGreatKAL
set_option linter.unusedVariables false
set_option linter.unusedSimpArgs false
namespace Go.Proofs.YtpidddienjoleaaGreat
open Go.Eng Go.Mod
open Int renaming reduceEq → Z1,reduceLT → Z2,reduceLE → Z3,reduceToNat → Z4
set_option maxRecDepth 100000
set_option maxHeartbeats 400000
theorem c_spec_NameOk (s:Str):C E.P 67 [sv s] [] (Eq2 (bv (nameOk s)) []):=by
 have hLB:=LB_eq
 refine C_goS (nt:=28) (rs:=[.tmp 2]) hm Tryz.func67 rfl rfl rfl rfl rfl (fun hl he=>?_)
 simp -implicitDefEqProofs only [go_sem] at hl ⊢
 refine loop_go1 hm (fun (i:Nat)=> i ≤ s.length ∧ s.all letter = (s.drop i).all letter) (fun (i:Nat)=> ⟨mkS 28 .any [(0,sv s),(3,iv i)],[]⟩) (fun (i:Nat)=> s.length - i) (0) ?_ (weakS [] ?_ ?_ rfl rfl) ?_
 rotate_left
 ·simp -implicitDefEqProofs only [go_sem]
 ·simp -implicitDefEqProofs only [go_sem]
 rotate_left
 ·simp
 ·rintro i ⟨hi,hg⟩
  rcases Classical.em (i < s.length) with h1 | h1
  ·rw [List.drop_eq_getElem_cons h1,List.all_cons] at hg
   simp -implicitDefEqProofs only [go_sem,h1]
   rw [getD_lt h1]
   rcases Classical.em ((s[i].toNat:Int) < 97) with h2 | h2
   ·have h3:letter s[i] = false:=by simp [letter]; omega
    rw [h3,Bool.false_and] at hg
    simp -implicitDefEqProofs only [go_sem,h2]
    refine fin1' ?_
    simp -implicitDefEqProofs only [go_sem]
    all_goals (simp [nameOk,hg]; done)
   ·simp -implicitDefEqProofs only [go_sem,h2,h1]
    rw [getD_lt h1]
    rcases Classical.em (122 < (s[i].toNat:Int)) with h4 | h4
    ·have h3:letter s[i] = false:=by simp [letter]; omega
     rw [h3,Bool.false_and] at hg
     simp -implicitDefEqProofs only [go_sem,h4]
     refine fin1' ?_
     simp -implicitDefEqProofs only [go_sem]
     all_goals (simp [nameOk,hg]; done)
    ·have h3:letter s[i] = true:=by simp [letter]; omega
     rw [h3,Bool.true_and] at hg
     simp -implicitDefEqProofs only [go_sem,h4]
     repeat (with_reducible apply And.intro; case left=>omega)
     refine ⟨i + 1,?_,?_,weakS [] ?_ ?_ rfl rfl⟩
     rotate_left
     ·show _ < _
      omega
     ·simp -implicitDefEqProofs only [go_sem]
     ·simp -implicitDefEqProofs only [go_sem]
     exact ⟨by omega,hg⟩
  ·rw [List.drop_of_length_le (by omega),List.all_nil] at hg
   have e:nameOk s = (decide ((1:Int) ≤ (s.length:Int)) && decide ((s.length:Int) ≤ 2)):=by simp [nameOk,hg,within]
   rcases Classical.em ((1:Int) ≤ (s.length:Int)) with h2 | h2
   ·simp -implicitDefEqProofs only [go_sem,h1,h2]
    refine fin1' ?_
    simp -implicitDefEqProofs only [go_sem]
    all_goals (simp [e,h2]; done)
   ·simp -implicitDefEqProofs only [go_sem,h1,h2]
    refine fin1' ?_
    simp -implicitDefEqProofs only [go_sem]
    all_goals (simp [e,h2]; done)
theorem c_spec_l4Sort (n:Int):C E.P 68 [iv n] [] (Eq2 (bv (isSort n)) []):=by
 have hLB:=LB_eq
 refine C_goS (nt:=9) (rs:=[.tmp 2]) hm Tryz.func68 rfl rfl rfl rfl rfl (fun hl he=>?_)
 simp -implicitDefEqProofs only [go_sem] at hl ⊢
 rcases Classical.em (n = 0) with h | h
 ·have k:=eq_true h
  simp -implicitDefEqProofs only [go_sem,k]
  refine fin1' ?_
  simp -implicitDefEqProofs only [go_sem]
  all_goals (simp [isSort,h]; done)
 ·simp -implicitDefEqProofs only [go_sem,h]
  refine fin1' ?_
  simp -implicitDefEqProofs only [go_sem]
  all_goals (simp [isSort,h]; done)
theorem c_spec_SigOk (s:Sig):C E.P 29 [av (cSig s)] [] (Eq2 (bv (sigOk s)) []):=by
 have hLB:=LB_eq
 refine C_goS (nt:=68) (rs:=[.tmp 2]) hm Tryz.func29 rfl rfl rfl rfl rfl (fun hl he=>?_)
 simp -implicitDefEqProofs only [go_sem] at hl ⊢
 refine loop_go1 hm (fun (i:Nat)=> i ≤ s.syms.length ∧ symsGo none s.syms = symsGo (prevName s.syms i) (s.syms.drop i)) (fun (i:Nat)=> ⟨mkS 68 .any [(1,.ptr 0 0),(3,iv i)],[some (.box (pvs (cSig s)))]⟩) (fun (i:Nat)=> s.syms.length - i) (0) ?_ (weakS [some 0] ?_ ?_ rfl rfl) ?_
 rotate_left
 ·simp -implicitDefEqProofs only [go_sem]
 ·simp -implicitDefEqProofs only [go_sem]
 rotate_left
 ·simp [prevName]
 ·rintro i ⟨hi,hg⟩
  rcases Classical.em (i < s.syms.length) with h1 | h1
  ·rw [List.drop_eq_getElem_cons h1] at hg
   simp only [symsGo] at hg
   simp -implicitDefEqProofs only [go_sem,h1]
   refine atCall [] (c_spec_NameOk s.syms[i].name) ?_ ?_ <;> simp -implicitDefEqProofs only [go_sem]
   cases h2:nameOk s.syms[i].name
   ·have e:sigOk s = false:=by simp [sigOk,hg,symOk,h2]
    simp -implicitDefEqProofs only [go_sem]
    with_reducible refine ind_andM (by kernel_rfl) ?_
    refine fin1' ?_
    simp -implicitDefEqProofs only [go_sem]
    all_goals (simp [e]; done)
   ·simp -implicitDefEqProofs only [go_sem]
    rcases Classical.em ((2:Int) < (s.syms[i].args.length:Int)) with h3' | h3'
    ·have h3:¬ s.syms[i].args.length ≤ 2:=by omega
     have e:sigOk s = false:=by simp [sigOk,hg,symOk,h3]
     simp -implicitDefEqProofs only [go_sem,h3']
     with_reducible refine ind_andM (by kernel_rfl) ?_
     refine fin1' ?_
     simp -implicitDefEqProofs only [go_sem]
     all_goals (simp [e]; done)
    ·have h3:s.syms[i].args.length ≤ 2:=by omega
     simp -implicitDefEqProofs only [go_sem,h3']
     refine atCall [] (c_spec_l4Sort s.syms[i].sort) ?_ ?_ <;> simp -implicitDefEqProofs only [go_sem]
     cases h4:isSort s.syms[i].sort
     ·have e:sigOk s = false:=by simp [sigOk,hg,symOk,h4]
      simp -implicitDefEqProofs only [go_sem]
      with_reducible refine ind_andM (by kernel_rfl) ?_
      refine fin1' ?_
      simp -implicitDefEqProofs only [go_sem]
      all_goals (simp [e]; done)
     ·cases i with
      | zero=>
        simp only [prevName,Bool.true_and] at hg
        simp -implicitDefEqProofs only [go_sem,Int.lt_irrefl]
        with_reducible refine ind_andM (by kernel_rfl) ?_
        refine loop_go1 hm (fun (u:Nat)=> u ≤ s.syms[0].args.length ∧ s.syms[0].args.all isSort = (s.syms[0].args.drop u).all isSort) (fun (u:Nat)=> ⟨mkS 68 .any [(1,.ptr 0 0),(3,iv (0:Nat)),(4,.ptr 1 0),(5,iv u)],[some (.box (pvs (cSig s))),some (.box (pvs (cSym s.syms[0])))]⟩) (fun (u:Nat)=> s.syms[0].args.length - u) (0) ?_ (weakS [some 0,some 1] ?_ ?_ rfl rfl) ?_
        rotate_left
        ·simp -implicitDefEqProofs only [go_sem]
        ·simp -implicitDefEqProofs only [go_sem]
        rotate_left
        ·simp
        ·rintro u ⟨hu,hk⟩
         rcases Classical.em (u < s.syms[0].args.length) with g1 | g1
         ·rw [List.drop_eq_getElem_cons g1,List.all_cons] at hk
          simp -implicitDefEqProofs only [go_sem,g1]
          refine atCall [] (c_spec_l4Sort s.syms[0].args[u]) ?_ ?_ <;> simp -implicitDefEqProofs only [go_sem]
          cases g2:isSort s.syms[0].args[u]
          ·rw [g2,Bool.false_and] at hk
           have e:sigOk s = false:=by simp [sigOk,hg,symOk,hk]
           simp -implicitDefEqProofs only [go_sem]
           refine fin1' ?_
           simp -implicitDefEqProofs only [go_sem]
           all_goals (simp [e]; done)
          ·rw [g2,Bool.true_and] at hk
           simp -implicitDefEqProofs only [go_sem]
           repeat (with_reducible apply And.intro; case left=>omega)
           refine ⟨u + 1,?_,?_,weakS [some 0,some 1] ?_ ?_ rfl rfl⟩
           rotate_left
           ·show _ < _
            omega
           ·simp -implicitDefEqProofs only [go_sem]
           ·simp -implicitDefEqProofs only [go_sem]
           exact ⟨by omega,hk⟩
         ·rw [List.drop_of_length_le (by omega),List.all_nil] at hk
          have e:symOk s.syms[0] = true:=by simp [symOk,h2,h3,h4,hk]
          rw [e] at hg
          simp -implicitDefEqProofs only [go_sem,g1]
          repeat (with_reducible apply And.intro; case left=>omega)
          refine ⟨0 + 1,?_,?_,weakS [some 0] ?_ ?_ rfl rfl⟩
          rotate_left
          ·show _ < _
           omega
          ·simp -implicitDefEqProofs only [go_sem]
           all_goals (simp [*]; done)
          ·simp -implicitDefEqProofs only [go_sem]
          refine ⟨by omega,?_⟩
          rw [hg]
          simp [prevName,h1]
      | succ j=>
        have hj:j < s.syms.length:=by omega
        have e1:((j:Int) + 1 - 1) = (j:Int):=by omega
        have e2:(0:Int) < (j:Int) + 1:=by omega
        have e3:prevName s.syms (j + 1) = some s.syms[j].name:=by simp [prevName,hj]
        rw [e3] at hg
        simp only at hg
        simp -implicitDefEqProofs only [go_sem,e1,e2,hj]
        repeat (first | with_reducible refine ind_andM (by kernel_rfl) ?_ | (with_reducible apply And.intro; case left=>omega))
        cases q4:sLess s.syms[j].name s.syms[j + 1].name
        ·rw [q4,Bool.false_and,Bool.and_false] at hg
         have e:sigOk s = false:=by simp [sigOk,hg]
         have h5:Op.bytesLess s.syms[j].name s.syms[j + 1].name = false:=q4
         simp -implicitDefEqProofs only [go_sem,h5]
         refine fin1' ?_
         simp -implicitDefEqProofs only [go_sem]
         all_goals (simp [e]; done)
        ·rw [q4,Bool.true_and] at hg
         have h5:Op.bytesLess s.syms[j].name s.syms[j + 1].name = true:=q4
         simp -implicitDefEqProofs only [go_sem,h5]
         refine loop_go1 hm (fun (u:Nat)=> u ≤ s.syms[j + 1].args.length ∧ s.syms[j + 1].args.all isSort = (s.syms[j + 1].args.drop u).all isSort) (fun (u:Nat)=> ⟨mkS 68 .any [(1,.ptr 0 0),(3,iv (j + 1:Nat)),(4,.ptr 1 0),(5,iv u)],[some (.box (pvs (cSig s))),some (.box (pvs (cSym s.syms[j + 1])))]⟩) (fun (u:Nat)=> s.syms[j + 1].args.length - u) (0) ?_ (weakS [some 0,some 1] ?_ ?_ rfl rfl) ?_
         rotate_left
         ·simp -implicitDefEqProofs only [go_sem]
         ·simp -implicitDefEqProofs only [go_sem]
         rotate_left
         ·simp
         ·rintro u ⟨hu,hk⟩
          rcases Classical.em (u < s.syms[j + 1].args.length) with g1 | g1
          ·rw [List.drop_eq_getElem_cons g1,List.all_cons] at hk
           simp -implicitDefEqProofs only [go_sem,g1]
           refine atCall [] (c_spec_l4Sort s.syms[j + 1].args[u]) ?_ ?_ <;> simp -implicitDefEqProofs only [go_sem]
           cases g2:isSort s.syms[j + 1].args[u]
           ·rw [g2,Bool.false_and] at hk
            have e:sigOk s = false:=by simp [sigOk,hg,symOk,hk]
            simp -implicitDefEqProofs only [go_sem]
            refine fin1' ?_
            simp -implicitDefEqProofs only [go_sem]
            all_goals (simp [e]; done)
           ·rw [g2,Bool.true_and] at hk
            simp -implicitDefEqProofs only [go_sem]
            repeat (with_reducible apply And.intro; case left=>omega)
            refine ⟨u + 1,?_,?_,weakS [some 0,some 1] ?_ ?_ rfl rfl⟩
            rotate_left
            ·show _ < _
             omega
            ·simp -implicitDefEqProofs only [go_sem]
            ·simp -implicitDefEqProofs only [go_sem]
            exact ⟨by omega,hk⟩
          ·rw [List.drop_of_length_le (by omega),List.all_nil] at hk
           have e:symOk s.syms[j + 1] = true:=by simp [symOk,h2,h3,h4,hk]
           rw [e] at hg
           simp -implicitDefEqProofs only [go_sem,g1]
           repeat (with_reducible apply And.intro; case left=>omega)
           refine ⟨j + 1 + 1,?_,?_,weakS [some 0] ?_ ?_ rfl rfl⟩
           rotate_left
           ·show _ < _
            omega
           ·simp -implicitDefEqProofs only [go_sem]
           ·simp -implicitDefEqProofs only [go_sem]
           refine ⟨by omega,?_⟩
           rw [hg]
           simp [prevName,h1]
  ·rw [List.drop_of_length_le (by omega)] at hg
   simp only [symsGo] at hg
   have e:sigOk s = decide ((s.syms.length:Int) ≤ 7):=by simp [sigOk,hg]; omega
   simp -implicitDefEqProofs only [go_sem,h1]
   refine fin1' ?_
   simp -implicitDefEqProofs only [go_sem]
   all_goals (simp [e]; done)
theorem tShape_eq (t:Term) (d:Nat):tShape t (d + 1) = (nameOk t.name && (decide (t.kids.length ≤ 2) && tShapes t.kids d)):=by cases t; rfl
theorem tShapes_drop {ts:List Term} {i:Nat} (h:i < ts.length) (d:Nat):tShapes (ts.drop i) d = (tShape ts[i] d && tShapes (ts.drop (i + 1)) d):=by rw [List.drop_eq_getElem_cons h,tShapes]
theorem c_spec_l4Shape1 (t:Term) (ih:∀ k ∈ t.kids,∀ d:Nat,d ≤ 4 → C E.P 247 [av (cT k),iv d] [] (Eq2 (bv (tShape k d)) [])) (d:Nat) (hd:d ≤ 4) :
 C E.P 247 [av (cT t),iv d] [] (Eq2 (bv (tShape t d)) []):=by
 cases d with
 | zero=>
   have e:tShape t 0 = false:=by cases t; rfl
   have hLB:=LB_eq
   refine C_goS (nt:=36) (rs:=[.tmp 4]) hm Tryz.func247 rfl rfl rfl rfl rfl (fun hl he=>?_)
   simp -implicitDefEqProofs only [go_sem,Z2] at hl ⊢
   refine fin1' ?_
   simp -implicitDefEqProofs only [go_sem]
   all_goals (simp [e]; done)
 | succ d=>
   have e:=tShape_eq t d
   have hLB:=LB_eq
   refine C_goS (nt:=36) (rs:=[.tmp 4]) hm Tryz.func247 rfl rfl rfl rfl rfl (fun hl he=>?_)
   simp -implicitDefEqProofs only [go_sem] at hl ⊢
   have h0:¬ (d:Int) + 1 < 1:=by omega
   simp -implicitDefEqProofs only [go_sem,h0]
   refine atCall [] (c_spec_NameOk t.name) ?_ ?_ <;> simp -implicitDefEqProofs only [go_sem]
   cases h2:nameOk t.name
   ·simp -implicitDefEqProofs only [go_sem]
    refine fin1' ?_
    simp -implicitDefEqProofs only [go_sem]
    all_goals (simp [e,h2]; done)
   ·simp -implicitDefEqProofs only [go_sem]
    rcases Classical.em ((2:Int) < (t.kids.length:Int)) with h3' | h3'
    ·have h3:¬ t.kids.length ≤ 2:=by omega
     simp -implicitDefEqProofs only [go_sem,h3']
     refine fin1' ?_
     simp -implicitDefEqProofs only [go_sem]
     all_goals (simp [e,h3]; done)
    ·have h3:t.kids.length ≤ 2:=by omega
     have e:tShape t (d + 1) = tShapes t.kids d:=by simp [e,h2,h3]
     simp -implicitDefEqProofs only [go_sem,h3']
     refine loop_go1 hm (fun (i:Nat)=> i ≤ t.kids.length ∧ tShapes t.kids d = tShapes (t.kids.drop i) d) (fun (i:Nat)=> ⟨mkS 36 .any [(1,iv ((d:Int) + 1)),(2,.ptr 0 0),(5,iv i)],[some (.box (pvs (cT t)))]⟩) (fun (i:Nat)=> t.kids.length - i) (0) ?_ (weakS [some 0] ?_ ?_ rfl rfl) ?_
     rotate_left
     ·simp -implicitDefEqProofs only [go_sem]
     ·simp -implicitDefEqProofs only [go_sem]
     rotate_left
     ·simp
     ·rintro i ⟨hi,hg⟩
      rcases Classical.em (i < t.kids.length) with h1 | h1
      ·rw [tShapes_drop h1] at hg
       have e2:(d:Int) + 1 - 1 = (d:Int):=by omega
       simp -implicitDefEqProofs only [go_sem,h1,e2]
       repeat (with_reducible apply And.intro; case left=>omega)
       have hc:=ih t.kids[i] (List.getElem_mem h1) d (by omega)
       refine atCall [] hc ?_ ?_ <;> simp -implicitDefEqProofs only [go_sem]
       cases h4:tShape t.kids[i] d
       ·rw [h4,Bool.false_and] at hg
        simp -implicitDefEqProofs only [go_sem]
        refine fin1' ?_
        simp -implicitDefEqProofs only [go_sem]
        all_goals (simp [e,hg]; done)
       ·rw [h4,Bool.true_and] at hg
        simp -implicitDefEqProofs only [go_sem]
        repeat (with_reducible apply And.intro; case left=>omega)
        refine ⟨i + 1,?_,?_,weakS [some 0] ?_ ?_ rfl rfl⟩
        rotate_left
        ·show _ < _
         omega
        ·simp -implicitDefEqProofs only [go_sem]
        ·simp -implicitDefEqProofs only [go_sem]
        exact ⟨by omega,hg⟩
      ·rw [List.drop_of_length_le (by omega),tShapes] at hg
       simp -implicitDefEqProofs only [go_sem,h1]
       refine fin1' ?_
       simp -implicitDefEqProofs only [go_sem]
       all_goals (simp [e,hg]; done)
theorem c_spec_l4Shape:∀ (t:Term) (d:Nat),d ≤ 4 → C E.P 247 [av (cT t),iv d] [] (Eq2 (bv (tShape t d)) []):=
 Term.ind fun n ks ih d hd=>c_spec_l4Shape1 (.mk n ks) ih d hd
theorem manys_snoc {ts:List Term} {i:Nat} (h:i < ts.length) (d:Nat):manys (ts.take (i + 1)) d = manys (ts.take i) d + many ts[i] d:=by
 have e:ts.take (i + 1) = ts.take i ++ [ts[i]]:=by rw [List.take_add_one,List.getElem?_eq_getElem h]; rfl
 have key:∀ (xs:List Term),manys (xs ++ [ts[i]]) d = manys xs d + many ts[i] d:=by
  intro xs
  induction xs with
  | nil=>simp [manys]
  | cons a xs ih=>simp only [List.cons_append,manys,ih]; omega
 rw [e,key]
theorem c_spec_l4Many1 (t:Term) (ih:∀ k ∈ t.kids,∀ d:Nat,d ≤ 4 → tShape k d = true → C E.P 248 [av (cT k),iv d] [] (Eq2 (iv (many k d)) [])) (d:Nat) (hd:d ≤ 4) (hs:tShape t d = true) :
 C E.P 248 [av (cT t),iv d] [] (Eq2 (iv (many t d)) []):=by
 cases d with
 | zero=>cases t; simp [tShape] at hs
 | succ d=>
   have hk:=tShape_kids hs
   have e:many t (d + 1) = 1 + manys t.kids d:=by cases t; rfl
   have hLB:=LB_eq
   refine C_goS (nt:=29) (rs:=[.tmp 4]) hm Tryz.func248 rfl rfl rfl rfl rfl (fun hl he=>?_)
   simp -implicitDefEqProofs only [go_sem] at hl ⊢
   refine loop_go1 hm (fun (i:Nat)=> i ≤ t.kids.length) (fun (i:Nat)=> ⟨mkS 29 .any [(1,iv ((d:Int) + 1)),(2,.ptr 0 0),(5,iv ((1 + manys (t.kids.take i) d:Nat):Int)),(6,iv i)],[some (.box (pvs (cT t)))]⟩) (fun (i:Nat)=> t.kids.length - i) (0) ?_ (weakS [some 0] ?_ ?_ rfl rfl) ?_
   rotate_left
   ·simp -implicitDefEqProofs only [go_sem]
    all_goals (simp [manys])
   ·simp -implicitDefEqProofs only [go_sem]
   rotate_left
   ·omega
   ·rintro i hi
    have b1:=manys_le (t.kids.take i) d (tShapes_take hk.2.2 i)
    have b2:(t.kids.take i).length ≤ 2:=by simp; omega
    have b3:(2:Nat) ^ d ≤ 2 ^ 4:=Nat.pow_le_pow_right (by omega) (by omega)
    have b4:(t.kids.take i).length * (2 ^ d - 1) ≤ 2 * (2 ^ d - 1):=Nat.mul_le_mul_right _ b2
    rcases Classical.em (i < t.kids.length) with h1 | h1
    ·have hsk:=tShapes_mem hk.2.2 _ (List.getElem_mem h1)
     have b5:=many_le t.kids[i] d hsk
     have e2:(d:Int) + 1 - 1 = (d:Int):=by omega
     have e3:(0:Int) < (d:Int) + 1:=by omega
     simp -implicitDefEqProofs only [go_sem,h1,e3,e2]
     repeat (with_reducible apply And.intro; case left=>omega)
     have hc:=ih t.kids[i] (List.getElem_mem h1) d (by omega) hsk
     refine atCall [] hc ?_ ?_ <;> simp -implicitDefEqProofs only [go_sem]
     repeat (with_reducible apply And.intro; case left=>omega)
     refine ⟨i + 1,?_,?_,weakS [some 0] ?_ ?_ rfl rfl⟩
     rotate_left
     ·show _ < _
      omega
     ·simp -implicitDefEqProofs only [go_sem]
      all_goals ((simp only [manys_snoc h1]; simp; omega))
     ·simp -implicitDefEqProofs only [go_sem]
     exact h1
    ·have et:t.kids.take i = t.kids:=List.take_of_length_le (by omega)
     simp -implicitDefEqProofs only [go_sem,h1,et]
     refine fin1' ?_
     simp -implicitDefEqProofs only [go_sem]
     all_goals (simp [e]; done)
theorem c_spec_l4Many:∀ (t:Term) (d:Nat),d ≤ 4 → tShape t d = true → C E.P 248 [av (cT t),iv d] [] (Eq2 (iv (many t d)) []):=
 Term.ind fun n ks ih d hd hs=>c_spec_l4Many1 (.mk n ks) ih d hd hs
theorem c_spec_l4Right (t:Term):C E.P 213 [av (cT t)] [] (Eq2 (bv (isTerm t)) []):=by
 have e:=right_eq t
 unfold right at e
 have hLB:=LB_eq
 refine C_goS (nt:=10) (rs:=[.tmp 2]) hm Tryz.func213 rfl rfl rfl rfl rfl (fun hl he=>?_)
 simp -implicitDefEqProofs only [go_sem] at hl ⊢
 have hc:=c_spec_l4Shape t 4 (by omega)
 refine atCall [] hc ?_ ?_ <;> simp -implicitDefEqProofs only [go_sem]
 cases h:tShape t 4
 ·simp -implicitDefEqProofs only [go_sem]
  refine fin1' ?_
  simp -implicitDefEqProofs only [go_sem]
  all_goals (simp [← e,h]; done)
 ·have hc:=c_spec_l4Many t 4 (by omega) h
  simp -implicitDefEqProofs only [go_sem]
  refine atCall [] hc ?_ ?_ <;> simp -implicitDefEqProofs only [go_sem]
  refine fin1' ?_
  simp -implicitDefEqProofs only [go_sem]
  rw [← e,h]
  simp
  omega
end Go.Proofs.YtpidddienjoleaaGreat
namespace Go.Proofs.YtpidddienjoleaaGreat
open Go.Eng Go.Mod
open Int renaming reduceEq → Z1,reduceLT → Z2,reduceLE → Z3,reduceToNat → Z4
set_option maxRecDepth 100000
set_option maxHeartbeats 400000
theorem c_spec_l4Find (s:Sig) (n:Str):C E.P 185 [av (cSig s),sv n] [] (Eq2 (.tup [av (cSym ((symbol s n).getD sym0)),bv (symbol s n).isSome]) []):=by
 have hLB:=LB_eq
 refine C_goS (nt:=28) (rs:=[.cell 4 117,.tmp 5]) hm Tryz.func185 rfl rfl rfl rfl rfl (fun hl he=>?_)
 simp -implicitDefEqProofs only [go_sem,Z1,Z2,Z3,Z4] at hl ⊢
 refine loop_go1 hm (fun (i:Nat)=> i ≤ s.syms.length ∧ symbol s n = (s.syms.drop i).find? (fun x=>decide (x.name = n))) (fun (i:Nat)=> ⟨mkS 28 .any [(1,sv n),(2,.ptr 0 0),(4,.ptr 1 0),(6,iv i)],[some (.box (pvs (cSig s))),some (.box (pvs (cSym sym0)))]⟩) (fun (i:Nat)=> s.syms.length - i) (0) ?_ (weakS [some 0,some 1] ?_ ?_ rfl rfl) ?_
 rotate_left
 ·simp -implicitDefEqProofs only [go_sem,Z1,Z2,Z3,Z4]
  all_goals (first | done | (simp [sym0,rowsI]) | (simp [wks_rfl, *]; done) | (simp [wks_rfl]; done) | (simp; omega) | skip)
 ·simp -implicitDefEqProofs only [go_sem,Z1,Z2,Z3,Z4]
  all_goals (first | done | (simp [sym0,rowsI]) | (simp [wks_rfl, *]; done) | (simp [wks_rfl]; done) | (simp; omega) | skip)
 rotate_left
 ·simp [symbol]
 ·rintro i ⟨hi,hg⟩
  rcases Classical.em (i < s.syms.length) with h1 | h1
  ·rw [List.drop_eq_getElem_cons h1] at hg
   rcases Classical.em (s.syms[i].name = n) with h2 | h2
   ·have e:symbol s n = some s.syms[i]:=by rw [hg]; simp only [List.find?_cons,h2,decide_true]
    try simp -implicitDefEqProofs only [go_sem,Z1,Z2,Z3,Z4,h1,h2]
    try (with_reducible refine ind_andM (by kernel_rfl) ?_)
    repeat (first | with_reducible refine ind_andM (by kernel_rfl) ?_ | (with_reducible apply And.intro; case left=>first | omega | assumption | exact ⟨rowsT_all _,by omega⟩ | exact ⟨rowsI_all _,by omega⟩ | exact ⟨rowsLit_all _,by omega⟩ | exact ⟨rowsLin_all _,by omega⟩ | exact ⟨rowsEq_all _,by omega⟩ | rfl | (simp [*]; done) | (simp; omega) | exact ⟨rowsRat_all _,by omega⟩ | exact ⟨rowsAtom_all _,by omega⟩ | exact ⟨rowsB_all _,by omega⟩ | exact ⟨rowsForm_all _,by omega⟩ | exact ⟨rowsII_all _,by omega⟩))
    refine fin1' ?_
    simp -implicitDefEqProofs only [go_sem,Z1,Z2,Z3,Z4]
    all_goals (first | done | (simp [e,h2]; done) | (simp [e,h2]; omega) | skip)
   ·have e:symbol s n = (s.syms.drop (i + 1)).find? (fun x=>decide (x.name = n)):=by rw [hg]; simp only [List.find?_cons,h2,decide_false]
    try simp -implicitDefEqProofs only [go_sem,Z1,Z2,Z3,Z4,h1,h2]
    try (with_reducible refine ind_andM (by kernel_rfl) ?_)
    repeat (first | with_reducible refine ind_andM (by kernel_rfl) ?_ | (with_reducible apply And.intro; case left=>first | omega | assumption | exact ⟨rowsT_all _,by omega⟩ | exact ⟨rowsI_all _,by omega⟩ | exact ⟨rowsLit_all _,by omega⟩ | exact ⟨rowsLin_all _,by omega⟩ | exact ⟨rowsEq_all _,by omega⟩ | rfl | (simp [*]; done) | (simp; omega) | exact ⟨rowsRat_all _,by omega⟩ | exact ⟨rowsAtom_all _,by omega⟩ | exact ⟨rowsB_all _,by omega⟩ | exact ⟨rowsForm_all _,by omega⟩ | exact ⟨rowsII_all _,by omega⟩))
    refine ⟨i + 1,?_,?_,weakS [some 0,some 1] ?_ ?_ rfl rfl⟩
    rotate_left
    ·show _ < _
     omega
    ·simp -implicitDefEqProofs only [go_sem,Z1,Z2,Z3,Z4]
     all_goals (first | done | (simp [wks_rfl, *]; done) | (simp [wks_rfl]; done) | (simp; omega) | skip)
    ·simp -implicitDefEqProofs only [go_sem,Z1,Z2,Z3,Z4]
     all_goals (first | done | (simp [wks_rfl, *]; done) | (simp [wks_rfl]; done) | (simp; omega) | skip)
    exact ⟨by omega,e⟩
  ·have e:symbol s n = none:=by rw [hg,List.drop_of_length_le (by omega)]; rfl
   try simp -implicitDefEqProofs only [go_sem,Z1,Z2,Z3,Z4,h1]
   try (with_reducible refine ind_andM (by kernel_rfl) ?_)
   refine fin1' ?_
   simp -implicitDefEqProofs only [go_sem,Z1,Z2,Z3,Z4]
   all_goals (first | done | (simp [e,sym0,rowsI_nil]; done) | (simp [e,sym0,rowsI_nil]; omega) | skip)
theorem c_spec_l4Of1 (s:Sig) (hs:sigOk s = true) (t:Term) (ih:∀ k ∈ t.kids,C E.P 125 [av (cSig s),av (cT k)] [] (Eq2 (iv ((sortOf s k).getD (-1))) [])) :
 C E.P 125 [av (cSig s),av (cT t)] [] (Eq2 (iv ((sortOf s t).getD (-1))) []):=by
 have ht:=sortOf_eq s t
 have hLB:=LB_eq
 refine C_goS (nt:=48) (rs:=[.tmp 4]) hm Tryz.func125 rfl rfl rfl rfl rfl (fun hl he=>?_)
 simp -implicitDefEqProofs only [go_sem,Z1,Z2,Z3,Z4] at hl ⊢
 refine atCall [] (c_spec_l4Find s t.name) ?_ ?_ <;> simp -implicitDefEqProofs only [go_sem,Z1,Z2,Z3,Z4]
 try (with_reducible refine ind_andM (by kernel_rfl) ?_)
 cases hx:symbol s t.name with
 | none=>
   rw [hx] at ht
   simp only at ht
   try simp -implicitDefEqProofs only [go_sem,Z1,Z2,Z3,Z4,Option.isSome_none]
   try (with_reducible refine ind_andM (by kernel_rfl) ?_)
   refine fin1' ?_
   simp -implicitDefEqProofs only [go_sem,Z1,Z2,Z3,Z4]
   all_goals (first | done | (simp [ht]; done) | (simp [ht]; omega) | skip)
 | some x=>
   rw [hx] at ht
   simp only at ht
   have hxo:=(symOk_sort (symbol_ok hs hx)).2
   rcases Classical.em (x.args.length = t.kids.length) with h1 | h1
   ·simp only [h1,decide_true,Bool.true_and] at ht
    try simp -implicitDefEqProofs only [go_sem,Z1,Z2,Z3,Z4,Option.isSome_some,Option.getD_some,h1]
    try (with_reducible refine ind_andM (by kernel_rfl) ?_)
    refine loop_go1 hm (fun (i:Nat)=> i ≤ t.kids.length ∧ sortsOk s t.kids x.args = sortsOk s (t.kids.drop i) (x.args.drop i)) (fun (i:Nat)=> ⟨mkS 48 .any [(2,.ptr 0 0),(3,.ptr 1 0),(5,.ptr 2 0),(7,iv i)],[some (.box (pvs (cSig s))),some (.box (pvs (cT t))),some (.box (pvs (cSym x)))]⟩) (fun (i:Nat)=> t.kids.length - i) (0) ?_ (weakS [some 0,some 1,some 2] ?_ ?_ rfl rfl) ?_
    rotate_left
    ·simp -implicitDefEqProofs only [go_sem,Z1,Z2,Z3,Z4]
     all_goals (first | done | (simp [wks_rfl, *]; done) | (simp [wks_rfl]; done) | (simp; omega) | skip)
    ·simp -implicitDefEqProofs only [go_sem,Z1,Z2,Z3,Z4]
     all_goals (first | done | (simp [wks_rfl, *]; done) | (simp [wks_rfl]; done) | (simp; omega) | skip)
    rotate_left
    ·simp
    ·rintro i ⟨hi,hg⟩
     rcases Classical.em (i < t.kids.length) with h2 | h2
     ·have h3:i < x.args.length:=by omega
      have hso:=isSort_iff.1 (hxo x.args[i] (List.getElem_mem h3))
      rw [sortsOk_drop h2 h3] at hg
      try simp -implicitDefEqProofs only [go_sem,Z1,Z2,Z3,Z4,h2,h3]
      try (with_reducible refine ind_andM (by kernel_rfl) ?_)
      have hc:=ih t.kids[i] (List.getElem_mem h2)
      refine atCall [] hc ?_ ?_ <;> simp -implicitDefEqProofs only [go_sem,Z1,Z2,Z3,Z4,h2,h3]
      try (with_reducible refine ind_andM (by kernel_rfl) ?_)
      repeat (first | with_reducible refine ind_andM (by kernel_rfl) ?_ | (with_reducible apply And.intro; case left=>first | omega | assumption | exact ⟨rowsT_all _,by omega⟩ | exact ⟨rowsI_all _,by omega⟩ | exact ⟨rowsLit_all _,by omega⟩ | exact ⟨rowsLin_all _,by omega⟩ | exact ⟨rowsEq_all _,by omega⟩ | rfl | (simp [*]; done) | (simp; omega) | exact ⟨rowsRat_all _,by omega⟩ | exact ⟨rowsAtom_all _,by omega⟩ | exact ⟨rowsB_all _,by omega⟩ | exact ⟨rowsForm_all _,by omega⟩ | exact ⟨rowsII_all _,by omega⟩))
      rcases Classical.em ((sortOf s t.kids[i]).getD (-1) = x.args[i]) with hn | hn
      ·have hn2:sortOf s t.kids[i] = some x.args[i]:=by
        cases hk:sortOf s t.kids[i] with
        | none=>rw [hk] at hn; simp only [Option.getD_none] at hn; omega
        | some n=>rw [hk] at hn; simp only [Option.getD_some] at hn; rw [hn]
       have hz:sortsOk s t.kids x.args = sortsOk s (t.kids.drop (i + 1)) (x.args.drop (i + 1)):=by rw [hg,hn2]; simp
       have k:=eq_true hn
       try simp -implicitDefEqProofs only [go_sem,Z1,Z2,Z3,Z4,k]
       try (with_reducible refine ind_andM (by kernel_rfl) ?_)
       repeat (first | with_reducible refine ind_andM (by kernel_rfl) ?_ | (with_reducible apply And.intro; case left=>first | omega | assumption | exact ⟨rowsT_all _,by omega⟩ | exact ⟨rowsI_all _,by omega⟩ | exact ⟨rowsLit_all _,by omega⟩ | exact ⟨rowsLin_all _,by omega⟩ | exact ⟨rowsEq_all _,by omega⟩ | rfl | (simp [*]; done) | (simp; omega) | exact ⟨rowsRat_all _,by omega⟩ | exact ⟨rowsAtom_all _,by omega⟩ | exact ⟨rowsB_all _,by omega⟩ | exact ⟨rowsForm_all _,by omega⟩ | exact ⟨rowsII_all _,by omega⟩))
       refine ⟨i + 1,?_,?_,weakS [some 0,some 1,some 2] ?_ ?_ rfl rfl⟩
       rotate_left
       ·show _ < _
        omega
       ·simp -implicitDefEqProofs only [go_sem,Z1,Z2,Z3,Z4]
        all_goals (first | done | (simp [wks_rfl, *]; done) | (simp [wks_rfl]; done) | (simp; omega) | skip)
       ·simp -implicitDefEqProofs only [go_sem,Z1,Z2,Z3,Z4]
        all_goals (first | done | (simp [wks_rfl, *]; done) | (simp [wks_rfl]; done) | (simp; omega) | skip)
       exact ⟨by omega,hz⟩
      ·have hn2:¬ sortOf s t.kids[i] = some x.args[i]:=fun h=>hn (by rw [h]; rfl)
       have hz:sortsOk s t.kids x.args = false:=by
        rw [hg]
        simp [hn2]
       rw [hz] at ht
       simp only [Bool.false_eq_true,if_false] at ht
       try simp -implicitDefEqProofs only [go_sem,Z1,Z2,Z3,Z4,hn]
       try (with_reducible refine ind_andM (by kernel_rfl) ?_)
       refine fin1' ?_
       simp -implicitDefEqProofs only [go_sem,Z1,Z2,Z3,Z4]
       all_goals (first | done | (simp [ht]; done) | (simp [ht]; omega) | skip)
     ·rw [List.drop_of_length_le (by omega),List.drop_of_length_le (by omega)] at hg
      rw [hg] at ht
      simp only [sortsOk,if_true] at ht
      try simp -implicitDefEqProofs only [go_sem,Z1,Z2,Z3,Z4,h2]
      try (with_reducible refine ind_andM (by kernel_rfl) ?_)
      refine fin1' ?_
      simp -implicitDefEqProofs only [go_sem,Z1,Z2,Z3,Z4]
      all_goals (first | done | (simp [ht]; done) | (simp [ht]; omega) | skip)
   ·simp only [h1,decide_false,Bool.false_and,Bool.false_eq_true,if_false] at ht
    try simp -implicitDefEqProofs only [go_sem,Z1,Z2,Z3,Z4,Option.isSome_some,Option.getD_some,h1]
    try (with_reducible refine ind_andM (by kernel_rfl) ?_)
    refine fin1' ?_
    simp -implicitDefEqProofs only [go_sem,Z1,Z2,Z3,Z4]
    all_goals (first | done | (simp [ht]; done) | (simp [ht]; omega) | skip)
theorem c_spec_l4Of (s:Sig) (hs:sigOk s = true):∀ (t:Term),C E.P 125 [av (cSig s),av (cT t)] [] (Eq2 (iv ((sortOf s t).getD (-1))) []):=
 Term.ind fun n ks ih=>c_spec_l4Of1 s hs (.mk n ks) ih
theorem drop_eq {α:Type} {xs ys:List α} {i:Nat} (h:i < xs.length) (h':i < ys.length):(xs.drop i = ys.drop i) = (xs[i] = ys[i] ∧ xs.drop (i + 1) = ys.drop (i + 1)):=by
 rw [List.drop_eq_getElem_cons h,List.drop_eq_getElem_cons h',List.cons.injEq]
theorem c_spec_TermSame1 (a b:Term) (ih:∀ k ∈ a.kids,∀ y,C E.P 184 [av (cT k),av (cT y)] [] (Eq2 (bv (decide (k = y))) [])):C E.P 184 [av (cT a),av (cT b)] [] (Eq2 (bv (decide (a = b))) []):=by
 have hLB:=LB_eq
 refine C_goS (nt:=39) (rs:=[.tmp 4]) hm Tryz.func184 rfl rfl rfl rfl rfl (fun hl he=>?_)
 simp -implicitDefEqProofs only [go_sem,Z1,Z2,Z3,Z4] at hl ⊢
 rcases Classical.em (a.name = b.name) with h | h
 ·have k:=eq_true h
  try simp -implicitDefEqProofs only [go_sem,Z1,Z2,Z3,Z4,k]
  try (with_reducible refine ind_andM (by kernel_rfl) ?_)
  rcases Classical.em (a.kids.length = b.kids.length) with h2 | h2
  ·have k2:=eq_true h2
   try simp -implicitDefEqProofs only [go_sem,Z1,Z2,Z3,Z4,k2]
   try (with_reducible refine ind_andM (by kernel_rfl) ?_)
   refine loop_go1 hm (fun (i:Nat)=> i ≤ a.kids.length ∧ (a.kids = b.kids ↔ a.kids.drop i = b.kids.drop i)) (fun (i:Nat)=> ⟨mkS 39 .any [(2,.ptr 0 0),(3,.ptr 1 0),(5,iv i)],[some (.box (pvs (cT a))),some (.box (pvs (cT b)))]⟩) (fun (i:Nat)=> a.kids.length - i) (0) ?_ (weakS [some 0,some 1] ?_ ?_ rfl rfl) ?_
   rotate_left
   ·simp -implicitDefEqProofs only [go_sem,Z1,Z2,Z3,Z4]
    all_goals (first | done | (simp [wks_rfl, *]; done) | (simp [wks_rfl]; done) | (simp; omega) | skip)
   ·simp -implicitDefEqProofs only [go_sem,Z1,Z2,Z3,Z4]
    all_goals (first | done | (simp [wks_rfl, *]; done) | (simp [wks_rfl]; done) | (simp; omega) | skip)
   rotate_left
   ·simp
   ·rintro i ⟨hi,hg⟩
    rcases Classical.em (i < a.kids.length) with h3 | h3
    ·have h4:i < b.kids.length:=by omega
     rw [drop_eq h3 h4] at hg
     try simp -implicitDefEqProofs only [go_sem,Z1,Z2,Z3,Z4,h3,h4]
     try (with_reducible refine ind_andM (by kernel_rfl) ?_)
     have hc:=ih a.kids[i] (List.getElem_mem h3) b.kids[i]
     refine atCall [] hc ?_ ?_ <;> simp -implicitDefEqProofs only [go_sem,Z1,Z2,Z3,Z4]
     try (with_reducible refine ind_andM (by kernel_rfl) ?_)
     rcases Classical.em (a.kids[i] = b.kids[i]) with h5 | h5
     ·have k5:=eq_true h5
      try simp -implicitDefEqProofs only [go_sem,Z1,Z2,Z3,Z4,k5]
      try (with_reducible refine ind_andM (by kernel_rfl) ?_)
      repeat (first | with_reducible refine ind_andM (by kernel_rfl) ?_ | (with_reducible apply And.intro; case left=>first | omega | assumption | exact ⟨rowsT_all _,by omega⟩ | exact ⟨rowsI_all _,by omega⟩ | exact ⟨rowsLit_all _,by omega⟩ | exact ⟨rowsLin_all _,by omega⟩ | exact ⟨rowsEq_all _,by omega⟩ | rfl | (simp [*]; done) | (simp; omega) | exact ⟨rowsRat_all _,by omega⟩ | exact ⟨rowsAtom_all _,by omega⟩ | exact ⟨rowsB_all _,by omega⟩ | exact ⟨rowsForm_all _,by omega⟩ | exact ⟨rowsII_all _,by omega⟩))
      refine ⟨i + 1,?_,?_,weakS [some 0,some 1] ?_ ?_ rfl rfl⟩
      rotate_left
      ·show _ < _
       omega
      ·simp -implicitDefEqProofs only [go_sem,Z1,Z2,Z3,Z4]
       all_goals (first | done | (simp [wks_rfl, *]; done) | (simp [wks_rfl]; done) | (simp; omega) | skip)
      ·simp -implicitDefEqProofs only [go_sem,Z1,Z2,Z3,Z4]
       all_goals (first | done | (simp [wks_rfl, *]; done) | (simp [wks_rfl]; done) | (simp; omega) | skip)
      refine ⟨by omega,?_⟩
      rw [hg]
      simp [h5]
     ·have e:¬ a.kids = b.kids:=fun hh=>h5 (hg.1 hh).1
      try simp -implicitDefEqProofs only [go_sem,Z1,Z2,Z3,Z4,h5]
      try (with_reducible refine ind_andM (by kernel_rfl) ?_)
      refine fin1' ?_
      simp -implicitDefEqProofs only [go_sem,Z1,Z2,Z3,Z4]
      all_goals (first | done | (simp [term_eq,e]; done) | (simp [term_eq,e]; omega) | skip)
    ·rw [List.drop_of_length_le (by omega),List.drop_of_length_le (by omega)] at hg
     try simp -implicitDefEqProofs only [go_sem,Z1,Z2,Z3,Z4,h3]
     try (with_reducible refine ind_andM (by kernel_rfl) ?_)
     refine fin1' ?_
     simp -implicitDefEqProofs only [go_sem,Z1,Z2,Z3,Z4]
     all_goals (first | done | (simp [term_eq,h,hg]; done) | (simp [term_eq,h,hg]; omega) | skip)
  ·have e:¬ a.kids = b.kids:=fun hh=>h2 (by rw [hh])
   try simp -implicitDefEqProofs only [go_sem,Z1,Z2,Z3,Z4,h2]
   try (with_reducible refine ind_andM (by kernel_rfl) ?_)
   refine fin1' ?_
   simp -implicitDefEqProofs only [go_sem,Z1,Z2,Z3,Z4]
   all_goals (first | done | (simp [term_eq,e]; done) | (simp [term_eq,e]; omega) | skip)
 ·try simp -implicitDefEqProofs only [go_sem,Z1,Z2,Z3,Z4,h]
  try (with_reducible refine ind_andM (by kernel_rfl) ?_)
  refine fin1' ?_
  simp -implicitDefEqProofs only [go_sem,Z1,Z2,Z3,Z4]
  all_goals (first | done | (simp [term_eq,h]; done) | (simp [term_eq,h]; omega) | skip)
theorem c_spec_TermSame:∀ a b,C E.P 184 [av (cT a),av (cT b)] [] (Eq2 (bv (decide (a = b))) []):=
 Term.ind fun n ks ih b=>c_spec_TermSame1 (.mk n ks) b ih
theorem c_spec_l6None (t:Term):C E.P 245 [av (cT t)] [] (Eq2 (bv (isNone t)) []):=by
 have hLB:=LB_eq
 refine C_goS (nt:=12) (rs:=[.tmp 2]) hm Tryz.func245 rfl rfl rfl rfl rfl (fun hl he=>?_)
 simp -implicitDefEqProofs only [go_sem,Z1,Z2,Z3,Z4] at hl ⊢
 rcases Classical.em (t.name = []) with h | h
 ·have k:=eq_true h
  try simp -implicitDefEqProofs only [go_sem,Z1,Z2,Z3,Z4,k]
  try (with_reducible refine ind_andM (by kernel_rfl) ?_)
  refine fin1' ?_
  simp -implicitDefEqProofs only [go_sem,Z1,Z2,Z3,Z4]
  all_goals (first | done | (simp [isNone,h]; done) | (simp [isNone,h]; omega) | skip)
 ·try simp -implicitDefEqProofs only [go_sem,Z1,Z2,Z3,Z4,h]
  try (with_reducible refine ind_andM (by kernel_rfl) ?_)
  refine fin1' ?_
  simp -implicitDefEqProofs only [go_sem,Z1,Z2,Z3,Z4]
  all_goals (first | done | (simp [isNone,h]; done) | (simp [isNone,h]; omega) | skip)
theorem c_spec_l4Copy1 (t:Term) (ih:∀ k ∈ t.kids,C E.P 46 [av (cT k)] [] (Eq2 (av (cT k)) [])):C E.P 46 [av (cT t)] [] (Eq2 (av (cT t)) []):=by
 have hLB:=LB_eq
 refine C_goS (nt:=27) (rs:=[.cell 2 35]) hm Tryz.func46 rfl rfl rfl rfl rfl (fun hl he=>?_)
 simp -implicitDefEqProofs only [go_sem,Z1,Z2,Z3,Z4] at hl ⊢
 refine loop_go1 hm (fun (i:Nat)=> i ≤ t.kids.length) (fun (i:Nat)=> ⟨mkS 27 .any [(1,.ptr 0 0),(2,.ptr 1 0),(3,.ptr 2 0),(4,iv i)],[some (.box (pvs (cT t))),some (.box (pvs (cT term0))),some (.box [.d (.str t.name),.acc 3]),some (.acc 35 (rowsT (t.kids.take i)))]⟩) (fun (i:Nat)=> t.kids.length - i) (0) ?_ (weakS [some 0,some 1,some 2,none] ?_ ?_ rfl rfl) ?_
 rotate_left
 ·simp -implicitDefEqProofs only [go_sem,Z1,Z2,Z3,Z4]
  all_goals (first | done | (simp [wks_rfl, *]; done) | (simp [wks_rfl]; done) | (simp; omega) | skip)
 ·simp -implicitDefEqProofs only [go_sem,Z1,Z2,Z3,Z4]
  all_goals (first | done | (simp [wks_rfl, *]; done) | (simp [wks_rfl]; done) | (simp; omega) | skip)
 rotate_left
 ·omega
 ·rintro i hi
  rcases Classical.em (i < t.kids.length) with h1 | h1
  ·try simp -implicitDefEqProofs only [go_sem,Z1,Z2,Z3,Z4,h1]
   try (with_reducible refine ind_andM (by kernel_rfl) ?_)
   have hc:=ih t.kids[i] (List.getElem_mem h1)
   refine atCall [] hc ?_ ?_ <;> simp -implicitDefEqProofs only [go_sem,Z1,Z2,Z3,Z4]
   try (with_reducible refine ind_andM (by kernel_rfl) ?_)
   repeat (first | with_reducible refine ind_andM (by kernel_rfl) ?_ | (with_reducible apply And.intro; case left=>first | omega | assumption | exact ⟨rowsT_all _,by omega⟩ | exact ⟨rowsI_all _,by omega⟩ | exact ⟨rowsLit_all _,by omega⟩ | exact ⟨rowsLin_all _,by omega⟩ | exact ⟨rowsEq_all _,by omega⟩ | rfl | (simp [*]; done) | (simp; omega) | exact ⟨rowsRat_all _,by omega⟩ | exact ⟨rowsAtom_all _,by omega⟩ | exact ⟨rowsB_all _,by omega⟩ | exact ⟨rowsForm_all _,by omega⟩ | exact ⟨rowsII_all _,by omega⟩))
   refine ⟨i + 1,?_,?_,weakS [some 0,some 1,some 2,some 4] ?_ ?_ rfl rfl⟩
   rotate_left
   ·show _ < _
    omega
   ·simp -implicitDefEqProofs only [go_sem,Z1,Z2,Z3,Z4]
    all_goals (first | done | (exact rowsT_snoc h1) | (simp [wks_rfl, *]; done) | (simp [wks_rfl]; done) | (simp; omega) | skip)
   ·simp -implicitDefEqProofs only [go_sem,Z1,Z2,Z3,Z4]
    all_goals (first | done | (exact rowsT_snoc h1) | (simp [wks_rfl, *]; done) | (simp [wks_rfl]; done) | (simp; omega) | skip)
   exact h1
  ·have et:t.kids.take i = t.kids:=List.take_of_length_le (by omega)
   try simp -implicitDefEqProofs only [go_sem,Z1,Z2,Z3,Z4,h1,et]
   try (with_reducible refine ind_andM (by kernel_rfl) ?_)
   refine fin1' ?_
   simp -implicitDefEqProofs only [go_sem,Z1,Z2,Z3,Z4]
   all_goals (first | done | (simp; done) | (simp; omega) | skip)
theorem c_spec_l4Copy:∀ t,C E.P 46 [av (cT t)] [] (Eq2 (av (cT t)) []):=
 Term.ind fun n ks ih=>c_spec_l4Copy1 (.mk n ks) ih
theorem c_spec_l4Place (ts:List Term) (t:Term):C E.P 123 [lv (rowsT ts),av (cT t)] [] (Eq2 (iv (termIdx ts t)) []):=by
 have hLB:=LB_eq
 refine C_goS (nt:=19) (rs:=[.tmp 4]) hm Tryz.func123 rfl rfl rfl rfl rfl (fun hl he=>?_)
 simp -implicitDefEqProofs only [go_sem,Z1,Z2,Z3,Z4] at hl ⊢
 refine loop_go1 hm (fun (i:Nat)=> i ≤ ts.length ∧ termIdx ts t = idxGo (fun u=>decide (t = u)) (ts.drop i) i) (fun (i:Nat)=> ⟨mkS 19 .any [(0,lv (rowsT ts)),(3,.ptr 0 0),(5,iv i)],[some (.box (pvs (cT t)))]⟩) (fun (i:Nat)=> ts.length - i) (0) ?_ (weakS [some 0] ?_ ?_ rfl rfl) ?_
 rotate_left
 ·simp -implicitDefEqProofs only [go_sem,Z1,Z2,Z3,Z4]
  all_goals (first | done | (simp [wks_rfl, *]; done) | (simp [wks_rfl]; done) | (simp; omega) | skip)
 ·simp -implicitDefEqProofs only [go_sem,Z1,Z2,Z3,Z4]
  all_goals (first | done | (simp [wks_rfl, *]; done) | (simp [wks_rfl]; done) | (simp; omega) | skip)
 rotate_left
 ·simp [termIdx,idxOf]
 ·rintro i ⟨hi,hg⟩
  rcases Classical.em (i < ts.length) with h1 | h1
  ·rw [List.drop_eq_getElem_cons h1,idxGo] at hg
   try simp -implicitDefEqProofs only [go_sem,Z1,Z2,Z3,Z4,h1]
   try (with_reducible refine ind_andM (by kernel_rfl) ?_)
   refine atCall [] (c_spec_TermSame ts[i] t) ?_ ?_ <;> simp -implicitDefEqProofs only [go_sem,Z1,Z2,Z3,Z4]
   try (with_reducible refine ind_andM (by kernel_rfl) ?_)
   rcases Classical.em (ts[i] = t) with h2 | h2
   ·have k:=eq_true h2
    simp only [h2,decide_true,if_true] at hg
    try simp -implicitDefEqProofs only [go_sem,Z1,Z2,Z3,Z4,k]
    try (with_reducible refine ind_andM (by kernel_rfl) ?_)
    refine fin1' ?_
    simp -implicitDefEqProofs only [go_sem,Z1,Z2,Z3,Z4]
    all_goals (first | done | (simp [hg]; done) | (simp [hg]; omega) | skip)
   ·have h3:¬ t = ts[i]:=fun h=>h2 h.symm
    simp only [h3,decide_false,Bool.false_eq_true,if_false] at hg
    try simp -implicitDefEqProofs only [go_sem,Z1,Z2,Z3,Z4,h2]
    try (with_reducible refine ind_andM (by kernel_rfl) ?_)
    repeat (first | with_reducible refine ind_andM (by kernel_rfl) ?_ | (with_reducible apply And.intro; case left=>first | omega | assumption | exact ⟨rowsT_all _,by omega⟩ | exact ⟨rowsI_all _,by omega⟩ | exact ⟨rowsLit_all _,by omega⟩ | exact ⟨rowsLin_all _,by omega⟩ | exact ⟨rowsEq_all _,by omega⟩ | rfl | (simp [*]; done) | (simp; omega) | exact ⟨rowsRat_all _,by omega⟩ | exact ⟨rowsAtom_all _,by omega⟩ | exact ⟨rowsB_all _,by omega⟩ | exact ⟨rowsForm_all _,by omega⟩ | exact ⟨rowsII_all _,by omega⟩))
    refine ⟨i + 1,?_,?_,weakS [some 0] ?_ ?_ rfl rfl⟩
    rotate_left
    ·show _ < _
     omega
    ·simp -implicitDefEqProofs only [go_sem,Z1,Z2,Z3,Z4]
     all_goals (first | done | (simp [wks_rfl, *]; done) | (simp [wks_rfl]; done) | (simp; omega) | skip)
    ·simp -implicitDefEqProofs only [go_sem,Z1,Z2,Z3,Z4]
     all_goals (first | done | (simp [wks_rfl, *]; done) | (simp [wks_rfl]; done) | (simp; omega) | skip)
    exact ⟨by omega,by rw [hg]; rfl⟩
  ·rw [List.drop_of_length_le (by omega),idxGo] at hg
   try simp -implicitDefEqProofs only [go_sem,Z1,Z2,Z3,Z4,h1]
   try (with_reducible refine ind_andM (by kernel_rfl) ?_)
   refine fin1' ?_
   simp -implicitDefEqProofs only [go_sem,Z1,Z2,Z3,Z4]
   all_goals (first | done | (simp [hg]; done) | (simp [hg]; omega) | skip)
theorem c_spec_l4Parts1 (t:Term) (ih:∀ k ∈ t.kids,∀ (d:Nat) (l:List Term),d ≤ 4 → tShape k d = true → l.length ≤ 999000 + 15 * (4 - d) → C E.P 127 [.acc 0,av (cT k)] [some (.acc 35 (rowsT l))] (Eq2 (.acc 1) [some .dead,some (.acc 35 (rowsT (withParts l k)))])) (d:Nat) (l:List Term)
 (hd:d ≤ 4) (hsh:tShape t d = true) (hl1:l.length ≤ 999000 + 15 * (4 - d)) :
 C E.P 127 [.acc 0,av (cT t)] [some (.acc 35 (rowsT l))] (Eq2 (.acc 1) [some .dead,some (.acc 35 (rowsT (withParts l t)))]):=by
 cases d with
 | zero=>cases t; simp [tShape] at hsh
 | succ d=>
 have hk:=tShape_kids hsh
 have hle:=fun i=>withPartss_le (l:=l) hsh (by omega) i
 have hLB:=LB_eq
 refine C_goS (nt:=30) (rs:=[.tmp 4]) hm Tryz.func127 rfl rfl rfl rfl rfl (fun hl he=>?_)
 simp -implicitDefEqProofs only [go_sem,Z1,Z2,Z3,Z4] at hl ⊢
 refine loop_go1 hm (fun (i:Nat)=> i ≤ t.kids.length) (fun (i:Nat)=> ⟨mkS 30 .any [(0,.acc 2),(3,.ptr 1 0),(5,iv i)],[some .dead,some (.box (pvs (cT t))),some (.acc 35 (rowsT (withPartss l (t.kids.take i))))]⟩) (fun (i:Nat)=> t.kids.length - i) (0) ?_ (weakS [some 0,some 1,some 0] ?_ ?_ rfl rfl) ?_
 rotate_left
 ·simp -implicitDefEqProofs only [go_sem,Z1,Z2,Z3,Z4]
  all_goals (first | done | (simp only [withPartss]) | (simp [wks_rfl, *]; done) | (simp [wks_rfl]; done) | (simp; omega) | skip)
 ·simp -implicitDefEqProofs only [go_sem,Z1,Z2,Z3,Z4]
  all_goals (first | done | (simp only [withPartss]) | (simp [wks_rfl, *]; done) | (simp [wks_rfl]; done) | (simp; omega) | skip)
 rotate_left
 ·omega
 ·rintro i hi
  rcases Classical.em (i < t.kids.length) with h1 | h1
  ·try simp -implicitDefEqProofs only [go_sem,Z1,Z2,Z3,Z4,h1]
   try (with_reducible refine ind_andM (by kernel_rfl) ?_)
   have hc:=ih t.kids[i] (List.getElem_mem h1) d (withPartss l (t.kids.take i)) (by omega) (tShapes_mem hk.2.2 _ (List.getElem_mem h1)) (by have:=hle i; omega)
   refine atOwn [] [2,3] hc ?_ ?_ <;> simp -implicitDefEqProofs only [go_sem,Z1,Z2,Z3,Z4]
   try (with_reducible refine ind_andM (by kernel_rfl) ?_)
   repeat (first | with_reducible refine ind_andM (by kernel_rfl) ?_ | (with_reducible apply And.intro; case left=>first | omega | assumption | exact ⟨rowsT_all _,by omega⟩ | exact ⟨rowsI_all _,by omega⟩ | exact ⟨rowsLit_all _,by omega⟩ | exact ⟨rowsLin_all _,by omega⟩ | exact ⟨rowsEq_all _,by omega⟩ | rfl | (simp [*]; done) | (simp; omega) | exact ⟨rowsRat_all _,by omega⟩ | exact ⟨rowsAtom_all _,by omega⟩ | exact ⟨rowsB_all _,by omega⟩ | exact ⟨rowsForm_all _,by omega⟩ | exact ⟨rowsII_all _,by omega⟩))
   refine ⟨i + 1,?_,?_,weakS [some 0,some 1,some 3] ?_ ?_ rfl rfl⟩
   rotate_left
   ·show _ < _
    omega
   ·simp -implicitDefEqProofs only [go_sem,Z1,Z2,Z3,Z4]
    all_goals (first | done | (simp only [withPartss_snoc h1]) | (simp [wks_rfl, *]; done) | (simp [wks_rfl]; done) | (simp; omega) | skip)
   ·simp -implicitDefEqProofs only [go_sem,Z1,Z2,Z3,Z4]
    all_goals (first | done | (simp only [withPartss_snoc h1]) | (simp [wks_rfl, *]; done) | (simp [wks_rfl]; done) | (simp; omega) | skip)
   exact h1
  ·have e:t.kids.take i = t.kids:=List.take_of_length_le (by omega)
   have h2:=hle i
   rw [e] at h2
   try simp -implicitDefEqProofs only [go_sem,Z1,Z2,Z3,Z4,h1,e]
   try (with_reducible refine ind_andM (by kernel_rfl) ?_)
   refine atLook [] [2] (c_spec_l4Place (withPartss l t.kids) t) rfl ?_ ?_ ?_
   ·(simp -implicitDefEqProofs only [go_sem,Z1,Z2,Z3,Z4]; repeat' (first | exact Vws.nil | apply Vws.cons | exact Vw.same (by first | rfl | simp -implicitDefEqProofs only [go_sem,Z1,Z2,Z3,Z4]) | exact Vw.acc rfl rfl | exact Vw.tre rfl rfl (by simp -implicitDefEqProofs only [go_sem,Z1,Z2,Z3,Z4]) | exact Vw.nil | apply Vw.agg | apply Vw.fn | refine Vw.box rfl rfl ?_))
   all_goals simp -implicitDefEqProofs only [go_sem,Z1,Z2,Z3,Z4]
   try (with_reducible refine ind_andM (by kernel_rfl) ?_)
   rcases Classical.em (0 ≤ termIdx (withPartss l t.kids) t) with hx | hx
   ·have hx':¬ termIdx (withPartss l t.kids) t < 0:=by omega
    try simp -implicitDefEqProofs only [go_sem,Z1,Z2,Z3,Z4,hx]
    try (with_reducible refine ind_andM (by kernel_rfl) ?_)
    refine finM' [some 0,some 2] ?_ rfl rfl
    simp -implicitDefEqProofs only [go_sem,Z1,Z2,Z3,Z4]
    rw [withParts_eq,if_neg hx']
   ·have hx':termIdx (withPartss l t.kids) t < 0:=by omega
    try simp -implicitDefEqProofs only [go_sem,Z1,Z2,Z3,Z4,hx]
    try (with_reducible refine ind_andM (by kernel_rfl) ?_)
    refine atCall [] (c_spec_l4Copy t) ?_ ?_ <;> simp -implicitDefEqProofs only [go_sem,Z1,Z2,Z3,Z4]
    try (with_reducible refine ind_andM (by kernel_rfl) ?_)
    repeat (first | with_reducible refine ind_andM (by kernel_rfl) ?_ | (with_reducible apply And.intro; case left=>first | omega | assumption | exact ⟨rowsT_all _,by omega⟩ | exact ⟨rowsI_all _,by omega⟩ | exact ⟨rowsLit_all _,by omega⟩ | exact ⟨rowsLin_all _,by omega⟩ | exact ⟨rowsEq_all _,by omega⟩ | rfl | (simp [*]; done) | (simp; omega) | exact ⟨rowsRat_all _,by omega⟩ | exact ⟨rowsAtom_all _,by omega⟩ | exact ⟨rowsB_all _,by omega⟩ | exact ⟨rowsForm_all _,by omega⟩ | exact ⟨rowsII_all _,by omega⟩))
    refine finM' [some 0,some 3] ?_ rfl rfl
    simp -implicitDefEqProofs only [go_sem,Z1,Z2,Z3,Z4]
    rw [withParts_eq,if_pos hx',← rowsT_app,rowsT_cons,rowsT_nil]
    rfl
theorem c_spec_l4Parts:∀ (t:Term) (d:Nat) (l:List Term),d ≤ 4 → tShape t d = true → l.length ≤ 999000 + 15 * (4 - d) → C E.P 127 [.acc 0,av (cT t)] [some (.acc 35 (rowsT l))] (Eq2 (.acc 1) [some .dead,some (.acc 35 (rowsT (withParts l t)))]):=
 Term.ind fun n ks ih d l h1 h2 h3=>c_spec_l4Parts1 (.mk n ks) ih d l h1 h2 h3
end Go.Proofs.YtpidddienjoleaaGreat
namespace Go.Proofs.YtpidddienjoleaaGreat
open Go.Eng Go.Mod
open Int renaming reduceEq → Z1,reduceLT → Z2,reduceLE → Z3,reduceToNat → Z4
set_option maxRecDepth 100000
set_option maxHeartbeats 400000
theorem commas_snoc:∀ (xs:List Str) (x:Str),commas (xs ++ [x]) = if xs = [] then x else commas xs ++ (44 :: x)
 | [],x=>by simp [commas]
 | [a],x=>by simp [commas]
 | a :: b :: xs,x=>by
   have:=commas_snoc (b :: xs) x
   simp only [List.cons_append] at this
   simp [commas,this]
def textSo (t:Term) (i:Nat):Str:=match i with
 | 0=>t.name
 | i + 1=>t.name ++ (40 :: commas ((t.kids.take (i + 1)).map termText))
theorem textSo_step {t:Term} {i:Nat} (h:i < t.kids.length):textSo t (i + 1) = textSo t i ++ ((if i = 0 then [40] else [44]) ++ termText t.kids[i]):=by
 have e:(t.kids.take (i + 1)).map termText = (t.kids.take i).map termText ++ [termText t.kids[i]]:=by
  rw [take_snoc h,List.map_append]; rfl
 cases i with
 | zero=>
   simp only [textSo,e,List.take_zero,List.map_nil,List.nil_append,commas,if_true]
   rfl
 | succ i=>
   have hne:¬ (t.kids.take (i + 1)).map termText = []:=by
    intro hh
    have hz:t.kids.take (i + 1) = []:=by simpa using hh
    have hz2:(t.kids.take (i + 1)).length = 0:=by rw [hz]; rfl
    rw [List.length_take] at hz2
    omega
   simp only [textSo,e,commas_snoc,hne,if_false]
   simp
theorem textSo_end {t:Term} (h:t.kids ≠ []):termText t = textSo t t.kids.length ++ [41]:=by
 rw [termText_eq t h,← commas_join]
 match hk:t.kids.length,h with
 | 0,h=>exact absurd (List.length_eq_zero_iff.1 hk) h
 | n + 1,_=>
   have hk':t.kids.take (n + 1) = t.kids:=List.take_of_length_le (by omega)
   simp only [textSo,hk']
   simp
theorem textSo_len {t:Term} {d:Nat} (h:tShape t d = true) (hd:d ≤ 4) (i:Nat) (hi:i ≤ t.kids.length):(textSo t i).length ≤ 122:=by
 have key:∀ k,i + k ≤ t.kids.length → (textSo t i).length ≤ (textSo t (i + k)).length:=by
  intro k
  induction k with
  | zero=>intro _; exact Nat.le_refl _
  | succ k ih=>
    intro hk
    have h1:=ih (by omega)
    rw [← Nat.add_assoc,textSo_step (by omega)]
    simp only [List.length_append]
    omega
 have h1:=key (t.kids.length - i) (by omega)
 rw [show i + (t.kids.length - i) = t.kids.length by omega] at h1
 have h2:=termText_len h hd
 rcases Classical.em (t.kids = []) with hk | hk
 ·rw [termText_nil t hk] at h2
  have hi0:i = 0:=by rw [hk] at hi; simpa using hi
  subst hi0
  simp only [textSo]
  omega
 ·rw [textSo_end hk] at h2
  simp only [List.length_append,List.length_cons,List.length_nil] at h2
  omega
theorem c_spec_l4Text1 (t:Term) (ih:∀ k ∈ t.kids,∀ d:Nat,d ≤ 4 → tShape k d = true → C E.P 246 [av (cT k)] [] (Eq2 (sv (termText k)) [])) (d:Nat) (hd:d ≤ 4) (hsh:tShape t d = true) :
 C E.P 246 [av (cT t)] [] (Eq2 (sv (termText t)) []):=by
 cases d with
 | zero=>cases t; simp [tShape] at hsh
 | succ d=>
 have hk:=tShape_kids hsh
 have hlen:=fun i hi=>textSo_len hsh hd i hi
 have hLB:=LB_eq
 refine C_goS (nt:=34) (rs:=[.tmp 2]) hm Tryz.func246 rfl rfl rfl rfl rfl (fun hl he=>?_)
 simp -implicitDefEqProofs only [go_sem,Z1,Z2,Z3,Z4] at hl ⊢
 refine loop_go1 hm (fun (i:Nat)=> i ≤ t.kids.length) (fun (i:Nat)=> ⟨mkS 34 .any [(1,.ptr 0 0),(3,sv (textSo t i)),(4,iv i)],[some (.box (pvs (cT t)))]⟩) (fun (i:Nat)=> t.kids.length - i) (0) ?_ (weakS [some 0] ?_ ?_ rfl rfl) ?_
 rotate_left
 ·simp -implicitDefEqProofs only [go_sem,Z1,Z2,Z3,Z4]
  all_goals (first | done | (simp [textSo]) | (simp [wks_rfl, *]; done) | (simp [wks_rfl]; done) | (simp; omega) | skip)
 ·simp -implicitDefEqProofs only [go_sem,Z1,Z2,Z3,Z4]
  all_goals (first | done | (simp [textSo]) | (simp [wks_rfl, *]; done) | (simp [wks_rfl]; done) | (simp; omega) | skip)
 rotate_left
 ·omega
 ·rintro i hi
  rcases Classical.em (i < t.kids.length) with h1 | h1
  ·have hsk:=tShapes_mem hk.2.2 _ (List.getElem_mem h1)
   have b1:=termText_len hsk (by omega)
   have b2:=hlen i hi
   have hc:=ih t.kids[i] (List.getElem_mem h1) d (by omega) hsk
   have hst:=textSo_step h1
   try simp -implicitDefEqProofs only [go_sem,Z1,Z2,Z3,Z4,h1]
   try (with_reducible refine ind_andM (by kernel_rfl) ?_)
   cases i with
   | zero=>
     try simp -implicitDefEqProofs only [go_sem,Z1,Z2,Z3,Z4,h1]
     try (with_reducible refine ind_andM (by kernel_rfl) ?_)
     repeat (first | with_reducible refine ind_andM (by kernel_rfl) ?_ | (with_reducible apply And.intro; case left=>first | omega | assumption | exact ⟨rowsT_all _,by omega⟩ | exact ⟨rowsI_all _,by omega⟩ | exact ⟨rowsLit_all _,by omega⟩ | exact ⟨rowsLin_all _,by omega⟩ | exact ⟨rowsEq_all _,by omega⟩ | rfl | (simp [*]; done) | (simp; omega) | exact ⟨rowsRat_all _,by omega⟩ | exact ⟨rowsAtom_all _,by omega⟩ | exact ⟨rowsB_all _,by omega⟩ | exact ⟨rowsForm_all _,by omega⟩ | exact ⟨rowsII_all _,by omega⟩))
     refine atCall [] hc ?_ ?_ <;> simp -implicitDefEqProofs only [go_sem,Z1,Z2,Z3,Z4]
     try (with_reducible refine ind_andM (by kernel_rfl) ?_)
     repeat (first | with_reducible refine ind_andM (by kernel_rfl) ?_ | (with_reducible apply And.intro; case left=>first | omega | assumption | exact ⟨rowsT_all _,by omega⟩ | exact ⟨rowsI_all _,by omega⟩ | exact ⟨rowsLit_all _,by omega⟩ | exact ⟨rowsLin_all _,by omega⟩ | exact ⟨rowsEq_all _,by omega⟩ | rfl | (simp [*]; done) | (simp; omega) | exact ⟨rowsRat_all _,by omega⟩ | exact ⟨rowsAtom_all _,by omega⟩ | exact ⟨rowsB_all _,by omega⟩ | exact ⟨rowsForm_all _,by omega⟩ | exact ⟨rowsII_all _,by omega⟩))
     refine ⟨0 + 1,?_,?_,weakS [some 0] ?_ ?_ rfl rfl⟩
     rotate_left
     ·show _ < _
      omega
     ·simp -implicitDefEqProofs only [go_sem,Z1,Z2,Z3,Z4]
      all_goals (first | done | ((rw [hst]; simp)) | (simp [wks_rfl, *]; done) | (simp [wks_rfl]; done) | (simp; omega) | skip)
     ·simp -implicitDefEqProofs only [go_sem,Z1,Z2,Z3,Z4]
      all_goals (first | done | ((rw [hst]; simp)) | (simp [wks_rfl, *]; done) | (simp [wks_rfl]; done) | (simp; omega) | skip)
     exact h1
   | succ i=>
     have e1:¬ (i:Int) + 1 = 0:=by omega
     have et:((i:Int) + 1).toNat = i + 1:=by omega
     try simp -implicitDefEqProofs only [go_sem,Z1,Z2,Z3,Z4,e1,et,h1]
     try (with_reducible refine ind_andM (by kernel_rfl) ?_)
     repeat (first | with_reducible refine ind_andM (by kernel_rfl) ?_ | (with_reducible apply And.intro; case left=>first | omega | assumption | exact ⟨rowsT_all _,by omega⟩ | exact ⟨rowsI_all _,by omega⟩ | exact ⟨rowsLit_all _,by omega⟩ | exact ⟨rowsLin_all _,by omega⟩ | exact ⟨rowsEq_all _,by omega⟩ | rfl | (simp [*]; done) | (simp; omega) | exact ⟨rowsRat_all _,by omega⟩ | exact ⟨rowsAtom_all _,by omega⟩ | exact ⟨rowsB_all _,by omega⟩ | exact ⟨rowsForm_all _,by omega⟩ | exact ⟨rowsII_all _,by omega⟩))
     refine atCall [] hc ?_ ?_ <;> simp -implicitDefEqProofs only [go_sem,Z1,Z2,Z3,Z4]
     try (with_reducible refine ind_andM (by kernel_rfl) ?_)
     repeat (first | with_reducible refine ind_andM (by kernel_rfl) ?_ | (with_reducible apply And.intro; case left=>first | omega | assumption | exact ⟨rowsT_all _,by omega⟩ | exact ⟨rowsI_all _,by omega⟩ | exact ⟨rowsLit_all _,by omega⟩ | exact ⟨rowsLin_all _,by omega⟩ | exact ⟨rowsEq_all _,by omega⟩ | rfl | (simp [*]; done) | (simp; omega) | exact ⟨rowsRat_all _,by omega⟩ | exact ⟨rowsAtom_all _,by omega⟩ | exact ⟨rowsB_all _,by omega⟩ | exact ⟨rowsForm_all _,by omega⟩ | exact ⟨rowsII_all _,by omega⟩))
     refine ⟨i + 1 + 1,?_,?_,weakS [some 0] ?_ ?_ rfl rfl⟩
     rotate_left
     ·show _ < _
      omega
     ·simp -implicitDefEqProofs only [go_sem,Z1,Z2,Z3,Z4]
      all_goals (first | done | ((rw [hst]; simp)) | (simp [wks_rfl, *]; done) | (simp [wks_rfl]; done) | (simp; omega) | skip)
     ·simp -implicitDefEqProofs only [go_sem,Z1,Z2,Z3,Z4]
      all_goals (first | done | ((rw [hst]; simp)) | (simp [wks_rfl, *]; done) | (simp [wks_rfl]; done) | (simp; omega) | skip)
     exact h1
  ·have hi2:i = t.kids.length:=by omega
   subst hi2
   have b2:=hlen _ (Nat.le_refl _)
   rcases Classical.em ((0:Int) < (t.kids.length:Int)) with h3 | h3
   ·have hne:t.kids ≠ []:=by
     intro hh
     rw [hh] at h3
     simp at h3
    try simp -implicitDefEqProofs only [go_sem,Z1,Z2,Z3,Z4,h1,h3]
    try (with_reducible refine ind_andM (by kernel_rfl) ?_)
    repeat (first | with_reducible refine ind_andM (by kernel_rfl) ?_ | (with_reducible apply And.intro; case left=>first | omega | assumption | exact ⟨rowsT_all _,by omega⟩ | exact ⟨rowsI_all _,by omega⟩ | exact ⟨rowsLit_all _,by omega⟩ | exact ⟨rowsLin_all _,by omega⟩ | exact ⟨rowsEq_all _,by omega⟩ | rfl | (simp [*]; done) | (simp; omega) | exact ⟨rowsRat_all _,by omega⟩ | exact ⟨rowsAtom_all _,by omega⟩ | exact ⟨rowsB_all _,by omega⟩ | exact ⟨rowsForm_all _,by omega⟩ | exact ⟨rowsII_all _,by omega⟩))
    refine fin1' ?_
    simp -implicitDefEqProofs only [go_sem,Z1,Z2,Z3,Z4]
    all_goals (first | done | (simp [textSo_end hne]; done) | (simp [textSo_end hne]; omega) | skip)
   ·have hne:t.kids = []:=List.length_eq_zero_iff.1 (by omega)
    have e:textSo t t.kids.length = termText t:=by rw [termText_nil t hne,hne]; rfl
    try simp -implicitDefEqProofs only [go_sem,Z1,Z2,Z3,Z4,h1,h3]
    try (with_reducible refine ind_andM (by kernel_rfl) ?_)
    refine fin1' ?_
    simp -implicitDefEqProofs only [go_sem,Z1,Z2,Z3,Z4]
    all_goals (first | done | (simp [e]; done) | (simp [e]; omega) | skip)
theorem c_spec_l4Text:∀ (t:Term) (d:Nat),d ≤ 4 → tShape t d = true → C E.P 246 [av (cT t)] [] (Eq2 (sv (termText t)) []):=
 Term.ind fun n ks ih d h1 h2=>c_spec_l4Text1 (.mk n ks) ih d h1 h2
theorem c_spec_l4Text' (t:Term) (h:isTerm t = true):C E.P 246 [av (cT t)] [] (Eq2 (sv (termText t)) []):=c_spec_l4Text t 4 (by omega) (isTerm_tShape h)
theorem withPartss_app (l:List Term) (xs ys:List Term):withPartss l (xs ++ ys) = withPartss (withPartss l xs) ys:=by
 rw [withPartss_fold,withPartss_fold,withPartss_fold,List.foldl_append]
theorem withPartss_len4:∀ (ts l:List Term),(∀ t ∈ ts,isTerm t = true) → (withPartss l ts).length ≤ l.length + 15 * ts.length
 | [],l,_=>by simp [withPartss]
 | t :: ts,l,h=>by
   have h1:=withParts_le (l:=l) (isTerm_tShape (h t (by simp))) (by omega)
   have h2:=withPartss_len4 ts (withParts l t) fun x hx=>h x (by simp [hx])
   simp only [withPartss,List.length_cons]
   omega
end Go.Proofs.YtpidddienjoleaaGreat
