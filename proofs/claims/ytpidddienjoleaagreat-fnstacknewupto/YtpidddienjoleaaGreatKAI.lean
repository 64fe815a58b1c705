/-
  The reference: the walks of names, signatures, shapes and sorts. A step towards the exact laws. The reference: the walks of texts, equations and explanations. A step towards the exact laws.
-/
import Derived.Test.YtpidddienjoleaaGreatKAH
import Derived.Test.YtpidddienjoleaaGreatKAE
import Derived.Test.YtpidddienjoleaaGreatKAL
set_option linter.unusedVariables false
set_option linter.unusedSimpArgs false
namespace Go.Proofs.YtpidddienjoleaaGreat
open Go.Eng Go.Mod
open Int renaming reduceEq → Z1,reduceLT → Z2,reduceLE → Z3,reduceToNat → Z4
set_option maxRecDepth 100000
set_option maxHeartbeats 400000
theorem c_spec_NameOk (s:Str):C E.P 67 [sv s] [] (Eq2 (bv (nameOk s)) []):=by
 have hLB:=LB_eq
 refine C_goS (nt:=28) (rs:=[.tmp 2]) hm Tryz.func67 rfl rfl rfl rfl rfl (fun hl he=>?_)
 simp -implicitDefEqProofs only [go_sem] at hl ⊢
 refine loop_go1 hm (fun (i:Nat)=> i ≤ s.length ∧ s.all letter = (s.drop i).all letter) (fun (i:Nat)=> ⟨mkS 28 .any [(0,sv s),(3,iv i)],[]⟩) (fun (i:Nat)=> s.length - i) (0) ?_ (weakS [] ?_ ?_ rfl rfl) ?_
 rotate_left
 ·simp -implicitDefEqProofs only [go_sem]
 ·simp -implicitDefEqProofs only [go_sem]
 rotate_left
 ·simp
 ·rintro i ⟨hi,hg⟩
  rcases Classical.em (i < s.length) with h1 | h1
  ·rw [List.drop_eq_getElem_cons h1,List.all_cons] at hg
   simp -implicitDefEqProofs only [go_sem,h1]
   rw [getD_lt h1]
   rcases Classical.em ((s[i].toNat:Int) < 97) with h2 | h2
   ·have h3:letter s[i] = false:=by simp [letter]; omega
    rw [h3,Bool.false_and] at hg
    simp -implicitDefEqProofs only [go_sem,h2]
    refine fin1' ?_
    simp -implicitDefEqProofs only [go_sem]
    all_goals (simp [nameOk,hg]; done)
   ·simp -implicitDefEqProofs only [go_sem,h2,h1]
    rw [getD_lt h1]
    rcases Classical.em (122 < (s[i].toNat:Int)) with h4 | h4
    ·have h3:letter s[i] = false:=by simp [letter]; omega
     rw [h3,Bool.false_and] at hg
     simp -implicitDefEqProofs only [go_sem,h4]
     refine fin1' ?_
     simp -implicitDefEqProofs only [go_sem]
     all_goals (simp [nameOk,hg]; done)
    ·have h3:letter s[i] = true:=by simp [letter]; omega
     rw [h3,Bool.true_and] at hg
     simp -implicitDefEqProofs only [go_sem,h4]
     repeat (with_reducible apply And.intro; case left=>omega)
     refine ⟨i + 1,?_,?_,weakS [] ?_ ?_ rfl rfl⟩
     rotate_left
     ·show _ < _
      omega
     ·simp -implicitDefEqProofs only [go_sem]
     ·simp -implicitDefEqProofs only [go_sem]
     exact ⟨by omega,hg⟩
  ·rw [List.drop_of_length_le (by omega),List.all_nil] at hg
   have e:nameOk s = (decide ((1:Int) ≤ (s.length:Int)) && decide ((s.length:Int) ≤ 2)):=by simp [nameOk,hg,within]
   rcases Classical.em ((1:Int) ≤ (s.length:Int)) with h2 | h2
   ·simp -implicitDefEqProofs only [go_sem,h1,h2]
    refine fin1' ?_
    simp -implicitDefEqProofs only [go_sem]
    all_goals (simp [e,h2]; done)
   ·simp -implicitDefEqProofs only [go_sem,h1,h2]
    refine fin1' ?_
    simp -implicitDefEqProofs only [go_sem]
    all_goals (simp [e,h2]; done)
theorem c_spec_l4Sort (n:Int):C E.P 68 [iv n] [] (Eq2 (bv (isSort n)) []):=by
 have hLB:=LB_eq
 refine C_goS (nt:=9) (rs:=[.tmp 2]) hm Tryz.func68 rfl rfl rfl rfl rfl (fun hl he=>?_)
 simp -implicitDefEqProofs only [go_sem] at hl ⊢
 rcases Classical.em (n = 0) with h | h
 ·have k:=eq_true h
  simp -implicitDefEqProofs only [go_sem,k]
  refine fin1' ?_
  simp -implicitDefEqProofs only [go_sem]
  all_goals (simp [isSort,h]; done)
 ·simp -implicitDefEqProofs only [go_sem,h]
  refine fin1' ?_
  simp -implicitDefEqProofs only [go_sem]
  all_goals (simp [isSort,h]; done)
theorem c_spec_SigOk (s:Sig):C E.P 29 [av (cSig s)] [] (Eq2 (bv (sigOk s)) []):=by
 have hLB:=LB_eq
 refine C_goS (nt:=68) (rs:=[.tmp 2]) hm Tryz.func29 rfl rfl rfl rfl rfl (fun hl he=>?_)
 simp -implicitDefEqProofs only [go_sem] at hl ⊢
 refine loop_go1 hm (fun (i:Nat)=> i ≤ s.syms.length ∧ symsGo none s.syms = symsGo (prevName s.syms i) (s.syms.drop i)) (fun (i:Nat)=> ⟨mkS 68 .any [(1,.ptr 0 0),(3,iv i)],[some (.box (pvs (cSig s)))]⟩) (fun (i:Nat)=> s.syms.length - i) (0) ?_ (weakS [some 0] ?_ ?_ rfl rfl) ?_
 rotate_left
 ·simp -implicitDefEqProofs only [go_sem]
 ·simp -implicitDefEqProofs only [go_sem]
 rotate_left
 ·simp [prevName]
 ·rintro i ⟨hi,hg⟩
  rcases Classical.em (i < s.syms.length) with h1 | h1
  ·rw [List.drop_eq_getElem_cons h1] at hg
   simp only [symsGo] at hg
   simp -implicitDefEqProofs only [go_sem,h1]
   refine atCall [] (c_spec_NameOk s.syms[i].name) ?_ ?_ <;> simp -implicitDefEqProofs only [go_sem]
   cases h2:nameOk s.syms[i].name
   ·have e:sigOk s = false:=by simp [sigOk,hg,symOk,h2]
    simp -implicitDefEqProofs only [go_sem]
    with_reducible refine ind_andM (by kernel_rfl) ?_
    refine fin1' ?_
    simp -implicitDefEqProofs only [go_sem]
    all_goals (simp [e]; done)
   ·simp -implicitDefEqProofs only [go_sem]
    rcases Classical.em ((2:Int) < (s.syms[i].args.length:Int)) with h3' | h3'
    ·have h3:¬ s.syms[i].args.length ≤ 2:=by omega
     have e:sigOk s = false:=by simp [sigOk,hg,symOk,h3]
     simp -implicitDefEqProofs only [go_sem,h3']
     with_reducible refine ind_andM (by kernel_rfl) ?_
     refine fin1' ?_
     simp -implicitDefEqProofs only [go_sem]
     all_goals (simp [e]; done)
    ·have h3:s.syms[i].args.length ≤ 2:=by omega
     simp -implicitDefEqProofs only [go_sem,h3']
     refine atCall [] (c_spec_l4Sort s.syms[i].sort) ?_ ?_ <;> simp -implicitDefEqProofs only [go_sem]
     cases h4:isSort s.syms[i].sort
     ·have e:sigOk s = false:=by simp [sigOk,hg,symOk,h4]
      simp -implicitDefEqProofs only [go_sem]
      with_reducible refine ind_andM (by kernel_rfl) ?_
      refine fin1' ?_
      simp -implicitDefEqProofs only [go_sem]
      all_goals (simp [e]; done)
     ·cases i with
      | zero=>
        simp only [prevName,Bool.true_and] at hg
        simp -implicitDefEqProofs only [go_sem,Int.lt_irrefl]
        with_reducible refine ind_andM (by kernel_rfl) ?_
        refine loop_go1 hm (fun (u:Nat)=> u ≤ s.syms[0].args.length ∧ s.syms[0].args.all isSort = (s.syms[0].args.drop u).all isSort) (fun (u:Nat)=> ⟨mkS 68 .any [(1,.ptr 0 0),(3,iv (0:Nat)),(4,.ptr 1 0),(5,iv u)],[some (.box (pvs (cSig s))),some (.box (pvs (cSym s.syms[0])))]⟩) (fun (u:Nat)=> s.syms[0].args.length - u) (0) ?_ (weakS [some 0,some 1] ?_ ?_ rfl rfl) ?_
        rotate_left
        ·simp -implicitDefEqProofs only [go_sem]
        ·simp -implicitDefEqProofs only [go_sem]
        rotate_left
        ·simp
        ·rintro u ⟨hu,hk⟩
         rcases Classical.em (u < s.syms[0].args.length) with g1 | g1
         ·rw [List.drop_eq_getElem_cons g1,List.all_cons] at hk
          simp -implicitDefEqProofs only [go_sem,g1]
          refine atCall [] (c_spec_l4Sort s.syms[0].args[u]) ?_ ?_ <;> simp -implicitDefEqProofs only [go_sem]
          cases g2:isSort s.syms[0].args[u]
          ·rw [g2,Bool.false_and] at hk
           have e:sigOk s = false:=by simp [sigOk,hg,symOk,hk]
           simp -implicitDefEqProofs only [go_sem]
           refine fin1' ?_
           simp -implicitDefEqProofs only [go_sem]
           all_goals (simp [e]; done)
          ·rw [g2,Bool.true_and] at hk
           simp -implicitDefEqProofs only [go_sem]
           repeat (with_reducible apply And.intro; case left=>omega)
           refine ⟨u + 1,?_,?_,weakS [some 0,some 1] ?_ ?_ rfl rfl⟩
           rotate_left
           ·show _ < _
            omega
           ·simp -implicitDefEqProofs only [go_sem]
           ·simp -implicitDefEqProofs only [go_sem]
           exact ⟨by omega,hk⟩
         ·rw [List.drop_of_length_le (by omega),List.all_nil] at hk
          have e:symOk s.syms[0] = true:=by simp [symOk,h2,h3,h4,hk]
          rw [e] at hg
          simp -implicitDefEqProofs only [go_sem,g1]
          repeat (with_reducible apply And.intro; case left=>omega)
          refine ⟨0 + 1,?_,?_,weakS [some 0] ?_ ?_ rfl rfl⟩
          rotate_left
          ·show _ < _
           omega
          ·simp -implicitDefEqProofs only [go_sem]
           all_goals (simp [*]; done)
          ·simp -implicitDefEqProofs only [go_sem]
          refine ⟨by omega,?_⟩
          rw [hg]
          simp [prevName,h1]
      | succ j=>
        have hj:j < s.syms.length:=by omega
        have e1:((j:Int) + 1 - 1) = (j:Int):=by omega
        have e2:(0:Int) < (j:Int) + 1:=by omega
        have e3:prevName s.syms (j + 1) = some s.syms[j].name:=by simp [prevName,hj]
        rw [e3] at hg
        simp only at hg
        simp -implicitDefEqProofs only [go_sem,e1,e2,hj]
        repeat (first | with_reducible refine ind_andM (by kernel_rfl) ?_ | (with_reducible apply And.intro; case left=>omega))
        cases q4:sLess s.syms[j].name s.syms[j + 1].name
        ·rw [q4,Bool.false_and,Bool.and_false] at hg
         have e:sigOk s = false:=by simp [sigOk,hg]
         have h5:Op.bytesLess s.syms[j].name s.syms[j + 1].name = false:=q4
         simp -implicitDefEqProofs only [go_sem,h5]
         refine fin1' ?_
         simp -implicitDefEqProofs only [go_sem]
         all_goals (simp [e]; done)
        ·rw [q4,Bool.true_and] at hg
         have h5:Op.bytesLess s.syms[j].name s.syms[j + 1].name = true:=q4
         simp -implicitDefEqProofs only [go_sem,h5]
         refine loop_go1 hm (fun (u:Nat)=> u ≤ s.syms[j + 1].args.length ∧ s.syms[j + 1].args.all isSort = (s.syms[j + 1].args.drop u).all isSort) (fun (u:Nat)=> ⟨mkS 68 .any [(1,.ptr 0 0),(3,iv (j + 1:Nat)),(4,.ptr 1 0),(5,iv u)],[some (.box (pvs (cSig s))),some (.box (pvs (cSym s.syms[j + 1])))]⟩) (fun (u:Nat)=> s.syms[j + 1].args.length - u) (0) ?_ (weakS [some 0,some 1] ?_ ?_ rfl rfl) ?_
         rotate_left
         ·simp -implicitDefEqProofs only [go_sem]
         ·simp -implicitDefEqProofs only [go_sem]
         rotate_left
         ·simp
         ·rintro u ⟨hu,hk⟩
          rcases Classical.em (u < s.syms[j + 1].args.length) with g1 | g1
          ·rw [List.drop_eq_getElem_cons g1,List.all_cons] at hk
           simp -implicitDefEqProofs only [go_sem,g1]
           refine atCall [] (c_spec_l4Sort s.syms[j + 1].args[u]) ?_ ?_ <;> simp -implicitDefEqProofs only [go_sem]
           cases g2:isSort s.syms[j + 1].args[u]
           ·rw [g2,Bool.false_and] at hk
            have e:sigOk s = false:=by simp [sigOk,hg,symOk,hk]
            simp -implicitDefEqProofs only [go_sem]
            refine fin1' ?_
            simp -implicitDefEqProofs only [go_sem]
            all_goals (simp [e]; done)
           ·rw [g2,Bool.true_and] at hk
            simp -implicitDefEqProofs only [go_sem]
            repeat (with_reducible apply And.intro; case left=>omega)
            refine ⟨u + 1,?_,?_,weakS [some 0,some 1] ?_ ?_ rfl rfl⟩
            rotate_left
            ·show _ < _
             omega
            ·simp -implicitDefEqProofs only [go_sem]
            ·simp -implicitDefEqProofs only [go_sem]
            exact ⟨by omega,hk⟩
          ·rw [List.drop_of_length_le (by omega),List.all_nil] at hk
           have e:symOk s.syms[j + 1] = true:=by simp [symOk,h2,h3,h4,hk]
           rw [e] at hg
           simp -implicitDefEqProofs only [go_sem,g1]
           repeat (with_reducible apply And.intro; case left=>omega)
           refine ⟨j + 1 + 1,?_,?_,weakS [some 0] ?_ ?_ rfl rfl⟩
           rotate_left
           ·show _ < _
            omega
           ·simp -implicitDefEqProofs only [go_sem]
           ·simp -implicitDefEqProofs only [go_sem]
           refine ⟨by omega,?_⟩
           rw [hg]
           simp [prevName,h1]
  ·rw [List.drop_of_length_le (by omega)] at hg
   simp only [symsGo] at hg
   have e:sigOk s = decide ((s.syms.length:Int) ≤ 7):=by simp [sigOk,hg]; omega
   simp -implicitDefEqProofs only [go_sem,h1]
   refine fin1' ?_
   simp -implicitDefEqProofs only [go_sem]
   all_goals (simp [e]; done)
end Go.Proofs.YtpidddienjoleaaGreat
namespace Go.Proofs.YtpidddienjoleaaGreat
open Go.Eng Go.Mod
open Int renaming reduceEq → Z1,reduceLT → Z2,reduceLE → Z3,reduceToNat → Z4
set_option maxRecDepth 100000
set_option maxHeartbeats 400000
def textSo (t:Term) (i:Nat):Str:=match i with
 | 0=>t.name
 | i + 1=>t.name ++ (40 :: commas ((t.kids.take (i + 1)).map termText))
theorem withPartss_len4:∀ (ts l:List Term),(∀ t ∈ ts,isTerm t = true) → (withPartss l ts).length ≤ l.length + 15 * ts.length
 | [],l,_=>by simp [withPartss]
 | t :: ts,l,h=>by
   have h1:=withParts_le (l:=l) (isTerm_tShape (h t (by simp))) (by omega)
   have h2:=withPartss_len4 ts (withParts l t) fun x hx=>h x (by simp [hx])
   simp only [withPartss,List.length_cons]
   omega
end Go.Proofs.YtpidddienjoleaaGreat
