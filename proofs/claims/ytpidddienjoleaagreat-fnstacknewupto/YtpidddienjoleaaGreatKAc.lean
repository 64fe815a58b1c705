/-
  The program: the walks of models, going on: values and literals. A step towards the exact laws.
-/
import Derived.Test.YtpidddienjoleaaGreatKAb
set_option linter.unusedVariables false
set_option linter.unusedSimpArgs false
namespace Go.Proofs.YtpidddienjoleaaGreat
open Go.Eng Go.Mod
open Int renaming reduceEq → Z1,reduceLT → Z2,reduceLE → Z3,reduceToNat → Z4
set_option maxRecDepth 100000
set_option maxHeartbeats 400000
theorem c_impl_suits (x:Mod.Rat) (sort:Int):C E.P 114 [av (cRat x),iv sort] [] (Eq2 (bv (suits x sort)) []):=by
 have hLB:=LB_eq
 refine C_goS (nt:=12) (rs:=[.tmp 4]) hm Tryz.func114 rfl rfl rfl rfl rfl (fun hl he=>?_)
 simp -implicitDefEqProofs only [go_sem,Z1,Z2,Z3,Z4] at hl ⊢
 rcases Classical.em (sort = 1) with h2 | h2
 ·have k:=eq_true h2
  simp -implicitDefEqProofs only [go_sem,Z1,Z2,Z3,Z4,k]
  refine fin1' ?_
  simp -implicitDefEqProofs only [go_sem,Z1,Z2,Z3,Z4]
  all_goals (simp [suits,h2]; done)
 ·simp -implicitDefEqProofs only [go_sem,Z1,Z2,Z3,Z4,h2]
  refine fin1' ?_
  simp -implicitDefEqProofs only [go_sem,Z1,Z2,Z3,Z4]
  all_goals (simp [suits,h2]; done)
theorem suitsAll_dropI {xs:List Mod.Rat} {ns:List Int} {i:Nat} (h:i < xs.length) (h':i < ns.length):suitsAll (xs.drop i) (ns.drop i) = (suits xs[i] ns[i] && suitsAll (xs.drop (i + 1)) (ns.drop (i + 1))):=by
 rw [List.drop_eq_getElem_cons h,List.drop_eq_getElem_cons h',suitsAll]
theorem rowSuits_noneI {s:Sig} {r:Mod.Row} (h:symbol s r.name = none):rowSuits s r = false:=by simp [rowSuits,h]
theorem rowSuits_someI {s:Sig} {r:Mod.Row} {x:Sym} (h:symbol s r.name = some x):rowSuits s r = (decide (x.args.length = r.args.length) && (suits r.val x.sort && suitsAll r.args x.args)):=by simp [rowSuits,h]
theorem c_impl_ModelOk (s:Sig) (m:Mod.Model):C E.P 49 [av (cSig s),av (cModel m)] [] (Eq2 (bv (modelOk s m)) []):=by
 have hLB:=LB_eq
 refine C_goS (nt:=70) (rs:=[.tmp 4]) hm Tryz.func49 rfl rfl rfl rfl rfl (fun hl he=>?_)
 simp -implicitDefEqProofs only [go_sem,Z1,Z2,Z3,Z4] at hl ⊢
 refine atCall [] (c_impl_SigOk s) ?_ ?_ <;> simp -implicitDefEqProofs only [go_sem,Z1,Z2,Z3,Z4]
 cases h1:sigOk s
 ·simp -implicitDefEqProofs only [go_sem,Z1,Z2,Z3,Z4]
  refine fin1' ?_
  simp -implicitDefEqProofs only [go_sem,Z1,Z2,Z3,Z4]
  all_goals (simp [modelOk,h1]; done)
 ·simp -implicitDefEqProofs only [go_sem,Z1,Z2,Z3,Z4]
  refine atCall [] (c_impl_Model_ok m) ?_ ?_ <;> simp -implicitDefEqProofs only [go_sem,Z1,Z2,Z3,Z4]
  cases h2:modelWf m
  ·simp -implicitDefEqProofs only [go_sem,Z1,Z2,Z3,Z4]
   refine fin1' ?_
   simp -implicitDefEqProofs only [go_sem,Z1,Z2,Z3,Z4]
   all_goals (simp [modelOk,h1,h2]; done)
  ·have hmo:modelOk s m = m.rows.all (rowSuits s):=by simp [modelOk,h1,h2]
   simp -implicitDefEqProofs only [go_sem,Z1,Z2,Z3,Z4]
   refine loop_go1 hm (fun (i:Nat)=> i ≤ m.rows.length ∧ m.rows.all (rowSuits s) = (m.rows.drop i).all (rowSuits s)) (fun (i:Nat)=> ⟨mkS 70 .any [(2,.ptr 0 0),(20,lv (rowsRow m.rows)),(21,iv m.rows.length),(22,iv i)],[some (.box (pvs (cSig s)))]⟩) (fun (i:Nat)=> m.rows.length - i) (0) ?_ (weakS [some 0] ?_ ?_ rfl rfl) ?_
   rotate_left
   ·simp -implicitDefEqProofs only [go_sem,Z1,Z2,Z3,Z4]
   ·simp -implicitDefEqProofs only [go_sem,Z1,Z2,Z3,Z4]
   rotate_left
   ·simp
   ·rintro i ⟨hi,hg⟩
    rcases Classical.em (i < m.rows.length) with h3 | h3
    ·have hrl:m.rows[i].args.length ≤ 2:=by
      have hw:=(modelWf_pair h2).2.1 m.rows[i] (List.getElem_mem h3)
      simp only [rowWf,Bool.and_eq_true,decide_eq_true_eq] at hw
      exact hw.2.1
     rw [List.drop_eq_getElem_cons h3,List.all_cons] at hg
     simp -implicitDefEqProofs only [go_sem,Z1,Z2,Z3,Z4,h3]
     refine atCall [] (c_impl_Sig_symbol s m.rows[i].name) ?_ ?_ <;> simp -implicitDefEqProofs only [go_sem,Z1,Z2,Z3,Z4,h3]
     cases hx:symbol s m.rows[i].name with
     | none=>
       rw [rowSuits_noneI hx,Bool.false_and] at hg
       have e:modelOk s m = false:=by rw [hmo,hg]
       simp -implicitDefEqProofs only [go_sem,Z1,Z2,Z3,Z4,Option.isSome_none,Option.getD_none,h3]
       refine fin1' ?_
       simp -implicitDefEqProofs only [go_sem,Z1,Z2,Z3,Z4]
       all_goals (simp [e]; done)
     | some x=>
       rw [rowSuits_someI hx] at hg
       rcases Classical.em (x.args.length = m.rows[i].args.length) with h4 | h4
       ·have k4:=eq_true h4
        simp only [h4,decide_true,Bool.true_and] at hg
        simp -implicitDefEqProofs only [go_sem,Z1,Z2,Z3,Z4,Option.isSome_some,Option.getD_some,k4,h3]
        refine atCall [] (c_impl_suits m.rows[i].val x.sort) ?_ ?_ <;> simp -implicitDefEqProofs only [go_sem,Z1,Z2,Z3,Z4]
        cases h5:suits m.rows[i].val x.sort
        ·rw [h5,Bool.false_and,Bool.false_and] at hg
         have e:modelOk s m = false:=by rw [hmo,hg]
         simp -implicitDefEqProofs only [go_sem,Z1,Z2,Z3,Z4]
         refine fin1' ?_
         simp -implicitDefEqProofs only [go_sem,Z1,Z2,Z3,Z4]
         all_goals (simp [e]; done)
        ·rw [h5,Bool.true_and] at hg
         simp -implicitDefEqProofs only [go_sem,Z1,Z2,Z3,Z4]
         refine loop_go1 hm (fun (k:Nat)=> k ≤ m.rows[i].args.length ∧ suitsAll m.rows[i].args x.args = suitsAll (m.rows[i].args.drop k) (x.args.drop k)) (fun (k:Nat)=> ⟨mkS 70 .any [(2,.ptr 0 0),(7,.ptr 1 0),(20,lv (rowsRow m.rows)),(21,iv m.rows.length),(22,iv i),(53,lv (rowsRat m.rows[i].args)),(54,iv m.rows[i].args.length),(55,iv k)],[some (.box (pvs (cSig s))),some (.box (pvs (cSym x)))]⟩) (fun (k:Nat)=> m.rows[i].args.length - k) (0) ?_ (weakS [some 0,some 2] ?_ ?_ rfl rfl) ?_
         rotate_left
         ·simp -implicitDefEqProofs only [go_sem,Z1,Z2,Z3,Z4]
         ·simp -implicitDefEqProofs only [go_sem,Z1,Z2,Z3,Z4]
         rotate_left
         ·simp
         ·rintro k ⟨hk,hj⟩
          rcases Classical.em (k < m.rows[i].args.length) with h6 | h6
          ·have h7:k < x.args.length:=by omega
           rw [suitsAll_dropI h6 h7] at hj
           simp -implicitDefEqProofs only [go_sem,Z1,Z2,Z3,Z4,h6,h7]
           refine atCall [] (c_impl_suits m.rows[i].args[k] x.args[k]) ?_ ?_ <;> simp -implicitDefEqProofs only [go_sem,Z1,Z2,Z3,Z4]
           with_reducible refine ind_andM (by kernel_rfl) ?_
           cases h8:suits m.rows[i].args[k] x.args[k]
           ·rw [h8,Bool.false_and] at hj
            rw [hj,Bool.false_and] at hg
            have e:modelOk s m = false:=by rw [hmo,hg]
            simp -implicitDefEqProofs only [go_sem,Z1,Z2,Z3,Z4]
            refine fin1' ?_
            simp -implicitDefEqProofs only [go_sem,Z1,Z2,Z3,Z4]
            all_goals (simp [e]; done)
           ·rw [h8,Bool.true_and] at hj
            simp -implicitDefEqProofs only [go_sem,Z1,Z2,Z3,Z4]
            repeat (with_reducible apply And.intro; case left=>omega)
            refine ⟨k + 1,?_,?_,weakS [some 0,some 1] ?_ ?_ rfl rfl⟩
            rotate_left
            ·show _ < _
             omega
            ·simp -implicitDefEqProofs only [go_sem,Z1,Z2,Z3,Z4]
            ·simp -implicitDefEqProofs only [go_sem,Z1,Z2,Z3,Z4]
            exact ⟨by omega,hj⟩
          ·rw [List.drop_of_length_le (by omega)] at hj
           simp only [suitsAll] at hj
           rw [hj,Bool.true_and] at hg
           simp -implicitDefEqProofs only [go_sem,Z1,Z2,Z3,Z4,h6]
           repeat (with_reducible apply And.intro; case left=>omega)
           refine ⟨i + 1,?_,?_,weakS [some 0] ?_ ?_ rfl rfl⟩
           rotate_left
           ·show _ < _
            omega
           ·simp -implicitDefEqProofs only [go_sem,Z1,Z2,Z3,Z4]
           ·simp -implicitDefEqProofs only [go_sem,Z1,Z2,Z3,Z4]
           exact ⟨by omega,hg⟩
       ·simp only [h4,decide_false,Bool.false_and] at hg
        have e:modelOk s m = false:=by rw [hmo,hg]
        simp -implicitDefEqProofs only [go_sem,Z1,Z2,Z3,Z4,Option.isSome_some,Option.getD_some,h4,h3]
        refine fin1' ?_
        simp -implicitDefEqProofs only [go_sem,Z1,Z2,Z3,Z4]
        all_goals (simp [e]; done)
    ·rw [List.drop_of_length_le (by omega),List.all_nil] at hg
     simp -implicitDefEqProofs only [go_sem,Z1,Z2,Z3,Z4,h3]
     refine fin1' ?_
     simp -implicitDefEqProofs only [go_sem,Z1,Z2,Z3,Z4]
     all_goals (simp [hmo,hg]; done)
def rowOf (m:Mod.Model) (n:Str) (ts:List Term):Mod.Row:=⟨n,values m ts,⟨0,0⟩⟩
end Go.Proofs.YtpidddienjoleaaGreat
