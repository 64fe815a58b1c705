/-
  The law FnCnfOnly, walked: whatever it is given, it answers yes. A step towards the law.
-/
import Derived.Test.YtkkbmikoifnnbaaGreatKAyc
import Derived.Test.YtkkbmikoifnnbaaGreatKAf
import Derived.Test.YtkkbmikoifnnbaaGreatKAI
import Derived.Test.YtkkbmikoifnnbaaGreatKAP
import Derived.Test.YtkkbmikoifnnbaaGreatKAE
import Derived.Test.YtkkbmikoifnnbaaGreatKAD
import Derived.Test.YtkkbmikoifnnbaaGreatKAEc
import Derived.Test.YtkkbmikoifnnbaaGreatKAEa
import Derived.Test.YtkkbmikoifnnbaaGreatKAyd
import Derived.Test.YtkkbmikoifnnbaaGreatKAp
set_option linter.unusedVariables false
set_option linter.unusedSimpArgs false
namespace Go.Proofs.YtkkbmikoifnnbaaGreat
open Go.Eng Go.Mod
open Int renaming reduceEq → Z1,reduceLT → Z2,reduceLE → Z3,reduceToNat → Z4
set_option maxRecDepth 100000
set_option maxHeartbeats 400000
theorem draw_small {b:List Int} (hb:∀ x ∈ b,0 ≤ x ∧ x ≤ 255):nodess (drawCnfVals (b.take 2000)).1 ≤ 200 ∧ (drawCnfVals (b.take 2000)).1.length ≤ 10 ∧ (drawCnfVals (b.take 2000)).2.length ≤ 300:=by
 have hL:=listF_b (openOk hb) (p:=0) (by omega)
 have e:drawCnfVals (b.take 2000) = ((listF (b.take 2000) 0).2.1,(valsS (b.take 2000) (withAtomss [] (listF (b.take 2000) 0).2.1).length (listF (b.take 2000) 0).2.2).1):=rfl
 rw [e]
 have hw:=withAtomss_nodes (listF (b.take 2000) 0).2.1 []
 have hv:=(valsS_b (b.take 2000) (withAtomss [] (listF (b.take 2000) 0).2.1).length (listF (b.take 2000) 0).2.2).2
 simp only [List.length_nil] at hw
 exact ⟨hL.2.2.1,hL.2.2.2,by simp only; omega⟩
theorem cnfOf_many {list:List Mod.Form} {atoms:List Atom} (h:formsAtoms list = some atoms):(cnfOf list).many ≤ 60:=(cnfOk_mem (cnfOf_ok list)).1.2
theorem c_law_CnfOnly (b:List Int) (hb:∀ x ∈ b,0 ≤ x ∧ x ≤ 255):C E.P 3 [lv (byD b)] [] (Eq2 (bv true) []):=by
 have hLB:=LB_eq
 refine C_goS (nt:=68) (rs:=[.tmp 2]) hm Tryz.func3 rfl rfl rfl rfl rfl (fun hl he=>?_)
 simp -implicitDefEqProofs only [go_sem,Z1,Z2,Z3,Z4] at hl ⊢
 rcases Classical.em ((1048576:Int) < (b.length:Int)) with h0 | h0
 ·simp -implicitDefEqProofs only [go_sem,Z1,Z2,Z3,Z4,h0]
  refine fin1' ?_
  simp -implicitDefEqProofs only [go_sem,Z1,Z2,Z3,Z4]
 ·have cD:=c_spec_DrawCnfVals b hb (by omega)
  obtain ⟨d1,d2,d3⟩:=draw_small hb
  generalize drawCnfVals (b.take 2000) = r at cD d1 d2 d3
  obtain ⟨list,vals⟩:=r
  simp only at cD d1 d2 d3
  have cS:=c_impl_CnfSame (cnfOf list) (cnfOf list)
  rw [decide_eq_true rfl] at cS
  simp -implicitDefEqProofs only [go_sem,Z1,Z2,Z3,Z4,h0]
  refine atCall [] cD ?_ ?_ <;> simp -implicitDefEqProofs only [go_sem,Z1,Z2,Z3,Z4]
  refine atCall [] (c_impl_CnfOf list) ?_ ?_ <;> simp -implicitDefEqProofs only [go_sem,Z1,Z2,Z3,Z4]
  refine atCall [] (c_impl_FormsAtoms list) ?_ ?_ <;> simp -implicitDefEqProofs only [go_sem,Z1,Z2,Z3,Z4]
  refine atOwn [] [1] (c_spec_CnfOf list) ?_ ?_ <;> simp -implicitDefEqProofs only [go_sem,Z1,Z2,Z3,Z4]
  refine atLook [] [1] cS rfl ?_ ?_ ?_
  ·(simp -implicitDefEqProofs only [go_sem,Z1,Z2,Z3,Z4]; repeat' (first | exact Vws.nil | apply Vws.cons | exact Vw.same (by first | rfl | simp -implicitDefEqProofs only [go_sem,Z1,Z2,Z3,Z4]) | exact Vw.acc rfl rfl | exact Vw.tre rfl rfl (by simp -implicitDefEqProofs only [go_sem,Z1,Z2,Z3,Z4]) | exact Vw.nil | apply Vw.agg | apply Vw.fn | refine Vw.box rfl rfl ?_))
  all_goals simp -implicitDefEqProofs only [go_sem,Z1,Z2,Z3,Z4]
  cases h:formsAtoms list with
  | none=>
    simp -implicitDefEqProofs only [go_sem,Z1,Z2,Z3,Z4,Option.getD_none]
    with_reducible refine ind_andM (by kernel_rfl) ?_
    refine atOwn [] [2] (c_spec_CnfOf list) ?_ ?_ <;> simp -implicitDefEqProofs only [go_sem,Z1,Z2,Z3,Z4]
    refine atLook [] [2] cS rfl ?_ ?_ ?_
    ·(simp -implicitDefEqProofs only [go_sem,Z1,Z2,Z3,Z4]; repeat' (first | exact Vws.nil | apply Vws.cons | exact Vw.same (by first | rfl | simp -implicitDefEqProofs only [go_sem,Z1,Z2,Z3,Z4]) | exact Vw.acc rfl rfl | exact Vw.tre rfl rfl (by simp -implicitDefEqProofs only [go_sem,Z1,Z2,Z3,Z4]) | exact Vw.nil | apply Vw.agg | apply Vw.fn | refine Vw.box rfl rfl ?_))
    all_goals simp -implicitDefEqProofs only [go_sem,Z1,Z2,Z3,Z4]
    with_reducible refine ind_andM (by kernel_rfl) ?_
    refine fin1' ?_
    simp -implicitDefEqProofs only [go_sem,Z1,Z2,Z3,Z4]
  | some atoms=>
    have h60:=cnfOf_many h
    rcases Classical.em ((atoms.length:Int) = 0) with h1 | h1
    ·have k1:=eq_true h1
     simp -implicitDefEqProofs only [go_sem,Z1,Z2,Z3,Z4,Option.getD_some,k1]
     with_reducible refine ind_andM (by kernel_rfl) ?_
     refine atOwn [] [2] (c_spec_CnfOf list) ?_ ?_ <;> simp -implicitDefEqProofs only [go_sem,Z1,Z2,Z3,Z4]
     refine atLook [] [2] cS rfl ?_ ?_ ?_
     ·(simp -implicitDefEqProofs only [go_sem,Z1,Z2,Z3,Z4]; repeat' (first | exact Vws.nil | apply Vws.cons | exact Vw.same (by first | rfl | simp -implicitDefEqProofs only [go_sem,Z1,Z2,Z3,Z4]) | exact Vw.acc rfl rfl | exact Vw.tre rfl rfl (by simp -implicitDefEqProofs only [go_sem,Z1,Z2,Z3,Z4]) | exact Vw.nil | apply Vw.agg | apply Vw.fn | refine Vw.box rfl rfl ?_))
     all_goals simp -implicitDefEqProofs only [go_sem,Z1,Z2,Z3,Z4]
     with_reducible refine ind_andM (by kernel_rfl) ?_
     refine fin1' ?_
     simp -implicitDefEqProofs only [go_sem,Z1,Z2,Z3,Z4]
    ·rcases Classical.em (vals.length = atoms.length) with hv | hv
     ·have kv:=eq_true hv
      have hne:atoms ≠ []:=fun e=>h1 (by rw [e]; rfl)
      have hlen:=cnfVals_len h hv
      have hbent:=cnfIs_bent h hv hne
      simp -implicitDefEqProofs only [go_sem,Z1,Z2,Z3,Z4,Option.getD_some,h1,kv]
      with_reducible refine ind_andM (by kernel_rfl) ?_
      refine atCall [] (c_impl_CnfVals list vals) ?_ ?_ <;> simp -implicitDefEqProofs only [go_sem,Z1,Z2,Z3,Z4]
      generalize cnfVals list vals = all at hlen hbent ⊢
      have hall:=rowsB_all all
      refine loop_go1 hm (fun (i:Nat)=> atoms.length ≤ i) (fun (i:Nat)=> ⟨mkS 68 .any [(5,.ptr 0 0),(7,lv (rowsB all)),(8,iv i)],[some (.box (pvs (cCnf (cnfOf list))))]⟩) (fun (i:Nat)=> all.length - i) (atoms.length) ?_ (weakS [some 0] ?_ ?_ rfl rfl) ?_
      rotate_left
      ·simp -implicitDefEqProofs only [go_sem,Z1,Z2,Z3,Z4]
      ·simp -implicitDefEqProofs only [go_sem,Z1,Z2,Z3,Z4]
      rotate_left
      ·exact Nat.le_refl _
      ·rintro i hi
       rcases Classical.em (i < all.length) with h2 | h2
       ·have hx:=hbent i hi h2
        have hset:(rowsB all).set i [D.val (Value.bool (!all[i]))] = rowsB (all.set i (!all[i])):=by rw [rowsB,rowsB,List.map_set]
        have hC:=c_impl_CnfIs (cnfOf list) (all.set i (!all[i])) (by rw [List.length_set]; omega)
        rw [hx] at hC
        have hset2:(rowsB all).set i (spl [D.val (Value.bool all[i])] 0 [D.val (Value.bool (!all[i]))]) = rowsB (all.set i (!all[i])):=hset
        simp -implicitDefEqProofs only [go_sem,Z1,Z2,Z3,Z4,h2]
        repeat (with_reducible apply And.intro; case left=>exact ⟨rowsB_all _,by omega⟩)
        simp -implicitDefEqProofs only [go_sem,Z1,Z2,Z3,Z4,h2,hset2]
        refine atLook [] [2] hC rfl ?_ ?_ ?_
        ·(simp -implicitDefEqProofs only [go_sem,Z1,Z2,Z3,Z4]; repeat' (first | exact Vws.nil | apply Vws.cons | exact Vw.same (by first | rfl | simp -implicitDefEqProofs only [go_sem,Z1,Z2,Z3,Z4]) | exact Vw.acc rfl rfl | exact Vw.tre rfl rfl (by simp -implicitDefEqProofs only [go_sem,Z1,Z2,Z3,Z4]) | exact Vw.nil | apply Vw.agg | apply Vw.fn | refine Vw.box rfl rfl ?_))
        all_goals simp -implicitDefEqProofs only [go_sem,Z1,Z2,Z3,Z4]
        repeat (with_reducible apply And.intro; case left=>omega)
        refine ⟨i + 1,?_,?_,weakS [some 0] ?_ ?_ rfl rfl⟩
        rotate_left
        ·show _ < _
         omega
        ·simp -implicitDefEqProofs only [go_sem,Z1,Z2,Z3,Z4]
        ·simp -implicitDefEqProofs only [go_sem,Z1,Z2,Z3,Z4]
        omega
       ·simp -implicitDefEqProofs only [go_sem,Z1,Z2,Z3,Z4,h2]
        refine fin1' ?_
        simp -implicitDefEqProofs only [go_sem,Z1,Z2,Z3,Z4]
     ·simp -implicitDefEqProofs only [go_sem,Z1,Z2,Z3,Z4,Option.getD_some,h1,hv]
      with_reducible refine ind_andM (by kernel_rfl) ?_
      refine atOwn [] [2] (c_spec_CnfOf list) ?_ ?_ <;> simp -implicitDefEqProofs only [go_sem,Z1,Z2,Z3,Z4]
      refine atLook [] [2] cS rfl ?_ ?_ ?_
      ·(simp -implicitDefEqProofs only [go_sem,Z1,Z2,Z3,Z4]; repeat' (first | exact Vws.nil | apply Vws.cons | exact Vw.same (by first | rfl | simp -implicitDefEqProofs only [go_sem,Z1,Z2,Z3,Z4]) | exact Vw.acc rfl rfl | exact Vw.tre rfl rfl (by simp -implicitDefEqProofs only [go_sem,Z1,Z2,Z3,Z4]) | exact Vw.nil | apply Vw.agg | apply Vw.fn | refine Vw.box rfl rfl ?_))
      all_goals simp -implicitDefEqProofs only [go_sem,Z1,Z2,Z3,Z4]
      with_reducible refine ind_andM (by kernel_rfl) ?_
      refine fin1' ?_
      simp -implicitDefEqProofs only [go_sem,Z1,Z2,Z3,Z4]
end Go.Proofs.YtkkbmikoifnnbaaGreat
