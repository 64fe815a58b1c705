/-
  The law FnCnfOnly, walked: whatever it is given, it answers yes. A step towards the law. The law FnCnfOf, walked: whatever it is given, it answers yes. A step towards the law.
-/
import Derived.Test.YtkkbmikoifnnbaaGreatKByd
import Derived.Test.YtkkbmikoifnnbaaGreatKBp
import Derived.Test.YtkkbmikoifnnbaaGreatKBEc
set_option linter.unusedVariables false
set_option linter.unusedSimpArgs false
namespace Go.Proofs.YtkkbmikoifnnbaaGreat
open Go.Eng Go.Mod
open Int renaming reduceEq → Z1,reduceLT → Z2,reduceLE → Z3,reduceToNat → Z4
set_option maxRecDepth 100000
set_option maxHeartbeats 400000
theorem draw_small {b:List Int} (hb:∀ x ∈ b,0 ≤ x ∧ x ≤ 255):nodess (drawCnfVals (b.take 2000)).1 ≤ 200 ∧ (drawCnfVals (b.take 2000)).1.length ≤ 10 ∧ (drawCnfVals (b.take 2000)).2.length ≤ 300:=by
 have hL:=listF_b (openOk hb) (p:=0) (by omega)
 have e:drawCnfVals (b.take 2000) = ((listF (b.take 2000) 0).2.1,(valsS (b.take 2000) (withAtomss [] (listF (b.take 2000) 0).2.1).length (listF (b.take 2000) 0).2.2).1):=rfl
 rw [e]
 have hw:=withAtomss_nodes (listF (b.take 2000) 0).2.1 []
 have hv:=(valsS_b (b.take 2000) (withAtomss [] (listF (b.take 2000) 0).2.1).length (listF (b.take 2000) 0).2.2).2
 simp only [List.length_nil] at hw
 exact ⟨hL.2.2.1,hL.2.2.2,by simp only; omega⟩
theorem cnfOf_many {list:List Mod.Form} {atoms:List Atom} (h:formsAtoms list = some atoms):(cnfOf list).many ≤ 60:=(cnfOk_mem (cnfOf_ok list)).1.2
end Go.Proofs.YtkkbmikoifnnbaaGreat
namespace Go.Proofs.YtkkbmikoifnnbaaGreat
open Go.Eng Go.Mod
open Int renaming reduceEq → Z1,reduceLT → Z2,reduceLE → Z3,reduceToNat → Z4
set_option maxRecDepth 100000
set_option maxHeartbeats 400000
theorem rowsB_few (base:List Bool) (b:Bool):rowsB base ++ [[D.val (Value.bool b)]] = rowsB (base ++ [b]):=by rw [← rowsB_app]; rfl
theorem c_law_CnfOf (b:List Int) (hb:∀ x ∈ b,0 ≤ x ∧ x ≤ 255):C E.P 4 [lv (byD b)] [] (Eq2 (bv true) []):=by
 have hLB:=LB_eq
 refine C_goS (nt:=126) (rs:=[.tmp 2]) hm Tryz.func4 rfl rfl rfl rfl rfl (fun hl he=>?_)
 simp -implicitDefEqProofs only [go_sem,Z1,Z2,Z3,Z4] at hl ⊢
 rcases Classical.em ((1048576:Int) < (b.length:Int)) with h0 | h0
 ·try simp -implicitDefEqProofs only [go_sem,Z1,Z2,Z3,Z4,h0]
  try (with_reducible refine ind_andM (by kernel_rfl) ?_)
  refine fin1' ?_
  simp -implicitDefEqProofs only [go_sem,Z1,Z2,Z3,Z4]
  all_goals (first | done | (simp; done) | (simp; omega) | skip)
 ·have cD:=c_spec_DrawCnfVals b hb (by omega)
  obtain ⟨d1,d2,d3⟩:=draw_small hb
  generalize drawCnfVals (b.take 2000) = r at cD d1 d2 d3
  obtain ⟨list,vals⟩:=r
  simp only at cD d1 d2 d3
  have cS:=c_impl_CnfSame (cnfOf list) (cnfOf list)
  rw [decide_eq_true rfl] at cS
  have cW:=c_laws_wpBools (cnfVals list vals) (cnfVals list vals)
  rw [decide_eq_true rfl] at cW
  have cK:=c_impl_CnfOk (cnfOf list)
  rw [cnfOf_ok] at cK
  try simp -implicitDefEqProofs only [go_sem,Z1,Z2,Z3,Z4,h0]
  try (with_reducible refine ind_andM (by kernel_rfl) ?_)
  refine atCall [] cD ?_ ?_ <;> simp -implicitDefEqProofs only [go_sem,Z1,Z2,Z3,Z4]
  try (with_reducible refine ind_andM (by kernel_rfl) ?_)
  refine atCall [] (c_impl_CnfOf list) ?_ ?_ <;> simp -implicitDefEqProofs only [go_sem,Z1,Z2,Z3,Z4]
  try (with_reducible refine ind_andM (by kernel_rfl) ?_)
  refine atCall [] (c_impl_CnfVals list vals) ?_ ?_ <;> simp -implicitDefEqProofs only [go_sem,Z1,Z2,Z3,Z4]
  try (with_reducible refine ind_andM (by kernel_rfl) ?_)
  refine atOwn [] [1] (c_spec_CnfOf list) ?_ ?_ <;> simp -implicitDefEqProofs only [go_sem,Z1,Z2,Z3,Z4]
  try (with_reducible refine ind_andM (by kernel_rfl) ?_)
  refine atLook [] [1] cS rfl ?_ ?_ ?_
  ·(simp -implicitDefEqProofs only [go_sem,Z1,Z2,Z3,Z4]; repeat' (first | exact Vws.nil | apply Vws.cons | exact Vw.same (by first | rfl | simp -implicitDefEqProofs only [go_sem,Z1,Z2,Z3,Z4]) | exact Vw.acc rfl rfl | exact Vw.tre rfl rfl (by simp -implicitDefEqProofs only [go_sem,Z1,Z2,Z3,Z4]) | exact Vw.nil | apply Vw.agg | apply Vw.fn | refine Vw.box rfl rfl ?_))
  all_goals simp -implicitDefEqProofs only [go_sem,Z1,Z2,Z3,Z4]
  try (with_reducible refine ind_andM (by kernel_rfl) ?_)
  refine atCall [] (c_spec_CnfVals list vals (by omega) (by omega)) ?_ ?_ <;> simp -implicitDefEqProofs only [go_sem,Z1,Z2,Z3,Z4]
  try (with_reducible refine ind_andM (by kernel_rfl) ?_)
  refine atCall [] cW ?_ ?_ <;> simp -implicitDefEqProofs only [go_sem,Z1,Z2,Z3,Z4]
  try (with_reducible refine ind_andM (by kernel_rfl) ?_)
  refine atCall [] cK ?_ ?_ <;> simp -implicitDefEqProofs only [go_sem,Z1,Z2,Z3,Z4]
  try (with_reducible refine ind_andM (by kernel_rfl) ?_)
  repeat (first | with_reducible refine ind_andM (by kernel_rfl) ?_ | (with_reducible apply And.intro; case left=>first | omega | assumption | exact ⟨rowsT_all _,by omega⟩ | exact ⟨rowsI_all _,by omega⟩ | exact ⟨rowsLit_all _,by omega⟩ | exact ⟨rowsLin_all _,by omega⟩ | exact ⟨rowsEq_all _,by omega⟩ | rfl | (simp [*]; done) | (simp; omega) | exact ⟨rowsRat_all _,by omega⟩ | exact ⟨rowsAtom_all _,by omega⟩ | exact ⟨rowsB_all _,by omega⟩ | exact ⟨rowsForm_all _,by omega⟩ | exact ⟨rowsII_all _,by omega⟩))
  refine atCall [] (c_impl_FormsAtoms list) ?_ ?_ <;> simp -implicitDefEqProofs only [go_sem,Z1,Z2,Z3,Z4]
  try (with_reducible refine ind_andM (by kernel_rfl) ?_)
  cases h:formsAtoms list with
  | none=>
    try simp -implicitDefEqProofs only [go_sem,Z1,Z2,Z3,Z4,Option.getD_none]
    try (with_reducible refine ind_andM (by kernel_rfl) ?_)
    refine fin1' ?_
    simp -implicitDefEqProofs only [go_sem,Z1,Z2,Z3,Z4]
    all_goals (first | done | (simp; done) | (simp; omega) | skip)
  | some atoms=>
    have h60:=cnfOf_many h
    rcases Classical.em ((atoms.length:Int) = 0) with h1 | h1
    ·have k1:=eq_true h1
     try simp -implicitDefEqProofs only [go_sem,Z1,Z2,Z3,Z4,Option.getD_some,k1]
     try (with_reducible refine ind_andM (by kernel_rfl) ?_)
     refine fin1' ?_
     simp -implicitDefEqProofs only [go_sem,Z1,Z2,Z3,Z4]
     all_goals (first | done | (simp; done) | (simp; omega) | skip)
    ·rcases Classical.em (vals.length = atoms.length) with hv | hv
     ·have kv:=eq_true hv
      have hne:atoms ≠ []:=fun e=>h1 (by rw [e]; rfl)
      have hlen:=cnfVals_len h hv
      have hso:=cnfIs_all h hv hne
      have hnd:=formsAtoms_nodup h
      obtain ⟨p1,p2,p3,p4⟩:=formsAtoms_parts h
      have hmem:=formsAtoms_mem h
      have hC:=c_impl_CnfIs (cnfOf list) (cnfVals list vals) (by omega)
      rw [hso] at hC
      have hlen2:((cnfVals list vals).length:Int) = (cnfOf list).many:=hlen
      generalize cnfVals list vals = all at hlen hC hlen2 ⊢
      try simp -implicitDefEqProofs only [go_sem,Z1,Z2,Z3,Z4,Option.getD_some,h1,kv]
      try (with_reducible refine ind_andM (by kernel_rfl) ?_)
      refine loop_go1 hm (fun (i:Nat)=> i ≤ list.length) (fun (i:Nat)=> ⟨mkS 126 .any [(3,lv (rowsForm list)),(4,lv (rowsB vals)),(5,.ptr 0 0),(6,lv (rowsB all)),(7,lv (rowsAtom atoms)),(8,bv ((list.take i).all (holds (wOf atoms vals)))),(9,iv i)],[some (.box (pvs (cCnf (cnfOf list))))]⟩) (fun (i:Nat)=> list.length - i) (0) ?_ (weakS [some 0] ?_ ?_ rfl rfl) ?_
      rotate_left
      ·simp -implicitDefEqProofs only [go_sem,Z1,Z2,Z3,Z4]
       all_goals (first | done | (simp [wks_rfl, *]; done) | (simp [wks_rfl]; done) | (simp; omega) | skip)
      ·simp -implicitDefEqProofs only [go_sem,Z1,Z2,Z3,Z4]
       all_goals (first | done | (simp [wks_rfl, *]; done) | (simp [wks_rfl]; done) | (simp; omega) | skip)
      rotate_left
      ·omega
      ·rintro i hi
       rcases Classical.em (i < list.length) with h2 | h2
       ·obtain ⟨hF,hin⟩:=hmem list[i] (List.getElem_mem h2)
        have hown:=(isForm_shape hF).2
        have hFA:=c_impl_FormAtoms list[i]
        rw [hF,if_pos rfl] at hFA
        have hFI:=c_impl_FormIs list[i] ((withAtoms [] list[i]).map (wOf atoms vals))
        rw [formIs_own _ hF] at hFI
        simp only [Option.getD_some,Option.isSome_some] at hFI
        have hst:(list.take (i + 1)).all (holds (wOf atoms vals)) = ((list.take i).all (holds (wOf atoms vals)) && holds (wOf atoms vals) list[i]):=by
         rw [List.take_add_one,List.getElem?_eq_getElem h2,List.all_append]
         simp
        have hownl:(withAtoms [] list[i]).length ≤ 900000:=by omega
        have hsub:∀ a ∈ withAtoms [] list[i],a ∈ atoms:=hin
        generalize withAtoms [] list[i] = own at hFA hFI hownl hsub
        try simp -implicitDefEqProofs only [go_sem,Z1,Z2,Z3,Z4,h2]
        try (with_reducible refine ind_andM (by kernel_rfl) ?_)
        refine atCall [] hFA ?_ ?_ <;> simp -implicitDefEqProofs only [go_sem,Z1,Z2,Z3,Z4]
        try (with_reducible refine ind_andM (by kernel_rfl) ?_)
        refine loop_go1 hm (fun (k:Nat)=> k ≤ own.length) (fun (k:Nat)=> ⟨mkS 126 .any [(3,lv (rowsForm list)),(4,lv (rowsB vals)),(5,.ptr 0 0),(6,lv (rowsB all)),(7,lv (rowsAtom atoms)),(8,bv ((list.take i).all (holds (wOf atoms vals)))),(9,iv i),(10,lv (rowsAtom own)),(11,.acc 1),(12,iv k)],[some (.box (pvs (cCnf (cnfOf list)))),some (.acc 4 (rowsB ((own.take k).map (wOf atoms vals))))]⟩) (fun (k:Nat)=> own.length - k) (0) ?_ (weakS [some 0,some 1] ?_ ?_ rfl rfl) ?_
        rotate_left
        ·simp -implicitDefEqProofs only [go_sem,Z1,Z2,Z3,Z4]
         all_goals (first | done | (simp [wks_rfl, *]; done) | (simp [wks_rfl]; done) | (simp; omega) | skip)
        ·simp -implicitDefEqProofs only [go_sem,Z1,Z2,Z3,Z4]
         all_goals (first | done | (simp [wks_rfl, *]; done) | (simp [wks_rfl]; done) | (simp; omega) | skip)
        rotate_left
        ·omega
        ·rintro k hk
         rcases Classical.em (k < own.length) with h3 | h3
         ·obtain ⟨x,hx1,hx2,hx3⟩:=atomIdx_get (hsub own[k] (List.getElem_mem h3))
          have hw:wOf atoms vals own[k] = vals[x]'(by omega):=by rw [← hx3]; exact wOf_at hnd hv hx2
          have hkl:((own.take k).map (wOf atoms vals)).length = k:=by rw [List.length_map,List.length_take]; omega
          have hks:(own.take (k + 1)).map (wOf atoms vals) = (own.take k).map (wOf atoms vals) ++ [vals[x]'(by omega)]:=by
           rw [List.take_add_one,List.getElem?_eq_getElem h3,List.map_append]
           simp [hw]
          generalize (own.take k).map (wOf atoms vals) = base at hkl hks
          try simp -implicitDefEqProofs only [go_sem,Z1,Z2,Z3,Z4,h3]
          try (with_reducible refine ind_andM (by kernel_rfl) ?_)
          refine loop_go1 hm (fun (j:Nat)=> j ≤ atoms.length) (fun (j:Nat)=> ⟨mkS 126 .any [(3,lv (rowsForm list)),(4,lv (rowsB vals)),(5,.ptr 0 0),(6,lv (rowsB all)),(7,lv (rowsAtom atoms)),(8,bv ((list.take i).all (holds (wOf atoms vals)))),(9,iv i),(10,lv (rowsAtom own)),(11,.acc 1),(12,iv k),(13,iv j)],[some (.box (pvs (cCnf (cnfOf list)))),some (.acc 4 (rowsB (if x < j then base ++ [vals[x]'(by omega)] else base)))]⟩) (fun (j:Nat)=> atoms.length - j) (0) ?_ (weakS [some 0,some 1] ?_ ?_ rfl rfl) ?_
          rotate_left
          ·simp -implicitDefEqProofs only [go_sem,Z1,Z2,Z3,Z4]
           all_goals (first | done | (simp [wks_rfl, *]; done) | (simp [wks_rfl]; done) | (simp; omega) | skip)
          ·simp -implicitDefEqProofs only [go_sem,Z1,Z2,Z3,Z4]
           all_goals (first | done | (simp [wks_rfl, *]; done) | (simp [wks_rfl]; done) | (simp; omega) | skip)
          rotate_left
          ·omega
          ·rintro j hj
           have hll:(if x < j then base ++ [vals[x]'(by omega)] else base).length ≤ 900002:=by split <;> (try simp) <;> omega
           rcases Classical.em (j < atoms.length) with h4 | h4
           ·have hj2:j < vals.length:=by omega
            rcases Classical.em (atoms[j] = own[k]) with h5 | h5
            ·have hxj:x = j:=by
              have e1:=atomIdx_uniq hnd h4
              rw [h5,hx1] at e1
              omega
             subst hxj
             have hA:=c_impl_AtomSame atoms[x] own[k]
             rw [decide_eq_true h5] at hA
             have e1:(if x < x then base ++ [vals[x]] else base) = base:=if_neg (by omega)
             have e2:(if x < x + 1 then base ++ [vals[x]] else base) = base ++ [vals[x]]:=if_pos (by omega)
             rw [e1]
             try simp -implicitDefEqProofs only [go_sem,Z1,Z2,Z3,Z4,h4,h3]
             try (with_reducible refine ind_andM (by kernel_rfl) ?_)
             refine atCall [] hA ?_ ?_ <;> simp -implicitDefEqProofs only [go_sem,Z1,Z2,Z3,Z4,h4,h3,hj2]
             try (with_reducible refine ind_andM (by kernel_rfl) ?_)
             repeat (first | with_reducible refine ind_andM (by kernel_rfl) ?_ | (with_reducible apply And.intro; case left=>first | omega | assumption | exact ⟨rowsT_all _,by omega⟩ | exact ⟨rowsI_all _,by omega⟩ | exact ⟨rowsLit_all _,by omega⟩ | exact ⟨rowsLin_all _,by omega⟩ | exact ⟨rowsEq_all _,by omega⟩ | rfl | (simp [*]; done) | (simp; omega) | exact ⟨rowsRat_all _,by omega⟩ | exact ⟨rowsAtom_all _,by omega⟩ | exact ⟨rowsB_all _,by omega⟩ | exact ⟨rowsForm_all _,by omega⟩ | exact ⟨rowsII_all _,by omega⟩))
             refine ⟨x + 1,?_,?_,weakS [some 0,some 2] ?_ ?_ rfl rfl⟩
             rotate_left
             ·show _ < _
              omega
             ·simp -implicitDefEqProofs only [go_sem,Z1,Z2,Z3,Z4]
              all_goals (first | done | ((rw [e2]; exact rowsB_few _ _)) | (simp [wks_rfl, *]; done) | (simp [wks_rfl]; done) | (simp; omega) | skip)
             ·simp -implicitDefEqProofs only [go_sem,Z1,Z2,Z3,Z4]
              all_goals (first | done | ((rw [e2]; exact rowsB_few _ _)) | (simp [wks_rfl, *]; done) | (simp [wks_rfl]; done) | (simp; omega) | skip)
             exact h4
            ·have hxj:x ≠ j:=by
              rintro rfl
              exact h5 hx3
             have hA:=c_impl_AtomSame atoms[j] own[k]
             rw [decide_eq_false h5] at hA
             have e1:(if x < j + 1 then base ++ [vals[x]'(by omega)] else base) = (if x < j then base ++ [vals[x]'(by omega)] else base):=by
              rcases Classical.em (x < j) with h6 | h6
              ·rw [if_pos h6,if_pos (by omega)]
              ·rw [if_neg h6,if_neg (by omega)]
             try simp -implicitDefEqProofs only [go_sem,Z1,Z2,Z3,Z4,h4,h3]
             try (with_reducible refine ind_andM (by kernel_rfl) ?_)
             refine atCall [] hA ?_ ?_ <;> simp -implicitDefEqProofs only [go_sem,Z1,Z2,Z3,Z4,h4,h3,hj2]
             try (with_reducible refine ind_andM (by kernel_rfl) ?_)
             repeat (first | with_reducible refine ind_andM (by kernel_rfl) ?_ | (with_reducible apply And.intro; case left=>first | omega | assumption | exact ⟨rowsT_all _,by omega⟩ | exact ⟨rowsI_all _,by omega⟩ | exact ⟨rowsLit_all _,by omega⟩ | exact ⟨rowsLin_all _,by omega⟩ | exact ⟨rowsEq_all _,by omega⟩ | rfl | (simp [*]; done) | (simp; omega) | exact ⟨rowsRat_all _,by omega⟩ | exact ⟨rowsAtom_all _,by omega⟩ | exact ⟨rowsB_all _,by omega⟩ | exact ⟨rowsForm_all _,by omega⟩ | exact ⟨rowsII_all _,by omega⟩))
             refine ⟨j + 1,?_,?_,weakS [some 0,some 1] ?_ ?_ rfl rfl⟩
             rotate_left
             ·show _ < _
              omega
             ·simp -implicitDefEqProofs only [go_sem,Z1,Z2,Z3,Z4]
              all_goals (first | done | ((rw [e1])) | (simp [wks_rfl, *]; done) | (simp [wks_rfl]; done) | (simp; omega) | skip)
             ·simp -implicitDefEqProofs only [go_sem,Z1,Z2,Z3,Z4]
              all_goals (first | done | ((rw [e1])) | (simp [wks_rfl, *]; done) | (simp [wks_rfl]; done) | (simp; omega) | skip)
             exact h4
           ·have e1:(if x < j then base ++ [vals[x]'(by omega)] else base) = base ++ [vals[x]'(by omega)]:=if_pos (by omega)
            rw [e1]
            try simp -implicitDefEqProofs only [go_sem,Z1,Z2,Z3,Z4,h4]
            try (with_reducible refine ind_andM (by kernel_rfl) ?_)
            repeat (first | with_reducible refine ind_andM (by kernel_rfl) ?_ | (with_reducible apply And.intro; case left=>first | omega | assumption | exact ⟨rowsT_all _,by omega⟩ | exact ⟨rowsI_all _,by omega⟩ | exact ⟨rowsLit_all _,by omega⟩ | exact ⟨rowsLin_all _,by omega⟩ | exact ⟨rowsEq_all _,by omega⟩ | rfl | (simp [*]; done) | (simp; omega) | exact ⟨rowsRat_all _,by omega⟩ | exact ⟨rowsAtom_all _,by omega⟩ | exact ⟨rowsB_all _,by omega⟩ | exact ⟨rowsForm_all _,by omega⟩ | exact ⟨rowsII_all _,by omega⟩))
            refine ⟨k + 1,?_,?_,weakS [some 0,some 1] ?_ ?_ rfl rfl⟩
            rotate_left
            ·show _ < _
             omega
            ·simp -implicitDefEqProofs only [go_sem,Z1,Z2,Z3,Z4]
             all_goals (first | done | ((rw [hks])) | (simp [wks_rfl, *]; done) | (simp [wks_rfl]; done) | (simp; omega) | skip)
            ·simp -implicitDefEqProofs only [go_sem,Z1,Z2,Z3,Z4]
             all_goals (first | done | ((rw [hks])) | (simp [wks_rfl, *]; done) | (simp [wks_rfl]; done) | (simp; omega) | skip)
            exact h3
         ·have et:own.take k = own:=List.take_of_length_le (by omega)
          rw [et]
          try simp -implicitDefEqProofs only [go_sem,Z1,Z2,Z3,Z4,h3,h2]
          try (with_reducible refine ind_andM (by kernel_rfl) ?_)
          refine atLook [] [1] hFI rfl ?_ ?_ ?_
          ·(simp -implicitDefEqProofs only [go_sem,Z1,Z2,Z3,Z4]; repeat' (first | exact Vws.nil | apply Vws.cons | exact Vw.same (by first | rfl | simp -implicitDefEqProofs only [go_sem,Z1,Z2,Z3,Z4]) | exact Vw.acc rfl rfl | exact Vw.tre rfl rfl (by simp -implicitDefEqProofs only [go_sem,Z1,Z2,Z3,Z4]) | exact Vw.nil | apply Vw.agg | apply Vw.fn | refine Vw.box rfl rfl ?_))
          all_goals simp -implicitDefEqProofs only [go_sem,Z1,Z2,Z3,Z4]
          try (with_reducible refine ind_andM (by kernel_rfl) ?_)
          cases h6:(list.take i).all (holds (wOf atoms vals))
          ·rw [h6,Bool.false_and] at hst
           try simp -implicitDefEqProofs only [go_sem,Z1,Z2,Z3,Z4]
           try (with_reducible refine ind_andM (by kernel_rfl) ?_)
           repeat (first | with_reducible refine ind_andM (by kernel_rfl) ?_ | (with_reducible apply And.intro; case left=>first | omega | assumption | exact ⟨rowsT_all _,by omega⟩ | exact ⟨rowsI_all _,by omega⟩ | exact ⟨rowsLit_all _,by omega⟩ | exact ⟨rowsLin_all _,by omega⟩ | exact ⟨rowsEq_all _,by omega⟩ | rfl | (simp [*]; done) | (simp; omega) | exact ⟨rowsRat_all _,by omega⟩ | exact ⟨rowsAtom_all _,by omega⟩ | exact ⟨rowsB_all _,by omega⟩ | exact ⟨rowsForm_all _,by omega⟩ | exact ⟨rowsII_all _,by omega⟩))
           refine ⟨i + 1,?_,?_,weakS [some 0] ?_ ?_ rfl rfl⟩
           rotate_left
           ·show _ < _
            omega
           ·simp -implicitDefEqProofs only [go_sem,Z1,Z2,Z3,Z4]
            all_goals (first | done | ((rw [hst])) | (simp [wks_rfl, *]; done) | (simp [wks_rfl]; done) | (simp; omega) | skip)
           ·simp -implicitDefEqProofs only [go_sem,Z1,Z2,Z3,Z4]
            all_goals (first | done | ((rw [hst])) | (simp [wks_rfl, *]; done) | (simp [wks_rfl]; done) | (simp; omega) | skip)
           exact h2
          ·rw [h6,Bool.true_and] at hst
           try simp -implicitDefEqProofs only [go_sem,Z1,Z2,Z3,Z4]
           try (with_reducible refine ind_andM (by kernel_rfl) ?_)
           repeat (first | with_reducible refine ind_andM (by kernel_rfl) ?_ | (with_reducible apply And.intro; case left=>first | omega | assumption | exact ⟨rowsT_all _,by omega⟩ | exact ⟨rowsI_all _,by omega⟩ | exact ⟨rowsLit_all _,by omega⟩ | exact ⟨rowsLin_all _,by omega⟩ | exact ⟨rowsEq_all _,by omega⟩ | rfl | (simp [*]; done) | (simp; omega) | exact ⟨rowsRat_all _,by omega⟩ | exact ⟨rowsAtom_all _,by omega⟩ | exact ⟨rowsB_all _,by omega⟩ | exact ⟨rowsForm_all _,by omega⟩ | exact ⟨rowsII_all _,by omega⟩))
           refine ⟨i + 1,?_,?_,weakS [some 0] ?_ ?_ rfl rfl⟩
           rotate_left
           ·show _ < _
            omega
           ·simp -implicitDefEqProofs only [go_sem,Z1,Z2,Z3,Z4]
            all_goals (first | done | ((rw [hst])) | (simp [wks_rfl, *]; done) | (simp [wks_rfl]; done) | (simp; omega) | skip)
           ·simp -implicitDefEqProofs only [go_sem,Z1,Z2,Z3,Z4]
            all_goals (first | done | ((rw [hst])) | (simp [wks_rfl, *]; done) | (simp [wks_rfl]; done) | (simp; omega) | skip)
           exact h2
       ·have et:list.take i = list:=List.take_of_length_le (by omega)
        rw [et]
        have kl:((all.length:Int) = (cnfOf list).many) = True:=eq_true hlen2
        try simp -implicitDefEqProofs only [go_sem,Z1,Z2,Z3,Z4,h2,kl]
        try (with_reducible refine ind_andM (by kernel_rfl) ?_)
        refine atCall [] hC ?_ ?_ <;> simp -implicitDefEqProofs only [go_sem,Z1,Z2,Z3,Z4]
        try (with_reducible refine ind_andM (by kernel_rfl) ?_)
        refine fin1' ?_
        simp -implicitDefEqProofs only [go_sem,Z1,Z2,Z3,Z4]
        all_goals (first | done | (simp; done) | (simp; omega) | skip)
     ·try simp -implicitDefEqProofs only [go_sem,Z1,Z2,Z3,Z4,Option.getD_some,h1,hv]
      try (with_reducible refine ind_andM (by kernel_rfl) ?_)
      refine fin1' ?_
      simp -implicitDefEqProofs only [go_sem,Z1,Z2,Z3,Z4]
      all_goals (first | done | (simp; done) | (simp; omega) | skip)
end Go.Proofs.YtkkbmikoifnnbaaGreat
