/-
  The program: the walks of models, going on: values and literals. A step towards the exact laws.
-/
import Derived.Test.YtpidddienjoleaaGreatKAb
set_option linter.unusedVariables false
set_option linter.unusedSimpArgs false
namespace Go.Proofs.YtpidddienjoleaaGreat
open Go.Eng Go.Mod
open Int renaming reduceEq → Z1,reduceLT → Z2,reduceLE → Z3,reduceToNat → Z4
set_option maxRecDepth 100000
set_option maxHeartbeats 400000
theorem c_impl_suits (x:Mod.Rat) (sort:Int):C E.P 114 [av (cRat x),iv sort] [] (Eq2 (bv (suits x sort)) []):=by
 have hLB:=LB_eq
 refine C_goS (nt:=12) (rs:=[.tmp 4]) hm Tryz.func114 rfl rfl rfl rfl rfl (fun hl he=>?_)
 simp -implicitDefEqProofs only [go_sem,Z1,Z2,Z3,Z4] at hl ⊢
 rcases Classical.em (sort = 1) with h2 | h2
 ·have k:=eq_true h2
  simp -implicitDefEqProofs only [go_sem,Z1,Z2,Z3,Z4,k]
  refine fin1' ?_
  simp -implicitDefEqProofs only [go_sem,Z1,Z2,Z3,Z4]
  all_goals (simp [suits,h2]; done)
 ·simp -implicitDefEqProofs only [go_sem,Z1,Z2,Z3,Z4,h2]
  refine fin1' ?_
  simp -implicitDefEqProofs only [go_sem,Z1,Z2,Z3,Z4]
  all_goals (simp [suits,h2]; done)
theorem suitsAll_dropI {xs:List Mod.Rat} {ns:List Int} {i:Nat} (h:i < xs.length) (h':i < ns.length):suitsAll (xs.drop i) (ns.drop i) = (suits xs[i] ns[i] && suitsAll (xs.drop (i + 1)) (ns.drop (i + 1))):=by
 rw [List.drop_eq_getElem_cons h,List.drop_eq_getElem_cons h',suitsAll]
theorem rowSuits_noneI {s:Sig} {r:Mod.Row} (h:symbol s r.name = none):rowSuits s r = false:=by simp [rowSuits,h]
theorem rowSuits_someI {s:Sig} {r:Mod.Row} {x:Sym} (h:symbol s r.name = some x):rowSuits s r = (decide (x.args.length = r.args.length) && (suits r.val x.sort && suitsAll r.args x.args)):=by simp [rowSuits,h]
theorem c_impl_ModelOk (s:Sig) (m:Mod.Model):C E.P 49 [av (cSig s),av (cModel m)] [] (Eq2 (bv (modelOk s m)) []):=by
 have hLB:=LB_eq
 refine C_goS (nt:=70) (rs:=[.tmp 4]) hm Tryz.func49 rfl rfl rfl rfl rfl (fun hl he=>?_)
 simp -implicitDefEqProofs only [go_sem,Z1,Z2,Z3,Z4] at hl ⊢
 refine atCall [] (c_impl_SigOk s) ?_ ?_ <;> simp -implicitDefEqProofs only [go_sem,Z1,Z2,Z3,Z4]
 cases h1:sigOk s
 ·simp -implicitDefEqProofs only [go_sem,Z1,Z2,Z3,Z4]
  refine fin1' ?_
  simp -implicitDefEqProofs only [go_sem,Z1,Z2,Z3,Z4]
  all_goals (simp [modelOk,h1]; done)
 ·simp -implicitDefEqProofs only [go_sem,Z1,Z2,Z3,Z4]
  refine atCall [] (c_impl_Model_ok m) ?_ ?_ <;> simp -implicitDefEqProofs only [go_sem,Z1,Z2,Z3,Z4]
  cases h2:modelWf m
  ·simp -implicitDefEqProofs only [go_sem,Z1,Z2,Z3,Z4]
   refine fin1' ?_
   simp -implicitDefEqProofs only [go_sem,Z1,Z2,Z3,Z4]
   all_goals (simp [modelOk,h1,h2]; done)
  ·have hmo:modelOk s m = m.rows.all (rowSuits s):=by simp [modelOk,h1,h2]
   simp -implicitDefEqProofs only [go_sem,Z1,Z2,Z3,Z4]
   refine loop_go1 hm (fun (i:Nat)=> i ≤ m.rows.length ∧ m.rows.all (rowSuits s) = (m.rows.drop i).all (rowSuits s)) (fun (i:Nat)=> ⟨mkS 70 .any [(2,.ptr 0 0),(20,lv (rowsRow m.rows)),(21,iv m.rows.length),(22,iv i)],[some (.box (pvs (cSig s)))]⟩) (fun (i:Nat)=> m.rows.length - i) (0) ?_ (weakS [some 0] ?_ ?_ rfl rfl) ?_
   rotate_left
   ·simp -implicitDefEqProofs only [go_sem,Z1,Z2,Z3,Z4]
   ·simp -implicitDefEqProofs only [go_sem,Z1,Z2,Z3,Z4]
   rotate_left
   ·simp
   ·rintro i ⟨hi,hg⟩
    rcases Classical.em (i < m.rows.length) with h3 | h3
    ·have hrl:m.rows[i].args.length ≤ 2:=by
      have hw:=(modelWf_pair h2).2.1 m.rows[i] (List.getElem_mem h3)
      simp only [rowWf,Bool.and_eq_true,decide_eq_true_eq] at hw
      exact hw.2.1
     rw [List.drop_eq_getElem_cons h3,List.all_cons] at hg
     simp -implicitDefEqProofs only [go_sem,Z1,Z2,Z3,Z4,h3]
     refine atCall [] (c_impl_Sig_symbol s m.rows[i].name) ?_ ?_ <;> simp -implicitDefEqProofs only [go_sem,Z1,Z2,Z3,Z4,h3]
     cases hx:symbol s m.rows[i].name with
     | none=>
       rw [rowSuits_noneI hx,Bool.false_and] at hg
       have e:modelOk s m = false:=by rw [hmo,hg]
       simp -implicitDefEqProofs only [go_sem,Z1,Z2,Z3,Z4,Option.isSome_none,Option.getD_none,h3]
       refine fin1' ?_
       simp -implicitDefEqProofs only [go_sem,Z1,Z2,Z3,Z4]
       all_goals (simp [e]; done)
     | some x=>
       rw [rowSuits_someI hx] at hg
       rcases Classical.em (x.args.length = m.rows[i].args.length) with h4 | h4
       ·have k4:=eq_true h4
        simp only [h4,decide_true,Bool.true_and] at hg
        simp -implicitDefEqProofs only [go_sem,Z1,Z2,Z3,Z4,Option.isSome_some,Option.getD_some,k4,h3]
        refine atCall [] (c_impl_suits m.rows[i].val x.sort) ?_ ?_ <;> simp -implicitDefEqProofs only [go_sem,Z1,Z2,Z3,Z4]
        cases h5:suits m.rows[i].val x.sort
        ·rw [h5,Bool.false_and,Bool.false_and] at hg
         have e:modelOk s m = false:=by rw [hmo,hg]
         simp -implicitDefEqProofs only [go_sem,Z1,Z2,Z3,Z4]
         refine fin1' ?_
         simp -implicitDefEqProofs only [go_sem,Z1,Z2,Z3,Z4]
         all_goals (simp [e]; done)
        ·rw [h5,Bool.true_and] at hg
         simp -implicitDefEqProofs only [go_sem,Z1,Z2,Z3,Z4]
         refine loop_go1 hm (fun (k:Nat)=> k ≤ m.rows[i].args.length ∧ suitsAll m.rows[i].args x.args = suitsAll (m.rows[i].args.drop k) (x.args.drop k)) (fun (k:Nat)=> ⟨mkS 70 .any [(2,.ptr 0 0),(7,.ptr 1 0),(20,lv (rowsRow m.rows)),(21,iv m.rows.length),(22,iv i),(53,lv (rowsRat m.rows[i].args)),(54,iv m.rows[i].args.length),(55,iv k)],[some (.box (pvs (cSig s))),some (.box (pvs (cSym x)))]⟩) (fun (k:Nat)=> m.rows[i].args.length - k) (0) ?_ (weakS [some 0,some 2] ?_ ?_ rfl rfl) ?_
         rotate_left
         ·simp -implicitDefEqProofs only [go_sem,Z1,Z2,Z3,Z4]
         ·simp -implicitDefEqProofs only [go_sem,Z1,Z2,Z3,Z4]
         rotate_left
         ·simp
         ·rintro k ⟨hk,hj⟩
          rcases Classical.em (k < m.rows[i].args.length) with h6 | h6
          ·have h7:k < x.args.length:=by omega
           rw [suitsAll_dropI h6 h7] at hj
           simp -implicitDefEqProofs only [go_sem,Z1,Z2,Z3,Z4,h6,h7]
           refine atCall [] (c_impl_suits m.rows[i].args[k] x.args[k]) ?_ ?_ <;> simp -implicitDefEqProofs only [go_sem,Z1,Z2,Z3,Z4]
           with_reducible refine ind_andM (by kernel_rfl) ?_
           cases h8:suits m.rows[i].args[k] x.args[k]
           ·rw [h8,Bool.false_and] at hj
            rw [hj,Bool.false_and] at hg
            have e:modelOk s m = false:=by rw [hmo,hg]
            simp -implicitDefEqProofs only [go_sem,Z1,Z2,Z3,Z4]
            refine fin1' ?_
            simp -implicitDefEqProofs only [go_sem,Z1,Z2,Z3,Z4]
            all_goals (simp [e]; done)
           ·rw [h8,Bool.true_and] at hj
            simp -implicitDefEqProofs only [go_sem,Z1,Z2,Z3,Z4]
            repeat (with_reducible apply And.intro; case left=>omega)
            refine ⟨k + 1,?_,?_,weakS [some 0,some 1] ?_ ?_ rfl rfl⟩
            rotate_left
            ·show _ < _
             omega
            ·simp -implicitDefEqProofs only [go_sem,Z1,Z2,Z3,Z4]
            ·simp -implicitDefEqProofs only [go_sem,Z1,Z2,Z3,Z4]
            exact ⟨by omega,hj⟩
          ·rw [List.drop_of_length_le (by omega)] at hj
           simp only [suitsAll] at hj
           rw [hj,Bool.true_and] at hg
           simp -implicitDefEqProofs only [go_sem,Z1,Z2,Z3,Z4,h6]
           repeat (with_reducible apply And.intro; case left=>omega)
           refine ⟨i + 1,?_,?_,weakS [some 0] ?_ ?_ rfl rfl⟩
           rotate_left
           ·show _ < _
            omega
           ·simp -implicitDefEqProofs only [go_sem,Z1,Z2,Z3,Z4]
           ·simp -implicitDefEqProofs only [go_sem,Z1,Z2,Z3,Z4]
           exact ⟨by omega,hg⟩
       ·simp only [h4,decide_false,Bool.false_and] at hg
        have e:modelOk s m = false:=by rw [hmo,hg]
        simp -implicitDefEqProofs only [go_sem,Z1,Z2,Z3,Z4,Option.isSome_some,Option.getD_some,h4,h3]
        refine fin1' ?_
        simp -implicitDefEqProofs only [go_sem,Z1,Z2,Z3,Z4]
        all_goals (simp [e]; done)
    ·rw [List.drop_of_length_le (by omega),List.all_nil] at hg
     simp -implicitDefEqProofs only [go_sem,Z1,Z2,Z3,Z4,h3]
     refine fin1' ?_
     simp -implicitDefEqProofs only [go_sem,Z1,Z2,Z3,Z4]
     all_goals (simp [hmo,hg]; done)
theorem found_eq {rs:List Mod.Row} {t:Mod.Row} (h:cut rs t < rs.length):found rs t = decide (cmpRow rs[cut rs t] t = 0):=by
 unfold found
 rw [List.getElem?_eq_getElem h]
theorem found_end {rs:List Mod.Row} {t:Mod.Row} (h:¬ cut rs t < rs.length):found rs t = false:=by
 unfold found
 rw [List.getElem?_eq_none (by omega)]
theorem half_int {i j:Nat}:((i:Int) + (j:Int)).fdiv 2 = (((i + j) / 2:Nat):Int):=by
 rw [Int.fdiv_eq_ediv_of_nonneg _ (by omega)]
 omega
theorem c_BinarySearch_Row (rows:List Mod.Row) (t:Mod.Row) (hm1:Mono rows t) (hlen:rows.length ≤ 1000):C E.P 115 [lv (rowsRow rows),av (cRow t),.fn 116 []] [] (Eq2 (.tup [iv (cut rows t),bv (found rows t)]) []):=by
 have hLB:=LB_eq
 refine C_goS (nt:=49) (rs:=[.tmp 6,.tmp 7]) hm Tryz.func115 rfl rfl rfl rfl rfl (fun hl he=>?_)
 simp -implicitDefEqProofs only [go_sem,Z1,Z2,Z3,Z4] at hl ⊢
 refine loop_go2 hm (fun (i:Nat) (j:Nat)=> i ≤ j ∧ j ≤ rows.length ∧ (∀ (k:Nat) (h:k < rows.length),k < i → cmpRow rows[k] t < 0) ∧ (∀ (k:Nat) (h:k < rows.length),j ≤ k → ¬ cmpRow rows[k] t < 0)) (fun (i:Nat) (j:Nat)=> ⟨mkS 49 .any [(0,lv (rowsRow rows)),(2,.fn 116 []),(4,.ptr 0 0),(8,iv rows.length),(9,iv i),(10,iv j)],[some (.box (pvs (cRow t)))]⟩) (fun (i:Nat) (j:Nat)=> j - i) (0) (rows.length) ?_ (weakS [some 0] ?_ ?_ rfl rfl) ?_
 rotate_left
 ·simp -implicitDefEqProofs only [go_sem,Z1,Z2,Z3,Z4]
 ·simp -implicitDefEqProofs only [go_sem,Z1,Z2,Z3,Z4]
 rotate_left
 ·exact ⟨by omega,by omega,fun k h h2=>by omega,fun k h h2=>by omega⟩
 ·rintro i j ⟨hij,hj,h1,h2⟩
  rcases Classical.em (i < j) with h3 | h3
  ·have hw:=wrap_u64 (n:=(i:Int) + j) (by omega) (by omega)
   have hh:(i + j) / 2 < rows.length:=by omega
   have hh2:i ≤ (i + j) / 2:=by omega
   have hh3:(i + j) / 2 < j:=by omega
   generalize hq:(i + j) / 2 = q at *
   have hw2:=wrap_i64 (n:=(q:Int)) (by unfold I64; omega)
   simp -implicitDefEqProofs only [go_sem,Z1,Z2,Z3,Z4,h3]
   repeat (with_reducible apply And.intro; case left=>omega)
   simp -implicitDefEqProofs only [go_sem,Z1,Z2,Z3,Z4,hw]
   refine atShr1 ((i:Int) + j) (q:Int) (by rw [half_int,hq]) (by simp -implicitDefEqProofs only [go_sem,Z1,Z2,Z3,Z4,hw]) ?_
   simp -implicitDefEqProofs only [go_sem,Z1,Z2,Z3,Z4,hw2,hh]
   refine atCall [] (c_impl_compareRows rows[q] t) ?_ ?_ <;> simp -implicitDefEqProofs only [go_sem,Z1,Z2,Z3,Z4]
   with_reducible refine ind_andM (by kernel_rfl) ?_
   rcases Classical.em (cmpRow rows[q] t < 0) with h4 | h4
   ·simp -implicitDefEqProofs only [go_sem,Z1,Z2,Z3,Z4,h4]
    repeat (with_reducible apply And.intro; case left=>omega)
    refine ⟨q + 1,j,?_,?_,weakS [some 0] ?_ ?_ rfl rfl⟩
    rotate_left
    ·show _ < _
     omega
    ·simp -implicitDefEqProofs only [go_sem,Z1,Z2,Z3,Z4]
    ·simp -implicitDefEqProofs only [go_sem,Z1,Z2,Z3,Z4]
    refine ⟨by omega,hj,fun k h hk=>?_,h2⟩
    have a1:=(cut_iff hm1 q hh).2 h4
    exact (cut_iff hm1 k h).1 (by omega)
   ·simp -implicitDefEqProofs only [go_sem,Z1,Z2,Z3,Z4,h4]
    refine ⟨i,q,?_,?_,weakS [some 0] ?_ ?_ rfl rfl⟩
    rotate_left
    ·show _ < _
     omega
    ·simp -implicitDefEqProofs only [go_sem,Z1,Z2,Z3,Z4]
    ·simp -implicitDefEqProofs only [go_sem,Z1,Z2,Z3,Z4]
    refine ⟨hh2,by omega,h1,fun k h hk hc=>h4 ?_⟩
    have a1:=(cut_iff hm1 k h).2 hc
    exact (cut_iff hm1 q hh).1 (by omega)
  ·have e:i = j:=by omega
   subst e
   have hc:=cut_eq hm1 hj h1 h2
   simp -implicitDefEqProofs only [go_sem,Z1,Z2,Z3,Z4,h3]
   rcases Classical.em (i < rows.length) with h4 | h4
   ·have hf:=found_eq (rs:=rows) (t:=t) (by omega)
    simp only [hc] at hf
    simp -implicitDefEqProofs only [go_sem,Z1,Z2,Z3,Z4,h4]
    refine atCall [] (c_impl_compareRows rows[i] t) ?_ ?_ <;> simp -implicitDefEqProofs only [go_sem,Z1,Z2,Z3,Z4]
    with_reducible refine ind_andM (by kernel_rfl) ?_
    refine fin1' ?_
    simp -implicitDefEqProofs only [go_sem,Z1,Z2,Z3,Z4]
    all_goals (simp [hc,hf]; done)
   ·have hf:=found_end (rs:=rows) (t:=t) (by omega)
    simp -implicitDefEqProofs only [go_sem,Z1,Z2,Z3,Z4,h4]
    with_reducible refine ind_andM (by kernel_rfl) ?_
    refine fin1' ?_
    simp -implicitDefEqProofs only [go_sem,Z1,Z2,Z3,Z4]
    all_goals (simp [hc,hf]; done)
def rowOf (m:Mod.Model) (n:Str) (ts:List Term):Mod.Row:=⟨n,values m ts,⟨0,0⟩⟩
theorem value_cut {m:Mod.Model} (h:modelWf m = true) (t:Term):value m t = if found m.rows (rowOf m t.name t.kids) then (m.rows.getD (cut m.rows (rowOf m t.name t.kids)) (rowOf m t.name t.kids)).val else ⟨0,1⟩:=by
 rw [value_eq]
 exact lookup_cut (t:=rowOf m t.name t.kids) h (values_ok h t.kids)
theorem c_impl_Model_value1 (m:Mod.Model) (hm1:modelWf m = true) (t:Term) (ih:∀ k ∈ t.kids,C E.P 50 [av (cModel m),av (cT k)] [] (Eq2 (av (cRat (value m k))) [])):C E.P 50 [av (cModel m),av (cT t)] [] (Eq2 (av (cRat (value m t))) []):=by
 have hv0:=value_cut hm1 t
 have hlen:=(modelWf_pair hm1).1
 have hLB:=LB_eq
 refine C_goS (nt:=45) (rs:=[.cell 4 57]) hm Tryz.func50 rfl rfl rfl rfl rfl (fun hl he=>?_)
 simp -implicitDefEqProofs only [go_sem,Z1,Z2,Z3,Z4] at hl ⊢
 refine loop_go1 hm (fun (i:Nat)=> i ≤ t.kids.length) (fun (i:Nat)=> ⟨mkS 45 .any [(2,.ptr 0 0),(4,.ptr 1 0),(5,.ptr 2 0),(14,lv (rowsT t.kids)),(15,iv t.kids.length),(16,iv i)],[some (.box (pvs (cModel m))),some (.box (pvs (cRat rat0))),some (.box [.d (.str t.name),.acc 3,.d (.val (.int .i64 0)),.d (.val (.int .i64 0))]),some (.acc 57 (rowsRat (values m (t.kids.take i))))]⟩) (fun (i:Nat)=> t.kids.length - i) (0) ?_ (weakS [some 0,some 2,some 3,none] ?_ ?_ rfl rfl) ?_
 rotate_left
 ·simp -implicitDefEqProofs only [go_sem,Z1,Z2,Z3,Z4]
 ·simp -implicitDefEqProofs only [go_sem,Z1,Z2,Z3,Z4]
  all_goals (simp [rat0,values,rowsRat])
 rotate_left
 ·omega
 ·rintro i hi
  have hv:=values_len m (t.kids.take i)
  have hv2:(t.kids.take i).length = i:=by rw [List.length_take]; omega
  rcases Classical.em (i < t.kids.length) with h1 | h1
  ·simp -implicitDefEqProofs only [go_sem,Z1,Z2,Z3,Z4,h1]
   have hc:=ih t.kids[i] (List.getElem_mem h1)
   refine atCall [] hc ?_ ?_ <;> simp -implicitDefEqProofs only [go_sem,Z1,Z2,Z3,Z4]
   repeat (first | with_reducible refine ind_andM (by kernel_rfl) ?_ | (with_reducible apply And.intro; case left=>omega))
   refine ⟨i + 1,?_,?_,weakS [some 0,some 1,some 2,some 5] ?_ ?_ rfl rfl⟩
   rotate_left
   ·show _ < _
    omega
   ·simp -implicitDefEqProofs only [go_sem,Z1,Z2,Z3,Z4]
   ·simp -implicitDefEqProofs only [go_sem,Z1,Z2,Z3,Z4]
    all_goals (exact rowsVal_snoc h1)
   exact h1
  ·have et:t.kids.take i = t.kids:=List.take_of_length_le (by omega)
   simp -implicitDefEqProofs only [go_sem,Z1,Z2,Z3,Z4,h1,et]
   refine atLook [] [3] (c_BinarySearch_Row m.rows (rowOf m t.name t.kids) (mono_of hm1 (values_ok hm1 t.kids)) (by omega)) rfl ?_ ?_ ?_
   ·(simp -implicitDefEqProofs only [go_sem,Z1,Z2,Z3,Z4]; repeat' (first | exact Vws.nil | apply Vws.cons | exact Vw.same (by first | rfl | simp -implicitDefEqProofs only [go_sem,Z1,Z2,Z3,Z4]) | exact Vw.acc rfl rfl | exact Vw.tre rfl rfl (by simp -implicitDefEqProofs only [go_sem,Z1,Z2,Z3,Z4]) | exact Vw.nil | apply Vw.agg | apply Vw.fn | refine Vw.box rfl rfl ?_))
   all_goals simp -implicitDefEqProofs only [go_sem,Z1,Z2,Z3,Z4]
   cases hf:found m.rows (rowOf m t.name t.kids)
   ·rw [hf] at hv0
    simp only [Bool.false_eq_true,if_false] at hv0
    simp -implicitDefEqProofs only [go_sem,Z1,Z2,Z3,Z4]
    refine atCall [] (c_impl_whole 0) ?_ ?_ <;> simp -implicitDefEqProofs only [go_sem,Z1,Z2,Z3,Z4]
    refine fin1' ?_
    simp -implicitDefEqProofs only [go_sem,Z1,Z2,Z3,Z4]
    all_goals (simp [hv0,whole]; done)
   ·have hlt:cut m.rows (rowOf m t.name t.kids) < m.rows.length:=by
     rcases Nat.lt_or_ge (cut m.rows (rowOf m t.name t.kids)) m.rows.length with h | h
     ·exact h
     ·rw [found_end (by omega)] at hf; cases hf
    have hg:m.rows.getD (cut m.rows (rowOf m t.name t.kids)) (rowOf m t.name t.kids) = m.rows[cut m.rows (rowOf m t.name t.kids)]:=by simp [List.getD,hlt]
    rw [hf,hg] at hv0
    simp only [if_true] at hv0
    generalize hq:cut m.rows (rowOf m t.name t.kids) = q at *
    simp -implicitDefEqProofs only [go_sem,Z1,Z2,Z3,Z4,hlt]
    refine fin1' ?_
    simp -implicitDefEqProofs only [go_sem,Z1,Z2,Z3,Z4]
    all_goals (simp [hv0]; done)
theorem c_impl_Model_value (m:Mod.Model) (hm1:modelWf m = true):∀ t,C E.P 50 [av (cModel m),av (cT t)] [] (Eq2 (av (cRat (value m t))) []):=
 Term.ind fun n ks ih=>c_impl_Model_value1 m hm1 (.mk n ks) ih
theorem c_impl_Model_atom (m:Mod.Model) (a:Atom) (hm1:modelWf m = true) (hwf:atomWf a = true):C E.P 225 [av (cModel m),av (cAtom a)] [] (Eq2 (.tup [bv ((atomIs m a).getD false),bv (atomIs m a).isSome]) []):=by
 have hLB:=LB_eq
 refine C_goS (nt:=55) (rs:=[.tmp 4,.tmp 5]) hm Tryz.func225 rfl rfl rfl rfl rfl (fun hl he=>?_)
 simp -implicitDefEqProofs only [go_sem,Z1,Z2,Z3,Z4] at hl ⊢
 rcases Classical.em (a.kind = 1) with h3 | h3
 ·have k3:=eq_true h3
  have e2:atomIs m a = some (decide (value m a.A = value m a.B)):=by unfold atomIs; rw [if_pos h3]
  simp -implicitDefEqProofs only [go_sem,Z1,Z2,Z3,Z4,k3]
  refine atCall [] (c_impl_Model_value m hm1 a.A) ?_ ?_ <;> simp -implicitDefEqProofs only [go_sem,Z1,Z2,Z3,Z4]
  refine atCall [] (c_impl_Model_value m hm1 a.B) ?_ ?_ <;> simp -implicitDefEqProofs only [go_sem,Z1,Z2,Z3,Z4]
  refine atPair (by kernel_rfl) (a:=(value m a.A).N) (b:=(value m a.A).D) (c:=(value m a.B).N) (e:=(value m a.B).D) (by simp -implicitDefEqProofs only [go_sem,Z1,Z2,Z3,Z4]) (by simp -implicitDefEqProofs only [go_sem,Z1,Z2,Z3,Z4]) ?_
  rw [eqPair_rat]
  simp -implicitDefEqProofs only [go_sem,Z1,Z2,Z3,Z4]
  with_reducible refine ind_andM (by kernel_rfl) ?_
  refine fin1' ?_
  simp -implicitDefEqProofs only [go_sem,Z1,Z2,Z3,Z4]
  all_goals (simp [e2]; done)
 ·have k:a.kind = 2:=(atomWf_kind hwf).resolve_left h3
  obtain ⟨_,_,_,hlen,hb,_⟩:=atomWf_sum hwf k
  have e2:atomIs m a = (sumGo m a.nums a.times (whole 0)).map fun x=>below x a.bound a.strict:=by unfold atomIs; rw [if_neg h3]
  simp -implicitDefEqProofs only [go_sem,Z1,Z2,Z3,Z4,h3]
  refine atCall [] (c_impl_whole 0) ?_ ?_ <;> simp -implicitDefEqProofs only [go_sem,Z1,Z2,Z3,Z4]
  refine loop_go2 hm (fun (i:Nat) (sum:Mod.Rat)=> i ≤ a.nums.length ∧ sumGo m a.nums a.times (whole 0) = sumGo m (a.nums.drop i) (a.times.drop i) sum) (fun (i:Nat) (sum:Mod.Rat)=> ⟨mkS 55 .any [(2,.ptr 0 0),(3,.ptr 1 0),(6,.ptr 2 0),(25,lv (rowsT a.nums)),(26,iv a.nums.length),(27,iv i)],[some (.box (pvs (cModel m))),some (.box (pvs (cAtom a))),some (.box (pvs (cRat sum)))]⟩) (fun (i:Nat) (sum:Mod.Rat)=> a.nums.length - i) (0) (whole 0) ?_ (weakS [some 0,some 1,some 2] ?_ ?_ rfl rfl) ?_
  rotate_left
  ·simp -implicitDefEqProofs only [go_sem,Z1,Z2,Z3,Z4]
  ·simp -implicitDefEqProofs only [go_sem,Z1,Z2,Z3,Z4]
  rotate_left
  ·simp
  ·rintro i sum ⟨hi,hg⟩
   rcases Classical.em (i < a.nums.length) with h1 | h1
   ·have h2:i < a.times.length:=by omega
    rw [sumGo_drop h1 h2] at hg
    simp -implicitDefEqProofs only [go_sem,Z1,Z2,Z3,Z4,h1,h2]
    refine atCall [] (c_impl_Model_value m hm1 a.nums[i]) ?_ ?_ <;> simp -implicitDefEqProofs only [go_sem,Z1,Z2,Z3,Z4]
    refine atCall [] (c_impl_plus sum a.times[i] (value m a.nums[i])) ?_ ?_ <;> simp -implicitDefEqProofs only [go_sem,Z1,Z2,Z3,Z4]
    with_reducible refine ind_andM (by kernel_rfl) ?_
    cases h4:(plus sum a.times[i] (value m a.nums[i])).2
    ·rw [h4] at hg
     simp only [Bool.false_eq_true,if_false] at hg
     rw [hg] at e2
     simp -implicitDefEqProofs only [go_sem,Z1,Z2,Z3,Z4]
     refine fin1' ?_
     simp -implicitDefEqProofs only [go_sem,Z1,Z2,Z3,Z4]
     all_goals (simp [e2]; done)
    ·rw [h4] at hg
     simp only [if_true] at hg
     simp -implicitDefEqProofs only [go_sem,Z1,Z2,Z3,Z4]
     repeat (with_reducible apply And.intro; case left=>omega)
     refine ⟨i + 1,(plus sum a.times[i] (value m a.nums[i])).1,?_,?_,weakS [some 0,some 1,some 2] ?_ ?_ rfl rfl⟩
     rotate_left
     ·show _ < _
      omega
     ·simp -implicitDefEqProofs only [go_sem,Z1,Z2,Z3,Z4]
     ·simp -implicitDefEqProofs only [go_sem,Z1,Z2,Z3,Z4]
     exact ⟨by omega,hg⟩
   ·rw [sumGo_end (by omega)] at hg
    rw [hg] at e2
    simp -implicitDefEqProofs only [go_sem,Z1,Z2,Z3,Z4,h1]
    refine atCall [] (c_impl_below sum a.bound a.strict) ?_ ?_ <;> simp -implicitDefEqProofs only [go_sem,Z1,Z2,Z3,Z4]
    refine fin1' ?_
    simp -implicitDefEqProofs only [go_sem,Z1,Z2,Z3,Z4]
    all_goals (simp [e2]; done)
theorem modelLit_noI {s:Sig} {m:Mod.Model} {l:LitD} (h:modelOk s m = false ∨ atomOk s l.atom = false):modelLit s m l = none:=by
 unfold modelLit
 rcases h with h | h <;> simp [h]
theorem modelOk_wf {s:Sig} {m:Mod.Model} (h:modelOk s m = true):modelWf m = true:=by
 simp only [modelOk,Bool.and_eq_true] at h
 exact h.2.1
theorem c_impl_ModelLit (s:Sig) (m:Mod.Model) (l:LitD):C E.P 171 [av (cSig s),av (cModel m),av (cLit l)] [] (Eq2 (.tup [bv ((modelLit s m l).getD false),bv (modelLit s m l).isSome]) []):=by
 have hLB:=LB_eq
 refine C_goS (nt:=34) (rs:=[.tmp 6,.tmp 7]) hm Tryz.func171 rfl rfl rfl rfl rfl (fun hl he=>?_)
 simp -implicitDefEqProofs only [go_sem,Z1,Z2,Z3,Z4] at hl ⊢
 refine atCall [] (c_impl_ModelOk s m) ?_ ?_ <;> simp -implicitDefEqProofs only [go_sem,Z1,Z2,Z3,Z4]
 cases h1:modelOk s m
 ·have e:=modelLit_noI (l:=l) (.inl h1)
  simp -implicitDefEqProofs only [go_sem,Z1,Z2,Z3,Z4]
  refine fin1' ?_
  simp -implicitDefEqProofs only [go_sem,Z1,Z2,Z3,Z4]
  all_goals (simp [e]; done)
 ·simp -implicitDefEqProofs only [go_sem,Z1,Z2,Z3,Z4]
  refine atCall [] (c_impl_AtomOk s l.atom) ?_ ?_ <;> simp -implicitDefEqProofs only [go_sem,Z1,Z2,Z3,Z4]
  cases h2:atomOk s l.atom
  ·have e:=modelLit_noI (m:=m) (.inr h2)
   simp -implicitDefEqProofs only [go_sem,Z1,Z2,Z3,Z4]
   refine fin1' ?_
   simp -implicitDefEqProofs only [go_sem,Z1,Z2,Z3,Z4]
   all_goals (simp [e]; done)
  ·have e:modelLit s m l = (atomIs m l.atom).map fun b=>b != l.no:=by
    unfold modelLit
    simp [h1,h2]
   have hwf:atomWf l.atom = true:=by
    simp only [atomOk,Bool.and_eq_true] at h2
    exact h2.2.1
   simp -implicitDefEqProofs only [go_sem,Z1,Z2,Z3,Z4]
   refine atCall [] (c_impl_Model_atom m l.atom (modelOk_wf h1) hwf) ?_ ?_ <;> simp -implicitDefEqProofs only [go_sem,Z1,Z2,Z3,Z4]
   cases h3:atomIs m l.atom with
   | none=>
     rw [h3] at e
     simp -implicitDefEqProofs only [go_sem,Z1,Z2,Z3,Z4,Option.isSome_none,Option.getD_none]
     refine fin1' ?_
     simp -implicitDefEqProofs only [go_sem,Z1,Z2,Z3,Z4]
     all_goals (simp [e]; done)
   | some b=>
     rw [h3] at e
     simp -implicitDefEqProofs only [go_sem,Z1,Z2,Z3,Z4,Option.isSome_some,Option.getD_some]
     refine fin1' ?_
     simp -implicitDefEqProofs only [go_sem,Z1,Z2,Z3,Z4]
     rw [e]
     exact ⟨rfl,rfl⟩
end Go.Proofs.YtpidddienjoleaaGreat
