/-
  The reference: the walk of certificates, kinds of one. A step towards the exact laws.
-/
import Derived.Test.YtlddcknkojieeaaGreatKPT
import Derived.Test.YtlddcknkojieeaaGreatKPE
set_option linter.unusedVariables false
set_option linter.unusedSimpArgs false
namespace Go.Proofs.YtlddcknkojieeaaGreat
open Go.Eng Go.Mod
open Int renaming reduceEq → Z1,reduceLT → Z2,reduceLE → Z3,reduceToNat → Z4
set_option maxRecDepth 100000
set_option maxHeartbeats 400000
theorem c_spec_l8Case_threea (s:Sig) (nums:List Term) (hn4:nums.length ≤ 4) (hnt:∀ t ∈ nums,isTerm t = true) (c:Case) (ih:∀ k ∈ c.kids,∀ (lits:List LitD) (deep:Nat),1 ≤ deep → deep ≤ 15 → lits.length + (15 - deep) ≤ 30 → (∀ l ∈ lits,Fit nums l) → C E.P 90 [av (cSig s),lv (rowsT nums),lv (rowsLit lits),av (cCase k),iv (15 - (deep:Int))] [] (Eq2 (bv (caseIs s nums k lits deep)) []))
 (lits:List LitD) (deep:Nat) (hd1:1 ≤ deep) (hd:deep ≤ 14) (hll:lits.length + (15 - deep) ≤ 30) (hf:∀ l ∈ lits,Fit nums l) (pA:isNone c.A = false) (k:c.kind = 3) :
 C E.P 90 [av (cSig s),lv (rowsT nums),lv (rowsLit lits),av (cCase c),iv (15 - (deep:Int))] [] (Eq2 (bv (caseIs s nums c lits deep)) []):=by
 have hx:=caseIs_eq s nums c lits deep
 rw [if_neg (by omega)] at hx
 have x1:¬ 15 - (deep:Int) < 1:=by omega
 have x2:15 - (deep:Int) - 1 = 15 - ((deep + 1:Nat):Int):=by omega
 have hLB:=LB_eq
 refine C_goS (nt:=268) (rs:=[.tmp 10]) hm Tryz.func90 rfl rfl rfl rfl rfl (fun hl he=>?_)
 simp -implicitDefEqProofs only [go_sem] at hl ⊢
 refine atCall [] (c_spec_l6None c.A) ?_ ?_ <;> simp -implicitDefEqProofs only [go_sem,pA]
 refine atCall [] (c_spec_WhySame c.why why0) ?_ ?_ <;> simp -implicitDefEqProofs only [go_sem]
 rw [if_neg (by omega),if_neg (by omega),if_pos k] at hx
 rcases Classical.em (c.n = 0) with n0 | n0
 ·have kn:=eq_true n0
  rcases Classical.em ((0:Int) < (c.times.length:Int)) with t0 | t0
  ·have t0':¬ c.times.length = 0:=by omega
   have t1:¬ c.times = []:=fun e=>by rw [e] at t0'; exact t0' rfl
   have e:caseIs s nums c lits deep = false:=by rw [hx]; simp [bare,t1]
   simp -implicitDefEqProofs only [go_sem,Z1,x1,k,kn,t0]
   refine fin1' ?_
   simp -implicitDefEqProofs only [go_sem]
   all_goals (simp [e]; done)
  ·have e:caseIs s nums c lits deep = false:=by rw [hx]; simp [bare,pA]
   simp -implicitDefEqProofs only [go_sem,Z1,x1,k,kn,t0]
   refine fin1' ?_
   simp -implicitDefEqProofs only [go_sem]
   all_goals (simp [e]; done)
 ·have e:caseIs s nums c lits deep = false:=by rw [hx]; simp [bare,n0]
  simp -implicitDefEqProofs only [go_sem,Z1,x1,k,n0]
  refine fin1' ?_
  simp -implicitDefEqProofs only [go_sem]
  all_goals (simp [e]; done)
theorem c_spec_l8Case_threeb (s:Sig) (nums:List Term) (hn4:nums.length ≤ 4) (hnt:∀ t ∈ nums,isTerm t = true) (c:Case) (ih:∀ k ∈ c.kids,∀ (lits:List LitD) (deep:Nat),1 ≤ deep → deep ≤ 15 → lits.length + (15 - deep) ≤ 30 → (∀ l ∈ lits,Fit nums l) → C E.P 90 [av (cSig s),lv (rowsT nums),lv (rowsLit lits),av (cCase k),iv (15 - (deep:Int))] [] (Eq2 (bv (caseIs s nums k lits deep)) []))
 (lits:List LitD) (deep:Nat) (hd1:1 ≤ deep) (hd:deep ≤ 14) (hll:lits.length + (15 - deep) ≤ 30) (hf:∀ l ∈ lits,Fit nums l) (pA:isNone c.A = true) (pB:isNone c.B = false) (k:c.kind = 3) :
 C E.P 90 [av (cSig s),lv (rowsT nums),lv (rowsLit lits),av (cCase c),iv (15 - (deep:Int))] [] (Eq2 (bv (caseIs s nums c lits deep)) []):=by
 have hx:=caseIs_eq s nums c lits deep
 rw [if_neg (by omega)] at hx
 have x1:¬ 15 - (deep:Int) < 1:=by omega
 have x2:15 - (deep:Int) - 1 = 15 - ((deep + 1:Nat):Int):=by omega
 have hLB:=LB_eq
 refine C_goS (nt:=268) (rs:=[.tmp 10]) hm Tryz.func90 rfl rfl rfl rfl rfl (fun hl he=>?_)
 simp -implicitDefEqProofs only [go_sem] at hl ⊢
 refine atCall [] (c_spec_l6None c.A) ?_ ?_ <;> simp -implicitDefEqProofs only [go_sem,pA]
 refine atCall [] (c_spec_l6None c.B) ?_ ?_ <;> simp -implicitDefEqProofs only [go_sem,pB]
 refine atCall [] (c_spec_WhySame c.why why0) ?_ ?_ <;> simp -implicitDefEqProofs only [go_sem]
 rw [if_neg (by omega),if_neg (by omega),if_pos k] at hx
 rcases Classical.em (c.n = 0) with n0 | n0
 ·have kn:=eq_true n0
  rcases Classical.em ((0:Int) < (c.times.length:Int)) with t0 | t0
  ·have t0':¬ c.times.length = 0:=by omega
   have t1:¬ c.times = []:=fun e=>by rw [e] at t0'; exact t0' rfl
   have e:caseIs s nums c lits deep = false:=by rw [hx]; simp [bare,t1]
   simp -implicitDefEqProofs only [go_sem,Z1,x1,k,kn,t0]
   refine fin1' ?_
   simp -implicitDefEqProofs only [go_sem]
   all_goals (simp [e]; done)
  ·have e:caseIs s nums c lits deep = false:=by rw [hx]; simp [bare,pA,pB]
   simp -implicitDefEqProofs only [go_sem,Z1,x1,k,kn,t0]
   refine fin1' ?_
   simp -implicitDefEqProofs only [go_sem]
   all_goals (simp [e]; done)
 ·have e:caseIs s nums c lits deep = false:=by rw [hx]; simp [bare,n0]
  simp -implicitDefEqProofs only [go_sem,Z1,x1,k,n0]
  refine fin1' ?_
  simp -implicitDefEqProofs only [go_sem]
  all_goals (simp [e]; done)
theorem c_spec_l8Case_threec (s:Sig) (nums:List Term) (hn4:nums.length ≤ 4) (hnt:∀ t ∈ nums,isTerm t = true) (c:Case) (ih:∀ k ∈ c.kids,∀ (lits:List LitD) (deep:Nat),1 ≤ deep → deep ≤ 15 → lits.length + (15 - deep) ≤ 30 → (∀ l ∈ lits,Fit nums l) → C E.P 90 [av (cSig s),lv (rowsT nums),lv (rowsLit lits),av (cCase k),iv (15 - (deep:Int))] [] (Eq2 (bv (caseIs s nums k lits deep)) []))
 (lits:List LitD) (deep:Nat) (hd1:1 ≤ deep) (hd:deep ≤ 14) (hll:lits.length + (15 - deep) ≤ 30) (hf:∀ l ∈ lits,Fit nums l) (pA:isNone c.A = true) (pB:isNone c.B = true) (k:c.kind = 3) :
 C E.P 90 [av (cSig s),lv (rowsT nums),lv (rowsLit lits),av (cCase c),iv (15 - (deep:Int))] [] (Eq2 (bv (caseIs s nums c lits deep)) []):=by
 have hx:=caseIs_eq s nums c lits deep
 rw [if_neg (by omega)] at hx
 have x1:¬ 15 - (deep:Int) < 1:=by omega
 have x2:15 - (deep:Int) - 1 = 15 - ((deep + 1:Nat):Int):=by omega
 have hLB:=LB_eq
 refine C_goS (nt:=268) (rs:=[.tmp 10]) hm Tryz.func90 rfl rfl rfl rfl rfl (fun hl he=>?_)
 simp -implicitDefEqProofs only [go_sem] at hl ⊢
 refine atCall [] (c_spec_l6None c.A) ?_ ?_ <;> simp -implicitDefEqProofs only [go_sem,pA]
 refine atCall [] (c_spec_l6None c.B) ?_ ?_ <;> simp -implicitDefEqProofs only [go_sem,pB]
 refine atCall [] (c_spec_WhySame c.why why0) ?_ ?_ <;> simp -implicitDefEqProofs only [go_sem]
 rw [if_neg (by omega),if_neg (by omega),if_pos k] at hx
 rcases Classical.em (c.n = 0) with n0 | n0
 ·have kn:=eq_true n0
  rcases Classical.em ((0:Int) < (c.times.length:Int)) with t0 | t0
  ·have t0':¬ c.times.length = 0:=by omega
   have t1:¬ c.times = []:=fun e=>by rw [e] at t0'; exact t0' rfl
   have e:caseIs s nums c lits deep = false:=by rw [hx]; simp [bare,t1]
   simp -implicitDefEqProofs only [go_sem,Z1,x1,k,kn,t0]
   refine fin1' ?_
   simp -implicitDefEqProofs only [go_sem]
   all_goals (simp [e]; done)
  ·have t1:c.times = []:=List.length_eq_zero_iff.1 (by omega)
   rcases Classical.em ((c.kids.length:Int) = 1) with z | z
   ·have z':c.kids.length = 1:=by omega
    have z0:0 < c.kids.length:=by omega
    have kz:=eq_true z
    have eb:bare c false true false false 1 = true:=by simp [bare,pA,pB,n0,t1,z']
    rw [eb,Bool.true_and] at hx
    simp -implicitDefEqProofs only [go_sem,Z1,x1,k,kn,t0,kz]
    refine atCall [] (c_spec_l8Eqs lits (by omega)) ?_ ?_ <;> simp -implicitDefEqProofs only [go_sem]
    refine atCall [] (c_spec_WhyTells s (eqsOf lits) c.why) ?_ ?_ <;> simp -implicitDefEqProofs only [go_sem]
    with_reducible refine ind_andM (by kernel_rfl) ?_
    cases hq:whyTells s (eqsOf lits) c.why with
    | none=>
      rw [hq] at hx
      simp only at hx
      simp -implicitDefEqProofs only [go_sem,Option.isSome_none]
      with_reducible refine ind_andM (by kernel_rfl) ?_
      refine fin1' ?_
      simp -implicitDefEqProofs only [go_sem]
      all_goals (simp [hx]; done)
    | some q=>
      rw [hq] at hx
      simp only at hx
      simp -implicitDefEqProofs only [go_sem,Option.isSome_some,Option.getD_some]
      refine atCall [] (c_spec_l8Pair nums q.A q.B) ?_ ?_ <;> simp -implicitDefEqProofs only [go_sem]
      cases h8:Mod.differ nums q.A q.B
      ·rw [h8,Bool.false_and] at hx
       simp -implicitDefEqProofs only [go_sem]
       with_reducible refine ind_andM (by kernel_rfl) ?_
       refine fin1' ?_
       simp -implicitDefEqProofs only [go_sem]
       all_goals (simp [hx]; done)
      ·have hdf:=differ_iff.1 h8
       have hi:=ih c.kids[0] (List.getElem_mem z0) (lits ++ [eqLit q.A q.B]) (deep + 1) (by omega) (by omega) (by simp; omega) (fun l hl=>by
        rcases List.mem_append.1 hl with hl | hl
        ·exact hf l hl
        ·simp only [List.mem_cons,List.not_mem_nil,or_false] at hl
         rw [hl]
         exact fit_eq hdf.1 hdf.2.1 (hnt _ hdf.1) (hnt _ hdf.2.1))
       rw [h8,Bool.true_and,caseIss_1 s nums c.kids[0] c.kids _ _ (list_1 z' z0)] at hx
       simp -implicitDefEqProofs only [go_sem]
       refine atCall [] (c_spec_l8One q.A q.B) ?_ ?_ <;> simp -implicitDefEqProofs only [go_sem]
       refine atCall [] (c_spec_l8With lits (eqLit q.A q.B) (by omega)) ?_ ?_ <;> simp -implicitDefEqProofs only [go_sem,z0,x2]
       repeat (with_reducible apply And.intro; case left=>omega)
       refine atCall [] hi ?_ ?_ <;> simp -implicitDefEqProofs only [go_sem]
       with_reducible refine ind_andM (by kernel_rfl) ?_
       refine fin1' ?_
       simp -implicitDefEqProofs only [go_sem]
       all_goals (simp [hx]; done)
   ·have z':¬ c.kids.length = 1:=by omega
    have e:caseIs s nums c lits deep = false:=by rw [hx]; simp [bare,z']
    simp -implicitDefEqProofs only [go_sem,Z1,x1,k,kn,t0,z]
    refine fin1' ?_
    simp -implicitDefEqProofs only [go_sem]
    all_goals (simp [e]; done)
 ·have e:caseIs s nums c lits deep = false:=by rw [hx]; simp [bare,n0]
  simp -implicitDefEqProofs only [go_sem,Z1,x1,k,n0]
  refine fin1' ?_
  simp -implicitDefEqProofs only [go_sem]
  all_goals (simp [e]; done)
theorem c_spec_l8Case_othera (s:Sig) (nums:List Term) (hn4:nums.length ≤ 4) (hnt:∀ t ∈ nums,isTerm t = true) (c:Case) (ih:∀ k ∈ c.kids,∀ (lits:List LitD) (deep:Nat),1 ≤ deep → deep ≤ 15 → lits.length + (15 - deep) ≤ 30 → (∀ l ∈ lits,Fit nums l) → C E.P 90 [av (cSig s),lv (rowsT nums),lv (rowsLit lits),av (cCase k),iv (15 - (deep:Int))] [] (Eq2 (bv (caseIs s nums k lits deep)) []))
 (lits:List LitD) (deep:Nat) (hd1:1 ≤ deep) (hd:deep ≤ 14) (hll:lits.length + (15 - deep) ≤ 30) (hf:∀ l ∈ lits,Fit nums l) (pA:isNone c.A = false) (k1:¬ c.kind = 1) (k2:¬ c.kind = 2) (k3:¬ c.kind = 3) (k4:¬ c.kind = 4) :
 C E.P 90 [av (cSig s),lv (rowsT nums),lv (rowsLit lits),av (cCase c),iv (15 - (deep:Int))] [] (Eq2 (bv (caseIs s nums c lits deep)) []):=by
 have hx:=caseIs_eq s nums c lits deep
 rw [if_neg (by omega)] at hx
 have x1:¬ 15 - (deep:Int) < 1:=by omega
 have x2:15 - (deep:Int) - 1 = 15 - ((deep + 1:Nat):Int):=by omega
 have hLB:=LB_eq
 refine C_goS (nt:=268) (rs:=[.tmp 10]) hm Tryz.func90 rfl rfl rfl rfl rfl (fun hl he=>?_)
 simp -implicitDefEqProofs only [go_sem] at hl ⊢
 refine atCall [] (c_spec_l6None c.A) ?_ ?_ <;> simp -implicitDefEqProofs only [go_sem,pA]
 refine atCall [] (c_spec_WhySame c.why why0) ?_ ?_ <;> simp -implicitDefEqProofs only [go_sem]
 rw [if_neg k1,if_neg k2,if_neg k3,if_neg k4] at hx
 rcases Classical.em (c.n = 0) with n0 | n0
 ·have kn:=eq_true n0
  rcases Classical.em ((0:Int) < (c.times.length:Int)) with t0 | t0
  ·simp -implicitDefEqProofs only [go_sem,x1,k1,k2,kn,t0]
   refine fin1' ?_
   simp -implicitDefEqProofs only [go_sem]
   all_goals (simp [hx]; done)
  ·simp -implicitDefEqProofs only [go_sem,x1,k1,k2,k3,k4,kn,t0]
   refine fin1' ?_
   simp -implicitDefEqProofs only [go_sem]
   all_goals (simp [hx]; done)
 ·simp -implicitDefEqProofs only [go_sem,x1,k1,n0]
  refine fin1' ?_
  simp -implicitDefEqProofs only [go_sem]
  all_goals (simp [hx]; done)
theorem c_spec_l8Case_otherb (s:Sig) (nums:List Term) (hn4:nums.length ≤ 4) (hnt:∀ t ∈ nums,isTerm t = true) (c:Case) (ih:∀ k ∈ c.kids,∀ (lits:List LitD) (deep:Nat),1 ≤ deep → deep ≤ 15 → lits.length + (15 - deep) ≤ 30 → (∀ l ∈ lits,Fit nums l) → C E.P 90 [av (cSig s),lv (rowsT nums),lv (rowsLit lits),av (cCase k),iv (15 - (deep:Int))] [] (Eq2 (bv (caseIs s nums k lits deep)) []))
 (lits:List LitD) (deep:Nat) (hd1:1 ≤ deep) (hd:deep ≤ 14) (hll:lits.length + (15 - deep) ≤ 30) (hf:∀ l ∈ lits,Fit nums l) (pA:isNone c.A = true) (pB:isNone c.B = false) (k1:¬ c.kind = 1) (k2:¬ c.kind = 2) (k3:¬ c.kind = 3) (k4:¬ c.kind = 4) :
 C E.P 90 [av (cSig s),lv (rowsT nums),lv (rowsLit lits),av (cCase c),iv (15 - (deep:Int))] [] (Eq2 (bv (caseIs s nums c lits deep)) []):=by
 have hx:=caseIs_eq s nums c lits deep
 rw [if_neg (by omega)] at hx
 have x1:¬ 15 - (deep:Int) < 1:=by omega
 have x2:15 - (deep:Int) - 1 = 15 - ((deep + 1:Nat):Int):=by omega
 have hLB:=LB_eq
 refine C_goS (nt:=268) (rs:=[.tmp 10]) hm Tryz.func90 rfl rfl rfl rfl rfl (fun hl he=>?_)
 simp -implicitDefEqProofs only [go_sem] at hl ⊢
 refine atCall [] (c_spec_l6None c.A) ?_ ?_ <;> simp -implicitDefEqProofs only [go_sem,pA]
 refine atCall [] (c_spec_l6None c.B) ?_ ?_ <;> simp -implicitDefEqProofs only [go_sem,pB]
 refine atCall [] (c_spec_WhySame c.why why0) ?_ ?_ <;> simp -implicitDefEqProofs only [go_sem]
 rw [if_neg k1,if_neg k2,if_neg k3,if_neg k4] at hx
 rcases Classical.em (c.n = 0) with n0 | n0
 ·have kn:=eq_true n0
  rcases Classical.em ((0:Int) < (c.times.length:Int)) with t0 | t0
  ·simp -implicitDefEqProofs only [go_sem,x1,k1,k2,kn,t0]
   refine fin1' ?_
   simp -implicitDefEqProofs only [go_sem]
   all_goals (simp [hx]; done)
  ·simp -implicitDefEqProofs only [go_sem,x1,k1,k2,k3,k4,kn,t0]
   refine fin1' ?_
   simp -implicitDefEqProofs only [go_sem]
   all_goals (simp [hx]; done)
 ·simp -implicitDefEqProofs only [go_sem,x1,k1,n0]
  refine fin1' ?_
  simp -implicitDefEqProofs only [go_sem]
  all_goals (simp [hx]; done)
theorem c_spec_l8Case_otherc (s:Sig) (nums:List Term) (hn4:nums.length ≤ 4) (hnt:∀ t ∈ nums,isTerm t = true) (c:Case) (ih:∀ k ∈ c.kids,∀ (lits:List LitD) (deep:Nat),1 ≤ deep → deep ≤ 15 → lits.length + (15 - deep) ≤ 30 → (∀ l ∈ lits,Fit nums l) → C E.P 90 [av (cSig s),lv (rowsT nums),lv (rowsLit lits),av (cCase k),iv (15 - (deep:Int))] [] (Eq2 (bv (caseIs s nums k lits deep)) []))
 (lits:List LitD) (deep:Nat) (hd1:1 ≤ deep) (hd:deep ≤ 14) (hll:lits.length + (15 - deep) ≤ 30) (hf:∀ l ∈ lits,Fit nums l) (pA:isNone c.A = true) (pB:isNone c.B = true) (k1:¬ c.kind = 1) (k2:¬ c.kind = 2) (k3:¬ c.kind = 3) (k4:¬ c.kind = 4) :
 C E.P 90 [av (cSig s),lv (rowsT nums),lv (rowsLit lits),av (cCase c),iv (15 - (deep:Int))] [] (Eq2 (bv (caseIs s nums c lits deep)) []):=by
 have hx:=caseIs_eq s nums c lits deep
 rw [if_neg (by omega)] at hx
 have x1:¬ 15 - (deep:Int) < 1:=by omega
 have x2:15 - (deep:Int) - 1 = 15 - ((deep + 1:Nat):Int):=by omega
 have hLB:=LB_eq
 refine C_goS (nt:=268) (rs:=[.tmp 10]) hm Tryz.func90 rfl rfl rfl rfl rfl (fun hl he=>?_)
 simp -implicitDefEqProofs only [go_sem] at hl ⊢
 refine atCall [] (c_spec_l6None c.A) ?_ ?_ <;> simp -implicitDefEqProofs only [go_sem,pA]
 refine atCall [] (c_spec_l6None c.B) ?_ ?_ <;> simp -implicitDefEqProofs only [go_sem,pB]
 refine atCall [] (c_spec_WhySame c.why why0) ?_ ?_ <;> simp -implicitDefEqProofs only [go_sem]
 rw [if_neg k1,if_neg k2,if_neg k3,if_neg k4] at hx
 rcases Classical.em (c.n = 0) with n0 | n0
 ·have kn:=eq_true n0
  rcases Classical.em ((0:Int) < (c.times.length:Int)) with t0 | t0
  ·simp -implicitDefEqProofs only [go_sem,x1,k1,k2,kn,t0]
   refine fin1' ?_
   simp -implicitDefEqProofs only [go_sem]
   all_goals (simp [hx]; done)
  ·simp -implicitDefEqProofs only [go_sem,x1,k1,k2,k3,k4,kn,t0]
   refine fin1' ?_
   simp -implicitDefEqProofs only [go_sem]
   all_goals (simp [hx]; done)
 ·simp -implicitDefEqProofs only [go_sem,x1,k1,n0]
  refine fin1' ?_
  simp -implicitDefEqProofs only [go_sem]
  all_goals (simp [hx]; done)
end Go.Proofs.YtlddcknkojieeaaGreat
