/-
  The reference: the walk of certificates, kinds of one. A step towards the exact laws.
-/
import Derived.Test.YtlddcknkojieeaaGreatKQT
import Derived.Test.YtlddcknkojieeaaGreatKQE
set_option linter.unusedVariables false
set_option linter.unusedSimpArgs false
namespace Go.Proofs.YtlddcknkojieeaaGreat
open Go.Eng Go.Mod
open Int renaming reduceEq → Z1,reduceLT → Z2,reduceLE → Z3,reduceToNat → Z4
set_option maxRecDepth 100000
set_option maxHeartbeats 400000
theorem c_spec_l8Case_onea (s:Sig) (nums:List Term) (hn4:nums.length ≤ 4) (hnt:∀ t ∈ nums,isTerm t = true) (c:Case) (ih:∀ k ∈ c.kids,∀ (lits:List LitD) (deep:Nat),1 ≤ deep → deep ≤ 15 → lits.length + (15 - deep) ≤ 30 → (∀ l ∈ lits,Fit nums l) → C E.P 90 [av (cSig s),lv (rowsT nums),lv (rowsLit lits),av (cCase k),iv (15 - (deep:Int))] [] (Eq2 (bv (caseIs s nums k lits deep)) []))
 (lits:List LitD) (deep:Nat) (hd1:1 ≤ deep) (hd:deep ≤ 14) (hll:lits.length + (15 - deep) ≤ 30) (hf:∀ l ∈ lits,Fit nums l) (pA:isNone c.A = false) (k:c.kind = 1) :
 C E.P 90 [av (cSig s),lv (rowsT nums),lv (rowsLit lits),av (cCase c),iv (15 - (deep:Int))] [] (Eq2 (bv (caseIs s nums c lits deep)) []):=by
 have hx:=caseIs_eq s nums c lits deep
 rw [if_neg (by omega)] at hx
 have x1:¬ 15 - (deep:Int) < 1:=by omega
 have x2:15 - (deep:Int) - 1 = 15 - ((deep + 1:Nat):Int):=by omega
 have hLB:=LB_eq
 refine C_goS (nt:=268) (rs:=[.tmp 10]) hm Tryz.func90 rfl rfl rfl rfl rfl (fun hl he=>?_)
 simp -implicitDefEqProofs only [go_sem] at hl ⊢
 refine atCall [] (c_spec_l6None c.A) ?_ ?_ <;> simp -implicitDefEqProofs only [go_sem,pA]
 refine atCall [] (c_spec_WhySame c.why why0) ?_ ?_ <;> simp -implicitDefEqProofs only [go_sem]
 rw [if_pos k] at hx
 rcases Classical.em ((0:Int) < (c.times.length:Int)) with t0 | t0
 ·have t0':¬ c.times.length = 0:=by omega
  have t1:¬ c.times = []:=fun e=>by rw [e] at t0'; exact t0' rfl
  have e:caseIs s nums c lits deep = false:=by rw [hx]; simp [bare,t1]
  simp -implicitDefEqProofs only [go_sem,Z1,x1,k,t0]
  refine fin1' ?_
  simp -implicitDefEqProofs only [go_sem]
  all_goals (simp [e]; done)
 ·have e:caseIs s nums c lits deep = false:=by rw [hx]; simp [bare,pA]
  simp -implicitDefEqProofs only [go_sem,Z1,x1,k,t0]
  refine fin1' ?_
  simp -implicitDefEqProofs only [go_sem]
  all_goals (simp [e]; done)
theorem c_spec_l8Case_oneb (s:Sig) (nums:List Term) (hn4:nums.length ≤ 4) (hnt:∀ t ∈ nums,isTerm t = true) (c:Case) (ih:∀ k ∈ c.kids,∀ (lits:List LitD) (deep:Nat),1 ≤ deep → deep ≤ 15 → lits.length + (15 - deep) ≤ 30 → (∀ l ∈ lits,Fit nums l) → C E.P 90 [av (cSig s),lv (rowsT nums),lv (rowsLit lits),av (cCase k),iv (15 - (deep:Int))] [] (Eq2 (bv (caseIs s nums k lits deep)) []))
 (lits:List LitD) (deep:Nat) (hd1:1 ≤ deep) (hd:deep ≤ 14) (hll:lits.length + (15 - deep) ≤ 30) (hf:∀ l ∈ lits,Fit nums l) (pA:isNone c.A = true) (pB:isNone c.B = false) (k:c.kind = 1) :
 C E.P 90 [av (cSig s),lv (rowsT nums),lv (rowsLit lits),av (cCase c),iv (15 - (deep:Int))] [] (Eq2 (bv (caseIs s nums c lits deep)) []):=by
 have hx:=caseIs_eq s nums c lits deep
 rw [if_neg (by omega)] at hx
 have x1:¬ 15 - (deep:Int) < 1:=by omega
 have x2:15 - (deep:Int) - 1 = 15 - ((deep + 1:Nat):Int):=by omega
 have hLB:=LB_eq
 refine C_goS (nt:=268) (rs:=[.tmp 10]) hm Tryz.func90 rfl rfl rfl rfl rfl (fun hl he=>?_)
 simp -implicitDefEqProofs only [go_sem] at hl ⊢
 refine atCall [] (c_spec_l6None c.A) ?_ ?_ <;> simp -implicitDefEqProofs only [go_sem,pA]
 refine atCall [] (c_spec_l6None c.B) ?_ ?_ <;> simp -implicitDefEqProofs only [go_sem,pB]
 refine atCall [] (c_spec_WhySame c.why why0) ?_ ?_ <;> simp -implicitDefEqProofs only [go_sem]
 rw [if_pos k] at hx
 rcases Classical.em ((0:Int) < (c.times.length:Int)) with t0 | t0
 ·have t0':¬ c.times.length = 0:=by omega
  have t1:¬ c.times = []:=fun e=>by rw [e] at t0'; exact t0' rfl
  have e:caseIs s nums c lits deep = false:=by rw [hx]; simp [bare,t1]
  simp -implicitDefEqProofs only [go_sem,Z1,x1,k,t0]
  refine fin1' ?_
  simp -implicitDefEqProofs only [go_sem]
  all_goals (simp [e]; done)
 ·have e:caseIs s nums c lits deep = false:=by rw [hx]; simp [bare,pA,pB]
  simp -implicitDefEqProofs only [go_sem,Z1,x1,k,t0]
  refine fin1' ?_
  simp -implicitDefEqProofs only [go_sem]
  all_goals (simp [e]; done)
theorem c_spec_l8Case_onec (s:Sig) (nums:List Term) (hn4:nums.length ≤ 4) (hnt:∀ t ∈ nums,isTerm t = true) (c:Case) (ih:∀ k ∈ c.kids,∀ (lits:List LitD) (deep:Nat),1 ≤ deep → deep ≤ 15 → lits.length + (15 - deep) ≤ 30 → (∀ l ∈ lits,Fit nums l) → C E.P 90 [av (cSig s),lv (rowsT nums),lv (rowsLit lits),av (cCase k),iv (15 - (deep:Int))] [] (Eq2 (bv (caseIs s nums k lits deep)) []))
 (lits:List LitD) (deep:Nat) (hd1:1 ≤ deep) (hd:deep ≤ 14) (hll:lits.length + (15 - deep) ≤ 30) (hf:∀ l ∈ lits,Fit nums l) (pA:isNone c.A = true) (pB:isNone c.B = true) (k:c.kind = 1) :
 C E.P 90 [av (cSig s),lv (rowsT nums),lv (rowsLit lits),av (cCase c),iv (15 - (deep:Int))] [] (Eq2 (bv (caseIs s nums c lits deep)) []):=by
 have hx:=caseIs_eq s nums c lits deep
 rw [if_neg (by omega)] at hx
 have x1:¬ 15 - (deep:Int) < 1:=by omega
 have x2:15 - (deep:Int) - 1 = 15 - ((deep + 1:Nat):Int):=by omega
 have hLB:=LB_eq
 refine C_goS (nt:=268) (rs:=[.tmp 10]) hm Tryz.func90 rfl rfl rfl rfl rfl (fun hl he=>?_)
 simp -implicitDefEqProofs only [go_sem] at hl ⊢
 refine atCall [] (c_spec_l6None c.A) ?_ ?_ <;> simp -implicitDefEqProofs only [go_sem,pA]
 refine atCall [] (c_spec_l6None c.B) ?_ ?_ <;> simp -implicitDefEqProofs only [go_sem,pB]
 refine atCall [] (c_spec_WhySame c.why why0) ?_ ?_ <;> simp -implicitDefEqProofs only [go_sem]
 rw [if_pos k] at hx
 rcases Classical.em ((0:Int) < (c.times.length:Int)) with t0 | t0
 ·have t0':¬ c.times.length = 0:=by omega
  have t1:¬ c.times = []:=fun e=>by rw [e] at t0'; exact t0' rfl
  have e:caseIs s nums c lits deep = false:=by rw [hx]; simp [bare,t1]
  simp -implicitDefEqProofs only [go_sem,Z1,x1,k,t0]
  refine fin1' ?_
  simp -implicitDefEqProofs only [go_sem]
  all_goals (simp [e]; done)
 ·have t1:c.times = []:=List.length_eq_zero_iff.1 (by omega)
  rcases Classical.em ((c.kids.length:Int) = 0) with z | z
  ·have z':c.kids = []:=List.length_eq_zero_iff.1 (by omega)
   have kz:=eq_true z
   have eb:bare c true true false false 0 = true:=by simp [bare,pA,pB,t1,z']
   rw [eb,Bool.true_and] at hx
   rcases Classical.em (0 ≤ c.n) with n0 | n0
   ·rcases Classical.em (c.n < (lits.length:Int)) with n1 | n1
    ·have hlt:c.n.toNat < lits.length:=by omega
     have hw:within c.n 0 (lits.length - 1) = true:=withinB_iff.2 ⟨n0,by omega⟩
     rw [hw,Bool.true_and,List.getElem?_eq_getElem hlt] at hx
     simp -implicitDefEqProofs only [go_sem,Z1,x1,k,t0,kz,n0,n1]
     refine atCall [] (c_spec_l8Eqs lits (by omega)) ?_ ?_ <;> simp -implicitDefEqProofs only [go_sem]
     refine atCall [] (c_spec_WhyTells s (eqsOf lits) c.why) ?_ ?_ <;> simp -implicitDefEqProofs only [go_sem]
     with_reducible refine ind_andM (by kernel_rfl) ?_
     cases hq:whyTells s (eqsOf lits) c.why with
     | none=>
       rw [hq] at hx
       simp only at hx
       simp -implicitDefEqProofs only [go_sem,Option.isSome_none,hlt,n0]
       refine fin1' ?_
       simp -implicitDefEqProofs only [go_sem]
       all_goals (simp [hx]; done)
     | some q=>
       rw [hq] at hx
       simp only at hx
       simp -implicitDefEqProofs only [go_sem,Option.isSome_some,Option.getD_some,hlt,n0]
       cases h6:lits[c.n.toNat].no
       ·rw [h6,Bool.false_and] at hx
        simp -implicitDefEqProofs only [go_sem]
        refine fin1' ?_
        simp -implicitDefEqProofs only [go_sem]
        all_goals (simp [hx]; done)
       ·rw [h6,Bool.true_and] at hx
        rcases Classical.em (lits[c.n.toNat].atom.kind = 1) with h7 | h7
        ·have k7:=eq_true h7
         have hc1:=c_spec_TermSame q.A lits[c.n.toNat].atom.A
         have hc2:=c_spec_TermSame q.B lits[c.n.toNat].atom.B
         simp only [k7,decide_true,Bool.true_and] at hx
         simp -implicitDefEqProofs only [go_sem,k7]
         refine atCall [] hc1 ?_ ?_ <;> simp -implicitDefEqProofs only [go_sem]
         rcases Classical.em (q.A = lits[c.n.toNat].atom.A) with h8 | h8
         ·have k8:=eq_true h8
          simp only [k8,decide_true,Bool.true_and] at hx
          simp -implicitDefEqProofs only [go_sem,k8]
          refine atCall [] hc2 ?_ ?_ <;> simp -implicitDefEqProofs only [go_sem]
          refine fin1' ?_
          simp -implicitDefEqProofs only [go_sem]
          all_goals (simp [hx]; done)
         ·have k8:=eq_false h8
          simp only [k8,decide_false,Bool.false_and] at hx
          simp -implicitDefEqProofs only [go_sem,k8]
          refine fin1' ?_
          simp -implicitDefEqProofs only [go_sem]
          all_goals (simp [hx]; done)
        ·have k7:=eq_false h7
         simp only [k7,decide_false,Bool.false_and] at hx
         simp -implicitDefEqProofs only [go_sem,k7]
         refine fin1' ?_
         simp -implicitDefEqProofs only [go_sem]
         all_goals (simp [hx]; done)
    ·have hw:within c.n 0 (lits.length - 1) = false:=by simp [within]; omega
     rw [hw,Bool.false_and] at hx
     simp -implicitDefEqProofs only [go_sem,Z1,x1,k,t0,kz,n0,n1]
     refine fin1' ?_
     simp -implicitDefEqProofs only [go_sem]
     all_goals (simp [hx]; done)
   ·have hw:within c.n 0 (lits.length - 1) = false:=by simp [within]; omega
    rw [hw,Bool.false_and] at hx
    simp -implicitDefEqProofs only [go_sem,Z1,x1,k,t0,kz,n0]
    refine fin1' ?_
    simp -implicitDefEqProofs only [go_sem]
    all_goals (simp [hx]; done)
  ·have z':¬ c.kids = []:=fun e=>z (by rw [e]; rfl)
   have e:caseIs s nums c lits deep = false:=by rw [hx]; simp [bare,z']
   simp -implicitDefEqProofs only [go_sem,Z1,x1,k,t0,z]
   refine fin1' ?_
   simp -implicitDefEqProofs only [go_sem]
   all_goals (simp [e]; done)
theorem c_spec_l8Case_twoa (s:Sig) (nums:List Term) (hn4:nums.length ≤ 4) (hnt:∀ t ∈ nums,isTerm t = true) (c:Case) (ih:∀ k ∈ c.kids,∀ (lits:List LitD) (deep:Nat),1 ≤ deep → deep ≤ 15 → lits.length + (15 - deep) ≤ 30 → (∀ l ∈ lits,Fit nums l) → C E.P 90 [av (cSig s),lv (rowsT nums),lv (rowsLit lits),av (cCase k),iv (15 - (deep:Int))] [] (Eq2 (bv (caseIs s nums k lits deep)) []))
 (lits:List LitD) (deep:Nat) (hd1:1 ≤ deep) (hd:deep ≤ 14) (hll:lits.length + (15 - deep) ≤ 30) (hf:∀ l ∈ lits,Fit nums l) (pA:isNone c.A = false) (k:c.kind = 2) :
 C E.P 90 [av (cSig s),lv (rowsT nums),lv (rowsLit lits),av (cCase c),iv (15 - (deep:Int))] [] (Eq2 (bv (caseIs s nums c lits deep)) []):=by
 have hx:=caseIs_eq s nums c lits deep
 rw [if_neg (by omega)] at hx
 have x1:¬ 15 - (deep:Int) < 1:=by omega
 have x2:15 - (deep:Int) - 1 = 15 - ((deep + 1:Nat):Int):=by omega
 have hLB:=LB_eq
 refine C_goS (nt:=268) (rs:=[.tmp 10]) hm Tryz.func90 rfl rfl rfl rfl rfl (fun hl he=>?_)
 simp -implicitDefEqProofs only [go_sem] at hl ⊢
 refine atCall [] (c_spec_l6None c.A) ?_ ?_ <;> simp -implicitDefEqProofs only [go_sem,pA]
 refine atCall [] (c_spec_WhySame c.why why0) ?_ ?_ <;> simp -implicitDefEqProofs only [go_sem]
 rw [if_neg (by omega),if_pos k] at hx
 rcases Classical.em (c.n = 0) with n0 | n0
 ·have kn:=eq_true n0
  have e:caseIs s nums c lits deep = false:=by rw [hx]; simp [bare,pA]
  simp -implicitDefEqProofs only [go_sem,Z1,x1,k,kn]
  refine fin1' ?_
  simp -implicitDefEqProofs only [go_sem]
  all_goals (simp [e]; done)
 ·have e:caseIs s nums c lits deep = false:=by rw [hx]; simp [bare,n0]
  simp -implicitDefEqProofs only [go_sem,Z1,x1,k,n0]
  refine fin1' ?_
  simp -implicitDefEqProofs only [go_sem]
  all_goals (simp [e]; done)
theorem c_spec_l8Case_twob (s:Sig) (nums:List Term) (hn4:nums.length ≤ 4) (hnt:∀ t ∈ nums,isTerm t = true) (c:Case) (ih:∀ k ∈ c.kids,∀ (lits:List LitD) (deep:Nat),1 ≤ deep → deep ≤ 15 → lits.length + (15 - deep) ≤ 30 → (∀ l ∈ lits,Fit nums l) → C E.P 90 [av (cSig s),lv (rowsT nums),lv (rowsLit lits),av (cCase k),iv (15 - (deep:Int))] [] (Eq2 (bv (caseIs s nums k lits deep)) []))
 (lits:List LitD) (deep:Nat) (hd1:1 ≤ deep) (hd:deep ≤ 14) (hll:lits.length + (15 - deep) ≤ 30) (hf:∀ l ∈ lits,Fit nums l) (pA:isNone c.A = true) (pB:isNone c.B = false) (k:c.kind = 2) :
 C E.P 90 [av (cSig s),lv (rowsT nums),lv (rowsLit lits),av (cCase c),iv (15 - (deep:Int))] [] (Eq2 (bv (caseIs s nums c lits deep)) []):=by
 have hx:=caseIs_eq s nums c lits deep
 rw [if_neg (by omega)] at hx
 have x1:¬ 15 - (deep:Int) < 1:=by omega
 have x2:15 - (deep:Int) - 1 = 15 - ((deep + 1:Nat):Int):=by omega
 have hLB:=LB_eq
 refine C_goS (nt:=268) (rs:=[.tmp 10]) hm Tryz.func90 rfl rfl rfl rfl rfl (fun hl he=>?_)
 simp -implicitDefEqProofs only [go_sem] at hl ⊢
 refine atCall [] (c_spec_l6None c.A) ?_ ?_ <;> simp -implicitDefEqProofs only [go_sem,pA]
 refine atCall [] (c_spec_l6None c.B) ?_ ?_ <;> simp -implicitDefEqProofs only [go_sem,pB]
 refine atCall [] (c_spec_WhySame c.why why0) ?_ ?_ <;> simp -implicitDefEqProofs only [go_sem]
 rw [if_neg (by omega),if_pos k] at hx
 rcases Classical.em (c.n = 0) with n0 | n0
 ·have kn:=eq_true n0
  have e:caseIs s nums c lits deep = false:=by rw [hx]; simp [bare,pA,pB]
  simp -implicitDefEqProofs only [go_sem,Z1,x1,k,kn]
  refine fin1' ?_
  simp -implicitDefEqProofs only [go_sem]
  all_goals (simp [e]; done)
 ·have e:caseIs s nums c lits deep = false:=by rw [hx]; simp [bare,n0]
  simp -implicitDefEqProofs only [go_sem,Z1,x1,k,n0]
  refine fin1' ?_
  simp -implicitDefEqProofs only [go_sem]
  all_goals (simp [e]; done)
theorem c_spec_l8Case_twoc (s:Sig) (nums:List Term) (hn4:nums.length ≤ 4) (hnt:∀ t ∈ nums,isTerm t = true) (c:Case) (ih:∀ k ∈ c.kids,∀ (lits:List LitD) (deep:Nat),1 ≤ deep → deep ≤ 15 → lits.length + (15 - deep) ≤ 30 → (∀ l ∈ lits,Fit nums l) → C E.P 90 [av (cSig s),lv (rowsT nums),lv (rowsLit lits),av (cCase k),iv (15 - (deep:Int))] [] (Eq2 (bv (caseIs s nums k lits deep)) []))
 (lits:List LitD) (deep:Nat) (hd1:1 ≤ deep) (hd:deep ≤ 14) (hll:lits.length + (15 - deep) ≤ 30) (hf:∀ l ∈ lits,Fit nums l) (pA:isNone c.A = true) (pB:isNone c.B = true) (k:c.kind = 2) :
 C E.P 90 [av (cSig s),lv (rowsT nums),lv (rowsLit lits),av (cCase c),iv (15 - (deep:Int))] [] (Eq2 (bv (caseIs s nums c lits deep)) []):=by
 have hx:=caseIs_eq s nums c lits deep
 rw [if_neg (by omega)] at hx
 have x1:¬ 15 - (deep:Int) < 1:=by omega
 have x2:15 - (deep:Int) - 1 = 15 - ((deep + 1:Nat):Int):=by omega
 have hLB:=LB_eq
 refine C_goS (nt:=268) (rs:=[.tmp 10]) hm Tryz.func90 rfl rfl rfl rfl rfl (fun hl he=>?_)
 simp -implicitDefEqProofs only [go_sem] at hl ⊢
 refine atCall [] (c_spec_l6None c.A) ?_ ?_ <;> simp -implicitDefEqProofs only [go_sem,pA]
 refine atCall [] (c_spec_l6None c.B) ?_ ?_ <;> simp -implicitDefEqProofs only [go_sem,pB]
 refine atCall [] (c_spec_WhySame c.why why0) ?_ ?_ <;> simp -implicitDefEqProofs only [go_sem]
 rw [if_neg (by omega),if_pos k] at hx
 rcases Classical.em (c.n = 0) with n0 | n0
 ·have kn:=eq_true n0
  rcases Classical.em (c.why = why0) with hw | hw
  ·have kw:=eq_true hw
   rcases Classical.em ((c.kids.length:Int) = 0) with z | z
   ·have z':c.kids = []:=List.length_eq_zero_iff.1 (by omega)
    have kz:=eq_true z
    have eb:bare c false false true false 0 = true:=by simp [bare,pA,pB,n0,hw,z']
    rw [eb,Bool.true_and] at hx
    simp -implicitDefEqProofs only [go_sem,Z1,x1,k,kn,kw,kz]
    refine atCall [] (c_spec_l8Lins nums lits hn4 (by omega) hf) ?_ ?_ <;> simp -implicitDefEqProofs only [go_sem]
    refine atCall [] (c_spec_FarOk (linsOf nums lits) c.times) ?_ ?_ <;> simp -implicitDefEqProofs only [go_sem]
    with_reducible refine ind_andM (by kernel_rfl) ?_
    refine fin1' ?_
    simp -implicitDefEqProofs only [go_sem]
    all_goals (simp [hx]; done)
   ·have z':¬ c.kids = []:=fun e=>z (by rw [e]; rfl)
    have e:caseIs s nums c lits deep = false:=by rw [hx]; simp [bare,z']
    simp -implicitDefEqProofs only [go_sem,Z1,x1,k,kn,kw,z]
    refine fin1' ?_
    simp -implicitDefEqProofs only [go_sem]
    all_goals (simp [e]; done)
  ·have kw:=eq_false hw
   have e:caseIs s nums c lits deep = false:=by rw [hx]; simp [bare,hw]
   simp -implicitDefEqProofs only [go_sem,Z1,x1,k,kn,kw]
   refine fin1' ?_
   simp -implicitDefEqProofs only [go_sem]
   all_goals (simp [e]; done)
 ·have e:caseIs s nums c lits deep = false:=by rw [hx]; simp [bare,n0]
  simp -implicitDefEqProofs only [go_sem,Z1,x1,k,n0]
  refine fin1' ?_
  simp -implicitDefEqProofs only [go_sem]
  all_goals (simp [e]; done)
end Go.Proofs.YtlddcknkojieeaaGreat
