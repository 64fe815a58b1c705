/-
  The reference's CaseOk, whole. A step towards the exact law.
-/
import Derived.Test.YtlddcknkojieeaaGreatKPUa
import Derived.Test.YtlddcknkojieeaaGreatKPUb
import Derived.Test.YtlddcknkojieeaaGreatKPUc
set_option linter.unusedVariables false
set_option linter.unusedSimpArgs false
namespace Go.Proofs.YtlddcknkojieeaaGreat
open Go.Eng Go.Mod
open Int renaming reduceEq → Z1,reduceLT → Z2,reduceLE → Z3,reduceToNat → Z4
set_option maxRecDepth 100000
set_option maxHeartbeats 400000
theorem c_spec_l8Case1 (s:Sig) (nums:List Term) (hn4:nums.length ≤ 4) (hnt:∀ t ∈ nums,isTerm t = true) (c:Case) (ih:∀ k ∈ c.kids,∀ (lits:List LitD) (deep:Nat),1 ≤ deep → deep ≤ 15 → lits.length + (15 - deep) ≤ 30 → (∀ l ∈ lits,Fit nums l) → C E.P 90 [av (cSig s),lv (rowsT nums),lv (rowsLit lits),av (cCase k),iv (15 - (deep:Int))] [] (Eq2 (bv (caseIs s nums k lits deep)) []))
 (lits:List LitD) (deep:Nat) (hd1:1 ≤ deep) (hd:deep ≤ 15) (hll:lits.length + (15 - deep) ≤ 30) (hf:∀ l ∈ lits,Fit nums l) :
 C E.P 90 [av (cSig s),lv (rowsT nums),lv (rowsLit lits),av (cCase c),iv (15 - (deep:Int))] [] (Eq2 (bv (caseIs s nums c lits deep)) []):=by
 rcases Classical.em (deep = 15) with h15 | h15
 ·subst h15
  have hx:=caseIs_eq s nums c lits 15
  rw [if_pos (by omega)] at hx
  cases pA:isNone c.A
  ·have hLB:=LB_eq
   refine C_goS (nt:=268) (rs:=[.tmp 10]) hm Tryz.func90 rfl rfl rfl rfl rfl (fun hl he=>?_)
   simp -implicitDefEqProofs only [go_sem] at hl ⊢
   refine atCall [] (c_spec_l6None c.A) ?_ ?_ <;> simp -implicitDefEqProofs only [go_sem,pA]
   refine atCall [] (c_spec_WhySame c.why why0) ?_ ?_ <;> simp -implicitDefEqProofs only [go_sem,Z2,Int.reduceSub]
   refine fin1' ?_
   simp -implicitDefEqProofs only [go_sem]
   all_goals (simp [hx]; done)
  ·cases pB:isNone c.B
   ·have hLB:=LB_eq
    refine C_goS (nt:=268) (rs:=[.tmp 10]) hm Tryz.func90 rfl rfl rfl rfl rfl (fun hl he=>?_)
    simp -implicitDefEqProofs only [go_sem] at hl ⊢
    refine atCall [] (c_spec_l6None c.A) ?_ ?_ <;> simp -implicitDefEqProofs only [go_sem,pA]
    refine atCall [] (c_spec_l6None c.B) ?_ ?_ <;> simp -implicitDefEqProofs only [go_sem,pB]
    refine atCall [] (c_spec_WhySame c.why why0) ?_ ?_ <;> simp -implicitDefEqProofs only [go_sem,Z2,Int.reduceSub]
    refine fin1' ?_
    simp -implicitDefEqProofs only [go_sem]
    all_goals (simp [hx]; done)
   ·have hLB:=LB_eq
    refine C_goS (nt:=268) (rs:=[.tmp 10]) hm Tryz.func90 rfl rfl rfl rfl rfl (fun hl he=>?_)
    simp -implicitDefEqProofs only [go_sem] at hl ⊢
    refine atCall [] (c_spec_l6None c.A) ?_ ?_ <;> simp -implicitDefEqProofs only [go_sem,pA]
    refine atCall [] (c_spec_l6None c.B) ?_ ?_ <;> simp -implicitDefEqProofs only [go_sem,pB]
    refine atCall [] (c_spec_WhySame c.why why0) ?_ ?_ <;> simp -implicitDefEqProofs only [go_sem,Z2,Int.reduceSub]
    refine fin1' ?_
    simp -implicitDefEqProofs only [go_sem]
    all_goals (simp [hx]; done)
 ·have hd':deep ≤ 14:=by omega
  rcases Classical.em (c.kind = 1) with k1 | k1
  ·cases pA:isNone c.A
   ·exact c_spec_l8Case_onea s nums hn4 hnt c ih lits deep hd1 hd' hll hf pA k1
   ·cases pB:isNone c.B
    ·exact c_spec_l8Case_oneb s nums hn4 hnt c ih lits deep hd1 hd' hll hf pA pB k1
    ·exact c_spec_l8Case_onec s nums hn4 hnt c ih lits deep hd1 hd' hll hf pA pB k1
  rcases Classical.em (c.kind = 2) with k2 | k2
  ·cases pA:isNone c.A
   ·exact c_spec_l8Case_twoa s nums hn4 hnt c ih lits deep hd1 hd' hll hf pA k2
   ·cases pB:isNone c.B
    ·exact c_spec_l8Case_twob s nums hn4 hnt c ih lits deep hd1 hd' hll hf pA pB k2
    ·exact c_spec_l8Case_twoc s nums hn4 hnt c ih lits deep hd1 hd' hll hf pA pB k2
  rcases Classical.em (c.kind = 3) with k3 | k3
  ·cases pA:isNone c.A
   ·exact c_spec_l8Case_threea s nums hn4 hnt c ih lits deep hd1 hd' hll hf pA k3
   ·cases pB:isNone c.B
    ·exact c_spec_l8Case_threeb s nums hn4 hnt c ih lits deep hd1 hd' hll hf pA pB k3
    ·exact c_spec_l8Case_threec s nums hn4 hnt c ih lits deep hd1 hd' hll hf pA pB k3
  rcases Classical.em (c.kind = 4) with k4 | k4
  ·cases pA:isNone c.A
   ·exact c_spec_l8Case_foura s nums hn4 hnt c ih lits deep hd1 hd' hll hf pA k4
   ·cases pB:isNone c.B
    ·exact c_spec_l8Case_fourb s nums hn4 hnt c ih lits deep hd1 hd' hll hf pA pB k4
    ·exact c_spec_l8Case_fourc s nums hn4 hnt c ih lits deep hd1 hd' hll hf pA pB k4
  ·cases pA:isNone c.A
   ·exact c_spec_l8Case_othera s nums hn4 hnt c ih lits deep hd1 hd' hll hf pA k1 k2 k3 k4
   ·cases pB:isNone c.B
    ·exact c_spec_l8Case_otherb s nums hn4 hnt c ih lits deep hd1 hd' hll hf pA pB k1 k2 k3 k4
    ·exact c_spec_l8Case_otherc s nums hn4 hnt c ih lits deep hd1 hd' hll hf pA pB k1 k2 k3 k4
theorem c_spec_l8Case (s:Sig) (nums:List Term) (hn4:nums.length ≤ 4) (hnt:∀ t ∈ nums,isTerm t = true):∀ (c:Case) (lits:List LitD) (deep:Nat),1 ≤ deep → deep ≤ 15 → lits.length + (15 - deep) ≤ 30 → (∀ l ∈ lits,Fit nums l) → C E.P 90 [av (cSig s),lv (rowsT nums),lv (rowsLit lits),av (cCase c),iv (15 - (deep:Int))] [] (Eq2 (bv (caseIs s nums c lits deep)) []):=
 Case.ind fun k n w ts a b ks ih lits deep h1 h2 h3 h4=>c_spec_l8Case1 s nums hn4 hnt (.mk k n w ts a b ks) ih lits deep h1 h2 h3 h4
theorem c_spec_CaseOk (s:Sig) (lits:List LitD) (c:Case):C E.P 54 [av (cSig s),lv (rowsLit lits),av (cCase c)] [] (Eq2 (bv (caseOk s lits c)) []):=by
 have hLB:=LB_eq
 refine C_goS (nt:=20) (rs:=[.tmp 6]) hm Tryz.func54 rfl rfl rfl rfl rfl (fun hl he=>?_)
 simp -implicitDefEqProofs only [go_sem] at hl ⊢
 refine atCall [] (c_spec_BothOk s lits) ?_ ?_ <;> simp -implicitDefEqProofs only [go_sem]
 cases h:bothOk s lits
 ·simp -implicitDefEqProofs only [go_sem]
  with_reducible refine ind_andM (by kernel_rfl) ?_
  refine fin1' ?_
  simp -implicitDefEqProofs only [go_sem]
  all_goals (simp [caseOk,h]; done)
 ·obtain ⟨hf,ht,h4,h6,hs,hw,htt,h24⟩:=fit_both h
  have e:numsOf s lits = (termsOf lits).filter (isNumber s):=rfl
  have hc:=c_spec_l8Case s (numsOf s lits) h4 ht c lits 1 (by omega) (by omega) (by omega) hf
  rw [e] at hc
  simp -implicitDefEqProofs only [go_sem]
  refine atCall [] (c_spec_l8Terms lits (by omega) hw) ?_ ?_ <;> simp -implicitDefEqProofs only [go_sem]
  refine atCall [] (c_spec_l8Nums s (termsOf lits) hs htt (by omega)) ?_ ?_ <;> simp -implicitDefEqProofs only [go_sem]
  refine atCall [] hc ?_ ?_ <;> simp -implicitDefEqProofs only [go_sem,Int.reduceSub,natCast_lit]
  with_reducible refine ind_andM (by kernel_rfl) ?_
  refine fin1' ?_
  simp -implicitDefEqProofs only [go_sem]
  rw [caseOk,h,e]
  simp
end Go.Proofs.YtlddcknkojieeaaGreat
