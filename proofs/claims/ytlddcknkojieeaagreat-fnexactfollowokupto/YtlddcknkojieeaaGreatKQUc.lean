/-
  The reference: the walk of certificates, the rest. A step towards the exact laws.
-/
import Derived.Test.YtlddcknkojieeaaGreatKQT
import Derived.Test.YtlddcknkojieeaaGreatKQE
set_option linter.unusedVariables false
set_option linter.unusedSimpArgs false
namespace Go.Proofs.YtlddcknkojieeaaGreat
open Go.Eng Go.Mod
open Int renaming reduceEq → Z1,reduceLT → Z2,reduceLE → Z3,reduceToNat → Z4
set_option maxRecDepth 100000
set_option maxHeartbeats 400000
theorem c_spec_l8Case_foura (s:Sig) (nums:List Term) (hn4:nums.length ≤ 4) (hnt:∀ t ∈ nums,isTerm t = true) (c:Case) (ih:∀ k ∈ c.kids,∀ (lits:List LitD) (deep:Nat),1 ≤ deep → deep ≤ 15 → lits.length + (15 - deep) ≤ 30 → (∀ l ∈ lits,Fit nums l) → C E.P 90 [av (cSig s),lv (rowsT nums),lv (rowsLit lits),av (cCase k),iv (15 - (deep:Int))] [] (Eq2 (bv (caseIs s nums k lits deep)) []))
 (lits:List LitD) (deep:Nat) (hd1:1 ≤ deep) (hd:deep ≤ 14) (hll:lits.length + (15 - deep) ≤ 30) (hf:∀ l ∈ lits,Fit nums l) (pA:isNone c.A = false) (k:c.kind = 4) :
 C E.P 90 [av (cSig s),lv (rowsT nums),lv (rowsLit lits),av (cCase c),iv (15 - (deep:Int))] [] (Eq2 (bv (caseIs s nums c lits deep)) []):=by
 have hx:=caseIs_eq s nums c lits deep
 rw [if_neg (by omega)] at hx
 have x1:¬ 15 - (deep:Int) < 1:=by omega
 have x2:15 - (deep:Int) - 1 = 15 - ((deep + 1:Nat):Int):=by omega
 have hLB:=LB_eq
 refine C_goS (nt:=268) (rs:=[.tmp 10]) hm Tryz.func90 rfl rfl rfl rfl rfl (fun hl he=>?_)
 simp -implicitDefEqProofs only [go_sem] at hl ⊢
 refine atCall [] (c_spec_l6None c.A) ?_ ?_ <;> simp -implicitDefEqProofs only [go_sem,pA]
 refine atCall [] (c_spec_WhySame c.why why0) ?_ ?_ <;> simp -implicitDefEqProofs only [go_sem]
 rw [if_neg (by omega),if_neg (by omega),if_neg (by omega),if_pos k] at hx
 rcases Classical.em (c.n = 0) with n0 | n0
 ·have kn:=eq_true n0
  rcases Classical.em ((0:Int) < (c.times.length:Int)) with t0 | t0
  ·have t0':¬ c.times.length = 0:=by omega
   have t1:¬ c.times = []:=fun e=>by rw [e] at t0'; exact t0' rfl
   have e:caseIs s nums c lits deep = false:=by rw [hx]; simp [bare,t1]
   simp -implicitDefEqProofs only [go_sem,Z1,x1,k,kn,t0]
   refine fin1' ?_
   simp -implicitDefEqProofs only [go_sem]
   all_goals (simp [e]; done)
  ·have t1:c.times = []:=List.length_eq_zero_iff.1 (by omega)
   rcases Classical.em (c.why = why0) with hw | hw
   ·have kw:=eq_true hw
    rcases Classical.em ((c.kids.length:Int) = 3) with z | z
    ·have z':c.kids.length = 3:=by omega
     have z0:0 < c.kids.length:=by omega
     have z1:1 < c.kids.length:=by omega
     have z2:2 < c.kids.length:=by omega
     have kz:=eq_true z
     have eb:bare c false false false true 3 = true:=by simp [bare,n0,t1,hw,z']
     rw [eb,Bool.true_and] at hx
     simp -implicitDefEqProofs only [go_sem,Z1,x1,k,kn,t0,kw,kz]
     refine atCall [] (c_spec_l8Pair nums c.A c.B) ?_ ?_ <;> simp -implicitDefEqProofs only [go_sem]
     cases h8:Mod.differ nums c.A c.B
     ·rw [h8,Bool.false_and] at hx
      simp -implicitDefEqProofs only [go_sem]
      refine fin1' ?_
      simp -implicitDefEqProofs only [go_sem]
      all_goals (simp [hx]; done)
     ·have hdf:=differ_iff.1 h8
      have tA:=hnt _ hdf.1
      have tB:=hnt _ hdf.2.1
      have fe:=fun (x:LitD) (fx:Fit nums x) (l:LitD) (hl:l ∈ lits ++ [x])=>show Fit nums l by
       rcases List.mem_append.1 hl with hl | hl
       ·exact hf l hl
       ·simp only [List.mem_cons,List.not_mem_nil,or_false] at hl
        rw [hl]
        exact fx
      have i0:=ih c.kids[0] (List.getElem_mem z0) (lits ++ [eqLit c.A c.B]) (deep + 1) (by omega) (by omega) (by simp; omega) (fe _ (fit_eq hdf.1 hdf.2.1 tA tB))
      have i1:=ih c.kids[1] (List.getElem_mem z1) (lits ++ [lessLit c.A c.B]) (deep + 1) (by omega) (by omega) (by simp; omega) (fe _ (fit_less hdf.1 hdf.2.1 tA tB hdf.2.2))
      have i2:=ih c.kids[2] (List.getElem_mem z2) (lits ++ [lessLit c.B c.A]) (deep + 1) (by omega) (by omega) (by simp; omega) (fe _ (fit_less hdf.2.1 hdf.1 tB tA (Ne.symm hdf.2.2)))
      clear fe
      rw [h8,Bool.true_and,parted,List.map_cons,List.map_cons,List.map_cons,List.map_nil,caseIss_3 s nums c.kids[0] c.kids[1] c.kids[2] c.kids _ _ _ _ (list_3 z' z0 z1 z2)] at hx
      simp -implicitDefEqProofs only [go_sem]
      refine atCall [] (c_spec_l8One c.A c.B) ?_ ?_ <;> simp -implicitDefEqProofs only [go_sem]
      refine atCall [] (c_spec_l8With lits (eqLit c.A c.B) (by omega)) ?_ ?_ <;> simp -implicitDefEqProofs only [go_sem,z0,x2]
      repeat (with_reducible apply And.intro; case left=>omega)
      refine atCall [] i0 ?_ ?_ <;> simp -implicitDefEqProofs only [go_sem]
      with_reducible refine ind_andM (by kernel_rfl) ?_
      cases q0:caseIs s nums c.kids[0] (lits ++ [eqLit c.A c.B]) (deep + 1)
      ·rw [q0,Bool.false_and] at hx
       simp -implicitDefEqProofs only [go_sem]
       with_reducible refine ind_andM (by kernel_rfl) ?_
       refine fin1' ?_
       simp -implicitDefEqProofs only [go_sem]
       all_goals (simp [hx]; done)
      ·rw [q0,Bool.true_and] at hx
       simp -implicitDefEqProofs only [go_sem]
       refine atCall [] (c_spec_l8Less c.A c.B tA tB hdf.2.2) ?_ ?_ <;> simp -implicitDefEqProofs only [go_sem]
       refine atCall [] (c_spec_l8With lits (lessLit c.A c.B) (by omega)) ?_ ?_ <;> simp -implicitDefEqProofs only [go_sem,Z3,Z4,z1,x2]
       repeat (with_reducible apply And.intro; case left=>omega)
       refine atCall [] i1 ?_ ?_ <;> simp -implicitDefEqProofs only [go_sem]
       cases q1:caseIs s nums c.kids[1] (lits ++ [lessLit c.A c.B]) (deep + 1)
       ·rw [q1,Bool.false_and] at hx
        simp -implicitDefEqProofs only [go_sem]
        with_reducible refine ind_andM (by kernel_rfl) ?_
        refine fin1' ?_
        simp -implicitDefEqProofs only [go_sem]
        all_goals (simp [hx]; done)
       ·rw [q1,Bool.true_and] at hx
        simp -implicitDefEqProofs only [go_sem]
        refine atCall [] (c_spec_l8Less c.B c.A tB tA (Ne.symm hdf.2.2)) ?_ ?_ <;> simp -implicitDefEqProofs only [go_sem]
        refine atCall [] (c_spec_l8With lits (lessLit c.B c.A) (by omega)) ?_ ?_ <;> simp -implicitDefEqProofs only [go_sem,Z3,Z4,z2,x2]
        repeat (with_reducible apply And.intro; case left=>omega)
        refine atCall [] i2 ?_ ?_ <;> simp -implicitDefEqProofs only [go_sem]
        with_reducible refine ind_andM (by kernel_rfl) ?_
        refine fin1' ?_
        simp -implicitDefEqProofs only [go_sem]
        all_goals (simp [hx]; done)
    ·have z':¬ c.kids.length = 3:=by omega
     have e:caseIs s nums c lits deep = false:=by rw [hx]; simp [bare,z']
     simp -implicitDefEqProofs only [go_sem,Z1,x1,k,kn,t0,kw,z]
     refine fin1' ?_
     simp -implicitDefEqProofs only [go_sem]
     all_goals (simp [e]; done)
   ·have kw:=eq_false hw
    have e:caseIs s nums c lits deep = false:=by rw [hx]; simp [bare,hw]
    simp -implicitDefEqProofs only [go_sem,Z1,x1,k,kn,t0,kw]
    refine fin1' ?_
    simp -implicitDefEqProofs only [go_sem]
    all_goals (simp [e]; done)
 ·have e:caseIs s nums c lits deep = false:=by rw [hx]; simp [bare,n0]
  simp -implicitDefEqProofs only [go_sem,Z1,x1,k,n0]
  refine fin1' ?_
  simp -implicitDefEqProofs only [go_sem]
  all_goals (simp [e]; done)
theorem c_spec_l8Case_fourb (s:Sig) (nums:List Term) (hn4:nums.length ≤ 4) (hnt:∀ t ∈ nums,isTerm t = true) (c:Case) (ih:∀ k ∈ c.kids,∀ (lits:List LitD) (deep:Nat),1 ≤ deep → deep ≤ 15 → lits.length + (15 - deep) ≤ 30 → (∀ l ∈ lits,Fit nums l) → C E.P 90 [av (cSig s),lv (rowsT nums),lv (rowsLit lits),av (cCase k),iv (15 - (deep:Int))] [] (Eq2 (bv (caseIs s nums k lits deep)) []))
 (lits:List LitD) (deep:Nat) (hd1:1 ≤ deep) (hd:deep ≤ 14) (hll:lits.length + (15 - deep) ≤ 30) (hf:∀ l ∈ lits,Fit nums l) (pA:isNone c.A = true) (pB:isNone c.B = false) (k:c.kind = 4) :
 C E.P 90 [av (cSig s),lv (rowsT nums),lv (rowsLit lits),av (cCase c),iv (15 - (deep:Int))] [] (Eq2 (bv (caseIs s nums c lits deep)) []):=by
 have hx:=caseIs_eq s nums c lits deep
 rw [if_neg (by omega)] at hx
 have x1:¬ 15 - (deep:Int) < 1:=by omega
 have x2:15 - (deep:Int) - 1 = 15 - ((deep + 1:Nat):Int):=by omega
 have hLB:=LB_eq
 refine C_goS (nt:=268) (rs:=[.tmp 10]) hm Tryz.func90 rfl rfl rfl rfl rfl (fun hl he=>?_)
 simp -implicitDefEqProofs only [go_sem] at hl ⊢
 refine atCall [] (c_spec_l6None c.A) ?_ ?_ <;> simp -implicitDefEqProofs only [go_sem,pA]
 refine atCall [] (c_spec_l6None c.B) ?_ ?_ <;> simp -implicitDefEqProofs only [go_sem,pB]
 refine atCall [] (c_spec_WhySame c.why why0) ?_ ?_ <;> simp -implicitDefEqProofs only [go_sem]
 rw [if_neg (by omega),if_neg (by omega),if_neg (by omega),if_pos k] at hx
 rcases Classical.em (c.n = 0) with n0 | n0
 ·have kn:=eq_true n0
  rcases Classical.em ((0:Int) < (c.times.length:Int)) with t0 | t0
  ·have t0':¬ c.times.length = 0:=by omega
   have t1:¬ c.times = []:=fun e=>by rw [e] at t0'; exact t0' rfl
   have e:caseIs s nums c lits deep = false:=by rw [hx]; simp [bare,t1]
   simp -implicitDefEqProofs only [go_sem,Z1,x1,k,kn,t0]
   refine fin1' ?_
   simp -implicitDefEqProofs only [go_sem]
   all_goals (simp [e]; done)
  ·have t1:c.times = []:=List.length_eq_zero_iff.1 (by omega)
   rcases Classical.em (c.why = why0) with hw | hw
   ·have kw:=eq_true hw
    rcases Classical.em ((c.kids.length:Int) = 3) with z | z
    ·have z':c.kids.length = 3:=by omega
     have z0:0 < c.kids.length:=by omega
     have z1:1 < c.kids.length:=by omega
     have z2:2 < c.kids.length:=by omega
     have kz:=eq_true z
     have eb:bare c false false false true 3 = true:=by simp [bare,n0,t1,hw,z']
     rw [eb,Bool.true_and] at hx
     simp -implicitDefEqProofs only [go_sem,Z1,x1,k,kn,t0,kw,kz]
     refine atCall [] (c_spec_l8Pair nums c.A c.B) ?_ ?_ <;> simp -implicitDefEqProofs only [go_sem]
     cases h8:Mod.differ nums c.A c.B
     ·rw [h8,Bool.false_and] at hx
      simp -implicitDefEqProofs only [go_sem]
      refine fin1' ?_
      simp -implicitDefEqProofs only [go_sem]
      all_goals (simp [hx]; done)
     ·have hdf:=differ_iff.1 h8
      have tA:=hnt _ hdf.1
      have tB:=hnt _ hdf.2.1
      have fe:=fun (x:LitD) (fx:Fit nums x) (l:LitD) (hl:l ∈ lits ++ [x])=>show Fit nums l by
       rcases List.mem_append.1 hl with hl | hl
       ·exact hf l hl
       ·simp only [List.mem_cons,List.not_mem_nil,or_false] at hl
        rw [hl]
        exact fx
      have i0:=ih c.kids[0] (List.getElem_mem z0) (lits ++ [eqLit c.A c.B]) (deep + 1) (by omega) (by omega) (by simp; omega) (fe _ (fit_eq hdf.1 hdf.2.1 tA tB))
      have i1:=ih c.kids[1] (List.getElem_mem z1) (lits ++ [lessLit c.A c.B]) (deep + 1) (by omega) (by omega) (by simp; omega) (fe _ (fit_less hdf.1 hdf.2.1 tA tB hdf.2.2))
      have i2:=ih c.kids[2] (List.getElem_mem z2) (lits ++ [lessLit c.B c.A]) (deep + 1) (by omega) (by omega) (by simp; omega) (fe _ (fit_less hdf.2.1 hdf.1 tB tA (Ne.symm hdf.2.2)))
      clear fe
      rw [h8,Bool.true_and,parted,List.map_cons,List.map_cons,List.map_cons,List.map_nil,caseIss_3 s nums c.kids[0] c.kids[1] c.kids[2] c.kids _ _ _ _ (list_3 z' z0 z1 z2)] at hx
      simp -implicitDefEqProofs only [go_sem]
      refine atCall [] (c_spec_l8One c.A c.B) ?_ ?_ <;> simp -implicitDefEqProofs only [go_sem]
      refine atCall [] (c_spec_l8With lits (eqLit c.A c.B) (by omega)) ?_ ?_ <;> simp -implicitDefEqProofs only [go_sem,z0,x2]
      repeat (with_reducible apply And.intro; case left=>omega)
      refine atCall [] i0 ?_ ?_ <;> simp -implicitDefEqProofs only [go_sem]
      with_reducible refine ind_andM (by kernel_rfl) ?_
      cases q0:caseIs s nums c.kids[0] (lits ++ [eqLit c.A c.B]) (deep + 1)
      ·rw [q0,Bool.false_and] at hx
       simp -implicitDefEqProofs only [go_sem]
       with_reducible refine ind_andM (by kernel_rfl) ?_
       refine fin1' ?_
       simp -implicitDefEqProofs only [go_sem]
       all_goals (simp [hx]; done)
      ·rw [q0,Bool.true_and] at hx
       simp -implicitDefEqProofs only [go_sem]
       refine atCall [] (c_spec_l8Less c.A c.B tA tB hdf.2.2) ?_ ?_ <;> simp -implicitDefEqProofs only [go_sem]
       refine atCall [] (c_spec_l8With lits (lessLit c.A c.B) (by omega)) ?_ ?_ <;> simp -implicitDefEqProofs only [go_sem,Z3,Z4,z1,x2]
       repeat (with_reducible apply And.intro; case left=>omega)
       refine atCall [] i1 ?_ ?_ <;> simp -implicitDefEqProofs only [go_sem]
       cases q1:caseIs s nums c.kids[1] (lits ++ [lessLit c.A c.B]) (deep + 1)
       ·rw [q1,Bool.false_and] at hx
        simp -implicitDefEqProofs only [go_sem]
        with_reducible refine ind_andM (by kernel_rfl) ?_
        refine fin1' ?_
        simp -implicitDefEqProofs only [go_sem]
        all_goals (simp [hx]; done)
       ·rw [q1,Bool.true_and] at hx
        simp -implicitDefEqProofs only [go_sem]
        refine atCall [] (c_spec_l8Less c.B c.A tB tA (Ne.symm hdf.2.2)) ?_ ?_ <;> simp -implicitDefEqProofs only [go_sem]
        refine atCall [] (c_spec_l8With lits (lessLit c.B c.A) (by omega)) ?_ ?_ <;> simp -implicitDefEqProofs only [go_sem,Z3,Z4,z2,x2]
        repeat (with_reducible apply And.intro; case left=>omega)
        refine atCall [] i2 ?_ ?_ <;> simp -implicitDefEqProofs only [go_sem]
        with_reducible refine ind_andM (by kernel_rfl) ?_
        refine fin1' ?_
        simp -implicitDefEqProofs only [go_sem]
        all_goals (simp [hx]; done)
    ·have z':¬ c.kids.length = 3:=by omega
     have e:caseIs s nums c lits deep = false:=by rw [hx]; simp [bare,z']
     simp -implicitDefEqProofs only [go_sem,Z1,x1,k,kn,t0,kw,z]
     refine fin1' ?_
     simp -implicitDefEqProofs only [go_sem]
     all_goals (simp [e]; done)
   ·have kw:=eq_false hw
    have e:caseIs s nums c lits deep = false:=by rw [hx]; simp [bare,hw]
    simp -implicitDefEqProofs only [go_sem,Z1,x1,k,kn,t0,kw]
    refine fin1' ?_
    simp -implicitDefEqProofs only [go_sem]
    all_goals (simp [e]; done)
 ·have e:caseIs s nums c lits deep = false:=by rw [hx]; simp [bare,n0]
  simp -implicitDefEqProofs only [go_sem,Z1,x1,k,n0]
  refine fin1' ?_
  simp -implicitDefEqProofs only [go_sem]
  all_goals (simp [e]; done)
theorem c_spec_l8Case_fourc (s:Sig) (nums:List Term) (hn4:nums.length ≤ 4) (hnt:∀ t ∈ nums,isTerm t = true) (c:Case) (ih:∀ k ∈ c.kids,∀ (lits:List LitD) (deep:Nat),1 ≤ deep → deep ≤ 15 → lits.length + (15 - deep) ≤ 30 → (∀ l ∈ lits,Fit nums l) → C E.P 90 [av (cSig s),lv (rowsT nums),lv (rowsLit lits),av (cCase k),iv (15 - (deep:Int))] [] (Eq2 (bv (caseIs s nums k lits deep)) []))
 (lits:List LitD) (deep:Nat) (hd1:1 ≤ deep) (hd:deep ≤ 14) (hll:lits.length + (15 - deep) ≤ 30) (hf:∀ l ∈ lits,Fit nums l) (pA:isNone c.A = true) (pB:isNone c.B = true) (k:c.kind = 4) :
 C E.P 90 [av (cSig s),lv (rowsT nums),lv (rowsLit lits),av (cCase c),iv (15 - (deep:Int))] [] (Eq2 (bv (caseIs s nums c lits deep)) []):=by
 have hx:=caseIs_eq s nums c lits deep
 rw [if_neg (by omega)] at hx
 have x1:¬ 15 - (deep:Int) < 1:=by omega
 have x2:15 - (deep:Int) - 1 = 15 - ((deep + 1:Nat):Int):=by omega
 have hLB:=LB_eq
 refine C_goS (nt:=268) (rs:=[.tmp 10]) hm Tryz.func90 rfl rfl rfl rfl rfl (fun hl he=>?_)
 simp -implicitDefEqProofs only [go_sem] at hl ⊢
 refine atCall [] (c_spec_l6None c.A) ?_ ?_ <;> simp -implicitDefEqProofs only [go_sem,pA]
 refine atCall [] (c_spec_l6None c.B) ?_ ?_ <;> simp -implicitDefEqProofs only [go_sem,pB]
 refine atCall [] (c_spec_WhySame c.why why0) ?_ ?_ <;> simp -implicitDefEqProofs only [go_sem]
 rw [if_neg (by omega),if_neg (by omega),if_neg (by omega),if_pos k] at hx
 rcases Classical.em (c.n = 0) with n0 | n0
 ·have kn:=eq_true n0
  rcases Classical.em ((0:Int) < (c.times.length:Int)) with t0 | t0
  ·have t0':¬ c.times.length = 0:=by omega
   have t1:¬ c.times = []:=fun e=>by rw [e] at t0'; exact t0' rfl
   have e:caseIs s nums c lits deep = false:=by rw [hx]; simp [bare,t1]
   simp -implicitDefEqProofs only [go_sem,Z1,x1,k,kn,t0]
   refine fin1' ?_
   simp -implicitDefEqProofs only [go_sem]
   all_goals (simp [e]; done)
  ·have t1:c.times = []:=List.length_eq_zero_iff.1 (by omega)
   rcases Classical.em (c.why = why0) with hw | hw
   ·have kw:=eq_true hw
    rcases Classical.em ((c.kids.length:Int) = 3) with z | z
    ·have z':c.kids.length = 3:=by omega
     have z0:0 < c.kids.length:=by omega
     have z1:1 < c.kids.length:=by omega
     have z2:2 < c.kids.length:=by omega
     have kz:=eq_true z
     have eb:bare c false false false true 3 = true:=by simp [bare,n0,t1,hw,z']
     rw [eb,Bool.true_and] at hx
     simp -implicitDefEqProofs only [go_sem,Z1,x1,k,kn,t0,kw,kz]
     refine atCall [] (c_spec_l8Pair nums c.A c.B) ?_ ?_ <;> simp -implicitDefEqProofs only [go_sem]
     cases h8:Mod.differ nums c.A c.B
     ·rw [h8,Bool.false_and] at hx
      simp -implicitDefEqProofs only [go_sem]
      refine fin1' ?_
      simp -implicitDefEqProofs only [go_sem]
      all_goals (simp [hx]; done)
     ·have hdf:=differ_iff.1 h8
      have tA:=hnt _ hdf.1
      have tB:=hnt _ hdf.2.1
      have fe:=fun (x:LitD) (fx:Fit nums x) (l:LitD) (hl:l ∈ lits ++ [x])=>show Fit nums l by
       rcases List.mem_append.1 hl with hl | hl
       ·exact hf l hl
       ·simp only [List.mem_cons,List.not_mem_nil,or_false] at hl
        rw [hl]
        exact fx
      have i0:=ih c.kids[0] (List.getElem_mem z0) (lits ++ [eqLit c.A c.B]) (deep + 1) (by omega) (by omega) (by simp; omega) (fe _ (fit_eq hdf.1 hdf.2.1 tA tB))
      have i1:=ih c.kids[1] (List.getElem_mem z1) (lits ++ [lessLit c.A c.B]) (deep + 1) (by omega) (by omega) (by simp; omega) (fe _ (fit_less hdf.1 hdf.2.1 tA tB hdf.2.2))
      have i2:=ih c.kids[2] (List.getElem_mem z2) (lits ++ [lessLit c.B c.A]) (deep + 1) (by omega) (by omega) (by simp; omega) (fe _ (fit_less hdf.2.1 hdf.1 tB tA (Ne.symm hdf.2.2)))
      clear fe
      rw [h8,Bool.true_and,parted,List.map_cons,List.map_cons,List.map_cons,List.map_nil,caseIss_3 s nums c.kids[0] c.kids[1] c.kids[2] c.kids _ _ _ _ (list_3 z' z0 z1 z2)] at hx
      simp -implicitDefEqProofs only [go_sem]
      refine atCall [] (c_spec_l8One c.A c.B) ?_ ?_ <;> simp -implicitDefEqProofs only [go_sem]
      refine atCall [] (c_spec_l8With lits (eqLit c.A c.B) (by omega)) ?_ ?_ <;> simp -implicitDefEqProofs only [go_sem,z0,x2]
      repeat (with_reducible apply And.intro; case left=>omega)
      refine atCall [] i0 ?_ ?_ <;> simp -implicitDefEqProofs only [go_sem]
      with_reducible refine ind_andM (by kernel_rfl) ?_
      cases q0:caseIs s nums c.kids[0] (lits ++ [eqLit c.A c.B]) (deep + 1)
      ·rw [q0,Bool.false_and] at hx
       simp -implicitDefEqProofs only [go_sem]
       with_reducible refine ind_andM (by kernel_rfl) ?_
       refine fin1' ?_
       simp -implicitDefEqProofs only [go_sem]
       all_goals (simp [hx]; done)
      ·rw [q0,Bool.true_and] at hx
       simp -implicitDefEqProofs only [go_sem]
       refine atCall [] (c_spec_l8Less c.A c.B tA tB hdf.2.2) ?_ ?_ <;> simp -implicitDefEqProofs only [go_sem]
       refine atCall [] (c_spec_l8With lits (lessLit c.A c.B) (by omega)) ?_ ?_ <;> simp -implicitDefEqProofs only [go_sem,Z3,Z4,z1,x2]
       repeat (with_reducible apply And.intro; case left=>omega)
       refine atCall [] i1 ?_ ?_ <;> simp -implicitDefEqProofs only [go_sem]
       cases q1:caseIs s nums c.kids[1] (lits ++ [lessLit c.A c.B]) (deep + 1)
       ·rw [q1,Bool.false_and] at hx
        simp -implicitDefEqProofs only [go_sem]
        with_reducible refine ind_andM (by kernel_rfl) ?_
        refine fin1' ?_
        simp -implicitDefEqProofs only [go_sem]
        all_goals (simp [hx]; done)
       ·rw [q1,Bool.true_and] at hx
        simp -implicitDefEqProofs only [go_sem]
        refine atCall [] (c_spec_l8Less c.B c.A tB tA (Ne.symm hdf.2.2)) ?_ ?_ <;> simp -implicitDefEqProofs only [go_sem]
        refine atCall [] (c_spec_l8With lits (lessLit c.B c.A) (by omega)) ?_ ?_ <;> simp -implicitDefEqProofs only [go_sem,Z3,Z4,z2,x2]
        repeat (with_reducible apply And.intro; case left=>omega)
        refine atCall [] i2 ?_ ?_ <;> simp -implicitDefEqProofs only [go_sem]
        with_reducible refine ind_andM (by kernel_rfl) ?_
        refine fin1' ?_
        simp -implicitDefEqProofs only [go_sem]
        all_goals (simp [hx]; done)
    ·have z':¬ c.kids.length = 3:=by omega
     have e:caseIs s nums c lits deep = false:=by rw [hx]; simp [bare,z']
     simp -implicitDefEqProofs only [go_sem,Z1,x1,k,kn,t0,kw,z]
     refine fin1' ?_
     simp -implicitDefEqProofs only [go_sem]
     all_goals (simp [e]; done)
   ·have kw:=eq_false hw
    have e:caseIs s nums c lits deep = false:=by rw [hx]; simp [bare,hw]
    simp -implicitDefEqProofs only [go_sem,Z1,x1,k,kn,t0,kw]
    refine fin1' ?_
    simp -implicitDefEqProofs only [go_sem]
    all_goals (simp [e]; done)
 ·have e:caseIs s nums c lits deep = false:=by rw [hx]; simp [bare,n0]
  simp -implicitDefEqProofs only [go_sem,Z1,x1,k,n0]
  refine fin1' ?_
  simp -implicitDefEqProofs only [go_sem]
  all_goals (simp [e]; done)
end Go.Proofs.YtlddcknkojieeaaGreat
