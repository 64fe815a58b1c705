/-
  Plain laws on what an explanation derives. A step towards the exact laws. The walk of what an explanation derives, some rules. A step towards the exact laws. The walk of what an explanation derives, the rest. A step towards the exact laws. The walk of what an explanation tells. A step towards the exact laws.
-/
import Derived.Test.YtlddcknkojieeaaGreatKPH
set_option linter.unusedVariables false
set_option linter.unusedSimpArgs false
namespace Go.Proofs.YtlddcknkojieeaaGreat
open Go.Eng Go.Mod
set_option maxRecDepth 100000
theorem tellsG_eq (f:Int → Int → Term → List EqD → EqD × Bool) (w:Why) (d:Nat):tellsG f w (d + 1) = match tellssG f w.kids d with
 | none=>(eq0,false)
 | some kids=>f w.rule w.n w.t kids:=by
 cases w; simp only [tellsG,Why.kids,Why.rule,Why.n,Why.t]; rfl
theorem tellssG_drop {f:Int → Int → Term → List EqD → EqD × Bool} {ws:List Why} {i:Nat} (h:i < ws.length) (d:Nat):tellssG f (ws.drop i) d = if (tellsG f ws[i] d).2 then (tellssG f (ws.drop (i + 1)) d).map (fun es=>(tellsG f ws[i] d).1 :: es) else none:=by
 rw [List.drop_eq_getElem_cons h,tellssG]
theorem mapT_snoc {α:Type} (f:α → Term) {xs:List α} {i:Nat} (h:i < xs.length):rowsT ((xs.take i).map f) ++ [cT (f xs[i])] = rowsT ((xs.take (i + 1)).map f):=by
 have e:xs.take (i + 1) = xs.take i ++ [xs[i]]:=by rw [List.take_add_one,List.getElem?_eq_getElem h]; rfl
 rw [e,List.map_append,rowsT_map,rowsT_map,List.map_append]
 rfl
end Go.Proofs.YtlddcknkojieeaaGreat
namespace Go.Proofs.YtlddcknkojieeaaGreat
open Go.Eng Go.Mod
open Int renaming reduceEq → Z1,reduceLT → Z2,reduceLE → Z3,reduceToNat → Z4
set_option maxRecDepth 100000
set_option maxHeartbeats 400000
theorem c_impl_Why_tells_one (eqs:List EqD) (w:Why) (ih:∀ k ∈ w.kids,∀ d:Nat,d ≤ 400 → C E.P 219 [av (cWhy k),lv (rowsEq eqs),iv (401 - d)] [] (Eq2 (.tup [av (cEq (tellsG (tellI eqs) k d).1),bv (tellsG (tellI eqs) k d).2]) [])) (d:Nat) (hd:d + 1 ≤ 400) (r1:w.rule = 1) :
 C E.P 219 [av (cWhy w),lv (rowsEq eqs),iv (401 - ((d + 1:Nat):Int))] [] (Eq2 (.tup [av (cEq (tellsG (tellI eqs) w (d + 1)).1),bv (tellsG (tellI eqs) w (d + 1)).2]) []):=by
 have ht:=tellsG_eq (tellI eqs) w d
 have hLB:=LB_eq
 refine C_goS (nt:=210) (rs:=[.cell 6 195,.tmp 7]) hm Tryz.func219 rfl rfl rfl rfl rfl (fun hl he=>?_)
 simp -implicitDefEqProofs only [go_sem] at hl ⊢
 have e:¬ (400:Int) < 401 - ((d:Int) + 1):=by omega
 have e2:(401:Int) - ((d:Int) + 1) + 1 = 401 - (d:Int):=by omega
 simp -implicitDefEqProofs only [go_sem,e]
 refine loop_go2 hm (fun (i:Nat) (got:List EqD)=> i ≤ w.kids.length ∧ got.length = i ∧ tellssG (tellI eqs) w.kids d = (tellssG (tellI eqs) (w.kids.drop i) d).map (fun es=>got ++ es)) (fun (i:Nat) (got:List EqD)=> ⟨mkS 210 .any [(1,lv (rowsEq eqs)),(2,iv (401 - ((d:Int) + 1))),(3,.ptr 0 0),(6,.ptr 1 0),(8,.acc 2),(20,lv (rowsWhy w.kids)),(21,iv w.kids.length),(22,iv i)],[some (.box (pvs (cWhy w))),some (.box (pvs (cEq eq0))),some (.acc 195 (rowsEq got))]⟩) (fun (i:Nat) (got:List EqD)=> w.kids.length - i) (0) ([]) ?_ (weakS [some 0,some 1,none] ?_ ?_ rfl rfl) ?_
 rotate_left
 ·simp -implicitDefEqProofs only [go_sem]
 ·simp -implicitDefEqProofs only [go_sem]
 rotate_left
 ·simp
 ·rintro i got ⟨hi,hgl,hg⟩
  rcases Classical.em (i < w.kids.length) with h1 | h1
  ·rw [tellssG_drop h1] at hg
   simp -implicitDefEqProofs only [go_sem,h1]
   refine ⟨by omega,?_⟩
   have hc:=ih w.kids[i] (List.getElem_mem h1) d (by omega)
   refine atCall [] hc ?_ ?_ <;> simp -implicitDefEqProofs only [go_sem,e2]
   cases h2:(tellsG (tellI eqs) w.kids[i] d).2
   ·rw [h2] at hg
    simp only [Bool.false_eq_true,if_false,Option.map_none] at hg
    rw [hg] at ht
    simp only at ht
    simp -implicitDefEqProofs only [go_sem]
    refine fin1' ?_
    simp -implicitDefEqProofs only [go_sem]
    all_goals (simp [ht,eq0_A,eq0_B,term0_name,term0_kids,rowsT_nil]; done)
   ·rw [h2] at hg
    simp only [if_true] at hg
    simp -implicitDefEqProofs only [go_sem]
    refine ⟨by omega,by omega,?_⟩
    refine ⟨i + 1,got ++ [(tellsG (tellI eqs) w.kids[i] d).1],?_,?_,weakS [some 0,some 1,some 5] ?_ ?_ rfl rfl⟩
    rotate_left
    ·show _ < _
     omega
    ·simp -implicitDefEqProofs only [go_sem]
    ·simp -implicitDefEqProofs only [go_sem]
     all_goals ((rw [← rowsEq_app,rowsEq_cons,rowsEq_nil]; rfl))
    refine ⟨h1,by simp [hgl],?_⟩
    rw [hg]
    cases tellssG (tellI eqs) (w.kids.drop (i + 1)) d <;> simp
  ·rw [List.drop_of_length_le (by omega),tellssG] at hg
   simp only [Option.map_some,List.append_nil] at hg
   rw [hg] at ht
   simp only at ht
   have gl:(got.length:Int) ≤ LB:=by omega
   rcases Classical.em (w.n = 0) with hn | hn
   ·rcases Classical.em ((got.length:Int) = 0) with hz | hz
    ·have hz':got.length = 0:=by omega
     simp -implicitDefEqProofs only [go_sem,Z1,h1,r1,hn,hz,Int.reduceEq]
     refine atCall [] (c_impl_isTerm w.t) ?_ ?_ <;> simp -implicitDefEqProofs only [go_sem]
     with_reducible refine ind_andM (by kernel_rfl) ?_
     skip
     refine fin1' ?_
     simp -implicitDefEqProofs only [go_sem]
     all_goals (simp [ht,tellI,r1,hn,hz']; done)
    ·have hz':¬ got.length = 0:=by omega
     simp -implicitDefEqProofs only [go_sem,Z1,h1,r1,hn,hz,Int.reduceEq]
     with_reducible refine ind_andM (by kernel_rfl) ?_
     skip
     refine fin1' ?_
     simp -implicitDefEqProofs only [go_sem]
     all_goals (simp [ht,tellI,r1,hn,hz']; done)
   ·simp -implicitDefEqProofs only [go_sem,Z1,h1,r1,hn,Int.reduceEq]
    refine fin1' ?_
    simp -implicitDefEqProofs only [go_sem]
    all_goals (simp [ht,tellI,r1,hn]; done)
theorem c_impl_Why_tells_two (eqs:List EqD) (w:Why) (ih:∀ k ∈ w.kids,∀ d:Nat,d ≤ 400 → C E.P 219 [av (cWhy k),lv (rowsEq eqs),iv (401 - d)] [] (Eq2 (.tup [av (cEq (tellsG (tellI eqs) k d).1),bv (tellsG (tellI eqs) k d).2]) [])) (d:Nat) (hd:d + 1 ≤ 400) (r2:w.rule = 2) :
 C E.P 219 [av (cWhy w),lv (rowsEq eqs),iv (401 - ((d + 1:Nat):Int))] [] (Eq2 (.tup [av (cEq (tellsG (tellI eqs) w (d + 1)).1),bv (tellsG (tellI eqs) w (d + 1)).2]) []):=by
 have ht:=tellsG_eq (tellI eqs) w d
 have hLB:=LB_eq
 refine C_goS (nt:=210) (rs:=[.cell 6 195,.tmp 7]) hm Tryz.func219 rfl rfl rfl rfl rfl (fun hl he=>?_)
 simp -implicitDefEqProofs only [go_sem] at hl ⊢
 have e:¬ (400:Int) < 401 - ((d:Int) + 1):=by omega
 have e2:(401:Int) - ((d:Int) + 1) + 1 = 401 - (d:Int):=by omega
 simp -implicitDefEqProofs only [go_sem,e]
 refine loop_go2 hm (fun (i:Nat) (got:List EqD)=> i ≤ w.kids.length ∧ got.length = i ∧ tellssG (tellI eqs) w.kids d = (tellssG (tellI eqs) (w.kids.drop i) d).map (fun es=>got ++ es)) (fun (i:Nat) (got:List EqD)=> ⟨mkS 210 .any [(1,lv (rowsEq eqs)),(2,iv (401 - ((d:Int) + 1))),(3,.ptr 0 0),(6,.ptr 1 0),(8,.acc 2),(20,lv (rowsWhy w.kids)),(21,iv w.kids.length),(22,iv i)],[some (.box (pvs (cWhy w))),some (.box (pvs (cEq eq0))),some (.acc 195 (rowsEq got))]⟩) (fun (i:Nat) (got:List EqD)=> w.kids.length - i) (0) ([]) ?_ (weakS [some 0,some 1,none] ?_ ?_ rfl rfl) ?_
 rotate_left
 ·simp -implicitDefEqProofs only [go_sem]
 ·simp -implicitDefEqProofs only [go_sem]
 rotate_left
 ·simp
 ·rintro i got ⟨hi,hgl,hg⟩
  rcases Classical.em (i < w.kids.length) with h1 | h1
  ·rw [tellssG_drop h1] at hg
   simp -implicitDefEqProofs only [go_sem,h1]
   refine ⟨by omega,?_⟩
   have hc:=ih w.kids[i] (List.getElem_mem h1) d (by omega)
   refine atCall [] hc ?_ ?_ <;> simp -implicitDefEqProofs only [go_sem,e2]
   cases h2:(tellsG (tellI eqs) w.kids[i] d).2
   ·rw [h2] at hg
    simp only [Bool.false_eq_true,if_false,Option.map_none] at hg
    rw [hg] at ht
    simp only at ht
    simp -implicitDefEqProofs only [go_sem]
    refine fin1' ?_
    simp -implicitDefEqProofs only [go_sem]
    all_goals (simp [ht,eq0_A,eq0_B,term0_name,term0_kids,rowsT_nil]; done)
   ·rw [h2] at hg
    simp only [if_true] at hg
    simp -implicitDefEqProofs only [go_sem]
    refine ⟨by omega,by omega,?_⟩
    refine ⟨i + 1,got ++ [(tellsG (tellI eqs) w.kids[i] d).1],?_,?_,weakS [some 0,some 1,some 5] ?_ ?_ rfl rfl⟩
    rotate_left
    ·show _ < _
     omega
    ·simp -implicitDefEqProofs only [go_sem]
    ·simp -implicitDefEqProofs only [go_sem]
     all_goals ((rw [← rowsEq_app,rowsEq_cons,rowsEq_nil]; rfl))
    refine ⟨h1,by simp [hgl],?_⟩
    rw [hg]
    cases tellssG (tellI eqs) (w.kids.drop (i + 1)) d <;> simp
  ·rw [List.drop_of_length_le (by omega),tellssG] at hg
   simp only [Option.map_some,List.append_nil] at hg
   rw [hg] at ht
   simp only at ht
   have gl:(got.length:Int) ≤ LB:=by omega
   simp -implicitDefEqProofs only [go_sem,Z1,h1,r2,Int.reduceEq]
   refine atCall [] (c_impl_isNone w.t) ?_ ?_ <;> simp -implicitDefEqProofs only [go_sem]
   cases hq:isNone w.t
   ·simp -implicitDefEqProofs only [go_sem]
    refine fin1' ?_
    simp -implicitDefEqProofs only [go_sem]
    all_goals (simp [ht,tellI,r2,hq]; done)
   ·simp -implicitDefEqProofs only [go_sem,Z1]
    rcases Classical.em ((0:Int) < (got.length:Int)) with hz | hz
    ·have hz':0 < got.length:=by omega
     simp -implicitDefEqProofs only [go_sem,hz]
     refine fin1' ?_
     simp -implicitDefEqProofs only [go_sem]
     all_goals (simp [ht,tellI,r2,hq,hz']; done)
    ·have hz':¬ 0 < got.length:=by omega
     simp -implicitDefEqProofs only [go_sem,hz]
     refine ⟨by omega,?_⟩
     refine atCall [] (c_impl_within w.n 0 ((eqs.length:Int) - 1)) ?_ ?_ <;> simp -implicitDefEqProofs only [go_sem]
     cases hw:within w.n 0 ((eqs.length:Int) - 1)
     ·simp -implicitDefEqProofs only [go_sem]
      refine fin1' ?_
      simp -implicitDefEqProofs only [go_sem]
      all_goals (simp [ht,tellI,r2,hq,hz',hw]; done)
     ·have hw':=withinB_iff.1 hw
      have h0:0 ≤ w.n:=hw'.1
      have hlt:w.n.toNat < eqs.length:=by omega
      have hg2:eqs.getD w.n.toNat eq0 = eqs[w.n.toNat]:=getD_lt hlt _
      simp -implicitDefEqProofs only [go_sem,h0,hlt]
      have e3:tellsG (tellI eqs) w (d + 1) = (eqs[w.n.toNat],true):=by rw [ht,← hg2]; simp [tellI,r2,hq,hz',hw]
      refine fin1' ?_
      simp -implicitDefEqProofs only [go_sem]
      all_goals (simp [e3]; done)
end Go.Proofs.YtlddcknkojieeaaGreat
namespace Go.Proofs.YtlddcknkojieeaaGreat
open Go.Eng Go.Mod
open Int renaming reduceEq → Z1,reduceLT → Z2,reduceLE → Z3,reduceToNat → Z4
set_option maxRecDepth 100000
set_option maxHeartbeats 400000
theorem c_impl_Why_tells_three (eqs:List EqD) (w:Why) (ih:∀ k ∈ w.kids,∀ d:Nat,d ≤ 400 → C E.P 219 [av (cWhy k),lv (rowsEq eqs),iv (401 - d)] [] (Eq2 (.tup [av (cEq (tellsG (tellI eqs) k d).1),bv (tellsG (tellI eqs) k d).2]) [])) (d:Nat) (hd:d + 1 ≤ 400) (r3:w.rule = 3) :
 C E.P 219 [av (cWhy w),lv (rowsEq eqs),iv (401 - ((d + 1:Nat):Int))] [] (Eq2 (.tup [av (cEq (tellsG (tellI eqs) w (d + 1)).1),bv (tellsG (tellI eqs) w (d + 1)).2]) []):=by
 have ht:=tellsG_eq (tellI eqs) w d
 have hLB:=LB_eq
 refine C_goS (nt:=210) (rs:=[.cell 6 195,.tmp 7]) hm Tryz.func219 rfl rfl rfl rfl rfl (fun hl he=>?_)
 simp -implicitDefEqProofs only [go_sem] at hl ⊢
 have e:¬ (400:Int) < 401 - ((d:Int) + 1):=by omega
 have e2:(401:Int) - ((d:Int) + 1) + 1 = 401 - (d:Int):=by omega
 simp -implicitDefEqProofs only [go_sem,e]
 refine loop_go2 hm (fun (i:Nat) (got:List EqD)=> i ≤ w.kids.length ∧ got.length = i ∧ tellssG (tellI eqs) w.kids d = (tellssG (tellI eqs) (w.kids.drop i) d).map (fun es=>got ++ es)) (fun (i:Nat) (got:List EqD)=> ⟨mkS 210 .any [(1,lv (rowsEq eqs)),(2,iv (401 - ((d:Int) + 1))),(3,.ptr 0 0),(6,.ptr 1 0),(8,.acc 2),(20,lv (rowsWhy w.kids)),(21,iv w.kids.length),(22,iv i)],[some (.box (pvs (cWhy w))),some (.box (pvs (cEq eq0))),some (.acc 195 (rowsEq got))]⟩) (fun (i:Nat) (got:List EqD)=> w.kids.length - i) (0) ([]) ?_ (weakS [some 0,some 1,none] ?_ ?_ rfl rfl) ?_
 rotate_left
 ·simp -implicitDefEqProofs only [go_sem]
 ·simp -implicitDefEqProofs only [go_sem]
 rotate_left
 ·simp
 ·rintro i got ⟨hi,hgl,hg⟩
  rcases Classical.em (i < w.kids.length) with h1 | h1
  ·rw [tellssG_drop h1] at hg
   simp -implicitDefEqProofs only [go_sem,h1]
   refine ⟨by omega,?_⟩
   have hc:=ih w.kids[i] (List.getElem_mem h1) d (by omega)
   refine atCall [] hc ?_ ?_ <;> simp -implicitDefEqProofs only [go_sem,e2]
   cases h2:(tellsG (tellI eqs) w.kids[i] d).2
   ·rw [h2] at hg
    simp only [Bool.false_eq_true,if_false,Option.map_none] at hg
    rw [hg] at ht
    simp only at ht
    simp -implicitDefEqProofs only [go_sem]
    refine fin1' ?_
    simp -implicitDefEqProofs only [go_sem]
    all_goals (simp [ht,eq0_A,eq0_B,term0_name,term0_kids,rowsT_nil]; done)
   ·rw [h2] at hg
    simp only [if_true] at hg
    simp -implicitDefEqProofs only [go_sem]
    refine ⟨by omega,by omega,?_⟩
    refine ⟨i + 1,got ++ [(tellsG (tellI eqs) w.kids[i] d).1],?_,?_,weakS [some 0,some 1,some 5] ?_ ?_ rfl rfl⟩
    rotate_left
    ·show _ < _
     omega
    ·simp -implicitDefEqProofs only [go_sem]
    ·simp -implicitDefEqProofs only [go_sem]
     all_goals ((rw [← rowsEq_app,rowsEq_cons,rowsEq_nil]; rfl))
    refine ⟨h1,by simp [hgl],?_⟩
    rw [hg]
    cases tellssG (tellI eqs) (w.kids.drop (i + 1)) d <;> simp
  ·rw [List.drop_of_length_le (by omega),tellssG] at hg
   simp only [Option.map_some,List.append_nil] at hg
   rw [hg] at ht
   simp only at ht
   have gl:(got.length:Int) ≤ LB:=by omega
   have r1:¬ w.rule = 1:=by omega
   have r2:¬ w.rule = 2:=by omega
   have r5:¬ w.rule = 5:=by omega
   rcases Classical.em (w.n = 0) with hn | hn
   ·simp -implicitDefEqProofs only [go_sem,Z1,h1,r3,hn,Int.reduceEq]
    refine atCall [] (c_impl_isNone w.t) ?_ ?_ <;> simp -implicitDefEqProofs only [go_sem]
    cases hq:isNone w.t
    ·simp -implicitDefEqProofs only [go_sem]
     refine fin1' ?_
     simp -implicitDefEqProofs only [go_sem]
     all_goals (simp [ht,tellI,r3,hq]; done)
    ·simp -implicitDefEqProofs only [go_sem,Z1]
     rcases Classical.em ((got.length:Int) = 1) with hz | hz
     ·have hz':got.length = 1:=by omega
      have h0:0 < got.length:=by omega
      have hg0:got.getD 0 eq0 = got[0]:=getD_lt h0 _
      simp -implicitDefEqProofs only [go_sem,hz,h0]
      with_reducible refine ind_andM (by kernel_rfl) ?_
      have e3:tellsG (tellI eqs) w (d + 1) = (⟨got[0].B,got[0].A⟩,true):=by rw [ht,← hg0]; simp [tellI,r3,hn,hq,hz']
      refine fin1' ?_
      simp -implicitDefEqProofs only [go_sem]
      all_goals (simp [e3]; done)
     ·have hz':¬ got.length = 1:=by omega
      simp -implicitDefEqProofs only [go_sem,hz]
      refine fin1' ?_
      simp -implicitDefEqProofs only [go_sem]
      all_goals (simp [ht,tellI,r3,hn,hq,hz']; done)
   ·simp -implicitDefEqProofs only [go_sem,Z1,h1,r3,hn,Int.reduceEq]
    refine fin1' ?_
    simp -implicitDefEqProofs only [go_sem]
    all_goals (simp [ht,tellI,r3,hn]; done)
end Go.Proofs.YtlddcknkojieeaaGreat
namespace Go.Proofs.YtlddcknkojieeaaGreat
open Go.Eng Go.Mod
open Int renaming reduceEq → Z1,reduceLT → Z2,reduceLE → Z3,reduceToNat → Z4
set_option maxRecDepth 100000
set_option maxHeartbeats 400000
theorem c_impl_Why_tells_none (eqs:List EqD) (w:Why) (ih:∀ k ∈ w.kids,∀ d:Nat,d ≤ 400 → C E.P 219 [av (cWhy k),lv (rowsEq eqs),iv (401 - d)] [] (Eq2 (.tup [av (cEq (tellsG (tellI eqs) k d).1),bv (tellsG (tellI eqs) k d).2]) [])) (d:Nat) (hd:d + 1 ≤ 400) (r1:¬ w.rule = 1) (r2:¬ w.rule = 2) (r3:¬ w.rule = 3) (r4:¬ w.rule = 4) (r5:¬ w.rule = 5) :
 C E.P 219 [av (cWhy w),lv (rowsEq eqs),iv (401 - ((d + 1:Nat):Int))] [] (Eq2 (.tup [av (cEq (tellsG (tellI eqs) w (d + 1)).1),bv (tellsG (tellI eqs) w (d + 1)).2]) []):=by
 have ht:=tellsG_eq (tellI eqs) w d
 have hLB:=LB_eq
 refine C_goS (nt:=210) (rs:=[.cell 6 195,.tmp 7]) hm Tryz.func219 rfl rfl rfl rfl rfl (fun hl he=>?_)
 simp -implicitDefEqProofs only [go_sem] at hl ⊢
 have e:¬ (400:Int) < 401 - ((d:Int) + 1):=by omega
 have e2:(401:Int) - ((d:Int) + 1) + 1 = 401 - (d:Int):=by omega
 simp -implicitDefEqProofs only [go_sem,e]
 refine loop_go2 hm (fun (i:Nat) (got:List EqD)=> i ≤ w.kids.length ∧ got.length = i ∧ tellssG (tellI eqs) w.kids d = (tellssG (tellI eqs) (w.kids.drop i) d).map (fun es=>got ++ es)) (fun (i:Nat) (got:List EqD)=> ⟨mkS 210 .any [(1,lv (rowsEq eqs)),(2,iv (401 - ((d:Int) + 1))),(3,.ptr 0 0),(6,.ptr 1 0),(8,.acc 2),(20,lv (rowsWhy w.kids)),(21,iv w.kids.length),(22,iv i)],[some (.box (pvs (cWhy w))),some (.box (pvs (cEq eq0))),some (.acc 195 (rowsEq got))]⟩) (fun (i:Nat) (got:List EqD)=> w.kids.length - i) (0) ([]) ?_ (weakS [some 0,some 1,none] ?_ ?_ rfl rfl) ?_
 rotate_left
 ·simp -implicitDefEqProofs only [go_sem]
 ·simp -implicitDefEqProofs only [go_sem]
 rotate_left
 ·simp
 ·rintro i got ⟨hi,hgl,hg⟩
  rcases Classical.em (i < w.kids.length) with h1 | h1
  ·rw [tellssG_drop h1] at hg
   simp -implicitDefEqProofs only [go_sem,h1]
   refine ⟨by omega,?_⟩
   have hc:=ih w.kids[i] (List.getElem_mem h1) d (by omega)
   refine atCall [] hc ?_ ?_ <;> simp -implicitDefEqProofs only [go_sem,e2]
   cases h2:(tellsG (tellI eqs) w.kids[i] d).2
   ·rw [h2] at hg
    simp only [Bool.false_eq_true,if_false,Option.map_none] at hg
    rw [hg] at ht
    simp only at ht
    simp -implicitDefEqProofs only [go_sem]
    refine fin1' ?_
    simp -implicitDefEqProofs only [go_sem]
    all_goals (simp [ht,eq0_A,eq0_B,term0_name,term0_kids,rowsT_nil]; done)
   ·rw [h2] at hg
    simp only [if_true] at hg
    simp -implicitDefEqProofs only [go_sem]
    refine ⟨by omega,by omega,?_⟩
    refine ⟨i + 1,got ++ [(tellsG (tellI eqs) w.kids[i] d).1],?_,?_,weakS [some 0,some 1,some 5] ?_ ?_ rfl rfl⟩
    rotate_left
    ·show _ < _
     omega
    ·simp -implicitDefEqProofs only [go_sem]
    ·simp -implicitDefEqProofs only [go_sem]
     all_goals ((rw [← rowsEq_app,rowsEq_cons,rowsEq_nil]; rfl))
    refine ⟨h1,by simp [hgl],?_⟩
    rw [hg]
    cases tellssG (tellI eqs) (w.kids.drop (i + 1)) d <;> simp
  ·rw [List.drop_of_length_le (by omega),tellssG] at hg
   simp only [Option.map_some,List.append_nil] at hg
   rw [hg] at ht
   simp only at ht
   have gl:(got.length:Int) ≤ LB:=by omega
   rcases Classical.em (w.n = 0) with hn | hn
   ·simp -implicitDefEqProofs only [go_sem,h1,r1,r5,r2,hn]
    refine atCall [] (c_impl_isNone w.t) ?_ ?_ <;> simp -implicitDefEqProofs only [go_sem]
    cases hq:isNone w.t
    ·simp -implicitDefEqProofs only [go_sem]
     refine fin1' ?_
     simp -implicitDefEqProofs only [go_sem]
     all_goals (simp [ht,tellI,r1,r2,r5,hq]; done)
    ·simp -implicitDefEqProofs only [go_sem,r1,r2,r3,r4,r5]
     refine fin1' ?_
     simp -implicitDefEqProofs only [go_sem]
     all_goals (simp [ht,tellI,r1,r2,r3,r4,r5,hn,hq]; done)
   ·simp -implicitDefEqProofs only [go_sem,h1,r2,hn]
    refine fin1' ?_
    simp -implicitDefEqProofs only [go_sem]
    all_goals (simp [ht,tellI,r2,hn]; done)
theorem c_impl_Why_tells_five (eqs:List EqD) (w:Why) (ih:∀ k ∈ w.kids,∀ d:Nat,d ≤ 400 → C E.P 219 [av (cWhy k),lv (rowsEq eqs),iv (401 - d)] [] (Eq2 (.tup [av (cEq (tellsG (tellI eqs) k d).1),bv (tellsG (tellI eqs) k d).2]) [])) (d:Nat) (hd:d + 1 ≤ 400) (r5:w.rule = 5) :
 C E.P 219 [av (cWhy w),lv (rowsEq eqs),iv (401 - ((d + 1:Nat):Int))] [] (Eq2 (.tup [av (cEq (tellsG (tellI eqs) w (d + 1)).1),bv (tellsG (tellI eqs) w (d + 1)).2]) []):=by
 have ht:=tellsG_eq (tellI eqs) w d
 have hLB:=LB_eq
 refine C_goS (nt:=210) (rs:=[.cell 6 195,.tmp 7]) hm Tryz.func219 rfl rfl rfl rfl rfl (fun hl he=>?_)
 simp -implicitDefEqProofs only [go_sem] at hl ⊢
 have e:¬ (400:Int) < 401 - ((d:Int) + 1):=by omega
 have e2:(401:Int) - ((d:Int) + 1) + 1 = 401 - (d:Int):=by omega
 simp -implicitDefEqProofs only [go_sem,e]
 refine loop_go2 hm (fun (i:Nat) (got:List EqD)=> i ≤ w.kids.length ∧ got.length = i ∧ tellssG (tellI eqs) w.kids d = (tellssG (tellI eqs) (w.kids.drop i) d).map (fun es=>got ++ es)) (fun (i:Nat) (got:List EqD)=> ⟨mkS 210 .any [(1,lv (rowsEq eqs)),(2,iv (401 - ((d:Int) + 1))),(3,.ptr 0 0),(6,.ptr 1 0),(8,.acc 2),(20,lv (rowsWhy w.kids)),(21,iv w.kids.length),(22,iv i)],[some (.box (pvs (cWhy w))),some (.box (pvs (cEq eq0))),some (.acc 195 (rowsEq got))]⟩) (fun (i:Nat) (got:List EqD)=> w.kids.length - i) (0) ([]) ?_ (weakS [some 0,some 1,none] ?_ ?_ rfl rfl) ?_
 rotate_left
 ·simp -implicitDefEqProofs only [go_sem]
 ·simp -implicitDefEqProofs only [go_sem]
 rotate_left
 ·simp
 ·rintro i got ⟨hi,hgl,hg⟩
  rcases Classical.em (i < w.kids.length) with h1 | h1
  ·rw [tellssG_drop h1] at hg
   simp -implicitDefEqProofs only [go_sem,h1]
   refine ⟨by omega,?_⟩
   have hc:=ih w.kids[i] (List.getElem_mem h1) d (by omega)
   refine atCall [] hc ?_ ?_ <;> simp -implicitDefEqProofs only [go_sem,e2]
   cases h2:(tellsG (tellI eqs) w.kids[i] d).2
   ·rw [h2] at hg
    simp only [Bool.false_eq_true,if_false,Option.map_none] at hg
    rw [hg] at ht
    simp only at ht
    simp -implicitDefEqProofs only [go_sem]
    refine fin1' ?_
    simp -implicitDefEqProofs only [go_sem]
    all_goals (simp [ht,eq0_A,eq0_B,term0_name,term0_kids,rowsT_nil]; done)
   ·rw [h2] at hg
    simp only [if_true] at hg
    simp -implicitDefEqProofs only [go_sem]
    refine ⟨by omega,by omega,?_⟩
    refine ⟨i + 1,got ++ [(tellsG (tellI eqs) w.kids[i] d).1],?_,?_,weakS [some 0,some 1,some 5] ?_ ?_ rfl rfl⟩
    rotate_left
    ·show _ < _
     omega
    ·simp -implicitDefEqProofs only [go_sem]
    ·simp -implicitDefEqProofs only [go_sem]
     all_goals ((rw [← rowsEq_app,rowsEq_cons,rowsEq_nil]; rfl))
    refine ⟨h1,by simp [hgl],?_⟩
    rw [hg]
    cases tellssG (tellI eqs) (w.kids.drop (i + 1)) d <;> simp
  ·rw [List.drop_of_length_le (by omega),tellssG] at hg
   simp only [Option.map_some,List.append_nil] at hg
   rw [hg] at ht
   simp only at ht
   have gl:(got.length:Int) ≤ LB:=by omega
   rcases Classical.em (w.n = 0) with hn | hn
   ·rcases Classical.em ((got.length:Int) = 0) with hz | hz
    ·have hz':got.length = 0:=by omega
     simp -implicitDefEqProofs only [go_sem,Z1,h1,r5,hn,hz,Int.reduceEq]
     refine fin1' ?_
     simp -implicitDefEqProofs only [go_sem]
     all_goals (simp [ht,tellI,r5,hn,hz']; done)
    ·have hz':¬ got.length = 0:=by omega
     simp -implicitDefEqProofs only [go_sem,Z1,h1,r5,hn,hz,Int.reduceEq]
     refine atCall [] (c_impl_NameOk w.t.name) ?_ ?_ <;> simp -implicitDefEqProofs only [go_sem]
     cases hq:nameOk w.t.name
     ·simp -implicitDefEqProofs only [go_sem]
      refine fin1' ?_
      simp -implicitDefEqProofs only [go_sem]
      all_goals (simp [ht,tellI,r5,hn,hz',hq]; done)
     ·simp -implicitDefEqProofs only [go_sem]
      rcases Classical.em ((0:Int) < (w.t.kids.length:Int)) with hk | hk
      ·have hk':0 < w.t.kids.length:=by omega
       simp -implicitDefEqProofs only [go_sem,hk]
       refine fin1' ?_
       simp -implicitDefEqProofs only [go_sem]
       all_goals (simp [ht,tellI,r5,hn,hz',hq,hk']; done)
      ·have hk':¬ 0 < w.t.kids.length:=by omega
       simp -implicitDefEqProofs only [go_sem,hk]
       refine loop_go1 hm (fun (j:Nat)=> j ≤ got.length) (fun (j:Nat)=> ⟨mkS 210 .any [(6,.ptr 0 0),(13,.ptr 1 0),(175,.acc 2),(176,iv got.length),(177,iv j)],[some (.box (pvs (cEq eq0))),some (.box [.d (.str w.t.name),.acc 3,.d (.str w.t.name),.acc 4]),some (.acc 195 (rowsEq got)),some (.acc 62 (rowsT ((got.take j).map (·.A)))),some (.acc 62 (rowsT ((got.take j).map (·.B))))]⟩) (fun (j:Nat)=> got.length - j) (0) ?_ (weakS [some 1,some 3,some 2,none,none] ?_ ?_ rfl rfl) ?_
       rotate_left
       ·simp -implicitDefEqProofs only [go_sem]
       ·simp -implicitDefEqProofs only [go_sem]
       rotate_left
       ·omega
       ·rintro j hj
        rcases Classical.em (j < got.length) with h3 | h3
        ·simp -implicitDefEqProofs only [go_sem,h3]
         repeat (first | with_reducible refine ind_andM (by kernel_rfl) ?_ | (with_reducible apply And.intro; case left=>omega))
         refine ⟨j + 1,?_,?_,weakS [some 0,some 1,some 2,some 6,some 7] ?_ ?_ rfl rfl⟩
         rotate_left
         ·show _ < _
          omega
         ·simp -implicitDefEqProofs only [go_sem]
         ·simp -implicitDefEqProofs only [go_sem]
          all_goals (exact ⟨mapT_snoc _ h3,mapT_snoc _ h3⟩)
         exact h3
        ·have e3:tellsG (tellI eqs) w (d + 1) = (⟨.mk w.t.name (got.map (·.A)),.mk w.t.name (got.map (·.B))⟩,isTerm (.mk w.t.name (got.map (·.A))) && isTerm (.mk w.t.name (got.map (·.B)))):=by rw [ht]; simp [tellI,r5,hn,hz',hq,hk']
         have et:got.take j = got:=List.take_of_length_le (by omega)
         simp -implicitDefEqProofs only [go_sem,h3,et]
         refine atLook [] [3] (c_impl_isTerm (.mk w.t.name (got.map (·.A)))) rfl ?_ ?_ ?_
         ·(simp -implicitDefEqProofs only [go_sem]; repeat' (first | exact Vws.nil | apply Vws.cons | exact Vw.same (by first | rfl | simp -implicitDefEqProofs only [go_sem,Z1,Z2,Z3,Z4]) | exact Vw.acc rfl rfl | exact Vw.nil | apply Vw.agg | apply Vw.fn | refine Vw.box rfl rfl ?_))
         all_goals simp -implicitDefEqProofs only [go_sem]
         cases hA:isTerm (.mk w.t.name (got.map (·.A)))
         ·simp -implicitDefEqProofs only [go_sem]
          with_reducible refine ind_andM (by kernel_rfl) ?_
          refine fin1' ?_
          simp -implicitDefEqProofs only [go_sem]
          all_goals (simp [e3,hA]; done)
         ·simp -implicitDefEqProofs only [go_sem]
          refine atLook [] [4] (c_impl_isTerm (.mk w.t.name (got.map (·.B)))) rfl ?_ ?_ ?_
          ·(simp -implicitDefEqProofs only [go_sem]; repeat' (first | exact Vws.nil | apply Vws.cons | exact Vw.same (by first | rfl | simp -implicitDefEqProofs only [go_sem,Z1,Z2,Z3,Z4]) | exact Vw.acc rfl rfl | exact Vw.nil | apply Vw.agg | apply Vw.fn | refine Vw.box rfl rfl ?_))
          all_goals simp -implicitDefEqProofs only [go_sem]
          with_reducible refine ind_andM (by kernel_rfl) ?_
          refine fin1' ?_
          simp -implicitDefEqProofs only [go_sem]
          all_goals (simp [e3,hA]; done)
   ·simp -implicitDefEqProofs only [go_sem,Z1,h1,r5,hn,Int.reduceEq]
    refine fin1' ?_
    simp -implicitDefEqProofs only [go_sem]
    all_goals (simp [ht,tellI,r5,hn]; done)
end Go.Proofs.YtlddcknkojieeaaGreat
namespace Go.Proofs.YtlddcknkojieeaaGreat
open Go.Eng Go.Mod
open Int renaming reduceEq → Z1,reduceLT → Z2,reduceLE → Z3,reduceToNat → Z4
set_option maxRecDepth 100000
set_option maxHeartbeats 400000
theorem c_impl_Why_tells_four (eqs:List EqD) (w:Why) (ih:∀ k ∈ w.kids,∀ d:Nat,d ≤ 400 → C E.P 219 [av (cWhy k),lv (rowsEq eqs),iv (401 - d)] [] (Eq2 (.tup [av (cEq (tellsG (tellI eqs) k d).1),bv (tellsG (tellI eqs) k d).2]) [])) (d:Nat) (hd:d + 1 ≤ 400) (r4:w.rule = 4) :
 C E.P 219 [av (cWhy w),lv (rowsEq eqs),iv (401 - ((d + 1:Nat):Int))] [] (Eq2 (.tup [av (cEq (tellsG (tellI eqs) w (d + 1)).1),bv (tellsG (tellI eqs) w (d + 1)).2]) []):=by
 have ht:=tellsG_eq (tellI eqs) w d
 have hLB:=LB_eq
 refine C_goS (nt:=210) (rs:=[.cell 6 195,.tmp 7]) hm Tryz.func219 rfl rfl rfl rfl rfl (fun hl he=>?_)
 simp -implicitDefEqProofs only [go_sem] at hl ⊢
 have e:¬ (400:Int) < 401 - ((d:Int) + 1):=by omega
 have e2:(401:Int) - ((d:Int) + 1) + 1 = 401 - (d:Int):=by omega
 simp -implicitDefEqProofs only [go_sem,e]
 refine loop_go2 hm (fun (i:Nat) (got:List EqD)=> i ≤ w.kids.length ∧ got.length = i ∧ tellssG (tellI eqs) w.kids d = (tellssG (tellI eqs) (w.kids.drop i) d).map (fun es=>got ++ es)) (fun (i:Nat) (got:List EqD)=> ⟨mkS 210 .any [(1,lv (rowsEq eqs)),(2,iv (401 - ((d:Int) + 1))),(3,.ptr 0 0),(6,.ptr 1 0),(8,.acc 2),(20,lv (rowsWhy w.kids)),(21,iv w.kids.length),(22,iv i)],[some (.box (pvs (cWhy w))),some (.box (pvs (cEq eq0))),some (.acc 195 (rowsEq got))]⟩) (fun (i:Nat) (got:List EqD)=> w.kids.length - i) (0) ([]) ?_ (weakS [some 0,some 1,none] ?_ ?_ rfl rfl) ?_
 rotate_left
 ·simp -implicitDefEqProofs only [go_sem]
 ·simp -implicitDefEqProofs only [go_sem]
 rotate_left
 ·simp
 ·rintro i got ⟨hi,hgl,hg⟩
  rcases Classical.em (i < w.kids.length) with h1 | h1
  ·rw [tellssG_drop h1] at hg
   simp -implicitDefEqProofs only [go_sem,h1]
   refine ⟨by omega,?_⟩
   have hc:=ih w.kids[i] (List.getElem_mem h1) d (by omega)
   refine atCall [] hc ?_ ?_ <;> simp -implicitDefEqProofs only [go_sem,e2]
   cases h2:(tellsG (tellI eqs) w.kids[i] d).2
   ·rw [h2] at hg
    simp only [Bool.false_eq_true,if_false,Option.map_none] at hg
    rw [hg] at ht
    simp only at ht
    simp -implicitDefEqProofs only [go_sem]
    refine fin1' ?_
    simp -implicitDefEqProofs only [go_sem]
    all_goals (simp [ht,eq0_A,eq0_B,term0_name,term0_kids,rowsT_nil]; done)
   ·rw [h2] at hg
    simp only [if_true] at hg
    simp -implicitDefEqProofs only [go_sem]
    refine ⟨by omega,by omega,?_⟩
    refine ⟨i + 1,got ++ [(tellsG (tellI eqs) w.kids[i] d).1],?_,?_,weakS [some 0,some 1,some 5] ?_ ?_ rfl rfl⟩
    rotate_left
    ·show _ < _
     omega
    ·simp -implicitDefEqProofs only [go_sem]
    ·simp -implicitDefEqProofs only [go_sem]
     all_goals ((rw [← rowsEq_app,rowsEq_cons,rowsEq_nil]; rfl))
    refine ⟨h1,by simp [hgl],?_⟩
    rw [hg]
    cases tellssG (tellI eqs) (w.kids.drop (i + 1)) d <;> simp
  ·rw [List.drop_of_length_le (by omega),tellssG] at hg
   simp only [Option.map_some,List.append_nil] at hg
   rw [hg] at ht
   simp only at ht
   have gl:(got.length:Int) ≤ LB:=by omega
   rcases Classical.em (w.n = 0) with hn | hn
   ·simp -implicitDefEqProofs only [go_sem,Z1,h1,r4,hn,Int.reduceEq]
    refine atCall [] (c_impl_isNone w.t) ?_ ?_ <;> simp -implicitDefEqProofs only [go_sem]
    cases hq:isNone w.t
    ·simp -implicitDefEqProofs only [go_sem]
     refine fin1' ?_
     simp -implicitDefEqProofs only [go_sem]
     all_goals (simp [ht,tellI,r4,hq]; done)
    ·simp -implicitDefEqProofs only [go_sem,Z1]
     rcases Classical.em ((got.length:Int) = 2) with hz | hz
     ·have hz':got.length = 2:=by omega
      have h0:0 < got.length:=by omega
      have h2:1 < got.length:=by omega
      have hg0:got.getD 0 eq0 = got[0]:=getD_lt h0 _
      have hg1:got.getD 1 eq0 = got[1]:=getD_lt h2 _
      have k:=eq_true hz
      simp -implicitDefEqProofs only [go_sem,Z3,Z4,k,h0,h2]
      refine atCall [] (c_impl_TermSame got[0].B got[1].A) ?_ ?_ <;> simp -implicitDefEqProofs only [go_sem]
      with_reducible refine ind_andM (by kernel_rfl) ?_
      rcases Classical.em (got[0].B = got[1].A) with hs | hs
      ·have e3:tellsG (tellI eqs) w (d + 1) = (⟨got[0].A,got[1].B⟩,true):=by
        rw [ht,← hg0,← hg1]
        rw [← hg0,← hg1] at hs
        simp only [tellI,r4,hn,hq,hz',hs]
        simp
       simp -implicitDefEqProofs only [go_sem,Z3,Z4,hs,h0,h2]
       with_reducible refine ind_andM (by kernel_rfl) ?_
       refine fin1' ?_
       simp -implicitDefEqProofs only [go_sem]
       all_goals (simp [e3]; done)
      ·have e3:tellsG (tellI eqs) w (d + 1) = (eq0,false):=by
        rw [ht]
        rw [← hg0,← hg1] at hs
        simp only [tellI,r4,hn,hq,hz',hs]
        simp
       simp -implicitDefEqProofs only [go_sem,hs]
       refine fin1' ?_
       simp -implicitDefEqProofs only [go_sem]
       all_goals (simp [e3]; done)
     ·have hz':¬ got.length = 2:=by omega
      simp -implicitDefEqProofs only [go_sem,hz]
      with_reducible refine ind_andM (by kernel_rfl) ?_
      skip
      refine fin1' ?_
      simp -implicitDefEqProofs only [go_sem]
      all_goals (simp [ht,tellI,r4,hn,hq,hz']; done)
   ·simp -implicitDefEqProofs only [go_sem,Z1,h1,r4,hn,Int.reduceEq]
    refine fin1' ?_
    simp -implicitDefEqProofs only [go_sem]
    all_goals (simp [ht,tellI,r4,hn]; done)
end Go.Proofs.YtlddcknkojieeaaGreat
namespace Go.Proofs.YtlddcknkojieeaaGreat
open Go.Eng Go.Mod
open Int renaming reduceEq → Z1,reduceLT → Z2,reduceLE → Z3,reduceToNat → Z4
set_option maxRecDepth 100000
set_option maxHeartbeats 400000
theorem c_impl_Why_tells1 (eqs:List EqD) (w:Why) (ih:∀ k ∈ w.kids,∀ d:Nat,d ≤ 400 → C E.P 219 [av (cWhy k),lv (rowsEq eqs),iv (401 - d)] [] (Eq2 (.tup [av (cEq (tellsG (tellI eqs) k d).1),bv (tellsG (tellI eqs) k d).2]) [])) (d:Nat) (hd:d ≤ 400) :
 C E.P 219 [av (cWhy w),lv (rowsEq eqs),iv (401 - d)] [] (Eq2 (.tup [av (cEq (tellsG (tellI eqs) w d).1),bv (tellsG (tellI eqs) w d).2]) []):=by
 cases d with
 | zero=>
   have ht:tellsG (tellI eqs) w 0 = (eq0,false):=by cases w; rfl
   have hLB:=LB_eq
   refine C_goS (nt:=210) (rs:=[.cell 6 195,.tmp 7]) hm Tryz.func219 rfl rfl rfl rfl rfl (fun hl he=>?_)
   simp -implicitDefEqProofs only [go_sem] at hl ⊢
   have e:(400:Int) < 401 - 0:=by omega
   simp -implicitDefEqProofs only [go_sem,e]
   refine fin1' ?_
   simp -implicitDefEqProofs only [go_sem]
   all_goals (simp [ht]; done)
 | succ d=>
   rcases Classical.em (w.rule = 1) with r1 | r1
   ·exact c_impl_Why_tells_one eqs w ih d hd r1
   ·rcases Classical.em (w.rule = 2) with r2 | r2
    ·exact c_impl_Why_tells_two eqs w ih d hd r2
    ·rcases Classical.em (w.rule = 3) with r3 | r3
     ·exact c_impl_Why_tells_three eqs w ih d hd r3
     ·rcases Classical.em (w.rule = 4) with r4 | r4
      ·exact c_impl_Why_tells_four eqs w ih d hd r4
      ·rcases Classical.em (w.rule = 5) with r5 | r5
       ·exact c_impl_Why_tells_five eqs w ih d hd r5
       ·exact c_impl_Why_tells_none eqs w ih d hd r1 r2 r3 r4 r5
theorem c_impl_Why_tells (eqs:List EqD):∀ (w:Why) (d:Nat),d ≤ 400 → C E.P 219 [av (cWhy w),lv (rowsEq eqs),iv (401 - d)] [] (Eq2 (.tup [av (cEq (tellsG (tellI eqs) w d).1),bv (tellsG (tellI eqs) w d).2]) []):=
 Why.ind fun r n t ks ih d hd=>c_impl_Why_tells1 eqs (.mk r n t ks) ih d hd
theorem c_impl_WhyTells (s:Sig) (eqs:List EqD) (w:Why):C E.P 170 [av (cSig s),lv (rowsEq eqs),av (cWhy w)] [] (Eq2 (.tup [av (cEq ((whyTells s eqs w).getD eq0)),bv (whyTells s eqs w).isSome]) []):=by
 have hw:whyTells s eqs w = if eqsOk s eqs && ((tellsG (tellI eqs) w 400).2 && eqsOk s [(tellsG (tellI eqs) w 400).1]) then some (tellsG (tellI eqs) w 400).1 else none:=rfl
 have ht:=c_impl_Why_tells eqs w 400 (by omega)
 have hLB:=LB_eq
 refine C_goS (nt:=38) (rs:=[.cell 6 195,.tmp 7]) hm Tryz.func170 rfl rfl rfl rfl rfl (fun hl he=>?_)
 simp -implicitDefEqProofs only [go_sem] at hl ⊢
 refine atCall [] (c_impl_EqsOk s eqs) ?_ ?_ <;> simp -implicitDefEqProofs only [go_sem]
 cases h1:eqsOk s eqs
 ·rw [h1] at hw
  simp only [Bool.false_and,Bool.false_eq_true,if_false] at hw
  simp -implicitDefEqProofs only [go_sem]
  refine fin1' ?_
  simp -implicitDefEqProofs only [go_sem]
  all_goals (simp [hw]; done)
 ·rw [h1] at hw
  simp only [Bool.true_and] at hw
  simp -implicitDefEqProofs only [go_sem]
  refine atCall [] ht ?_ ?_ <;> simp -implicitDefEqProofs only [go_sem,Int.reduceSub,natCast_lit]
  cases h2:(tellsG (tellI eqs) w 400).2
  ·rw [h2] at hw
   simp only [Bool.false_and,Bool.false_eq_true,if_false] at hw
   simp -implicitDefEqProofs only [go_sem]
   refine fin1' ?_
   simp -implicitDefEqProofs only [go_sem]
   all_goals (simp [hw]; done)
  ·rw [h2] at hw
   simp only [Bool.true_and] at hw
   simp -implicitDefEqProofs only [go_sem]
   refine atCall [] (c_impl_EqsOk s [(tellsG (tellI eqs) w 400).1]) ?_ ?_ <;> simp -implicitDefEqProofs only [go_sem,rowsEq_cons]
   cases h3:eqsOk s [(tellsG (tellI eqs) w 400).1]
   ·rw [h3] at hw
    simp only [Bool.false_eq_true,if_false] at hw
    simp -implicitDefEqProofs only [go_sem]
    refine fin1' ?_
    simp -implicitDefEqProofs only [go_sem]
    all_goals (simp [hw]; done)
   ·rw [h3] at hw
    simp only [if_true] at hw
    simp -implicitDefEqProofs only [go_sem]
    refine atCall [] (c_impl_Term_own (tellsG (tellI eqs) w 400).1.A) ?_ ?_ <;> simp -implicitDefEqProofs only [go_sem]
    refine atCall [] (c_impl_Term_own (tellsG (tellI eqs) w 400).1.B) ?_ ?_ <;> simp -implicitDefEqProofs only [go_sem]
    with_reducible refine ind_andM (by kernel_rfl) ?_
    refine fin1' ?_
    simp -implicitDefEqProofs only [go_sem]
    all_goals (simp [hw]; done)
end Go.Proofs.YtlddcknkojieeaaGreat
