/-
  The reference: the walk of what an explanation derives, some rules. A step towards the exact laws.
-/
import Derived.Test.YtlddcknkojieeaaGreatKPI
import Derived.Test.YtlddcknkojieeaaGreatKPE
set_option linter.unusedVariables false
set_option linter.unusedSimpArgs false
namespace Go.Proofs.YtlddcknkojieeaaGreat
open Go.Eng Go.Mod
open Int renaming reduceEq → Z1,reduceLT → Z2,reduceLE → Z3,reduceToNat → Z4
set_option maxRecDepth 100000
set_option maxHeartbeats 400000
theorem c_spec_l5Tells_onea (eqs:List EqD) (w:Why) (ih:∀ k ∈ w.kids,∀ d:Nat,d ≤ 400 → C E.P 191 [lv (rowsEq eqs),av (cWhy k),iv d] [] (Eq2 (.tup [av (cEq (tellsG (tellS eqs) k d).1),bv (tellsG (tellS eqs) k d).2]) [])) (d:Nat) (hd:d + 1 ≤ 400) (w0:¬ w.t.name = []) (hq:isNone w.t = false) (r1:w.rule = 1) :
 C E.P 191 [lv (rowsEq eqs),av (cWhy w),iv ((d + 1:Nat):Int)] [] (Eq2 (.tup [av (cEq (tellsG (tellS eqs) w (d + 1)).1),bv (tellsG (tellS eqs) w (d + 1)).2]) []):=by
 have ht:=tellsG_eq (tellS eqs) w d
 have x1:(0:Int) < (d:Int) + 1:=by omega
 have x2:(d:Int) + 1 - 1 = (d:Int):=by omega
 have x3:¬ (d:Int) + 1 < 1:=by omega
 have hLB:=LB_eq
 refine C_goS (nt:=233) (rs:=[.cell 6 195,.tmp 7]) hm Tryz.func191 rfl rfl rfl rfl rfl (fun hl he=>?_)
 simp -implicitDefEqProofs only [go_sem] at hl ⊢
 simp -implicitDefEqProofs only [go_sem,w0]
 refine loop_go2 hm (fun (i:Nat) (got:List EqD)=> i ≤ w.kids.length ∧ got.length = i ∧ tellssG (tellS eqs) w.kids d = (tellssG (tellS eqs) (w.kids.drop i) d).map (fun es=>got ++ es)) (fun (i:Nat) (got:List EqD)=> ⟨mkS 233 .any [(0,lv (rowsEq eqs)),(2,iv ((d:Int) + 1)),(4,.ptr 0 0),(6,.ptr 1 0),(8,bv false),(9,.acc 2),(10,iv i)],[some (.box (pvs (cWhy w))),some (.box (pvs (cEq eq0))),some (.acc 195 (rowsEq got))]⟩) (fun (i:Nat) (got:List EqD)=> w.kids.length - i) (0) ([]) ?_ (weakS [some 0,some 1,some 2] ?_ ?_ rfl rfl) ?_
 rotate_left
 ·simp -implicitDefEqProofs only [go_sem]
 ·simp -implicitDefEqProofs only [go_sem]
 rotate_left
 ·simp
 ·rintro i got ⟨hi,hgl,hg⟩
  rcases Classical.em (i < w.kids.length) with h1 | h1
  ·rw [tellssG_drop h1] at hg
   simp -implicitDefEqProofs only [go_sem,h1,x1,x2]
   repeat (with_reducible apply And.intro; case left=>omega)
   have hc:=ih w.kids[i] (List.getElem_mem h1) d (by omega)
   refine atCall [] hc ?_ ?_ <;> simp -implicitDefEqProofs only [go_sem]
   cases h2:(tellsG (tellS eqs) w.kids[i] d).2
   ·rw [h2] at hg
    simp only [Bool.false_eq_true,if_false,Option.map_none] at hg
    rw [hg] at ht
    simp only at ht
    simp -implicitDefEqProofs only [go_sem]
    refine fin1' ?_
    simp -implicitDefEqProofs only [go_sem]
    all_goals (simp [ht]; done)
   ·rw [h2] at hg
    simp only [if_true] at hg
    simp -implicitDefEqProofs only [go_sem]
    repeat (with_reducible apply And.intro; case left=>omega)
    refine ⟨i + 1,got ++ [(tellsG (tellS eqs) w.kids[i] d).1],?_,?_,weakS [some 0,some 1,some 4] ?_ ?_ rfl rfl⟩
    rotate_left
    ·show _ < _
     omega
    ·simp -implicitDefEqProofs only [go_sem]
    ·simp -implicitDefEqProofs only [go_sem]
     all_goals ((rw [← rowsEq_app,rowsEq_cons,rowsEq_nil]; rfl))
    refine ⟨h1,by simp [hgl],?_⟩
    rw [hg]
    cases tellssG (tellS eqs) (w.kids.drop (i + 1)) d <;> simp
  ·rw [List.drop_of_length_le (by omega),tellssG] at hg
   simp only [Option.map_some,List.append_nil] at hg
   rw [hg] at ht
   simp only at ht
   have gl:(got.length:Int) ≤ LB:=by omega
   rcases Classical.em (w.n = 0) with hn | hn
   ·rcases Classical.em ((got.length:Int) = 0) with hz | hz
    ·have hz':got.length = 0:=by omega
     have kz:=eq_true hz
     have e3:tellsG (tellS eqs) w (d + 1) = (⟨w.t,w.t⟩,isTerm w.t):=by rw [ht]; simp [tellS,r1,hn,hz']
     simp -implicitDefEqProofs only [go_sem,Z1,h1,x3,r1,hn,kz]
     refine atCall [] (c_spec_l4Right w.t) ?_ ?_ <;> simp -implicitDefEqProofs only [go_sem]
     with_reducible refine ind_andM (by kernel_rfl) ?_
     refine fin1' ?_
     simp -implicitDefEqProofs only [go_sem]
     all_goals (simp [e3]; done)
    ·have hz':¬ got.length = 0:=by omega
     have e3:tellsG (tellS eqs) w (d + 1) = (eq0,false):=by rw [ht]; simp [tellS,r1,hn,hz']
     simp -implicitDefEqProofs only [go_sem,Z1,h1,x3,r1,hn,hz]
     refine fin1' ?_
     simp -implicitDefEqProofs only [go_sem]
     all_goals (simp [e3]; done)
   ·have e3:tellsG (tellS eqs) w (d + 1) = (eq0,false):=by rw [ht]; simp [tellS,r1,hn]
    simp -implicitDefEqProofs only [go_sem,Z1,h1,x3,r1,hn]
    refine fin1' ?_
    simp -implicitDefEqProofs only [go_sem]
    all_goals (simp [e3]; done)
theorem c_spec_l5Tells_oneb (eqs:List EqD) (w:Why) (ih:∀ k ∈ w.kids,∀ d:Nat,d ≤ 400 → C E.P 191 [lv (rowsEq eqs),av (cWhy k),iv d] [] (Eq2 (.tup [av (cEq (tellsG (tellS eqs) k d).1),bv (tellsG (tellS eqs) k d).2]) [])) (d:Nat) (hd:d + 1 ≤ 400) (w0:w.t.name = []) (w1:¬ (w.t.kids.length:Int) = 0) (hq:isNone w.t = false) (r1:w.rule = 1) :
 C E.P 191 [lv (rowsEq eqs),av (cWhy w),iv ((d + 1:Nat):Int)] [] (Eq2 (.tup [av (cEq (tellsG (tellS eqs) w (d + 1)).1),bv (tellsG (tellS eqs) w (d + 1)).2]) []):=by
 have ht:=tellsG_eq (tellS eqs) w d
 have x1:(0:Int) < (d:Int) + 1:=by omega
 have x2:(d:Int) + 1 - 1 = (d:Int):=by omega
 have x3:¬ (d:Int) + 1 < 1:=by omega
 have hLB:=LB_eq
 refine C_goS (nt:=233) (rs:=[.cell 6 195,.tmp 7]) hm Tryz.func191 rfl rfl rfl rfl rfl (fun hl he=>?_)
 simp -implicitDefEqProofs only [go_sem] at hl ⊢
 simp -implicitDefEqProofs only [go_sem,w0,w1]
 refine loop_go2 hm (fun (i:Nat) (got:List EqD)=> i ≤ w.kids.length ∧ got.length = i ∧ tellssG (tellS eqs) w.kids d = (tellssG (tellS eqs) (w.kids.drop i) d).map (fun es=>got ++ es)) (fun (i:Nat) (got:List EqD)=> ⟨mkS 233 .any [(0,lv (rowsEq eqs)),(2,iv ((d:Int) + 1)),(4,.ptr 0 0),(6,.ptr 1 0),(8,bv false),(9,.acc 2),(10,iv i)],[some (.box (pvs (cWhy w))),some (.box (pvs (cEq eq0))),some (.acc 195 (rowsEq got))]⟩) (fun (i:Nat) (got:List EqD)=> w.kids.length - i) (0) ([]) ?_ (weakS [some 0,some 1,some 2] ?_ ?_ rfl rfl) ?_
 rotate_left
 ·simp -implicitDefEqProofs only [go_sem]
 ·simp -implicitDefEqProofs only [go_sem]
  all_goals (simp [*]; done)
 rotate_left
 ·simp
 ·rintro i got ⟨hi,hgl,hg⟩
  rcases Classical.em (i < w.kids.length) with h1 | h1
  ·rw [tellssG_drop h1] at hg
   simp -implicitDefEqProofs only [go_sem,h1,x1,x2]
   repeat (with_reducible apply And.intro; case left=>omega)
   have hc:=ih w.kids[i] (List.getElem_mem h1) d (by omega)
   refine atCall [] hc ?_ ?_ <;> simp -implicitDefEqProofs only [go_sem]
   cases h2:(tellsG (tellS eqs) w.kids[i] d).2
   ·rw [h2] at hg
    simp only [Bool.false_eq_true,if_false,Option.map_none] at hg
    rw [hg] at ht
    simp only at ht
    simp -implicitDefEqProofs only [go_sem]
    refine fin1' ?_
    simp -implicitDefEqProofs only [go_sem]
    all_goals (simp [ht]; done)
   ·rw [h2] at hg
    simp only [if_true] at hg
    simp -implicitDefEqProofs only [go_sem]
    repeat (with_reducible apply And.intro; case left=>omega)
    refine ⟨i + 1,got ++ [(tellsG (tellS eqs) w.kids[i] d).1],?_,?_,weakS [some 0,some 1,some 4] ?_ ?_ rfl rfl⟩
    rotate_left
    ·show _ < _
     omega
    ·simp -implicitDefEqProofs only [go_sem]
    ·simp -implicitDefEqProofs only [go_sem]
     all_goals ((rw [← rowsEq_app,rowsEq_cons,rowsEq_nil]; rfl))
    refine ⟨h1,by simp [hgl],?_⟩
    rw [hg]
    cases tellssG (tellS eqs) (w.kids.drop (i + 1)) d <;> simp
  ·rw [List.drop_of_length_le (by omega),tellssG] at hg
   simp only [Option.map_some,List.append_nil] at hg
   rw [hg] at ht
   simp only at ht
   have gl:(got.length:Int) ≤ LB:=by omega
   rcases Classical.em (w.n = 0) with hn | hn
   ·rcases Classical.em ((got.length:Int) = 0) with hz | hz
    ·have hz':got.length = 0:=by omega
     have kz:=eq_true hz
     have e3:tellsG (tellS eqs) w (d + 1) = (⟨w.t,w.t⟩,isTerm w.t):=by rw [ht]; simp [tellS,r1,hn,hz']
     simp -implicitDefEqProofs only [go_sem,Z1,h1,x3,r1,hn,kz]
     refine atCall [] (c_spec_l4Right w.t) ?_ ?_ <;> simp -implicitDefEqProofs only [go_sem]
     with_reducible refine ind_andM (by kernel_rfl) ?_
     refine fin1' ?_
     simp -implicitDefEqProofs only [go_sem]
     all_goals (simp [e3,w0]; done)
    ·have hz':¬ got.length = 0:=by omega
     have e3:tellsG (tellS eqs) w (d + 1) = (eq0,false):=by rw [ht]; simp [tellS,r1,hn,hz']
     simp -implicitDefEqProofs only [go_sem,Z1,h1,x3,r1,hn,hz]
     refine fin1' ?_
     simp -implicitDefEqProofs only [go_sem]
     all_goals (simp [e3]; done)
   ·have e3:tellsG (tellS eqs) w (d + 1) = (eq0,false):=by rw [ht]; simp [tellS,r1,hn]
    simp -implicitDefEqProofs only [go_sem,Z1,h1,x3,r1,hn]
    refine fin1' ?_
    simp -implicitDefEqProofs only [go_sem]
    all_goals (simp [e3]; done)
theorem c_spec_l5Tells_onec (eqs:List EqD) (w:Why) (ih:∀ k ∈ w.kids,∀ d:Nat,d ≤ 400 → C E.P 191 [lv (rowsEq eqs),av (cWhy k),iv d] [] (Eq2 (.tup [av (cEq (tellsG (tellS eqs) k d).1),bv (tellsG (tellS eqs) k d).2]) [])) (d:Nat) (hd:d + 1 ≤ 400) (w0:w.t.name = []) (w1:((w.t.kids.length:Int) = 0) = True) (hq:isNone w.t = true) (r1:w.rule = 1) :
 C E.P 191 [lv (rowsEq eqs),av (cWhy w),iv ((d + 1:Nat):Int)] [] (Eq2 (.tup [av (cEq (tellsG (tellS eqs) w (d + 1)).1),bv (tellsG (tellS eqs) w (d + 1)).2]) []):=by
 have ht:=tellsG_eq (tellS eqs) w d
 have x1:(0:Int) < (d:Int) + 1:=by omega
 have x2:(d:Int) + 1 - 1 = (d:Int):=by omega
 have x3:¬ (d:Int) + 1 < 1:=by omega
 have hLB:=LB_eq
 refine C_goS (nt:=233) (rs:=[.cell 6 195,.tmp 7]) hm Tryz.func191 rfl rfl rfl rfl rfl (fun hl he=>?_)
 simp -implicitDefEqProofs only [go_sem] at hl ⊢
 simp -implicitDefEqProofs only [go_sem,w0,w1]
 refine loop_go2 hm (fun (i:Nat) (got:List EqD)=> i ≤ w.kids.length ∧ got.length = i ∧ tellssG (tellS eqs) w.kids d = (tellssG (tellS eqs) (w.kids.drop i) d).map (fun es=>got ++ es)) (fun (i:Nat) (got:List EqD)=> ⟨mkS 233 .any [(0,lv (rowsEq eqs)),(2,iv ((d:Int) + 1)),(4,.ptr 0 0),(6,.ptr 1 0),(8,bv true),(9,.acc 2),(10,iv i)],[some (.box (pvs (cWhy w))),some (.box (pvs (cEq eq0))),some (.acc 195 (rowsEq got))]⟩) (fun (i:Nat) (got:List EqD)=> w.kids.length - i) (0) ([]) ?_ (weakS [some 0,some 1,some 2] ?_ ?_ rfl rfl) ?_
 rotate_left
 ·simp -implicitDefEqProofs only [go_sem]
 ·simp -implicitDefEqProofs only [go_sem]
  all_goals (simp [*]; done)
 rotate_left
 ·simp
 ·rintro i got ⟨hi,hgl,hg⟩
  rcases Classical.em (i < w.kids.length) with h1 | h1
  ·rw [tellssG_drop h1] at hg
   simp -implicitDefEqProofs only [go_sem,h1,x1,x2]
   repeat (with_reducible apply And.intro; case left=>omega)
   have hc:=ih w.kids[i] (List.getElem_mem h1) d (by omega)
   refine atCall [] hc ?_ ?_ <;> simp -implicitDefEqProofs only [go_sem]
   cases h2:(tellsG (tellS eqs) w.kids[i] d).2
   ·rw [h2] at hg
    simp only [Bool.false_eq_true,if_false,Option.map_none] at hg
    rw [hg] at ht
    simp only at ht
    simp -implicitDefEqProofs only [go_sem]
    refine fin1' ?_
    simp -implicitDefEqProofs only [go_sem]
    all_goals (simp [ht]; done)
   ·rw [h2] at hg
    simp only [if_true] at hg
    simp -implicitDefEqProofs only [go_sem]
    repeat (with_reducible apply And.intro; case left=>omega)
    refine ⟨i + 1,got ++ [(tellsG (tellS eqs) w.kids[i] d).1],?_,?_,weakS [some 0,some 1,some 4] ?_ ?_ rfl rfl⟩
    rotate_left
    ·show _ < _
     omega
    ·simp -implicitDefEqProofs only [go_sem]
    ·simp -implicitDefEqProofs only [go_sem]
     all_goals ((rw [← rowsEq_app,rowsEq_cons,rowsEq_nil]; rfl))
    refine ⟨h1,by simp [hgl],?_⟩
    rw [hg]
    cases tellssG (tellS eqs) (w.kids.drop (i + 1)) d <;> simp
  ·rw [List.drop_of_length_le (by omega),tellssG] at hg
   simp only [Option.map_some,List.append_nil] at hg
   rw [hg] at ht
   simp only at ht
   have gl:(got.length:Int) ≤ LB:=by omega
   rcases Classical.em (w.n = 0) with hn | hn
   ·rcases Classical.em ((got.length:Int) = 0) with hz | hz
    ·have hz':got.length = 0:=by omega
     have kz:=eq_true hz
     have e3:tellsG (tellS eqs) w (d + 1) = (⟨w.t,w.t⟩,isTerm w.t):=by rw [ht]; simp [tellS,r1,hn,hz']
     simp -implicitDefEqProofs only [go_sem,Z1,h1,x3,r1,hn,kz]
     refine atCall [] (c_spec_l4Right w.t) ?_ ?_ <;> simp -implicitDefEqProofs only [go_sem]
     with_reducible refine ind_andM (by kernel_rfl) ?_
     refine fin1' ?_
     simp -implicitDefEqProofs only [go_sem]
     all_goals (simp [e3,w0]; done)
    ·have hz':¬ got.length = 0:=by omega
     have e3:tellsG (tellS eqs) w (d + 1) = (eq0,false):=by rw [ht]; simp [tellS,r1,hn,hz']
     simp -implicitDefEqProofs only [go_sem,Z1,h1,x3,r1,hn,hz]
     refine fin1' ?_
     simp -implicitDefEqProofs only [go_sem]
     all_goals (simp [e3]; done)
   ·have e3:tellsG (tellS eqs) w (d + 1) = (eq0,false):=by rw [ht]; simp [tellS,r1,hn]
    simp -implicitDefEqProofs only [go_sem,Z1,h1,x3,r1,hn]
    refine fin1' ?_
    simp -implicitDefEqProofs only [go_sem]
    all_goals (simp [e3]; done)
theorem c_spec_l5Tells_twoa (eqs:List EqD) (w:Why) (ih:∀ k ∈ w.kids,∀ d:Nat,d ≤ 400 → C E.P 191 [lv (rowsEq eqs),av (cWhy k),iv d] [] (Eq2 (.tup [av (cEq (tellsG (tellS eqs) k d).1),bv (tellsG (tellS eqs) k d).2]) [])) (d:Nat) (hd:d + 1 ≤ 400) (w0:¬ w.t.name = []) (hq:isNone w.t = false) (r2:w.rule = 2) :
 C E.P 191 [lv (rowsEq eqs),av (cWhy w),iv ((d + 1:Nat):Int)] [] (Eq2 (.tup [av (cEq (tellsG (tellS eqs) w (d + 1)).1),bv (tellsG (tellS eqs) w (d + 1)).2]) []):=by
 have ht:=tellsG_eq (tellS eqs) w d
 have x1:(0:Int) < (d:Int) + 1:=by omega
 have x2:(d:Int) + 1 - 1 = (d:Int):=by omega
 have x3:¬ (d:Int) + 1 < 1:=by omega
 have hLB:=LB_eq
 refine C_goS (nt:=233) (rs:=[.cell 6 195,.tmp 7]) hm Tryz.func191 rfl rfl rfl rfl rfl (fun hl he=>?_)
 simp -implicitDefEqProofs only [go_sem] at hl ⊢
 simp -implicitDefEqProofs only [go_sem,w0]
 refine loop_go2 hm (fun (i:Nat) (got:List EqD)=> i ≤ w.kids.length ∧ got.length = i ∧ tellssG (tellS eqs) w.kids d = (tellssG (tellS eqs) (w.kids.drop i) d).map (fun es=>got ++ es)) (fun (i:Nat) (got:List EqD)=> ⟨mkS 233 .any [(0,lv (rowsEq eqs)),(2,iv ((d:Int) + 1)),(4,.ptr 0 0),(6,.ptr 1 0),(8,bv false),(9,.acc 2),(10,iv i)],[some (.box (pvs (cWhy w))),some (.box (pvs (cEq eq0))),some (.acc 195 (rowsEq got))]⟩) (fun (i:Nat) (got:List EqD)=> w.kids.length - i) (0) ([]) ?_ (weakS [some 0,some 1,some 2] ?_ ?_ rfl rfl) ?_
 rotate_left
 ·simp -implicitDefEqProofs only [go_sem]
 ·simp -implicitDefEqProofs only [go_sem]
 rotate_left
 ·simp
 ·rintro i got ⟨hi,hgl,hg⟩
  rcases Classical.em (i < w.kids.length) with h1 | h1
  ·rw [tellssG_drop h1] at hg
   simp -implicitDefEqProofs only [go_sem,h1,x1,x2]
   repeat (with_reducible apply And.intro; case left=>omega)
   have hc:=ih w.kids[i] (List.getElem_mem h1) d (by omega)
   refine atCall [] hc ?_ ?_ <;> simp -implicitDefEqProofs only [go_sem]
   cases h2:(tellsG (tellS eqs) w.kids[i] d).2
   ·rw [h2] at hg
    simp only [Bool.false_eq_true,if_false,Option.map_none] at hg
    rw [hg] at ht
    simp only at ht
    simp -implicitDefEqProofs only [go_sem]
    refine fin1' ?_
    simp -implicitDefEqProofs only [go_sem]
    all_goals (simp [ht]; done)
   ·rw [h2] at hg
    simp only [if_true] at hg
    simp -implicitDefEqProofs only [go_sem]
    repeat (with_reducible apply And.intro; case left=>omega)
    refine ⟨i + 1,got ++ [(tellsG (tellS eqs) w.kids[i] d).1],?_,?_,weakS [some 0,some 1,some 4] ?_ ?_ rfl rfl⟩
    rotate_left
    ·show _ < _
     omega
    ·simp -implicitDefEqProofs only [go_sem]
    ·simp -implicitDefEqProofs only [go_sem]
     all_goals ((rw [← rowsEq_app,rowsEq_cons,rowsEq_nil]; rfl))
    refine ⟨h1,by simp [hgl],?_⟩
    rw [hg]
    cases tellssG (tellS eqs) (w.kids.drop (i + 1)) d <;> simp
  ·rw [List.drop_of_length_le (by omega),tellssG] at hg
   simp only [Option.map_some,List.append_nil] at hg
   rw [hg] at ht
   simp only at ht
   have gl:(got.length:Int) ≤ LB:=by omega
   have e3:tellsG (tellS eqs) w (d + 1) = (eq0,false):=by rw [ht]; simp [tellS,r2,hq]
   rcases Classical.em ((got.length:Int) = 0) with hz | hz
   ·have kz:=eq_true hz
    simp -implicitDefEqProofs only [go_sem,Z1,h1,x3,r2,kz]
    refine fin1' ?_
    simp -implicitDefEqProofs only [go_sem]
    all_goals (simp [e3]; done)
   ·simp -implicitDefEqProofs only [go_sem,Z1,h1,x3,r2,hz]
    refine fin1' ?_
    simp -implicitDefEqProofs only [go_sem]
    all_goals (simp [e3]; done)
theorem c_spec_l5Tells_twob (eqs:List EqD) (w:Why) (ih:∀ k ∈ w.kids,∀ d:Nat,d ≤ 400 → C E.P 191 [lv (rowsEq eqs),av (cWhy k),iv d] [] (Eq2 (.tup [av (cEq (tellsG (tellS eqs) k d).1),bv (tellsG (tellS eqs) k d).2]) [])) (d:Nat) (hd:d + 1 ≤ 400) (w0:w.t.name = []) (w1:¬ (w.t.kids.length:Int) = 0) (hq:isNone w.t = false) (r2:w.rule = 2) :
 C E.P 191 [lv (rowsEq eqs),av (cWhy w),iv ((d + 1:Nat):Int)] [] (Eq2 (.tup [av (cEq (tellsG (tellS eqs) w (d + 1)).1),bv (tellsG (tellS eqs) w (d + 1)).2]) []):=by
 have ht:=tellsG_eq (tellS eqs) w d
 have x1:(0:Int) < (d:Int) + 1:=by omega
 have x2:(d:Int) + 1 - 1 = (d:Int):=by omega
 have x3:¬ (d:Int) + 1 < 1:=by omega
 have hLB:=LB_eq
 refine C_goS (nt:=233) (rs:=[.cell 6 195,.tmp 7]) hm Tryz.func191 rfl rfl rfl rfl rfl (fun hl he=>?_)
 simp -implicitDefEqProofs only [go_sem] at hl ⊢
 simp -implicitDefEqProofs only [go_sem,w0,w1]
 refine loop_go2 hm (fun (i:Nat) (got:List EqD)=> i ≤ w.kids.length ∧ got.length = i ∧ tellssG (tellS eqs) w.kids d = (tellssG (tellS eqs) (w.kids.drop i) d).map (fun es=>got ++ es)) (fun (i:Nat) (got:List EqD)=> ⟨mkS 233 .any [(0,lv (rowsEq eqs)),(2,iv ((d:Int) + 1)),(4,.ptr 0 0),(6,.ptr 1 0),(8,bv false),(9,.acc 2),(10,iv i)],[some (.box (pvs (cWhy w))),some (.box (pvs (cEq eq0))),some (.acc 195 (rowsEq got))]⟩) (fun (i:Nat) (got:List EqD)=> w.kids.length - i) (0) ([]) ?_ (weakS [some 0,some 1,some 2] ?_ ?_ rfl rfl) ?_
 rotate_left
 ·simp -implicitDefEqProofs only [go_sem]
 ·simp -implicitDefEqProofs only [go_sem]
  all_goals (simp [*]; done)
 rotate_left
 ·simp
 ·rintro i got ⟨hi,hgl,hg⟩
  rcases Classical.em (i < w.kids.length) with h1 | h1
  ·rw [tellssG_drop h1] at hg
   simp -implicitDefEqProofs only [go_sem,h1,x1,x2]
   repeat (with_reducible apply And.intro; case left=>omega)
   have hc:=ih w.kids[i] (List.getElem_mem h1) d (by omega)
   refine atCall [] hc ?_ ?_ <;> simp -implicitDefEqProofs only [go_sem]
   cases h2:(tellsG (tellS eqs) w.kids[i] d).2
   ·rw [h2] at hg
    simp only [Bool.false_eq_true,if_false,Option.map_none] at hg
    rw [hg] at ht
    simp only at ht
    simp -implicitDefEqProofs only [go_sem]
    refine fin1' ?_
    simp -implicitDefEqProofs only [go_sem]
    all_goals (simp [ht]; done)
   ·rw [h2] at hg
    simp only [if_true] at hg
    simp -implicitDefEqProofs only [go_sem]
    repeat (with_reducible apply And.intro; case left=>omega)
    refine ⟨i + 1,got ++ [(tellsG (tellS eqs) w.kids[i] d).1],?_,?_,weakS [some 0,some 1,some 4] ?_ ?_ rfl rfl⟩
    rotate_left
    ·show _ < _
     omega
    ·simp -implicitDefEqProofs only [go_sem]
    ·simp -implicitDefEqProofs only [go_sem]
     all_goals ((rw [← rowsEq_app,rowsEq_cons,rowsEq_nil]; rfl))
    refine ⟨h1,by simp [hgl],?_⟩
    rw [hg]
    cases tellssG (tellS eqs) (w.kids.drop (i + 1)) d <;> simp
  ·rw [List.drop_of_length_le (by omega),tellssG] at hg
   simp only [Option.map_some,List.append_nil] at hg
   rw [hg] at ht
   simp only at ht
   have gl:(got.length:Int) ≤ LB:=by omega
   have e3:tellsG (tellS eqs) w (d + 1) = (eq0,false):=by rw [ht]; simp [tellS,r2,hq]
   rcases Classical.em ((got.length:Int) = 0) with hz | hz
   ·have kz:=eq_true hz
    simp -implicitDefEqProofs only [go_sem,Z1,h1,x3,r2,kz]
    refine fin1' ?_
    simp -implicitDefEqProofs only [go_sem]
    all_goals (simp [e3]; done)
   ·simp -implicitDefEqProofs only [go_sem,Z1,h1,x3,r2,hz]
    refine fin1' ?_
    simp -implicitDefEqProofs only [go_sem]
    all_goals (simp [e3]; done)
theorem c_spec_l5Tells_twoc (eqs:List EqD) (w:Why) (ih:∀ k ∈ w.kids,∀ d:Nat,d ≤ 400 → C E.P 191 [lv (rowsEq eqs),av (cWhy k),iv d] [] (Eq2 (.tup [av (cEq (tellsG (tellS eqs) k d).1),bv (tellsG (tellS eqs) k d).2]) [])) (d:Nat) (hd:d + 1 ≤ 400) (w0:w.t.name = []) (w1:((w.t.kids.length:Int) = 0) = True) (hq:isNone w.t = true) (r2:w.rule = 2) :
 C E.P 191 [lv (rowsEq eqs),av (cWhy w),iv ((d + 1:Nat):Int)] [] (Eq2 (.tup [av (cEq (tellsG (tellS eqs) w (d + 1)).1),bv (tellsG (tellS eqs) w (d + 1)).2]) []):=by
 have ht:=tellsG_eq (tellS eqs) w d
 have x1:(0:Int) < (d:Int) + 1:=by omega
 have x2:(d:Int) + 1 - 1 = (d:Int):=by omega
 have x3:¬ (d:Int) + 1 < 1:=by omega
 have hLB:=LB_eq
 refine C_goS (nt:=233) (rs:=[.cell 6 195,.tmp 7]) hm Tryz.func191 rfl rfl rfl rfl rfl (fun hl he=>?_)
 simp -implicitDefEqProofs only [go_sem] at hl ⊢
 simp -implicitDefEqProofs only [go_sem,w0,w1]
 refine loop_go2 hm (fun (i:Nat) (got:List EqD)=> i ≤ w.kids.length ∧ got.length = i ∧ tellssG (tellS eqs) w.kids d = (tellssG (tellS eqs) (w.kids.drop i) d).map (fun es=>got ++ es)) (fun (i:Nat) (got:List EqD)=> ⟨mkS 233 .any [(0,lv (rowsEq eqs)),(2,iv ((d:Int) + 1)),(4,.ptr 0 0),(6,.ptr 1 0),(8,bv true),(9,.acc 2),(10,iv i)],[some (.box (pvs (cWhy w))),some (.box (pvs (cEq eq0))),some (.acc 195 (rowsEq got))]⟩) (fun (i:Nat) (got:List EqD)=> w.kids.length - i) (0) ([]) ?_ (weakS [some 0,some 1,some 2] ?_ ?_ rfl rfl) ?_
 rotate_left
 ·simp -implicitDefEqProofs only [go_sem]
 ·simp -implicitDefEqProofs only [go_sem]
  all_goals (simp [*]; done)
 rotate_left
 ·simp
 ·rintro i got ⟨hi,hgl,hg⟩
  rcases Classical.em (i < w.kids.length) with h1 | h1
  ·rw [tellssG_drop h1] at hg
   simp -implicitDefEqProofs only [go_sem,h1,x1,x2]
   repeat (with_reducible apply And.intro; case left=>omega)
   have hc:=ih w.kids[i] (List.getElem_mem h1) d (by omega)
   refine atCall [] hc ?_ ?_ <;> simp -implicitDefEqProofs only [go_sem]
   cases h2:(tellsG (tellS eqs) w.kids[i] d).2
   ·rw [h2] at hg
    simp only [Bool.false_eq_true,if_false,Option.map_none] at hg
    rw [hg] at ht
    simp only at ht
    simp -implicitDefEqProofs only [go_sem]
    refine fin1' ?_
    simp -implicitDefEqProofs only [go_sem]
    all_goals (simp [ht]; done)
   ·rw [h2] at hg
    simp only [if_true] at hg
    simp -implicitDefEqProofs only [go_sem]
    repeat (with_reducible apply And.intro; case left=>omega)
    refine ⟨i + 1,got ++ [(tellsG (tellS eqs) w.kids[i] d).1],?_,?_,weakS [some 0,some 1,some 4] ?_ ?_ rfl rfl⟩
    rotate_left
    ·show _ < _
     omega
    ·simp -implicitDefEqProofs only [go_sem]
    ·simp -implicitDefEqProofs only [go_sem]
     all_goals ((rw [← rowsEq_app,rowsEq_cons,rowsEq_nil]; rfl))
    refine ⟨h1,by simp [hgl],?_⟩
    rw [hg]
    cases tellssG (tellS eqs) (w.kids.drop (i + 1)) d <;> simp
  ·rw [List.drop_of_length_le (by omega),tellssG] at hg
   simp only [Option.map_some,List.append_nil] at hg
   rw [hg] at ht
   simp only at ht
   have gl:(got.length:Int) ≤ LB:=by omega
   rcases Classical.em ((got.length:Int) = 0) with hz | hz
   ·have hz':got.length = 0:=by omega
    have kz:=eq_true hz
    rcases Classical.em (0 ≤ w.n) with n0 | n0
    ·rcases Classical.em (w.n < (eqs.length:Int)) with n1 | n1
     ·have hlt:w.n.toNat < eqs.length:=by omega
      have hg2:eqs.getD w.n.toNat eq0 = eqs[w.n.toNat]:=getD_lt hlt _
      have e3:tellsG (tellS eqs) w (d + 1) = (eqs[w.n.toNat],true):=by rw [ht,← hg2]; simp [tellS,r2,hq,hz',n0,n1]
      simp -implicitDefEqProofs only [go_sem,Z1,h1,x3,r2,kz,n0,n1,hlt]
      refine fin1' ?_
      simp -implicitDefEqProofs only [go_sem]
      all_goals (simp [e3]; done)
     ·have e3:tellsG (tellS eqs) w (d + 1) = (eq0,false):=by rw [ht]; simp [tellS,r2,n1]
      simp -implicitDefEqProofs only [go_sem,Z1,h1,x3,r2,kz,n0,n1]
      refine fin1' ?_
      simp -implicitDefEqProofs only [go_sem]
      all_goals (simp [e3]; done)
    ·have e3:tellsG (tellS eqs) w (d + 1) = (eq0,false):=by rw [ht]; simp [tellS,r2,n0]
     simp -implicitDefEqProofs only [go_sem,Z1,h1,x3,r2,kz,n0]
     refine fin1' ?_
     simp -implicitDefEqProofs only [go_sem]
     all_goals (simp [e3]; done)
   ·have hz':¬ got.length = 0:=by omega
    have e3:tellsG (tellS eqs) w (d + 1) = (eq0,false):=by rw [ht]; simp [tellS,r2,hz']
    simp -implicitDefEqProofs only [go_sem,Z1,h1,x3,r2,hz]
    refine fin1' ?_
    simp -implicitDefEqProofs only [go_sem]
    all_goals (simp [e3]; done)
end Go.Proofs.YtlddcknkojieeaaGreat
namespace Go.Proofs.YtlddcknkojieeaaGreat
open Go.Eng Go.Mod
open Int renaming reduceEq → Z1,reduceLT → Z2,reduceLE → Z3,reduceToNat → Z4
set_option maxRecDepth 100000
set_option maxHeartbeats 400000
theorem c_spec_l5Tells_threea (eqs:List EqD) (w:Why) (ih:∀ k ∈ w.kids,∀ d:Nat,d ≤ 400 → C E.P 191 [lv (rowsEq eqs),av (cWhy k),iv d] [] (Eq2 (.tup [av (cEq (tellsG (tellS eqs) k d).1),bv (tellsG (tellS eqs) k d).2]) [])) (d:Nat) (hd:d + 1 ≤ 400) (w0:¬ w.t.name = []) (hq:isNone w.t = false) (r3:w.rule = 3) :
 C E.P 191 [lv (rowsEq eqs),av (cWhy w),iv ((d + 1:Nat):Int)] [] (Eq2 (.tup [av (cEq (tellsG (tellS eqs) w (d + 1)).1),bv (tellsG (tellS eqs) w (d + 1)).2]) []):=by
 have ht:=tellsG_eq (tellS eqs) w d
 have x1:(0:Int) < (d:Int) + 1:=by omega
 have x2:(d:Int) + 1 - 1 = (d:Int):=by omega
 have x3:¬ (d:Int) + 1 < 1:=by omega
 have hLB:=LB_eq
 refine C_goS (nt:=233) (rs:=[.cell 6 195,.tmp 7]) hm Tryz.func191 rfl rfl rfl rfl rfl (fun hl he=>?_)
 simp -implicitDefEqProofs only [go_sem] at hl ⊢
 simp -implicitDefEqProofs only [go_sem,w0]
 refine loop_go2 hm (fun (i:Nat) (got:List EqD)=> i ≤ w.kids.length ∧ got.length = i ∧ tellssG (tellS eqs) w.kids d = (tellssG (tellS eqs) (w.kids.drop i) d).map (fun es=>got ++ es)) (fun (i:Nat) (got:List EqD)=> ⟨mkS 233 .any [(0,lv (rowsEq eqs)),(2,iv ((d:Int) + 1)),(4,.ptr 0 0),(6,.ptr 1 0),(8,bv false),(9,.acc 2),(10,iv i)],[some (.box (pvs (cWhy w))),some (.box (pvs (cEq eq0))),some (.acc 195 (rowsEq got))]⟩) (fun (i:Nat) (got:List EqD)=> w.kids.length - i) (0) ([]) ?_ (weakS [some 0,some 1,some 2] ?_ ?_ rfl rfl) ?_
 rotate_left
 ·simp -implicitDefEqProofs only [go_sem]
 ·simp -implicitDefEqProofs only [go_sem]
 rotate_left
 ·simp
 ·rintro i got ⟨hi,hgl,hg⟩
  rcases Classical.em (i < w.kids.length) with h1 | h1
  ·rw [tellssG_drop h1] at hg
   simp -implicitDefEqProofs only [go_sem,h1,x1,x2]
   repeat (with_reducible apply And.intro; case left=>omega)
   have hc:=ih w.kids[i] (List.getElem_mem h1) d (by omega)
   refine atCall [] hc ?_ ?_ <;> simp -implicitDefEqProofs only [go_sem]
   cases h2:(tellsG (tellS eqs) w.kids[i] d).2
   ·rw [h2] at hg
    simp only [Bool.false_eq_true,if_false,Option.map_none] at hg
    rw [hg] at ht
    simp only at ht
    simp -implicitDefEqProofs only [go_sem]
    refine fin1' ?_
    simp -implicitDefEqProofs only [go_sem]
    all_goals (simp [ht]; done)
   ·rw [h2] at hg
    simp only [if_true] at hg
    simp -implicitDefEqProofs only [go_sem]
    repeat (with_reducible apply And.intro; case left=>omega)
    refine ⟨i + 1,got ++ [(tellsG (tellS eqs) w.kids[i] d).1],?_,?_,weakS [some 0,some 1,some 4] ?_ ?_ rfl rfl⟩
    rotate_left
    ·show _ < _
     omega
    ·simp -implicitDefEqProofs only [go_sem]
    ·simp -implicitDefEqProofs only [go_sem]
     all_goals ((rw [← rowsEq_app,rowsEq_cons,rowsEq_nil]; rfl))
    refine ⟨h1,by simp [hgl],?_⟩
    rw [hg]
    cases tellssG (tellS eqs) (w.kids.drop (i + 1)) d <;> simp
  ·rw [List.drop_of_length_le (by omega),tellssG] at hg
   simp only [Option.map_some,List.append_nil] at hg
   rw [hg] at ht
   simp only at ht
   have gl:(got.length:Int) ≤ LB:=by omega
   rcases Classical.em (w.n = 0) with hn | hn
   ·rcases Classical.em ((got.length:Int) = 1) with hz | hz
    ·have hz':got.length = 1:=by omega
     have kz:=eq_true hz
     have e3:tellsG (tellS eqs) w (d + 1) = (eq0,false):=by rw [ht]; simp [tellS,r3,hq]
     simp -implicitDefEqProofs only [go_sem,Z1,h1,x3,r3,hn,kz]
     refine fin1' ?_
     simp -implicitDefEqProofs only [go_sem]
     all_goals (simp [e3]; done)
    ·have hz':¬ got.length = 1:=by omega
     have e3:tellsG (tellS eqs) w (d + 1) = (eq0,false):=by rw [ht]; simp [tellS,r3,hn,hz']
     simp -implicitDefEqProofs only [go_sem,Z1,h1,x3,r3,hn,hz]
     refine fin1' ?_
     simp -implicitDefEqProofs only [go_sem]
     all_goals (simp [e3]; done)
   ·have e3:tellsG (tellS eqs) w (d + 1) = (eq0,false):=by rw [ht]; simp [tellS,r3,hn]
    simp -implicitDefEqProofs only [go_sem,Z1,h1,x3,r3,hn]
    refine fin1' ?_
    simp -implicitDefEqProofs only [go_sem]
    all_goals (simp [e3]; done)
theorem c_spec_l5Tells_threeb (eqs:List EqD) (w:Why) (ih:∀ k ∈ w.kids,∀ d:Nat,d ≤ 400 → C E.P 191 [lv (rowsEq eqs),av (cWhy k),iv d] [] (Eq2 (.tup [av (cEq (tellsG (tellS eqs) k d).1),bv (tellsG (tellS eqs) k d).2]) [])) (d:Nat) (hd:d + 1 ≤ 400) (w0:w.t.name = []) (w1:¬ (w.t.kids.length:Int) = 0) (hq:isNone w.t = false) (r3:w.rule = 3) :
 C E.P 191 [lv (rowsEq eqs),av (cWhy w),iv ((d + 1:Nat):Int)] [] (Eq2 (.tup [av (cEq (tellsG (tellS eqs) w (d + 1)).1),bv (tellsG (tellS eqs) w (d + 1)).2]) []):=by
 have ht:=tellsG_eq (tellS eqs) w d
 have x1:(0:Int) < (d:Int) + 1:=by omega
 have x2:(d:Int) + 1 - 1 = (d:Int):=by omega
 have x3:¬ (d:Int) + 1 < 1:=by omega
 have hLB:=LB_eq
 refine C_goS (nt:=233) (rs:=[.cell 6 195,.tmp 7]) hm Tryz.func191 rfl rfl rfl rfl rfl (fun hl he=>?_)
 simp -implicitDefEqProofs only [go_sem] at hl ⊢
 simp -implicitDefEqProofs only [go_sem,w0,w1]
 refine loop_go2 hm (fun (i:Nat) (got:List EqD)=> i ≤ w.kids.length ∧ got.length = i ∧ tellssG (tellS eqs) w.kids d = (tellssG (tellS eqs) (w.kids.drop i) d).map (fun es=>got ++ es)) (fun (i:Nat) (got:List EqD)=> ⟨mkS 233 .any [(0,lv (rowsEq eqs)),(2,iv ((d:Int) + 1)),(4,.ptr 0 0),(6,.ptr 1 0),(8,bv false),(9,.acc 2),(10,iv i)],[some (.box (pvs (cWhy w))),some (.box (pvs (cEq eq0))),some (.acc 195 (rowsEq got))]⟩) (fun (i:Nat) (got:List EqD)=> w.kids.length - i) (0) ([]) ?_ (weakS [some 0,some 1,some 2] ?_ ?_ rfl rfl) ?_
 rotate_left
 ·simp -implicitDefEqProofs only [go_sem]
 ·simp -implicitDefEqProofs only [go_sem]
  all_goals (simp [*]; done)
 rotate_left
 ·simp
 ·rintro i got ⟨hi,hgl,hg⟩
  rcases Classical.em (i < w.kids.length) with h1 | h1
  ·rw [tellssG_drop h1] at hg
   simp -implicitDefEqProofs only [go_sem,h1,x1,x2]
   repeat (with_reducible apply And.intro; case left=>omega)
   have hc:=ih w.kids[i] (List.getElem_mem h1) d (by omega)
   refine atCall [] hc ?_ ?_ <;> simp -implicitDefEqProofs only [go_sem]
   cases h2:(tellsG (tellS eqs) w.kids[i] d).2
   ·rw [h2] at hg
    simp only [Bool.false_eq_true,if_false,Option.map_none] at hg
    rw [hg] at ht
    simp only at ht
    simp -implicitDefEqProofs only [go_sem]
    refine fin1' ?_
    simp -implicitDefEqProofs only [go_sem]
    all_goals (simp [ht]; done)
   ·rw [h2] at hg
    simp only [if_true] at hg
    simp -implicitDefEqProofs only [go_sem]
    repeat (with_reducible apply And.intro; case left=>omega)
    refine ⟨i + 1,got ++ [(tellsG (tellS eqs) w.kids[i] d).1],?_,?_,weakS [some 0,some 1,some 4] ?_ ?_ rfl rfl⟩
    rotate_left
    ·show _ < _
     omega
    ·simp -implicitDefEqProofs only [go_sem]
    ·simp -implicitDefEqProofs only [go_sem]
     all_goals ((rw [← rowsEq_app,rowsEq_cons,rowsEq_nil]; rfl))
    refine ⟨h1,by simp [hgl],?_⟩
    rw [hg]
    cases tellssG (tellS eqs) (w.kids.drop (i + 1)) d <;> simp
  ·rw [List.drop_of_length_le (by omega),tellssG] at hg
   simp only [Option.map_some,List.append_nil] at hg
   rw [hg] at ht
   simp only at ht
   have gl:(got.length:Int) ≤ LB:=by omega
   rcases Classical.em (w.n = 0) with hn | hn
   ·rcases Classical.em ((got.length:Int) = 1) with hz | hz
    ·have hz':got.length = 1:=by omega
     have kz:=eq_true hz
     have e3:tellsG (tellS eqs) w (d + 1) = (eq0,false):=by rw [ht]; simp [tellS,r3,hq]
     simp -implicitDefEqProofs only [go_sem,Z1,h1,x3,r3,hn,kz]
     refine fin1' ?_
     simp -implicitDefEqProofs only [go_sem]
     all_goals (simp [e3]; done)
    ·have hz':¬ got.length = 1:=by omega
     have e3:tellsG (tellS eqs) w (d + 1) = (eq0,false):=by rw [ht]; simp [tellS,r3,hn,hz']
     simp -implicitDefEqProofs only [go_sem,Z1,h1,x3,r3,hn,hz]
     refine fin1' ?_
     simp -implicitDefEqProofs only [go_sem]
     all_goals (simp [e3]; done)
   ·have e3:tellsG (tellS eqs) w (d + 1) = (eq0,false):=by rw [ht]; simp [tellS,r3,hn]
    simp -implicitDefEqProofs only [go_sem,Z1,h1,x3,r3,hn]
    refine fin1' ?_
    simp -implicitDefEqProofs only [go_sem]
    all_goals (simp [e3]; done)
theorem c_spec_l5Tells_threec (eqs:List EqD) (w:Why) (ih:∀ k ∈ w.kids,∀ d:Nat,d ≤ 400 → C E.P 191 [lv (rowsEq eqs),av (cWhy k),iv d] [] (Eq2 (.tup [av (cEq (tellsG (tellS eqs) k d).1),bv (tellsG (tellS eqs) k d).2]) [])) (d:Nat) (hd:d + 1 ≤ 400) (w0:w.t.name = []) (w1:((w.t.kids.length:Int) = 0) = True) (hq:isNone w.t = true) (r3:w.rule = 3) :
 C E.P 191 [lv (rowsEq eqs),av (cWhy w),iv ((d + 1:Nat):Int)] [] (Eq2 (.tup [av (cEq (tellsG (tellS eqs) w (d + 1)).1),bv (tellsG (tellS eqs) w (d + 1)).2]) []):=by
 have ht:=tellsG_eq (tellS eqs) w d
 have x1:(0:Int) < (d:Int) + 1:=by omega
 have x2:(d:Int) + 1 - 1 = (d:Int):=by omega
 have x3:¬ (d:Int) + 1 < 1:=by omega
 have hLB:=LB_eq
 refine C_goS (nt:=233) (rs:=[.cell 6 195,.tmp 7]) hm Tryz.func191 rfl rfl rfl rfl rfl (fun hl he=>?_)
 simp -implicitDefEqProofs only [go_sem] at hl ⊢
 simp -implicitDefEqProofs only [go_sem,w0,w1]
 refine loop_go2 hm (fun (i:Nat) (got:List EqD)=> i ≤ w.kids.length ∧ got.length = i ∧ tellssG (tellS eqs) w.kids d = (tellssG (tellS eqs) (w.kids.drop i) d).map (fun es=>got ++ es)) (fun (i:Nat) (got:List EqD)=> ⟨mkS 233 .any [(0,lv (rowsEq eqs)),(2,iv ((d:Int) + 1)),(4,.ptr 0 0),(6,.ptr 1 0),(8,bv true),(9,.acc 2),(10,iv i)],[some (.box (pvs (cWhy w))),some (.box (pvs (cEq eq0))),some (.acc 195 (rowsEq got))]⟩) (fun (i:Nat) (got:List EqD)=> w.kids.length - i) (0) ([]) ?_ (weakS [some 0,some 1,some 2] ?_ ?_ rfl rfl) ?_
 rotate_left
 ·simp -implicitDefEqProofs only [go_sem]
 ·simp -implicitDefEqProofs only [go_sem]
  all_goals (simp [*]; done)
 rotate_left
 ·simp
 ·rintro i got ⟨hi,hgl,hg⟩
  rcases Classical.em (i < w.kids.length) with h1 | h1
  ·rw [tellssG_drop h1] at hg
   simp -implicitDefEqProofs only [go_sem,h1,x1,x2]
   repeat (with_reducible apply And.intro; case left=>omega)
   have hc:=ih w.kids[i] (List.getElem_mem h1) d (by omega)
   refine atCall [] hc ?_ ?_ <;> simp -implicitDefEqProofs only [go_sem]
   cases h2:(tellsG (tellS eqs) w.kids[i] d).2
   ·rw [h2] at hg
    simp only [Bool.false_eq_true,if_false,Option.map_none] at hg
    rw [hg] at ht
    simp only at ht
    simp -implicitDefEqProofs only [go_sem]
    refine fin1' ?_
    simp -implicitDefEqProofs only [go_sem]
    all_goals (simp [ht]; done)
   ·rw [h2] at hg
    simp only [if_true] at hg
    simp -implicitDefEqProofs only [go_sem]
    repeat (with_reducible apply And.intro; case left=>omega)
    refine ⟨i + 1,got ++ [(tellsG (tellS eqs) w.kids[i] d).1],?_,?_,weakS [some 0,some 1,some 4] ?_ ?_ rfl rfl⟩
    rotate_left
    ·show _ < _
     omega
    ·simp -implicitDefEqProofs only [go_sem]
    ·simp -implicitDefEqProofs only [go_sem]
     all_goals ((rw [← rowsEq_app,rowsEq_cons,rowsEq_nil]; rfl))
    refine ⟨h1,by simp [hgl],?_⟩
    rw [hg]
    cases tellssG (tellS eqs) (w.kids.drop (i + 1)) d <;> simp
  ·rw [List.drop_of_length_le (by omega),tellssG] at hg
   simp only [Option.map_some,List.append_nil] at hg
   rw [hg] at ht
   simp only at ht
   have gl:(got.length:Int) ≤ LB:=by omega
   rcases Classical.em (w.n = 0) with hn | hn
   ·rcases Classical.em ((got.length:Int) = 1) with hz | hz
    ·have hz':got.length = 1:=by omega
     have kz:=eq_true hz
     have h0:0 < got.length:=by omega
     have hg0:got.getD 0 eq0 = got[0]:=getD_lt h0 _
     have e3:tellsG (tellS eqs) w (d + 1) = (⟨got[0].B,got[0].A⟩,true):=by rw [ht,← hg0]; simp [tellS,r3,hn,hq,hz']
     simp -implicitDefEqProofs only [go_sem,Z1,h1,x3,r3,hn,kz,h0]
     with_reducible refine ind_andM (by kernel_rfl) ?_
     refine fin1' ?_
     simp -implicitDefEqProofs only [go_sem]
     all_goals (simp [e3]; done)
    ·have hz':¬ got.length = 1:=by omega
     have e3:tellsG (tellS eqs) w (d + 1) = (eq0,false):=by rw [ht]; simp [tellS,r3,hn,hz']
     simp -implicitDefEqProofs only [go_sem,Z1,h1,x3,r3,hn,hz]
     refine fin1' ?_
     simp -implicitDefEqProofs only [go_sem]
     all_goals (simp [e3]; done)
   ·have e3:tellsG (tellS eqs) w (d + 1) = (eq0,false):=by rw [ht]; simp [tellS,r3,hn]
    simp -implicitDefEqProofs only [go_sem,Z1,h1,x3,r3,hn]
    refine fin1' ?_
    simp -implicitDefEqProofs only [go_sem]
    all_goals (simp [e3]; done)
theorem c_spec_l5Tells_foura (eqs:List EqD) (w:Why) (ih:∀ k ∈ w.kids,∀ d:Nat,d ≤ 400 → C E.P 191 [lv (rowsEq eqs),av (cWhy k),iv d] [] (Eq2 (.tup [av (cEq (tellsG (tellS eqs) k d).1),bv (tellsG (tellS eqs) k d).2]) [])) (d:Nat) (hd:d + 1 ≤ 400) (w0:¬ w.t.name = []) (hq:isNone w.t = false) (r4:w.rule = 4) :
 C E.P 191 [lv (rowsEq eqs),av (cWhy w),iv ((d + 1:Nat):Int)] [] (Eq2 (.tup [av (cEq (tellsG (tellS eqs) w (d + 1)).1),bv (tellsG (tellS eqs) w (d + 1)).2]) []):=by
 have ht:=tellsG_eq (tellS eqs) w d
 have x1:(0:Int) < (d:Int) + 1:=by omega
 have x2:(d:Int) + 1 - 1 = (d:Int):=by omega
 have x3:¬ (d:Int) + 1 < 1:=by omega
 have hLB:=LB_eq
 refine C_goS (nt:=233) (rs:=[.cell 6 195,.tmp 7]) hm Tryz.func191 rfl rfl rfl rfl rfl (fun hl he=>?_)
 simp -implicitDefEqProofs only [go_sem] at hl ⊢
 simp -implicitDefEqProofs only [go_sem,w0]
 refine loop_go2 hm (fun (i:Nat) (got:List EqD)=> i ≤ w.kids.length ∧ got.length = i ∧ tellssG (tellS eqs) w.kids d = (tellssG (tellS eqs) (w.kids.drop i) d).map (fun es=>got ++ es)) (fun (i:Nat) (got:List EqD)=> ⟨mkS 233 .any [(0,lv (rowsEq eqs)),(2,iv ((d:Int) + 1)),(4,.ptr 0 0),(6,.ptr 1 0),(8,bv false),(9,.acc 2),(10,iv i)],[some (.box (pvs (cWhy w))),some (.box (pvs (cEq eq0))),some (.acc 195 (rowsEq got))]⟩) (fun (i:Nat) (got:List EqD)=> w.kids.length - i) (0) ([]) ?_ (weakS [some 0,some 1,some 2] ?_ ?_ rfl rfl) ?_
 rotate_left
 ·simp -implicitDefEqProofs only [go_sem]
 ·simp -implicitDefEqProofs only [go_sem]
 rotate_left
 ·simp
 ·rintro i got ⟨hi,hgl,hg⟩
  rcases Classical.em (i < w.kids.length) with h1 | h1
  ·rw [tellssG_drop h1] at hg
   simp -implicitDefEqProofs only [go_sem,h1,x1,x2]
   repeat (with_reducible apply And.intro; case left=>omega)
   have hc:=ih w.kids[i] (List.getElem_mem h1) d (by omega)
   refine atCall [] hc ?_ ?_ <;> simp -implicitDefEqProofs only [go_sem]
   cases h2:(tellsG (tellS eqs) w.kids[i] d).2
   ·rw [h2] at hg
    simp only [Bool.false_eq_true,if_false,Option.map_none] at hg
    rw [hg] at ht
    simp only at ht
    simp -implicitDefEqProofs only [go_sem]
    refine fin1' ?_
    simp -implicitDefEqProofs only [go_sem]
    all_goals (simp [ht]; done)
   ·rw [h2] at hg
    simp only [if_true] at hg
    simp -implicitDefEqProofs only [go_sem]
    repeat (with_reducible apply And.intro; case left=>omega)
    refine ⟨i + 1,got ++ [(tellsG (tellS eqs) w.kids[i] d).1],?_,?_,weakS [some 0,some 1,some 4] ?_ ?_ rfl rfl⟩
    rotate_left
    ·show _ < _
     omega
    ·simp -implicitDefEqProofs only [go_sem]
    ·simp -implicitDefEqProofs only [go_sem]
     all_goals ((rw [← rowsEq_app,rowsEq_cons,rowsEq_nil]; rfl))
    refine ⟨h1,by simp [hgl],?_⟩
    rw [hg]
    cases tellssG (tellS eqs) (w.kids.drop (i + 1)) d <;> simp
  ·rw [List.drop_of_length_le (by omega),tellssG] at hg
   simp only [Option.map_some,List.append_nil] at hg
   rw [hg] at ht
   simp only at ht
   have gl:(got.length:Int) ≤ LB:=by omega
   rcases Classical.em (w.n = 0) with hn | hn
   ·rcases Classical.em ((got.length:Int) = 2) with hz | hz
    ·have hz':got.length = 2:=by omega
     have kz:=eq_true hz
     have e3:tellsG (tellS eqs) w (d + 1) = (eq0,false):=by rw [ht]; simp [tellS,r4,hq]
     simp -implicitDefEqProofs only [go_sem,Z1,h1,x3,r4,hn,kz]
     refine fin1' ?_
     simp -implicitDefEqProofs only [go_sem]
     all_goals (simp [e3]; done)
    ·have hz':¬ got.length = 2:=by omega
     have e3:tellsG (tellS eqs) w (d + 1) = (eq0,false):=by rw [ht]; simp [tellS,r4,hn,hz']
     simp -implicitDefEqProofs only [go_sem,Z1,h1,x3,r4,hn,hz]
     refine fin1' ?_
     simp -implicitDefEqProofs only [go_sem]
     all_goals (simp [e3]; done)
   ·have e3:tellsG (tellS eqs) w (d + 1) = (eq0,false):=by rw [ht]; simp [tellS,r4,hn]
    simp -implicitDefEqProofs only [go_sem,Z1,h1,x3,r4,hn]
    refine fin1' ?_
    simp -implicitDefEqProofs only [go_sem]
    all_goals (simp [e3]; done)
theorem c_spec_l5Tells_fourb (eqs:List EqD) (w:Why) (ih:∀ k ∈ w.kids,∀ d:Nat,d ≤ 400 → C E.P 191 [lv (rowsEq eqs),av (cWhy k),iv d] [] (Eq2 (.tup [av (cEq (tellsG (tellS eqs) k d).1),bv (tellsG (tellS eqs) k d).2]) [])) (d:Nat) (hd:d + 1 ≤ 400) (w0:w.t.name = []) (w1:¬ (w.t.kids.length:Int) = 0) (hq:isNone w.t = false) (r4:w.rule = 4) :
 C E.P 191 [lv (rowsEq eqs),av (cWhy w),iv ((d + 1:Nat):Int)] [] (Eq2 (.tup [av (cEq (tellsG (tellS eqs) w (d + 1)).1),bv (tellsG (tellS eqs) w (d + 1)).2]) []):=by
 have ht:=tellsG_eq (tellS eqs) w d
 have x1:(0:Int) < (d:Int) + 1:=by omega
 have x2:(d:Int) + 1 - 1 = (d:Int):=by omega
 have x3:¬ (d:Int) + 1 < 1:=by omega
 have hLB:=LB_eq
 refine C_goS (nt:=233) (rs:=[.cell 6 195,.tmp 7]) hm Tryz.func191 rfl rfl rfl rfl rfl (fun hl he=>?_)
 simp -implicitDefEqProofs only [go_sem] at hl ⊢
 simp -implicitDefEqProofs only [go_sem,w0,w1]
 refine loop_go2 hm (fun (i:Nat) (got:List EqD)=> i ≤ w.kids.length ∧ got.length = i ∧ tellssG (tellS eqs) w.kids d = (tellssG (tellS eqs) (w.kids.drop i) d).map (fun es=>got ++ es)) (fun (i:Nat) (got:List EqD)=> ⟨mkS 233 .any [(0,lv (rowsEq eqs)),(2,iv ((d:Int) + 1)),(4,.ptr 0 0),(6,.ptr 1 0),(8,bv false),(9,.acc 2),(10,iv i)],[some (.box (pvs (cWhy w))),some (.box (pvs (cEq eq0))),some (.acc 195 (rowsEq got))]⟩) (fun (i:Nat) (got:List EqD)=> w.kids.length - i) (0) ([]) ?_ (weakS [some 0,some 1,some 2] ?_ ?_ rfl rfl) ?_
 rotate_left
 ·simp -implicitDefEqProofs only [go_sem]
 ·simp -implicitDefEqProofs only [go_sem]
  all_goals (simp [*]; done)
 rotate_left
 ·simp
 ·rintro i got ⟨hi,hgl,hg⟩
  rcases Classical.em (i < w.kids.length) with h1 | h1
  ·rw [tellssG_drop h1] at hg
   simp -implicitDefEqProofs only [go_sem,h1,x1,x2]
   repeat (with_reducible apply And.intro; case left=>omega)
   have hc:=ih w.kids[i] (List.getElem_mem h1) d (by omega)
   refine atCall [] hc ?_ ?_ <;> simp -implicitDefEqProofs only [go_sem]
   cases h2:(tellsG (tellS eqs) w.kids[i] d).2
   ·rw [h2] at hg
    simp only [Bool.false_eq_true,if_false,Option.map_none] at hg
    rw [hg] at ht
    simp only at ht
    simp -implicitDefEqProofs only [go_sem]
    refine fin1' ?_
    simp -implicitDefEqProofs only [go_sem]
    all_goals (simp [ht]; done)
   ·rw [h2] at hg
    simp only [if_true] at hg
    simp -implicitDefEqProofs only [go_sem]
    repeat (with_reducible apply And.intro; case left=>omega)
    refine ⟨i + 1,got ++ [(tellsG (tellS eqs) w.kids[i] d).1],?_,?_,weakS [some 0,some 1,some 4] ?_ ?_ rfl rfl⟩
    rotate_left
    ·show _ < _
     omega
    ·simp -implicitDefEqProofs only [go_sem]
    ·simp -implicitDefEqProofs only [go_sem]
     all_goals ((rw [← rowsEq_app,rowsEq_cons,rowsEq_nil]; rfl))
    refine ⟨h1,by simp [hgl],?_⟩
    rw [hg]
    cases tellssG (tellS eqs) (w.kids.drop (i + 1)) d <;> simp
  ·rw [List.drop_of_length_le (by omega),tellssG] at hg
   simp only [Option.map_some,List.append_nil] at hg
   rw [hg] at ht
   simp only at ht
   have gl:(got.length:Int) ≤ LB:=by omega
   rcases Classical.em (w.n = 0) with hn | hn
   ·rcases Classical.em ((got.length:Int) = 2) with hz | hz
    ·have hz':got.length = 2:=by omega
     have kz:=eq_true hz
     have e3:tellsG (tellS eqs) w (d + 1) = (eq0,false):=by rw [ht]; simp [tellS,r4,hq]
     simp -implicitDefEqProofs only [go_sem,Z1,h1,x3,r4,hn,kz]
     refine fin1' ?_
     simp -implicitDefEqProofs only [go_sem]
     all_goals (simp [e3]; done)
    ·have hz':¬ got.length = 2:=by omega
     have e3:tellsG (tellS eqs) w (d + 1) = (eq0,false):=by rw [ht]; simp [tellS,r4,hn,hz']
     simp -implicitDefEqProofs only [go_sem,Z1,h1,x3,r4,hn,hz]
     refine fin1' ?_
     simp -implicitDefEqProofs only [go_sem]
     all_goals (simp [e3]; done)
   ·have e3:tellsG (tellS eqs) w (d + 1) = (eq0,false):=by rw [ht]; simp [tellS,r4,hn]
    simp -implicitDefEqProofs only [go_sem,Z1,h1,x3,r4,hn]
    refine fin1' ?_
    simp -implicitDefEqProofs only [go_sem]
    all_goals (simp [e3]; done)
theorem c_spec_l5Tells_fourc (eqs:List EqD) (w:Why) (ih:∀ k ∈ w.kids,∀ d:Nat,d ≤ 400 → C E.P 191 [lv (rowsEq eqs),av (cWhy k),iv d] [] (Eq2 (.tup [av (cEq (tellsG (tellS eqs) k d).1),bv (tellsG (tellS eqs) k d).2]) [])) (d:Nat) (hd:d + 1 ≤ 400) (w0:w.t.name = []) (w1:((w.t.kids.length:Int) = 0) = True) (hq:isNone w.t = true) (r4:w.rule = 4) :
 C E.P 191 [lv (rowsEq eqs),av (cWhy w),iv ((d + 1:Nat):Int)] [] (Eq2 (.tup [av (cEq (tellsG (tellS eqs) w (d + 1)).1),bv (tellsG (tellS eqs) w (d + 1)).2]) []):=by
 have ht:=tellsG_eq (tellS eqs) w d
 have x1:(0:Int) < (d:Int) + 1:=by omega
 have x2:(d:Int) + 1 - 1 = (d:Int):=by omega
 have x3:¬ (d:Int) + 1 < 1:=by omega
 have hLB:=LB_eq
 refine C_goS (nt:=233) (rs:=[.cell 6 195,.tmp 7]) hm Tryz.func191 rfl rfl rfl rfl rfl (fun hl he=>?_)
 simp -implicitDefEqProofs only [go_sem] at hl ⊢
 simp -implicitDefEqProofs only [go_sem,w0,w1]
 refine loop_go2 hm (fun (i:Nat) (got:List EqD)=> i ≤ w.kids.length ∧ got.length = i ∧ tellssG (tellS eqs) w.kids d = (tellssG (tellS eqs) (w.kids.drop i) d).map (fun es=>got ++ es)) (fun (i:Nat) (got:List EqD)=> ⟨mkS 233 .any [(0,lv (rowsEq eqs)),(2,iv ((d:Int) + 1)),(4,.ptr 0 0),(6,.ptr 1 0),(8,bv true),(9,.acc 2),(10,iv i)],[some (.box (pvs (cWhy w))),some (.box (pvs (cEq eq0))),some (.acc 195 (rowsEq got))]⟩) (fun (i:Nat) (got:List EqD)=> w.kids.length - i) (0) ([]) ?_ (weakS [some 0,some 1,some 2] ?_ ?_ rfl rfl) ?_
 rotate_left
 ·simp -implicitDefEqProofs only [go_sem]
 ·simp -implicitDefEqProofs only [go_sem]
  all_goals (simp [*]; done)
 rotate_left
 ·simp
 ·rintro i got ⟨hi,hgl,hg⟩
  rcases Classical.em (i < w.kids.length) with h1 | h1
  ·rw [tellssG_drop h1] at hg
   simp -implicitDefEqProofs only [go_sem,h1,x1,x2]
   repeat (with_reducible apply And.intro; case left=>omega)
   have hc:=ih w.kids[i] (List.getElem_mem h1) d (by omega)
   refine atCall [] hc ?_ ?_ <;> simp -implicitDefEqProofs only [go_sem]
   cases h2:(tellsG (tellS eqs) w.kids[i] d).2
   ·rw [h2] at hg
    simp only [Bool.false_eq_true,if_false,Option.map_none] at hg
    rw [hg] at ht
    simp only at ht
    simp -implicitDefEqProofs only [go_sem]
    refine fin1' ?_
    simp -implicitDefEqProofs only [go_sem]
    all_goals (simp [ht]; done)
   ·rw [h2] at hg
    simp only [if_true] at hg
    simp -implicitDefEqProofs only [go_sem]
    repeat (with_reducible apply And.intro; case left=>omega)
    refine ⟨i + 1,got ++ [(tellsG (tellS eqs) w.kids[i] d).1],?_,?_,weakS [some 0,some 1,some 4] ?_ ?_ rfl rfl⟩
    rotate_left
    ·show _ < _
     omega
    ·simp -implicitDefEqProofs only [go_sem]
    ·simp -implicitDefEqProofs only [go_sem]
     all_goals ((rw [← rowsEq_app,rowsEq_cons,rowsEq_nil]; rfl))
    refine ⟨h1,by simp [hgl],?_⟩
    rw [hg]
    cases tellssG (tellS eqs) (w.kids.drop (i + 1)) d <;> simp
  ·rw [List.drop_of_length_le (by omega),tellssG] at hg
   simp only [Option.map_some,List.append_nil] at hg
   rw [hg] at ht
   simp only at ht
   have gl:(got.length:Int) ≤ LB:=by omega
   rcases Classical.em (w.n = 0) with hn | hn
   ·rcases Classical.em ((got.length:Int) = 2) with hz | hz
    ·have hz':got.length = 2:=by omega
     have kz:=eq_true hz
     have h0:0 < got.length:=by omega
     have h2:1 < got.length:=by omega
     have hg0:got.getD 0 eq0 = got[0]:=getD_lt h0 _
     have hg1:got.getD 1 eq0 = got[1]:=getD_lt h2 _
     have e3:tellsG (tellS eqs) w (d + 1) = (⟨got[0].A,got[1].B⟩,decide (got[0].B = got[1].A)):=by
      rw [ht,← hg0,← hg1]
      simp only [tellS,r4,hn,hq,hz']
      simp
     simp -implicitDefEqProofs only [go_sem,Z1,Z3,Z4,h1,x3,r4,hn,kz,h0,h2]
     have hc:=c_spec_TermSame got[0].B got[1].A
     refine atCall [] hc ?_ ?_ <;> simp -implicitDefEqProofs only [go_sem]
     with_reducible refine ind_andM (by kernel_rfl) ?_
     refine fin1' ?_
     simp -implicitDefEqProofs only [go_sem]
     all_goals (simp [e3]; done)
    ·have hz':¬ got.length = 2:=by omega
     have e3:tellsG (tellS eqs) w (d + 1) = (eq0,false):=by rw [ht]; simp [tellS,r4,hn,hz']
     simp -implicitDefEqProofs only [go_sem,Z1,h1,x3,r4,hn,hz]
     refine fin1' ?_
     simp -implicitDefEqProofs only [go_sem]
     all_goals (simp [e3]; done)
   ·have e3:tellsG (tellS eqs) w (d + 1) = (eq0,false):=by rw [ht]; simp [tellS,r4,hn]
    simp -implicitDefEqProofs only [go_sem,Z1,h1,x3,r4,hn]
    refine fin1' ?_
    simp -implicitDefEqProofs only [go_sem]
    all_goals (simp [e3]; done)
end Go.Proofs.YtlddcknkojieeaaGreat
