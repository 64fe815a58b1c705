/-
  The reference: the walk of what an explanation derives, the rest. A step towards the exact laws. The reference: the walk of explanations, whole. A step towards the exact laws.
-/
import Derived.Test.YtlddcknkojieeaaGreatKQI
import Derived.Test.YtlddcknkojieeaaGreatKQE
import Derived.Test.YtlddcknkojieeaaGreatKQR
set_option linter.unusedVariables false
set_option linter.unusedSimpArgs false
namespace Go.Proofs.YtlddcknkojieeaaGreat
open Go.Eng Go.Mod
open Int renaming reduceEq → Z1,reduceLT → Z2,reduceLE → Z3,reduceToNat → Z4
set_option maxRecDepth 100000
set_option maxHeartbeats 400000
theorem c_spec_l5Tells_nonea (eqs:List EqD) (w:Why) (ih:∀ k ∈ w.kids,∀ d:Nat,d ≤ 400 → C E.P 191 [lv (rowsEq eqs),av (cWhy k),iv d] [] (Eq2 (.tup [av (cEq (tellsG (tellS eqs) k d).1),bv (tellsG (tellS eqs) k d).2]) [])) (d:Nat) (hd:d + 1 ≤ 400) (w0:¬ w.t.name = []) (hq:isNone w.t = false) (r1:¬ w.rule = 1) (r2:¬ w.rule = 2) (r3:¬ w.rule = 3) (r4:¬ w.rule = 4) (r5:¬ w.rule = 5) :
 C E.P 191 [lv (rowsEq eqs),av (cWhy w),iv ((d + 1:Nat):Int)] [] (Eq2 (.tup [av (cEq (tellsG (tellS eqs) w (d + 1)).1),bv (tellsG (tellS eqs) w (d + 1)).2]) []):=by
 have ht:=tellsG_eq (tellS eqs) w d
 have x1:(0:Int) < (d:Int) + 1:=by omega
 have x2:(d:Int) + 1 - 1 = (d:Int):=by omega
 have x3:¬ (d:Int) + 1 < 1:=by omega
 have hLB:=LB_eq
 refine C_goS (nt:=233) (rs:=[.cell 6 195,.tmp 7]) hm Tryz.func191 rfl rfl rfl rfl rfl (fun hl he=>?_)
 simp -implicitDefEqProofs only [go_sem] at hl ⊢
 simp -implicitDefEqProofs only [go_sem,w0]
 refine loop_go2 hm (fun (i:Nat) (got:List EqD)=> i ≤ w.kids.length ∧ got.length = i ∧ tellssG (tellS eqs) w.kids d = (tellssG (tellS eqs) (w.kids.drop i) d).map (fun es=>got ++ es)) (fun (i:Nat) (got:List EqD)=> ⟨mkS 233 .any [(0,lv (rowsEq eqs)),(2,iv ((d:Int) + 1)),(4,.ptr 0 0),(6,.ptr 1 0),(8,bv false),(9,.acc 2),(10,iv i)],[some (.box (pvs (cWhy w))),some (.box (pvs (cEq eq0))),some (.acc 195 (rowsEq got))]⟩) (fun (i:Nat) (got:List EqD)=> w.kids.length - i) (0) ([]) ?_ (weakS [some 0,some 1,some 2] ?_ ?_ rfl rfl) ?_
 rotate_left
 ·simp -implicitDefEqProofs only [go_sem]
 ·simp -implicitDefEqProofs only [go_sem]
 rotate_left
 ·simp
 ·rintro i got ⟨hi,hgl,hg⟩
  rcases Classical.em (i < w.kids.length) with h1 | h1
  ·rw [tellssG_drop h1] at hg
   simp -implicitDefEqProofs only [go_sem,h1,x1,x2]
   repeat (with_reducible apply And.intro; case left=>omega)
   have hc:=ih w.kids[i] (List.getElem_mem h1) d (by omega)
   refine atCall [] hc ?_ ?_ <;> simp -implicitDefEqProofs only [go_sem]
   cases h2:(tellsG (tellS eqs) w.kids[i] d).2
   ·rw [h2] at hg
    simp only [Bool.false_eq_true,if_false,Option.map_none] at hg
    rw [hg] at ht
    simp only at ht
    simp -implicitDefEqProofs only [go_sem]
    refine fin1' ?_
    simp -implicitDefEqProofs only [go_sem]
    all_goals (simp [ht]; done)
   ·rw [h2] at hg
    simp only [if_true] at hg
    simp -implicitDefEqProofs only [go_sem]
    repeat (with_reducible apply And.intro; case left=>omega)
    refine ⟨i + 1,got ++ [(tellsG (tellS eqs) w.kids[i] d).1],?_,?_,weakS [some 0,some 1,some 4] ?_ ?_ rfl rfl⟩
    rotate_left
    ·show _ < _
     omega
    ·simp -implicitDefEqProofs only [go_sem]
    ·simp -implicitDefEqProofs only [go_sem]
     all_goals ((rw [← rowsEq_app,rowsEq_cons,rowsEq_nil]; rfl))
    refine ⟨h1,by simp [hgl],?_⟩
    rw [hg]
    cases tellssG (tellS eqs) (w.kids.drop (i + 1)) d <;> simp
  ·rw [List.drop_of_length_le (by omega),tellssG] at hg
   simp only [Option.map_some,List.append_nil] at hg
   rw [hg] at ht
   simp only at ht
   have gl:(got.length:Int) ≤ LB:=by omega
   have e3:tellsG (tellS eqs) w (d + 1) = (eq0,false):=by
    rw [ht]
    simp only [tellS,r1,r2,r3,r4,r5,false_and,if_false]
    simp
   rcases Classical.em (w.n = 0) with hn | hn
   ·simp -implicitDefEqProofs only [go_sem,h1,x3,r1,r2,r3,r4,r5,hn]
    refine fin1' ?_
    simp -implicitDefEqProofs only [go_sem]
    all_goals (simp [e3]; done)
   ·simp -implicitDefEqProofs only [go_sem,h1,x3,r2,hn]
    refine fin1' ?_
    simp -implicitDefEqProofs only [go_sem]
    all_goals (simp [e3]; done)
theorem c_spec_l5Tells_noneb (eqs:List EqD) (w:Why) (ih:∀ k ∈ w.kids,∀ d:Nat,d ≤ 400 → C E.P 191 [lv (rowsEq eqs),av (cWhy k),iv d] [] (Eq2 (.tup [av (cEq (tellsG (tellS eqs) k d).1),bv (tellsG (tellS eqs) k d).2]) [])) (d:Nat) (hd:d + 1 ≤ 400) (w0:w.t.name = []) (w1:¬ (w.t.kids.length:Int) = 0) (hq:isNone w.t = false) (r1:¬ w.rule = 1) (r2:¬ w.rule = 2) (r3:¬ w.rule = 3) (r4:¬ w.rule = 4) (r5:¬ w.rule = 5) :
 C E.P 191 [lv (rowsEq eqs),av (cWhy w),iv ((d + 1:Nat):Int)] [] (Eq2 (.tup [av (cEq (tellsG (tellS eqs) w (d + 1)).1),bv (tellsG (tellS eqs) w (d + 1)).2]) []):=by
 have ht:=tellsG_eq (tellS eqs) w d
 have x1:(0:Int) < (d:Int) + 1:=by omega
 have x2:(d:Int) + 1 - 1 = (d:Int):=by omega
 have x3:¬ (d:Int) + 1 < 1:=by omega
 have hLB:=LB_eq
 refine C_goS (nt:=233) (rs:=[.cell 6 195,.tmp 7]) hm Tryz.func191 rfl rfl rfl rfl rfl (fun hl he=>?_)
 simp -implicitDefEqProofs only [go_sem] at hl ⊢
 simp -implicitDefEqProofs only [go_sem,w0,w1]
 refine loop_go2 hm (fun (i:Nat) (got:List EqD)=> i ≤ w.kids.length ∧ got.length = i ∧ tellssG (tellS eqs) w.kids d = (tellssG (tellS eqs) (w.kids.drop i) d).map (fun es=>got ++ es)) (fun (i:Nat) (got:List EqD)=> ⟨mkS 233 .any [(0,lv (rowsEq eqs)),(2,iv ((d:Int) + 1)),(4,.ptr 0 0),(6,.ptr 1 0),(8,bv false),(9,.acc 2),(10,iv i)],[some (.box (pvs (cWhy w))),some (.box (pvs (cEq eq0))),some (.acc 195 (rowsEq got))]⟩) (fun (i:Nat) (got:List EqD)=> w.kids.length - i) (0) ([]) ?_ (weakS [some 0,some 1,some 2] ?_ ?_ rfl rfl) ?_
 rotate_left
 ·simp -implicitDefEqProofs only [go_sem]
 ·simp -implicitDefEqProofs only [go_sem]
  all_goals (simp [*]; done)
 rotate_left
 ·simp
 ·rintro i got ⟨hi,hgl,hg⟩
  rcases Classical.em (i < w.kids.length) with h1 | h1
  ·rw [tellssG_drop h1] at hg
   simp -implicitDefEqProofs only [go_sem,h1,x1,x2]
   repeat (with_reducible apply And.intro; case left=>omega)
   have hc:=ih w.kids[i] (List.getElem_mem h1) d (by omega)
   refine atCall [] hc ?_ ?_ <;> simp -implicitDefEqProofs only [go_sem]
   cases h2:(tellsG (tellS eqs) w.kids[i] d).2
   ·rw [h2] at hg
    simp only [Bool.false_eq_true,if_false,Option.map_none] at hg
    rw [hg] at ht
    simp only at ht
    simp -implicitDefEqProofs only [go_sem]
    refine fin1' ?_
    simp -implicitDefEqProofs only [go_sem]
    all_goals (simp [ht]; done)
   ·rw [h2] at hg
    simp only [if_true] at hg
    simp -implicitDefEqProofs only [go_sem]
    repeat (with_reducible apply And.intro; case left=>omega)
    refine ⟨i + 1,got ++ [(tellsG (tellS eqs) w.kids[i] d).1],?_,?_,weakS [some 0,some 1,some 4] ?_ ?_ rfl rfl⟩
    rotate_left
    ·show _ < _
     omega
    ·simp -implicitDefEqProofs only [go_sem]
    ·simp -implicitDefEqProofs only [go_sem]
     all_goals ((rw [← rowsEq_app,rowsEq_cons,rowsEq_nil]; rfl))
    refine ⟨h1,by simp [hgl],?_⟩
    rw [hg]
    cases tellssG (tellS eqs) (w.kids.drop (i + 1)) d <;> simp
  ·rw [List.drop_of_length_le (by omega),tellssG] at hg
   simp only [Option.map_some,List.append_nil] at hg
   rw [hg] at ht
   simp only at ht
   have gl:(got.length:Int) ≤ LB:=by omega
   have e3:tellsG (tellS eqs) w (d + 1) = (eq0,false):=by
    rw [ht]
    simp only [tellS,r1,r2,r3,r4,r5,false_and,if_false]
    simp
   rcases Classical.em (w.n = 0) with hn | hn
   ·simp -implicitDefEqProofs only [go_sem,h1,x3,r1,r2,r3,r4,r5,hn]
    refine fin1' ?_
    simp -implicitDefEqProofs only [go_sem]
    all_goals (simp [e3]; done)
   ·simp -implicitDefEqProofs only [go_sem,h1,x3,r2,hn]
    refine fin1' ?_
    simp -implicitDefEqProofs only [go_sem]
    all_goals (simp [e3]; done)
theorem c_spec_l5Tells_nonec (eqs:List EqD) (w:Why) (ih:∀ k ∈ w.kids,∀ d:Nat,d ≤ 400 → C E.P 191 [lv (rowsEq eqs),av (cWhy k),iv d] [] (Eq2 (.tup [av (cEq (tellsG (tellS eqs) k d).1),bv (tellsG (tellS eqs) k d).2]) [])) (d:Nat) (hd:d + 1 ≤ 400) (w0:w.t.name = []) (w1:((w.t.kids.length:Int) = 0) = True) (hq:isNone w.t = true) (r1:¬ w.rule = 1) (r2:¬ w.rule = 2) (r3:¬ w.rule = 3) (r4:¬ w.rule = 4) (r5:¬ w.rule = 5) :
 C E.P 191 [lv (rowsEq eqs),av (cWhy w),iv ((d + 1:Nat):Int)] [] (Eq2 (.tup [av (cEq (tellsG (tellS eqs) w (d + 1)).1),bv (tellsG (tellS eqs) w (d + 1)).2]) []):=by
 have ht:=tellsG_eq (tellS eqs) w d
 have x1:(0:Int) < (d:Int) + 1:=by omega
 have x2:(d:Int) + 1 - 1 = (d:Int):=by omega
 have x3:¬ (d:Int) + 1 < 1:=by omega
 have hLB:=LB_eq
 refine C_goS (nt:=233) (rs:=[.cell 6 195,.tmp 7]) hm Tryz.func191 rfl rfl rfl rfl rfl (fun hl he=>?_)
 simp -implicitDefEqProofs only [go_sem] at hl ⊢
 simp -implicitDefEqProofs only [go_sem,w0,w1]
 refine loop_go2 hm (fun (i:Nat) (got:List EqD)=> i ≤ w.kids.length ∧ got.length = i ∧ tellssG (tellS eqs) w.kids d = (tellssG (tellS eqs) (w.kids.drop i) d).map (fun es=>got ++ es)) (fun (i:Nat) (got:List EqD)=> ⟨mkS 233 .any [(0,lv (rowsEq eqs)),(2,iv ((d:Int) + 1)),(4,.ptr 0 0),(6,.ptr 1 0),(8,bv true),(9,.acc 2),(10,iv i)],[some (.box (pvs (cWhy w))),some (.box (pvs (cEq eq0))),some (.acc 195 (rowsEq got))]⟩) (fun (i:Nat) (got:List EqD)=> w.kids.length - i) (0) ([]) ?_ (weakS [some 0,some 1,some 2] ?_ ?_ rfl rfl) ?_
 rotate_left
 ·simp -implicitDefEqProofs only [go_sem]
 ·simp -implicitDefEqProofs only [go_sem]
  all_goals (simp [*]; done)
 rotate_left
 ·simp
 ·rintro i got ⟨hi,hgl,hg⟩
  rcases Classical.em (i < w.kids.length) with h1 | h1
  ·rw [tellssG_drop h1] at hg
   simp -implicitDefEqProofs only [go_sem,h1,x1,x2]
   repeat (with_reducible apply And.intro; case left=>omega)
   have hc:=ih w.kids[i] (List.getElem_mem h1) d (by omega)
   refine atCall [] hc ?_ ?_ <;> simp -implicitDefEqProofs only [go_sem]
   cases h2:(tellsG (tellS eqs) w.kids[i] d).2
   ·rw [h2] at hg
    simp only [Bool.false_eq_true,if_false,Option.map_none] at hg
    rw [hg] at ht
    simp only at ht
    simp -implicitDefEqProofs only [go_sem]
    refine fin1' ?_
    simp -implicitDefEqProofs only [go_sem]
    all_goals (simp [ht]; done)
   ·rw [h2] at hg
    simp only [if_true] at hg
    simp -implicitDefEqProofs only [go_sem]
    repeat (with_reducible apply And.intro; case left=>omega)
    refine ⟨i + 1,got ++ [(tellsG (tellS eqs) w.kids[i] d).1],?_,?_,weakS [some 0,some 1,some 4] ?_ ?_ rfl rfl⟩
    rotate_left
    ·show _ < _
     omega
    ·simp -implicitDefEqProofs only [go_sem]
    ·simp -implicitDefEqProofs only [go_sem]
     all_goals ((rw [← rowsEq_app,rowsEq_cons,rowsEq_nil]; rfl))
    refine ⟨h1,by simp [hgl],?_⟩
    rw [hg]
    cases tellssG (tellS eqs) (w.kids.drop (i + 1)) d <;> simp
  ·rw [List.drop_of_length_le (by omega),tellssG] at hg
   simp only [Option.map_some,List.append_nil] at hg
   rw [hg] at ht
   simp only at ht
   have gl:(got.length:Int) ≤ LB:=by omega
   have e3:tellsG (tellS eqs) w (d + 1) = (eq0,false):=by
    rw [ht]
    simp only [tellS,r1,r2,r3,r4,r5,false_and,if_false]
    simp
   rcases Classical.em (w.n = 0) with hn | hn
   ·simp -implicitDefEqProofs only [go_sem,h1,x3,r1,r2,r3,r4,r5,hn]
    refine fin1' ?_
    simp -implicitDefEqProofs only [go_sem]
    all_goals (simp [e3]; done)
   ·simp -implicitDefEqProofs only [go_sem,h1,x3,r2,hn]
    refine fin1' ?_
    simp -implicitDefEqProofs only [go_sem]
    all_goals (simp [e3]; done)
theorem c_spec_l5Tells_fivea (eqs:List EqD) (w:Why) (ih:∀ k ∈ w.kids,∀ d:Nat,d ≤ 400 → C E.P 191 [lv (rowsEq eqs),av (cWhy k),iv d] [] (Eq2 (.tup [av (cEq (tellsG (tellS eqs) k d).1),bv (tellsG (tellS eqs) k d).2]) [])) (d:Nat) (hd:d + 1 ≤ 400) (w0:¬ w.t.name = []) (hq:isNone w.t = false) (r5:w.rule = 5) :
 C E.P 191 [lv (rowsEq eqs),av (cWhy w),iv ((d + 1:Nat):Int)] [] (Eq2 (.tup [av (cEq (tellsG (tellS eqs) w (d + 1)).1),bv (tellsG (tellS eqs) w (d + 1)).2]) []):=by
 have ht:=tellsG_eq (tellS eqs) w d
 have x1:(0:Int) < (d:Int) + 1:=by omega
 have x2:(d:Int) + 1 - 1 = (d:Int):=by omega
 have x3:¬ (d:Int) + 1 < 1:=by omega
 have hLB:=LB_eq
 refine C_goS (nt:=233) (rs:=[.cell 6 195,.tmp 7]) hm Tryz.func191 rfl rfl rfl rfl rfl (fun hl he=>?_)
 simp -implicitDefEqProofs only [go_sem] at hl ⊢
 simp -implicitDefEqProofs only [go_sem,w0]
 refine loop_go2 hm (fun (i:Nat) (got:List EqD)=> i ≤ w.kids.length ∧ got.length = i ∧ tellssG (tellS eqs) w.kids d = (tellssG (tellS eqs) (w.kids.drop i) d).map (fun es=>got ++ es)) (fun (i:Nat) (got:List EqD)=> ⟨mkS 233 .any [(0,lv (rowsEq eqs)),(2,iv ((d:Int) + 1)),(4,.ptr 0 0),(6,.ptr 1 0),(8,bv false),(9,.acc 2),(10,iv i)],[some (.box (pvs (cWhy w))),some (.box (pvs (cEq eq0))),some (.acc 195 (rowsEq got))]⟩) (fun (i:Nat) (got:List EqD)=> w.kids.length - i) (0) ([]) ?_ (weakS [some 0,some 1,some 2] ?_ ?_ rfl rfl) ?_
 rotate_left
 ·simp -implicitDefEqProofs only [go_sem]
 ·simp -implicitDefEqProofs only [go_sem]
 rotate_left
 ·simp
 ·rintro i got ⟨hi,hgl,hg⟩
  rcases Classical.em (i < w.kids.length) with h1 | h1
  ·rw [tellssG_drop h1] at hg
   simp -implicitDefEqProofs only [go_sem,h1,x1,x2]
   repeat (with_reducible apply And.intro; case left=>omega)
   have hc:=ih w.kids[i] (List.getElem_mem h1) d (by omega)
   refine atCall [] hc ?_ ?_ <;> simp -implicitDefEqProofs only [go_sem]
   cases h2:(tellsG (tellS eqs) w.kids[i] d).2
   ·rw [h2] at hg
    simp only [Bool.false_eq_true,if_false,Option.map_none] at hg
    rw [hg] at ht
    simp only at ht
    simp -implicitDefEqProofs only [go_sem]
    refine fin1' ?_
    simp -implicitDefEqProofs only [go_sem]
    all_goals (simp [ht]; done)
   ·rw [h2] at hg
    simp only [if_true] at hg
    simp -implicitDefEqProofs only [go_sem]
    repeat (with_reducible apply And.intro; case left=>omega)
    refine ⟨i + 1,got ++ [(tellsG (tellS eqs) w.kids[i] d).1],?_,?_,weakS [some 0,some 1,some 4] ?_ ?_ rfl rfl⟩
    rotate_left
    ·show _ < _
     omega
    ·simp -implicitDefEqProofs only [go_sem]
    ·simp -implicitDefEqProofs only [go_sem]
     all_goals ((rw [← rowsEq_app,rowsEq_cons,rowsEq_nil]; rfl))
    refine ⟨h1,by simp [hgl],?_⟩
    rw [hg]
    cases tellssG (tellS eqs) (w.kids.drop (i + 1)) d <;> simp
  ·rw [List.drop_of_length_le (by omega),tellssG] at hg
   simp only [Option.map_some,List.append_nil] at hg
   rw [hg] at ht
   simp only at ht
   have gl:(got.length:Int) ≤ LB:=by omega
   rcases Classical.em (w.n = 0) with hn | hn
   ·rcases Classical.em ((0:Int) < (got.length:Int)) with hz | hz
    ·have hz':0 < got.length:=by omega
     rcases Classical.em ((w.t.kids.length:Int) = 0) with w1 | w1
     ·have wk:w.t.kids.length = 0:=by omega
      have kw:=eq_true w1
      have e3:tellsG (tellS eqs) w (d + 1) = (⟨.mk w.t.name (got.map (·.A)),.mk w.t.name (got.map (·.B))⟩,isTerm (.mk w.t.name (got.map (·.A))) && isTerm (.mk w.t.name (got.map (·.B)))):=by
       rw [ht]
       simp only [tellS,r5,hn,hz',wk]
       simp
      simp -implicitDefEqProofs only [go_sem,Z1,h1,x3,r5,hn,hz,kw]
      refine loop_go1 hm (fun (j:Nat)=> j ≤ got.length) (fun (j:Nat)=> ⟨mkS 233 .any [(6,.ptr 0 0),(9,.acc 2),(13,.ptr 1 0),(14,iv j)],[some (.box (pvs (cEq eq0))),some (.box [.d (.str w.t.name),.acc 3,.d (.str w.t.name),.acc 4]),some (.acc 195 (rowsEq got)),some (.acc 62 (rowsT ((got.take j).map (·.A)))),some (.acc 62 (rowsT ((got.take j).map (·.B))))]⟩) (fun (j:Nat)=> got.length - j) (0) ?_ (weakS [some 1,some 3,some 2,none,none] ?_ ?_ rfl rfl) ?_
      rotate_left
      ·simp -implicitDefEqProofs only [go_sem]
      ·simp -implicitDefEqProofs only [go_sem]
      rotate_left
      ·omega
      ·rintro j hj
       rcases Classical.em (j < got.length) with h3 | h3
       ·simp -implicitDefEqProofs only [go_sem,h3]
        repeat (first | with_reducible refine ind_andM (by kernel_rfl) ?_ | (with_reducible apply And.intro; case left=>omega))
        refine ⟨j + 1,?_,?_,weakS [some 0,some 1,some 2,some 5,some 6] ?_ ?_ rfl rfl⟩
        rotate_left
        ·show _ < _
         omega
        ·simp -implicitDefEqProofs only [go_sem]
        ·simp -implicitDefEqProofs only [go_sem]
         all_goals (exact ⟨mapT_snoc _ h3,mapT_snoc _ h3⟩)
        exact h3
       ·have et:got.take j = got:=List.take_of_length_le (by omega)
        simp -implicitDefEqProofs only [go_sem,h3,et]
        refine atLook [] [3] (c_spec_l4Right (.mk w.t.name (got.map (·.A)))) rfl ?_ ?_ ?_
        ·(simp -implicitDefEqProofs only [go_sem]; repeat' (first | exact Vws.nil | apply Vws.cons | exact Vw.same (by first | rfl | simp -implicitDefEqProofs only [go_sem,Z1,Z2,Z3,Z4]) | exact Vw.acc rfl rfl | exact Vw.nil | apply Vw.agg | apply Vw.fn | refine Vw.box rfl rfl ?_))
        all_goals simp -implicitDefEqProofs only [go_sem]
        cases hA:isTerm (.mk w.t.name (got.map (·.A)))
        ·simp -implicitDefEqProofs only [go_sem]
         with_reducible refine ind_andM (by kernel_rfl) ?_
         refine fin1' ?_
         simp -implicitDefEqProofs only [go_sem]
         all_goals (simp [e3,hA]; done)
        ·simp -implicitDefEqProofs only [go_sem]
         refine atLook [] [4] (c_spec_l4Right (.mk w.t.name (got.map (·.B)))) rfl ?_ ?_ ?_
         ·(simp -implicitDefEqProofs only [go_sem]; repeat' (first | exact Vws.nil | apply Vws.cons | exact Vw.same (by first | rfl | simp -implicitDefEqProofs only [go_sem,Z1,Z2,Z3,Z4]) | exact Vw.acc rfl rfl | exact Vw.nil | apply Vw.agg | apply Vw.fn | refine Vw.box rfl rfl ?_))
         all_goals simp -implicitDefEqProofs only [go_sem]
         with_reducible refine ind_andM (by kernel_rfl) ?_
         refine fin1' ?_
         simp -implicitDefEqProofs only [go_sem]
         all_goals (simp [e3,hA]; done)
     ·have wk:¬ w.t.kids.length = 0:=by omega
      have e3:tellsG (tellS eqs) w (d + 1) = (eq0,false):=by rw [ht]; simp only [tellS,r5,wk]; simp
      simp -implicitDefEqProofs only [go_sem,Z1,h1,x3,r5,hn,hz,w1]
      refine fin1' ?_
      simp -implicitDefEqProofs only [go_sem]
      all_goals (simp [e3]; done)
    ·have hz':¬ 0 < got.length:=by omega
     have e3:tellsG (tellS eqs) w (d + 1) = (eq0,false):=by rw [ht]; simp only [tellS,r5,hz']; simp
     simp -implicitDefEqProofs only [go_sem,Z1,h1,x3,r5,hn,hz]
     refine fin1' ?_
     simp -implicitDefEqProofs only [go_sem]
     all_goals (simp [e3]; done)
   ·have e3:tellsG (tellS eqs) w (d + 1) = (eq0,false):=by rw [ht]; simp [tellS,r5,hn]
    simp -implicitDefEqProofs only [go_sem,Z1,h1,x3,r5,hn]
    refine fin1' ?_
    simp -implicitDefEqProofs only [go_sem]
    all_goals (simp [e3]; done)
theorem c_spec_l5Tells_fiveb (eqs:List EqD) (w:Why) (ih:∀ k ∈ w.kids,∀ d:Nat,d ≤ 400 → C E.P 191 [lv (rowsEq eqs),av (cWhy k),iv d] [] (Eq2 (.tup [av (cEq (tellsG (tellS eqs) k d).1),bv (tellsG (tellS eqs) k d).2]) [])) (d:Nat) (hd:d + 1 ≤ 400) (w0:w.t.name = []) (w1:¬ (w.t.kids.length:Int) = 0) (hq:isNone w.t = false) (r5:w.rule = 5) :
 C E.P 191 [lv (rowsEq eqs),av (cWhy w),iv ((d + 1:Nat):Int)] [] (Eq2 (.tup [av (cEq (tellsG (tellS eqs) w (d + 1)).1),bv (tellsG (tellS eqs) w (d + 1)).2]) []):=by
 have ht:=tellsG_eq (tellS eqs) w d
 have x1:(0:Int) < (d:Int) + 1:=by omega
 have x2:(d:Int) + 1 - 1 = (d:Int):=by omega
 have x3:¬ (d:Int) + 1 < 1:=by omega
 have hLB:=LB_eq
 refine C_goS (nt:=233) (rs:=[.cell 6 195,.tmp 7]) hm Tryz.func191 rfl rfl rfl rfl rfl (fun hl he=>?_)
 simp -implicitDefEqProofs only [go_sem] at hl ⊢
 simp -implicitDefEqProofs only [go_sem,w0,w1]
 refine loop_go2 hm (fun (i:Nat) (got:List EqD)=> i ≤ w.kids.length ∧ got.length = i ∧ tellssG (tellS eqs) w.kids d = (tellssG (tellS eqs) (w.kids.drop i) d).map (fun es=>got ++ es)) (fun (i:Nat) (got:List EqD)=> ⟨mkS 233 .any [(0,lv (rowsEq eqs)),(2,iv ((d:Int) + 1)),(4,.ptr 0 0),(6,.ptr 1 0),(8,bv false),(9,.acc 2),(10,iv i)],[some (.box (pvs (cWhy w))),some (.box (pvs (cEq eq0))),some (.acc 195 (rowsEq got))]⟩) (fun (i:Nat) (got:List EqD)=> w.kids.length - i) (0) ([]) ?_ (weakS [some 0,some 1,some 2] ?_ ?_ rfl rfl) ?_
 rotate_left
 ·simp -implicitDefEqProofs only [go_sem]
 ·simp -implicitDefEqProofs only [go_sem]
  all_goals (simp [*]; done)
 rotate_left
 ·simp
 ·rintro i got ⟨hi,hgl,hg⟩
  rcases Classical.em (i < w.kids.length) with h1 | h1
  ·rw [tellssG_drop h1] at hg
   simp -implicitDefEqProofs only [go_sem,h1,x1,x2]
   repeat (with_reducible apply And.intro; case left=>omega)
   have hc:=ih w.kids[i] (List.getElem_mem h1) d (by omega)
   refine atCall [] hc ?_ ?_ <;> simp -implicitDefEqProofs only [go_sem]
   cases h2:(tellsG (tellS eqs) w.kids[i] d).2
   ·rw [h2] at hg
    simp only [Bool.false_eq_true,if_false,Option.map_none] at hg
    rw [hg] at ht
    simp only at ht
    simp -implicitDefEqProofs only [go_sem]
    refine fin1' ?_
    simp -implicitDefEqProofs only [go_sem]
    all_goals (simp [ht]; done)
   ·rw [h2] at hg
    simp only [if_true] at hg
    simp -implicitDefEqProofs only [go_sem]
    repeat (with_reducible apply And.intro; case left=>omega)
    refine ⟨i + 1,got ++ [(tellsG (tellS eqs) w.kids[i] d).1],?_,?_,weakS [some 0,some 1,some 4] ?_ ?_ rfl rfl⟩
    rotate_left
    ·show _ < _
     omega
    ·simp -implicitDefEqProofs only [go_sem]
    ·simp -implicitDefEqProofs only [go_sem]
     all_goals ((rw [← rowsEq_app,rowsEq_cons,rowsEq_nil]; rfl))
    refine ⟨h1,by simp [hgl],?_⟩
    rw [hg]
    cases tellssG (tellS eqs) (w.kids.drop (i + 1)) d <;> simp
  ·rw [List.drop_of_length_le (by omega),tellssG] at hg
   simp only [Option.map_some,List.append_nil] at hg
   rw [hg] at ht
   simp only at ht
   have gl:(got.length:Int) ≤ LB:=by omega
   rcases Classical.em (w.n = 0) with hn | hn
   ·rcases Classical.em ((0:Int) < (got.length:Int)) with hz | hz
    ·have hz':0 < got.length:=by omega
     have wk:¬ w.t.kids.length = 0:=by omega
     have e3:tellsG (tellS eqs) w (d + 1) = (eq0,false):=by rw [ht]; simp only [tellS,r5,wk]; simp
     simp -implicitDefEqProofs only [go_sem,Z1,h1,x3,r5,hn,hz,w1]
     refine fin1' ?_
     simp -implicitDefEqProofs only [go_sem]
     all_goals (simp [e3]; done)
    ·have hz':¬ 0 < got.length:=by omega
     have e3:tellsG (tellS eqs) w (d + 1) = (eq0,false):=by rw [ht]; simp only [tellS,r5,hz']; simp
     simp -implicitDefEqProofs only [go_sem,Z1,h1,x3,r5,hn,hz]
     refine fin1' ?_
     simp -implicitDefEqProofs only [go_sem]
     all_goals (simp [e3]; done)
   ·have e3:tellsG (tellS eqs) w (d + 1) = (eq0,false):=by rw [ht]; simp [tellS,r5,hn]
    simp -implicitDefEqProofs only [go_sem,Z1,h1,x3,r5,hn]
    refine fin1' ?_
    simp -implicitDefEqProofs only [go_sem]
    all_goals (simp [e3]; done)
theorem c_spec_l5Tells_fivec (eqs:List EqD) (w:Why) (ih:∀ k ∈ w.kids,∀ d:Nat,d ≤ 400 → C E.P 191 [lv (rowsEq eqs),av (cWhy k),iv d] [] (Eq2 (.tup [av (cEq (tellsG (tellS eqs) k d).1),bv (tellsG (tellS eqs) k d).2]) [])) (d:Nat) (hd:d + 1 ≤ 400) (w0:w.t.name = []) (w1:((w.t.kids.length:Int) = 0) = True) (hq:isNone w.t = true) (r5:w.rule = 5) :
 C E.P 191 [lv (rowsEq eqs),av (cWhy w),iv ((d + 1:Nat):Int)] [] (Eq2 (.tup [av (cEq (tellsG (tellS eqs) w (d + 1)).1),bv (tellsG (tellS eqs) w (d + 1)).2]) []):=by
 have ht:=tellsG_eq (tellS eqs) w d
 have x1:(0:Int) < (d:Int) + 1:=by omega
 have x2:(d:Int) + 1 - 1 = (d:Int):=by omega
 have x3:¬ (d:Int) + 1 < 1:=by omega
 have hLB:=LB_eq
 refine C_goS (nt:=233) (rs:=[.cell 6 195,.tmp 7]) hm Tryz.func191 rfl rfl rfl rfl rfl (fun hl he=>?_)
 simp -implicitDefEqProofs only [go_sem] at hl ⊢
 simp -implicitDefEqProofs only [go_sem,w0,w1]
 refine loop_go2 hm (fun (i:Nat) (got:List EqD)=> i ≤ w.kids.length ∧ got.length = i ∧ tellssG (tellS eqs) w.kids d = (tellssG (tellS eqs) (w.kids.drop i) d).map (fun es=>got ++ es)) (fun (i:Nat) (got:List EqD)=> ⟨mkS 233 .any [(0,lv (rowsEq eqs)),(2,iv ((d:Int) + 1)),(4,.ptr 0 0),(6,.ptr 1 0),(8,bv true),(9,.acc 2),(10,iv i)],[some (.box (pvs (cWhy w))),some (.box (pvs (cEq eq0))),some (.acc 195 (rowsEq got))]⟩) (fun (i:Nat) (got:List EqD)=> w.kids.length - i) (0) ([]) ?_ (weakS [some 0,some 1,some 2] ?_ ?_ rfl rfl) ?_
 rotate_left
 ·simp -implicitDefEqProofs only [go_sem]
 ·simp -implicitDefEqProofs only [go_sem]
  all_goals (simp [*]; done)
 rotate_left
 ·simp
 ·rintro i got ⟨hi,hgl,hg⟩
  rcases Classical.em (i < w.kids.length) with h1 | h1
  ·rw [tellssG_drop h1] at hg
   simp -implicitDefEqProofs only [go_sem,h1,x1,x2]
   repeat (with_reducible apply And.intro; case left=>omega)
   have hc:=ih w.kids[i] (List.getElem_mem h1) d (by omega)
   refine atCall [] hc ?_ ?_ <;> simp -implicitDefEqProofs only [go_sem]
   cases h2:(tellsG (tellS eqs) w.kids[i] d).2
   ·rw [h2] at hg
    simp only [Bool.false_eq_true,if_false,Option.map_none] at hg
    rw [hg] at ht
    simp only at ht
    simp -implicitDefEqProofs only [go_sem]
    refine fin1' ?_
    simp -implicitDefEqProofs only [go_sem]
    all_goals (simp [ht]; done)
   ·rw [h2] at hg
    simp only [if_true] at hg
    simp -implicitDefEqProofs only [go_sem]
    repeat (with_reducible apply And.intro; case left=>omega)
    refine ⟨i + 1,got ++ [(tellsG (tellS eqs) w.kids[i] d).1],?_,?_,weakS [some 0,some 1,some 4] ?_ ?_ rfl rfl⟩
    rotate_left
    ·show _ < _
     omega
    ·simp -implicitDefEqProofs only [go_sem]
    ·simp -implicitDefEqProofs only [go_sem]
     all_goals ((rw [← rowsEq_app,rowsEq_cons,rowsEq_nil]; rfl))
    refine ⟨h1,by simp [hgl],?_⟩
    rw [hg]
    cases tellssG (tellS eqs) (w.kids.drop (i + 1)) d <;> simp
  ·rw [List.drop_of_length_le (by omega),tellssG] at hg
   simp only [Option.map_some,List.append_nil] at hg
   rw [hg] at ht
   simp only at ht
   have gl:(got.length:Int) ≤ LB:=by omega
   rcases Classical.em (w.n = 0) with hn | hn
   ·rcases Classical.em ((0:Int) < (got.length:Int)) with hz | hz
    ·have hz':0 < got.length:=by omega
     have wk:w.t.kids.length = 0:=by have:=of_eq_true w1; omega
     have e3:tellsG (tellS eqs) w (d + 1) = (⟨.mk w.t.name (got.map (·.A)),.mk w.t.name (got.map (·.B))⟩,isTerm (.mk w.t.name (got.map (·.A))) && isTerm (.mk w.t.name (got.map (·.B)))):=by
      rw [ht]
      simp only [tellS,r5,hn,hz',wk]
      simp
     simp -implicitDefEqProofs only [go_sem,Z1,h1,x3,r5,hn,hz,w1]
     refine loop_go1 hm (fun (j:Nat)=> j ≤ got.length) (fun (j:Nat)=> ⟨mkS 233 .any [(6,.ptr 0 0),(9,.acc 2),(13,.ptr 1 0),(14,iv j)],[some (.box (pvs (cEq eq0))),some (.box [.d (.str w.t.name),.acc 3,.d (.str w.t.name),.acc 4]),some (.acc 195 (rowsEq got)),some (.acc 62 (rowsT ((got.take j).map (·.A)))),some (.acc 62 (rowsT ((got.take j).map (·.B))))]⟩) (fun (j:Nat)=> got.length - j) (0) ?_ (weakS [some 1,some 3,some 2,none,none] ?_ ?_ rfl rfl) ?_
     rotate_left
     ·simp -implicitDefEqProofs only [go_sem]
     ·simp -implicitDefEqProofs only [go_sem]
     rotate_left
     ·omega
     ·rintro j hj
      rcases Classical.em (j < got.length) with h3 | h3
      ·simp -implicitDefEqProofs only [go_sem,h3]
       repeat (first | with_reducible refine ind_andM (by kernel_rfl) ?_ | (with_reducible apply And.intro; case left=>omega))
       refine ⟨j + 1,?_,?_,weakS [some 0,some 1,some 2,some 5,some 6] ?_ ?_ rfl rfl⟩
       rotate_left
       ·show _ < _
        omega
       ·simp -implicitDefEqProofs only [go_sem]
       ·simp -implicitDefEqProofs only [go_sem]
        all_goals (exact ⟨mapT_snoc _ h3,mapT_snoc _ h3⟩)
       exact h3
      ·have et:got.take j = got:=List.take_of_length_le (by omega)
       simp -implicitDefEqProofs only [go_sem,h3,et]
       refine atLook [] [3] (c_spec_l4Right (.mk w.t.name (got.map (·.A)))) rfl ?_ ?_ ?_
       ·(simp -implicitDefEqProofs only [go_sem]; repeat' (first | exact Vws.nil | apply Vws.cons | exact Vw.same (by first | rfl | simp -implicitDefEqProofs only [go_sem,Z1,Z2,Z3,Z4]) | exact Vw.acc rfl rfl | exact Vw.nil | apply Vw.agg | apply Vw.fn | refine Vw.box rfl rfl ?_))
       all_goals simp -implicitDefEqProofs only [go_sem]
       cases hA:isTerm (.mk w.t.name (got.map (·.A)))
       ·simp -implicitDefEqProofs only [go_sem]
        with_reducible refine ind_andM (by kernel_rfl) ?_
        refine fin1' ?_
        simp -implicitDefEqProofs only [go_sem]
        all_goals (simp [e3,hA]; done)
       ·simp -implicitDefEqProofs only [go_sem]
        refine atLook [] [4] (c_spec_l4Right (.mk w.t.name (got.map (·.B)))) rfl ?_ ?_ ?_
        ·(simp -implicitDefEqProofs only [go_sem]; repeat' (first | exact Vws.nil | apply Vws.cons | exact Vw.same (by first | rfl | simp -implicitDefEqProofs only [go_sem,Z1,Z2,Z3,Z4]) | exact Vw.acc rfl rfl | exact Vw.nil | apply Vw.agg | apply Vw.fn | refine Vw.box rfl rfl ?_))
        all_goals simp -implicitDefEqProofs only [go_sem]
        with_reducible refine ind_andM (by kernel_rfl) ?_
        refine fin1' ?_
        simp -implicitDefEqProofs only [go_sem]
        all_goals (simp [e3,hA]; done)
    ·have hz':¬ 0 < got.length:=by omega
     have e3:tellsG (tellS eqs) w (d + 1) = (eq0,false):=by rw [ht]; simp only [tellS,r5,hz']; simp
     simp -implicitDefEqProofs only [go_sem,Z1,h1,x3,r5,hn,hz]
     refine fin1' ?_
     simp -implicitDefEqProofs only [go_sem]
     all_goals (simp [e3]; done)
   ·have e3:tellsG (tellS eqs) w (d + 1) = (eq0,false):=by rw [ht]; simp [tellS,r5,hn]
    simp -implicitDefEqProofs only [go_sem,Z1,h1,x3,r5,hn]
    refine fin1' ?_
    simp -implicitDefEqProofs only [go_sem]
    all_goals (simp [e3]; done)
end Go.Proofs.YtlddcknkojieeaaGreat
namespace Go.Proofs.YtlddcknkojieeaaGreat
open Go.Eng Go.Mod
open Int renaming reduceEq → Z1,reduceLT → Z2,reduceLE → Z3,reduceToNat → Z4
set_option maxRecDepth 100000
set_option maxHeartbeats 400000
theorem why_eqS {a b:Why}:a = b ↔ a.rule = b.rule ∧ a.n = b.n ∧ a.t = b.t ∧ a.kids = b.kids:=by
 cases a; cases b; simp [Why.rule,Why.n,Why.t,Why.kids]
theorem isNone_split (t:Term):(¬ t.name = [] ∧ isNone t = false) ∨ (t.name = [] ∧ ¬ (t.kids.length:Int) = 0 ∧ isNone t = false) ∨ (t.name = [] ∧ ((t.kids.length:Int) = 0) = True ∧ isNone t = true):=by
 rcases Classical.em (t.name = []) with h | h
 ·rcases Classical.em ((t.kids.length:Int) = 0) with h2 | h2
  ·exact .inr (.inr ⟨h,eq_true h2,by
    have:t.kids = []:=List.length_eq_zero_iff.1 (by omega)
    simp [isNone,h,this]⟩)
  ·exact .inr (.inl ⟨h,h2,by
    have:¬ t.kids = []:=fun e=>h2 (by rw [e]; rfl)
    simp [isNone,this]⟩)
 ·exact .inl ⟨h,by simp [isNone,h]⟩
theorem c_spec_l5Tells1 (eqs:List EqD) (w:Why) (ih:∀ k ∈ w.kids,∀ d:Nat,d ≤ 400 → C E.P 191 [lv (rowsEq eqs),av (cWhy k),iv d] [] (Eq2 (.tup [av (cEq (tellsG (tellS eqs) k d).1),bv (tellsG (tellS eqs) k d).2]) [])) (d:Nat) (hd:d ≤ 400) :
 C E.P 191 [lv (rowsEq eqs),av (cWhy w),iv d] [] (Eq2 (.tup [av (cEq (tellsG (tellS eqs) w d).1),bv (tellsG (tellS eqs) w d).2]) []):=by
 cases d with
 | zero=>
   have ht:tellsG (tellS eqs) w 0 = (eq0,false):=by cases w; rfl
   rcases isNone_split w.t with ⟨w0,hq⟩ | ⟨w0,w1,hq⟩ | ⟨w0,w1,hq⟩
   ·have hLB:=LB_eq
    refine C_goS (nt:=233) (rs:=[.cell 6 195,.tmp 7]) hm Tryz.func191 rfl rfl rfl rfl rfl (fun hl he=>?_)
    simp -implicitDefEqProofs only [go_sem] at hl ⊢
    simp -implicitDefEqProofs only [go_sem,w0]
    refine loop_go1 hm (fun (i:Nat)=> i = 0) (fun (i:Nat)=> ⟨mkS 233 .any [(0,lv (rowsEq eqs)),(2,iv 0),(4,.ptr 0 0),(6,.ptr 1 0),(8,bv false),(9,.acc 2),(10,iv i)],[some (.box (pvs (cWhy w))),some (.box (pvs (cEq eq0))),some (.acc 195 (rowsEq []))]⟩) (fun (i:Nat)=> 0 - i) (0) ?_ (weakS [some 0,some 1,some 2] ?_ ?_ rfl rfl) ?_
    rotate_left
    ·simp -implicitDefEqProofs only [go_sem]
    ·simp -implicitDefEqProofs only [go_sem]
    rotate_left
    ·rfl
    ·rintro i rfl
     rcases Classical.em ((0:Int) < (w.kids.length:Int)) with hk | hk
     ·simp -implicitDefEqProofs only [go_sem,Z2,hk]
      refine fin1' ?_
      simp -implicitDefEqProofs only [go_sem]
      all_goals (simp [ht]; done)
     ·simp -implicitDefEqProofs only [go_sem,Z2,hk]
      refine fin1' ?_
      simp -implicitDefEqProofs only [go_sem]
      all_goals (simp [ht]; done)
   ·have hLB:=LB_eq
    refine C_goS (nt:=233) (rs:=[.cell 6 195,.tmp 7]) hm Tryz.func191 rfl rfl rfl rfl rfl (fun hl he=>?_)
    simp -implicitDefEqProofs only [go_sem] at hl ⊢
    simp -implicitDefEqProofs only [go_sem,w0,w1]
    refine loop_go1 hm (fun (i:Nat)=> i = 0) (fun (i:Nat)=> ⟨mkS 233 .any [(0,lv (rowsEq eqs)),(2,iv 0),(4,.ptr 0 0),(6,.ptr 1 0),(8,bv false),(9,.acc 2),(10,iv i)],[some (.box (pvs (cWhy w))),some (.box (pvs (cEq eq0))),some (.acc 195 (rowsEq []))]⟩) (fun (i:Nat)=> 0 - i) (0) ?_ (weakS [some 0,some 1,some 2] ?_ ?_ rfl rfl) ?_
    rotate_left
    ·simp -implicitDefEqProofs only [go_sem]
    ·simp -implicitDefEqProofs only [go_sem]
     all_goals (simp [*]; done)
    rotate_left
    ·rfl
    ·rintro i rfl
     rcases Classical.em ((0:Int) < (w.kids.length:Int)) with hk | hk
     ·simp -implicitDefEqProofs only [go_sem,Z2,hk]
      refine fin1' ?_
      simp -implicitDefEqProofs only [go_sem]
      all_goals (simp [ht]; done)
     ·simp -implicitDefEqProofs only [go_sem,Z2,hk]
      refine fin1' ?_
      simp -implicitDefEqProofs only [go_sem]
      all_goals (simp [ht]; done)
   ·have hLB:=LB_eq
    refine C_goS (nt:=233) (rs:=[.cell 6 195,.tmp 7]) hm Tryz.func191 rfl rfl rfl rfl rfl (fun hl he=>?_)
    simp -implicitDefEqProofs only [go_sem] at hl ⊢
    simp -implicitDefEqProofs only [go_sem,w0,w1]
    refine loop_go1 hm (fun (i:Nat)=> i = 0) (fun (i:Nat)=> ⟨mkS 233 .any [(0,lv (rowsEq eqs)),(2,iv 0),(4,.ptr 0 0),(6,.ptr 1 0),(8,bv true),(9,.acc 2),(10,iv i)],[some (.box (pvs (cWhy w))),some (.box (pvs (cEq eq0))),some (.acc 195 (rowsEq []))]⟩) (fun (i:Nat)=> 0 - i) (0) ?_ (weakS [some 0,some 1,some 2] ?_ ?_ rfl rfl) ?_
    rotate_left
    ·simp -implicitDefEqProofs only [go_sem]
    ·simp -implicitDefEqProofs only [go_sem]
     all_goals (simp [*]; done)
    rotate_left
    ·rfl
    ·rintro i rfl
     rcases Classical.em ((0:Int) < (w.kids.length:Int)) with hk | hk
     ·simp -implicitDefEqProofs only [go_sem,Z2,hk]
      refine fin1' ?_
      simp -implicitDefEqProofs only [go_sem]
      all_goals (simp [ht]; done)
     ·simp -implicitDefEqProofs only [go_sem,Z2,hk]
      refine fin1' ?_
      simp -implicitDefEqProofs only [go_sem]
      all_goals (simp [ht]; done)
 | succ d=>
   rcases Classical.em (w.rule = 1) with r1 | r1
   ·rcases isNone_split w.t with ⟨w0,hq⟩ | ⟨w0,w1,hq⟩ | ⟨w0,w1,hq⟩
    ·exact c_spec_l5Tells_onea eqs w ih d hd w0 hq r1
    ·exact c_spec_l5Tells_oneb eqs w ih d hd w0 w1 hq r1
    ·exact c_spec_l5Tells_onec eqs w ih d hd w0 w1 hq r1
   rcases Classical.em (w.rule = 2) with r2 | r2
   ·rcases isNone_split w.t with ⟨w0,hq⟩ | ⟨w0,w1,hq⟩ | ⟨w0,w1,hq⟩
    ·exact c_spec_l5Tells_twoa eqs w ih d hd w0 hq r2
    ·exact c_spec_l5Tells_twob eqs w ih d hd w0 w1 hq r2
    ·exact c_spec_l5Tells_twoc eqs w ih d hd w0 w1 hq r2
   rcases Classical.em (w.rule = 3) with r3 | r3
   ·rcases isNone_split w.t with ⟨w0,hq⟩ | ⟨w0,w1,hq⟩ | ⟨w0,w1,hq⟩
    ·exact c_spec_l5Tells_threea eqs w ih d hd w0 hq r3
    ·exact c_spec_l5Tells_threeb eqs w ih d hd w0 w1 hq r3
    ·exact c_spec_l5Tells_threec eqs w ih d hd w0 w1 hq r3
   rcases Classical.em (w.rule = 4) with r4 | r4
   ·rcases isNone_split w.t with ⟨w0,hq⟩ | ⟨w0,w1,hq⟩ | ⟨w0,w1,hq⟩
    ·exact c_spec_l5Tells_foura eqs w ih d hd w0 hq r4
    ·exact c_spec_l5Tells_fourb eqs w ih d hd w0 w1 hq r4
    ·exact c_spec_l5Tells_fourc eqs w ih d hd w0 w1 hq r4
   rcases Classical.em (w.rule = 5) with r5 | r5
   ·rcases isNone_split w.t with ⟨w0,hq⟩ | ⟨w0,w1,hq⟩ | ⟨w0,w1,hq⟩
    ·exact c_spec_l5Tells_fivea eqs w ih d hd w0 hq r5
    ·exact c_spec_l5Tells_fiveb eqs w ih d hd w0 w1 hq r5
    ·exact c_spec_l5Tells_fivec eqs w ih d hd w0 w1 hq r5
   ·rcases isNone_split w.t with ⟨w0,hq⟩ | ⟨w0,w1,hq⟩ | ⟨w0,w1,hq⟩
    ·exact c_spec_l5Tells_nonea eqs w ih d hd w0 hq r1 r2 r3 r4 r5
    ·exact c_spec_l5Tells_noneb eqs w ih d hd w0 w1 hq r1 r2 r3 r4 r5
    ·exact c_spec_l5Tells_nonec eqs w ih d hd w0 w1 hq r1 r2 r3 r4 r5
theorem c_spec_l5Tells (eqs:List EqD):∀ (w:Why) (d:Nat),d ≤ 400 → C E.P 191 [lv (rowsEq eqs),av (cWhy w),iv d] [] (Eq2 (.tup [av (cEq (tellsG (tellS eqs) w d).1),bv (tellsG (tellS eqs) w d).2]) []):=
 Why.ind fun r n t ks ih d hd=>c_spec_l5Tells1 eqs (.mk r n t ks) ih d hd
theorem c_spec_WhyTells (s:Sig) (eqs:List EqD) (w:Why):C E.P 133 [av (cSig s),lv (rowsEq eqs),av (cWhy w)] [] (Eq2 (.tup [av (cEq ((whyTells s eqs w).getD eq0)),bv (whyTells s eqs w).isSome]) []):=by
 have hw:=whyTells_S s eqs w
 have ht:=c_spec_l5Tells eqs w 400 (by omega)
 have hLB:=LB_eq
 refine C_goS (nt:=38) (rs:=[.cell 6 195,.tmp 7]) hm Tryz.func133 rfl rfl rfl rfl rfl (fun hl he=>?_)
 simp -implicitDefEqProofs only [go_sem] at hl ⊢
 refine atCall [] (c_spec_EqsOk s eqs) ?_ ?_ <;> simp -implicitDefEqProofs only [go_sem]
 cases h1:eqsOk s eqs
 ·rw [h1] at hw
  simp only [Bool.false_and,Bool.false_eq_true,if_false] at hw
  simp -implicitDefEqProofs only [go_sem]
  refine fin1' ?_
  simp -implicitDefEqProofs only [go_sem]
  all_goals (simp [hw]; done)
 ·rw [h1] at hw
  simp only [Bool.true_and] at hw
  simp -implicitDefEqProofs only [go_sem]
  refine atCall [] ht ?_ ?_ <;> simp -implicitDefEqProofs only [go_sem,natCast_lit]
  cases h2:(tellsG (tellS eqs) w 400).2
  ·rw [h2] at hw
   simp only [Bool.false_and,Bool.false_eq_true,if_false] at hw
   simp -implicitDefEqProofs only [go_sem]
   refine fin1' ?_
   simp -implicitDefEqProofs only [go_sem]
   all_goals (simp [hw]; done)
  ·rw [h2] at hw
   simp only [Bool.true_and] at hw
   simp -implicitDefEqProofs only [go_sem]
   refine atCall [] (c_spec_EqsOk s [(tellsG (tellS eqs) w 400).1]) ?_ ?_ <;> simp -implicitDefEqProofs only [go_sem,rowsEq_cons]
   cases h3:eqsOk s [(tellsG (tellS eqs) w 400).1]
   ·rw [h3] at hw
    simp only [Bool.false_eq_true,if_false] at hw
    simp -implicitDefEqProofs only [go_sem]
    refine fin1' ?_
    simp -implicitDefEqProofs only [go_sem]
    all_goals (simp [hw]; done)
   ·rw [h3] at hw
    simp only [if_true] at hw
    simp -implicitDefEqProofs only [go_sem]
    refine atCall [] (c_spec_l4Copy (tellsG (tellS eqs) w 400).1.A) ?_ ?_ <;> simp -implicitDefEqProofs only [go_sem]
    refine atCall [] (c_spec_l4Copy (tellsG (tellS eqs) w 400).1.B) ?_ ?_ <;> simp -implicitDefEqProofs only [go_sem]
    with_reducible refine ind_andM (by kernel_rfl) ?_
    refine fin1' ?_
    simp -implicitDefEqProofs only [go_sem]
    all_goals (simp [hw]; done)
theorem c_spec_WhySame1 (a b:Why) (ih:∀ k ∈ a.kids,∀ y,C E.P 132 [av (cWhy k),av (cWhy y)] [] (Eq2 (bv (decide (k = y))) [])):C E.P 132 [av (cWhy a),av (cWhy b)] [] (Eq2 (bv (decide (a = b))) []):=by
 have hLB:=LB_eq
 refine C_goS (nt:=54) (rs:=[.tmp 4]) hm Tryz.func132 rfl rfl rfl rfl rfl (fun hl he=>?_)
 simp -implicitDefEqProofs only [go_sem] at hl ⊢
 rcases Classical.em (a.rule = b.rule) with h1 | h1
 ·rcases Classical.em (a.n = b.n) with h0 | h0
  ·have k1:=eq_true h1
   have k0:=eq_true h0
   simp -implicitDefEqProofs only [go_sem,k1,k0]
   refine atCall [] (c_spec_TermSame a.t b.t) ?_ ?_ <;> simp -implicitDefEqProofs only [go_sem]
   rcases Classical.em (a.t = b.t) with h | h
   ·have k:=eq_true h
    simp -implicitDefEqProofs only [go_sem,k]
    rcases Classical.em (a.kids.length = b.kids.length) with h2 | h2
    ·have k2:=eq_true h2
     simp -implicitDefEqProofs only [go_sem,k2]
     refine loop_go1 hm (fun (i:Nat)=> i ≤ a.kids.length ∧ (a.kids = b.kids ↔ a.kids.drop i = b.kids.drop i)) (fun (i:Nat)=> ⟨mkS 54 .any [(2,.ptr 0 0),(3,.ptr 1 0),(5,iv i)],[some (.box (pvs (cWhy a))),some (.box (pvs (cWhy b)))]⟩) (fun (i:Nat)=> a.kids.length - i) (0) ?_ (weakS [some 0,some 1] ?_ ?_ rfl rfl) ?_
     rotate_left
     ·simp -implicitDefEqProofs only [go_sem]
     ·simp -implicitDefEqProofs only [go_sem]
     rotate_left
     ·simp
     ·rintro i ⟨hi,hg⟩
      rcases Classical.em (i < a.kids.length) with h3 | h3
      ·have h4:i < b.kids.length:=by omega
       rw [drop_eq h3 h4] at hg
       simp -implicitDefEqProofs only [go_sem,h3,h4]
       have hc:=ih a.kids[i] (List.getElem_mem h3) b.kids[i]
       refine atCall [] hc ?_ ?_ <;> simp -implicitDefEqProofs only [go_sem]
       with_reducible refine ind_andM (by kernel_rfl) ?_
       rcases Classical.em (a.kids[i] = b.kids[i]) with h5 | h5
       ·have k5:=eq_true h5
        simp -implicitDefEqProofs only [go_sem,k5]
        repeat (with_reducible apply And.intro; case left=>omega)
        refine ⟨i + 1,?_,?_,weakS [some 0,some 1] ?_ ?_ rfl rfl⟩
        rotate_left
        ·show _ < _
         omega
        ·simp -implicitDefEqProofs only [go_sem]
        ·simp -implicitDefEqProofs only [go_sem]
        refine ⟨by omega,?_⟩
        rw [hg]
        simp [h5]
       ·have e:¬ a.kids = b.kids:=fun hh=>h5 (hg.1 hh).1
        simp -implicitDefEqProofs only [go_sem,h5]
        refine fin1' ?_
        simp -implicitDefEqProofs only [go_sem]
        all_goals (simp [why_eqS,e]; done)
      ·rw [List.drop_of_length_le (by omega),List.drop_of_length_le (by omega)] at hg
       simp -implicitDefEqProofs only [go_sem,h3]
       refine fin1' ?_
       simp -implicitDefEqProofs only [go_sem]
       all_goals (simp [why_eqS,h,h1,h0,hg]; done)
    ·have e:¬ a.kids = b.kids:=fun hh=>h2 (by rw [hh])
     simp -implicitDefEqProofs only [go_sem,h2]
     refine fin1' ?_
     simp -implicitDefEqProofs only [go_sem]
     all_goals (simp [why_eqS,e]; done)
   ·simp -implicitDefEqProofs only [go_sem,h]
    refine fin1' ?_
    simp -implicitDefEqProofs only [go_sem]
    all_goals (simp [why_eqS,h]; done)
  ·have k1:=eq_true h1
   simp -implicitDefEqProofs only [go_sem,k1,h0]
   refine fin1' ?_
   simp -implicitDefEqProofs only [go_sem]
   all_goals (simp [why_eqS,h0]; done)
 ·simp -implicitDefEqProofs only [go_sem,h1]
  refine fin1' ?_
  simp -implicitDefEqProofs only [go_sem]
  all_goals (simp [why_eqS,h1]; done)
theorem c_spec_WhySame:∀ a b,C E.P 132 [av (cWhy a),av (cWhy b)] [] (Eq2 (bv (decide (a = b))) []):=
 Why.ind fun r n t ks ih b=>c_spec_WhySame1 (.mk r n t ks) b ih
end Go.Proofs.YtlddcknkojieeaaGreat
