/-
  The program: the walk of closures. A step towards the laws. The program: the walk of closures, going on: pairs, merges, the whole. A step towards the laws. The program: lists of edges turned round, and the search of a way. A step towards the laws.
-/
import Derived.Test.YtpidddienjoleaaGreatKAH
import Derived.Test.YtpidddienjoleaaGreatKAEk
import Derived.Test.YtpidddienjoleaaGreatKAEl
set_option linter.unusedVariables false
set_option linter.unusedSimpArgs false
namespace Go.Proofs.YtpidddienjoleaaGreat
open Go.Eng Go.Mod
open Int renaming reduceEq → Z1,reduceLT → Z2,reduceLE → Z3,reduceToNat → Z4
set_option maxRecDepth 100000
set_option maxHeartbeats 1600000
def cClo (parts:List Term) (c:List Nat) (steps:List Step):List D:=[.lst (rowsT parts),.lst (rowsN c),.lst (rowsStep steps)]
attribute [go_sem] cClo
theorem c_at (parts:List Term) (c:List Nat) (steps:List Step) (t:Term):C E.P 94 [.iptr [cClo parts c steps] 0 0,av (cT t)] [] (Eq2 (iv (termIdx parts t)) []):=by
 have hLB:=LB_eq
 refine C_goS (nt:=11) (rs:=[.tmp 4]) hm Tryz.func94 rfl rfl rfl rfl rfl (fun hl he=>?_)
 simp -implicitDefEqProofs only [go_sem] at hl ⊢
 refine atCall [] (c_impl_termIndex parts t) ?_ ?_ <;> simp -implicitDefEqProofs only [go_sem]
 with_reducible refine ind_andM (by kernel_rfl) ?_
 refine fin1' ?_
 simp -implicitDefEqProofs only [go_sem]
theorem c_congruent1_M (parts:List Term) (c:List Nat) (steps:List Step) (x y:Term) (hx:x ∈ parts) (hy:y ∈ parts) (hc:c.length = parts.length):C E.P 249 [av (cT x),av (cT y),.ptr 0 0] [some (.box [.ptr 1 0]),some (.box [lv (rowsT parts),.acc 2,.acc 3]),some (.acc 3 (rowsN c)),some (.acc 273 (rowsStep steps))] (Eq2 (bv (sameK parts c x y)) [some (.box [.ptr 1 0]),some (.box [lv (rowsT parts),.acc 2,.acc 3]),some (.acc 3 (rowsN c)),some (.acc 273 (rowsStep steps))]):=by
 have px:=placeN_lt hx
 have py:=placeN_lt hy
 have cx:=placeN_cast hx
 have cy:=placeN_cast hy
 have px':placeN parts x < c.length:=by omega
 have py':placeN parts y < c.length:=by omega
 have ex:c[placeN parts x] = cl c (placeN parts x):=(cl_lt px').symm
 have ey:c[placeN parts y] = cl c (placeN parts y):=(cl_lt py').symm
 have hLB:=LB_eq
 refine C_goS (nt:=25) (rs:=[.tmp 5]) hm Tryz.func249 rfl rfl rfl rfl rfl (fun hl he=>?_)
 simp -implicitDefEqProofs only [go_sem] at hl ⊢
 refine atLook [] [1,2,3] (c_at parts c steps x) rfl ?_ ?_ ?_
 ·(simp -implicitDefEqProofs only [go_sem]; repeat' (first | exact Vws.nil | apply Vws.cons | exact Vw.same (by first | rfl | simp -implicitDefEqProofs only [go_sem,Z1,Z2,Z3,Z4]) | exact Vw.acc rfl rfl | exact Vw.tre rfl rfl (by simp -implicitDefEqProofs only [go_sem,Z1,Z2,Z3,Z4]) | exact Vw.nil | apply Vw.agg | apply Vw.fn | refine Vw.box rfl rfl ?_))
 all_goals simp -implicitDefEqProofs only [go_sem,cx,px',ex]
 refine atLook [] [1,2,3] (c_at parts c steps y) rfl ?_ ?_ ?_
 ·(simp -implicitDefEqProofs only [go_sem]; repeat' (first | exact Vws.nil | apply Vws.cons | exact Vw.same (by first | rfl | simp -implicitDefEqProofs only [go_sem,Z1,Z2,Z3,Z4]) | exact Vw.acc rfl rfl | exact Vw.tre rfl rfl (by simp -implicitDefEqProofs only [go_sem,Z1,Z2,Z3,Z4]) | exact Vw.nil | apply Vw.agg | apply Vw.fn | refine Vw.box rfl rfl ?_))
 all_goals simp -implicitDefEqProofs only [go_sem,cy,py',ey]
 with_reducible refine ind_andM (by kernel_rfl) ?_
 refine finM' [some 0,some 1,some 2,some 3] ?_ rfl rfl
 simp -implicitDefEqProofs only [go_sem]
 ((repeat' apply And.intro) <;> rfl)
theorem c_EqualFunc_clo (parts:List Term) (c:List Nat) (steps:List Step) (hc:c.length = parts.length) (xs ys:List Term) (hx:∀ x ∈ xs,x ∈ parts) (hy:∀ y ∈ ys,y ∈ parts) (hl9:xs.length ≤ 1000):C E.P 47 [lv (rowsT xs),lv (rowsT ys),.fn 249 [.ptr 0 0]] [some (.box [.ptr 1 0]),some (.box [lv (rowsT parts),.acc 2,.acc 3]),some (.acc 3 (rowsN c)),some (.acc 273 (rowsStep steps))] (Eq2 (bv (sameKs parts c xs ys)) [some (.box [.ptr 1 0]),some (.box [lv (rowsT parts),.acc 2,.acc 3]),some (.acc 3 (rowsN c)),some (.acc 273 (rowsStep steps))]):=by
 have hLB:=LB_eq
 refine C_goS (nt:=32) (rs:=[.tmp 6]) hm Tryz.func47 rfl rfl rfl rfl rfl (fun hl he=>?_)
 simp -implicitDefEqProofs only [go_sem] at hl ⊢
 rcases Classical.em (xs.length = ys.length) with h0 | h0
 ·have k0:=eq_true h0
  simp -implicitDefEqProofs only [go_sem,k0]
  refine loop_go1 hm (fun (i:Nat)=> i ≤ xs.length ∧ sameKs parts c xs ys = sameKs parts c (xs.drop i) (ys.drop i)) (fun (i:Nat)=> ⟨mkS 32 .any [(1,lv (rowsT ys)),(2,.fn 249 [.ptr 0 0]),(15,lv (rowsT xs)),(16,iv xs.length),(17,iv i)],[some (.box [.ptr 1 0]),some (.box [lv (rowsT parts),.acc 2,.acc 3]),some (.acc 3 (rowsN c)),some (.acc 273 (rowsStep steps))]⟩) (fun (i:Nat)=> xs.length - i) (0) ?_ (weakS [some 0,some 1,some 2,some 3] ?_ ?_ rfl rfl) ?_
  rotate_left
  ·simp -implicitDefEqProofs only [go_sem]
  ·simp -implicitDefEqProofs only [go_sem]
  rotate_left
  ·exact ⟨Nat.zero_le _,rfl⟩
  ·rintro i ⟨hi,hg⟩
   rcases Classical.em (i < xs.length) with h1 | h1
   ·have h2:i < ys.length:=by omega
    have hco:=c_congruent1_M parts c steps xs[i] ys[i] (hx _ (List.getElem_mem h1)) (hy _ (List.getElem_mem h2)) hc
    rw [sameKs_step h1 h2] at hg
    simp -implicitDefEqProofs only [go_sem,h1,h2]
    refine atOwn [.ptr 0 0] [0,1,2,3] hco ?_ ?_
    ·simp -implicitDefEqProofs only [go_sem]
     first | rfl | ((repeat' apply And.intro) <;> rfl)
    simp -implicitDefEqProofs only [go_sem]
    cases h3:sameK parts c xs[i] ys[i]
    ·rw [h3,Bool.false_and] at hg
     simp -implicitDefEqProofs only [go_sem]
     refine finM' [some 0,some 1,some 2,some 3] ?_ rfl rfl
     simp -implicitDefEqProofs only [go_sem]
     rw [hg]
    ·rw [h3,Bool.true_and] at hg
     simp -implicitDefEqProofs only [go_sem]
     repeat (with_reducible apply And.intro; case left=>omega)
     refine ⟨i + 1,?_,?_,weakS [some 0,some 1,some 2,some 3] ?_ ?_ rfl rfl⟩
     rotate_left
     ·show _ < _
      omega
     ·simp -implicitDefEqProofs only [go_sem]
     ·simp -implicitDefEqProofs only [go_sem]
     exact ⟨by omega,hg⟩
   ·rw [List.drop_of_length_le (by omega),List.drop_of_length_le (by omega),sameKs_nil] at hg
    simp -implicitDefEqProofs only [go_sem,h1]
    refine finM' [some 0,some 1,some 2,some 3] ?_ rfl rfl
    simp -implicitDefEqProofs only [go_sem]
    rw [hg]
 ·rw [sameKs_len h0]
  simp -implicitDefEqProofs only [go_sem,h0]
  refine finM' [some 0,some 1,some 2,some 3] ?_ rfl rfl
  simp -implicitDefEqProofs only [go_sem]
theorem c_congruent_M (parts:List Term) (c:List Nat) (steps:List Step) (a b:Nat) (hk:KidsIn parts) (ha:a < parts.length) (hb:b < parts.length) (hc:c.length = parts.length) (hk9:∀ t ∈ parts,t.kids.length ≤ 1000):C E.P 214 [.ptr 0 0,iv a,iv b] [some (.box [lv (rowsT parts),.acc 1,.acc 2]),some (.acc 3 (rowsN c)),some (.acc 273 (rowsStep steps))] (Eq2 (bv (alike parts c a b)) [some (.box [lv (rowsT parts),.acc 1,.acc 2]),some (.acc 3 (rowsN c)),some (.acc 273 (rowsStep steps))]):=by
 have e1:parts.getD a term0 = parts[a]:=by rw [List.getD_eq_getElem?_getD,List.getElem?_eq_getElem ha]; rfl
 have e2:parts.getD b term0 = parts[b]:=by rw [List.getD_eq_getElem?_getD,List.getElem?_eq_getElem hb]; rfl
 have ka:=hk _ (List.getElem_mem ha)
 have la:=hk9 _ (List.getElem_mem ha)
 have kb:=hk _ (List.getElem_mem hb)
 have e:alike parts c a b = (decide (0 < parts[a].kids.length) && (decide (parts[a].name = parts[b].name) && sameKs parts c parts[a].kids parts[b].kids)):=by rw [alike,e1,e2]
 have hco:=c_EqualFunc_clo parts c steps hc parts[a].kids parts[b].kids ka kb la
 have hLB:=LB_eq
 refine C_goS (nt:=42) (rs:=[.tmp 6]) hm Tryz.func214 rfl rfl rfl rfl rfl (fun hl he=>?_)
 simp -implicitDefEqProofs only [go_sem] at hl ⊢
 simp -implicitDefEqProofs only [go_sem,ha,hb]
 with_reducible refine ind_andM (by kernel_rfl) ?_
 rcases Classical.em ((0:Int) < (parts[a].kids.length:Int)) with h1 | h1
 ·rcases Classical.em (parts[a].name = parts[b].name) with h2 | h2
  ·have k2:=eq_true h2
   rw [decide_eq_true (by omega:0 < parts[a].kids.length),decide_eq_true h2,Bool.true_and,Bool.true_and] at e
   simp -implicitDefEqProofs only [go_sem,h1,k2]
   refine atOwn [] [3,0,1,2] hco ?_ ?_
   ·simp -implicitDefEqProofs only [go_sem]
    first | rfl | ((repeat' apply And.intro) <;> rfl)
   simp -implicitDefEqProofs only [go_sem]
   refine finM' [some 0,some 1,some 2] ?_ rfl rfl
   simp -implicitDefEqProofs only [go_sem]
   rw [e]
  ·rw [decide_eq_false h2,Bool.false_and,Bool.and_false] at e
   simp -implicitDefEqProofs only [go_sem,h1,h2]
   refine finM' [some 0,some 1,some 2] ?_ rfl rfl
   simp -implicitDefEqProofs only [go_sem]
   rw [e]
 ·rw [decide_eq_false (by omega:¬ 0 < parts[a].kids.length),Bool.false_and] at e
  simp -implicitDefEqProofs only [go_sem,h1]
  refine finM' [some 0,some 1,some 2] ?_ rfl rfl
  simp -implicitDefEqProofs only [go_sem]
  rw [e]
end Go.Proofs.YtpidddienjoleaaGreat
namespace Go.Proofs.YtpidddienjoleaaGreat
open Go.Eng Go.Mod
open Int renaming reduceEq → Z1,reduceLT → Z2,reduceLE → Z3,reduceToNat → Z4
set_option maxRecDepth 100000
set_option maxHeartbeats 1600000
theorem c_pair_M (parts:List Term) (c:List Nat) (steps:List Step) (hk:KidsIn parts) (hc:c.length = parts.length) (hl9:parts.length ≤ 1000) (hk9:∀ t ∈ parts,t.kids.length ≤ 1000):C E.P 158 [.ptr 0 0] [some (.box [lv (rowsT parts),.acc 1,.acc 2]),some (.acc 3 (rowsN c)),some (.acc 273 (rowsStep steps))] (Eq2 (.tup [iv (((nextPair parts c).getD (0,0)).1:Nat),iv (((nextPair parts c).getD (0,0)).2:Nat),bv (nextPair parts c).isSome]) [some (.box [lv (rowsT parts),.acc 1,.acc 2]),some (.acc 3 (rowsN c)),some (.acc 273 (rowsStep steps))]):=by
 have hLB:=LB_eq
 refine C_goS (nt:=44) (rs:=[.tmp 2,.tmp 3,.tmp 4]) hm Tryz.func158 rfl rfl rfl rfl rfl (fun hl he=>?_)
 simp -implicitDefEqProofs only [go_sem] at hl ⊢
 refine loop_go1 hm (fun (l:Nat)=> l ≤ parts.length ∧ nextPair parts c = (latePairs l parts.length).find? (fun p=>mergeable parts c p.1 p.2)) (fun (l:Nat)=> ⟨mkS 44 .any [(0,.ptr 0 0),(11,iv parts.length),(12,iv l)],[some (.box [lv (rowsT parts),.acc 1,.acc 2]),some (.acc 3 (rowsN c)),some (.acc 273 (rowsStep steps))]⟩) (fun (l:Nat)=> parts.length - l) (0) ?_ (weakS [some 0,some 1,some 2] ?_ ?_ rfl rfl) ?_
 rotate_left
 ·simp -implicitDefEqProofs only [go_sem]
 ·simp -implicitDefEqProofs only [go_sem]
 rotate_left
 ·exact ⟨Nat.zero_le _,rfl⟩
 ·rintro l ⟨hi,hg⟩
  rcases Classical.em (l < parts.length) with h1 | h1
  ·rw [lateRest_start h1] at hg
   simp -implicitDefEqProofs only [go_sem,h1]
   refine loop_go1 hm (fun (e:Nat)=> e ≤ l ∧ nextPair parts c = (lateRest e l parts.length).find? (fun p=>mergeable parts c p.1 p.2)) (fun (e:Nat)=> ⟨mkS 44 .any [(0,.ptr 0 0),(5,iv l),(11,iv parts.length),(12,iv l),(15,iv l),(16,iv e)],[some (.box [lv (rowsT parts),.acc 1,.acc 2]),some (.acc 3 (rowsN c)),some (.acc 273 (rowsStep steps))]⟩) (fun (e:Nat)=> l - e) (0) ?_ (weakS [some 0,some 1,some 2] ?_ ?_ rfl rfl) ?_
   rotate_left
   ·simp -implicitDefEqProofs only [go_sem]
   ·simp -implicitDefEqProofs only [go_sem]
   rotate_left
   ·exact ⟨Nat.zero_le _,hg⟩
   ·rintro e ⟨he,hg⟩
    rcases Classical.em (e < l) with h2 | h2
    ·have pe:e < c.length:=by omega
     have pl:l < c.length:=by omega
     have ee:c[e] = cl c e:=(cl_lt pe).symm
     have el:c[l] = cl c l:=(cl_lt pl).symm
     rw [lateRest_step h2,List.find?_cons] at hg
     have em:mergeable parts c e l = (decide (cl c e ≠ cl c l) && alike parts c e l):=rfl
     simp only [em] at hg
     rcases Classical.em (cl c e = cl c l) with h3 | h3
     ·have k3:(cl c e = cl c l) = True:=eq_true h3
      rw [decide_eq_false (by omega:¬ cl c e ≠ cl c l),Bool.false_and] at hg
      simp -implicitDefEqProofs only [go_sem,h2,pe,pl,ee,el,k3]
      with_reducible refine ind_andM (by kernel_rfl) ?_
      repeat (with_reducible apply And.intro; case left=>omega)
      refine ⟨e + 1,?_,?_,weakS [some 0,some 1,some 2] ?_ ?_ rfl rfl⟩
      rotate_left
      ·show _ < _
       omega
      ·simp -implicitDefEqProofs only [go_sem]
      ·simp -implicitDefEqProofs only [go_sem]
      exact ⟨by omega,hg⟩
     ·have hco:=c_congruent_M parts c steps e l hk (by omega) h1 hc hk9
      rw [decide_eq_true (by omega:cl c e ≠ cl c l),Bool.true_and] at hg
      simp -implicitDefEqProofs only [go_sem,h2,pe,pl,ee,el,h3]
      refine atOwn [] [0,1,2] hco ?_ ?_
      ·simp -implicitDefEqProofs only [go_sem]
       first | rfl | ((repeat' apply And.intro) <;> rfl)
      simp -implicitDefEqProofs only [go_sem]
      with_reducible refine ind_andM (by kernel_rfl) ?_
      cases h4:alike parts c e l
      ·rw [h4] at hg
       simp -implicitDefEqProofs only [go_sem]
       repeat (with_reducible apply And.intro; case left=>omega)
       refine ⟨e + 1,?_,?_,weakS [some 0,some 1,some 2] ?_ ?_ rfl rfl⟩
       rotate_left
       ·show _ < _
        omega
       ·simp -implicitDefEqProofs only [go_sem]
       ·simp -implicitDefEqProofs only [go_sem]
       exact ⟨by omega,hg⟩
      ·rw [h4] at hg
       simp only at hg
       simp -implicitDefEqProofs only [go_sem]
       refine finM' [some 0,some 1,some 2] ?_ rfl rfl
       simp -implicitDefEqProofs only [go_sem]
       rw [hg]
       ((repeat' apply And.intro) <;> rfl)
    ·rw [lateRest_end (by omega)] at hg
     simp -implicitDefEqProofs only [go_sem,h2]
     repeat (with_reducible apply And.intro; case left=>omega)
     refine ⟨l + 1,?_,?_,weakS [some 0,some 1,some 2] ?_ ?_ rfl rfl⟩
     rotate_left
     ·show _ < _
      omega
     ·simp -implicitDefEqProofs only [go_sem]
     ·simp -implicitDefEqProofs only [go_sem]
     exact ⟨by omega,hg⟩
  ·rw [latePairs_end (by omega),List.find?_nil] at hg
   simp -implicitDefEqProofs only [go_sem,h1]
   refine finM' [some 0,some 1,some 2] ?_ rfl rfl
   simp -implicitDefEqProofs only [go_sem]
   rw [hg]
   ((repeat' apply And.intro) <;> rfl)
theorem c_merge_M (parts:List Term) (c:List Nat) (steps:List Step) (a b:Nat) (n:Int) (ha:a < c.length) (hb:b < c.length) (hl9:c.length ≤ 1000) (hs9:steps.length ≤ 2000000):C E.P 157 [.ptr 0 0,iv a,iv b,iv n] [some (.box [lv (rowsT parts),.acc 1,.acc 2]),some (.acc 3 (rowsN c)),some (.acc 273 (rowsStep steps))] (Eq2 (.tup []) [some (.box [lv (rowsT parts),.acc 1,.acc 3]),some (.acc 3 (rowsN (joinC c a b))),some .dead,some (.acc 273 (rowsStep (steps ++ [⟨a,b,n⟩])))]):=by
 have ea:c[a] = cl c a:=(cl_lt ha).symm
 have eb:c[b] = cl c b:=(cl_lt hb).symm
 obtain ⟨f,hf⟩:∃ f,max (cl c a) (cl c b) = f:=⟨_,rfl⟩
 obtain ⟨t,ht⟩:∃ t,min (cl c a) (cl c b) = t:=⟨_,rfl⟩
 have hend:∀ i,c.length ≤ i → joinUp c f t i = joinC c a b:=fun i hi=>by rw [← hf,← ht]; exact joinUp_end hi
 have hss:rowsStep steps ++ [[.val (.int .i64 (a:Int)),.val (.int .i64 (b:Int)),.val (.int .i64 n)]] = rowsStep (steps ++ [⟨a,b,n⟩]):=by
  rw [← rowsStep_app,rowsStep_cons,rowsStep_nil]; rfl
 have hLB:=LB_eq
 refine C_goS (nt:=65) (rs:=[]) hm Tryz.func157 rfl rfl rfl rfl rfl (fun hl he=>?_)
 simp -implicitDefEqProofs only [go_sem] at hl ⊢
 repeat (with_reducible apply And.intro; case left=>omega)
 simp -implicitDefEqProofs only [go_sem,ha,hb,ea,eb]
 with_reducible refine ind_andM (by kernel_rfl) ?_
 rw [hss]
 rcases Classical.em (cl c a < cl c b) with h0 | h0
 ·have ef:f = cl c b:=by omega
  have et:t = cl c a:=by omega
  simp -implicitDefEqProofs only [go_sem,h0]
  rw [← ef,← et]
  refine loop_go1 hm (fun (i:Nat)=> i ≤ c.length) (fun (i:Nat)=> ⟨mkS 65 .any [(0,.ptr 0 0),(8,iv f),(9,iv t),(47,.acc 1),(48,iv c.length),(49,iv i)],[some (.box [lv (rowsT parts),.acc 1,.acc 3]),some (.acc 3 (rowsN (joinUp c f t i))),some .dead,some (.acc 273 (rowsStep (steps ++ [⟨a,b,n⟩])))]⟩) (fun (i:Nat)=> c.length - i) (0) ?_ (weakS [some 0,some 1,some 2,some 3] ?_ ?_ rfl rfl) ?_
  rotate_left
  ·simp -implicitDefEqProofs only [go_sem]
  ·simp -implicitDefEqProofs only [go_sem]
   all_goals ((simp [joinUp]))
  rotate_left
  ·omega
  ·rintro i hi
   have hjl:=joinUp_len c f t i
   rcases Classical.em (i < c.length) with h1 | h1
   ·have h1':i < (joinUp c f t i).length:=by omega
    have eg:=joinUp_get (f:=f) (t:=t) h1 h1'
    rcases Classical.em (c[i] = f) with h2 | h2
    ·have k2:(c[i] = f) = True:=eq_true h2
     have hp:=rowsN_put (l:=joinUp c f t i) (i:=i) (n:=t) h1'
     have hn:=joinUp_next (f:=f) (t:=t) h1
     rw [if_pos h2] at hn
     rw [rowsN_row h1',eg] at hp
     simp -implicitDefEqProofs only [go_sem,hjl,h1,eg,k2]
     repeat (with_reducible apply And.intro; case left=>omega)
     refine ⟨i + 1,?_,?_,weakS [some 0,some 1,some 2,some 3] ?_ ?_ rfl rfl⟩
     rotate_left
     ·show _ < _
      omega
     ·simp -implicitDefEqProofs only [go_sem]
     ·simp -implicitDefEqProofs only [go_sem]
      all_goals ((rw [hp,hn]))
     exact h1
    ·have hn:=joinUp_keep (f:=f) (t:=t) h1 h2
     simp -implicitDefEqProofs only [go_sem,hjl,h1,eg,h2]
     repeat (with_reducible apply And.intro; case left=>omega)
     refine ⟨i + 1,?_,?_,weakS [some 0,some 1,some 2,some 3] ?_ ?_ rfl rfl⟩
     rotate_left
     ·show _ < _
      omega
     ·simp -implicitDefEqProofs only [go_sem]
     ·simp -implicitDefEqProofs only [go_sem]
      all_goals ((rw [hn]))
     exact h1
   ·rw [hend i (by omega)] at hjl ⊢
    simp -implicitDefEqProofs only [go_sem,h1]
    refine finM' [some 0,some 1,some 2,some 3] ?_ rfl rfl
    simp -implicitDefEqProofs only [go_sem]
 ·have ef:f = cl c a:=by omega
  have et:t = cl c b:=by omega
  simp -implicitDefEqProofs only [go_sem,h0]
  rw [← ef,← et]
  refine loop_go1 hm (fun (i:Nat)=> i ≤ c.length) (fun (i:Nat)=> ⟨mkS 65 .any [(0,.ptr 0 0),(8,iv f),(9,iv t),(47,.acc 1),(48,iv c.length),(49,iv i)],[some (.box [lv (rowsT parts),.acc 1,.acc 3]),some (.acc 3 (rowsN (joinUp c f t i))),some .dead,some (.acc 273 (rowsStep (steps ++ [⟨a,b,n⟩])))]⟩) (fun (i:Nat)=> c.length - i) (0) ?_ (weakS [some 0,some 1,some 2,some 3] ?_ ?_ rfl rfl) ?_
  rotate_left
  ·simp -implicitDefEqProofs only [go_sem]
  ·simp -implicitDefEqProofs only [go_sem]
   all_goals ((simp [joinUp]))
  rotate_left
  ·omega
  ·rintro i hi
   have hjl:=joinUp_len c f t i
   rcases Classical.em (i < c.length) with h1 | h1
   ·have h1':i < (joinUp c f t i).length:=by omega
    have eg:=joinUp_get (f:=f) (t:=t) h1 h1'
    rcases Classical.em (c[i] = f) with h2 | h2
    ·have k2:(c[i] = f) = True:=eq_true h2
     have hp:=rowsN_put (l:=joinUp c f t i) (i:=i) (n:=t) h1'
     have hn:=joinUp_next (f:=f) (t:=t) h1
     rw [if_pos h2] at hn
     rw [rowsN_row h1',eg] at hp
     simp -implicitDefEqProofs only [go_sem,hjl,h1,eg,k2]
     repeat (with_reducible apply And.intro; case left=>omega)
     refine ⟨i + 1,?_,?_,weakS [some 0,some 1,some 2,some 3] ?_ ?_ rfl rfl⟩
     rotate_left
     ·show _ < _
      omega
     ·simp -implicitDefEqProofs only [go_sem]
     ·simp -implicitDefEqProofs only [go_sem]
      all_goals ((rw [hp,hn]))
     exact h1
    ·have hn:=joinUp_keep (f:=f) (t:=t) h1 h2
     simp -implicitDefEqProofs only [go_sem,hjl,h1,eg,h2]
     repeat (with_reducible apply And.intro; case left=>omega)
     refine ⟨i + 1,?_,?_,weakS [some 0,some 1,some 2,some 3] ?_ ?_ rfl rfl⟩
     rotate_left
     ·show _ < _
      omega
     ·simp -implicitDefEqProofs only [go_sem]
     ·simp -implicitDefEqProofs only [go_sem]
      all_goals ((rw [hn]))
     exact h1
   ·rw [hend i (by omega)] at hjl ⊢
    simp -implicitDefEqProofs only [go_sem,h1]
    refine finM' [some 0,some 1,some 2,some 3] ?_ rfl rfl
    simp -implicitDefEqProofs only [go_sem]
theorem c_impl_closed (parts:List Term) (eqs:List EqD) (hk:KidsIn parts) (hin:∀ e ∈ eqs,e.A ∈ parts ∧ e.B ∈ parts) (hl9:parts.length ≤ 1000) (hk9:∀ t ∈ parts,t.kids.length ≤ 1000) (he9:eqs.length ≤ 1000) :
 C E.P 89 [lv (rowsT parts),lv (rowsEq eqs)] [] (Eq2 (.ptr 0 0) [some (.box [lv (rowsT parts),lv (rowsN (closed parts eqs).1),lv (rowsStep (closed parts eqs).2)])]):=by
 have hLB:=LB_eq
 refine C_goS (nt:=82) (rs:=[.tmp 4]) hm Tryz.func89 rfl rfl rfl rfl rfl (fun hl he=>?_)
 simp -implicitDefEqProofs only [go_sem] at hl ⊢
 refine loop_go1 hm (fun (i:Nat)=> i ≤ parts.length) (fun (i:Nat)=> ⟨mkS 82 .any [(1,lv (rowsEq eqs)),(5,.ptr 0 0),(18,iv parts.length),(19,iv i)],[some (.box [lv (rowsT parts),.acc 1,.acc 2]),some (.acc 3 (rowsN (List.range i))),some (.acc 273 (rowsStep []))]⟩) (fun (i:Nat)=> parts.length - i) (0) ?_ (weakS [some 0,none,none] ?_ ?_ rfl rfl) ?_
 rotate_left
 ·simp -implicitDefEqProofs only [go_sem]
 ·simp -implicitDefEqProofs only [go_sem]
  all_goals (rfl)
 rotate_left
 ·omega
 ·rintro i hi
  have hrl:(List.range i).length = i:=List.length_range
  rcases Classical.em (i < parts.length) with h1 | h1
  ·simp -implicitDefEqProofs only [go_sem,h1]
   repeat (with_reducible apply And.intro; case left=>omega)
   refine ⟨i + 1,?_,?_,weakS [some 0,some 3,some 2] ?_ ?_ rfl rfl⟩
   rotate_left
   ·show _ < _
    omega
   ·simp -implicitDefEqProofs only [go_sem]
   ·simp -implicitDefEqProofs only [go_sem]
    all_goals ((rw [← rowsN_app]; rfl))
   exact h1
  ·obtain rfl:i = parts.length:=by omega
   simp -implicitDefEqProofs only [go_sem,h1]
   clear hi h1
   refine loop_go3 hm (fun (n:Nat) (c:List Nat) (steps:List Step)=> n ≤ eqs.length ∧ c.length = parts.length ∧ (∀ x ∈ c,x ≤ 1000) ∧ steps.length ≤ n ∧ given parts eqs = givenGo parts n (eqs.drop n) c steps) (fun (n:Nat) (c:List Nat) (steps:List Step)=> ⟨mkS 82 .any [(5,.ptr 0 0),(33,lv (rowsEq eqs)),(34,iv eqs.length),(35,iv n)],[some (.box [lv (rowsT parts),.acc 1,.acc 2]),some (.acc 3 (rowsN c)),some (.acc 273 (rowsStep steps))]⟩) (fun (n:Nat) (c:List Nat) (steps:List Step)=> eqs.length - n) (0) (List.range parts.length) ([]) ?_ (weakS [some 0,some 1,some 2] ?_ ?_ rfl rfl) ?_
   rotate_left
   ·simp -implicitDefEqProofs only [go_sem]
   ·simp -implicitDefEqProofs only [go_sem]
   rotate_left
   ·exact ⟨Nat.zero_le _,hrl,fun x hx=>by have:=List.mem_range.1 hx; omega,Nat.le_refl _,rfl⟩
   ·rintro n c steps ⟨hn,hc,hm9,hs,hg⟩
    rcases Classical.em (n < eqs.length) with h1 | h1
    ·obtain ⟨mA,mB⟩:=hin _ (List.getElem_mem h1)
     have pA:=placeN_lt mA
     have pB:=placeN_lt mB
     have cA:=placeN_cast mA
     have cB:=placeN_cast mB
     have pA':placeN parts eqs[n].A < c.length:=by omega
     have pB':placeN parts eqs[n].B < c.length:=by omega
     have eA:c[placeN parts eqs[n].A] = cl c (placeN parts eqs[n].A):=(cl_lt pA').symm
     have eB:c[placeN parts eqs[n].B] = cl c (placeN parts eqs[n].B):=(cl_lt pB').symm
     have hj1:=joinC_len c (placeN parts eqs[n].A) (placeN parts eqs[n].B)
     have hj2:=joinC_le (a:=placeN parts eqs[n].A) (b:=placeN parts eqs[n].B) hm9
     have cj:=c_merge_M parts c steps (placeN parts eqs[n].A) (placeN parts eqs[n].B) n pA' pB' (by omega) (by omega)
     have ca:=c_at parts c steps eqs[n].A
     have cb:=c_at parts c steps eqs[n].B
     rw [cA] at ca
     rw [cB] at cb
     rw [List.drop_eq_getElem_cons h1,givenGo] at hg
     simp -implicitDefEqProofs only [go_sem,h1]
     refine atLook [] [0,1,2] ca rfl ?_ ?_ ?_
     ·(simp -implicitDefEqProofs only [go_sem]; repeat' (first | exact Vws.nil | apply Vws.cons | exact Vw.same (by first | rfl | simp -implicitDefEqProofs only [go_sem,Z1,Z2,Z3,Z4]) | exact Vw.acc rfl rfl | exact Vw.tre rfl rfl (by simp -implicitDefEqProofs only [go_sem,Z1,Z2,Z3,Z4]) | exact Vw.nil | apply Vw.agg | apply Vw.fn | refine Vw.box rfl rfl ?_))
     all_goals simp -implicitDefEqProofs only [go_sem]
     refine atLook [] [0,1,2] cb rfl ?_ ?_ ?_
     ·(simp -implicitDefEqProofs only [go_sem]; repeat' (first | exact Vws.nil | apply Vws.cons | exact Vw.same (by first | rfl | simp -implicitDefEqProofs only [go_sem,Z1,Z2,Z3,Z4]) | exact Vw.acc rfl rfl | exact Vw.tre rfl rfl (by simp -implicitDefEqProofs only [go_sem,Z1,Z2,Z3,Z4]) | exact Vw.nil | apply Vw.agg | apply Vw.fn | refine Vw.box rfl rfl ?_))
     all_goals simp -implicitDefEqProofs only [go_sem]
     with_reducible refine ind_andM (by kernel_rfl) ?_
     generalize placeN parts eqs[n].A = a at *
     generalize placeN parts eqs[n].B = b at *
     rcases Classical.em (cl c a = cl c b) with h2 | h2
     ·have k2:(cl c a = cl c b) = True:=eq_true h2
      rw [if_pos h2] at hg
      simp -implicitDefEqProofs only [go_sem,pA',pB',eA,eB,k2]
      with_reducible refine ind_andM (by kernel_rfl) ?_
      repeat (with_reducible apply And.intro; case left=>omega)
      refine ⟨n + 1,c,steps,?_,?_,weakS [some 0,some 1,some 2] ?_ ?_ rfl rfl⟩
      rotate_left
      ·show _ < _
       omega
      ·simp -implicitDefEqProofs only [go_sem]
      ·simp -implicitDefEqProofs only [go_sem]
      exact ⟨by omega,hc,hm9,by omega,hg⟩
     ·rw [if_neg h2] at hg
      simp -implicitDefEqProofs only [go_sem,pA',pB',eA,eB,h2]
      with_reducible refine ind_andM (by kernel_rfl) ?_
      refine atOwn [] [0,1,2,4] cj ?_ ?_
      ·simp -implicitDefEqProofs only [go_sem]
       first | rfl | ((repeat' apply And.intro) <;> rfl)
      simp -implicitDefEqProofs only [go_sem]
      repeat (with_reducible apply And.intro; case left=>omega)
      refine ⟨n + 1,joinC c a b,steps ++ [⟨a,b,n⟩],?_,?_,weakS [some 0,some 1,some 4] ?_ ?_ rfl rfl⟩
      rotate_left
      ·show _ < _
       omega
      ·simp -implicitDefEqProofs only [go_sem]
      ·simp -implicitDefEqProofs only [go_sem]
      exact ⟨by omega,by omega,hj2,by simp; omega,hg⟩
    ·rw [List.drop_of_length_le (by omega),givenGo] at hg
     have hcl:closed parts eqs = closeGo parts c.sum c steps:=by rw [closed,hg]
     have hsum:=sum_bound hm9
     have hsum2:c.length * 1000 ≤ 1000 * 1000:=Nat.mul_le_mul_right _ (by omega)
     simp -implicitDefEqProofs only [go_sem,h1]
     refine loop_go3 hm (fun (f:Nat) (c:List Nat) (steps:List Step)=> c.length = parts.length ∧ (∀ x ∈ c,x ≤ 1000) ∧ c.sum ≤ f ∧ steps.length + f ≤ 1999000 ∧ closed parts eqs = closeGo parts f c steps) (fun (f:Nat) (c:List Nat) (steps:List Step)=> ⟨mkS 82 .any [(5,.ptr 0 0)],[some (.box [lv (rowsT parts),.acc 1,.acc 2]),some (.acc 3 (rowsN c)),some (.acc 273 (rowsStep steps))]⟩) (fun (f:Nat) (c:List Nat) (steps:List Step)=> f) (c.sum) (c) (steps) ?_ (weakS [some 0,some 1,some 2] ?_ ?_ rfl rfl) ?_
     rotate_left
     ·simp -implicitDefEqProofs only [go_sem]
     ·simp -implicitDefEqProofs only [go_sem]
     rotate_left
     ·exact ⟨hc,hm9,Nat.le_refl _,by omega,hcl⟩
     ·clear hcl hsum hsum2 hg h1 hn hc hm9 hs
      rintro f c steps ⟨hc,hm9,hf,hs,hg⟩
      have cn:=c_pair_M parts c steps hk hc hl9 hk9
      simp -implicitDefEqProofs only [go_sem]
      refine atOwn [] [0,1,2] cn ?_ ?_
      ·simp -implicitDefEqProofs only [go_sem]
       first | rfl | ((repeat' apply And.intro) <;> rfl)
      simp -implicitDefEqProofs only [go_sem]
      cases hp:nextPair parts c with
      | none=>
        rw [closeGo_stop hp] at hg
        simp -implicitDefEqProofs only [go_sem,Option.isSome_none,Option.getD_none]
        refine finM' [some 0] ?_ rfl rfl
        simp -implicitDefEqProofs only [go_sem]
        rw [hg]
        ((repeat' apply And.intro) <;> rfl)
      | some p=>
        obtain ⟨f',rfl,hg2,hf2⟩:=closeGo_step (steps:=steps) hf hc hp
        obtain ⟨p1,p2,p3,p4⟩:=nextPair_some hp
        rw [hg2] at hg
        have hj1:=joinC_len c p.1 p.2
        have hj2:=joinC_le (a:=p.1) (b:=p.2) hm9
        have cj:=c_merge_M parts c steps p.1 p.2 (-1) (by omega) (by omega) (by omega) (by omega)
        obtain ⟨a,b⟩:=p
        simp only at hg hg2 hf2 p1 p2 hj1 hj2 cj
        simp -implicitDefEqProofs only [go_sem,Option.isSome_some,Option.getD_some]
        refine atOwn [] [0,1,2,3] cj ?_ ?_
        ·simp -implicitDefEqProofs only [go_sem]
         first | rfl | ((repeat' apply And.intro) <;> rfl)
        simp -implicitDefEqProofs only [go_sem]
        refine ⟨f',joinC c a b,steps ++ [⟨a,b,-1⟩],?_,?_,weakS [some 0,some 1,some 3] ?_ ?_ rfl rfl⟩
        rotate_left
        ·show _ < _
         omega
        ·simp -implicitDefEqProofs only [go_sem]
        ·simp -implicitDefEqProofs only [go_sem]
        exact ⟨by omega,hj2,hf2,by simp; omega,hg⟩
end Go.Proofs.YtpidddienjoleaaGreat
namespace Go.Proofs.YtpidddienjoleaaGreat
open Go.Eng Go.Mod
open Int renaming reduceEq → Z1,reduceLT → Z2,reduceLE → Z3,reduceToNat → Z4
set_option maxRecDepth 100000
set_option maxHeartbeats 1600000
theorem rowsEdge_put {l:List Mod.Edge} {i:Nat} {x:Mod.Edge} (h:i < l.length):(rowsEdge l).set i (spl (row (rowsEdge l) i) 0 [.val (.int .i64 (x.step:Int)),.val (.bool x.back)]) = rowsEdge (l.set i x):=by
 rw [rowsEdge_row h,← rowsEdge_set]
 rfl
theorem edge_swap {ys:List Mod.Edge} {i j:Nat} (hi:i < ys.length) (hj:j < ys.length):((rowsEdge ys).set i (spl [.val (.int .i64 (ys[i].step:Int)),.val (.bool ys[i].back)] 0 [.val (.int .i64 (ys[j].step:Int)),.val (.bool ys[j].back)])).set j (spl (row ((rowsEdge ys).set i (spl [.val (.int .i64 (ys[i].step:Int)),.val (.bool ys[i].back)] 0 [.val (.int .i64 (ys[j].step:Int)),.val (.bool ys[j].back)])) j) 0 [.val (.int .i64 (ys[i].step:Int)),.val (.bool ys[i].back)]) = rowsEdge ((ys.set i ys[j]).set j ys[i]):=by
 have h1:(rowsEdge ys).set i (spl [.val (.int .i64 (ys[i].step:Int)),.val (.bool ys[i].back)] 0 [.val (.int .i64 (ys[j].step:Int)),.val (.bool ys[j].back)]) = rowsEdge (ys.set i ys[j]):=by
  have h:=rowsEdge_put (x:=ys[j]) hi
  rw [rowsEdge_row hi] at h
  exact h
 rw [h1]
 exact rowsEdge_put (l:=ys.set i ys[j]) (x:=ys[i]) (by simpa using hj)
theorem c_Reverse_edge (l:List Mod.Edge) (hl9:l.length ≤ 1000):C E.P 253 [.acc 0] [some (.acc 283 (rowsEdge l))] (Eq2 (.tup []) [some (.acc 283 (rowsEdge l.reverse))]):=by
 have hLB:=LB_eq
 refine C_goS (nt:=28) (rs:=[]) hm Tryz.func253 rfl rfl rfl rfl rfl (fun hl he=>?_)
 simp -implicitDefEqProofs only [go_sem] at hl ⊢
 try simp -implicitDefEqProofs only [go_sem,Z1,Z2,Z3,Z4]
 try (with_reducible refine ind_andM (by kernel_rfl) ?_)
 repeat (first | with_reducible refine ind_andM (by kernel_rfl) ?_ | (with_reducible apply And.intro; case left=>first | omega | assumption | exact ⟨rowsT_all _,by omega⟩ | exact ⟨rowsI_all _,by omega⟩ | exact ⟨rowsLit_all _,by omega⟩ | exact ⟨rowsLin_all _,by omega⟩ | exact ⟨rowsEq_all _,by omega⟩ | rfl | (simp [*]; done) | (simp; omega) | exact ⟨rowsRat_all _,by omega⟩ | exact ⟨rowsAtom_all _,by omega⟩ | exact ⟨rowsB_all _,by omega⟩ | exact ⟨rowsForm_all _,by omega⟩ | exact ⟨rowsII_all _,by omega⟩))
 refine loop_go2 hm (fun (i:Nat) (ys:List Mod.Edge)=> i ≤ l.length ∧ RevI l ys i) (fun (i:Nat) (ys:List Mod.Edge)=> ⟨mkS 28 .any [(0,.acc 0),(2,iv i),(3,iv ((l.length:Int) - 1 - (i:Int)))],[some (.acc 283 (rowsEdge ys))]⟩) (fun (i:Nat) (ys:List Mod.Edge)=> l.length - i) (0) (l) ?_ (weakS [some 0] ?_ ?_ rfl rfl) ?_
 rotate_left
 ·simp -implicitDefEqProofs only [go_sem]
  all_goals (first | done | (simp [*]; done) | (simp [wks_rfl]; done) | (simp; omega) | skip)
 ·simp -implicitDefEqProofs only [go_sem]
  all_goals (first | done | (simp [wks_rfl, *]; done) | (simp [wks_rfl]; done) | (simp; omega) | skip)
 rotate_left
 ·exact ⟨Nat.zero_le _,RevI.zero l⟩
 ·rintro i ys ⟨hi,hr⟩
  have hlen:=hr.len
  rcases Classical.em ((i:Int) < (l.length:Int) - 1 - (i:Int)) with h1 | h1
  ·obtain ⟨j,hj⟩:∃ j:Nat,(l.length:Int) - 1 - (i:Int) = j:=⟨l.length - 1 - i,by omega⟩
   have hi':i < ys.length:=by omega
   have hj':j < ys.length:=by omega
   have hst:=hr.step (by omega:i < j) (by omega) hi' hj'
   rw [hj] at h1 ⊢
   try simp -implicitDefEqProofs only [go_sem,h1,hi',hj']
   try (with_reducible refine ind_andM (by kernel_rfl) ?_)
   repeat (first | with_reducible refine ind_andM (by kernel_rfl) ?_ | (with_reducible apply And.intro; case left=>first | omega | assumption | exact ⟨rowsT_all _,by omega⟩ | exact ⟨rowsI_all _,by omega⟩ | exact ⟨rowsLit_all _,by omega⟩ | exact ⟨rowsLin_all _,by omega⟩ | exact ⟨rowsEq_all _,by omega⟩ | rfl | (simp [*]; done) | (simp; omega) | exact ⟨rowsRat_all _,by omega⟩ | exact ⟨rowsAtom_all _,by omega⟩ | exact ⟨rowsB_all _,by omega⟩ | exact ⟨rowsForm_all _,by omega⟩ | exact ⟨rowsII_all _,by omega⟩))
   refine ⟨i + 1,(ys.set i ys[j]).set j ys[i],?_,?_,weakS [some 0] ?_ ?_ rfl rfl⟩
   rotate_left
   ·show _ < _
    omega
   ·simp -implicitDefEqProofs only [go_sem]
    all_goals (first | done | (exact edge_swap hi' hj') | (simp [*]; done) | (simp []; done) | (simp; omega) | skip)
   ·simp -implicitDefEqProofs only [go_sem]
    all_goals (first | done | (exact edge_swap hi' hj') | (simp [wks_rfl, *]; done) | (simp [wks_rfl]; done) | (simp; omega) | skip)
   exact ⟨by omega,hst⟩
  ·have hd:=hr.done (by omega)
   try simp -implicitDefEqProofs only [go_sem,h1]
   try (with_reducible refine ind_andM (by kernel_rfl) ?_)
   refine finM' [some 0] ?_ rfl rfl
   simp -implicitDefEqProofs only [go_sem]
   rw [hd]
theorem c_path (parts:List Term) (eqs:List EqD) (c:List Nat) (steps:List Step) (hok:StepsOk parts eqs steps) (hl9:parts.length ≤ 1000) (hs9:steps.length ≤ 2000000) (n a b:Nat) (hn:n ≤ steps.length) (ha:a < parts.length) (hb:b < parts.length) (hab:cl (classesAt parts.length steps n) a = cl (classesAt parts.length steps n) b) :
 C E.P 220 [.ptr 0 0,iv a,iv b,iv n] [some (.box [lv (rowsT parts),lv (rowsN c),lv (rowsStep steps)])] (Eq2 (lv (rowsEdge (wayF parts.length steps n a b))) [some (.box [lv (rowsT parts),lv (rowsN c),lv (rowsStep steps)])]):=by
 have hLB:=LB_eq
 refine C_goW (nt:=116) (rs:=[.tmp 8]) Tryz.func220 rfl rfl rfl rfl rfl (fun hl he=>?_)
 simp -implicitDefEqProofs only [go_sem] at hl he ⊢
 obtain ⟨N,hN⟩:∃ N,parts.length = N:=⟨_,rfl⟩
 have hvb:∀ k (h:k < steps.length),steps[k].A = (vA steps k:Int) ∧ steps[k].B = (vB steps k:Int):=fun k h=>by
  have hs:=stepAt_get h
  have hso:=step_ok hok h
  have a0:=hso.a0
  have b0:=hso.b0
  rw [hs] at a0 b0
  rw [vA,vB,hs]
  omega
 obtain ⟨ss,hss⟩:∃ ss,steps.take n = ss:=⟨_,rfl⟩
 have htk:ss.length = n:=by rw [← hss,List.length_take]; omega
 have hsl:List.take (n - 0) (List.drop 0 (rowsStep steps)) = rowsStep ss:=by rw [← hss]; simp [rowsStep]
 have hsg:∀ k (h:k < ss.length) (h':k < steps.length),ss[k] = steps[k]:=fun k h h'=>by subst hss; exact List.getElem_take
 refine W_seq (W_of hm ?_)
 try simp -implicitDefEqProofs only [go_sem,onQ_on,thenQ_n]
 try (with_reducible refine ind_andM (by kernel_rfl) ?_)
 refine W_seq (W_region ?_)
 refine WO_at rfl (atOp_by (st_mkmap 310 1 rfl) ?_)
 try simp -implicitDefEqProofs only [go_sem]
 try (with_reducible refine ind_andM (by kernel_rfl) ?_)
 refine WO_at rfl (stepS_at ?_)
 try simp -implicitDefEqProofs only [go_sem]
 try (with_reducible refine ind_andM (by kernel_rfl) ?_)
 refine WO_nil ?_
 simp -implicitDefEqProofs only [go_sem,thenQ_n]
 refine W_seq (W_region ?_)
 refine WO_at rfl (stepS_at ?_)
 try simp -implicitDefEqProofs only [go_sem]
 try (with_reducible refine ind_andM (by kernel_rfl) ?_)
 refine WO_at rfl (atOp_by (st_lit_acc 39 3 1 2 _ _ _ [[.val (.int .i64 (a:Int))]] rfl rfl rfl rfl rfl (by simp -implicitDefEqProofs only [go_sem]) rfl (by decide) rfl) ?_)
 try simp -implicitDefEqProofs only [go_sem]
 try (with_reducible refine ind_andM (by kernel_rfl) ?_)
 refine WO_at rfl (stepS_at ?_)
 try simp -implicitDefEqProofs only [go_sem]
 try (with_reducible refine ind_andM (by kernel_rfl) ?_)
 refine WO_nil ?_
 simp -implicitDefEqProofs only [go_sem,thenQ_n]
 refine W_seq (W_region ?_)
 refine WO_at rfl (atOp_by (st_mkmap 311 3 rfl) ?_)
 try simp -implicitDefEqProofs only [go_sem]
 try (with_reducible refine ind_andM (by kernel_rfl) ?_)
 refine WO_at rfl (stepS_at ?_)
 try simp -implicitDefEqProofs only [go_sem]
 try (with_reducible refine ind_andM (by kernel_rfl) ?_)
 refine WO_at rfl (atOp_by (st_put_map _ _ _ _ 311 3 4 3 [] (a:Int) (.bool true) (.inr rfl) rfl rfl (by simp -implicitDefEqProofs only [go_sem]) (by simp -implicitDefEqProofs only [go_sem]) (by simp -implicitDefEqProofs only [go_sem]) (by simp -implicitDefEqProofs only [go_sem]) rfl rfl) ?_)
 try simp -implicitDefEqProofs only [go_sem]
 try (with_reducible refine ind_andM (by kernel_rfl) ?_)
 refine WO_at rfl (stepS_at ?_)
 try simp -implicitDefEqProofs only [go_sem]
 try (with_reducible refine ind_andM (by kernel_rfl) ?_)
 refine WO_at rfl (stepS_at ?_)
 try simp -implicitDefEqProofs only [go_sem]
 try (with_reducible refine ind_andM (by kernel_rfl) ?_)
 refine WO_nil ?_
 simp -implicitDefEqProofs only [go_sem,thenQ_n]
 refine W_of hm ?_
 try simp -implicitDefEqProofs only [go_sem]
 try (with_reducible refine ind_andM (by kernel_rfl) ?_)
 refine loop_go2 hm (fun (i:Nat) (disc:List (Nat × Mod.Edge))=> i ≤ disc.length ∧ Met parts.length steps n a disc ∧ Through steps n disc i) (fun (i:Nat) (disc:List (Nat × Mod.Edge))=> ⟨mkS 116 .any [(0,.ptr 0 0),(1,iv a),(2,iv b),(3,iv n),(9,.acc 1),(10,.acc 2),(11,.acc 3),(12,iv i)],[some (.box [lv (rowsT parts),lv (rowsN c),lv (rowsStep steps)]),some (.map (beforeM disc)),some (.acc 3 (rowsN (fsts disc))),some (.map (metM disc))]⟩) (fun (i:Nat) (disc:List (Nat × Mod.Edge))=> parts.length + 1 - i) (0) ([(a,⟨0,false⟩)]) ?_ (weakS [some 0,some 1,some 2,some 3] ?_ ?_ rfl rfl) ?_
 rotate_left
 ·simp -implicitDefEqProofs only [go_sem]
  all_goals (first | done | (((repeat' apply And.intro) <;> rfl)) | (simp [wks_rfl, *]; done) | (simp [wks_rfl]; done) | (simp; omega) | skip)
 ·simp -implicitDefEqProofs only [go_sem]
  all_goals (first | done | (((repeat' apply And.intro) <;> rfl)) | (simp [wks_rfl, *]; done) | (simp [wks_rfl]; done) | (simp; omega) | skip)
 rotate_left
 ·exact ⟨Nat.zero_le _,met_start ha _,fun j v hj=>by omega⟩
 ·rintro i disc ⟨hi,hM,hT⟩
  have hdl:=met_len hM
  have hfl:=fsts_len disc
  rcases Classical.em (i < disc.length) with h1 | h1
  ·have h1':i < (fsts disc).length:=by omega
   obtain ⟨v,hv⟩:∃ v,(fsts disc)[i] = v:=⟨_,rfl⟩
   have hv':(fsts disc)[i]? = some v:=by rw [List.getElem?_eq_getElem h1',hv]
   have f1:n ≤ steps.length ∧ ∀ y ∈ rowsStep steps,y.length = 3:=⟨hn,rowsStep_all _⟩
   have hln:min (n - 0) (List.drop 0 (rowsStep steps)).length = n:=by simp [rowsStep]; omega
   try simp -implicitDefEqProofs only [go_sem,hfl,h1]
   try (with_reducible refine ind_andM (by kernel_rfl) ?_)
   repeat (first | with_reducible refine ind_andM (by kernel_rfl) ?_ | (with_reducible apply And.intro; case left=>first | omega | assumption | exact ⟨rowsT_all _,by omega⟩ | exact ⟨rowsI_all _,by omega⟩ | exact ⟨rowsLit_all _,by omega⟩ | exact ⟨rowsLin_all _,by omega⟩ | exact ⟨rowsEq_all _,by omega⟩ | rfl | (simp [*]; done) | (simp; omega) | exact ⟨rowsRat_all _,by omega⟩ | exact ⟨rowsAtom_all _,by omega⟩ | exact ⟨rowsB_all _,by omega⟩ | exact ⟨rowsForm_all _,by omega⟩ | exact ⟨rowsII_all _,by omega⟩))
   try simp -implicitDefEqProofs only [go_sem,hsl,hln]
   try (with_reducible refine ind_andM (by kernel_rfl) ?_)
   refine loop_go2 hm (fun (k:Nat) (disc:List (Nat × Mod.Edge))=> k ≤ n ∧ i < disc.length ∧ (fsts disc)[i]? = some v ∧ Met parts.length steps n a disc ∧ Through steps n disc i ∧ SeenTo steps k disc v) (fun (k:Nat) (disc:List (Nat × Mod.Edge))=> ⟨mkS 116 .any [(0,.ptr 0 0),(1,iv a),(2,iv b),(3,iv n),(9,.acc 1),(10,.acc 2),(11,.acc 3),(12,iv i),(37,lv (rowsStep ss)),(38,iv n),(39,iv k)],[some (.box [lv (rowsT parts),lv (rowsN c),lv (rowsStep steps)]),some (.map (beforeM disc)),some (.acc 3 (rowsN (fsts disc))),some (.map (metM disc))]⟩) (fun (k:Nat) (disc:List (Nat × Mod.Edge))=> n - k) (0) (disc) ?_ (weakS [some 0,some 1,some 2,some 3] ?_ ?_ rfl rfl) ?_
   rotate_left
   ·simp -implicitDefEqProofs only [go_sem]
    all_goals (first | done | (simp [wks_rfl, *]; done) | (simp [wks_rfl]; done) | (simp; omega) | skip)
   ·simp -implicitDefEqProofs only [go_sem]
    all_goals (first | done | (simp [wks_rfl, *]; done) | (simp [wks_rfl]; done) | (simp; omega) | skip)
   rotate_left
   ·exact ⟨Nat.zero_le _,h1,hv',hM,hT,seenTo_zero _ _ _⟩
   ·clear hM hT hdl hfl h1 h1' hv hv' hi
    rintro k disc ⟨hk,h1,hv',hM,hT,hS⟩
    have hdl:=met_len hM
    have hfl:=fsts_len disc
    have h1':i < (fsts disc).length:=by omega
    have hv:(fsts disc)[i] = v:=by
     rw [List.getElem?_eq_getElem h1'] at hv'
     simpa using hv'
    rcases Classical.em (k < n) with h2 | h2
    ·have h2':k < ss.length:=by omega
     have h3:k < steps.length:=by omega
     obtain ⟨eA,eB⟩:=hvb k h3
     have eg:ss[k] = steps[k]:=hsg k h2' h3
     have a1:=vA_lt hok h3
     have b1:=vB_lt hok h3
     rcases Classical.em (vB steps k = v) with hB | hB
     ·have kB:=eq_true hB
      rcases Classical.em (vA steps k = v) with hA | hA
      ·have kA:=eq_true hA
       have hmet:v ∈ fsts disc:=by rw [← hv]; exact List.getElem_mem h1'
       rw [hA] at eA
       rw [hB] at eB
       try simp -implicitDefEqProofs only [go_sem,h2,h2',eg,eA,eB,hfl,h1,hv]
       try (with_reducible refine ind_andM (by kernel_rfl) ?_)
       repeat (first | with_reducible refine ind_andM (by kernel_rfl) ?_ | (with_reducible apply And.intro; case left=>first | omega | assumption | exact ⟨rowsT_all _,by omega⟩ | exact ⟨rowsI_all _,by omega⟩ | exact ⟨rowsLit_all _,by omega⟩ | exact ⟨rowsLin_all _,by omega⟩ | exact ⟨rowsEq_all _,by omega⟩ | rfl | (simp [*]; done) | (simp; omega) | exact ⟨rowsRat_all _,by omega⟩ | exact ⟨rowsAtom_all _,by omega⟩ | exact ⟨rowsB_all _,by omega⟩ | exact ⟨rowsForm_all _,by omega⟩ | exact ⟨rowsII_all _,by omega⟩))
       refine atOp_by (st_look_map (.tmp 66) (.tmp 67) 311 3 4 3 (metM disc) (v:Int) (.bool true) rfl rfl (by simp -implicitDefEqProofs only [go_sem]) (by simp -implicitDefEqProofs only [go_sem]) (by simp -implicitDefEqProofs only [go_sem]) (mapGet_met hmet)) ?_
       try simp -implicitDefEqProofs only [go_sem]
       try (with_reducible refine ind_andM (by kernel_rfl) ?_)
       repeat (first | with_reducible refine ind_andM (by kernel_rfl) ?_ | (with_reducible apply And.intro; case left=>first | omega | assumption | exact ⟨rowsT_all _,by omega⟩ | exact ⟨rowsI_all _,by omega⟩ | exact ⟨rowsLit_all _,by omega⟩ | exact ⟨rowsLin_all _,by omega⟩ | exact ⟨rowsEq_all _,by omega⟩ | rfl | (simp [*]; done) | (simp; omega) | exact ⟨rowsRat_all _,by omega⟩ | exact ⟨rowsAtom_all _,by omega⟩ | exact ⟨rowsB_all _,by omega⟩ | exact ⟨rowsForm_all _,by omega⟩ | exact ⟨rowsII_all _,by omega⟩))
       refine ⟨k + 1,disc,?_,?_,weakS [some 0,some 1,some 2,some 3] ?_ ?_ rfl rfl⟩
       rotate_left
       ·show _ < _
        omega
       ·simp -implicitDefEqProofs only [go_sem]
        all_goals (first | done | (simp [wks_rfl, *]; done) | (simp [wks_rfl]; done) | (simp; omega) | skip)
       ·simp -implicitDefEqProofs only [go_sem]
        all_goals (first | done | (simp [wks_rfl, *]; done) | (simp [wks_rfl]; done) | (simp; omega) | skip)
       exact ⟨by omega,h1,hv',hM,hT,seenTo_next hS (fun _=>by rw [hB]; exact hmet) (fun _=>by rw [hA]; exact hmet)⟩
      ·have es:startV steps ⟨k,true⟩ = v:=hB
       have ee:endV steps ⟨k,true⟩ = vA steps k:=rfl
       obtain ⟨w,hw⟩:∃ w,vA steps k = w:=⟨_,rfl⟩
       rw [hw] at eA a1 ee hA
       rw [hB] at eB
       rcases Classical.em (w ∈ fsts disc) with hmet | hmet
       ·try simp -implicitDefEqProofs only [go_sem,h2,h2',eg,eA,eB,hfl,h1,hv]
        try (with_reducible refine ind_andM (by kernel_rfl) ?_)
        repeat (first | with_reducible refine ind_andM (by kernel_rfl) ?_ | (with_reducible apply And.intro; case left=>first | omega | assumption | exact ⟨rowsT_all _,by omega⟩ | exact ⟨rowsI_all _,by omega⟩ | exact ⟨rowsLit_all _,by omega⟩ | exact ⟨rowsLin_all _,by omega⟩ | exact ⟨rowsEq_all _,by omega⟩ | rfl | (simp [*]; done) | (simp; omega) | exact ⟨rowsRat_all _,by omega⟩ | exact ⟨rowsAtom_all _,by omega⟩ | exact ⟨rowsB_all _,by omega⟩ | exact ⟨rowsForm_all _,by omega⟩ | exact ⟨rowsII_all _,by omega⟩))
        refine atOp_by (st_look_map (.tmp 66) (.tmp 67) 311 3 4 3 (metM disc) (w:Int) (.bool true) rfl rfl (by simp -implicitDefEqProofs only [go_sem]) (by simp -implicitDefEqProofs only [go_sem]) (by simp -implicitDefEqProofs only [go_sem]) (mapGet_met hmet)) ?_
        try simp -implicitDefEqProofs only [go_sem]
        try (with_reducible refine ind_andM (by kernel_rfl) ?_)
        repeat (first | with_reducible refine ind_andM (by kernel_rfl) ?_ | (with_reducible apply And.intro; case left=>first | omega | assumption | exact ⟨rowsT_all _,by omega⟩ | exact ⟨rowsI_all _,by omega⟩ | exact ⟨rowsLit_all _,by omega⟩ | exact ⟨rowsLin_all _,by omega⟩ | exact ⟨rowsEq_all _,by omega⟩ | rfl | (simp [*]; done) | (simp; omega) | exact ⟨rowsRat_all _,by omega⟩ | exact ⟨rowsAtom_all _,by omega⟩ | exact ⟨rowsB_all _,by omega⟩ | exact ⟨rowsForm_all _,by omega⟩ | exact ⟨rowsII_all _,by omega⟩))
        refine ⟨k + 1,disc,?_,?_,weakS [some 0,some 1,some 2,some 3] ?_ ?_ rfl rfl⟩
        rotate_left
        ·show _ < _
         omega
        ·simp -implicitDefEqProofs only [go_sem]
         all_goals (first | done | (simp [wks_rfl, *]; done) | (simp [wks_rfl]; done) | (simp; omega) | skip)
        ·simp -implicitDefEqProofs only [go_sem]
         all_goals (first | done | (simp [wks_rfl, *]; done) | (simp [wks_rfl]; done) | (simp; omega) | skip)
        exact ⟨by omega,h1,hv',hM,hT,seenTo_next hS (fun h=>absurd (hw ▸ h) hA) (fun _=>by rw [hw]; exact hmet)⟩
       ·try simp -implicitDefEqProofs only [go_sem,h2,h2',eg,eA,eB,hfl,h1,hv]
        try (with_reducible refine ind_andM (by kernel_rfl) ?_)
        repeat (first | with_reducible refine ind_andM (by kernel_rfl) ?_ | (with_reducible apply And.intro; case left=>first | omega | assumption | exact ⟨rowsT_all _,by omega⟩ | exact ⟨rowsI_all _,by omega⟩ | exact ⟨rowsLit_all _,by omega⟩ | exact ⟨rowsLin_all _,by omega⟩ | exact ⟨rowsEq_all _,by omega⟩ | rfl | (simp [*]; done) | (simp; omega) | exact ⟨rowsRat_all _,by omega⟩ | exact ⟨rowsAtom_all _,by omega⟩ | exact ⟨rowsB_all _,by omega⟩ | exact ⟨rowsForm_all _,by omega⟩ | exact ⟨rowsII_all _,by omega⟩))
        have hd0:0 < disc.length:=by omega
        refine atOp_by (st_look_none (.tmp 66) (.tmp 67) 311 3 4 3 _ (metM disc) (w:Int) rfl rfl rfl rfl (by simp -implicitDefEqProofs only [go_sem]) (by simp -implicitDefEqProofs only [go_sem]) (by simp -implicitDefEqProofs only [go_sem]) (mapGet_unmet hmet)) ?_
        try simp -implicitDefEqProofs only [go_sem]
        try (with_reducible refine ind_andM (by kernel_rfl) ?_)
        repeat (first | with_reducible refine ind_andM (by kernel_rfl) ?_ | (with_reducible apply And.intro; case left=>first | omega | assumption | exact ⟨rowsT_all _,by omega⟩ | exact ⟨rowsI_all _,by omega⟩ | exact ⟨rowsLit_all _,by omega⟩ | exact ⟨rowsLin_all _,by omega⟩ | exact ⟨rowsEq_all _,by omega⟩ | rfl | (simp [*]; done) | (simp; omega) | exact ⟨rowsRat_all _,by omega⟩ | exact ⟨rowsAtom_all _,by omega⟩ | exact ⟨rowsB_all _,by omega⟩ | exact ⟨rowsForm_all _,by omega⟩ | exact ⟨rowsII_all _,by omega⟩))
        refine atOp_by (st_put_map _ _ _ _ 311 3 4 3 (metM disc) (w:Int) (.bool true) (.inl rfl) rfl rfl (by simp -implicitDefEqProofs only [go_sem]) (by simp -implicitDefEqProofs only [go_sem]) (by simp -implicitDefEqProofs only [go_sem]) (by simp -implicitDefEqProofs only [go_sem]) rfl (mapGet_unmet hmet)) ?_
        try simp -implicitDefEqProofs only [go_sem]
        try (with_reducible refine ind_andM (by kernel_rfl) ?_)
        repeat (first | with_reducible refine ind_andM (by kernel_rfl) ?_ | (with_reducible apply And.intro; case left=>first | omega | assumption | exact ⟨rowsT_all _,by omega⟩ | exact ⟨rowsI_all _,by omega⟩ | exact ⟨rowsLit_all _,by omega⟩ | exact ⟨rowsLin_all _,by omega⟩ | exact ⟨rowsEq_all _,by omega⟩ | rfl | (simp [*]; done) | (simp; omega) | exact ⟨rowsRat_all _,by omega⟩ | exact ⟨rowsAtom_all _,by omega⟩ | exact ⟨rowsB_all _,by omega⟩ | exact ⟨rowsForm_all _,by omega⟩ | exact ⟨rowsII_all _,by omega⟩))
        refine atOp_by (st_put_map _ _ _ _ 310 3 283 1 (beforeM disc) (w:Int) (.agg #[.int .i64 (k:Int),.bool true]) (.inl rfl) rfl rfl (by simp -implicitDefEqProofs only [go_sem]) (by simp -implicitDefEqProofs only [go_sem]) (by simp -implicitDefEqProofs only [go_sem]) (by simp -implicitDefEqProofs only [go_sem]) rfl (mapGet_before_none hmet)) ?_
        try simp -implicitDefEqProofs only [go_sem]
        try (with_reducible refine ind_andM (by kernel_rfl) ?_)
        repeat (first | with_reducible refine ind_andM (by kernel_rfl) ?_ | (with_reducible apply And.intro; case left=>first | omega | assumption | exact ⟨rowsT_all _,by omega⟩ | exact ⟨rowsI_all _,by omega⟩ | exact ⟨rowsLit_all _,by omega⟩ | exact ⟨rowsLin_all _,by omega⟩ | exact ⟨rowsEq_all _,by omega⟩ | rfl | (simp [*]; done) | (simp; omega) | exact ⟨rowsRat_all _,by omega⟩ | exact ⟨rowsAtom_all _,by omega⟩ | exact ⟨rowsB_all _,by omega⟩ | exact ⟨rowsForm_all _,by omega⟩ | exact ⟨rowsII_all _,by omega⟩))
        refine ⟨k + 1,disc ++ [(w,⟨k,true⟩)],?_,?_,weakS [some 0,some 1,some 5,some 3] ?_ ?_ rfl rfl⟩
        rotate_left
        ·show _ < _
         omega
        ·simp -implicitDefEqProofs only [go_sem]
         all_goals (first | done | ((rw [beforeM_app hd0,metM_app,fsts_app,← rowsN_app]; (repeat' apply And.intro) <;> rfl)) | (simp [wks_rfl, *]; done) | (simp [wks_rfl]; done) | (simp; omega) | skip)
        ·simp -implicitDefEqProofs only [go_sem]
         all_goals (first | done | ((rw [beforeM_app hd0,metM_app,fsts_app,← rowsN_app]; (repeat' apply And.intro) <;> rfl)) | (simp [wks_rfl, *]; done) | (simp [wks_rfl]; done) | (simp; omega) | skip)
        have hM2:=met_add (e:=⟨k,true⟩) hM h2 hv' es (by rw [ee]; exact hmet) (by rw [ee]; exact a1)
        rw [ee] at hM2
        refine ⟨by omega,by simp; omega,by rw [fsts_app,List.getElem?_append_left h1']; exact hv',hM2,through_mono (by omega) hT,seenTo_next (seenTo_mono hS) (fun h=>absurd (hw ▸ h) hA) (fun _=>?_)⟩
        rw [hw,fsts_app]
        exact List.mem_append_right _ (by simp [fsts])
     ·rcases Classical.em (vA steps k = v) with hA | hA
      ·have es:startV steps ⟨k,false⟩ = v:=hA
       have ee:endV steps ⟨k,false⟩ = vB steps k:=rfl
       obtain ⟨w,hw⟩:∃ w,vB steps k = w:=⟨_,rfl⟩
       rw [hw] at eB b1 ee hB
       rw [hA] at eA
       rcases Classical.em (w ∈ fsts disc) with hmet | hmet
       ·try simp -implicitDefEqProofs only [go_sem,h2,h2',eg,eA,eB,hfl,h1,hv,hB]
        try (with_reducible refine ind_andM (by kernel_rfl) ?_)
        repeat (first | with_reducible refine ind_andM (by kernel_rfl) ?_ | (with_reducible apply And.intro; case left=>first | omega | assumption | exact ⟨rowsT_all _,by omega⟩ | exact ⟨rowsI_all _,by omega⟩ | exact ⟨rowsLit_all _,by omega⟩ | exact ⟨rowsLin_all _,by omega⟩ | exact ⟨rowsEq_all _,by omega⟩ | rfl | (simp [*]; done) | (simp; omega) | exact ⟨rowsRat_all _,by omega⟩ | exact ⟨rowsAtom_all _,by omega⟩ | exact ⟨rowsB_all _,by omega⟩ | exact ⟨rowsForm_all _,by omega⟩ | exact ⟨rowsII_all _,by omega⟩))
        refine atOp_by (st_look_map (.tmp 66) (.tmp 67) 311 3 4 3 (metM disc) (w:Int) (.bool true) rfl rfl (by simp -implicitDefEqProofs only [go_sem]) (by simp -implicitDefEqProofs only [go_sem]) (by simp -implicitDefEqProofs only [go_sem]) (mapGet_met hmet)) ?_
        try simp -implicitDefEqProofs only [go_sem]
        try (with_reducible refine ind_andM (by kernel_rfl) ?_)
        repeat (first | with_reducible refine ind_andM (by kernel_rfl) ?_ | (with_reducible apply And.intro; case left=>first | omega | assumption | exact ⟨rowsT_all _,by omega⟩ | exact ⟨rowsI_all _,by omega⟩ | exact ⟨rowsLit_all _,by omega⟩ | exact ⟨rowsLin_all _,by omega⟩ | exact ⟨rowsEq_all _,by omega⟩ | rfl | (simp [*]; done) | (simp; omega) | exact ⟨rowsRat_all _,by omega⟩ | exact ⟨rowsAtom_all _,by omega⟩ | exact ⟨rowsB_all _,by omega⟩ | exact ⟨rowsForm_all _,by omega⟩ | exact ⟨rowsII_all _,by omega⟩))
        refine ⟨k + 1,disc,?_,?_,weakS [some 0,some 1,some 2,some 3] ?_ ?_ rfl rfl⟩
        rotate_left
        ·show _ < _
         omega
        ·simp -implicitDefEqProofs only [go_sem]
         all_goals (first | done | (simp [wks_rfl, *]; done) | (simp [wks_rfl]; done) | (simp; omega) | skip)
        ·simp -implicitDefEqProofs only [go_sem]
         all_goals (first | done | (simp [wks_rfl, *]; done) | (simp [wks_rfl]; done) | (simp; omega) | skip)
        exact ⟨by omega,h1,hv',hM,hT,seenTo_next hS (fun _=>by rw [hw]; exact hmet) (fun h=>absurd (hw ▸ h) hB)⟩
       ·try simp -implicitDefEqProofs only [go_sem,h2,h2',eg,eA,eB,hfl,h1,hv,hB]
        try (with_reducible refine ind_andM (by kernel_rfl) ?_)
        repeat (first | with_reducible refine ind_andM (by kernel_rfl) ?_ | (with_reducible apply And.intro; case left=>first | omega | assumption | exact ⟨rowsT_all _,by omega⟩ | exact ⟨rowsI_all _,by omega⟩ | exact ⟨rowsLit_all _,by omega⟩ | exact ⟨rowsLin_all _,by omega⟩ | exact ⟨rowsEq_all _,by omega⟩ | rfl | (simp [*]; done) | (simp; omega) | exact ⟨rowsRat_all _,by omega⟩ | exact ⟨rowsAtom_all _,by omega⟩ | exact ⟨rowsB_all _,by omega⟩ | exact ⟨rowsForm_all _,by omega⟩ | exact ⟨rowsII_all _,by omega⟩))
        have hd0:0 < disc.length:=by omega
        refine atOp_by (st_look_none (.tmp 66) (.tmp 67) 311 3 4 3 _ (metM disc) (w:Int) rfl rfl rfl rfl (by simp -implicitDefEqProofs only [go_sem]) (by simp -implicitDefEqProofs only [go_sem]) (by simp -implicitDefEqProofs only [go_sem]) (mapGet_unmet hmet)) ?_
        try simp -implicitDefEqProofs only [go_sem]
        try (with_reducible refine ind_andM (by kernel_rfl) ?_)
        repeat (first | with_reducible refine ind_andM (by kernel_rfl) ?_ | (with_reducible apply And.intro; case left=>first | omega | assumption | exact ⟨rowsT_all _,by omega⟩ | exact ⟨rowsI_all _,by omega⟩ | exact ⟨rowsLit_all _,by omega⟩ | exact ⟨rowsLin_all _,by omega⟩ | exact ⟨rowsEq_all _,by omega⟩ | rfl | (simp [*]; done) | (simp; omega) | exact ⟨rowsRat_all _,by omega⟩ | exact ⟨rowsAtom_all _,by omega⟩ | exact ⟨rowsB_all _,by omega⟩ | exact ⟨rowsForm_all _,by omega⟩ | exact ⟨rowsII_all _,by omega⟩))
        refine atOp_by (st_put_map _ _ _ _ 311 3 4 3 (metM disc) (w:Int) (.bool true) (.inl rfl) rfl rfl (by simp -implicitDefEqProofs only [go_sem]) (by simp -implicitDefEqProofs only [go_sem]) (by simp -implicitDefEqProofs only [go_sem]) (by simp -implicitDefEqProofs only [go_sem]) rfl (mapGet_unmet hmet)) ?_
        try simp -implicitDefEqProofs only [go_sem]
        try (with_reducible refine ind_andM (by kernel_rfl) ?_)
        repeat (first | with_reducible refine ind_andM (by kernel_rfl) ?_ | (with_reducible apply And.intro; case left=>first | omega | assumption | exact ⟨rowsT_all _,by omega⟩ | exact ⟨rowsI_all _,by omega⟩ | exact ⟨rowsLit_all _,by omega⟩ | exact ⟨rowsLin_all _,by omega⟩ | exact ⟨rowsEq_all _,by omega⟩ | rfl | (simp [*]; done) | (simp; omega) | exact ⟨rowsRat_all _,by omega⟩ | exact ⟨rowsAtom_all _,by omega⟩ | exact ⟨rowsB_all _,by omega⟩ | exact ⟨rowsForm_all _,by omega⟩ | exact ⟨rowsII_all _,by omega⟩))
        refine atOp_by (st_put_map _ _ _ _ 310 3 283 1 (beforeM disc) (w:Int) (.agg #[.int .i64 (k:Int),.bool false]) (.inl rfl) rfl rfl (by simp -implicitDefEqProofs only [go_sem]) (by simp -implicitDefEqProofs only [go_sem]) (by simp -implicitDefEqProofs only [go_sem]) (by simp -implicitDefEqProofs only [go_sem]) rfl (mapGet_before_none hmet)) ?_
        try simp -implicitDefEqProofs only [go_sem]
        try (with_reducible refine ind_andM (by kernel_rfl) ?_)
        repeat (first | with_reducible refine ind_andM (by kernel_rfl) ?_ | (with_reducible apply And.intro; case left=>first | omega | assumption | exact ⟨rowsT_all _,by omega⟩ | exact ⟨rowsI_all _,by omega⟩ | exact ⟨rowsLit_all _,by omega⟩ | exact ⟨rowsLin_all _,by omega⟩ | exact ⟨rowsEq_all _,by omega⟩ | rfl | (simp [*]; done) | (simp; omega) | exact ⟨rowsRat_all _,by omega⟩ | exact ⟨rowsAtom_all _,by omega⟩ | exact ⟨rowsB_all _,by omega⟩ | exact ⟨rowsForm_all _,by omega⟩ | exact ⟨rowsII_all _,by omega⟩))
        refine ⟨k + 1,disc ++ [(w,⟨k,false⟩)],?_,?_,weakS [some 0,some 1,some 5,some 3] ?_ ?_ rfl rfl⟩
        rotate_left
        ·show _ < _
         omega
        ·simp -implicitDefEqProofs only [go_sem]
         all_goals (first | done | ((rw [beforeM_app hd0,metM_app,fsts_app,← rowsN_app]; (repeat' apply And.intro) <;> rfl)) | (simp [wks_rfl, *]; done) | (simp [wks_rfl]; done) | (simp; omega) | skip)
        ·simp -implicitDefEqProofs only [go_sem]
         all_goals (first | done | ((rw [beforeM_app hd0,metM_app,fsts_app,← rowsN_app]; (repeat' apply And.intro) <;> rfl)) | (simp [wks_rfl, *]; done) | (simp [wks_rfl]; done) | (simp; omega) | skip)
        have hM2:=met_add (e:=⟨k,false⟩) hM h2 hv' es (by rw [ee]; exact hmet) (by rw [ee]; exact b1)
        rw [ee] at hM2
        refine ⟨by omega,by simp; omega,by rw [fsts_app,List.getElem?_append_left h1']; exact hv',hM2,through_mono (by omega) hT,seenTo_next (seenTo_mono hS) (fun _=>?_) (fun h=>absurd (hw ▸ h) hB)⟩
        rw [hw,fsts_app]
        exact List.mem_append_right _ (by simp [fsts])
      ·try simp -implicitDefEqProofs only [go_sem,h2,h2',eg,eA,eB,hfl,h1,hv,hB,hA]
       try (with_reducible refine ind_andM (by kernel_rfl) ?_)
       repeat (first | with_reducible refine ind_andM (by kernel_rfl) ?_ | (with_reducible apply And.intro; case left=>first | omega | assumption | exact ⟨rowsT_all _,by omega⟩ | exact ⟨rowsI_all _,by omega⟩ | exact ⟨rowsLit_all _,by omega⟩ | exact ⟨rowsLin_all _,by omega⟩ | exact ⟨rowsEq_all _,by omega⟩ | rfl | (simp [*]; done) | (simp; omega) | exact ⟨rowsRat_all _,by omega⟩ | exact ⟨rowsAtom_all _,by omega⟩ | exact ⟨rowsB_all _,by omega⟩ | exact ⟨rowsForm_all _,by omega⟩ | exact ⟨rowsII_all _,by omega⟩))
       refine ⟨k + 1,disc,?_,?_,weakS [some 0,some 1,some 2,some 3] ?_ ?_ rfl rfl⟩
       rotate_left
       ·show _ < _
        omega
       ·simp -implicitDefEqProofs only [go_sem]
        all_goals (first | done | (simp [wks_rfl, *]; done) | (simp [wks_rfl]; done) | (simp; omega) | skip)
       ·simp -implicitDefEqProofs only [go_sem]
        all_goals (first | done | (simp [wks_rfl, *]; done) | (simp [wks_rfl]; done) | (simp; omega) | skip)
       exact ⟨by omega,h1,hv',hM,hT,seenTo_next hS (fun h=>absurd h hA) (fun h=>absurd h hB)⟩
    ·obtain rfl:k = n:=by omega
     try simp -implicitDefEqProofs only [go_sem,h2]
     try (with_reducible refine ind_andM (by kernel_rfl) ?_)
     repeat (first | with_reducible refine ind_andM (by kernel_rfl) ?_ | (with_reducible apply And.intro; case left=>first | omega | assumption | exact ⟨rowsT_all _,by omega⟩ | exact ⟨rowsI_all _,by omega⟩ | exact ⟨rowsLit_all _,by omega⟩ | exact ⟨rowsLin_all _,by omega⟩ | exact ⟨rowsEq_all _,by omega⟩ | rfl | (simp [*]; done) | (simp; omega) | exact ⟨rowsRat_all _,by omega⟩ | exact ⟨rowsAtom_all _,by omega⟩ | exact ⟨rowsB_all _,by omega⟩ | exact ⟨rowsForm_all _,by omega⟩ | exact ⟨rowsII_all _,by omega⟩))
     refine ⟨i + 1,disc,?_,?_,weakS [some 0,some 1,some 2,some 3] ?_ ?_ rfl rfl⟩
     rotate_left
     ·show _ < _
      omega
     ·simp -implicitDefEqProofs only [go_sem]
      all_goals (first | done | (simp [wks_rfl, *]; done) | (simp [wks_rfl]; done) | (simp; omega) | skip)
     ·simp -implicitDefEqProofs only [go_sem]
      all_goals (first | done | (simp [wks_rfl, *]; done) | (simp [wks_rfl]; done) | (simp; omega) | skip)
     exact ⟨by omega,hM,through_succ hT hv' (seenTo_all hS)⟩
  ·obtain rfl:i = disc.length:=by omega
   obtain ⟨w1,w2,w3⟩:=way_is hok hn ha hb hab
   have hbm:b ∈ fsts disc:=through_walk hT w1 w2 (List.mem_of_getElem? hM.head)
   obtain ⟨j0,hj0,hjb⟩:=List.mem_iff_getElem.1 hbm
   have hjb':(fsts disc)[j0]? = some b:=by rw [List.getElem?_eq_getElem hj0,hjb]
   try simp -implicitDefEqProofs only [go_sem,hfl,h1]
   try (with_reducible refine ind_andM (by kernel_rfl) ?_)
   refine loop_go3 hm (fun (j:Nat) (t:Nat) (out:List Mod.Edge)=> Back steps n b disc j t out) (fun (j:Nat) (t:Nat) (out:List Mod.Edge)=> ⟨mkS 116 .any [(0,.ptr 0 0),(1,iv a),(2,iv t),(9,.acc 1),(18,.acc 2)],[some (.box [lv (rowsT parts),lv (rowsN c),lv (rowsStep steps)]),some (.map (beforeM disc)),some (.acc 283 (rowsEdge out))]⟩) (fun (j:Nat) (t:Nat) (out:List Mod.Edge)=> j) (j0) (b) ([]) ?_ (weakS [some 0,some 1,none] ?_ ?_ rfl rfl) ?_
   rotate_left
   ·simp -implicitDefEqProofs only [go_sem]
    all_goals (first | done | (rfl) | (simp [wks_rfl, *]; done) | (simp [wks_rfl]; done) | (simp; omega) | skip)
   ·simp -implicitDefEqProofs only [go_sem]
    all_goals (first | done | (rfl) | (simp [wks_rfl, *]; done) | (simp [wks_rfl]; done) | (simp; omega) | skip)
   rotate_left
   ·exact back_start hjb'
   ·rintro j t out hB
    have hjl:j < disc.length:=by
     rw [← hfl]
     exact (List.getElem?_eq_some_iff.1 hB.at_).1
    have htl:t < parts.length:=hM.lt t (List.mem_of_getElem? hB.at_)
    have hol:out.length ≤ 1000:=by
     have h5:=nodup_bound hB.nod (fun v hv=>by
      simp only [verts,List.mem_cons,List.mem_map] at hv
      rcases hv with rfl | ⟨d,hd,rfl⟩
      ·exact htl
      ·exact endV_lt hok (by have:=hB.in_ d hd; omega))
     simp [verts] at h5
     omega
    rcases Classical.em (t = a) with h2 | h2
    ·have k2:=eq_true h2
     have hbk:=hB
     rw [h2] at hbk
     have hout:=back_end hok hn ha hbk
     try simp -implicitDefEqProofs only [go_sem,k2]
     try (with_reducible refine ind_andM (by kernel_rfl) ?_)
     refine atOwn [] [2] (c_Reverse_edge out hol) ?_ ?_ <;> simp -implicitDefEqProofs only [go_sem]
     try (with_reducible refine ind_andM (by kernel_rfl) ?_)
     try simp -implicitDefEqProofs only [go_sem,Z1,Z2,Z3,Z4,onQ_on,thenQ_n,thenQ_r]
     try (with_reducible refine ind_andM (by kernel_rfl) ?_)
     refine FinW_of ?_
     refine finM' [some 0] ?_ rfl rfl
     simp -implicitDefEqProofs only [go_sem]
     rw [hout]
     exact ⟨rfl,rfl⟩
    ·have hj:0 < j:=by
      rcases Nat.eq_zero_or_pos j with h5 | h5
      ·have h6:=hM.head
       have h7:=hB.at_
       rw [h5,h6] at h7
       exact absurd (Option.some.inj h7).symm h2
      ·exact h5
     obtain ⟨⟨t',e⟩,hde⟩:∃ x,disc[j]? = some x:=⟨disc[j],List.getElem?_eq_getElem hjl⟩
     have htt:t' = t:=by
      have h7:=hB.at_
      rw [fsts,List.getElem?_map,hde] at h7
      exact Option.some.inj h7
     rw [htt] at hde
     have hmg:=mapGet_before hM.nod hj hde
     obtain ⟨i2,hi2,hB2⟩:=back_step hM hB hde hj
     have hes:=(hM.by_ j t e hde hj).1
     have h3:e.step < steps.length:=by omega
     obtain ⟨eA,eB⟩:=hvb e.step h3
     try simp -implicitDefEqProofs only [go_sem,h2]
     try (with_reducible refine ind_andM (by kernel_rfl) ?_)
     refine atOp_by (st_look_map (.tmp 86) (.tmp 87) 310 3 283 1 (beforeM disc) (t:Int) (.agg #[.int .i64 (e.step:Int),.bool e.back]) rfl rfl (by simp -implicitDefEqProofs only [go_sem]) (by simp -implicitDefEqProofs only [go_sem]) (by simp -implicitDefEqProofs only [go_sem]) hmg) ?_
     cases hb2:e.back
     ·have es:startV steps e = vA steps e.step:=by rw [startV,hb2]; rfl
      rw [es] at hB2
      try simp -implicitDefEqProofs only [go_sem,h3,eA,eB]
      try (with_reducible refine ind_andM (by kernel_rfl) ?_)
      repeat (first | with_reducible refine ind_andM (by kernel_rfl) ?_ | (with_reducible apply And.intro; case left=>first | omega | assumption | exact ⟨rowsT_all _,by omega⟩ | exact ⟨rowsI_all _,by omega⟩ | exact ⟨rowsLit_all _,by omega⟩ | exact ⟨rowsLin_all _,by omega⟩ | exact ⟨rowsEq_all _,by omega⟩ | rfl | (simp [*]; done) | (simp; omega) | exact ⟨rowsRat_all _,by omega⟩ | exact ⟨rowsAtom_all _,by omega⟩ | exact ⟨rowsB_all _,by omega⟩ | exact ⟨rowsForm_all _,by omega⟩ | exact ⟨rowsII_all _,by omega⟩))
      try simp -implicitDefEqProofs only [go_sem,Z1,Z2,Z3,Z4,h3,eA,eB]
      try (with_reducible refine ind_andM (by kernel_rfl) ?_)
      repeat (first | with_reducible refine ind_andM (by kernel_rfl) ?_ | (with_reducible apply And.intro; case left=>first | omega | assumption | exact ⟨rowsT_all _,by omega⟩ | exact ⟨rowsI_all _,by omega⟩ | exact ⟨rowsLit_all _,by omega⟩ | exact ⟨rowsLin_all _,by omega⟩ | exact ⟨rowsEq_all _,by omega⟩ | rfl | (simp [*]; done) | (simp; omega) | exact ⟨rowsRat_all _,by omega⟩ | exact ⟨rowsAtom_all _,by omega⟩ | exact ⟨rowsB_all _,by omega⟩ | exact ⟨rowsForm_all _,by omega⟩ | exact ⟨rowsII_all _,by omega⟩))
      refine ⟨i2,vA steps e.step,out ++ [e],?_,?_,weakS [some 0,some 1,some 4] ?_ ?_ rfl rfl⟩
      rotate_left
      ·show _ < _
       omega
      ·simp -implicitDefEqProofs only [go_sem]
       all_goals (first | done | ((rw [← rowsEdge_app,rowsEdge_cons,rowsEdge_nil,cEdge,hb2])) | (simp [wks_rfl, *]; done) | (simp [wks_rfl]; done) | (simp; omega) | skip)
      ·simp -implicitDefEqProofs only [go_sem]
       all_goals (first | done | ((rw [← rowsEdge_app,rowsEdge_cons,rowsEdge_nil,cEdge,hb2])) | (simp [wks_rfl, *]; done) | (simp [wks_rfl]; done) | (simp; omega) | skip)
      exact hB2
     ·have es:startV steps e = vB steps e.step:=by rw [startV,hb2]; rfl
      rw [es] at hB2
      try simp -implicitDefEqProofs only [go_sem,h3,eA,eB]
      try (with_reducible refine ind_andM (by kernel_rfl) ?_)
      repeat (first | with_reducible refine ind_andM (by kernel_rfl) ?_ | (with_reducible apply And.intro; case left=>first | omega | assumption | exact ⟨rowsT_all _,by omega⟩ | exact ⟨rowsI_all _,by omega⟩ | exact ⟨rowsLit_all _,by omega⟩ | exact ⟨rowsLin_all _,by omega⟩ | exact ⟨rowsEq_all _,by omega⟩ | rfl | (simp [*]; done) | (simp; omega) | exact ⟨rowsRat_all _,by omega⟩ | exact ⟨rowsAtom_all _,by omega⟩ | exact ⟨rowsB_all _,by omega⟩ | exact ⟨rowsForm_all _,by omega⟩ | exact ⟨rowsII_all _,by omega⟩))
      try simp -implicitDefEqProofs only [go_sem,Z1,Z2,Z3,Z4,h3,eA,eB]
      try (with_reducible refine ind_andM (by kernel_rfl) ?_)
      repeat (first | with_reducible refine ind_andM (by kernel_rfl) ?_ | (with_reducible apply And.intro; case left=>first | omega | assumption | exact ⟨rowsT_all _,by omega⟩ | exact ⟨rowsI_all _,by omega⟩ | exact ⟨rowsLit_all _,by omega⟩ | exact ⟨rowsLin_all _,by omega⟩ | exact ⟨rowsEq_all _,by omega⟩ | rfl | (simp [*]; done) | (simp; omega) | exact ⟨rowsRat_all _,by omega⟩ | exact ⟨rowsAtom_all _,by omega⟩ | exact ⟨rowsB_all _,by omega⟩ | exact ⟨rowsForm_all _,by omega⟩ | exact ⟨rowsII_all _,by omega⟩))
      refine ⟨i2,vB steps e.step,out ++ [e],?_,?_,weakS [some 0,some 1,some 4] ?_ ?_ rfl rfl⟩
      rotate_left
      ·show _ < _
       omega
      ·simp -implicitDefEqProofs only [go_sem]
       all_goals (first | done | ((rw [← rowsEdge_app,rowsEdge_cons,rowsEdge_nil,cEdge,hb2])) | (simp [wks_rfl, *]; done) | (simp [wks_rfl]; done) | (simp; omega) | skip)
      ·simp -implicitDefEqProofs only [go_sem]
       all_goals (first | done | ((rw [← rowsEdge_app,rowsEdge_cons,rowsEdge_nil,cEdge,hb2])) | (simp [wks_rfl, *]; done) | (simp [wks_rfl]; done) | (simp; omega) | skip)
      exact hB2
end Go.Proofs.YtpidddienjoleaaGreat
