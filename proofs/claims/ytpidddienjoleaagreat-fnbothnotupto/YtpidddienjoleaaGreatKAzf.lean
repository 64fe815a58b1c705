/-
  The program: the walks of elimination and of systems. A step towards the laws. The program: the walks of a system's decision. A step towards the laws.
-/
import Derived.Test.YtpidddienjoleaaGreatKAc
import Derived.Test.YtpidddienjoleaaGreatKAd
import Derived.Test.YtpidddienjoleaaGreatKAN
import Derived.Test.YtpidddienjoleaaGreatKAq
import Derived.Test.YtpidddienjoleaaGreatKAEa
import Derived.Test.YtpidddienjoleaaGreatKAEk
import Derived.Test.YtpidddienjoleaaGreatKADa
set_option linter.unusedVariables false
set_option linter.unusedSimpArgs false
namespace Go.Proofs.YtpidddienjoleaaGreat
open Go.Eng Go.Mod
open Int renaming reduceEq → Z1,reduceLT → Z2,reduceLE → Z3,reduceToNat → Z4
set_option maxRecDepth 100000
set_option maxHeartbeats 400000
theorem c_impl_ratOf_any (n d:Int) (hn:-1000000000 ≤ n ∧ n ≤ 1000000000) (hd:-1000000000 ≤ d ∧ d ≤ 1000000000):C E.P 233 [iv n,iv d] [] (Eq2 (.tup [av (cRat (ratOf0 n d).1),bv (ratOf0 n d).2]) []):=by
 rcases Classical.em (d = 0) with h0 | h0
 ·have k0:=eq_true h0
  have hLB:=LB_eq
  refine C_goS (nt:=32) (rs:=[.cell 4 57,.tmp 5]) hm Tryz.func233 rfl rfl rfl rfl rfl (fun hl he=>?_)
  simp -implicitDefEqProofs only [go_sem] at hl ⊢
  simp -implicitDefEqProofs only [go_sem,k0]
  refine fin1' ?_
  simp -implicitDefEqProofs only [go_sem]
  all_goals (simp [ratOf0,h0]; done)
 rcases Classical.em (d < 0) with h1 | h1
 ·have e:ratOf0 n d = if ratOk ⟨(-n).tdiv (Int.gcd (-n) (-d)),(-d).tdiv (Int.gcd (-n) (-d))⟩ then (⟨(-n).tdiv (Int.gcd (-n) (-d)),(-d).tdiv (Int.gcd (-n) (-d))⟩,true) else (rat0,false):=by
   unfold ratOf0
   rw [if_neg h0]
   simp only [if_pos h1]
  have hg:=gcd_pos (n:=-n) (d:=-d) (by omega)
  have b1:=tdiv_bound (n:=-n) (k:=1000000000) hg (by omega)
  have b2:=tdiv_bound (n:=-d) (k:=1000000000) hg (by omega)
  have hne:¬ (Int.gcd (-n) (-d):Int) = 0:=by omega
  have hLB:=LB_eq
  refine C_goS (nt:=32) (rs:=[.cell 4 57,.tmp 5]) hm Tryz.func233 rfl rfl rfl rfl rfl (fun hl he=>?_)
  simp -implicitDefEqProofs only [go_sem] at hl ⊢
  simp -implicitDefEqProofs only [go_sem,h0,h1]
  repeat (with_reducible apply And.intro; case left=>omega)
  refine atCall [] (c_impl_gcd (-n) (-d) (by omega) (by omega)) ?_ ?_ <;> simp -implicitDefEqProofs only [go_sem]
  repeat (first | with_reducible refine ind_andM (by kernel_rfl) ?_ | (with_reducible apply And.intro; case left=>omega))
  refine atCall [] (c_impl_RatOk ⟨(-n).tdiv (Int.gcd (-n) (-d)),(-d).tdiv (Int.gcd (-n) (-d))⟩) ?_ ?_ <;> simp -implicitDefEqProofs only [go_sem]
  cases h2:ratOk ⟨(-n).tdiv (Int.gcd (-n) (-d)),(-d).tdiv (Int.gcd (-n) (-d))⟩
  ·simp -implicitDefEqProofs only [go_sem]
   refine fin1' ?_
   simp -implicitDefEqProofs only [go_sem]
   rw [e,if_neg (by rw [h2]; simp)]
   exact ⟨⟨rfl,rfl⟩,rfl⟩
  ·simp -implicitDefEqProofs only [go_sem]
   refine fin1' ?_
   simp -implicitDefEqProofs only [go_sem]
   rw [e,if_pos h2]
   exact ⟨⟨rfl,rfl⟩,rfl⟩
 ·exact c_impl_ratOf n d (by omega) (by omega)
theorem c_impl_RatOf (n d:Int):C E.P 252 [iv n,iv d] [] (Eq2 (.tup [av (cRat (ratOf n d).1),bv (ratOf n d).2]) []):=by
 have hLB:=LB_eq
 refine C_goS (nt:=20) (rs:=[.cell 4 57,.tmp 5]) hm Tryz.func252 rfl rfl rfl rfl rfl (fun hl he=>?_)
 simp -implicitDefEqProofs only [go_sem] at hl ⊢
 refine atCall [] (c_impl_within n (-1000000000) 1000000000) ?_ ?_ <;> simp -implicitDefEqProofs only [go_sem]
 cases g1:within n (-1000000000) 1000000000
 ·simp -implicitDefEqProofs only [go_sem]
  refine fin1' ?_
  simp -implicitDefEqProofs only [go_sem]
  all_goals (simp [ratOf,g1]; done)
 ·simp -implicitDefEqProofs only [go_sem]
  refine atCall [] (c_impl_within d (-1000000000) 1000000000) ?_ ?_ <;> simp -implicitDefEqProofs only [go_sem]
  cases g2:within d (-1000000000) 1000000000
  ·simp -implicitDefEqProofs only [go_sem]
   refine fin1' ?_
   simp -implicitDefEqProofs only [go_sem]
   all_goals (simp [ratOf,g1,g2]; done)
  ·have h1:=withinB_iff.1 g1
   have h2:=withinB_iff.1 g2
   simp -implicitDefEqProofs only [go_sem]
   refine atCall [] (c_impl_ratOf_any n d h1 h2) ?_ ?_ <;> simp -implicitDefEqProofs only [go_sem]
   refine fin1' ?_
   simp -implicitDefEqProofs only [go_sem]
   all_goals (simp [ratOf,g1,g2]; done)
theorem c_impl_RatMid (a b:Mod.Rat):C E.P 219 [av (cRat a),av (cRat b)] [] (Eq2 (.tup [av (cRat (ratMid a b).1),bv (ratMid a b).2]) []):=by
 have hLB:=LB_eq
 refine C_goS (nt:=22) (rs:=[.cell 4 57,.tmp 5]) hm Tryz.func219 rfl rfl rfl rfl rfl (fun hl he=>?_)
 simp -implicitDefEqProofs only [go_sem] at hl ⊢
 refine atCall [] (c_impl_RatAdd a b) ?_ ?_ <;> simp -implicitDefEqProofs only [go_sem]
 cases g1:(ratAdd a b).2
 ·simp -implicitDefEqProofs only [go_sem]
  refine fin1' ?_
  simp -implicitDefEqProofs only [go_sem]
  all_goals (simp [ratMid,g1]; done)
 ·simp -implicitDefEqProofs only [go_sem]
  refine atCall [] (c_impl_RatMul (ratAdd a b).1 ⟨1,2⟩) ?_ ?_ <;> simp -implicitDefEqProofs only [go_sem]
  refine fin1' ?_
  simp -implicitDefEqProofs only [go_sem]
  all_goals (simp [ratMid,g1]; done)
theorem c_impl_isAssignment_1 (n:Mod.Rat):C E.P 132 [av (cRat n)] [] (Eq2 (bv (!ratOk n)) []):=by
 have hLB:=LB_eq
 refine C_goS (nt:=6) (rs:=[.tmp 2]) hm Tryz.func132 rfl rfl rfl rfl rfl (fun hl he=>?_)
 simp -implicitDefEqProofs only [go_sem] at hl ⊢
 refine atCall [] (c_impl_RatOk n) ?_ ?_ <;> simp -implicitDefEqProofs only [go_sem]
 refine fin1' ?_
 simp -implicitDefEqProofs only [go_sem]
theorem c_impl_isAssignment (vals:List Mod.Rat):C E.P 58 [lv (rowsRat vals)] [] (Eq2 (bv (isAsg vals)) []):=by
 have hLB:=LB_eq
 refine C_goS (nt:=11) (rs:=[.tmp 2]) hm Tryz.func58 rfl rfl rfl rfl rfl (fun hl he=>?_)
 simp -implicitDefEqProofs only [go_sem] at hl ⊢
 rcases Classical.em ((vals.length:Int) = 4) with h | h
 ·have h':vals.length = 4:=by omega
  have k:=eq_true h
  simp -implicitDefEqProofs only [go_sem,k]
  refine atCall [] (c_ContainsFunc_Rat 132 [] rfl (fun n=>!ratOk n) vals (fun n _=>c_impl_isAssignment_1 n)) ?_ ?_ <;> simp -implicitDefEqProofs only [go_sem]
  refine fin1' ?_
  simp -implicitDefEqProofs only [go_sem]
  all_goals (simp [isAsg,h',List.all_eq_not_any_not]; done)
 ·have h':¬ vals.length = 4:=by omega
  simp -implicitDefEqProofs only [go_sem,h]
  refine fin1' ?_
  simp -implicitDefEqProofs only [go_sem]
  all_goals (simp [isAsg,h']; done)
theorem isAsg_len {vals:List Mod.Rat} (h:isAsg vals = true):vals.length = 4:=by
 simp only [isAsg,Bool.and_eq_true,decide_eq_true_eq] at h
 exact h.1
theorem c_impl_LinAt (l:Lin) (vals:List Mod.Rat):C E.P 59 [av (cLin l),lv (rowsRat vals)] [] (Eq2 (.tup [bv ((linAt l vals).getD false),bv (linAt l vals).isSome]) []):=by
 have hLB:=LB_eq
 refine C_goS (nt:=48) (rs:=[.tmp 4,.tmp 5]) hm Tryz.func59 rfl rfl rfl rfl rfl (fun hl he=>?_)
 simp -implicitDefEqProofs only [go_sem] at hl ⊢
 refine atCall [] (c_impl_LinOk l) ?_ ?_ <;> simp -implicitDefEqProofs only [go_sem]
 cases g1:linOk l
 ·simp -implicitDefEqProofs only [go_sem]
  refine fin1' ?_
  simp -implicitDefEqProofs only [go_sem]
  all_goals (simp [linAt,g1]; done)
 ·simp -implicitDefEqProofs only [go_sem]
  refine atCall [] (c_impl_isAssignment vals) ?_ ?_ <;> simp -implicitDefEqProofs only [go_sem]
  cases g2:isAsg vals
  ·simp -implicitDefEqProofs only [go_sem]
   refine fin1' ?_
   simp -implicitDefEqProofs only [go_sem]
   all_goals (simp [linAt,g1,g2]; done)
  ·obtain ⟨hn1,hc1,hb1⟩:=linOk_iff.1 g1
   have hv:=isAsg_len g2
   have e:linAt l vals = (sumLin l.coefs vals (whole 0)).map fun x=>below x l.bound l.strict:=by simp [linAt,g1,g2]
   simp -implicitDefEqProofs only [go_sem]
   refine atCall [] (c_impl_whole 0) ?_ ?_ <;> simp -implicitDefEqProofs only [go_sem]
   refine loop_go2 hm (fun (i:Nat) (sum:Mod.Rat)=> i ≤ l.coefs.length ∧ sumLin l.coefs vals (whole 0) = sumLin (l.coefs.drop i) (vals.drop i) sum) (fun (i:Nat) (sum:Mod.Rat)=> ⟨mkS 48 .any [(1,lv (rowsRat vals)),(2,.ptr 0 0),(6,.ptr 1 0),(21,lv (rowsI l.coefs)),(22,iv l.coefs.length),(23,iv i)],[some (.box (pvs (cLin l))),some (.box (pvs (cRat sum)))]⟩) (fun (i:Nat) (sum:Mod.Rat)=> l.coefs.length - i) (0) (whole 0) ?_ (weakS [some 0,some 1] ?_ ?_ rfl rfl) ?_
   rotate_left
   ·simp -implicitDefEqProofs only [go_sem]
   ·simp -implicitDefEqProofs only [go_sem]
   rotate_left
   ·simp
   ·rintro i sum ⟨hi,hg⟩
    rcases Classical.em (i < l.coefs.length) with h1 | h1
    ·have h2:i < vals.length:=by omega
     rw [sumLin_step h1 h2] at hg
     simp -implicitDefEqProofs only [go_sem,h1,h2]
     refine atCall [] (c_impl_plus sum l.coefs[i] vals[i]) ?_ ?_ <;> simp -implicitDefEqProofs only [go_sem]
     with_reducible refine ind_andM (by kernel_rfl) ?_
     cases h3:(plus sum l.coefs[i] vals[i]).2
     ·rw [h3] at hg
      simp only [Bool.false_eq_true,if_false] at hg
      rw [hg] at e
      simp -implicitDefEqProofs only [go_sem]
      refine fin1' ?_
      simp -implicitDefEqProofs only [go_sem]
      all_goals (simp [e]; done)
     ·rw [h3] at hg
      simp only [if_true] at hg
      simp -implicitDefEqProofs only [go_sem]
      repeat (with_reducible apply And.intro; case left=>omega)
      refine ⟨i + 1,(plus sum l.coefs[i] vals[i]).1,?_,?_,weakS [some 0,some 1] ?_ ?_ rfl rfl⟩
      rotate_left
      ·show _ < _
       omega
      ·simp -implicitDefEqProofs only [go_sem]
      ·simp -implicitDefEqProofs only [go_sem]
      exact ⟨by omega,hg⟩
    ·rw [List.drop_of_length_le (by omega),sumLin_nil] at hg
     rw [hg] at e
     simp -implicitDefEqProofs only [go_sem,h1]
     refine atCall [] (c_impl_below sum l.bound l.strict) ?_ ?_ <;> simp -implicitDefEqProofs only [go_sem]
     refine fin1' ?_
     simp -implicitDefEqProofs only [go_sem]
     all_goals (simp [e]; done)
theorem c_impl_FarAll (ls:List Lin) (vals:List Mod.Rat):C E.P 24 [lv (rowsLin ls),lv (rowsRat vals)] [] (Eq2 (bv (farAll ls vals)) []):=by
 have hLB:=LB_eq
 refine C_goS (nt:=36) (rs:=[.tmp 4]) hm Tryz.func24 rfl rfl rfl rfl rfl (fun hl he=>?_)
 simp -implicitDefEqProofs only [go_sem] at hl ⊢
 refine atCall [] (c_impl_isSystem ls) ?_ ?_ <;> simp -implicitDefEqProofs only [go_sem]
 cases g1:isSystem ls
 ·simp -implicitDefEqProofs only [go_sem]
  refine fin1' ?_
  simp -implicitDefEqProofs only [go_sem]
  all_goals (simp [farAll,g1]; done)
 ·simp -implicitDefEqProofs only [go_sem]
  refine atCall [] (c_impl_isAssignment vals) ?_ ?_ <;> simp -implicitDefEqProofs only [go_sem]
  cases g2:isAsg vals
  ·simp -implicitDefEqProofs only [go_sem]
   refine fin1' ?_
   simp -implicitDefEqProofs only [go_sem]
   all_goals (simp [farAll,g1,g2]; done)
  ·have e:farAll ls vals = ls.all fun l=>decide (linAt l vals = some true):=by simp [farAll,g1,g2]
   simp -implicitDefEqProofs only [go_sem]
   refine loop_go1 hm (fun (i:Nat)=> i ≤ ls.length ∧ farAll ls vals = (ls.drop i).all fun l=>decide (linAt l vals = some true)) (fun (i:Nat)=> ⟨mkS 36 .any [(1,lv (rowsRat vals)),(17,lv (rowsLin ls)),(18,iv ls.length),(19,iv i)],[]⟩) (fun (i:Nat)=> ls.length - i) (0) ?_ (weakS [] ?_ ?_ rfl rfl) ?_
   rotate_left
   ·simp -implicitDefEqProofs only [go_sem]
   ·simp -implicitDefEqProofs only [go_sem]
   rotate_left
   ·simp [e]
   ·rintro i ⟨hi,hg⟩
    rcases Classical.em (i < ls.length) with h1 | h1
    ·rw [List.drop_eq_getElem_cons h1,List.all_cons] at hg
     simp -implicitDefEqProofs only [go_sem,h1]
     refine atCall [] (c_impl_LinAt ls[i] vals) ?_ ?_ <;> simp -implicitDefEqProofs only [go_sem]
     cases h2:linAt ls[i] vals with
     | none=>
       rw [h2] at hg
       simp -implicitDefEqProofs only [go_sem,Option.isSome_none,Option.getD_none]
       refine fin1' ?_
       simp -implicitDefEqProofs only [go_sem]
       all_goals (simp [hg]; done)
     | some b=>
       rw [h2] at hg
       cases b
       ·simp -implicitDefEqProofs only [go_sem,Option.isSome_some,Option.getD_some]
        refine fin1' ?_
        simp -implicitDefEqProofs only [go_sem]
        all_goals (simp [hg]; done)
       ·simp -implicitDefEqProofs only [go_sem,Option.isSome_some,Option.getD_some]
        repeat (with_reducible apply And.intro; case left=>omega)
        refine ⟨i + 1,?_,?_,weakS [] ?_ ?_ rfl rfl⟩
        rotate_left
        ·show _ < _
         omega
        ·simp -implicitDefEqProofs only [go_sem]
        ·simp -implicitDefEqProofs only [go_sem]
        refine ⟨by omega,?_⟩
        rw [hg]; simp
    ·rw [List.drop_of_length_le (by omega),List.all_nil] at hg
     simp -implicitDefEqProofs only [go_sem,h1]
     refine fin1' ?_
     simp -implicitDefEqProofs only [go_sem]
     all_goals (simp [hg]; done)
def cUT (r:URow):List T:=[.leaf (.lst (rowsI r.lin.coefs)),.leaf (.val (.int .i64 r.lin.bound)),.leaf (.val (.bool r.lin.strict)),.own 3 (intT r.uses)]
def uT (l:List URow):List (List T):=l.map cUT
theorem uT_frz:∀ (l:List URow),frzRows (uT l) = some (rowsU l)
 | []=>rfl
 | s :: l=>by
   have:=uT_frz l
   simp only [uT,List.map_cons] at this ⊢
   simp [frzRows,frzCells,T.frz,cUT,intT_frz,this,rowsU,cU]
theorem uT_len (l:List URow):(uT l).length = l.length:=by simp [uT]
theorem uT_app (l:List URow) (t:URow):uT l ++ [cUT t] = uT (l ++ [t]):=by simp [uT]
theorem uT_ok (l:List URow):(frzRows (uT l)).isSome = true:=by rw [uT_frz]; rfl
attribute [go_sem] uT_frz uT_len
theorem unit1_rows {n i:Nat} (h:i < n):(rowsI (List.replicate n 0)).set i [.val (.int .i64 1)] = rowsI (unit1 n i):=by
 rw [unit1,← rowsI_set (by simpa using h)]
theorem unit1_lift {n i:Nat} (h:i < n):lift ((rowsI (List.replicate n 0)).set i (spl (row (rowsI (List.replicate n 0)) i) 0 [.val (.int .i64 1)])) = intT (unit1 n i):=by
 have e:spl (row (rowsI (List.replicate n 0)) i) 0 [.val (.int .i64 1)] = [D.val (.int .i64 1)]:=by
  rw [rowsI_row (by simpa using h)]
  simp [spl]
 rw [e,unit1_rows h,lift_rowsI]
theorem uT_next {ls:List Lin} {i:Nat} (h:i < ls.length):uT ((List.range i).map fun i=>⟨ls.getD i lin0,unit1 ls.length i⟩) ++ [[.leaf (.lst (rowsI ls[i].coefs)),.leaf (.val (.int .i64 ls[i].bound)),.leaf (.val (.bool ls[i].strict)),.own 3 (intT (unit1 ls.length i))]] = uT ((List.range i ++ [i]).map fun i=>⟨ls.getD i lin0,unit1 ls.length i⟩):=by
 rw [List.map_append,List.map_singleton,getD_at h,← uT_app]
 rfl
theorem c_impl_usedLins (ls:List Lin) (hl:ls.length ≤ 100):C E.P 159 [lv (rowsLin ls)] [] (Eq2 (lv (rowsU (usedLins ls))) []):=by
 have hLB:=LB_eq
 refine C_goS (nt:=28) (rs:=[.tmp 2]) hm Tryz.func159 rfl rfl rfl rfl rfl (fun hl he=>?_)
 simp -implicitDefEqProofs only [go_sem] at hl ⊢
 refine loop_go1 hm (fun (i:Nat)=> i ≤ ls.length) (fun (i:Nat)=> ⟨mkS 28 .any [(0,lv (rowsLin ls)),(3,.acc 0),(7,lv (rowsLin ls)),(8,iv ls.length),(9,iv i)],[some (.tre 225 (uT ((List.range i).map fun i=>⟨ls.getD i lin0,unit1 ls.length i⟩)))]⟩) (fun (i:Nat)=> ls.length - i) (0) ?_ (weakS [none] ?_ ?_ rfl rfl) ?_
 rotate_left
 ·simp -implicitDefEqProofs only [go_sem]
 ·simp -implicitDefEqProofs only [go_sem]
  all_goals (rfl)
 rotate_left
 ·omega
 ·rintro i hi
  have hp:(uT ((List.range i).map fun i=>(⟨ls.getD i lin0,unit1 ls.length i⟩:URow))).length = i:=by rw [uT_len]; simp
  rcases Classical.em (i < ls.length) with h1 | h1
  ·have hz:List.replicate ls.length ([D.val (Value.int .i64 0)]:List D) = rowsI (List.replicate ls.length 0):=by simp [rowsI]
   simp -implicitDefEqProofs only [go_sem,h1]
   repeat (with_reducible apply And.intro; case left=>first | omega | (simp; omega))
   simp -implicitDefEqProofs only [go_sem,hz]
   refine ⟨i + 1,?_,?_,weak_put 4 i _ rfl (by rw [List.length_append,hp]; simp) (rwT_endn hp) ?_⟩
   rotate_left
   ·show _ < _
    omega
   ·simp -implicitDefEqProofs only [go_sem]
    refine weakS [some 4] ?_ ?_ rfl rfl
    ·simp -implicitDefEqProofs only [go_sem]
    ·simp -implicitDefEqProofs only [go_sem]
     all_goals (rw [set_endn hp,unit1_lift h1]; exact ⟨uT_next h1,(congrArg (fun z=>(frzRows z).isSome) (uT_next h1)).trans (uT_ok _)⟩)
   exact h1
  ·simp -implicitDefEqProofs only [go_sem,h1]
   refine fin1' ?_
   simp -implicitDefEqProofs only [go_sem]
   obtain rfl:i = ls.length:=by omega
   exact ⟨_,rfl,rfl⟩
theorem c_impl_paired (n v:Nat) (a b:URow) (ha:UOk n a) (hb:UOk n b) (hn:n ≤ 100) (hv:v < 4) (h1:0 < coefAt a v) (h2:coefAt b v < 0):C E.P 215 [av (cU a),av (cU b),iv v] [] (Eq2 (.tup [av (cU (pairU a b v)),bv (pairOk a b v)]) []):=by
 have ca:=ha.coef v
 have cb:=hb.coef v
 obtain ⟨⟨hg1,hg2⟩,⟨hp1,hp2⟩,⟨hq1,hq2⟩⟩:=pair_pq ha hb h1 h2
 have la:v < a.lin.coefs.length:=by rw [(linOk_iff.1 ha.lin).1]; exact hv
 have lb:v < b.lin.coefs.length:=by rw [(linOk_iff.1 hb.lin).1]; exact hv
 have ea:a.lin.coefs[v] = coefAt a v:=(getD_at la).symm
 have eb:b.lin.coefs[v] = coefAt b v:=(getD_at lb).symm
 have hal:=ha.len
 have hbl:=hb.len
 have eg:(Int.gcd (coefAt a v) (-(coefAt b v)):Int) = pairG a b v:=rfl
 have ep:(coefAt a v).tdiv (pairG a b v) = pairP a b v:=rfl
 have eq:(-(coefAt b v)).tdiv (pairG a b v) = pairQ a b v:=rfl
 have e1:pairU a b v = ⟨(linSum a.lin (pairQ a b v) b.lin (pairP a b v)).1,pairUses a b v⟩:=rfl
 have e2:pairOk a b v = ((linSum a.lin (pairQ a b v) b.lin (pairP a b v)).2 && (pairUses a b v).all fun n=>decide (n ≤ 1000000)):=rfl
 have e3:pairUses a b v = comb (pairQ a b v) (pairP a b v) a.uses b.uses:=rfl
 generalize pairG a b v = g at *
 generalize pairP a b v = p at *
 generalize pairQ a b v = q at *
 have hLB:=LB_eq
 refine C_goS (nt:=85) (rs:=[.cell 6 225,.tmp 7]) hm Tryz.func215 rfl rfl rfl rfl rfl (fun hl he=>?_)
 simp -implicitDefEqProofs only [go_sem] at hl ⊢
 simp -implicitDefEqProofs only [go_sem,la,lb,ea,eb]
 repeat (first | with_reducible refine ind_andM (by kernel_rfl) ?_ | (with_reducible apply And.intro; case left=>omega))
 refine atCall [] (c_impl_gcd (coefAt a v) (-(coefAt b v)) (by omega) (by omega)) ?_ ?_ <;> simp -implicitDefEqProofs only [go_sem,eg]
 repeat (first | with_reducible refine ind_andM (by kernel_rfl) ?_ | (with_reducible apply And.intro; case left=>omega))
 simp -implicitDefEqProofs only [go_sem,ep,eq]
 refine atCall [] (c_impl_LinSum a.lin q b.lin p) ?_ ?_ <;> simp -implicitDefEqProofs only [go_sem]
 obtain ⟨l,hl⟩:∃ l,(linSum a.lin q b.lin p).1 = l:=⟨_,rfl⟩
 obtain ⟨ok,hok⟩:∃ l,(linSum a.lin q b.lin p).2 = l:=⟨_,rfl⟩
 rw [hl] at e1
 rw [hok] at e2
 simp -implicitDefEqProofs only [go_sem,hl,hok]
 refine loop_go2 hm (fun (i:Nat) (o:Bool)=> i ≤ n ∧ o = (ok && (comb q p (a.uses.take i) (b.uses.take i)).all fun n=>decide (n ≤ 1000000))) (fun (i:Nat) (o:Bool)=> ⟨mkS 85 .any [(3,.ptr 0 0),(4,.ptr 1 0),(6,.ptr 2 0),(8,iv p),(9,iv q),(12,bv o),(13,.ptr 3 0),(52,iv n),(53,iv i)],[some (.box (pvs (cU a))),some (.box (pvs (cU b))),some (.box (pvs (cU ⟨lin0,[]⟩))),some (.box [lv (rowsI l.coefs),iv l.bound,bv l.strict,.acc 4]),some (.acc 3 (rowsI (comb q p (a.uses.take i) (b.uses.take i))))]⟩) (fun (i:Nat) (o:Bool)=> n - i) (0) (ok) ?_ (weakS [some 0,some 1,some 2,some 4,none] ?_ ?_ rfl rfl) ?_
 rotate_left
 ·simp -implicitDefEqProofs only [go_sem]
  all_goals (simp [*])
 ·simp -implicitDefEqProofs only [go_sem]
  all_goals (simp [comb, *])
 rotate_left
 ·simp [comb]
 ·rintro i o ⟨hi,ho⟩
  rcases Classical.em (i < n) with h3 | h3
  ·have h4:i < a.uses.length:=by omega
   have h5:i < b.uses.length:=by omega
   have b1:=ha.bd a.uses[i] (List.getElem_mem h4)
   have b2:=hb.bd b.uses[i] (List.getElem_mem h5)
   have m1:=mul_bound (m:=q) (b:=a.uses[i]) (by omega) hq2 (by omega)
   have m2:=mul_bound (m:=p) (b:=b.uses[i]) (by omega) hp2 (by omega)
   have hlen:(comb q p (a.uses.take i) (b.uses.take i)).length ≤ 100:=by rw [comb_len (by simp; omega)]; simp; omega
   have ho2:(ok && (comb q p (a.uses.take (i + 1)) (b.uses.take (i + 1))).all fun n=>decide (n ≤ 1000000)) = (o && decide (q * a.uses[i] + p * b.uses[i] ≤ 1000000)):=by
    rw [ho,comb_snoc h4 h5,List.all_append,← Bool.and_assoc]
    simp
   cases o
   ·simp -implicitDefEqProofs only [go_sem,h3,h4,h5]
    repeat (first | with_reducible refine ind_andM (by kernel_rfl) ?_ | (with_reducible apply And.intro; case left=>omega))
    refine ⟨i + 1,false,?_,?_,weakS [some 0,some 1,some 2,some 3,some 5] ?_ ?_ rfl rfl⟩
    rotate_left
    ·show _ < _
     omega
    ·simp -implicitDefEqProofs only [go_sem]
    ·simp -implicitDefEqProofs only [go_sem]
     all_goals ((rw [comb_snoc h4 h5,← rowsI_app]; rfl))
    exact ⟨h3,by rw [ho2]; rfl⟩
   ·simp -implicitDefEqProofs only [go_sem,h3,h4,h5]
    repeat (first | with_reducible refine ind_andM (by kernel_rfl) ?_ | (with_reducible apply And.intro; case left=>omega))
    refine ⟨i + 1,(decide (q * a.uses[i] + p * b.uses[i] ≤ 1000000)),?_,?_,weakS [some 0,some 1,some 2,some 3,some 5] ?_ ?_ rfl rfl⟩
    rotate_left
    ·show _ < _
     omega
    ·simp -implicitDefEqProofs only [go_sem]
    ·simp -implicitDefEqProofs only [go_sem]
     all_goals ((rw [comb_snoc h4 h5,← rowsI_app]; rfl))
    exact ⟨h3,by rw [ho2]; simp⟩
  ·have ta:a.uses.take i = a.uses:=List.take_of_length_le (by omega)
   have tb:b.uses.take i = b.uses:=List.take_of_length_le (by omega)
   rw [ta,tb,← e3] at ho ⊢
   rw [← e2] at ho
   simp -implicitDefEqProofs only [go_sem,h3]
   refine fin1' ?_
   simp -implicitDefEqProofs only [go_sem]
   rw [e1,ho]
   repeat' apply And.intro
   all_goals rfl
end Go.Proofs.YtpidddienjoleaaGreat
namespace Go.Proofs.YtpidddienjoleaaGreat
open Go.Eng Go.Mod
open Int renaming reduceEq → Z1,reduceLT → Z2,reduceLE → Z3,reduceToNat → Z4
set_option maxRecDepth 100000
set_option maxHeartbeats 400000
theorem coef_row {n v:Nat} {r:URow} (h:UOk n r) (hv:v < 4):∃ h:v < r.lin.coefs.length,r.lin.coefs[v] = coefAt r v:=by
 have la:v < r.lin.coefs.length:=by rw [(linOk_iff.1 h.lin).1]; exact hv
 exact ⟨la,(getD_at la).symm⟩
theorem c_impl_less (n v:Nat) (rows:List URow) (hr:UsOk n rows) (hn:n ≤ 100) (hv:v < 4):C E.P 160 [lv (rowsU rows),iv v] [] (Eq2 (.tup [lv (rowsU ((lessU rows v).getD [])),bv (lessU rows v).isSome]) []):=by
 obtain ⟨hlen,hall⟩:=hr
 have hLB:=LB_eq
 refine C_goS (nt:=85) (rs:=[.tmp 4,.tmp 5]) hm Tryz.func160 rfl rfl rfl rfl rfl (fun hl he=>?_)
 simp -implicitDefEqProofs only [go_sem] at hl ⊢
 refine loop_go1 hm (fun (i:Nat)=> i ≤ rows.length) (fun (i:Nat)=> ⟨mkS 85 .any [(0,lv (rowsU rows)),(1,iv v),(6,.acc 0),(15,lv (rowsU rows)),(16,iv rows.length),(17,iv i)],[some (.acc 225 (rowsU ((rows.take i).filter fun r=>decide (coefAt r v = 0))))]⟩) (fun (i:Nat)=> rows.length - i) (0) ?_ (weakS [none] ?_ ?_ rfl rfl) ?_
 rotate_left
 ·simp -implicitDefEqProofs only [go_sem]
 ·simp -implicitDefEqProofs only [go_sem]
  all_goals (rfl)
 rotate_left
 ·omega
 ·rintro i hi
  have hfl:((rows.take i).filter fun r=>decide (coefAt r v = 0)).length ≤ 200:=by
   have:=List.length_filter_le (fun r:URow=>decide (coefAt r v = 0)) (rows.take i)
   rw [List.length_take] at this
   omega
  rcases Classical.em (i < rows.length) with h1 | h1
  ·obtain ⟨la,ea⟩:=coef_row (hall rows[i] (List.getElem_mem h1)) hv
   have hs:=filter_snoc (p:=fun r:URow=>decide (coefAt r v = 0)) h1
   rcases Classical.em (coefAt rows[i] v = 0) with h2 | h2
   ·have k2:=eq_true h2
    rw [if_pos (by simpa using h2)] at hs
    simp -implicitDefEqProofs only [go_sem,h1,la,ea,k2]
    repeat (with_reducible apply And.intro; case left=>omega)
    refine ⟨i + 1,?_,?_,weakS [some 2] ?_ ?_ rfl rfl⟩
    rotate_left
    ·show _ < _
     omega
    ·simp -implicitDefEqProofs only [go_sem]
    ·simp -implicitDefEqProofs only [go_sem]
     all_goals ((rw [hs,← rowsU_app,rowsU_cons,rowsU_nil]; rfl))
    exact h1
   ·rw [if_neg (by simpa using h2),List.append_nil] at hs
    simp -implicitDefEqProofs only [go_sem,h1,la,ea,h2]
    repeat (with_reducible apply And.intro; case left=>omega)
    refine ⟨i + 1,?_,?_,weakS [some 0] ?_ ?_ rfl rfl⟩
    rotate_left
    ·show _ < _
     omega
    ·simp -implicitDefEqProofs only [go_sem]
    ·simp -implicitDefEqProofs only [go_sem]
     all_goals ((rw [hs]))
    exact h1
  ·have et:rows.take i = rows:=List.take_of_length_le (by omega)
   rw [et] at hfl ⊢
   obtain ⟨out0,ho0⟩:∃ o,(rows.filter fun r=>decide (coefAt r v = 0)) = o:=⟨_,rfl⟩
   have hL:lessU rows v = addPairs v (pairsU rows rows v) out0:=by rw [← ho0]; rfl
   rw [ho0] at hfl ⊢
   simp -implicitDefEqProofs only [go_sem,h1]
   clear hi h1
   refine loop_go2 hm (fun (i:Nat) (out:List URow)=> i ≤ rows.length ∧ out.length ≤ 200 ∧ lessU rows v = addPairs v (pairsU rows (rows.drop i) v) out) (fun (i:Nat) (out:List URow)=> ⟨mkS 85 .any [(0,lv (rowsU rows)),(1,iv v),(6,.acc 0),(33,lv (rowsU rows)),(34,iv rows.length),(35,iv i)],[some (.acc 225 (rowsU out))]⟩) (fun (i:Nat) (out:List URow)=> rows.length - i) (0) (out0) ?_ (weakS [some 0] ?_ ?_ rfl rfl) ?_
   rotate_left
   ·simp -implicitDefEqProofs only [go_sem]
   ·simp -implicitDefEqProofs only [go_sem]
   rotate_left
   ·exact ⟨Nat.zero_le _,hfl,hL⟩
   ·rintro i out ⟨hi,ho,hg⟩
    rcases Classical.em (i < rows.length) with h1 | h1
    ·have ua:=hall rows[i] (List.getElem_mem h1)
     rw [pairsU_step h1] at hg
     obtain ⟨a,ha⟩:∃ a,rows[i] = a:=⟨_,rfl⟩
     rw [ha] at ua hg
     obtain ⟨la,ea⟩:=coef_row ua hv
     simp -implicitDefEqProofs only [go_sem,h1,ha]
     refine loop_go2 hm (fun (j:Nat) (out:List URow)=> j ≤ rows.length ∧ out.length ≤ 200 ∧ lessU rows v = addPairs v (belowU a v (rows.drop j) ++ pairsU rows (rows.drop (i + 1)) v) out) (fun (j:Nat) (out:List URow)=> ⟨mkS 85 .any [(0,lv (rowsU rows)),(1,iv v),(6,.acc 0),(10,.ptr 1 0),(33,lv (rowsU rows)),(34,iv rows.length),(35,iv i),(39,lv (rowsU rows)),(40,iv rows.length),(41,iv j)],[some (.acc 225 (rowsU out)),some (.box (pvs (cU a)))]⟩) (fun (j:Nat) (out:List URow)=> rows.length - j) (0) (out) ?_ (weakS [some 0,some 1] ?_ ?_ rfl rfl) ?_
     rotate_left
     ·simp -implicitDefEqProofs only [go_sem]
     ·simp -implicitDefEqProofs only [go_sem]
     rotate_left
     ·exact ⟨Nat.zero_le _,ho,hg⟩
     ·rintro j out ⟨hj,ho,hg⟩
      rcases Classical.em (j < rows.length) with h3 | h3
      ·have ub:=hall rows[j] (List.getElem_mem h3)
       rw [belowU_step h3] at hg
       obtain ⟨b,hb⟩:∃ b,rows[j] = b:=⟨_,rfl⟩
       rw [hb] at ub hg
       obtain ⟨lb,eb⟩:=coef_row ub hv
       rcases Classical.em (coefAt a v ≤ 0) with h4 | h4
       ·rw [if_neg (by omega),List.nil_append] at hg
        simp -implicitDefEqProofs only [go_sem,h3,la,ea,h4,hb]
        repeat (with_reducible apply And.intro; case left=>omega)
        refine ⟨j + 1,out,?_,?_,weakS [some 0,some 1] ?_ ?_ rfl rfl⟩
        rotate_left
        ·show _ < _
         omega
        ·simp -implicitDefEqProofs only [go_sem]
        ·simp -implicitDefEqProofs only [go_sem]
        exact ⟨by omega,ho,hg⟩
       rcases Classical.em (0 ≤ coefAt b v) with h5 | h5
       ·rw [if_neg (by omega),List.nil_append] at hg
        simp -implicitDefEqProofs only [go_sem,h3,la,ea,h4,hb,lb,eb,h5]
        repeat (with_reducible apply And.intro; case left=>omega)
        refine ⟨j + 1,out,?_,?_,weakS [some 0,some 1] ?_ ?_ rfl rfl⟩
        rotate_left
        ·show _ < _
         omega
        ·simp -implicitDefEqProofs only [go_sem]
        ·simp -implicitDefEqProofs only [go_sem]
        exact ⟨by omega,ho,hg⟩
       ·rw [if_pos (by omega)] at hg
        simp only [List.cons_append,List.nil_append,addPairs] at hg
        simp -implicitDefEqProofs only [go_sem,h3,la,ea,h4,hb,lb,eb,h5]
        refine atCall [] (c_impl_paired n v a b ua ub hn hv (by omega) (by omega)) ?_ ?_ <;> simp -implicitDefEqProofs only [go_sem]
        cases h6:pairOk a b v
        ·rw [if_neg (by rw [h6]; simp)] at hg
         simp -implicitDefEqProofs only [go_sem]
         refine fin1' ?_
         simp -implicitDefEqProofs only [go_sem]
         rw [hg]
         ((repeat' apply And.intro) <;> rfl)
        ·rcases Classical.em ((out.length:Int) = 200) with h7 | h7
         ·have k7:=eq_true h7
          rw [if_neg (by omega)] at hg
          simp -implicitDefEqProofs only [go_sem,k7]
          refine fin1' ?_
          simp -implicitDefEqProofs only [go_sem]
          rw [hg]
          ((repeat' apply And.intro) <;> rfl)
         ·rw [if_pos ⟨h6,by omega⟩] at hg
          simp -implicitDefEqProofs only [go_sem,h7]
          repeat (with_reducible apply And.intro; case left=>omega)
          refine ⟨j + 1,out ++ [pairU a b v],?_,?_,weakS [some 4,some 1] ?_ ?_ rfl rfl⟩
          rotate_left
          ·show _ < _
           omega
          ·simp -implicitDefEqProofs only [go_sem]
          ·simp -implicitDefEqProofs only [go_sem]
           all_goals ((rw [← rowsU_app,rowsU_cons,rowsU_nil]; rfl))
          exact ⟨by omega,by simp; omega,hg⟩
      ·rw [List.drop_of_length_le (by omega:rows.length ≤ j)] at hg
       simp -implicitDefEqProofs only [go_sem,h3]
       repeat (with_reducible apply And.intro; case left=>omega)
       refine ⟨i + 1,out,?_,?_,weakS [some 0] ?_ ?_ rfl rfl⟩
       rotate_left
       ·show _ < _
        omega
       ·simp -implicitDefEqProofs only [go_sem]
       ·simp -implicitDefEqProofs only [go_sem]
       exact ⟨by omega,ho,by simpa [belowU] using hg⟩
    ·rw [List.drop_of_length_le (by omega)] at hg
     have ho':(out.length:Int) ≤ 200:=by omega
     simp -implicitDefEqProofs only [go_sem,h1,ho']
     refine fin1' ?_
     simp -implicitDefEqProofs only [go_sem]
     rw [hg]
     ((repeat' apply And.intro) <;> rfl)
theorem c_impl_boundBy (v:Nat) (l:Lin) (vals:List Mod.Rat) (hl:linOk l = true) (h4:vals.length = 4) (hv:v < 4):C E.P 218 [av (cLin l),iv v,lv (rowsRat vals)] [] (Eq2 (.tup [av (cRat ((boundBy l v vals).getD rat0)),bv (boundBy l v vals).isSome]) []):=by
 obtain ⟨hn1,hc1,hb1⟩:=linOk_iff.1 hl
 have lv1:v < l.coefs.length:=by omega
 have ev:l.coefs.getD v 0 = l.coefs[v]:=getD_at lv1
 have hLB:=LB_eq
 refine C_goS (nt:=62) (rs:=[.cell 6 57,.tmp 7]) hm Tryz.func218 rfl rfl rfl rfl rfl (fun hl he=>?_)
 simp -implicitDefEqProofs only [go_sem] at hl ⊢
 refine atCall [] (c_impl_whole l.bound) ?_ ?_ <;> simp -implicitDefEqProofs only [go_sem]
 refine loop_go2 hm (fun (i:Nat) (sum:Mod.Rat)=> i ≤ l.coefs.length ∧ restGo v 0 l.coefs vals (whole l.bound) = restGo v i (l.coefs.drop i) (vals.drop i) sum) (fun (i:Nat) (sum:Mod.Rat)=> ⟨mkS 62 .any [(1,iv v),(2,lv (rowsRat vals)),(3,.ptr 0 0),(6,.ptr 1 0),(8,.ptr 2 0),(19,lv (rowsI l.coefs)),(20,iv l.coefs.length),(21,iv i)],[some (.box (pvs (cLin l))),some (.box (pvs (cRat rat0))),some (.box (pvs (cRat sum)))]⟩) (fun (i:Nat) (sum:Mod.Rat)=> l.coefs.length - i) (0) (whole l.bound) ?_ (weakS [some 0,some 1,some 2] ?_ ?_ rfl rfl) ?_
 rotate_left
 ·simp -implicitDefEqProofs only [go_sem]
 ·simp -implicitDefEqProofs only [go_sem]
 rotate_left
 ·simp
 ·rintro i sum ⟨hi,hg⟩
  rcases Classical.em (i < l.coefs.length) with h1 | h1
  ·have h2:i < vals.length:=by omega
   rw [restGo_step h1 h2] at hg
   rcases Classical.em (i = v) with h3 | h3
   ·have k3:((i:Int) = (v:Int)) = True:=eq_true (by omega)
    rw [if_pos h3] at hg
    simp -implicitDefEqProofs only [go_sem,h1,k3]
    repeat (with_reducible apply And.intro; case left=>omega)
    refine ⟨i + 1,sum,?_,?_,weakS [some 0,some 1,some 2] ?_ ?_ rfl rfl⟩
    rotate_left
    ·show _ < _
     omega
    ·simp -implicitDefEqProofs only [go_sem]
    ·simp -implicitDefEqProofs only [go_sem]
    exact ⟨by omega,hg⟩
   ·have k3:¬ (i:Int) = (v:Int):=by omega
    have cb:=hc1 l.coefs[i] (List.getElem_mem h1)
    rw [if_neg h3] at hg
    simp -implicitDefEqProofs only [go_sem,h1,h2,k3]
    repeat (with_reducible apply And.intro; case left=>omega)
    refine atCall [] (c_impl_plus sum (-l.coefs[i]) vals[i]) ?_ ?_ <;> simp -implicitDefEqProofs only [go_sem]
    with_reducible refine ind_andM (by kernel_rfl) ?_
    cases h5:(plus sum (-l.coefs[i]) vals[i]).2
    ·rw [h5] at hg
     simp only [Bool.false_eq_true,if_false] at hg
     have e:boundBy l v vals = none:=by simp [boundBy,hg]
     simp -implicitDefEqProofs only [go_sem]
     refine fin1' ?_
     simp -implicitDefEqProofs only [go_sem]
     all_goals (simp [e]; done)
    ·rw [h5] at hg
     simp only [if_true] at hg
     simp -implicitDefEqProofs only [go_sem]
     repeat (with_reducible apply And.intro; case left=>omega)
     refine ⟨i + 1,(plus sum (-l.coefs[i]) vals[i]).1,?_,?_,weakS [some 0,some 1,some 2] ?_ ?_ rfl rfl⟩
     rotate_left
     ·show _ < _
      omega
     ·simp -implicitDefEqProofs only [go_sem]
     ·simp -implicitDefEqProofs only [go_sem]
     exact ⟨by omega,hg⟩
  ·rw [List.drop_of_length_le (by omega),restGo_nil] at hg
   simp -implicitDefEqProofs only [go_sem,h1,lv1]
   refine atCall [] (c_impl_RatOf 1 l.coefs[v]) ?_ ?_ <;> simp -implicitDefEqProofs only [go_sem]
   cases h5:(ratOf 1 l.coefs[v]).2
   ·have e:boundBy l v vals = none:=by simp [boundBy,hg,h5,lv1]
    simp -implicitDefEqProofs only [go_sem]
    refine fin1' ?_
    simp -implicitDefEqProofs only [go_sem]
    all_goals (simp [e]; done)
   ·have e:boundBy l v vals = optR (ratMul sum (ratOf 1 l.coefs[v]).1):=by simp [boundBy,hg,h5,lv1]
    simp -implicitDefEqProofs only [go_sem]
    refine atCall [] (c_impl_RatMul sum (ratOf 1 l.coefs[v]).1) ?_ ?_ <;> simp -implicitDefEqProofs only [go_sem]
    obtain ⟨o1,o2⟩:=optR_getD (x:=ratMul sum (ratOf 1 l.coefs[v]).1) ratMul_none
    refine fin1' ?_
    simp -implicitDefEqProofs only [go_sem]
    rw [e,o1,o2]
    ((repeat' apply And.intro) <;> rfl)
theorem c_impl_valueOf (n v:Nat) (rows:List URow) (vals:List Mod.Rat) (hr:UsOk n rows) (h4:vals.length = 4) (hv:v < 4):C E.P 163 [lv (rowsU rows),iv v,lv (rowsRat vals)] [] (Eq2 (.tup [av (cRat ((valueOf rows v vals).getD rat0)),bv (valueOf rows v vals).isSome]) []):=by
 obtain ⟨hlen,hall⟩:=hr
 have hLB:=LB_eq
 refine C_goS (nt:=95) (rs:=[.cell 6 57,.tmp 7]) hm Tryz.func163 rfl rfl rfl rfl rfl (fun hl he=>?_)
 simp -implicitDefEqProofs only [go_sem] at hl ⊢
 refine loop_go3 hm (fun (i:Nat) (lo:Option Mod.Rat) (hi:Option Mod.Rat)=> i ≤ rows.length ∧ endsGo v vals rows none none = endsGo v vals (rows.drop i) lo hi) (fun (i:Nat) (lo:Option Mod.Rat) (hi:Option Mod.Rat)=> ⟨mkS 95 .any [(1,iv v),(2,lv (rowsRat vals)),(6,.ptr 0 0),(8,.ptr 1 0),(9,.ptr 2 0),(10,bv lo.isSome),(11,bv hi.isSome),(17,lv (rowsU rows)),(18,iv rows.length),(19,iv i)],[some (.box (pvs (cRat rat0))),some (.box (pvs (cRat (lo.getD rat0)))),some (.box (pvs (cRat (hi.getD rat0))))]⟩) (fun (i:Nat) (lo:Option Mod.Rat) (hi:Option Mod.Rat)=> rows.length - i) (0) (none) (none) ?_ (weakS [some 0,some 1,some 2] ?_ ?_ rfl rfl) ?_
 rotate_left
 ·simp -implicitDefEqProofs only [go_sem]
  all_goals (simp [*]; done)
 ·simp -implicitDefEqProofs only [go_sem]
  all_goals (simp [*]; done)
 rotate_left
 ·simp
 ·rintro i lo hi ⟨hi1,hg⟩
  rcases Classical.em (i < rows.length) with h1 | h1
  ·have ua:=hall rows[i] (List.getElem_mem h1)
   obtain ⟨la,ea⟩:=coef_row ua hv
   rw [endsGo_step h1] at hg
   rcases Classical.em (coefAt rows[i] v = 0) with h2 | h2
   ·have k2:=eq_true h2
    rw [if_pos h2] at hg
    simp -implicitDefEqProofs only [go_sem,h1,la,ea,k2]
    repeat (with_reducible apply And.intro; case left=>omega)
    refine ⟨i + 1,lo,hi,?_,?_,weakS [some 0,some 1,some 2] ?_ ?_ rfl rfl⟩
    rotate_left
    ·show _ < _
     omega
    ·simp -implicitDefEqProofs only [go_sem]
    ·simp -implicitDefEqProofs only [go_sem]
    exact ⟨by omega,hg⟩
   ·rw [if_neg h2] at hg
    simp -implicitDefEqProofs only [go_sem,h1,la,ea,h2]
    refine atCall [] (c_impl_boundBy v rows[i].lin vals ua.lin h4 hv) ?_ ?_ <;> simp -implicitDefEqProofs only [go_sem]
    cases hb:boundBy rows[i].lin v vals with
    | none=>
      rw [hb] at hg
      simp only at hg
      have e:valueOf rows v vals = none:=by simp [valueOf,hg]
      simp -implicitDefEqProofs only [go_sem,Option.isSome_none,Option.getD_none]
      refine fin1' ?_
      simp -implicitDefEqProofs only [go_sem]
      all_goals (simp [e]; done)
    | some b=>
      rw [hb] at hg
      simp only at hg
      rcases Classical.em (0 < coefAt rows[i] v) with h3 | h3
      ·rw [if_pos h3] at hg
       have h3':¬ coefAt rows[i] v < 0:=by omega
       cases hi with
       | none=>
         rw [show lower b none = true from rfl,if_pos rfl] at hg
         simp -implicitDefEqProofs only [go_sem,Option.isSome_some,Option.getD_some,Option.isSome_none,Option.getD_none,h3]
         repeat (with_reducible apply And.intro; case left=>omega)
         refine ⟨i + 1,lo,some b,?_,?_,weakS [some 0,some 1,some 2] ?_ ?_ rfl rfl⟩
         rotate_left
         ·show _ < _
          omega
         ·simp -implicitDefEqProofs only [go_sem]
         ·simp -implicitDefEqProofs only [go_sem]
          all_goals (simp [*]; done)
         exact ⟨by omega,hg⟩
       | some h=>
         rw [show lower b (some h) = ratLess b h from rfl] at hg
         simp -implicitDefEqProofs only [go_sem,Option.isSome_some,Option.getD_some,h3]
         refine atCall [] (c_impl_RatLess b h) ?_ ?_ <;> simp -implicitDefEqProofs only [go_sem]
         cases h5:ratLess b h
         ·rw [h5,if_neg (by simp)] at hg
          simp -implicitDefEqProofs only [go_sem,h3']
          repeat (with_reducible apply And.intro; case left=>omega)
          refine ⟨i + 1,lo,some h,?_,?_,weakS [some 0,some 1,some 2] ?_ ?_ rfl rfl⟩
          rotate_left
          ·show _ < _
           omega
          ·simp -implicitDefEqProofs only [go_sem]
          ·simp -implicitDefEqProofs only [go_sem]
           all_goals (simp [*]; done)
          exact ⟨by omega,hg⟩
         ·rw [h5,if_pos rfl] at hg
          simp -implicitDefEqProofs only [go_sem]
          repeat (with_reducible apply And.intro; case left=>omega)
          refine ⟨i + 1,lo,some b,?_,?_,weakS [some 0,some 1,some 2] ?_ ?_ rfl rfl⟩
          rotate_left
          ·show _ < _
           omega
          ·simp -implicitDefEqProofs only [go_sem]
          ·simp -implicitDefEqProofs only [go_sem]
           all_goals (simp [*]; done)
          exact ⟨by omega,hg⟩
      ·rw [if_neg h3] at hg
       have h3':coefAt rows[i] v < 0:=by omega
       cases lo with
       | none=>
         rw [show upper b none = true from rfl,if_pos rfl] at hg
         simp -implicitDefEqProofs only [go_sem,Option.isSome_some,Option.getD_some,Option.isSome_none,Option.getD_none,h3,h3']
         repeat (with_reducible apply And.intro; case left=>omega)
         refine ⟨i + 1,some b,hi,?_,?_,weakS [some 0,some 1,some 2] ?_ ?_ rfl rfl⟩
         rotate_left
         ·show _ < _
          omega
         ·simp -implicitDefEqProofs only [go_sem]
         ·simp -implicitDefEqProofs only [go_sem]
          all_goals (simp [*]; done)
         exact ⟨by omega,hg⟩
       | some l=>
         rw [show upper b (some l) = ratLess l b from rfl] at hg
         simp -implicitDefEqProofs only [go_sem,Option.isSome_some,Option.getD_some,h3,h3']
         refine atCall [] (c_impl_RatLess l b) ?_ ?_ <;> simp -implicitDefEqProofs only [go_sem]
         cases h5:ratLess l b
         ·rw [h5,if_neg (by simp)] at hg
          simp -implicitDefEqProofs only [go_sem]
          repeat (with_reducible apply And.intro; case left=>omega)
          refine ⟨i + 1,some l,hi,?_,?_,weakS [some 0,some 1,some 2] ?_ ?_ rfl rfl⟩
          rotate_left
          ·show _ < _
           omega
          ·simp -implicitDefEqProofs only [go_sem]
          ·simp -implicitDefEqProofs only [go_sem]
           all_goals (simp [*]; done)
          exact ⟨by omega,hg⟩
         ·rw [h5,if_pos rfl] at hg
          simp -implicitDefEqProofs only [go_sem]
          repeat (with_reducible apply And.intro; case left=>omega)
          refine ⟨i + 1,some b,hi,?_,?_,weakS [some 0,some 1,some 2] ?_ ?_ rfl rfl⟩
          rotate_left
          ·show _ < _
           omega
          ·simp -implicitDefEqProofs only [go_sem]
          ·simp -implicitDefEqProofs only [go_sem]
           all_goals (simp [*]; done)
          exact ⟨by omega,hg⟩
  ·rw [List.drop_of_length_le (by omega),endsGo] at hg
   have e:valueOf rows v vals = optR (chooseE lo hi):=by simp [valueOf,hg]
   obtain ⟨o1,o2⟩:=optR_getD (x:=chooseE lo hi) chooseE_none
   rw [e,o1,o2]
   cases lo with
   | none=>
     cases hi with
     | none=>
       simp -implicitDefEqProofs only [go_sem,Option.isSome_none,Option.getD_none,h1]
       refine atCall [] (c_impl_whole 0) ?_ ?_ <;> simp -implicitDefEqProofs only [go_sem]
       refine fin1' ?_
       simp -implicitDefEqProofs only [go_sem]
       ((repeat' apply And.intro) <;> rfl)
     | some h=>
       simp -implicitDefEqProofs only [go_sem,Option.isSome_none,Option.getD_none,Option.isSome_some,Option.getD_some,h1]
       refine atCall [] (c_impl_whole (-1)) ?_ ?_ <;> simp -implicitDefEqProofs only [go_sem]
       refine atCall [] (c_impl_RatAdd h (whole (-1))) ?_ ?_ <;> simp -implicitDefEqProofs only [go_sem]
       with_reducible refine ind_andM (by kernel_rfl) ?_
       refine fin1' ?_
       simp -implicitDefEqProofs only [go_sem]
       ((repeat' apply And.intro) <;> rfl)
   | some l=>
     cases hi with
     | none=>
       simp -implicitDefEqProofs only [go_sem,Option.isSome_none,Option.getD_none,Option.isSome_some,Option.getD_some,h1]
       refine atCall [] (c_impl_whole 1) ?_ ?_ <;> simp -implicitDefEqProofs only [go_sem]
       refine atCall [] (c_impl_RatAdd l (whole 1)) ?_ ?_ <;> simp -implicitDefEqProofs only [go_sem]
       with_reducible refine ind_andM (by kernel_rfl) ?_
       refine fin1' ?_
       simp -implicitDefEqProofs only [go_sem]
       ((repeat' apply And.intro) <;> rfl)
     | some h=>
       simp -implicitDefEqProofs only [go_sem,Option.isSome_some,Option.getD_some,h1]
       refine atCall [] (c_impl_RatMid l h) ?_ ?_ <;> simp -implicitDefEqProofs only [go_sem]
       refine fin1' ?_
       simp -implicitDefEqProofs only [go_sem]
       ((repeat' apply And.intro) <;> rfl)
structure St4 where
 rows:List URow
 s0:List URow
 s1:List URow
 s2:List URow
 s3:List URow
def Far4 (ls:List Lin) (z:Int) (t:St4):Prop:=
 (z = 3 ∧ t = ⟨usedLins ls,[],[],[],[]⟩) ∨ (z = 2 ∧ ∃ r2,lessU (usedLins ls) 3 = some r2 ∧ t = ⟨r2,[],[],[],usedLins ls⟩) ∨
 (z = 1 ∧ ∃ r2 r1,lessU (usedLins ls) 3 = some r2 ∧ lessU r2 2 = some r1 ∧ t = ⟨r1,[],[],r2,usedLins ls⟩) ∨
 (z = 0 ∧ ∃ r2 r1 r0,lessU (usedLins ls) 3 = some r2 ∧ lessU r2 2 = some r1 ∧ lessU r1 1 = some r0 ∧ t = ⟨r0,[],r1,r2,usedLins ls⟩) ∨
 (z = -1 ∧ ∃ r2 r1 r0 r,lessU (usedLins ls) 3 = some r2 ∧ lessU r2 2 = some r1 ∧ lessU r1 1 = some r0 ∧ lessU r0 0 = some r ∧ t = ⟨r,r0,r1,r2,usedLins ls⟩)
theorem c_impl_FarRun (ls:List Lin):C E.P 91 [lv (rowsLin ls)] [] (Eq2 (.tup [lv (rowsRat (farRun ls).vals),lv (rowsI (farRun ls).times),iv (farRun ls).code]) []):=by
 cases hsys:isSystem ls
 ·have e:farRun ls = ⟨[],[],3⟩:=by simp [farRun,hsys]
  have hLB:=LB_eq
  refine C_goS (nt:=86) (rs:=[.tmp 2,.tmp 3,.tmp 4]) hm Tryz.func91 rfl rfl rfl rfl rfl (fun hl he=>?_)
  simp -implicitDefEqProofs only [go_sem] at hl ⊢
  refine atCall [] (c_impl_isSystem ls) ?_ ?_ <;> simp -implicitDefEqProofs only [go_sem]
  simp -implicitDefEqProofs only [go_sem,hsys]
  refine fin1' ?_
  simp -implicitDefEqProofs only [go_sem]
  rw [e]
  ((repeat' apply And.intro) <;> rfl)
 have h20:ls.length ≤ 20:=by simp only [isSystem,Bool.and_eq_true,decide_eq_true_eq] at hsys; exact hsys.1
 have u3:=usedLins_ok hsys
 have hLB:=LB_eq
 refine C_goW (nt:=86) (rs:=[.tmp 2,.tmp 3,.tmp 4]) Tryz.func91 rfl rfl rfl rfl rfl (fun hl he=>?_)
 simp -implicitDefEqProofs only [go_sem] at hl he ⊢
 refine W_seq (W_of hm ?_)
 simp -implicitDefEqProofs only [go_sem,onQ_on,thenQ_n]
 refine W_seq (W_of hm ?_)
 simp -implicitDefEqProofs only [go_sem]
 refine atCall [] (c_impl_isSystem ls) ?_ ?_ <;> simp -implicitDefEqProofs only [go_sem]
 simp -implicitDefEqProofs only [go_sem,hsys]
 refine W_seq (W_of hm ?_)
 simp -implicitDefEqProofs only [go_sem]
 refine atCall [] (c_impl_usedLins ls (by omega)) ?_ ?_ <;> simp -implicitDefEqProofs only [go_sem]
 refine W_seq (W_of hm ?_)
 simp -implicitDefEqProofs only [go_sem]
 refine W_seq (W_of hm ?_)
 simp -implicitDefEqProofs only [go_sem]
 refine loop_go2 hm (fun (z:Int) (t:St4)=> Far4 ls z t) (fun (z:Int) (t:St4)=> ⟨mkS 86 .any [(0,lv (rowsLin ls)),(5,lv (rowsU t.rows)),(6,.ptr 0 0),(7,iv z)],[some (.box [lv (rowsU t.s0),lv (rowsU t.s1),lv (rowsU t.s2),lv (rowsU t.s3)])]⟩) (fun (z:Int) (t:St4)=> (z + 1).toNat) (3) (⟨usedLins ls,[],[],[],[]⟩) ?_ (weakS [some 0] ?_ ?_ rfl rfl) ?_
 rotate_left
 ·simp -implicitDefEqProofs only [go_sem]
 ·simp -implicitDefEqProofs only [go_sem]
 rotate_left
 ·exact .inl ⟨rfl,rfl⟩
 ·rintro z t hz
  rcases hz with ⟨rfl,rfl⟩ | ⟨rfl,r2,g3,rfl⟩ | ⟨rfl,r2,r1,g3,g2,rfl⟩ | ⟨rfl,r2,r1,r0,g3,g2,g1,rfl⟩ | ⟨rfl,r2,r1,r0,rows,g3,g2,g1,g0,rfl⟩
  ·simp only
   have hu:=u3
   have cl:=c_impl_less ls.length 3 (usedLins ls) hu (by omega) (by omega)
   simp -implicitDefEqProofs only [go_sem,Z3,Z4]
   repeat (with_reducible apply And.intro; case left=>omega)
   refine atCall [] cl ?_ ?_ <;> simp -implicitDefEqProofs only [go_sem]
   cases hl:lessU (usedLins ls) 3 with
   | none=>
     have e:farRun ls = ⟨[],[],2⟩:=by simp [farRun, *]
     simp -implicitDefEqProofs only [go_sem,Option.isSome_none,Option.getD_none]
     refine FinW_of ?_
     refine fin1' ?_
     simp -implicitDefEqProofs only [go_sem]
     rw [e]
     ((repeat' apply And.intro) <;> rfl)
   | some r=>
     simp -implicitDefEqProofs only [go_sem,Option.isSome_some,Option.getD_some]
     repeat (with_reducible apply And.intro; case left=>omega)
     refine ⟨(2:Int),⟨r,[],[],[],usedLins ls⟩,?_,?_,weakS [some 0] ?_ ?_ rfl rfl⟩
     rotate_left
     ·show _ < _
      omega
     ·simp -implicitDefEqProofs only [go_sem]
      all_goals (simp [*]; done)
     ·simp -implicitDefEqProofs only [go_sem]
     exact .inr (.inl ⟨rfl,r,hl,rfl⟩)
  ·simp only
   have hu:=lessU_ok u3 g3
   have cl:=c_impl_less ls.length 2 r2 hu (by omega) (by omega)
   simp -implicitDefEqProofs only [go_sem,Z3,Z4]
   repeat (with_reducible apply And.intro; case left=>omega)
   refine atCall [] cl ?_ ?_ <;> simp -implicitDefEqProofs only [go_sem]
   cases hl:lessU r2 2 with
   | none=>
     have e:farRun ls = ⟨[],[],2⟩:=by simp [farRun, *]
     simp -implicitDefEqProofs only [go_sem,Option.isSome_none,Option.getD_none]
     refine FinW_of ?_
     refine fin1' ?_
     simp -implicitDefEqProofs only [go_sem]
     rw [e]
     ((repeat' apply And.intro) <;> rfl)
   | some r=>
     simp -implicitDefEqProofs only [go_sem,Option.isSome_some,Option.getD_some]
     repeat (with_reducible apply And.intro; case left=>omega)
     refine ⟨(1:Int),⟨r,[],[],r2,usedLins ls⟩,?_,?_,weakS [some 0] ?_ ?_ rfl rfl⟩
     rotate_left
     ·show _ < _
      omega
     ·simp -implicitDefEqProofs only [go_sem]
      all_goals (simp [*]; done)
     ·simp -implicitDefEqProofs only [go_sem]
     exact .inr (.inr (.inl ⟨rfl,r2,r,g3,hl,rfl⟩))
  ·simp only
   have hu:=lessU_ok (lessU_ok u3 g3) g2
   have cl:=c_impl_less ls.length 1 r1 hu (by omega) (by omega)
   simp -implicitDefEqProofs only [go_sem,Z3,Z4]
   repeat (with_reducible apply And.intro; case left=>omega)
   refine atCall [] cl ?_ ?_ <;> simp -implicitDefEqProofs only [go_sem]
   cases hl:lessU r1 1 with
   | none=>
     have e:farRun ls = ⟨[],[],2⟩:=by simp [farRun, *]
     simp -implicitDefEqProofs only [go_sem,Option.isSome_none,Option.getD_none]
     refine FinW_of ?_
     refine fin1' ?_
     simp -implicitDefEqProofs only [go_sem]
     rw [e]
     ((repeat' apply And.intro) <;> rfl)
   | some r=>
     simp -implicitDefEqProofs only [go_sem,Option.isSome_some,Option.getD_some]
     repeat (with_reducible apply And.intro; case left=>omega)
     refine ⟨(0:Int),⟨r,[],r1,r2,usedLins ls⟩,?_,?_,weakS [some 0] ?_ ?_ rfl rfl⟩
     rotate_left
     ·show _ < _
      omega
     ·simp -implicitDefEqProofs only [go_sem]
      all_goals (simp [*]; done)
     ·simp -implicitDefEqProofs only [go_sem]
     exact .inr (.inr (.inr (.inl ⟨rfl,r2,r1,r,g3,g2,hl,rfl⟩)))
  ·simp only
   have hu:=lessU_ok (lessU_ok (lessU_ok u3 g3) g2) g1
   have cl:=c_impl_less ls.length 0 r0 hu (by omega) (by omega)
   simp -implicitDefEqProofs only [go_sem]
   refine atCall [] cl ?_ ?_ <;> simp -implicitDefEqProofs only [go_sem]
   cases hl:lessU r0 0 with
   | none=>
     have e:farRun ls = ⟨[],[],2⟩:=by simp [farRun, *]
     simp -implicitDefEqProofs only [go_sem,Option.isSome_none,Option.getD_none]
     refine FinW_of ?_
     refine fin1' ?_
     simp -implicitDefEqProofs only [go_sem]
     rw [e]
     ((repeat' apply And.intro) <;> rfl)
   | some r=>
     simp -implicitDefEqProofs only [go_sem,Option.isSome_some,Option.getD_some]
     repeat (with_reducible apply And.intro; case left=>omega)
     refine ⟨(-1:Int),⟨r,r0,r1,r2,usedLins ls⟩,?_,?_,weakS [some 0] ?_ ?_ rfl rfl⟩
     rotate_left
     ·show _ < _
      omega
     ·simp -implicitDefEqProofs only [go_sem]
      all_goals (simp [*]; done)
     ·simp -implicitDefEqProofs only [go_sem]
     exact .inr (.inr (.inr (.inr ⟨rfl,r2,r1,r0,r,g3,g2,g1,hl,rfl⟩)))
  ·simp only
   have u2:=lessU_ok u3 g3
   have u1:=lessU_ok u2 g2
   have u0:=lessU_ok u1 g1
   have ur:=lessU_ok u0 g0
   have hrl:=ur.1
   have hF:farRun ls = farEnd ls r0 r1 r2 (usedLins ls) rows:=by simp [farRun,hsys,g3,g2,g1,g0]
   clear g3 g2 g1 g0
   simp -implicitDefEqProofs only [go_sem,Z3]
   refine W_seq (W_of hm ?_)
   simp -implicitDefEqProofs only [go_sem]
   refine loop_go1 hm (fun (i:Nat)=> i ≤ rows.length ∧ (rows.find? fun r=>linBad r.lin) = (rows.drop i).find? fun r=>linBad r.lin) (fun (i:Nat)=> ⟨mkS 86 .any [(0,lv (rowsLin ls)),(6,.ptr 0 0),(37,lv (rowsU rows)),(38,iv rows.length),(39,iv i)],[some (.box [lv (rowsU r0),lv (rowsU r1),lv (rowsU r2),lv (rowsU (usedLins ls))])]⟩) (fun (i:Nat)=> rows.length - i) (0) ?_ (weakS [some 0] ?_ ?_ rfl rfl) ?_
   rotate_left
   ·simp -implicitDefEqProofs only [go_sem]
   ·simp -implicitDefEqProofs only [go_sem]
   rotate_left
   ·simp
   ·rintro i ⟨hi,hfind⟩
    rcases Classical.em (i < rows.length) with h1 | h1
    ·have ua:=ur.2 rows[i] (List.getElem_mem h1)
     rw [List.drop_eq_getElem_cons h1,List.find?_cons] at hfind
     simp -implicitDefEqProofs only [go_sem,h1]
     refine atCall [] (c_impl_LinBad rows[i].lin) ?_ ?_ <;> simp -implicitDefEqProofs only [go_sem]
     cases hb:linBad rows[i].lin
     ·rw [hb] at hfind
      simp -implicitDefEqProofs only [go_sem]
      repeat (with_reducible apply And.intro; case left=>omega)
      refine ⟨i + 1,?_,?_,weakS [some 0] ?_ ?_ rfl rfl⟩
      rotate_left
      ·show _ < _
       omega
      ·simp -implicitDefEqProofs only [go_sem]
      ·simp -implicitDefEqProofs only [go_sem]
      exact ⟨by omega,hfind⟩
     ·rw [hb] at hfind
      simp only at hfind
      have hal:=ua.len
      simp -implicitDefEqProofs only [go_sem]
      refine atCall [] (c_impl_FarOk ls rows[i].uses) ?_ ?_ <;> simp -implicitDefEqProofs only [go_sem]
      cases hf:farOk ls rows[i].uses
      ·have e:farRun ls = ⟨[],[],2⟩:=by rw [hF,farEnd,hfind]; simp [hf]
       simp -implicitDefEqProofs only [go_sem]
       refine FinW_of ?_
       refine fin1' ?_
       simp -implicitDefEqProofs only [go_sem]
       rw [e]
       ((repeat' apply And.intro) <;> rfl)
      ·have e:farRun ls = ⟨[],rows[i].uses,1⟩:=by rw [hF,farEnd,hfind]; simp [hf]
       simp -implicitDefEqProofs only [go_sem]
       refine atCall [] (c_Clone_int rows[i].uses (by omega)) ?_ ?_ <;> simp -implicitDefEqProofs only [go_sem]
       refine FinW_of ?_
       refine fin1' ?_
       simp -implicitDefEqProofs only [go_sem]
       rw [e]
       ((repeat' apply And.intro) <;> rfl)
    ·rw [List.drop_of_length_le (by omega),List.find?_nil] at hfind
     simp -implicitDefEqProofs only [go_sem,h1]
     refine W_seq (W_region ?_)
     refine WO_at rfl ?_
     refine atCall [] (c_impl_whole 0) ?_ ?_ <;> simp -implicitDefEqProofs only [go_sem]
     refine WO_at rfl ?_
     refine atCall [] (c_impl_whole 0) ?_ ?_ <;> simp -implicitDefEqProofs only [go_sem]
     refine WO_at rfl ?_
     refine atCall [] (c_impl_whole 0) ?_ ?_ <;> simp -implicitDefEqProofs only [go_sem]
     refine WO_at rfl ?_
     refine atCall [] (c_impl_whole 0) ?_ ?_ <;> simp -implicitDefEqProofs only [go_sem]
     refine WO_at rfl (atOp_by (st_lit_acc 67 57 4 1 _ _ _ (rowsRat zeros4) rfl rfl rfl rfl rfl (by simp -implicitDefEqProofs only [go_sem]; rfl) (by decide) (by decide) rfl) ?_)
     simp -implicitDefEqProofs only [go_sem]
     refine WO_at rfl (stepS_at ?_)
     simp -implicitDefEqProofs only [go_sem]
     refine WO_nil ?_
     simp -implicitDefEqProofs only [go_sem]
     refine W_seq (W_of hm ?_)
     simp -implicitDefEqProofs only [go_sem]
     refine loop_go2 hm (fun (z:Int) (vals:List Mod.Rat)=> vals.length = 4 ∧ ((z = 0 ∧ backGo [r0,r1,r2,usedLins ls] 0 zeros4 = backGo [r0,r1,r2,usedLins ls] 0 vals) ∨ (z = 1 ∧ backGo [r0,r1,r2,usedLins ls] 0 zeros4 = backGo [r1,r2,usedLins ls] 1 vals) ∨ (z = 2 ∧ backGo [r0,r1,r2,usedLins ls] 0 zeros4 = backGo [r2,usedLins ls] 2 vals) ∨ (z = 3 ∧ backGo [r0,r1,r2,usedLins ls] 0 zeros4 = backGo [usedLins ls] 3 vals) ∨ (z = 4 ∧ backGo [r0,r1,r2,usedLins ls] 0 zeros4 = some vals))) (fun (z:Int) (vals:List Mod.Rat)=> ⟨mkS 86 .any [(0,lv (rowsLin ls)),(6,.ptr 0 0),(12,.acc 1),(61,iv 4),(62,iv z)],[some (.box [lv (rowsU r0),lv (rowsU r1),lv (rowsU r2),lv (rowsU (usedLins ls))]),some (.acc 57 (rowsRat vals))]⟩) (fun (z:Int) (vals:List Mod.Rat)=> (4 - z).toNat) (0) (zeros4) ?_ (weakS [some 0,some 1] ?_ ?_ rfl rfl) ?_
     rotate_left
     ·simp -implicitDefEqProofs only [go_sem]
      all_goals (rfl)
     ·simp -implicitDefEqProofs only [go_sem]
     rotate_left
     ·exact ⟨rfl,.inl ⟨rfl,rfl⟩⟩
     ·rintro z vals ⟨hv4,hg⟩
      have hLv:(rowsRat vals).length = 4:=by rw [rowsRat_len]; exact hv4
      rcases hg with ⟨rfl,hg⟩ | ⟨rfl,hg⟩ | ⟨rfl,hg⟩ | ⟨rfl,hg⟩ | ⟨rfl,hg⟩
      ·have cv:=c_impl_valueOf ls.length 0 r0 vals (by assumption) hv4 (by omega)
       simp -implicitDefEqProofs only [go_sem,Z2]
       refine atLook [] [1] cv rfl ?_ ?_ ?_
       ·(simp -implicitDefEqProofs only [go_sem]; repeat' (first | exact Vws.nil | apply Vws.cons | exact Vw.same (by first | rfl | simp -implicitDefEqProofs only [go_sem,Z1,Z2,Z3,Z4]) | exact Vw.acc rfl rfl | exact Vw.tre rfl rfl (by simp -implicitDefEqProofs only [go_sem,Z1,Z2,Z3,Z4]) | exact Vw.nil | apply Vw.agg | apply Vw.fn | refine Vw.box rfl rfl ?_))
       all_goals simp -implicitDefEqProofs only [go_sem]
       cases hx:valueOf r0 0 vals with
       | none=>
         rw [backGo_none (st:=[r1,r2,usedLins ls]) hx] at hg
         have e:farRun ls = ⟨[],[],2⟩:=by rw [hF,farEnd,hfind]; simp only [hg]
         simp -implicitDefEqProofs only [go_sem,Option.isSome_none,Option.getD_none]
         refine FinW_of ?_
         refine fin1' ?_
         simp -implicitDefEqProofs only [go_sem]
         rw [e]
         ((repeat' apply And.intro) <;> rfl)
       | some x=>
         rw [backGo_some (st:=[r1,r2,usedLins ls]) hx] at hg
         simp -implicitDefEqProofs only [go_sem,Option.isSome_some,Option.getD_some]
         repeat (with_reducible apply And.intro; case left=>omega)
         refine ⟨(1:Int),vals.set 0 x,?_,?_,weakS [some 0,some 1] ?_ ?_ rfl rfl⟩
         rotate_left
         ·show _ < _
          omega
         ·simp -implicitDefEqProofs only [go_sem]
          all_goals (simp [*]; done)
         ·simp -implicitDefEqProofs only [go_sem]
          all_goals (exact rowsRat_put (by omega))
         exact ⟨by simpa using hv4,.inr (.inl ⟨rfl,hg⟩)⟩
      ·have cv:=c_impl_valueOf ls.length 1 r1 vals (by assumption) hv4 (by omega)
       simp -implicitDefEqProofs only [go_sem,Z2,Z3,Z4]
       repeat (with_reducible apply And.intro; case left=>omega)
       refine atLook [] [1] cv rfl ?_ ?_ ?_
       ·(simp -implicitDefEqProofs only [go_sem]; repeat' (first | exact Vws.nil | apply Vws.cons | exact Vw.same (by first | rfl | simp -implicitDefEqProofs only [go_sem,Z1,Z2,Z3,Z4]) | exact Vw.acc rfl rfl | exact Vw.tre rfl rfl (by simp -implicitDefEqProofs only [go_sem,Z1,Z2,Z3,Z4]) | exact Vw.nil | apply Vw.agg | apply Vw.fn | refine Vw.box rfl rfl ?_))
       all_goals simp -implicitDefEqProofs only [go_sem]
       cases hx:valueOf r1 1 vals with
       | none=>
         rw [backGo_none (st:=[r2,usedLins ls]) hx] at hg
         have e:farRun ls = ⟨[],[],2⟩:=by rw [hF,farEnd,hfind]; simp only [hg]
         simp -implicitDefEqProofs only [go_sem,Option.isSome_none,Option.getD_none]
         refine FinW_of ?_
         refine fin1' ?_
         simp -implicitDefEqProofs only [go_sem]
         rw [e]
         ((repeat' apply And.intro) <;> rfl)
       | some x=>
         rw [backGo_some (st:=[r2,usedLins ls]) hx] at hg
         simp -implicitDefEqProofs only [go_sem,Z3,Z4,Option.isSome_some,Option.getD_some]
         repeat (with_reducible apply And.intro; case left=>omega)
         refine ⟨(2:Int),vals.set 1 x,?_,?_,weakS [some 0,some 1] ?_ ?_ rfl rfl⟩
         rotate_left
         ·show _ < _
          omega
         ·simp -implicitDefEqProofs only [go_sem]
          all_goals (simp [*]; done)
         ·simp -implicitDefEqProofs only [go_sem]
          all_goals (exact rowsRat_put (by omega))
         exact ⟨by simpa using hv4,.inr (.inr (.inl ⟨rfl,hg⟩))⟩
      ·have cv:=c_impl_valueOf ls.length 2 r2 vals (by assumption) hv4 (by omega)
       simp -implicitDefEqProofs only [go_sem,Z2,Z3,Z4]
       repeat (with_reducible apply And.intro; case left=>omega)
       refine atLook [] [1] cv rfl ?_ ?_ ?_
       ·(simp -implicitDefEqProofs only [go_sem]; repeat' (first | exact Vws.nil | apply Vws.cons | exact Vw.same (by first | rfl | simp -implicitDefEqProofs only [go_sem,Z1,Z2,Z3,Z4]) | exact Vw.acc rfl rfl | exact Vw.tre rfl rfl (by simp -implicitDefEqProofs only [go_sem,Z1,Z2,Z3,Z4]) | exact Vw.nil | apply Vw.agg | apply Vw.fn | refine Vw.box rfl rfl ?_))
       all_goals simp -implicitDefEqProofs only [go_sem]
       cases hx:valueOf r2 2 vals with
       | none=>
         rw [backGo_none (st:=[usedLins ls]) hx] at hg
         have e:farRun ls = ⟨[],[],2⟩:=by rw [hF,farEnd,hfind]; simp only [hg]
         simp -implicitDefEqProofs only [go_sem,Option.isSome_none,Option.getD_none]
         refine FinW_of ?_
         refine fin1' ?_
         simp -implicitDefEqProofs only [go_sem]
         rw [e]
         ((repeat' apply And.intro) <;> rfl)
       | some x=>
         rw [backGo_some (st:=[usedLins ls]) hx] at hg
         simp -implicitDefEqProofs only [go_sem,Z3,Z4,Option.isSome_some,Option.getD_some]
         repeat (with_reducible apply And.intro; case left=>omega)
         refine ⟨(3:Int),vals.set 2 x,?_,?_,weakS [some 0,some 1] ?_ ?_ rfl rfl⟩
         rotate_left
         ·show _ < _
          omega
         ·simp -implicitDefEqProofs only [go_sem]
          all_goals (simp [*]; done)
         ·simp -implicitDefEqProofs only [go_sem]
          all_goals (exact rowsRat_put (by omega))
         exact ⟨by simpa using hv4,.inr (.inr (.inr (.inl ⟨rfl,hg⟩)))⟩
      ·have cv:=c_impl_valueOf ls.length 3 (usedLins ls) vals (by assumption) hv4 (by omega)
       simp -implicitDefEqProofs only [go_sem,Z2,Z3,Z4]
       repeat (with_reducible apply And.intro; case left=>omega)
       refine atLook [] [1] cv rfl ?_ ?_ ?_
       ·(simp -implicitDefEqProofs only [go_sem]; repeat' (first | exact Vws.nil | apply Vws.cons | exact Vw.same (by first | rfl | simp -implicitDefEqProofs only [go_sem,Z1,Z2,Z3,Z4]) | exact Vw.acc rfl rfl | exact Vw.tre rfl rfl (by simp -implicitDefEqProofs only [go_sem,Z1,Z2,Z3,Z4]) | exact Vw.nil | apply Vw.agg | apply Vw.fn | refine Vw.box rfl rfl ?_))
       all_goals simp -implicitDefEqProofs only [go_sem]
       cases hx:valueOf (usedLins ls) 3 vals with
       | none=>
         rw [backGo_none (st:=[]) hx] at hg
         have e:farRun ls = ⟨[],[],2⟩:=by rw [hF,farEnd,hfind]; simp only [hg]
         simp -implicitDefEqProofs only [go_sem,Option.isSome_none,Option.getD_none]
         refine FinW_of ?_
         refine fin1' ?_
         simp -implicitDefEqProofs only [go_sem]
         rw [e]
         ((repeat' apply And.intro) <;> rfl)
       | some x=>
         rw [backGo_some (st:=[]) hx] at hg
         simp -implicitDefEqProofs only [go_sem,Z3,Z4,Option.isSome_some,Option.getD_some]
         repeat (with_reducible apply And.intro; case left=>omega)
         refine ⟨(4:Int),vals.set 3 x,?_,?_,weakS [some 0,some 1] ?_ ?_ rfl rfl⟩
         rotate_left
         ·show _ < _
          omega
         ·simp -implicitDefEqProofs only [go_sem]
          all_goals (simp [*]; done)
         ·simp -implicitDefEqProofs only [go_sem]
          all_goals (exact rowsRat_put (by omega))
         exact ⟨by simpa using hv4,.inr (.inr (.inr (.inr ⟨rfl,hg⟩)))⟩
      ·simp -implicitDefEqProofs only [go_sem,Z2]
       refine W_seq (W_of hm ?_)
       simp -implicitDefEqProofs only [go_sem]
       refine atLook [] [1] (c_impl_FarAll ls vals) rfl ?_ ?_ ?_
       ·(simp -implicitDefEqProofs only [go_sem]; repeat' (first | exact Vws.nil | apply Vws.cons | exact Vw.same (by first | rfl | simp -implicitDefEqProofs only [go_sem,Z1,Z2,Z3,Z4]) | exact Vw.acc rfl rfl | exact Vw.tre rfl rfl (by simp -implicitDefEqProofs only [go_sem,Z1,Z2,Z3,Z4]) | exact Vw.nil | apply Vw.agg | apply Vw.fn | refine Vw.box rfl rfl ?_))
       all_goals simp -implicitDefEqProofs only [go_sem]
       cases hf:farAll ls vals
       ·have e:farRun ls = ⟨[],[],2⟩:=by rw [hF,farEnd,hfind]; simp [hg,hf]
        simp -implicitDefEqProofs only [go_sem]
        refine FinW_of ?_
        refine fin1' ?_
        simp -implicitDefEqProofs only [go_sem]
        rw [e]
        ((repeat' apply And.intro) <;> rfl)
       ·have e:farRun ls = ⟨vals,[],0⟩:=by rw [hF,farEnd,hfind]; simp [hg,hf]
        simp -implicitDefEqProofs only [go_sem]
        refine W_of hm ?_
        simp -implicitDefEqProofs only [go_sem]
        refine FinW_of ?_
        refine fin1' ?_
        simp -implicitDefEqProofs only [go_sem]
        rw [e]
        ((repeat' apply And.intro) <;> rfl)
end Go.Proofs.YtpidddienjoleaaGreat
