/-
  The reference: the walks of lemmas. A step towards the exact laws. The reference: the walks of clause form, logs and papers. A step towards the exact laws.
-/
import Derived.Test.YtkkbmikoifnnbaaGreatKAj
import Derived.Test.YtkkbmikoifnnbaaGreatKAP
import Derived.Test.YtkkbmikoifnnbaaGreatKAI
import Derived.Test.YtkkbmikoifnnbaaGreatKAE
import Derived.Test.YtkkbmikoifnnbaaGreatKAD
import Derived.Test.YtkkbmikoifnnbaaGreatKAEa
set_option linter.unusedVariables false
set_option linter.unusedSimpArgs false
namespace Go.Proofs.YtkkbmikoifnnbaaGreat
open Go.Eng Go.Mod
open Int renaming reduceEq → Z1,reduceLT → Z2,reduceLE → Z3,reduceToNat → Z4
set_option maxRecDepth 100000
set_option maxHeartbeats 400000
def abs60 (n:Int):Int:=if n < -60 then 61 else if 60 < n then 61 else if n < 0 then -n else n
theorem abs60_le {n:Int} {many:Nat} (h:many ≤ 60):abs60 n ≤ many ↔ -(many:Int) ≤ n ∧ n ≤ many:=by
 unfold abs60; split
 ·omega
 ·split
  ·omega
  ·split <;> omega
theorem abs60_nat {n:Int} (h:-60 ≤ n ∧ n ≤ 60):abs60 n = (n.natAbs:Int):=by
 unfold abs60
 rw [if_neg (by omega),if_neg (by omega)]
 split <;> omega
theorem c_spec_l10Abs (n:Int):C E.P 84 [iv n] [] (Eq2 (iv (abs60 n)) []):=by
 have hLB:=LB_eq
 refine C_goS (nt:=14) (rs:=[.tmp 2]) hm Tryz.func84 rfl rfl rfl rfl rfl (fun hl he=>?_)
 simp -implicitDefEqProofs only [go_sem,Z1,Z2,Z3,Z4] at hl ⊢
 rcases Classical.em (n < -60) with h1 | h1
 ·try simp -implicitDefEqProofs only [go_sem,Z1,Z2,Z3,Z4,h1]
  try (with_reducible refine ind_andM (by kernel_rfl) ?_)
  refine fin1' ?_
  simp -implicitDefEqProofs only [go_sem,Z1,Z2,Z3,Z4]
  all_goals (first | done | (simp [abs60,h1]; done) | (simp [abs60,h1]; omega) | skip)
 ·rcases Classical.em (60 < n) with h2 | h2
  ·try simp -implicitDefEqProofs only [go_sem,Z1,Z2,Z3,Z4,h1,h2]
   try (with_reducible refine ind_andM (by kernel_rfl) ?_)
   refine fin1' ?_
   simp -implicitDefEqProofs only [go_sem,Z1,Z2,Z3,Z4]
   all_goals (first | done | (simp [abs60,h1,h2]; done) | (simp [abs60,h1,h2]; omega) | skip)
  ·rcases Classical.em (n < 0) with h3 | h3
   ·try simp -implicitDefEqProofs only [go_sem,Z1,Z2,Z3,Z4,h1,h2,h3]
    try (with_reducible refine ind_andM (by kernel_rfl) ?_)
    repeat (first | with_reducible refine ind_andM (by kernel_rfl) ?_ | (with_reducible apply And.intro; case left=>first | omega | assumption | exact ⟨rowsT_all _,by omega⟩ | exact ⟨rowsI_all _,by omega⟩ | exact ⟨rowsLit_all _,by omega⟩ | exact ⟨rowsLin_all _,by omega⟩ | exact ⟨rowsEq_all _,by omega⟩ | rfl | (simp [*]; done) | (simp; omega) | exact ⟨rowsRat_all _,by omega⟩ | exact ⟨rowsAtom_all _,by omega⟩ | exact ⟨rowsB_all _,by omega⟩ | exact ⟨rowsForm_all _,by omega⟩ | exact ⟨rowsII_all _,by omega⟩))
    refine fin1' ?_
    simp -implicitDefEqProofs only [go_sem,Z1,Z2,Z3,Z4]
    all_goals (first | done | (simp [abs60,h1,h2,h3]; done) | (simp [abs60,h1,h2,h3]; omega) | skip)
   ·try simp -implicitDefEqProofs only [go_sem,Z1,Z2,Z3,Z4,h1,h2,h3]
    try (with_reducible refine ind_andM (by kernel_rfl) ?_)
    refine fin1' ?_
    simp -implicitDefEqProofs only [go_sem,Z1,Z2,Z3,Z4]
    all_goals (first | done | (simp [abs60,h1,h2,h3]; done) | (simp [abs60,h1,h2,h3]; omega) | skip)
end Go.Proofs.YtkkbmikoifnnbaaGreat
namespace Go.Proofs.YtkkbmikoifnnbaaGreat
open Go.Eng Go.Mod
open Int renaming reduceEq → Z1,reduceLT → Z2,reduceLE → Z3,reduceToNat → Z4
set_option maxRecDepth 100000
set_option maxHeartbeats 400000
theorem c_spec_l10Put (l:List Int) (n:Int) (hb9:∀ x ∈ l,x.natAbs ≤ 60) (hn:n.natAbs ≤ 60) (hlen:l.length ≤ 1000):C E.P 85 [lv (rowsI l),iv n] [] (Eq2 (.tup [lv (rowsI ((put1 l n).getD l)),bv (put1 l n).isSome]) []):=by
 have qn:=abs60_nat (n:=n) (by omega)
 have hc2:=c_spec_l10Abs n
 rw [qn] at hc2
 have hLB:=LB_eq
 refine C_goS (nt:=60) (rs:=[.tmp 4,.tmp 5]) hm Tryz.func85 rfl rfl rfl rfl rfl (fun hl he=>?_)
 simp -implicitDefEqProofs only [go_sem] at hl ⊢
 refine loop_go1 hm (fun (k:Nat)=> k ≤ l.length ∧ put1 l n = (put1 (l.drop k) n).map (l.take k ++ ·)) (fun (k:Nat)=> ⟨mkS 60 .any [(0,lv (rowsI l)),(1,iv n),(6,iv k)],[]⟩) (fun (k:Nat)=> l.length - k) (0) ?_ (weakS [] ?_ ?_ rfl rfl) ?_
 rotate_left
 ·simp -implicitDefEqProofs only [go_sem]
 ·simp -implicitDefEqProofs only [go_sem]
 rotate_left
 ·simp
 ·rintro k ⟨hk,hg⟩
  rcases Classical.em (k < l.length) with h1 | h1
  ·have hb:=hb9 l[k] (List.getElem_mem h1)
   have qk:=abs60_nat (n:=l[k]) (by omega)
   have hc1:=c_spec_l10Abs l[k]
   rw [qk] at hc1
   rw [put1_drop h1] at hg
   simp -implicitDefEqProofs only [go_sem,h1]
   refine atCall [] hc1 ?_ ?_ <;> simp -implicitDefEqProofs only [go_sem]
   refine atCall [] hc2 ?_ ?_ <;> simp -implicitDefEqProofs only [go_sem]
   rcases Classical.em (l[k].natAbs < n.natAbs) with h2 | h2
   ·rw [if_pos (by omega)] at hg
    simp -implicitDefEqProofs only [go_sem,h2]
    repeat (with_reducible apply And.intro; case left=>omega)
    refine ⟨k + 1,?_,?_,weakS [] ?_ ?_ rfl rfl⟩
    rotate_left
    ·show _ < _
     omega
    ·simp -implicitDefEqProofs only [go_sem]
    ·simp -implicitDefEqProofs only [go_sem]
    refine ⟨by omega,?_⟩
    rw [hg,take_snoc h1]
    cases put1 (l.drop (k + 1)) n <;> simp only [Option.map_none,Option.map_some,List.append_assoc,List.singleton_append]
   ·rw [if_neg (by omega)] at hg
    simp -implicitDefEqProofs only [go_sem,h2,h1]
    refine atCall [] hc1 ?_ ?_ <;> simp -implicitDefEqProofs only [go_sem]
    refine atCall [] hc2 ?_ ?_ <;> simp -implicitDefEqProofs only [go_sem]
    rcases Classical.em (l[k].natAbs = n.natAbs) with h3 | h3
    ·have k3:=eq_true h3
     rw [if_pos (by omega)] at hg
     rcases Classical.em (l[k] = n) with h4 | h4
     ·have k4:=eq_true h4
      rw [if_pos h4] at hg
      have e:put1 l n = some l:=by rw [hg]; simp
      simp -implicitDefEqProofs only [go_sem,k3,h1,k4]
      with_reducible refine ind_andM (by kernel_rfl) ?_
      refine fin1' ?_
      simp -implicitDefEqProofs only [go_sem]
      rw [e]
      exact ⟨rfl,rfl⟩
     ·rw [if_neg h4] at hg
      have e:put1 l n = none:=by rw [hg]; rfl
      simp -implicitDefEqProofs only [go_sem,k3,h1,h4]
      with_reducible refine ind_andM (by kernel_rfl) ?_
      refine fin1' ?_
      simp -implicitDefEqProofs only [go_sem]
      rw [e]
      exact ⟨rfl,rfl⟩
    ·rw [if_neg (by omega)] at hg
     have e:put1 l n = some (l.take k ++ n :: l.drop k):=by rw [hg]; rfl
     simp -implicitDefEqProofs only [go_sem,h3]
     simp only [Nat.sub_zero,List.drop_zero,rowsI_drop,rowsI_take,rowsI_len,List.length_append,List.length_take,List.length_drop,List.length_singleton]
     refine ⟨⟨by omega,rowsI_all _⟩,⟨rowsI_all _,by omega,by omega⟩,⟨by omega,rowsI_all _⟩,⟨rowsI_all _,by omega,by omega⟩,⟨by omega,by omega⟩,⟨⟨_,rfl,rfl⟩,by omega,by omega⟩,?_⟩
     refine fin1' ?_
     simp -implicitDefEqProofs only [go_sem]
     have ed:(l.drop k).take (l.length - k) = l.drop k:=List.take_of_length_le (by rw [List.length_drop]; omega)
     rw [e,ed]
     refine ⟨?_,rfl⟩
     rw [Option.getD_some,List.append_assoc,← rowsI_app,rowsI_cons]
     rfl
  ·rw [put1_end (by omega)] at hg
   have et:l.take k = l:=List.take_of_length_le (by omega)
   have e:put1 l n = some (l ++ [n]):=by rw [hg,et]; rfl
   simp -implicitDefEqProofs only [go_sem,h1]
   simp only [Nat.sub_zero,List.drop_zero,rowsI_drop,rowsI_take,rowsI_len,List.length_append,List.length_take,List.length_drop,List.length_singleton]
   refine ⟨⟨by omega,rowsI_all _⟩,⟨rowsI_all _,by omega,by omega⟩,⟨by omega,rowsI_all _⟩,⟨rowsI_all _,by omega,by omega⟩,⟨by omega,by omega⟩,⟨⟨_,rfl,rfl⟩,by omega,by omega⟩,?_⟩
   refine fin1' ?_
   simp -implicitDefEqProofs only [go_sem]
   have ed:(l.drop k).take (l.length - k) = []:=by rw [List.drop_of_length_le (by omega),List.take_nil]
   rw [e,ed,et]
   refine ⟨?_,rfl⟩
   rw [Option.getD_some,← rowsI_app,rowsI_nil,List.append_nil]
   rfl
theorem c_spec_ClauseOf (l:List Int) (hlen:l.length ≤ 100):C E.P 59 [lv (rowsI l)] [] (Eq2 (.tup [lv (rowsI ((clauseOf l).getD [])),bv (clauseOf l).isSome]) []):=by
 have hLB:=LB_eq
 refine C_goS (nt:=50) (rs:=[.tmp 2,.tmp 3]) hm Tryz.func59 rfl rfl rfl rfl rfl (fun hl he=>?_)
 simp -implicitDefEqProofs only [go_sem] at hl ⊢
 refine loop_go1 hm (fun (i:Nat)=> i ≤ l.length ∧ (l.all fun x=>isMark x 60) = ((l.drop i).all fun x=>isMark x 60)) (fun (i:Nat)=> ⟨mkS 50 .any [(0,lv (rowsI l)),(4,lv (rowsI [])),(5,iv i)],[]⟩) (fun (i:Nat)=> l.length - i) (0) ?_ (weakS [] ?_ ?_ rfl rfl) ?_
 rotate_left
 ·simp -implicitDefEqProofs only [go_sem]
 ·simp -implicitDefEqProofs only [go_sem]
 rotate_left
 ·simp
 ·rintro i ⟨hi,hg⟩
  rcases Classical.em (i < l.length) with h1 | h1
  ·rw [List.drop_eq_getElem_cons h1,List.all_cons] at hg
   rcases Classical.em (l[i] = 0) with h2 | h2
   ·have k2:=eq_true h2
    have e2:isMark l[i] 60 = false:=by simp [isMark,h2]
    rw [e2,Bool.false_and] at hg
    simp -implicitDefEqProofs only [go_sem,h1,k2]
    refine fin1' ?_
    simp -implicitDefEqProofs only [go_sem]
    all_goals (simp [clauseOf_bad hg]; done)
   ·simp -implicitDefEqProofs only [go_sem,h1,h2]
    refine atCall [] (c_spec_l10Abs l[i]) ?_ ?_ <;> simp -implicitDefEqProofs only [go_sem]
    rcases Classical.em ((60:Int) < abs60 l[i]) with h3 | h3
    ·have e2:isMark l[i] 60 = false:=by
      cases hh:isMark l[i] 60
      ·rfl
      ·have:=(abs60_le (n:=l[i]) (many:=60) (by omega)).2 (isMark_iff.1 hh).2
       omega
     rw [e2,Bool.false_and] at hg
     simp -implicitDefEqProofs only [go_sem,h3]
     refine fin1' ?_
     simp -implicitDefEqProofs only [go_sem]
     all_goals (simp [clauseOf_bad hg]; done)
    ·have hb:=(abs60_le (n:=l[i]) (many:=60) (by omega)).1 (by omega)
     have e2:isMark l[i] 60 = true:=isMark_iff.2 ⟨h2,hb⟩
     rw [e2,Bool.true_and] at hg
     simp -implicitDefEqProofs only [go_sem,h3]
     repeat (with_reducible apply And.intro; case left=>omega)
     refine ⟨i + 1,?_,?_,weakS [] ?_ ?_ rfl rfl⟩
     rotate_left
     ·show _ < _
      omega
     ·simp -implicitDefEqProofs only [go_sem]
     ·simp -implicitDefEqProofs only [go_sem]
     exact ⟨by omega,hg⟩
  ·rw [List.drop_of_length_le (by omega),List.all_nil] at hg
   have h60:=isMark60 hg
   have e:=clauseOf_good hg
   simp -implicitDefEqProofs only [go_sem,h1]
   refine loop_go2 hm (fun (j:Nat) (out:List Int)=> j ≤ l.length ∧ putAll [] l = putAll out (l.drop j) ∧ out.length ≤ j ∧ (∀ x ∈ out,x.natAbs ≤ 60)) (fun (j:Nat) (out:List Int)=> ⟨mkS 50 .any [(0,lv (rowsI l)),(4,lv (rowsI out)),(6,iv j)],[]⟩) (fun (j:Nat) (out:List Int)=> l.length - j) (0) ([]) ?_ (weakS [] ?_ ?_ rfl rfl) ?_
   rotate_left
   ·simp -implicitDefEqProofs only [go_sem]
   ·simp -implicitDefEqProofs only [go_sem]
   rotate_left
   ·simp
   ·rintro j out ⟨hj,hp,ho,hx⟩
    rcases Classical.em (j < l.length) with h2 | h2
    ·rw [putAll_drop h2] at hp
     have hb:=h60 l[j] (List.getElem_mem h2)
     simp -implicitDefEqProofs only [go_sem,h2]
     refine atCall [] (c_spec_l10Put out l[j] hx hb.2 (by omega)) ?_ ?_ <;> simp -implicitDefEqProofs only [go_sem]
     cases h3:put1 out l[j] with
     | none=>
       rw [h3] at hp
       rw [hp] at e
       simp -implicitDefEqProofs only [go_sem,Option.isSome_none,Option.getD_none]
       refine fin1' ?_
       simp -implicitDefEqProofs only [go_sem]
       all_goals (simp [e]; done)
     | some o=>
       rw [h3] at hp
       obtain ⟨s1,s2⟩:=put1_sub h3
       simp -implicitDefEqProofs only [go_sem,Option.isSome_some,Option.getD_some]
       repeat (with_reducible apply And.intro; case left=>omega)
       refine ⟨j + 1,o,?_,?_,weakS [] ?_ ?_ rfl rfl⟩
       rotate_left
       ·show _ < _
        omega
       ·simp -implicitDefEqProofs only [go_sem]
       ·simp -implicitDefEqProofs only [go_sem]
       refine ⟨by omega,hp,by omega,fun x hxo=>?_⟩
       rcases s2 x hxo with e3 | e3
       ·rw [e3]; exact hb.2
       ·exact hx x e3
    ·rw [List.drop_of_length_le (by omega),putAll] at hp
     rw [hp] at e
     simp -implicitDefEqProofs only [go_sem,h2]
     refine fin1' ?_
     simp -implicitDefEqProofs only [go_sem]
     all_goals (simp [e]; done)
end Go.Proofs.YtkkbmikoifnnbaaGreat
