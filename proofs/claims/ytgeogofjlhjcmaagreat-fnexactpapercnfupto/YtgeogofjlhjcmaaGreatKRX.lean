/-
  Arguments copied: the walks. A step towards the exact laws. Arguments compared with themselves: the walks. A step towards the exact laws.
-/
import Derived.Test.YtgeogofjlhjcmaaGreatKRW
set_option linter.unusedVariables false
set_option linter.unusedSimpArgs false
namespace Go.Proofs.YtgeogofjlhjcmaaGreat
open Go.Eng Go.Mod
open Int renaming reduceEq → Z1,reduceLT → Z2,reduceLE → Z3,reduceToNat → Z4
set_option maxRecDepth 100000
def part (xs:List (List D)) (z:List D) (i:Nat):List (List D):=xs.take i ++ List.replicate (xs.length - i) z
theorem part_len (xs:List (List D)) (z:List D) (i:Nat) (h:i ≤ xs.length):(part xs z i).length = xs.length:=by simp [part]; omega
theorem part_zero (xs:List (List D)) (z:List D):part xs z 0 = List.replicate xs.length z:=by simp [part]
theorem part_all (xs:List (List D)) (z:List D) (i:Nat) (h:xs.length ≤ i):part xs z i = xs:=by
 have:xs.length - i = 0:=by omega
 simp [part,this,List.take_of_length_le h]
theorem part_row (xs:List (List D)) (z:List D) (i:Nat) (h:i < xs.length):row (part xs z i) i = z:=by
 have e:(xs.take i).length = i:=by simp; omega
 simp only [row,part,List.getD]
 rw [List.getElem?_append_right (by omega),e,Nat.sub_self,List.getElem?_replicate,if_pos (by omega)]
 rfl
theorem spl_whole (z c:List D) (h:c.length = z.length):spl z 0 c = c:=by
 simp [spl,List.drop_of_length_le (by omega:z.length ≤ c.length)]
theorem part_set (xs:List (List D)) (z c:List D) (i:Nat) (h:i < xs.length) (hc:row xs i = c) (hl:c.length = z.length):(part xs z i).set i (spl (row (part xs z i) i) 0 c) = part xs z (i + 1):=by
 rw [part_row xs z i h,spl_whole z c hl]
 have e:(xs.take i).length = i:=by simp; omega
 have hx:xs[i]? = some c:=by
  rw [← hc]
  simp [row,List.getD,List.getElem?_eq_getElem h]
 simp only [part]
 rw [List.set_append_right _ _ (by omega),e,Nat.sub_self]
 have h1:xs.length - i = (xs.length - (i + 1)) + 1:=by omega
 rw [h1,List.replicate_succ,List.set_cons_zero,List.take_add_one,hx]
 simp
theorem c_laws_toIntS (ts:List Int) :
 C E.P 99 [lv (rowsI ts)] [] (Eq2 (lv (rowsI ts)) []):=by
 have hLB:=LB_eq
 refine C_goS (nt:=22) (rs:=[.tmp 2]) hm Tryz.func99 rfl rfl rfl rfl rfl (fun hl he=>?_)
 simp -implicitDefEqProofs only [go_sem] at hl ⊢
 repeat (with_reducible apply And.intro; case left=>omega)
 refine loop_go1 hm (fun (i:Nat)=> i ≤ ts.length) (fun (i:Nat)=> ⟨mkS 22 .any [(0,lv (rowsI ts)),(3,.acc 0),(4,iv i)],[some (.acc 3 (part (rowsI ts) [.val (.int .i64 0)] i))]⟩) (fun (i:Nat)=> ts.length - i) (0) ?_ (weakS [some 0] ?_ ?_ rfl rfl) ?_
 rotate_left
 ·simp -implicitDefEqProofs only [go_sem]
 ·simp -implicitDefEqProofs only [go_sem]
  all_goals (simp [part_zero,rowsI_len])
 rotate_left
 ·omega
 ·rintro i hi
  have hp:(part (rowsI ts) [.val (.int .i64 0)] i).length = ts.length:=by rw [part_len _ _ _ (by rw [rowsI_len]; omega),rowsI_len]
  rcases Classical.em (i < ts.length) with h1 | h1
  ·have hset:=part_set (rowsI ts) [.val (.int .i64 0)] [.val (.int .i64 ts[i])] i (by rw [rowsI_len]; exact h1) (rowsI_row h1) rfl
   simp -implicitDefEqProofs only [go_sem,h1,hp]
   repeat (with_reducible apply And.intro; case left=>omega)
   refine ⟨i + 1,?_,?_,weakS [some 0] ?_ ?_ rfl rfl⟩
   rotate_left
   ·show _ < _
    omega
   ·simp -implicitDefEqProofs only [go_sem]
   ·simp -implicitDefEqProofs only [go_sem]
    all_goals (exact hset)
   exact h1
  ·simp -implicitDefEqProofs only [go_sem,h1]
   refine fin1' ?_
   simp -implicitDefEqProofs only [go_sem]
   rw [part_all _ _ _ (by rw [rowsI_len]; omega)]
theorem c_laws_toTermS (ts:List Term) (c_laws_toTerm:∀ t ∈ ts,C E.P 125 [av (cT t)] [] (Eq2 (av (cT t)) [])) :
 C E.P 126 [lv (rowsT ts)] [] (Eq2 (lv (rowsT ts)) []):=by
 have hLB:=LB_eq
 refine C_goS (nt:=23) (rs:=[.tmp 2]) hm Tryz.func126 rfl rfl rfl rfl rfl (fun hl he=>?_)
 simp -implicitDefEqProofs only [go_sem] at hl ⊢
 repeat (with_reducible apply And.intro; case left=>omega)
 refine loop_go1 hm (fun (i:Nat)=> i ≤ ts.length) (fun (i:Nat)=> ⟨mkS 23 .any [(0,lv (rowsT ts)),(3,.acc 0),(4,iv i)],[some (.acc 56 (part (rowsT ts) [.str [],.lst []] i))]⟩) (fun (i:Nat)=> ts.length - i) (0) ?_ (weakS [some 0] ?_ ?_ rfl rfl) ?_
 rotate_left
 ·simp -implicitDefEqProofs only [go_sem]
 ·simp -implicitDefEqProofs only [go_sem]
  all_goals (simp [part_zero,rowsT_len])
 rotate_left
 ·omega
 ·rintro i hi
  have hp:(part (rowsT ts) [.str [],.lst []] i).length = ts.length:=by rw [part_len _ _ _ (by rw [rowsT_len]; omega),rowsT_len]
  rcases Classical.em (i < ts.length) with h1 | h1
  ·have hset:=part_set (rowsT ts) [.str [],.lst []] [.str ts[i].name,.lst (rowsT ts[i].kids)] i (by rw [rowsT_len]; exact h1) (rowsT_row h1) rfl
   simp -implicitDefEqProofs only [go_sem,h1]
   have hc:=c_laws_toTerm ts[i] (List.getElem_mem h1)
   refine atCall [] hc ?_ ?_ <;> simp -implicitDefEqProofs only [go_sem,h1,hp]
   repeat (with_reducible apply And.intro; case left=>omega)
   refine ⟨i + 1,?_,?_,weakS [some 0] ?_ ?_ rfl rfl⟩
   rotate_left
   ·show _ < _
    omega
   ·simp -implicitDefEqProofs only [go_sem]
   ·simp -implicitDefEqProofs only [go_sem]
    all_goals (exact hset)
   exact h1
  ·simp -implicitDefEqProofs only [go_sem,h1]
   refine fin1' ?_
   simp -implicitDefEqProofs only [go_sem]
   rw [part_all _ _ _ (by rw [rowsT_len]; omega)]
theorem c_laws_toTerm1 (t:Term) (ih:∀ k ∈ t.kids,C E.P 125 [av (cT k)] [] (Eq2 (av (cT k)) [])):C E.P 125 [av (cT t)] [] (Eq2 (av (cT t)) []):=by
 have hLB:=LB_eq
 refine C_goS (nt:=12) (rs:=[.cell 2 56]) hm Tryz.func125 rfl rfl rfl rfl rfl (fun hl he=>?_)
 simp -implicitDefEqProofs only [go_sem] at hl ⊢
 refine atCall [] (c_laws_toTermS t.kids ih) ?_ ?_ <;> simp -implicitDefEqProofs only [go_sem]
 refine fin1' ?_
 simp -implicitDefEqProofs only [go_sem]
theorem c_laws_toTerm:∀ t,C E.P 125 [av (cT t)] [] (Eq2 (av (cT t)) []):=
 Term.ind fun n ks ih=>c_laws_toTerm1 _ ih
theorem c_laws_toAtom (t:Atom):C E.P 86 [av (cAtom t)] [] (Eq2 (av (cAtom t)) []):=by
 have hLB:=LB_eq
 refine C_goS (nt:=30) (rs:=[.cell 2 58]) hm Tryz.func86 rfl rfl rfl rfl rfl (fun hl he=>?_)
 simp -implicitDefEqProofs only [go_sem] at hl ⊢
 refine atCall [] (c_laws_toTerm t.A) ?_ ?_ <;> simp -implicitDefEqProofs only [go_sem]
 refine atCall [] (c_laws_toTerm t.B) ?_ ?_ <;> simp -implicitDefEqProofs only [go_sem]
 refine atCall [] (c_laws_toTermS t.nums (fun t _=>c_laws_toTerm t)) ?_ ?_ <;> simp -implicitDefEqProofs only [go_sem]
 refine atCall [] (c_laws_toIntS t.times) ?_ ?_ <;> simp -implicitDefEqProofs only [go_sem]
 refine fin1' ?_
 simp -implicitDefEqProofs only [go_sem]
theorem c_laws_toLit (t:LitD):C E.P 48 [av (cLit t)] [] (Eq2 (av (cLit t)) []):=by
 have hLB:=LB_eq
 refine C_goS (nt:=12) (rs:=[.cell 2 60]) hm Tryz.func48 rfl rfl rfl rfl rfl (fun hl he=>?_)
 simp -implicitDefEqProofs only [go_sem] at hl ⊢
 refine atCall [] (c_laws_toAtom t.atom) ?_ ?_ <;> simp -implicitDefEqProofs only [go_sem]
 refine fin1' ?_
 simp -implicitDefEqProofs only [go_sem]
theorem c_laws_toWhyS (ts:List Why) (c_laws_toWhy:∀ t ∈ ts,C E.P 161 [av (cWhy t)] [] (Eq2 (av (cWhy t)) [])) :
 C E.P 195 [lv (rowsWhy ts)] [] (Eq2 (lv (rowsWhy ts)) []):=by
 have hLB:=LB_eq
 refine C_goS (nt:=23) (rs:=[.tmp 2]) hm Tryz.func195 rfl rfl rfl rfl rfl (fun hl he=>?_)
 simp -implicitDefEqProofs only [go_sem] at hl ⊢
 repeat (with_reducible apply And.intro; case left=>omega)
 refine loop_go1 hm (fun (i:Nat)=> i ≤ ts.length) (fun (i:Nat)=> ⟨mkS 23 .any [(0,lv (rowsWhy ts)),(3,.acc 0),(4,iv i)],[some (.acc 113 (part (rowsWhy ts) [.val (.int .i64 0),.val (.int .i64 0),.str [],.lst [],.lst []] i))]⟩) (fun (i:Nat)=> ts.length - i) (0) ?_ (weakS [some 0] ?_ ?_ rfl rfl) ?_
 rotate_left
 ·simp -implicitDefEqProofs only [go_sem]
 ·simp -implicitDefEqProofs only [go_sem]
  all_goals (simp [part_zero,rowsWhy_len])
 rotate_left
 ·omega
 ·rintro i hi
  have hp:(part (rowsWhy ts) [.val (.int .i64 0),.val (.int .i64 0),.str [],.lst [],.lst []] i).length = ts.length:=by rw [part_len _ _ _ (by rw [rowsWhy_len]; omega),rowsWhy_len]
  rcases Classical.em (i < ts.length) with h1 | h1
  ·have hset:=part_set (rowsWhy ts) [.val (.int .i64 0),.val (.int .i64 0),.str [],.lst [],.lst []] [.val (.int .i64 ts[i].rule),.val (.int .i64 ts[i].n),.str ts[i].t.name,.lst (rowsT ts[i].t.kids),.lst (rowsWhy ts[i].kids)] i (by rw [rowsWhy_len]; exact h1) (rowsWhy_row h1) rfl
   simp -implicitDefEqProofs only [go_sem,h1]
   have hc:=c_laws_toWhy ts[i] (List.getElem_mem h1)
   refine atCall [] hc ?_ ?_ <;> simp -implicitDefEqProofs only [go_sem,h1,hp]
   repeat (with_reducible apply And.intro; case left=>omega)
   refine ⟨i + 1,?_,?_,weakS [some 0] ?_ ?_ rfl rfl⟩
   rotate_left
   ·show _ < _
    omega
   ·simp -implicitDefEqProofs only [go_sem]
   ·simp -implicitDefEqProofs only [go_sem]
    all_goals (exact hset)
   exact h1
  ·simp -implicitDefEqProofs only [go_sem,h1]
   refine fin1' ?_
   simp -implicitDefEqProofs only [go_sem]
   rw [part_all _ _ _ (by rw [rowsWhy_len]; omega)]
theorem c_laws_toWhy1 (t:Why) (ih:∀ k ∈ t.kids,C E.P 161 [av (cWhy k)] [] (Eq2 (av (cWhy k)) [])):C E.P 161 [av (cWhy t)] [] (Eq2 (av (cWhy t)) []):=by
 have hLB:=LB_eq
 refine C_goS (nt:=19) (rs:=[.cell 2 113]) hm Tryz.func161 rfl rfl rfl rfl rfl (fun hl he=>?_)
 simp -implicitDefEqProofs only [go_sem] at hl ⊢
 refine atCall [] (c_laws_toTerm t.t) ?_ ?_ <;> simp -implicitDefEqProofs only [go_sem]
 refine atCall [] (c_laws_toWhyS t.kids ih) ?_ ?_ <;> simp -implicitDefEqProofs only [go_sem]
 refine fin1' ?_
 simp -implicitDefEqProofs only [go_sem]
theorem c_laws_toWhy:∀ t,C E.P 161 [av (cWhy t)] [] (Eq2 (av (cWhy t)) []):=
 Why.ind fun r n t ks ih=>c_laws_toWhy1 _ ih
theorem c_laws_toCaseS (ts:List Case) (c_laws_toCase:∀ t ∈ ts,C E.P 138 [av (cCase t)] [] (Eq2 (av (cCase t)) [])) :
 C E.P 162 [lv (rowsCase ts)] [] (Eq2 (lv (rowsCase ts)) []):=by
 have hLB:=LB_eq
 refine C_goS (nt:=23) (rs:=[.tmp 2]) hm Tryz.func162 rfl rfl rfl rfl rfl (fun hl he=>?_)
 simp -implicitDefEqProofs only [go_sem] at hl ⊢
 repeat (with_reducible apply And.intro; case left=>omega)
 refine loop_go1 hm (fun (i:Nat)=> i ≤ ts.length) (fun (i:Nat)=> ⟨mkS 23 .any [(0,lv (rowsCase ts)),(3,.acc 0),(4,iv i)],[some (.acc 116 (part (rowsCase ts) [.val (.int .i64 0),.val (.int .i64 0),.val (.int .i64 0),.val (.int .i64 0),.str [],.lst [],.lst [],.lst [],.str [],.lst [],.str [],.lst [],.lst []] i))]⟩) (fun (i:Nat)=> ts.length - i) (0) ?_ (weakS [some 0] ?_ ?_ rfl rfl) ?_
 rotate_left
 ·simp -implicitDefEqProofs only [go_sem]
 ·simp -implicitDefEqProofs only [go_sem]
  all_goals (simp [part_zero,rowsCase_len])
 rotate_left
 ·omega
 ·rintro i hi
  have hp:(part (rowsCase ts) [.val (.int .i64 0),.val (.int .i64 0),.val (.int .i64 0),.val (.int .i64 0),.str [],.lst [],.lst [],.lst [],.str [],.lst [],.str [],.lst [],.lst []] i).length = ts.length:=by rw [part_len _ _ _ (by rw [rowsCase_len]; omega),rowsCase_len]
  rcases Classical.em (i < ts.length) with h1 | h1
  ·have hset:=part_set (rowsCase ts) [.val (.int .i64 0),.val (.int .i64 0),.val (.int .i64 0),.val (.int .i64 0),.str [],.lst [],.lst [],.lst [],.str [],.lst [],.str [],.lst [],.lst []] [.val (.int .i64 ts[i].kind),.val (.int .i64 ts[i].n),.val (.int .i64 ts[i].why.rule),.val (.int .i64 ts[i].why.n),.str ts[i].why.t.name,.lst (rowsT ts[i].why.t.kids),.lst (rowsWhy ts[i].why.kids),.lst (rowsI ts[i].times),.str ts[i].A.name,.lst (rowsT ts[i].A.kids),.str ts[i].B.name,.lst (rowsT ts[i].B.kids),.lst (rowsCase ts[i].kids)] i (by rw [rowsCase_len]; exact h1) (rowsCase_row h1) rfl
   simp -implicitDefEqProofs only [go_sem,h1]
   have hc:=c_laws_toCase ts[i] (List.getElem_mem h1)
   refine atCall [] hc ?_ ?_ <;> simp -implicitDefEqProofs only [go_sem,h1,hp]
   repeat (with_reducible apply And.intro; case left=>omega)
   refine ⟨i + 1,?_,?_,weakS [some 0] ?_ ?_ rfl rfl⟩
   rotate_left
   ·show _ < _
    omega
   ·simp -implicitDefEqProofs only [go_sem]
   ·simp -implicitDefEqProofs only [go_sem]
    all_goals (exact hset)
   exact h1
  ·simp -implicitDefEqProofs only [go_sem,h1]
   refine fin1' ?_
   simp -implicitDefEqProofs only [go_sem]
   rw [part_all _ _ _ (by rw [rowsCase_len]; omega)]
theorem c_laws_toCase1 (t:Case) (ih:∀ k ∈ t.kids,C E.P 138 [av (cCase k)] [] (Eq2 (av (cCase k)) [])):C E.P 138 [av (cCase t)] [] (Eq2 (av (cCase t)) []):=by
 have hLB:=LB_eq
 refine C_goS (nt:=31) (rs:=[.cell 2 116]) hm Tryz.func138 rfl rfl rfl rfl rfl (fun hl he=>?_)
 simp -implicitDefEqProofs only [go_sem] at hl ⊢
 refine atCall [] (c_laws_toWhy t.why) ?_ ?_ <;> simp -implicitDefEqProofs only [go_sem]
 refine atCall [] (c_laws_toIntS t.times) ?_ ?_ <;> simp -implicitDefEqProofs only [go_sem]
 refine atCall [] (c_laws_toTerm t.A) ?_ ?_ <;> simp -implicitDefEqProofs only [go_sem]
 refine atCall [] (c_laws_toTerm t.B) ?_ ?_ <;> simp -implicitDefEqProofs only [go_sem]
 refine atCall [] (c_laws_toCaseS t.kids ih) ?_ ?_ <;> simp -implicitDefEqProofs only [go_sem]
 refine fin1' ?_
 simp -implicitDefEqProofs only [go_sem]
theorem c_laws_toCase:∀ t,C E.P 138 [av (cCase t)] [] (Eq2 (av (cCase t)) []):=
 Case.ind fun k n w ts a b ks ih=>c_laws_toCase1 _ ih
end Go.Proofs.YtgeogofjlhjcmaaGreat
namespace Go.Proofs.YtgeogofjlhjcmaaGreat
open Go.Eng Go.Mod
open Int renaming reduceEq → Z1,reduceLT → Z2,reduceLE → Z3,reduceToNat → Z4
set_option maxRecDepth 100000
set_option maxHeartbeats 400000
theorem c_laws_eqIntS (ts:List Int):C E.P 104 [lv (rowsI ts),lv (rowsI ts)] [] (Eq2 (bv true) []):=by
 have hLB:=LB_eq
 refine C_goS (nt:=26) (rs:=[.tmp 4]) hm Tryz.func104 rfl rfl rfl rfl rfl (fun hl he=>?_)
 simp -implicitDefEqProofs only [go_sem] at hl ⊢
 refine loop_go1 hm (fun (i:Nat)=> i ≤ ts.length) (fun (i:Nat)=> ⟨mkS 26 .any [(0,lv (rowsI ts)),(1,lv (rowsI ts)),(5,iv i)],[]⟩) (fun (i:Nat)=> ts.length - i) (0) ?_ (weakS [] ?_ ?_ rfl rfl) ?_
 rotate_left
 ·simp -implicitDefEqProofs only [go_sem]
 ·simp -implicitDefEqProofs only [go_sem]
 rotate_left
 ·omega
 ·rintro i hi
  rcases Classical.em (i < ts.length) with h1 | h1
  ·simp -implicitDefEqProofs only [go_sem,h1]
   with_reducible refine ind_andM (by kernel_rfl) ?_
   repeat (with_reducible apply And.intro; case left=>omega)
   refine ⟨i + 1,?_,?_,weakS [] ?_ ?_ rfl rfl⟩
   rotate_left
   ·show _ < _
    omega
   ·simp -implicitDefEqProofs only [go_sem]
   ·simp -implicitDefEqProofs only [go_sem]
   exact h1
  ·simp -implicitDefEqProofs only [go_sem,h1]
   refine fin1' ?_
   simp -implicitDefEqProofs only [go_sem]
theorem c_laws_eqTermS (ts:List Term) (hel:∀ t ∈ ts,C E.P 127 [av (cT t),av (cT t)] [] (Eq2 (bv true) [])):C E.P 128 [lv (rowsT ts),lv (rowsT ts)] [] (Eq2 (bv true) []):=by
 have hLB:=LB_eq
 refine C_goS (nt:=27) (rs:=[.tmp 4]) hm Tryz.func128 rfl rfl rfl rfl rfl (fun hl he=>?_)
 simp -implicitDefEqProofs only [go_sem] at hl ⊢
 refine loop_go1 hm (fun (i:Nat)=> i ≤ ts.length) (fun (i:Nat)=> ⟨mkS 27 .any [(0,lv (rowsT ts)),(1,lv (rowsT ts)),(5,iv i)],[]⟩) (fun (i:Nat)=> ts.length - i) (0) ?_ (weakS [] ?_ ?_ rfl rfl) ?_
 rotate_left
 ·simp -implicitDefEqProofs only [go_sem]
 ·simp -implicitDefEqProofs only [go_sem]
 rotate_left
 ·omega
 ·rintro i hi
  rcases Classical.em (i < ts.length) with h1 | h1
  ·simp -implicitDefEqProofs only [go_sem,h1]
   have hc:=hel ts[i] (List.getElem_mem h1)
   refine atCall [] hc ?_ ?_ <;> simp -implicitDefEqProofs only [go_sem]
   with_reducible refine ind_andM (by kernel_rfl) ?_
   repeat (with_reducible apply And.intro; case left=>omega)
   refine ⟨i + 1,?_,?_,weakS [] ?_ ?_ rfl rfl⟩
   rotate_left
   ·show _ < _
    omega
   ·simp -implicitDefEqProofs only [go_sem]
   ·simp -implicitDefEqProofs only [go_sem]
   exact h1
  ·simp -implicitDefEqProofs only [go_sem,h1]
   refine fin1' ?_
   simp -implicitDefEqProofs only [go_sem]
theorem c_laws_eqTerm1 (t:Term) (ih:∀ k ∈ t.kids,C E.P 127 [av (cT k),av (cT k)] [] (Eq2 (bv true) [])):C E.P 127 [av (cT t),av (cT t)] [] (Eq2 (bv true) []):=by
 have hLB:=LB_eq
 refine C_goS (nt:=16) (rs:=[.tmp 4]) hm Tryz.func127 rfl rfl rfl rfl rfl (fun hl he=>?_)
 simp -implicitDefEqProofs only [go_sem] at hl ⊢
 refine atCall [] (c_laws_eqTermS t.kids ih) ?_ ?_ <;> simp -implicitDefEqProofs only [go_sem]
 refine fin1' ?_
 simp -implicitDefEqProofs only [go_sem]
theorem c_laws_eqTerm:∀ t,C E.P 127 [av (cT t),av (cT t)] [] (Eq2 (bv true) []):=
 Term.ind fun n ks ih=>c_laws_eqTerm1 _ ih
theorem c_laws_eqAtom (t:Atom):C E.P 87 [av (cAtom t),av (cAtom t)] [] (Eq2 (bv true) []):=by
 have hLB:=LB_eq
 refine C_goS (nt:=44) (rs:=[.tmp 4]) hm Tryz.func87 rfl rfl rfl rfl rfl (fun hl he=>?_)
 simp -implicitDefEqProofs only [go_sem] at hl ⊢
 refine atCall [] (c_laws_eqTerm t.A) ?_ ?_ <;> simp -implicitDefEqProofs only [go_sem]
 refine atCall [] (c_laws_eqTerm t.B) ?_ ?_ <;> simp -implicitDefEqProofs only [go_sem]
 refine atCall [] (c_laws_eqTermS t.nums (fun t _=>c_laws_eqTerm t)) ?_ ?_ <;> simp -implicitDefEqProofs only [go_sem]
 refine atCall [] (c_laws_eqIntS t.times) ?_ ?_ <;> simp -implicitDefEqProofs only [go_sem]
 refine fin1' ?_
 simp -implicitDefEqProofs only [go_sem]
theorem c_laws_eqLit (t:LitD):C E.P 49 [av (cLit t),av (cLit t)] [] (Eq2 (bv true) []):=by
 have hLB:=LB_eq
 refine C_goS (nt:=16) (rs:=[.tmp 4]) hm Tryz.func49 rfl rfl rfl rfl rfl (fun hl he=>?_)
 simp -implicitDefEqProofs only [go_sem] at hl ⊢
 refine atCall [] (c_laws_eqAtom t.atom) ?_ ?_ <;> simp -implicitDefEqProofs only [go_sem]
 refine fin1' ?_
 simp -implicitDefEqProofs only [go_sem]
theorem c_laws_eqWhyS (ts:List Why) (hel:∀ t ∈ ts,C E.P 170 [av (cWhy t),av (cWhy t)] [] (Eq2 (bv true) [])):C E.P 202 [lv (rowsWhy ts),lv (rowsWhy ts)] [] (Eq2 (bv true) []):=by
 have hLB:=LB_eq
 refine C_goS (nt:=27) (rs:=[.tmp 4]) hm Tryz.func202 rfl rfl rfl rfl rfl (fun hl he=>?_)
 simp -implicitDefEqProofs only [go_sem] at hl ⊢
 refine loop_go1 hm (fun (i:Nat)=> i ≤ ts.length) (fun (i:Nat)=> ⟨mkS 27 .any [(0,lv (rowsWhy ts)),(1,lv (rowsWhy ts)),(5,iv i)],[]⟩) (fun (i:Nat)=> ts.length - i) (0) ?_ (weakS [] ?_ ?_ rfl rfl) ?_
 rotate_left
 ·simp -implicitDefEqProofs only [go_sem]
 ·simp -implicitDefEqProofs only [go_sem]
 rotate_left
 ·omega
 ·rintro i hi
  rcases Classical.em (i < ts.length) with h1 | h1
  ·simp -implicitDefEqProofs only [go_sem,h1]
   have hc:=hel ts[i] (List.getElem_mem h1)
   refine atCall [] hc ?_ ?_ <;> simp -implicitDefEqProofs only [go_sem]
   with_reducible refine ind_andM (by kernel_rfl) ?_
   repeat (with_reducible apply And.intro; case left=>omega)
   refine ⟨i + 1,?_,?_,weakS [] ?_ ?_ rfl rfl⟩
   rotate_left
   ·show _ < _
    omega
   ·simp -implicitDefEqProofs only [go_sem]
   ·simp -implicitDefEqProofs only [go_sem]
   exact h1
  ·simp -implicitDefEqProofs only [go_sem,h1]
   refine fin1' ?_
   simp -implicitDefEqProofs only [go_sem]
theorem c_laws_eqWhy1 (t:Why) (ih:∀ k ∈ t.kids,C E.P 170 [av (cWhy k),av (cWhy k)] [] (Eq2 (bv true) [])):C E.P 170 [av (cWhy t),av (cWhy t)] [] (Eq2 (bv true) []):=by
 have hLB:=LB_eq
 refine C_goS (nt:=27) (rs:=[.tmp 4]) hm Tryz.func170 rfl rfl rfl rfl rfl (fun hl he=>?_)
 simp -implicitDefEqProofs only [go_sem] at hl ⊢
 refine atCall [] (c_laws_eqTerm t.t) ?_ ?_ <;> simp -implicitDefEqProofs only [go_sem]
 refine atCall [] (c_laws_eqWhyS t.kids ih) ?_ ?_ <;> simp -implicitDefEqProofs only [go_sem]
 refine fin1' ?_
 simp -implicitDefEqProofs only [go_sem]
theorem c_laws_eqWhy:∀ t,C E.P 170 [av (cWhy t),av (cWhy t)] [] (Eq2 (bv true) []):=
 Why.ind fun r n t ks ih=>c_laws_eqWhy1 _ ih
theorem c_laws_eqCaseS (ts:List Case) (hel:∀ t ∈ ts,C E.P 143 [av (cCase t),av (cCase t)] [] (Eq2 (bv true) [])):C E.P 171 [lv (rowsCase ts),lv (rowsCase ts)] [] (Eq2 (bv true) []):=by
 have hLB:=LB_eq
 refine C_goS (nt:=27) (rs:=[.tmp 4]) hm Tryz.func171 rfl rfl rfl rfl rfl (fun hl he=>?_)
 simp -implicitDefEqProofs only [go_sem] at hl ⊢
 refine loop_go1 hm (fun (i:Nat)=> i ≤ ts.length) (fun (i:Nat)=> ⟨mkS 27 .any [(0,lv (rowsCase ts)),(1,lv (rowsCase ts)),(5,iv i)],[]⟩) (fun (i:Nat)=> ts.length - i) (0) ?_ (weakS [] ?_ ?_ rfl rfl) ?_
 rotate_left
 ·simp -implicitDefEqProofs only [go_sem]
 ·simp -implicitDefEqProofs only [go_sem]
 rotate_left
 ·omega
 ·rintro i hi
  rcases Classical.em (i < ts.length) with h1 | h1
  ·simp -implicitDefEqProofs only [go_sem,h1]
   have hc:=hel ts[i] (List.getElem_mem h1)
   refine atCall [] hc ?_ ?_ <;> simp -implicitDefEqProofs only [go_sem]
   with_reducible refine ind_andM (by kernel_rfl) ?_
   repeat (with_reducible apply And.intro; case left=>omega)
   refine ⟨i + 1,?_,?_,weakS [] ?_ ?_ rfl rfl⟩
   rotate_left
   ·show _ < _
    omega
   ·simp -implicitDefEqProofs only [go_sem]
   ·simp -implicitDefEqProofs only [go_sem]
   exact h1
  ·simp -implicitDefEqProofs only [go_sem,h1]
   refine fin1' ?_
   simp -implicitDefEqProofs only [go_sem]
theorem c_laws_eqCase1 (t:Case) (ih:∀ k ∈ t.kids,C E.P 143 [av (cCase k),av (cCase k)] [] (Eq2 (bv true) [])):C E.P 143 [av (cCase t),av (cCase t)] [] (Eq2 (bv true) []):=by
 have hLB:=LB_eq
 refine C_goS (nt:=45) (rs:=[.tmp 4]) hm Tryz.func143 rfl rfl rfl rfl rfl (fun hl he=>?_)
 simp -implicitDefEqProofs only [go_sem] at hl ⊢
 refine atCall [] (c_laws_eqWhy t.why) ?_ ?_ <;> simp -implicitDefEqProofs only [go_sem]
 refine atCall [] (c_laws_eqIntS t.times) ?_ ?_ <;> simp -implicitDefEqProofs only [go_sem]
 refine atCall [] (c_laws_eqTerm t.A) ?_ ?_ <;> simp -implicitDefEqProofs only [go_sem]
 refine atCall [] (c_laws_eqTerm t.B) ?_ ?_ <;> simp -implicitDefEqProofs only [go_sem]
 refine atCall [] (c_laws_eqCaseS t.kids ih) ?_ ?_ <;> simp -implicitDefEqProofs only [go_sem]
 refine fin1' ?_
 simp -implicitDefEqProofs only [go_sem]
theorem c_laws_eqCase:∀ t,C E.P 143 [av (cCase t),av (cCase t)] [] (Eq2 (bv true) []):=
 Case.ind fun k n w ts a b ks ih=>c_laws_eqCase1 _ ih
end Go.Proofs.YtgeogofjlhjcmaaGreat
