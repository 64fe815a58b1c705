/-
  Arguments copied: the walks. A step towards the exact laws. Arguments compared with themselves: the walks. A step towards the exact laws.
-/
import Derived.Test.YtgeogofjlhjcmaaGreatKQW
set_option linter.unusedVariables false
set_option linter.unusedSimpArgs false
namespace Go.Proofs.YtgeogofjlhjcmaaGreat
open Go.Eng Go.Mod
open Int renaming reduceEq → Z1,reduceLT → Z2,reduceLE → Z3,reduceToNat → Z4
set_option maxRecDepth 100000
def part (xs:List (List D)) (z:List D) (i:Nat):List (List D):=xs.take i ++ List.replicate (xs.length - i) z
theorem part_len (xs:List (List D)) (z:List D) (i:Nat) (h:i ≤ xs.length):(part xs z i).length = xs.length:=by simp [part]; omega
theorem part_zero (xs:List (List D)) (z:List D):part xs z 0 = List.replicate xs.length z:=by simp [part]
theorem part_all (xs:List (List D)) (z:List D) (i:Nat) (h:xs.length ≤ i):part xs z i = xs:=by
 have:xs.length - i = 0:=by omega
 simp [part,this,List.take_of_length_le h]
theorem part_row (xs:List (List D)) (z:List D) (i:Nat) (h:i < xs.length):row (part xs z i) i = z:=by
 have e:(xs.take i).length = i:=by simp; omega
 simp only [row,part,List.getD]
 rw [List.getElem?_append_right (by omega),e,Nat.sub_self,List.getElem?_replicate,if_pos (by omega)]
 rfl
theorem spl_whole (z c:List D) (h:c.length = z.length):spl z 0 c = c:=by
 simp [spl,List.drop_of_length_le (by omega:z.length ≤ c.length)]
theorem part_set (xs:List (List D)) (z c:List D) (i:Nat) (h:i < xs.length) (hc:row xs i = c) (hl:c.length = z.length):(part xs z i).set i (spl (row (part xs z i) i) 0 c) = part xs z (i + 1):=by
 rw [part_row xs z i h,spl_whole z c hl]
 have e:(xs.take i).length = i:=by simp; omega
 have hx:xs[i]? = some c:=by
  rw [← hc]
  simp [row,List.getD,List.getElem?_eq_getElem h]
 simp only [part]
 rw [List.set_append_right _ _ (by omega),e,Nat.sub_self]
 have h1:xs.length - i = (xs.length - (i + 1)) + 1:=by omega
 rw [h1,List.replicate_succ,List.set_cons_zero,List.take_add_one,hx]
 simp
theorem c_laws_toIntS (ts:List Int) :
 C E.P 99 [lv (rowsI ts)] [] (Eq2 (lv (rowsI ts)) []):=by
 have hLB:=LB_eq
 refine C_goS (nt:=22) (rs:=[.tmp 2]) hm Tryz.func99 rfl rfl rfl rfl rfl (fun hl he=>?_)
 simp -implicitDefEqProofs only [go_sem] at hl ⊢
 repeat (with_reducible apply And.intro; case left=>omega)
 refine loop_go1 hm (fun (i:Nat)=> i ≤ ts.length) (fun (i:Nat)=> ⟨mkS 22 .any [(0,lv (rowsI ts)),(3,.acc 0),(4,iv i)],[some (.acc 3 (part (rowsI ts) [.val (.int .i64 0)] i))]⟩) (fun (i:Nat)=> ts.length - i) (0) ?_ (weakS [some 0] ?_ ?_ rfl rfl) ?_
 rotate_left
 ·simp -implicitDefEqProofs only [go_sem]
 ·simp -implicitDefEqProofs only [go_sem]
  all_goals (simp [part_zero,rowsI_len])
 rotate_left
 ·omega
 ·rintro i hi
  have hp:(part (rowsI ts) [.val (.int .i64 0)] i).length = ts.length:=by rw [part_len _ _ _ (by rw [rowsI_len]; omega),rowsI_len]
  rcases Classical.em (i < ts.length) with h1 | h1
  ·have hset:=part_set (rowsI ts) [.val (.int .i64 0)] [.val (.int .i64 ts[i])] i (by rw [rowsI_len]; exact h1) (rowsI_row h1) rfl
   simp -implicitDefEqProofs only [go_sem,h1,hp]
   repeat (with_reducible apply And.intro; case left=>omega)
   refine ⟨i + 1,?_,?_,weakS [some 0] ?_ ?_ rfl rfl⟩
   rotate_left
   ·show _ < _
    omega
   ·simp -implicitDefEqProofs only [go_sem]
   ·simp -implicitDefEqProofs only [go_sem]
    all_goals (exact hset)
   exact h1
  ·simp -implicitDefEqProofs only [go_sem,h1]
   refine fin1' ?_
   simp -implicitDefEqProofs only [go_sem]
   rw [part_all _ _ _ (by rw [rowsI_len]; omega)]
theorem c_laws_toTermS (ts:List Term) (c_laws_toTerm:∀ t ∈ ts,C E.P 125 [av (cT t)] [] (Eq2 (av (cT t)) [])) :
 C E.P 126 [lv (rowsT ts)] [] (Eq2 (lv (rowsT ts)) []):=by
 have hLB:=LB_eq
 refine C_goS (nt:=23) (rs:=[.tmp 2]) hm Tryz.func126 rfl rfl rfl rfl rfl (fun hl he=>?_)
 simp -implicitDefEqProofs only [go_sem] at hl ⊢
 repeat (with_reducible apply And.intro; case left=>omega)
 refine loop_go1 hm (fun (i:Nat)=> i ≤ ts.length) (fun (i:Nat)=> ⟨mkS 23 .any [(0,lv (rowsT ts)),(3,.acc 0),(4,iv i)],[some (.acc 56 (part (rowsT ts) [.str [],.lst []] i))]⟩) (fun (i:Nat)=> ts.length - i) (0) ?_ (weakS [some 0] ?_ ?_ rfl rfl) ?_
 rotate_left
 ·simp -implicitDefEqProofs only [go_sem]
 ·simp -implicitDefEqProofs only [go_sem]
  all_goals (simp [part_zero,rowsT_len])
 rotate_left
 ·omega
 ·rintro i hi
  have hp:(part (rowsT ts) [.str [],.lst []] i).length = ts.length:=by rw [part_len _ _ _ (by rw [rowsT_len]; omega),rowsT_len]
  rcases Classical.em (i < ts.length) with h1 | h1
  ·have hset:=part_set (rowsT ts) [.str [],.lst []] [.str ts[i].name,.lst (rowsT ts[i].kids)] i (by rw [rowsT_len]; exact h1) (rowsT_row h1) rfl
   simp -implicitDefEqProofs only [go_sem,h1]
   have hc:=c_laws_toTerm ts[i] (List.getElem_mem h1)
   refine atCall [] hc ?_ ?_ <;> simp -implicitDefEqProofs only [go_sem,h1,hp]
   repeat (with_reducible apply And.intro; case left=>omega)
   refine ⟨i + 1,?_,?_,weakS [some 0] ?_ ?_ rfl rfl⟩
   rotate_left
   ·show _ < _
    omega
   ·simp -implicitDefEqProofs only [go_sem]
   ·simp -implicitDefEqProofs only [go_sem]
    all_goals (exact hset)
   exact h1
  ·simp -implicitDefEqProofs only [go_sem,h1]
   refine fin1' ?_
   simp -implicitDefEqProofs only [go_sem]
   rw [part_all _ _ _ (by rw [rowsT_len]; omega)]
theorem c_laws_toTerm1 (t:Term) (ih:∀ k ∈ t.kids,C E.P 125 [av (cT k)] [] (Eq2 (av (cT k)) [])):C E.P 125 [av (cT t)] [] (Eq2 (av (cT t)) []):=by
 have hLB:=LB_eq
 refine C_goS (nt:=12) (rs:=[.cell 2 56]) hm Tryz.func125 rfl rfl rfl rfl rfl (fun hl he=>?_)
 simp -implicitDefEqProofs only [go_sem] at hl ⊢
 refine atCall [] (c_laws_toTermS t.kids ih) ?_ ?_ <;> simp -implicitDefEqProofs only [go_sem]
 refine fin1' ?_
 simp -implicitDefEqProofs only [go_sem]
theorem c_laws_toTerm:∀ t,C E.P 125 [av (cT t)] [] (Eq2 (av (cT t)) []):=
 Term.ind fun n ks ih=>c_laws_toTerm1 _ ih
theorem c_laws_toAtom (t:Atom):C E.P 86 [av (cAtom t)] [] (Eq2 (av (cAtom t)) []):=by
 have hLB:=LB_eq
 refine C_goS (nt:=30) (rs:=[.cell 2 58]) hm Tryz.func86 rfl rfl rfl rfl rfl (fun hl he=>?_)
 simp -implicitDefEqProofs only [go_sem] at hl ⊢
 refine atCall [] (c_laws_toTerm t.A) ?_ ?_ <;> simp -implicitDefEqProofs only [go_sem]
 refine atCall [] (c_laws_toTerm t.B) ?_ ?_ <;> simp -implicitDefEqProofs only [go_sem]
 refine atCall [] (c_laws_toTermS t.nums (fun t _=>c_laws_toTerm t)) ?_ ?_ <;> simp -implicitDefEqProofs only [go_sem]
 refine atCall [] (c_laws_toIntS t.times) ?_ ?_ <;> simp -implicitDefEqProofs only [go_sem]
 refine fin1' ?_
 simp -implicitDefEqProofs only [go_sem]
theorem c_laws_toLit (t:LitD):C E.P 48 [av (cLit t)] [] (Eq2 (av (cLit t)) []):=by
 have hLB:=LB_eq
 refine C_goS (nt:=12) (rs:=[.cell 2 60]) hm Tryz.func48 rfl rfl rfl rfl rfl (fun hl he=>?_)
 simp -implicitDefEqProofs only [go_sem] at hl ⊢
 refine atCall [] (c_laws_toAtom t.atom) ?_ ?_ <;> simp -implicitDefEqProofs only [go_sem]
 refine fin1' ?_
 simp -implicitDefEqProofs only [go_sem]
end Go.Proofs.YtgeogofjlhjcmaaGreat
namespace Go.Proofs.YtgeogofjlhjcmaaGreat
open Go.Eng Go.Mod
open Int renaming reduceEq → Z1,reduceLT → Z2,reduceLE → Z3,reduceToNat → Z4
set_option maxRecDepth 100000
set_option maxHeartbeats 400000
theorem c_laws_eqIntS (ts:List Int):C E.P 104 [lv (rowsI ts),lv (rowsI ts)] [] (Eq2 (bv true) []):=by
 have hLB:=LB_eq
 refine C_goS (nt:=26) (rs:=[.tmp 4]) hm Tryz.func104 rfl rfl rfl rfl rfl (fun hl he=>?_)
 simp -implicitDefEqProofs only [go_sem] at hl ⊢
 refine loop_go1 hm (fun (i:Nat)=> i ≤ ts.length) (fun (i:Nat)=> ⟨mkS 26 .any [(0,lv (rowsI ts)),(1,lv (rowsI ts)),(5,iv i)],[]⟩) (fun (i:Nat)=> ts.length - i) (0) ?_ (weakS [] ?_ ?_ rfl rfl) ?_
 rotate_left
 ·simp -implicitDefEqProofs only [go_sem]
 ·simp -implicitDefEqProofs only [go_sem]
 rotate_left
 ·omega
 ·rintro i hi
  rcases Classical.em (i < ts.length) with h1 | h1
  ·simp -implicitDefEqProofs only [go_sem,h1]
   with_reducible refine ind_andM (by kernel_rfl) ?_
   repeat (with_reducible apply And.intro; case left=>omega)
   refine ⟨i + 1,?_,?_,weakS [] ?_ ?_ rfl rfl⟩
   rotate_left
   ·show _ < _
    omega
   ·simp -implicitDefEqProofs only [go_sem]
   ·simp -implicitDefEqProofs only [go_sem]
   exact h1
  ·simp -implicitDefEqProofs only [go_sem,h1]
   refine fin1' ?_
   simp -implicitDefEqProofs only [go_sem]
theorem c_laws_eqSym (t:Sym):C E.P 120 [av (cSym t),av (cSym t)] [] (Eq2 (bv true) []):=by
 have hLB:=LB_eq
 refine C_goS (nt:=21) (rs:=[.tmp 4]) hm Tryz.func120 rfl rfl rfl rfl rfl (fun hl he=>?_)
 simp -implicitDefEqProofs only [go_sem] at hl ⊢
 refine atCall [] (c_laws_eqIntS t.args) ?_ ?_ <;> simp -implicitDefEqProofs only [go_sem]
 refine fin1' ?_
 simp -implicitDefEqProofs only [go_sem]
theorem c_laws_eqSymS (ts:List Sym) (hel:∀ t ∈ ts,C E.P 120 [av (cSym t),av (cSym t)] [] (Eq2 (bv true) [])):C E.P 80 [lv (rowsSym ts),lv (rowsSym ts)] [] (Eq2 (bv true) []):=by
 have hLB:=LB_eq
 refine C_goS (nt:=27) (rs:=[.tmp 4]) hm Tryz.func80 rfl rfl rfl rfl rfl (fun hl he=>?_)
 simp -implicitDefEqProofs only [go_sem] at hl ⊢
 refine loop_go1 hm (fun (i:Nat)=> i ≤ ts.length) (fun (i:Nat)=> ⟨mkS 27 .any [(0,lv (rowsSym ts)),(1,lv (rowsSym ts)),(5,iv i)],[]⟩) (fun (i:Nat)=> ts.length - i) (0) ?_ (weakS [] ?_ ?_ rfl rfl) ?_
 rotate_left
 ·simp -implicitDefEqProofs only [go_sem]
 ·simp -implicitDefEqProofs only [go_sem]
 rotate_left
 ·omega
 ·rintro i hi
  rcases Classical.em (i < ts.length) with h1 | h1
  ·simp -implicitDefEqProofs only [go_sem,h1]
   have hc:=hel ts[i] (List.getElem_mem h1)
   refine atCall [] hc ?_ ?_ <;> simp -implicitDefEqProofs only [go_sem]
   with_reducible refine ind_andM (by kernel_rfl) ?_
   repeat (with_reducible apply And.intro; case left=>omega)
   refine ⟨i + 1,?_,?_,weakS [] ?_ ?_ rfl rfl⟩
   rotate_left
   ·show _ < _
    omega
   ·simp -implicitDefEqProofs only [go_sem]
   ·simp -implicitDefEqProofs only [go_sem]
   exact h1
  ·simp -implicitDefEqProofs only [go_sem,h1]
   refine fin1' ?_
   simp -implicitDefEqProofs only [go_sem]
theorem c_laws_eqSig (t:Sig):C E.P 40 [av (cSig t),av (cSig t)] [] (Eq2 (bv true) []):=by
 have hLB:=LB_eq
 refine C_goS (nt:=11) (rs:=[.tmp 4]) hm Tryz.func40 rfl rfl rfl rfl rfl (fun hl he=>?_)
 simp -implicitDefEqProofs only [go_sem] at hl ⊢
 refine atCall [] (c_laws_eqSymS t.syms (fun t _=>c_laws_eqSym t)) ?_ ?_ <;> simp -implicitDefEqProofs only [go_sem]
 refine fin1' ?_
 simp -implicitDefEqProofs only [go_sem]
theorem c_laws_eqTermS (ts:List Term) (hel:∀ t ∈ ts,C E.P 127 [av (cT t),av (cT t)] [] (Eq2 (bv true) [])):C E.P 128 [lv (rowsT ts),lv (rowsT ts)] [] (Eq2 (bv true) []):=by
 have hLB:=LB_eq
 refine C_goS (nt:=27) (rs:=[.tmp 4]) hm Tryz.func128 rfl rfl rfl rfl rfl (fun hl he=>?_)
 simp -implicitDefEqProofs only [go_sem] at hl ⊢
 refine loop_go1 hm (fun (i:Nat)=> i ≤ ts.length) (fun (i:Nat)=> ⟨mkS 27 .any [(0,lv (rowsT ts)),(1,lv (rowsT ts)),(5,iv i)],[]⟩) (fun (i:Nat)=> ts.length - i) (0) ?_ (weakS [] ?_ ?_ rfl rfl) ?_
 rotate_left
 ·simp -implicitDefEqProofs only [go_sem]
 ·simp -implicitDefEqProofs only [go_sem]
 rotate_left
 ·omega
 ·rintro i hi
  rcases Classical.em (i < ts.length) with h1 | h1
  ·simp -implicitDefEqProofs only [go_sem,h1]
   have hc:=hel ts[i] (List.getElem_mem h1)
   refine atCall [] hc ?_ ?_ <;> simp -implicitDefEqProofs only [go_sem]
   with_reducible refine ind_andM (by kernel_rfl) ?_
   repeat (with_reducible apply And.intro; case left=>omega)
   refine ⟨i + 1,?_,?_,weakS [] ?_ ?_ rfl rfl⟩
   rotate_left
   ·show _ < _
    omega
   ·simp -implicitDefEqProofs only [go_sem]
   ·simp -implicitDefEqProofs only [go_sem]
   exact h1
  ·simp -implicitDefEqProofs only [go_sem,h1]
   refine fin1' ?_
   simp -implicitDefEqProofs only [go_sem]
theorem c_laws_eqTerm1 (t:Term) (ih:∀ k ∈ t.kids,C E.P 127 [av (cT k),av (cT k)] [] (Eq2 (bv true) [])):C E.P 127 [av (cT t),av (cT t)] [] (Eq2 (bv true) []):=by
 have hLB:=LB_eq
 refine C_goS (nt:=16) (rs:=[.tmp 4]) hm Tryz.func127 rfl rfl rfl rfl rfl (fun hl he=>?_)
 simp -implicitDefEqProofs only [go_sem] at hl ⊢
 refine atCall [] (c_laws_eqTermS t.kids ih) ?_ ?_ <;> simp -implicitDefEqProofs only [go_sem]
 refine fin1' ?_
 simp -implicitDefEqProofs only [go_sem]
theorem c_laws_eqTerm:∀ t,C E.P 127 [av (cT t),av (cT t)] [] (Eq2 (bv true) []):=
 Term.ind fun n ks ih=>c_laws_eqTerm1 _ ih
theorem c_laws_eqAtom (t:Atom):C E.P 87 [av (cAtom t),av (cAtom t)] [] (Eq2 (bv true) []):=by
 have hLB:=LB_eq
 refine C_goS (nt:=44) (rs:=[.tmp 4]) hm Tryz.func87 rfl rfl rfl rfl rfl (fun hl he=>?_)
 simp -implicitDefEqProofs only [go_sem] at hl ⊢
 refine atCall [] (c_laws_eqTerm t.A) ?_ ?_ <;> simp -implicitDefEqProofs only [go_sem]
 refine atCall [] (c_laws_eqTerm t.B) ?_ ?_ <;> simp -implicitDefEqProofs only [go_sem]
 refine atCall [] (c_laws_eqTermS t.nums (fun t _=>c_laws_eqTerm t)) ?_ ?_ <;> simp -implicitDefEqProofs only [go_sem]
 refine atCall [] (c_laws_eqIntS t.times) ?_ ?_ <;> simp -implicitDefEqProofs only [go_sem]
 refine fin1' ?_
 simp -implicitDefEqProofs only [go_sem]
theorem c_laws_eqLit (t:LitD):C E.P 49 [av (cLit t),av (cLit t)] [] (Eq2 (bv true) []):=by
 have hLB:=LB_eq
 refine C_goS (nt:=16) (rs:=[.tmp 4]) hm Tryz.func49 rfl rfl rfl rfl rfl (fun hl he=>?_)
 simp -implicitDefEqProofs only [go_sem] at hl ⊢
 refine atCall [] (c_laws_eqAtom t.atom) ?_ ?_ <;> simp -implicitDefEqProofs only [go_sem]
 refine fin1' ?_
 simp -implicitDefEqProofs only [go_sem]
end Go.Proofs.YtgeogofjlhjcmaaGreat
