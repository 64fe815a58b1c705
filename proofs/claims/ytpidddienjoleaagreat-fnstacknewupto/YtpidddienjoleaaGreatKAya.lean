/-
  The reference: the walks of what is drawn: numbers, words, terms. A step towards the laws.
-/
import Derived.Test.YtpidddienjoleaaGreatKAI
import Derived.Test.YtpidddienjoleaaGreatKAEb
set_option linter.unusedVariables false
set_option linter.unusedSimpArgs false
namespace Go.Proofs.YtpidddienjoleaaGreat
open Go.Eng Go.Mod
open Int renaming reduceEq → Z1,reduceLT → Z2,reduceLE → Z3,reduceToNat → Z4
set_option maxRecDepth 100000
set_option maxHeartbeats 400000
def rdE (b:List Int) (p:Int):En:=.box [lv (byD b),iv p]
def litI (l:List Int):List (List D):=rowsI l
def litS (l:List Str):List (List D):=rowsS l
theorem litI_nil:litI [] = []:=rfl
theorem litI_cons (n:Int) (l:List Int):litI (n :: l) = [.val (.int .i64 n)] :: litI l:=rfl
theorem litS_nil:litS [] = []:=rfl
theorem litS_cons (n:Str) (l:List Str):litS (n :: l) = [.str n] :: litS l:=rfl
attribute [go_sem] rdE litI_nil litI_cons litS_nil litS_cons
theorem byD_len (b:List Int):(byD b).length = b.length:=by simp [byD]
theorem byD_row {b:List Int} {i:Nat} (h:i < b.length):row (byD b) i = [.val (.int .u8 b[i])]:=by simp [byD,row,List.getD,List.getElem?_eq_getElem h]
attribute [go_sem] byD_len
theorem byD_getD {b:List Int} {i:Nat} (h:i < b.length):row (byD b) i = [.val (.int .u8 (b.getD i 0))]:=by rw [byD_row h,List.getD_eq_getElem?_getD,List.getElem?_eq_getElem h]; rfl
theorem c_pick (b:List Int) (p n:Int) (hb:OkB b) (h1:0 ≤ p) (h2:p ≤ 1000000000):C E.P 147 [.ptr 0 0,iv n] [some (rdE b p)] (Eq2 (iv (pickV b p n)) [some (rdE b (p + 1))]):=by
 have hb1:=hb.len
 have hLB:=LB_eq
 refine C_goS (nt:=99) (rs:=[.tmp 4]) hm Tryz.func147 rfl rfl rfl rfl rfl (fun hl he=>?_)
 simp -implicitDefEqProofs only [go_sem,Z1,Z2,Z3,Z4] at hl ⊢
 repeat (with_reducible apply And.intro; case left=>omega)
 rcases Classical.em (n < 1) with h3 | h3
 ·have e:pickV b p n = 0:=by rw [pickV,if_pos h3]
  simp -implicitDefEqProofs only [go_sem,Z1,Z2,Z3,Z4,h3]
  refine finM' [some 0] ?_ rfl rfl
  simp -implicitDefEqProofs only [go_sem,Z1,Z2,Z3,Z4]
  rw [e]
 rcases Classical.em (b.length = 0) with h4 | h4
 ·have e:pickV b p n = 0:=by rw [pickV,if_neg h3,if_pos h4]
  have k4:((b.length:Int) = 0) = True:=eq_true (by omega)
  simp -implicitDefEqProofs only [go_sem,Z1,Z2,Z3,Z4,h3,k4]
  refine finM' [some 0] ?_ rfl rfl
  simp -implicitDefEqProofs only [go_sem,Z1,Z2,Z3,Z4]
  rw [e]
 have h4':¬ (b.length:Int) = 0:=by omega
 have q1:p + 1 - 1 = p:=by omega
 simp -implicitDefEqProofs only [go_sem,Z1,Z2,Z3,Z4,h3,h4',q1]
 rcases Classical.em (p < b.length) with h5 | h5
 ·have e:pickV b p n = (b.getD p.toNat 0).tmod n:=by rw [pickV,if_neg h3,if_neg h4,if_pos h5]
  have hl:p.toNat < b.length:=by omega
  have hg:=hb.getD p.toNat
  have hr:=byD_getD hl
  have w0:IntKind.i64.wrap (b.getD p.toNat 0) = b.getD p.toNat 0:=wrap_i64 ⟨by omega,by omega⟩
  simp -implicitDefEqProofs only [go_sem,Z1,Z2,Z3,Z4,h5,hr,w0]
  repeat (with_reducible apply And.intro; case left=>omega)
  refine finM' [some 0] ?_ rfl rfl
  simp -implicitDefEqProofs only [go_sem,Z1,Z2,Z3,Z4]
  rw [e]
 ·have e:pickV b p n = (xorI (pickX b p) ((pickX b p).tdiv 64)).tmod n:=by rw [pickV,if_neg h3,if_neg h4,if_neg h5]
  obtain ⟨x1,x2,x3,x4⟩:=pickX_b hb h1 h2 h4
  have m1:0 ≤ p.tmod b.length ∧ p.tmod b.length < b.length:=⟨Int.tmod_nonneg _ h1,Int.tmod_lt_of_pos _ (by omega)⟩
  have m2:0 ≤ (p * 7 + 3).tmod b.length ∧ (p * 7 + 3).tmod b.length < b.length:=⟨Int.tmod_nonneg _ (by omega),Int.tmod_lt_of_pos _ (by omega)⟩
  have l1:(p.tmod b.length).toNat < b.length:=by omega
  have l2:((p * 7 + 3).tmod b.length).toNat < b.length:=by omega
  have hr1:=byD_getD l1
  have hr2:=byD_getD l2
  have g1:=hb.getD (p.tmod b.length).toNat
  have g2:=hb.getD ((p * 7 + 3).tmod b.length).toNat
  have d1:0 ≤ (pickX b p).tdiv 64 ∧ (pickX b p).tdiv 64 ≤ pickX b p:=by
   rw [Int.tdiv_eq_ediv_of_nonneg x3]
   omega
  have ex:pickX b p = b.getD (p.tmod b.length).toNat 0 * 131 + b.getD ((p * 7 + 3).tmod b.length).toNat 0 * 1117 + p * 29 + p.tdiv b.length * 53:=rfl
  have w1:IntKind.i64.wrap (b.getD (p.tmod b.length).toNat 0) = b.getD (p.tmod b.length).toNat 0:=wrap_i64 ⟨by omega,by omega⟩
  have w2:IntKind.i64.wrap (b.getD ((p * 7 + 3).tmod b.length).toNat 0) = b.getD ((p * 7 + 3).tmod b.length).toNat 0:=wrap_i64 ⟨by omega,by omega⟩
  simp -implicitDefEqProofs only [go_sem,Z1,Z2,Z3,Z4,h5,hr1,hr2,w1,w2]
  repeat (first | with_reducible refine ind_andM (by kernel_rfl) ?_ | (with_reducible apply And.intro; case left=>omega))
  rw [← ex]
  repeat (with_reducible apply And.intro; case left=>omega)
  refine atXor (pickX b p) ((pickX b p).tdiv 64) (by simp -implicitDefEqProofs only [go_sem,Z1,Z2,Z3,Z4]) (by simp -implicitDefEqProofs only [go_sem,Z1,Z2,Z3,Z4]) (by omega) (by omega) (by omega) (by omega) ?_
  simp -implicitDefEqProofs only [go_sem,Z1,Z2,Z3,Z4]
  repeat (with_reducible apply And.intro; case left=>omega)
  refine finM' [some 0] ?_ rfl rfl
  simp -implicitDefEqProofs only [go_sem,Z1,Z2,Z3,Z4]
  rw [e]
theorem c_num (b:List Int) (p:Int) (l:List Int) (hb:OkB b) (h1:0 ≤ p) (h2:p ≤ 1000000000) (hl:l ≠ []) (hl2:l.length ≤ 100):C E.P 194 [.ptr 0 0,lv (litI l)] [some (rdE b p)] (Eq2 (iv (numV b p l)) [some (rdE b (p + 1))]):=by
 have hn:1 ≤ l.length:=by cases l with | nil=>exact (hl rfl).elim | cons=>simp
 obtain ⟨k,e,hk⟩:=pickN_b hb (p:=p) (n:=l.length) h1 hn
 have hL:(litI l).length = l.length:=by simp [litI,rowsI]
 have hr:row (litI l) k = [.val (.int .i64 (numV b p l))]:=by
  rw [litI,rowsI_row hk,numV,e,Int.toNat_natCast,List.getD_eq_getElem?_getD,List.getElem?_eq_getElem hk]
  rfl
 have hLB:=LB_eq
 refine C_goS (nt:=12) (rs:=[.tmp 4]) hm Tryz.func194 rfl rfl rfl rfl rfl (fun hl he=>?_)
 simp -implicitDefEqProofs only [go_sem,Z1,Z2,Z3,Z4] at hl ⊢
 simp -implicitDefEqProofs only [go_sem,Z1,Z2,Z3,Z4,hL]
 refine atOwn [] [0] (c_pick b p l.length hb h1 h2) ?_ ?_ <;> simp -implicitDefEqProofs only [go_sem,Z1,Z2,Z3,Z4]
 rw [e]
 simp -implicitDefEqProofs only [go_sem,Z1,Z2,Z3,Z4,hL,hk,hr]
 refine finM' [some 0] ?_ rfl rfl
 simp -implicitDefEqProofs only [go_sem,Z1,Z2,Z3,Z4]
theorem c_of (b:List Int) (p:Int) (l:List Str) (hb:OkB b) (h1:0 ≤ p) (h2:p ≤ 1000000000) (hl:l ≠ []) (hl2:l.length ≤ 100):C E.P 193 [.ptr 0 0,lv (litS l)] [some (rdE b p)] (Eq2 (sv (ofV b p l)) [some (rdE b (p + 1))]):=by
 have hn:1 ≤ l.length:=by cases l with | nil=>exact (hl rfl).elim | cons=>simp
 obtain ⟨k,e,hk⟩:=pickN_b hb (p:=p) (n:=l.length) h1 hn
 have hL:(litS l).length = l.length:=by simp [litS,rowsS]
 have hr:row (litS l) k = [.str (ofV b p l)]:=by
  rw [litS,rowsS_row hk,ofV,e,Int.toNat_natCast,List.getD_eq_getElem?_getD,List.getElem?_eq_getElem hk]
  rfl
 have hLB:=LB_eq
 refine C_goS (nt:=12) (rs:=[.tmp 4]) hm Tryz.func193 rfl rfl rfl rfl rfl (fun hl he=>?_)
 simp -implicitDefEqProofs only [go_sem,Z1,Z2,Z3,Z4] at hl ⊢
 simp -implicitDefEqProofs only [go_sem,Z1,Z2,Z3,Z4,hL]
 refine atOwn [] [0] (c_pick b p l.length hb h1 h2) ?_ ?_ <;> simp -implicitDefEqProofs only [go_sem,Z1,Z2,Z3,Z4]
 rw [e]
 simp -implicitDefEqProofs only [go_sem,Z1,Z2,Z3,Z4,hL,hk,hr]
 refine finM' [some 0] ?_ rfl rfl
 simp -implicitDefEqProofs only [go_sem,Z1,Z2,Z3,Z4]
theorem c_spec_l16Open (b:List Int) (hb:∀ x ∈ b,0 ≤ x ∧ x ≤ 255) (hl9:b.length ≤ 2000000):C E.P 78 [lv (byD b)] [] (Eq2 (.ptr 0 0) [some (rdE (b.take 2000) 0)]):=by
 have hLB:=LB_eq
 refine C_goS (nt:=11) (rs:=[.tmp 2]) hm Tryz.func78 rfl rfl rfl rfl rfl (fun hl he=>?_)
 simp -implicitDefEqProofs only [go_sem,Z1,Z2,Z3,Z4] at hl ⊢
 rcases Classical.em ((2000:Int) < (b.length:Int)) with h1 | h1
 ·have h1n:2000 ≤ b.length:=by omega
  have hall:∀ y ∈ byD b,y.length = 1:=by
   intro y hy
   obtain ⟨x,_,rfl⟩:=List.mem_map.1 hy
   rfl
  simp -implicitDefEqProofs only [go_sem,Z1,Z2,Z3,Z4,h1]
  refine And.intro ⟨by omega,hall⟩ ?_
  refine finM' [some 0] ?_ rfl rfl
  simp -implicitDefEqProofs only [go_sem,Z1,Z2,Z3,Z4]
  simp [byD]
 ·have e:b.take 2000 = b:=List.take_of_length_le (by omega)
  simp -implicitDefEqProofs only [go_sem,Z1,Z2,Z3,Z4,h1]
  refine finM' [some 0] ?_ rfl rfl
  simp -implicitDefEqProofs only [go_sem,Z1,Z2,Z3,Z4]
  rw [e]
theorem openOk {b:List Int} (hb:∀ x ∈ b,0 ≤ x ∧ x ≤ 255):OkB (b.take 2000):=⟨by rw [List.length_take]; omega,fun x hx=>hb x (List.mem_of_mem_take hx)⟩
theorem c_spec_l4Base (k:Int):C E.P 195 [iv k] [] (Eq2 (av (cSig (baseS k))) []):=by
 have hLB:=LB_eq
 refine C_goS (nt:=47) (rs:=[.cell 2 25]) hm Tryz.func195 rfl rfl rfl rfl rfl (fun hl he=>?_)
 simp -implicitDefEqProofs only [go_sem,Z1,Z2,Z3,Z4] at hl ⊢
 rcases Classical.em (k = 0) with h0 | h0
 ·have k0:=eq_true h0
  simp -implicitDefEqProofs only [go_sem,Z1,Z2,Z3,Z4,k0]
  refine fin1' ?_
  simp -implicitDefEqProofs only [go_sem,Z1,Z2,Z3,Z4]
  rw [baseS,if_pos h0]
  rfl
 rcases Classical.em (k = 1) with h1 | h1
 ·have k1:=eq_true h1
  simp -implicitDefEqProofs only [go_sem,Z1,Z2,Z3,Z4,h0,k1]
  refine fin1' ?_
  simp -implicitDefEqProofs only [go_sem,Z1,Z2,Z3,Z4]
  rw [baseS,if_neg h0,if_pos h1]
  rfl
 rcases Classical.em (k = 2) with h2 | h2
 ·have k2:=eq_true h2
  simp -implicitDefEqProofs only [go_sem,Z1,Z2,Z3,Z4,h0,h1,k2]
  refine fin1' ?_
  simp -implicitDefEqProofs only [go_sem,Z1,Z2,Z3,Z4]
  rw [baseS,if_neg h0,if_neg h1,if_pos h2]
  rfl
 rcases Classical.em (k = 3) with h3 | h3
 ·have k3:=eq_true h3
  simp -implicitDefEqProofs only [go_sem,Z1,Z2,Z3,Z4,h0,h1,h2,k3]
  refine fin1' ?_
  simp -implicitDefEqProofs only [go_sem,Z1,Z2,Z3,Z4]
  rw [baseS,if_neg h0,if_neg h1,if_neg h2,if_pos h3]
  rfl
 ·simp -implicitDefEqProofs only [go_sem,Z1,Z2,Z3,Z4,h0,h1,h2,h3]
  refine fin1' ?_
  simp -implicitDefEqProofs only [go_sem,Z1,Z2,Z3,Z4]
  rw [baseS,if_neg h0,if_neg h1,if_neg h2,if_neg h3]
  rfl
theorem c_spec_l4Sig (b:List Int) (p:Int) (hb:OkB b) (h1:0 ≤ p) (h2:p ≤ 1000000000):C E.P 137 [.ptr 0 0] [some (rdE b p)] (Eq2 (av (cSig (sigS b p).1)) [some (rdE b (sigS b p).2)]):=by
 have hLB:=LB_eq
 refine C_goS (nt:=7) (rs:=[.cell 2 25]) hm Tryz.func137 rfl rfl rfl rfl rfl (fun hl he=>?_)
 simp -implicitDefEqProofs only [go_sem,Z1,Z2,Z3,Z4] at hl ⊢
 refine atOwn [] [0] (c_num b p [0,0,1,1,2,3,1,4] hb h1 h2 (by simp) (by simp)) ?_ ?_ <;> simp -implicitDefEqProofs only [go_sem,Z1,Z2,Z3,Z4]
 refine atCall [] (c_spec_l4Base (numV b p [0,0,1,1,2,3,1,4])) ?_ ?_ <;> simp -implicitDefEqProofs only [go_sem,Z1,Z2,Z3,Z4]
 refine finM' [some 0] ?_ rfl rfl
 simp -implicitDefEqProofs only [go_sem,Z1,Z2,Z3,Z4]
 exact ⟨rfl,rfl⟩
def wordsI (s:Sig) (sort:Int) (d i:Nat):List Sym:=(s.syms.take i).filter fun x=>decide (x.sort = sort) && (decide (1 < d) || decide (x.args.length = 0))
end Go.Proofs.YtpidddienjoleaaGreat
