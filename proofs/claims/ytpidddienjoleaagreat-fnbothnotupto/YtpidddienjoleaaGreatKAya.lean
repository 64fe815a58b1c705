/-
  The reference: the walks of what is drawn: numbers, words, terms. A step towards the laws. The reference: the walks of what is drawn: atoms. A step towards the laws.
-/
import Derived.Test.YtpidddienjoleaaGreatKAI
import Derived.Test.YtpidddienjoleaaGreatKAEb
import Derived.Test.YtpidddienjoleaaGreatKADa
set_option linter.unusedVariables false
set_option linter.unusedSimpArgs false
namespace Go.Proofs.YtpidddienjoleaaGreat
open Go.Eng Go.Mod
open Int renaming reduceEq → Z1,reduceLT → Z2,reduceLE → Z3,reduceToNat → Z4
set_option maxRecDepth 100000
set_option maxHeartbeats 400000
def rdE (b:List Int) (p:Int):En:=.box [lv (byD b),iv p]
def litI (l:List Int):List (List D):=rowsI l
def litS (l:List Str):List (List D):=rowsS l
theorem litI_nil:litI [] = []:=rfl
theorem litI_cons (n:Int) (l:List Int):litI (n :: l) = [.val (.int .i64 n)] :: litI l:=rfl
theorem litS_nil:litS [] = []:=rfl
theorem litS_cons (n:Str) (l:List Str):litS (n :: l) = [.str n] :: litS l:=rfl
attribute [go_sem] rdE litI_nil litI_cons litS_nil litS_cons
theorem byD_len (b:List Int):(byD b).length = b.length:=by simp [byD]
theorem byD_row {b:List Int} {i:Nat} (h:i < b.length):row (byD b) i = [.val (.int .u8 b[i])]:=by simp [byD,row,List.getD,List.getElem?_eq_getElem h]
attribute [go_sem] byD_len
theorem byD_getD {b:List Int} {i:Nat} (h:i < b.length):row (byD b) i = [.val (.int .u8 (b.getD i 0))]:=by rw [byD_row h,List.getD_eq_getElem?_getD,List.getElem?_eq_getElem h]; rfl
theorem c_pick (b:List Int) (p n:Int) (hb:OkB b) (h1:0 ≤ p) (h2:p ≤ 1000000000):C E.P 147 [.ptr 0 0,iv n] [some (rdE b p)] (Eq2 (iv (pickV b p n)) [some (rdE b (p + 1))]):=by
 have hb1:=hb.len
 have hLB:=LB_eq
 refine C_goS (nt:=99) (rs:=[.tmp 4]) hm Tryz.func147 rfl rfl rfl rfl rfl (fun hl he=>?_)
 simp -implicitDefEqProofs only [go_sem] at hl ⊢
 repeat (with_reducible apply And.intro; case left=>omega)
 rcases Classical.em (n < 1) with h3 | h3
 ·have e:pickV b p n = 0:=by rw [pickV,if_pos h3]
  simp -implicitDefEqProofs only [go_sem,h3]
  refine finM' [some 0] ?_ rfl rfl
  simp -implicitDefEqProofs only [go_sem]
  rw [e]
 rcases Classical.em (b.length = 0) with h4 | h4
 ·have e:pickV b p n = 0:=by rw [pickV,if_neg h3,if_pos h4]
  have k4:((b.length:Int) = 0) = True:=eq_true (by omega)
  simp -implicitDefEqProofs only [go_sem,h3,k4]
  refine finM' [some 0] ?_ rfl rfl
  simp -implicitDefEqProofs only [go_sem]
  rw [e]
 have h4':¬ (b.length:Int) = 0:=by omega
 have q1:p + 1 - 1 = p:=by omega
 simp -implicitDefEqProofs only [go_sem,h3,h4',q1]
 rcases Classical.em (p < b.length) with h5 | h5
 ·have e:pickV b p n = (b.getD p.toNat 0).tmod n:=by rw [pickV,if_neg h3,if_neg h4,if_pos h5]
  have hl:p.toNat < b.length:=by omega
  have hg:=hb.getD p.toNat
  have hr:=byD_getD hl
  have w0:IntKind.i64.wrap (b.getD p.toNat 0) = b.getD p.toNat 0:=wrap_i64 ⟨by omega,by omega⟩
  simp -implicitDefEqProofs only [go_sem,h5,hr,w0]
  repeat (with_reducible apply And.intro; case left=>omega)
  refine finM' [some 0] ?_ rfl rfl
  simp -implicitDefEqProofs only [go_sem]
  rw [e]
 ·have e:pickV b p n = (xorI (pickX b p) ((pickX b p).tdiv 64)).tmod n:=by rw [pickV,if_neg h3,if_neg h4,if_neg h5]
  obtain ⟨x1,x2,x3,x4⟩:=pickX_b hb h1 h2 h4
  have m1:0 ≤ p.tmod b.length ∧ p.tmod b.length < b.length:=⟨Int.tmod_nonneg _ h1,Int.tmod_lt_of_pos _ (by omega)⟩
  have m2:0 ≤ (p * 7 + 3).tmod b.length ∧ (p * 7 + 3).tmod b.length < b.length:=⟨Int.tmod_nonneg _ (by omega),Int.tmod_lt_of_pos _ (by omega)⟩
  have l1:(p.tmod b.length).toNat < b.length:=by omega
  have l2:((p * 7 + 3).tmod b.length).toNat < b.length:=by omega
  have hr1:=byD_getD l1
  have hr2:=byD_getD l2
  have g1:=hb.getD (p.tmod b.length).toNat
  have g2:=hb.getD ((p * 7 + 3).tmod b.length).toNat
  have d1:0 ≤ (pickX b p).tdiv 64 ∧ (pickX b p).tdiv 64 ≤ pickX b p:=by
   rw [Int.tdiv_eq_ediv_of_nonneg x3]
   omega
  have ex:pickX b p = b.getD (p.tmod b.length).toNat 0 * 131 + b.getD ((p * 7 + 3).tmod b.length).toNat 0 * 1117 + p * 29 + p.tdiv b.length * 53:=rfl
  have w1:IntKind.i64.wrap (b.getD (p.tmod b.length).toNat 0) = b.getD (p.tmod b.length).toNat 0:=wrap_i64 ⟨by omega,by omega⟩
  have w2:IntKind.i64.wrap (b.getD ((p * 7 + 3).tmod b.length).toNat 0) = b.getD ((p * 7 + 3).tmod b.length).toNat 0:=wrap_i64 ⟨by omega,by omega⟩
  simp -implicitDefEqProofs only [go_sem,h5,hr1,hr2,w1,w2]
  repeat (first | with_reducible refine ind_andM (by kernel_rfl) ?_ | (with_reducible apply And.intro; case left=>omega))
  rw [← ex]
  repeat (with_reducible apply And.intro; case left=>omega)
  refine atXor (pickX b p) ((pickX b p).tdiv 64) (by simp -implicitDefEqProofs only [go_sem]) (by simp -implicitDefEqProofs only [go_sem]) (by omega) (by omega) (by omega) (by omega) ?_
  simp -implicitDefEqProofs only [go_sem]
  repeat (with_reducible apply And.intro; case left=>omega)
  refine finM' [some 0] ?_ rfl rfl
  simp -implicitDefEqProofs only [go_sem]
  rw [e]
theorem c_num (b:List Int) (p:Int) (l:List Int) (hb:OkB b) (h1:0 ≤ p) (h2:p ≤ 1000000000) (hl:l ≠ []) (hl2:l.length ≤ 100):C E.P 194 [.ptr 0 0,lv (litI l)] [some (rdE b p)] (Eq2 (iv (numV b p l)) [some (rdE b (p + 1))]):=by
 have hn:1 ≤ l.length:=by cases l with | nil=>exact (hl rfl).elim | cons=>simp
 obtain ⟨k,e,hk⟩:=pickN_b hb (p:=p) (n:=l.length) h1 hn
 have hL:(litI l).length = l.length:=by simp [litI,rowsI]
 have hr:row (litI l) k = [.val (.int .i64 (numV b p l))]:=by
  rw [litI,rowsI_row hk,numV,e,Int.toNat_natCast,List.getD_eq_getElem?_getD,List.getElem?_eq_getElem hk]
  rfl
 have hLB:=LB_eq
 refine C_goS (nt:=12) (rs:=[.tmp 4]) hm Tryz.func194 rfl rfl rfl rfl rfl (fun hl he=>?_)
 simp -implicitDefEqProofs only [go_sem] at hl ⊢
 simp -implicitDefEqProofs only [go_sem,hL]
 refine atOwn [] [0] (c_pick b p l.length hb h1 h2) ?_ ?_ <;> simp -implicitDefEqProofs only [go_sem]
 rw [e]
 simp -implicitDefEqProofs only [go_sem,hL,hk,hr]
 refine finM' [some 0] ?_ rfl rfl
 simp -implicitDefEqProofs only [go_sem]
theorem c_of (b:List Int) (p:Int) (l:List Str) (hb:OkB b) (h1:0 ≤ p) (h2:p ≤ 1000000000) (hl:l ≠ []) (hl2:l.length ≤ 100):C E.P 193 [.ptr 0 0,lv (litS l)] [some (rdE b p)] (Eq2 (sv (ofV b p l)) [some (rdE b (p + 1))]):=by
 have hn:1 ≤ l.length:=by cases l with | nil=>exact (hl rfl).elim | cons=>simp
 obtain ⟨k,e,hk⟩:=pickN_b hb (p:=p) (n:=l.length) h1 hn
 have hL:(litS l).length = l.length:=by simp [litS,rowsS]
 have hr:row (litS l) k = [.str (ofV b p l)]:=by
  rw [litS,rowsS_row hk,ofV,e,Int.toNat_natCast,List.getD_eq_getElem?_getD,List.getElem?_eq_getElem hk]
  rfl
 have hLB:=LB_eq
 refine C_goS (nt:=12) (rs:=[.tmp 4]) hm Tryz.func193 rfl rfl rfl rfl rfl (fun hl he=>?_)
 simp -implicitDefEqProofs only [go_sem] at hl ⊢
 simp -implicitDefEqProofs only [go_sem,hL]
 refine atOwn [] [0] (c_pick b p l.length hb h1 h2) ?_ ?_ <;> simp -implicitDefEqProofs only [go_sem]
 rw [e]
 simp -implicitDefEqProofs only [go_sem,hL,hk,hr]
 refine finM' [some 0] ?_ rfl rfl
 simp -implicitDefEqProofs only [go_sem]
theorem c_spec_l16Open (b:List Int) (hb:∀ x ∈ b,0 ≤ x ∧ x ≤ 255) (hl9:b.length ≤ 2000000):C E.P 78 [lv (byD b)] [] (Eq2 (.ptr 0 0) [some (rdE (b.take 2000) 0)]):=by
 have hLB:=LB_eq
 refine C_goS (nt:=11) (rs:=[.tmp 2]) hm Tryz.func78 rfl rfl rfl rfl rfl (fun hl he=>?_)
 simp -implicitDefEqProofs only [go_sem] at hl ⊢
 rcases Classical.em ((2000:Int) < (b.length:Int)) with h1 | h1
 ·have h1n:2000 ≤ b.length:=by omega
  have hall:∀ y ∈ byD b,y.length = 1:=by
   intro y hy
   obtain ⟨x,_,rfl⟩:=List.mem_map.1 hy
   rfl
  simp -implicitDefEqProofs only [go_sem,Z3,Z4,h1]
  refine And.intro ⟨by omega,hall⟩ ?_
  refine finM' [some 0] ?_ rfl rfl
  simp -implicitDefEqProofs only [go_sem]
  simp [byD]
 ·have e:b.take 2000 = b:=List.take_of_length_le (by omega)
  simp -implicitDefEqProofs only [go_sem,h1]
  refine finM' [some 0] ?_ rfl rfl
  simp -implicitDefEqProofs only [go_sem]
  rw [e]
theorem openOk {b:List Int} (hb:∀ x ∈ b,0 ≤ x ∧ x ≤ 255):OkB (b.take 2000):=⟨by rw [List.length_take]; omega,fun x hx=>hb x (List.mem_of_mem_take hx)⟩
theorem c_spec_l4Base (k:Int):C E.P 195 [iv k] [] (Eq2 (av (cSig (baseS k))) []):=by
 have hLB:=LB_eq
 refine C_goS (nt:=47) (rs:=[.cell 2 25]) hm Tryz.func195 rfl rfl rfl rfl rfl (fun hl he=>?_)
 simp -implicitDefEqProofs only [go_sem] at hl ⊢
 rcases Classical.em (k = 0) with h0 | h0
 ·have k0:=eq_true h0
  simp -implicitDefEqProofs only [go_sem,k0]
  refine fin1' ?_
  simp -implicitDefEqProofs only [go_sem]
  rw [baseS,if_pos h0]
  rfl
 rcases Classical.em (k = 1) with h1 | h1
 ·have k1:=eq_true h1
  simp -implicitDefEqProofs only [go_sem,h0,k1]
  refine fin1' ?_
  simp -implicitDefEqProofs only [go_sem]
  rw [baseS,if_neg h0,if_pos h1]
  rfl
 rcases Classical.em (k = 2) with h2 | h2
 ·have k2:=eq_true h2
  simp -implicitDefEqProofs only [go_sem,h0,h1,k2]
  refine fin1' ?_
  simp -implicitDefEqProofs only [go_sem]
  rw [baseS,if_neg h0,if_neg h1,if_pos h2]
  rfl
 rcases Classical.em (k = 3) with h3 | h3
 ·have k3:=eq_true h3
  simp -implicitDefEqProofs only [go_sem,h0,h1,h2,k3]
  refine fin1' ?_
  simp -implicitDefEqProofs only [go_sem]
  rw [baseS,if_neg h0,if_neg h1,if_neg h2,if_pos h3]
  rfl
 ·simp -implicitDefEqProofs only [go_sem,h0,h1,h2,h3]
  refine fin1' ?_
  simp -implicitDefEqProofs only [go_sem]
  rw [baseS,if_neg h0,if_neg h1,if_neg h2,if_neg h3]
  rfl
theorem c_spec_l4Sig (b:List Int) (p:Int) (hb:OkB b) (h1:0 ≤ p) (h2:p ≤ 1000000000):C E.P 137 [.ptr 0 0] [some (rdE b p)] (Eq2 (av (cSig (sigS b p).1)) [some (rdE b (sigS b p).2)]):=by
 have hLB:=LB_eq
 refine C_goS (nt:=7) (rs:=[.cell 2 25]) hm Tryz.func137 rfl rfl rfl rfl rfl (fun hl he=>?_)
 simp -implicitDefEqProofs only [go_sem] at hl ⊢
 refine atOwn [] [0] (c_num b p [0,0,1,1,2,3,1,4] hb h1 h2 (by simp) (by simp)) ?_ ?_ <;> simp -implicitDefEqProofs only [go_sem]
 refine atCall [] (c_spec_l4Base (numV b p [0,0,1,1,2,3,1,4])) ?_ ?_ <;> simp -implicitDefEqProofs only [go_sem]
 refine finM' [some 0] ?_ rfl rfl
 simp -implicitDefEqProofs only [go_sem]
 exact ⟨rfl,rfl⟩
def wordsI (s:Sig) (sort:Int) (d i:Nat):List Sym:=(s.syms.take i).filter fun x=>decide (x.sort = sort) && (decide (1 < d) || decide (x.args.length = 0))
theorem wordsI_succ (s:Sig) (sort:Int) (d i:Nat) (h:i < s.syms.length):wordsI s sort d (i + 1) = wordsI s sort d i ++ (if decide (s.syms[i].sort = sort) && (decide (1 < d) || decide (s.syms[i].args.length = 0)) then [s.syms[i]] else []):=by
 unfold wordsI
 rw [List.take_add_one,List.getElem?_eq_getElem h,List.filter_append]
 congr 1
 simp only [Option.toList_some,List.filter_cons,List.filter_nil]
theorem wordsI_len (s:Sig) (sort:Int) (d i:Nat):(wordsI s sort d i).length ≤ i:=by
 refine Nat.le_trans (List.length_filter_le _ _) ?_
 rw [List.length_take]
 omega
theorem wordsI_all (s:Sig) (sort:Int) (d i:Nat) (h:s.syms.length ≤ i):wordsI s sort d i = wordsS s sort d:=by
 unfold wordsI wordsS
 rw [List.take_of_length_le h]
theorem c_spec_l4Any_O1 (b:List Int) (hb:OkB b) (s:Sig) (hs:SigFair s) (d:Nat) (sort p:Int) (h1:0 ≤ p) (h2:p + 2 ^ (d + 1) ≤ 1000000000)
 (ih:1 ≤ d → ∀ (sort q:Int),0 ≤ q → q + 2 ^ d ≤ 1000000000 → C E.P 210 [.ptr 0 0,av (cSig s),iv sort,iv d] [some (rdE b q)] (Eq2 (av (cT (anyT b s d sort q).1)) [some (rdE b (anyT b s d sort q).2)])) :
 C E.P 210 [.ptr 0 0,av (cSig s),iv sort,iv ((d:Int) + 1)] [some (rdE b p)] (Eq2 (.agg [sv (anyT b s (d + 1) sort p).1.name,.acc 1]) [some (rdE b (anyT b s (d + 1) sort p).2),some (.acc 35 (rowsT (anyT b s (d + 1) sort p).1.kids))]):=by
 obtain ⟨hp,hp2⟩:=two_pow_pos d
 have hdl:(d:Int) < 2 ^ d:=by
  have:=Nat.lt_two_pow_self (n:=d)
  have e:(2:Int) ^ d = ((2 ^ d:Nat):Int):=by simp
  omega
 have hle:s.syms.length ≤ 7:=hs.1
 obtain ⟨ws,hws⟩:∃ ws,wordsS s sort (d + 1) = ws:=⟨_,rfl⟩
 have hwl:ws.length ≤ 7:=by rw [← hws]; exact Nat.le_trans (List.length_filter_le _ _) hle
 have hwm:=fun i=>wordsS_mem (sort:=sort) (d:=d + 1) (i:=i) hs
 rw [hws] at hwm
 have ea:anyT b s (d + 1) sort p = if ws.length = 0 then (.mk [113] [],p) else (.mk (ws.getD (pickV b p ws.length).toNat sym0).name (mapS (anyT b s d) (ws.getD (pickV b p ws.length).toNat sym0).args (p + 1)).1,(mapS (anyT b s d) (ws.getD (pickV b p ws.length).toNat sym0).args (p + 1)).2):=by rw [← hws]; rfl
 have hLB:=LB_eq
 refine C_goS (nt:=89) (rs:=[.cell 8 35]) hm Tryz.func210 rfl rfl rfl rfl rfl (fun hl he=>?_)
 simp -implicitDefEqProofs only [go_sem] at hl ⊢
 refine loop_go1 hm (fun (i:Nat)=> i ≤ s.syms.length) (fun (i:Nat)=> ⟨mkS 89 .any [(0,.ptr 0 0),(2,iv sort),(3,iv ((d:Int) + 1)),(5,.ptr 1 0),(8,.ptr 2 0),(9,.acc 3),(10,iv i)],[some (rdE b p),some (.box (pvs (cSig s))),some (.box [sv [],.nilS]),some (.acc 117 (rowsSym (wordsI s sort (d + 1) i)))]⟩) (fun (i:Nat)=> s.syms.length - i) (0) ?_ (weakS [some 0,some 1,some 2,some 3] ?_ ?_ rfl rfl) ?_
 rotate_left
 ·simp -implicitDefEqProofs only [go_sem]
 ·simp -implicitDefEqProofs only [go_sem]
  all_goals (rfl)
 rotate_left
 ·omega
 ·rintro i hi
  have hfl:=wordsI_len s sort (d + 1) i
  rcases Classical.em (i < s.syms.length) with h3 | h3
  ·have e:=wordsI_succ s sort (d + 1) i h3
   rcases Classical.em (s.syms[i].sort = sort) with h4 | h4
   ·have k4:=eq_true h4
    rcases Classical.em (1 < d + 1) with h5 | h5
    ·have h5':(1:Int) < (d:Int) + 1:=by omega
     rw [if_pos (by simp [h4,h5])] at e
     simp -implicitDefEqProofs only [go_sem,h3,k4,h5']
     repeat (with_reducible apply And.intro; case left=>omega)
     refine ⟨i + 1,?_,?_,weakS [some 0,some 1,some 2,some 4] ?_ ?_ rfl rfl⟩
     rotate_left
     ·show _ < _
      omega
     ·simp -implicitDefEqProofs only [go_sem]
     ·simp -implicitDefEqProofs only [go_sem]
      all_goals ((rw [e,← rowsSym_app]; rfl))
     omega
    ·have h5':¬ (1:Int) < (d:Int) + 1:=by omega
     rcases Classical.em ((s.syms[i].args.length:Int) = 0) with h6 | h6
     ·have h6n:s.syms[i].args.length = 0:=by omega
      have k6:=eq_true h6
      rw [if_pos (by simp [h4,h6n])] at e
      simp -implicitDefEqProofs only [go_sem,h3,k4,h5',k6]
      repeat (with_reducible apply And.intro; case left=>omega)
      refine ⟨i + 1,?_,?_,weakS [some 0,some 1,some 2,some 4] ?_ ?_ rfl rfl⟩
      rotate_left
      ·show _ < _
       omega
      ·simp -implicitDefEqProofs only [go_sem]
      ·simp -implicitDefEqProofs only [go_sem]
       all_goals ((rw [e,← rowsSym_app]; rfl))
      omega
     ·have h6n:¬ s.syms[i].args.length = 0:=by omega
      rw [if_neg (by simp only [h5,h6n,decide_false,Bool.or_self,Bool.and_false]; simp),List.append_nil] at e
      simp -implicitDefEqProofs only [go_sem,h3,k4,h5',h6]
      repeat (with_reducible apply And.intro; case left=>omega)
      refine ⟨i + 1,?_,?_,weakS [some 0,some 1,some 2,some 3] ?_ ?_ rfl rfl⟩
      rotate_left
      ·show _ < _
       omega
      ·simp -implicitDefEqProofs only [go_sem]
      ·simp -implicitDefEqProofs only [go_sem]
       all_goals ((rw [e]))
      omega
   ·rw [if_neg (by simp [h4]),List.append_nil] at e
    simp -implicitDefEqProofs only [go_sem,h3,h4]
    repeat (with_reducible apply And.intro; case left=>omega)
    refine ⟨i + 1,?_,?_,weakS [some 0,some 1,some 2,some 3] ?_ ?_ rfl rfl⟩
    rotate_left
    ·show _ < _
     omega
    ·simp -implicitDefEqProofs only [go_sem]
    ·simp -implicitDefEqProofs only [go_sem]
     all_goals ((rw [e]))
    omega
  ·rw [wordsI_all s sort (d + 1) i (by omega),hws]
   rcases Classical.em (ws.length = 0) with h4 | h4
   ·have k4:((ws.length:Int) = 0) = True:=eq_true (by omega)
    rw [if_pos h4] at ea
    simp -implicitDefEqProofs only [go_sem,h3,k4]
    refine finM' [some 0,none] ?_ rfl rfl
    simp -implicitDefEqProofs only [go_sem]
    rw [ea]
    exact ⟨rfl,rfl,rfl⟩
   ·rw [if_neg h4] at ea
    obtain ⟨k,ek,hk⟩:=pickN_b hb (p:=p) (n:=ws.length) h1 (by omega)
    have ex:ws.getD k sym0 = ws[k]:=by rw [List.getD_eq_getElem?_getD,List.getElem?_eq_getElem hk]; rfl
    obtain ⟨w1,w2⟩:=hwm k
    obtain ⟨w3,w4⟩:=w2 hk
    rw [ex] at w1 w3 w4
    rw [ek,Int.toNat_natCast,ex] at ea
    have h4':¬ (ws.length:Int) = 0:=by omega
    simp -implicitDefEqProofs only [go_sem,h3,h4']
    refine atOwn [] [0] (c_pick b p ws.length hb h1 (by omega)) ?_ ?_ <;> simp -implicitDefEqProofs only [go_sem]
    rw [ek]
    simp -implicitDefEqProofs only [go_sem,hk]
    rw [ea]
    generalize ws[k] = x at w1 w4 ⊢
    refine loop_go1 hm (fun (i:Nat)=> i ≤ x.args.length) (fun (i:Nat)=> ⟨mkS 89 .any [(0,.ptr 0 0),(3,iv ((d:Int) + 1)),(5,.ptr 1 0),(8,.ptr 2 0),(11,.ptr 3 0),(12,.ptr 4 0),(13,iv i)],[some (rdE b (mapS (anyT b s d) (x.args.take i) (p + 1)).2),some (.box (pvs (cSig s))),some (.box [sv [],.nilS]),some (.box (pvs (cSym x))),some (.box [sv x.name,.acc 5]),some (.acc 35 (rowsT (mapS (anyT b s d) (x.args.take i) (p + 1)).1))]⟩) (fun (i:Nat)=> x.args.length - i) (0) ?_ (weakS [some 0,some 1,some 2,some 4,some 5,none] ?_ ?_ rfl rfl) ?_
    rotate_left
    ·simp -implicitDefEqProofs only [go_sem]
    ·simp -implicitDefEqProofs only [go_sem]
     all_goals (exact ⟨rfl,rfl⟩)
    rotate_left
    ·omega
    ·rintro i hi
     have hq:=mapS_b (f:=anyT b s d) (c:=2 ^ d - 1) (fun a p=>anyT_b hs d a p) (x.args.take i) (p + 1)
     have hln:=mapS_len (anyT b s d) (x.args.take i) (p + 1)
     rw [List.length_take] at hln
     rcases Classical.em (i < x.args.length) with h5 | h5
     ·have hd:1 ≤ d:=by
       rcases Nat.eq_zero_or_pos d with rfl | hd
       ·rw [w4 (Nat.le_refl 1)] at h5; simp at h5
       ·exact hd
      have hmul:(((x.args.take i).length:Nat):Int) * (2 ^ d - 1) ≤ 1 * (2 ^ d - 1):=Int.mul_le_mul_of_nonneg_right (by rw [List.length_take]; omega) (by omega)
      have hc:=ih hd x.args[i] (mapS (anyT b s d) (x.args.take i) (p + 1)).2 (by omega) (by omega)
      have hst:=mapS_take (anyT b s d) h5 (p + 1)
      have hsub:((d:Int) + 1 - 1) = (d:Int):=by omega
      have hrows:rowsT (mapS (anyT b s d) (x.args.take i) (p + 1)).1 ++ [cT (anyT b s d x.args[i] (mapS (anyT b s d) (x.args.take i) (p + 1)).2).1] = rowsT (mapS (anyT b s d) (x.args.take (i + 1)) (p + 1)).1:=by
       rw [hst]
       exact (congrArg (rowsT (mapS (anyT b s d) (x.args.take i) (p + 1)).1 ++ ·) (rowsT_cons _ _).symm).trans (rowsT_app _ [_])
      have hq2:(anyT b s d x.args[i] (mapS (anyT b s d) (x.args.take i) (p + 1)).2).2 = (mapS (anyT b s d) (x.args.take (i + 1)) (p + 1)).2:=by rw [hst]
      simp -implicitDefEqProofs only [go_sem,h5,hsub]
      repeat (with_reducible apply And.intro; case left=>omega)
      refine atOwn [] [0] hc ?_ ?_ <;> simp -implicitDefEqProofs only [go_sem]
      repeat (first | with_reducible refine ind_andM (by kernel_rfl) ?_ | (with_reducible apply And.intro; case left=>omega))
      refine ⟨i + 1,?_,?_,weakS [some 0,some 1,some 2,some 3,some 4,some 6] ?_ ?_ rfl rfl⟩
      rotate_left
      ·show _ < _
       omega
      ·simp -implicitDefEqProofs only [go_sem]
      ·simp -implicitDefEqProofs only [go_sem]
       all_goals (exact ⟨by rw [hq2],hrows⟩)
      omega
     ·have et:x.args.take i = x.args:=List.take_of_length_le (by omega)
      rw [et]
      simp -implicitDefEqProofs only [go_sem,h5]
      refine finM' [some 0,some 5] ?_ rfl rfl
      simp -implicitDefEqProofs only [go_sem]
theorem c_spec_l4Any_O (b:List Int) (hb:OkB b) (s:Sig) (hs:SigFair s):∀ (d:Nat) (sort p:Int),1 ≤ d → 0 ≤ p → p + 2 ^ d ≤ 1000000000 →
 C E.P 210 [.ptr 0 0,av (cSig s),iv sort,iv d] [some (rdE b p)] (Eq2 (.agg [sv (anyT b s d sort p).1.name,.acc 1]) [some (rdE b (anyT b s d sort p).2),some (.acc 35 (rowsT (anyT b s d sort p).1.kids))])
 | 0,_,_,hd,_,_=>by omega
 | d + 1,sort,p,_,h1,h2=>c_spec_l4Any_O1 b hb s hs d sort p h1 h2 fun hd sort q g1 g2=>by
   refine (c_spec_l4Any_O b hb s hs d sort q hd g1 g2).weak [some 0] ?_ rfl rfl
   simp -implicitDefEqProofs only [go_sem]
   rfl
theorem c_spec_l4Any (b:List Int) (hb:OkB b) (s:Sig) (hs:SigFair s) (d:Nat) (sort p:Int) (hd:1 ≤ d) (h1:0 ≤ p) (h2:p + 2 ^ d ≤ 1000000000) :
 C E.P 210 [.ptr 0 0,av (cSig s),iv sort,iv d] [some (rdE b p)] (Eq2 (av (cT (anyT b s d sort p).1)) [some (rdE b (anyT b s d sort p).2)]):=by
 refine (c_spec_l4Any_O b hb s hs d sort p hd h1 h2).weak [some 0] ?_ rfl rfl
 simp -implicitDefEqProofs only [go_sem]
 rfl
theorem anyT_kids (b:List Int) {s:Sig} (hs:SigFair s) (d:Nat) (sort p:Int):(anyT b s d sort p).1.kids.length ≤ 2:=by
 cases d with
 | zero=>simp [anyT,Term.kids]
 | succ d=>
   unfold anyT
   split
   ·simp [Term.kids]
   ·simp only [Term.kids,mapS_len]
    exact (wordsS_mem hs).1
end Go.Proofs.YtpidddienjoleaaGreat
namespace Go.Proofs.YtpidddienjoleaaGreat
open Go.Eng Go.Mod
open Int renaming reduceEq → Z1,reduceLT → Z2,reduceLE → Z3,reduceToNat → Z4
set_option maxRecDepth 100000
set_option maxHeartbeats 400000
theorem putGo_drop {t:Term} {n:Int} {us:List Term} {ks:List Int} {d:Bool} {i:Nat} (h1:i < us.length) (h2:i < ks.length):putGo t n (us.drop i) (ks.drop i) d =
 ((if !d && !sLess (termText us[i]) (termText t) then [t] else []) ++ ((if decide (termText us[i] ≠ termText t) then [us[i]] else []) ++ (putGo t n (us.drop (i + 1)) (ks.drop (i + 1)) (d || (!d && !sLess (termText us[i]) (termText t)))).1),
  (if !d && !sLess (termText us[i]) (termText t) then [n] else []) ++ ((if decide (termText us[i] ≠ termText t) then [ks[i]] else []) ++ (putGo t n (us.drop (i + 1)) (ks.drop (i + 1)) (d || (!d && !sLess (termText us[i]) (termText t)))).2)):=by
 rw [List.drop_eq_getElem_cons h1,List.drop_eq_getElem_cons h2]
 rfl
theorem putGo_end {t:Term} {n:Int} {us:List Term} {ks:List Int} {d:Bool} {i:Nat} (h1:us.length ≤ i):putGo t n (us.drop i) (ks.drop i) d = if d then ([],[]) else ([t],[n]):=by
 rw [List.drop_of_length_le h1]
 rfl
theorem rowsT_put1 (us:List Term) (t:Term):rowsT us ++ [[D.str t.name,D.lst (rowsT t.kids)]] = rowsT (us ++ [t]):=by rw [← rowsT_app,rowsT_cons,rowsT_nil]; rfl
theorem rowsI_put1 (us:List Int) (n:Int):rowsI us ++ [[D.val (Value.int .i64 n)]] = rowsI (us ++ [n]):=by rw [← rowsI_app]; rfl
theorem c_spec_l6Put_O (k:Int) (nums:List Term) (times:List Int) (bd:Int) (st:Bool) (t:Term) (n:Int) (hl:nums.length = times.length) (hl9:nums.length ≤ 1000) (hsh:∀ u ∈ nums,tShape u 4 = true) (ht:tShape t 4 = true) :
 C E.P 244 [.agg [iv k,sv [],.nilS,sv [],.nilS,.acc 0,.acc 1,iv bd,bv st],av (cT t),iv n] [some (.acc 35 (rowsT nums)),some (.acc 3 (rowsI times))] (Eq2 (.agg [iv k,sv [],.nilS,sv [],.nilS,.acc 2,.acc 3,iv bd,bv st]) [some (.acc 35 (rowsT nums)),some (.acc 3 (rowsI times)),some (.acc 35 (rowsT (putGo t n nums times false).1)),some (.acc 3 (rowsI (putGo t n nums times false).2))]):=by
 have hLB:=LB_eq
 refine C_goS (nt:=90) (rs:=[.cell 6 46]) hm Tryz.func244 rfl rfl rfl rfl rfl (fun hl he=>?_)
 simp -implicitDefEqProofs only [go_sem] at hl ⊢
 refine loop_go3 hm (fun (i:Nat) (dn:Bool) (uk:List Term × List Int)=> i ≤ nums.length ∧ uk.1.length ≤ 2 * i ∧ uk.2.length ≤ 2 * i ∧ putGo t n nums times false = (uk.1 ++ (putGo t n (nums.drop i) (times.drop i) dn).1,uk.2 ++ (putGo t n (nums.drop i) (times.drop i) dn).2)) (fun (i:Nat) (dn:Bool) (uk:List Term × List Int)=> ⟨mkS 90 .any [(2,iv n),(3,.ptr 2 0),(4,.ptr 3 0),(6,.ptr 4 0),(7,.ptr 5 0),(8,bv dn),(9,iv i)],[some (.acc 35 (rowsT nums)),some (.acc 3 (rowsI times)),some (.box [iv k,sv [],.nilS,sv [],.nilS,.acc 0,.acc 1,iv bd,bv st]),some (.box (pvs (cT t))),some (.box [iv 0,sv [],.nilS,sv [],.nilS,.nilS,.nilS,iv 0,bv false]),some (.box [iv k,sv [],.nilS,sv [],.nilS,.acc 6,.acc 7,iv bd,bv st]),some (.acc 35 (rowsT uk.1)),some (.acc 3 (rowsI uk.2))]⟩) (fun (i:Nat) (dn:Bool) (uk:List Term × List Int)=> nums.length - i) (0) (false) (([],[])) ?_ (weakS [some 0,some 1,some 2,some 3,some 4,some 5,none,none] ?_ ?_ rfl rfl) ?_
 rotate_left
 ·simp -implicitDefEqProofs only [go_sem]
 ·simp -implicitDefEqProofs only [go_sem]
 rotate_left
 ·exact ⟨Nat.zero_le _,by simp,by simp,by simp⟩
 ·rintro i dn ⟨us,ks⟩ ⟨hi,b1,b2,hg⟩
  simp only at b1 b2 hg ⊢
  rcases Classical.em (i < nums.length) with h3 | h3
  ·have h4:i < times.length:=by omega
   rw [putGo_drop h3 h4] at hg
   simp -implicitDefEqProofs only [go_sem,h3]
   refine atCall [] (c_spec_l4Text nums[i] 4 (Nat.le_refl _) (hsh _ (List.getElem_mem h3))) ?_ ?_ <;> simp -implicitDefEqProofs only [go_sem]
   cases dn
   ·simp -implicitDefEqProofs only [go_sem]
    refine atCall [] (c_spec_l4Text t 4 (Nat.le_refl _) ht) ?_ ?_ <;> simp -implicitDefEqProofs only [go_sem]
    cases h5:Op.bytesLess (termText nums[i]) (termText t)
    ·have h5':sLess (termText nums[i]) (termText t) = false:=h5
     simp only [h5',Bool.not_false,Bool.and_self,if_true,Bool.or_true] at hg
     obtain ⟨us',hus⟩:∃ z,us ++ [t] = z:=⟨_,rfl⟩
     obtain ⟨ks',hks⟩:∃ z,ks ++ [n] = z:=⟨_,rfl⟩
     have eT:=rowsT_put1 us t
     have eI:=rowsI_put1 ks n
     have lT:us'.length = us.length + 1:=by rw [← hus]; simp
     have lI:ks'.length = ks.length + 1:=by rw [← hks]; simp
     rw [hus] at eT
     rw [hks] at eI
     rw [← List.append_assoc us,hus,← List.append_assoc ks,hks] at hg
     simp -implicitDefEqProofs only [go_sem]
     repeat (with_reducible apply And.intro; case left=>omega)
     simp -implicitDefEqProofs only [go_sem,eT,eI]
     refine atCall [] (c_spec_l4Text t 4 (Nat.le_refl _) ht) ?_ ?_ <;> simp -implicitDefEqProofs only [go_sem]
     rcases Classical.em (termText nums[i] = termText t) with h7 | h7
     ·have k7:=eq_true h7
      rw [decide_eq_false (fun h=>h h7)] at hg
      simp only [Bool.false_eq_true,if_false,List.nil_append] at hg
      simp -implicitDefEqProofs only [go_sem,k7]
      repeat (with_reducible apply And.intro; case left=>omega)
      refine ⟨i + 1,true,(us',ks'),?_,?_,weakS [some 0,some 1,some 2,some 3,some 4,some 5,some 8,some 9] ?_ ?_ rfl rfl⟩
      rotate_left
      ·show _ < _
       omega
      ·simp -implicitDefEqProofs only [go_sem]
      ·simp -implicitDefEqProofs only [go_sem]
      exact ⟨h3,by dsimp only; omega,by dsimp only; omega,hg⟩
     ·rw [decide_eq_true h7] at hg
      simp only [if_true] at hg
      have eo:=rowsT_put1 us' nums[i]
      have ep:=rowsI_put1 ks' times[i]
      simp -implicitDefEqProofs only [go_sem,h7,h3,h4]
      repeat (first | with_reducible refine ind_andM (by kernel_rfl) ?_ | (with_reducible apply And.intro; case left=>omega))
      refine ⟨i + 1,true,(us' ++ [nums[i]],ks' ++ [times[i]]),?_,?_,weakS [some 0,some 1,some 2,some 3,some 4,some 5,some 10,some 11] ?_ ?_ rfl rfl⟩
      rotate_left
      ·show _ < _
       omega
      ·simp -implicitDefEqProofs only [go_sem]
      ·simp -implicitDefEqProofs only [go_sem]
       all_goals (exact ⟨eo,ep⟩)
      exact ⟨h3,by simp; omega,by simp; omega,by simpa using hg⟩
    ·have h5':sLess (termText nums[i]) (termText t) = true:=h5
     simp only [h5',Bool.not_true,Bool.and_false,Bool.false_eq_true,if_false,Bool.or_false,List.nil_append] at hg
     simp -implicitDefEqProofs only [go_sem]
     refine atCall [] (c_spec_l4Text t 4 (Nat.le_refl _) ht) ?_ ?_ <;> simp -implicitDefEqProofs only [go_sem]
     rcases Classical.em (termText nums[i] = termText t) with h7 | h7
     ·have k7:=eq_true h7
      rw [decide_eq_false (fun h=>h h7)] at hg
      simp only [Bool.false_eq_true,if_false,List.nil_append] at hg
      simp -implicitDefEqProofs only [go_sem,k7]
      repeat (with_reducible apply And.intro; case left=>omega)
      refine ⟨i + 1,false,(us,ks),?_,?_,weakS [some 0,some 1,some 2,some 3,some 4,some 5,some 6,some 7] ?_ ?_ rfl rfl⟩
      rotate_left
      ·show _ < _
       omega
      ·simp -implicitDefEqProofs only [go_sem]
      ·simp -implicitDefEqProofs only [go_sem]
      exact ⟨h3,by dsimp only; omega,by dsimp only; omega,hg⟩
     ·rw [decide_eq_true h7] at hg
      simp only [if_true] at hg
      have eo:=rowsT_put1 us nums[i]
      have ep:=rowsI_put1 ks times[i]
      simp -implicitDefEqProofs only [go_sem,h7,h3,h4]
      repeat (first | with_reducible refine ind_andM (by kernel_rfl) ?_ | (with_reducible apply And.intro; case left=>omega))
      refine ⟨i + 1,false,(us ++ [nums[i]],ks ++ [times[i]]),?_,?_,weakS [some 0,some 1,some 2,some 3,some 4,some 5,some 8,some 9] ?_ ?_ rfl rfl⟩
      rotate_left
      ·show _ < _
       omega
      ·simp -implicitDefEqProofs only [go_sem]
      ·simp -implicitDefEqProofs only [go_sem]
       all_goals (exact ⟨eo,ep⟩)
      exact ⟨h3,by simp; omega,by simp; omega,by simpa using hg⟩
   ·simp only [Bool.not_true,Bool.false_and,Bool.false_eq_true,if_false,Bool.true_or,List.nil_append] at hg
    simp -implicitDefEqProofs only [go_sem]
    refine atCall [] (c_spec_l4Text t 4 (Nat.le_refl _) ht) ?_ ?_ <;> simp -implicitDefEqProofs only [go_sem]
    rcases Classical.em (termText nums[i] = termText t) with h7 | h7
    ·have k7:=eq_true h7
     rw [decide_eq_false (fun h=>h h7)] at hg
     simp only [Bool.false_eq_true,if_false,List.nil_append] at hg
     simp -implicitDefEqProofs only [go_sem,k7]
     repeat (with_reducible apply And.intro; case left=>omega)
     refine ⟨i + 1,true,(us,ks),?_,?_,weakS [some 0,some 1,some 2,some 3,some 4,some 5,some 6,some 7] ?_ ?_ rfl rfl⟩
     rotate_left
     ·show _ < _
      omega
     ·simp -implicitDefEqProofs only [go_sem]
     ·simp -implicitDefEqProofs only [go_sem]
     exact ⟨h3,by dsimp only; omega,by dsimp only; omega,hg⟩
    ·rw [decide_eq_true h7] at hg
     simp only [if_true] at hg
     have eo:=rowsT_put1 us nums[i]
     have ep:=rowsI_put1 ks times[i]
     simp -implicitDefEqProofs only [go_sem,h7,h3,h4]
     repeat (first | with_reducible refine ind_andM (by kernel_rfl) ?_ | (with_reducible apply And.intro; case left=>omega))
     refine ⟨i + 1,true,(us ++ [nums[i]],ks ++ [times[i]]),?_,?_,weakS [some 0,some 1,some 2,some 3,some 4,some 5,some 8,some 9] ?_ ?_ rfl rfl⟩
     rotate_left
     ·show _ < _
      omega
     ·simp -implicitDefEqProofs only [go_sem]
     ·simp -implicitDefEqProofs only [go_sem]
      all_goals (exact ⟨eo,ep⟩)
     exact ⟨h3,by simp; omega,by simp; omega,by simpa using hg⟩
  ·rw [putGo_end (by omega)] at hg
   rw [hg]
   cases dn
   ·simp -implicitDefEqProofs only [go_sem,h3]
    repeat (with_reducible apply And.intro; case left=>omega)
    refine finM' [some 0,some 1,some 8,some 9] ?_ rfl rfl
    simp -implicitDefEqProofs only [go_sem]
    exact ⟨rowsT_put1 _ _,rowsI_put1 _ _⟩
   ·simp -implicitDefEqProofs only [go_sem,h3]
    refine finM' [some 0,some 1,some 6,some 7] ?_ rfl rfl
    simp -implicitDefEqProofs only [go_sem]
theorem deep3 {b:List Int} (hb:OkB b) {p:Int} (h1:0 ≤ p) {l:List Int} (hl:l ≠ []) (hd:∀ x ∈ l,1 ≤ x ∧ x ≤ 4):∃ d:Nat,numV b p l = d ∧ 1 ≤ d ∧ d ≤ 4 ∧ (2:Int) ^ d ≤ 16:=by
 obtain ⟨d,e,h2,h3⟩:=deep_of hb h1 hl hd
 refine ⟨d,e,h2,h3,?_⟩
 have:=Nat.pow_le_pow_right (n:=2) (by omega) h3
 have e:(2:Int) ^ d = ((2 ^ d:Nat):Int):=by simp
 omega
theorem c_spec_l6Any_O (b:List Int) (hb:OkB b) (s:Sig) (hs:SigFair s) (p:Int) (h1:0 ≤ p) (h2:p ≤ 900000000) :
 C E.P 208 [.ptr 0 0,av (cSig s)] [some (rdE b p)] (Eq2 (.agg [iv (anyA b s p).1.kind,sv (anyA b s p).1.A.name,lv (rowsT (anyA b s p).1.A.kids),sv (anyA b s p).1.B.name,lv (rowsT (anyA b s p).1.B.kids),.acc 1,.acc 2,iv (anyA b s p).1.bound,bv (anyA b s p).1.strict])
   [some (rdE b (anyA b s p).2),some (.acc 35 (rowsT (anyA b s p).1.nums)),some (.acc 3 (rowsI (anyA b s p).1.times))]):=by
 obtain ⟨y,e0⟩:∃ y,anyA b s p = y:=⟨_,rfl⟩
 have ea:=e0
 unfold anyA at ea
 rcases Classical.em (pickV b p 2 = 0) with c0 | c0
 ·have k0:=eq_true c0
  rw [if_pos c0] at ea
  obtain ⟨d1,ed1,d11,d12,d13⟩:=deep3 hb (p:=p + 2) (by omega) (l:=[1,2]) (by simp) (by decide)
  simp only [ed1,Int.toNat_natCast] at ea
  have x1:=c_spec_l4Any b hb s hs d1 (pickV b (p + 1) 2) (p + 3) d11 (by omega) (by omega)
  have x2:=anyT_b4 (b:=b) hs (d:=d1) (by omega) (pickV b (p + 1) 2) (p + 3)
  obtain ⟨x,hx⟩:∃ x,anyT b s d1 (pickV b (p + 1) 2) (p + 3) = x:=⟨_,rfl⟩
  rw [hx] at ea x1 x2
  obtain ⟨d2,ed2,d21,d22,d23⟩:=deep3 hb (p:=x.2) (by omega) (l:=[1,1,2]) (by simp) (by decide)
  simp only [ed2,Int.toNat_natCast] at ea
  have y1:=c_spec_l4Any b hb s hs d2 (pickV b (p + 1) 2) (x.2 + 1) d21 (by omega) (by omega)
  rw [e0,← ea]
  have q2:p + 1 + 1 = p + 2:=by omega
  have q3:p + 2 + 1 = p + 3:=by omega
  have hLB:=LB_eq
  refine C_goS (nt:=54) (rs:=[.cell 4 46]) hm Tryz.func208 rfl rfl rfl rfl rfl (fun hl he=>?_)
  simp -implicitDefEqProofs only [go_sem] at hl ⊢
  refine atOwn [] [0] (c_pick b p 2 hb h1 (by omega)) ?_ ?_ <;> simp -implicitDefEqProofs only [go_sem,k0]
  refine atOwn [] [0] (c_pick b (p + 1) 2 hb (by omega) (by omega)) ?_ ?_ <;> simp -implicitDefEqProofs only [go_sem,q2]
  refine atOwn [] [0] (c_num b (p + 2) [1,2] hb (by omega) (by omega) (by simp) (by simp)) ?_ ?_ <;> simp -implicitDefEqProofs only [go_sem,ed1,q3]
  refine atOwn [] [0] x1 ?_ ?_ <;> simp -implicitDefEqProofs only [go_sem]
  refine atOwn [] [0] (c_num b x.2 [1,1,2] hb (by omega) (by omega) (by simp) (by simp)) ?_ ?_ <;> simp -implicitDefEqProofs only [go_sem,ed2]
  refine atOwn [] [0] y1 ?_ ?_ <;> simp -implicitDefEqProofs only [go_sem]
  with_reducible refine ind_andM (by kernel_rfl) ?_
  refine finM' [some 0,none,none] ?_ rfl rfl
  simp -implicitDefEqProofs only [go_sem]
 ·rw [if_neg c0] at ea
  obtain ⟨N,eN,n1,n2⟩:=deep_of hb (p:=p + 3) (by omega) (l:=[1,2,2,3]) (by simp) (by decide)
  simp only [eN,Int.toNat_natCast] at ea
  obtain ⟨bd,hbd⟩:∃ x,numV b (p + 1) [0,1,-1,2,3,-4] = x:=⟨_,rfl⟩
  obtain ⟨sb,hsb⟩:∃ x,decide (pickV b (p + 2) 3 = 0) = x:=⟨_,rfl⟩
  rw [hbd,hsb] at ea
  rw [e0,← ea]
  have q2:p + 1 + 1 = p + 2:=by omega
  have q3:p + 2 + 1 = p + 3:=by omega
  have q4:p + 3 + 1 = p + 4:=by omega
  have hLB:=LB_eq
  refine C_goS (nt:=54) (rs:=[.cell 4 46]) hm Tryz.func208 rfl rfl rfl rfl rfl (fun hl he=>?_)
  simp -implicitDefEqProofs only [go_sem] at hl ⊢
  refine atOwn [] [0] (c_pick b p 2 hb h1 (by omega)) ?_ ?_ <;> simp -implicitDefEqProofs only [go_sem,c0]
  refine atOwn [] [0] (c_num b (p + 1) [0,1,-1,2,3,-4] hb (by omega) (by omega) (by simp) (by simp)) ?_ ?_ <;> simp -implicitDefEqProofs only [go_sem,hbd,q2]
  refine atOwn [] [0] (c_pick b (p + 2) 3 hb (by omega) (by omega)) ?_ ?_ <;> simp -implicitDefEqProofs only [go_sem,q3,hsb]
  refine atOwn [] [0] (c_num b (p + 3) [1,2,2,3] hb (by omega) (by omega) (by simp) (by simp)) ?_ ?_ <;> simp -implicitDefEqProofs only [go_sem,eN,q4]
  refine loop_go3 hm (fun (j:Nat) (q:Int) (uk:List Term × List Int)=> j ≤ N ∧ 0 ≤ q ∧ q ≤ p + 4 + (N - j) * 17 ∧ SumFair (N - j) ⟨2,term0,term0,uk.1,uk.2,bd,sb⟩ ∧ iterS (sumStep b s) N ⟨2,term0,term0,[],[],bd,sb⟩ (p + 4) = iterS (sumStep b s) j ⟨2,term0,term0,uk.1,uk.2,bd,sb⟩ q) (fun (j:Nat) (q:Int) (uk:List Term × List Int)=> ⟨mkS 54 .any [(0,.ptr 0 0),(3,.ptr 1 0),(4,.ptr 2 0),(6,.ptr 3 0),(7,iv j)],[some (rdE b q),some (.box (pvs (cSig s))),some (.box [iv 0,sv [],.nilS,sv [],.nilS,.nilS,.nilS,iv 0,bv false]),some (.box [iv 2,sv [],.nilS,sv [],.nilS,.acc 4,.acc 5,iv bd,bv sb]),some (.acc 35 (rowsT uk.1)),some (.acc 3 (rowsI uk.2))]⟩) (fun (j:Nat) (q:Int) (uk:List Term × List Int)=> j) (N) (p + 4) (([],[])) ?_ (weakS [some 0,some 1,some 2,some 3,none,none] ?_ ?_ rfl rfl) ?_
  rotate_left
  ·simp -implicitDefEqProofs only [go_sem]
  ·simp -implicitDefEqProofs only [go_sem]
  rotate_left
  ·exact ⟨Nat.le_refl _,by omega,by omega,⟨rfl,by simp,by simp⟩,rfl⟩
  ·rintro j q ⟨us,ks⟩ ⟨hj,hq1,hq2,hf,hg⟩
   simp only at hf hg ⊢
   rcases Classical.em ((0:Int) < (j:Int)) with h3 | h3
   ·obtain ⟨j,rfl⟩:∃ j',j = j' + 1:=⟨j - 1,by omega⟩
    have hfew:us.length ≤ N - (j + 1):=hf.few
    have hlen:us.length = ks.length:=hf.len
    obtain ⟨d1,ed1,d11,d12,d13⟩:=deep3 hb (p:=q) hq1 (l:=[1,1,2]) (by simp) (by decide)
    have x1:=c_spec_l4Any b hb s hs d1 1 (q + 1) d11 (by omega) (by omega)
    have x2:=anyT_b4 (b:=b) hs (d:=d1) (by omega) 1 (q + 1)
    have x3:=anyT_shape hb hs d1 1 (q + 1) (by omega) d11
    have sf:=sumStep_fair hb hs (m:=N - (j + 1)) (p:=q) hq1 hf
    have sb2:=sumStep_b hb hs (a:=⟨2,term0,term0,us,ks,bd,sb⟩) (p:=q) hq1
    rw [iterS] at hg
    have est:sumStep b s ⟨2,term0,term0,us,ks,bd,sb⟩ q = (⟨2,term0,term0,(putGo (anyT b s d1 1 (q + 1)).1 (numV b (anyT b s d1 1 (q + 1)).2 [1,-1,1,-1,2,-2]) us ks false).1,(putGo (anyT b s d1 1 (q + 1)).1 (numV b (anyT b s d1 1 (q + 1)).2 [1,-1,1,-1,2,-2]) us ks false).2,bd,sb⟩,(anyT b s d1 1 (q + 1)).2 + 1):=by
     simp only [sumStep,ed1,Int.toNat_natCast,putA]
    rw [est] at hg sf sb2
    simp only at hg sf sb2
    obtain ⟨x,hx⟩:∃ x,anyT b s d1 1 (q + 1) = x:=⟨_,rfl⟩
    rw [hx] at x1 x2 x3 hg sf sb2
    have hput:=c_spec_l6Put_O 2 us ks bd sb x.1 (numV b x.2 [1,-1,1,-1,2,-2]) hlen (by omega) hf.sh (tShape_le d12 x3)
    have hjs:((j:Int) + 1 - 1) = (j:Int):=by omega
    have h3:(0:Int) < (j:Int) + 1:=by omega
    simp -implicitDefEqProofs only [go_sem,h3]
    refine atOwn [] [0] (c_num b q [1,1,2] hb hq1 (by omega) (by simp) (by simp)) ?_ ?_ <;> simp -implicitDefEqProofs only [go_sem,ed1]
    refine atOwn [] [0] x1 ?_ ?_ <;> simp -implicitDefEqProofs only [go_sem]
    refine atOwn [] [0] (c_num b x.2 [1,-1,1,-1,2,-2] hb (by omega) (by omega) (by simp) (by simp)) ?_ ?_ <;> simp -implicitDefEqProofs only [go_sem]
    refine atOwn [] [4,5,6,7] hput ?_ ?_
    ·simp -implicitDefEqProofs only [go_sem]
     first | rfl | ((repeat' apply And.intro) <;> rfl)
    simp -implicitDefEqProofs only [go_sem]
    with_reducible refine ind_andM (by kernel_rfl) ?_
    repeat (with_reducible apply And.intro; case left=>omega)
    simp -implicitDefEqProofs only [go_sem,hjs]
    refine ⟨j,x.2 + 1,(putGo x.1 (numV b x.2 [1,-1,1,-1,2,-2]) us ks false),?_,?_,weakS [some 0,some 1,some 2,some 3,some 6,some 7] ?_ ?_ rfl rfl⟩
    rotate_left
    ·show _ < _
     omega
    ·simp -implicitDefEqProofs only [go_sem]
    ·simp -implicitDefEqProofs only [go_sem]
    refine ⟨by omega,by omega,by omega,?_,hg⟩
    have e:N - (j + 1) + 1 = N - j:=by omega
    rw [e] at sf
    exact sf
   ·obtain rfl:j = 0:=by omega
    rw [iterS] at hg
    rw [hg]
    simp -implicitDefEqProofs only [go_sem,Z2]
    refine finM' [some 0,some 4,some 5] ?_ rfl rfl
    simp -implicitDefEqProofs only [go_sem]
theorem c_spec_l6Any (b:List Int) (hb:OkB b) (s:Sig) (hs:SigFair s) (p:Int) (h1:0 ≤ p) (h2:p ≤ 900000000) :
 C E.P 208 [.ptr 0 0,av (cSig s)] [some (rdE b p)] (Eq2 (av (cAtom (anyA b s p).1)) [some (rdE b (anyA b s p).2)]):=by
 refine (c_spec_l6Any_O b hb s hs p h1 h2).weak [some 0] ?_ rfl rfl
 simp -implicitDefEqProofs only [go_sem]
 exact ⟨rfl,rfl⟩
end Go.Proofs.YtpidddienjoleaaGreat
