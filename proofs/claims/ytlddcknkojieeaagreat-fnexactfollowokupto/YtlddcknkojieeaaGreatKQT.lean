/-
  The reference: the walks of what is told of numbers. A step towards the exact laws. The reference: the walks of certificates. A step towards the exact laws.
-/
import Derived.Test.YtlddcknkojieeaaGreatKQP
import Derived.Test.YtlddcknkojieeaaGreatKQQ
import Derived.Test.YtlddcknkojieeaaGreatKQE
import Derived.Test.YtlddcknkojieeaaGreatKQD
import Derived.Test.YtlddcknkojieeaaGreatKQS
set_option linter.unusedVariables false
set_option linter.unusedSimpArgs false
namespace Go.Proofs.YtlddcknkojieeaaGreat
open Go.Eng Go.Mod
open Int renaming reduceEq → Z1,reduceLT → Z2,reduceLE → Z3,reduceToNat → Z4
set_option maxRecDepth 100000
set_option maxHeartbeats 400000
theorem c_spec_l8Eqs (lits:List LitD) (hl1:lits.length ≤ 100):C E.P 134 [lv (rowsLit lits)] [] (Eq2 (lv (rowsEq (eqsOf lits))) []):=by
 have hLB:=LB_eq
 refine C_goS (nt:=44) (rs:=[.tmp 2]) hm Tryz.func134 rfl rfl rfl rfl rfl (fun hl he=>?_)
 simp -implicitDefEqProofs only [go_sem] at hl ⊢
 refine loop_go1 hm (fun (i:Nat)=> i ≤ lits.length) (fun (i:Nat)=> ⟨mkS 44 .any [(0,lv (rowsLit lits)),(3,.acc 0),(4,iv i)],[some (.acc 195 (rowsEq (eqsOf (lits.take i))))]⟩) (fun (i:Nat)=> lits.length - i) (0) ?_ (weakS [some 0] ?_ ?_ rfl rfl) ?_
 rotate_left
 ·simp -implicitDefEqProofs only [go_sem]
 ·simp -implicitDefEqProofs only [go_sem]
  all_goals (rfl)
 rotate_left
 ·omega
 ·rintro i hi
  rcases Classical.em (i < lits.length) with h1 | h1
  ·have h2:=eqsOf_len (lits.take i)
   have h4:(lits.take i).length ≤ 100:=by simp; omega
   have hs:=eqsOf_snoc h1
   rcases Classical.em (lits[i].atom.kind = 1) with h5 | h5
   ·have k5:=eq_true h5
    cases h6:lits[i].no
    ·rw [if_pos ⟨h5,h6⟩] at hs
     simp -implicitDefEqProofs only [go_sem,h1,k5,h6]
     repeat (first | with_reducible refine ind_andM (by kernel_rfl) ?_ | (with_reducible apply And.intro; case left=>omega))
     refine ⟨i + 1,?_,?_,weakS [some 1] ?_ ?_ rfl rfl⟩
     rotate_left
     ·show _ < _
      omega
     ·simp -implicitDefEqProofs only [go_sem]
     ·simp -implicitDefEqProofs only [go_sem]
      all_goals ((rw [hs,← rowsEq_app,rowsEq_cons,rowsEq_nil]; rfl))
     exact h1
    ·rw [if_neg (by simp [h6]),List.append_nil] at hs
     simp -implicitDefEqProofs only [go_sem,h1,k5,h6]
     repeat (with_reducible apply And.intro; case left=>omega)
     refine ⟨i + 1,?_,?_,weakS [some 0] ?_ ?_ rfl rfl⟩
     rotate_left
     ·show _ < _
      omega
     ·simp -implicitDefEqProofs only [go_sem]
     ·simp -implicitDefEqProofs only [go_sem]
      all_goals ((rw [hs]))
     exact h1
   ·rw [if_neg (by simp [h5]),List.append_nil] at hs
    simp -implicitDefEqProofs only [go_sem,h1,h5]
    repeat (with_reducible apply And.intro; case left=>omega)
    refine ⟨i + 1,?_,?_,weakS [some 0] ?_ ?_ rfl rfl⟩
    rotate_left
    ·show _ < _
     omega
    ·simp -implicitDefEqProofs only [go_sem]
    ·simp -implicitDefEqProofs only [go_sem]
     all_goals ((rw [hs]))
    exact h1
  ·simp -implicitDefEqProofs only [go_sem,h1]
   refine fin1' ?_
   simp -implicitDefEqProofs only [go_sem]
   rw [List.take_of_length_le (by omega)]
theorem spl_one (a b:D):spl [a] 0 [b] = [b]:=rfl
theorem rowsI_put (cs:List Int) (i:Nat) (v:Int):(rowsI cs).set i [.val (.int .i64 v)] = rowsI (cs.set i v):=by
 simp [rowsI,List.map_set]
theorem c_spec_l8Diff (nums:List Term) (a b:Term) (h4:nums.length ≤ 4) (ha:a ∈ nums) (hb:b ∈ nums):C E.P 197 [lv (rowsT nums),av (cT a),av (cT b)] [] (Eq2 (av (cLin (linOf nums [a,b] [1,-1] 0 false))) []):=by
 have xa:=termIdx_nn.2 ha
 have xb:=termIdx_nn.2 hb
 have ya:=termIdx_lt ha
 have yb:=termIdx_lt hb
 obtain ⟨z,hz⟩:∃ z:List Int,z = [0,0,0,0]:=⟨_,rfl⟩
 have hr:List.replicate 4 [D.val (Value.int IntKind.i64 0)] = rowsI z:=by rw [hz]; rfl
 have hzl:z.length = 4:=by rw [hz]; rfl
 have za:(termIdx nums a).toNat < z.length:=by omega
 have va:z[(termIdx nums a).toNat] = 0:=by
  have:=zero4 (termIdx nums a).toNat
  rw [← hz,getD_lt za] at this
  exact this
 obtain ⟨v,hv⟩:∃ v:Int,v = z[(termIdx nums a).toNat] + 1:=⟨_,rfl⟩
 have zb:(termIdx nums b).toNat < (z.set (termIdx nums a).toNat v).length:=by rw [List.length_set]; omega
 have vb:(z.set (termIdx nums a).toNat v)[(termIdx nums b).toNat] = 0 ∨ (z.set (termIdx nums a).toNat v)[(termIdx nums b).toNat] = 1:=by
  rw [List.getElem_set]
  split
  ·right; omega
  ·left
   have:=zero4 (termIdx nums b).toNat
   rw [← hz,getD_lt (by omega)] at this
   exact this
 have el:linOf nums [a,b] [1,-1] 0 false = ⟨(z.set (termIdx nums a).toNat v).set (termIdx nums b).toNat ((z.set (termIdx nums a).toNat v)[(termIdx nums b).toNat] - 1),0,false⟩:=by
  simp only [linOf,linGo]
  rw [← hz,addAt_set _ xa,getD_lt za,← hv,addAt_set _ xb,getD_lt zb]
  rfl
 rw [el]
 have hLB:=LB_eq
 refine C_goS (nt:=39) (rs:=[.cell 6 237]) hm Tryz.func197 rfl rfl rfl rfl rfl (fun hl he=>?_)
 simp -implicitDefEqProofs only [go_sem,Z3,Z4] at hl ⊢
 repeat (with_reducible apply And.intro; case left=>omega)
 refine atCall [] (c_spec_l4Place nums a) ?_ ?_ <;> simp -implicitDefEqProofs only [go_sem]
 refine atCall [] (c_spec_l4Place nums b) ?_ ?_ <;> simp -implicitDefEqProofs only [go_sem,hr,za]
 repeat (first | with_reducible refine ind_andM (by kernel_rfl) ?_ | (with_reducible apply And.intro; case left=>omega))
 have hv':=hv.symm
 simp -implicitDefEqProofs only [go_sem,spl_one,rowsI_put,hv',zb]
 repeat (first | with_reducible refine ind_andM (by kernel_rfl) ?_ | (with_reducible apply And.intro; case left=>omega))
 refine fin1' ?_
 simp -implicitDefEqProofs only [go_sem]
theorem c_spec_l8Lin (nums:List Term) (l:LitD) (h4:nums.length ≤ 4) (hF:Fit nums l) (k2:l.atom.kind = 2):C E.P 195 [lv (rowsT nums),av (cLit l)] [] (Eq2 (av (cLin (if l.no then linNot (linOf nums l.atom.nums l.atom.times l.atom.bound l.atom.strict) else linOf nums l.atom.nums l.atom.times l.atom.bound l.atom.strict))) []):=by
 have hw:=atomWf_sum hF.wf k2
 have hin:=hF.sum k2
 rw [linOf_set hw.2.2.2.2.2 hw.2.2.2.1 hin]
 obtain ⟨ts,hts⟩:∃ ts,ts = l.atom.nums:=⟨_,rfl⟩
 obtain ⟨ns,hns⟩:∃ ns,ns = l.atom.times:=⟨_,rfl⟩
 have hLB:=LB_eq
 refine C_goS (nt:=45) (rs:=[.cell 4 237]) hm Tryz.func195 rfl rfl rfl rfl rfl (fun hl he=>?_)
 simp -implicitDefEqProofs only [go_sem,Z3,Z4] at hl ⊢
 repeat (first | with_reducible refine ind_andM (by kernel_rfl) ?_ | (with_reducible apply And.intro; case left=>omega))
 refine loop_go1 hm (fun (i:Nat)=> i ≤ l.atom.nums.length) (fun (i:Nat)=> ⟨mkS 45 .any [(0,lv (rowsT nums)),(3,.ptr 0 0),(4,.ptr 1 0),(5,.ptr 2 0),(6,iv i)],[some (.box (pvs (cLit l))),some (.box (pvs (cLin lin0))),some (.box [.acc 3,.d (.val (.int .i64 l.atom.bound)),.d (.val (.bool l.atom.strict))]),some (.acc 3 (rowsI (setGo nums (l.atom.nums.take i) (l.atom.times.take i) [0,0,0,0])))]⟩) (fun (i:Nat)=> l.atom.nums.length - i) (0) ?_ (weakS [some 0,some 1,some 3,some 2] ?_ ?_ rfl rfl) ?_
 rotate_left
 ·simp -implicitDefEqProofs only [go_sem]
 ·simp -implicitDefEqProofs only [go_sem]
  all_goals (simp [rowsI,List.replicate,setGo])
 rotate_left
 ·omega
 ·rintro i hi
  have hlen:=hw.2.2.2.1
  rcases Classical.em (i < l.atom.nums.length) with h1 | h1
  ·have h2:i < l.atom.times.length:=by omega
   have hin':=hin l.atom.nums[i] (List.getElem_mem h1)
   have x1:=termIdx_nn.2 hin'
   have x2:=termIdx_lt hin'
   have hL:(setGo nums (l.atom.nums.take i) (l.atom.times.take i) [0,0,0,0]).length = 4:=setGo_len
   have x3:(termIdx nums l.atom.nums[i]).toNat < (setGo nums (l.atom.nums.take i) (l.atom.times.take i) [0,0,0,0]).length:=by omega
   simp -implicitDefEqProofs only [go_sem,h1]
   refine atCall [] (c_spec_l4Place nums l.atom.nums[i]) ?_ ?_ <;> simp -implicitDefEqProofs only [go_sem,x3,h2,spl_one,rowsI_put]
   repeat (first | with_reducible refine ind_andM (by kernel_rfl) ?_ | (with_reducible apply And.intro; case left=>omega))
   refine ⟨i + 1,?_,?_,weakS [some 0,some 1,some 2,some 3] ?_ ?_ rfl rfl⟩
   rotate_left
   ·show _ < _
    omega
   ·simp -implicitDefEqProofs only [go_sem]
   ·simp -implicitDefEqProofs only [go_sem]
    all_goals ((rw [setGo_snoc h1 h2]))
   exact h1
  ·have e1:l.atom.nums.take i = l.atom.nums:=List.take_of_length_le (by omega)
   have e2:l.atom.times.take i = l.atom.times:=List.take_of_length_le (by omega)
   cases h6:l.no
   ·simp -implicitDefEqProofs only [go_sem,h1,e1,e2,h6]
    refine fin1' ?_
    simp -implicitDefEqProofs only [go_sem]
    all_goals (simp; done)
   ·simp -implicitDefEqProofs only [go_sem,h1,e1,e2,h6]
    have hc:=c_spec_LinNot ⟨setGo nums l.atom.nums l.atom.times [0,0,0,0],l.atom.bound,l.atom.strict⟩
    refine atOwn [] [3] (C_eatV (e:=3) (args:=[.agg [.acc 0,.d (.val (.int .i64 l.atom.bound)),.d (.val (.bool l.atom.strict))]]) (Vws.cons (Vw.agg (Vws.cons (Vw.acc rfl rfl) (Vws.cons (Vw.same rfl) (Vws.cons (Vw.same rfl) Vws.nil)))) Vws.nil) (av_lt _) hc) ?_ ?_ <;> simp -implicitDefEqProofs only [go_sem]
    refine fin1' ?_
    simp -implicitDefEqProofs only [go_sem]
theorem c_spec_l8Lins (nums:List Term) (lits:List LitD) (h4:nums.length ≤ 4) (hl1:lits.length ≤ 100) (hf:∀ l ∈ lits,Fit nums l):C E.P 137 [lv (rowsT nums),lv (rowsLit lits)] [] (Eq2 (lv (rowsLin (linsOf nums lits))) []):=by
 have hLB:=LB_eq
 refine C_goS (nt:=63) (rs:=[.tmp 4]) hm Tryz.func137 rfl rfl rfl rfl rfl (fun hl he=>?_)
 simp -implicitDefEqProofs only [go_sem] at hl ⊢
 refine loop_go1 hm (fun (i:Nat)=> i ≤ lits.length) (fun (i:Nat)=> ⟨mkS 63 .any [(0,lv (rowsT nums)),(1,lv (rowsLit lits)),(5,.acc 0),(6,iv i)],[some (.acc 237 (rowsLin (linsOf nums (lits.take i))))]⟩) (fun (i:Nat)=> lits.length - i) (0) ?_ (weakS [some 0] ?_ ?_ rfl rfl) ?_
 rotate_left
 ·simp -implicitDefEqProofs only [go_sem]
 ·simp -implicitDefEqProofs only [go_sem]
  all_goals (rfl)
 rotate_left
 ·omega
 ·rintro i hi
  rcases Classical.em (i < lits.length) with h1 | h1
  ·have h2:=linsOf_len nums (lits.take i)
   have h3:(lits.take i).length ≤ 100:=by simp; omega
   have hs:=linsOf_snoc (nums:=nums) h1
   have hF:=hf lits[i] (List.getElem_mem h1)
   rcases Classical.em (lits[i].atom.kind = 2) with k2 | k2
   ·have k:=eq_true k2
    rw [litLins,if_pos k2] at hs
    simp -implicitDefEqProofs only [go_sem,h1,k]
    refine atCall [] (c_spec_l8Lin nums lits[i] h4 hF k2) ?_ ?_ <;> simp -implicitDefEqProofs only [go_sem]
    repeat (with_reducible apply And.intro; case left=>omega)
    refine ⟨i + 1,?_,?_,weakS [some 2] ?_ ?_ rfl rfl⟩
    rotate_left
    ·show _ < _
     omega
    ·simp -implicitDefEqProofs only [go_sem]
    ·simp -implicitDefEqProofs only [go_sem]
     all_goals ((rw [hs,← rowsLin_app,rowsLin_cons,rowsLin_nil]; rfl))
    exact h1
   ·have k1:lits[i].atom.kind = 1:=(atomWf_kind hF.wf).resolve_right k2
    cases h6:lits[i].no
    ·simp -implicitDefEqProofs only [go_sem,h1,k2,h6]
     refine atCall [] (c_spec_l4Place nums lits[i].atom.A) ?_ ?_ <;> simp -implicitDefEqProofs only [go_sem]
     rcases Classical.em (0 ≤ termIdx nums lits[i].atom.A) with h7 | h7
     ·rw [litLins,if_neg k2,if_pos ⟨h6,h7⟩] at hs
      have hA:=termIdx_nn.1 h7
      have hB:=(hF.eq k1).1 hA
      rw [linOf_swap] at hs
      simp -implicitDefEqProofs only [go_sem,h7]
      refine atCall [] (c_spec_l8Diff nums lits[i].atom.A lits[i].atom.B h4 hA hB) ?_ ?_ <;> simp -implicitDefEqProofs only [go_sem]
      refine atCall [] (c_spec_l8Diff nums lits[i].atom.B lits[i].atom.A h4 hB hA) ?_ ?_ <;> simp -implicitDefEqProofs only [go_sem]
      repeat (first | with_reducible refine ind_andM (by kernel_rfl) ?_ | (with_reducible apply And.intro; case left=>first | omega | (simp; omega)))
      refine ⟨i + 1,?_,?_,weakS [some 2] ?_ ?_ rfl rfl⟩
      rotate_left
      ·show _ < _
       omega
      ·simp -implicitDefEqProofs only [go_sem]
      ·simp -implicitDefEqProofs only [go_sem]
       all_goals ((rw [hs,← rowsLin_app,rowsLin_cons,rowsLin_cons,rowsLin_nil]; rfl))
      exact h1
     ·rw [litLins,if_neg k2,if_neg (by simp [h6,h7]),List.append_nil] at hs
      simp -implicitDefEqProofs only [go_sem,h7]
      repeat (with_reducible apply And.intro; case left=>omega)
      refine ⟨i + 1,?_,?_,weakS [some 0] ?_ ?_ rfl rfl⟩
      rotate_left
      ·show _ < _
       omega
      ·simp -implicitDefEqProofs only [go_sem]
      ·simp -implicitDefEqProofs only [go_sem]
       all_goals ((rw [hs]))
      exact h1
    ·rw [litLins,if_neg k2,if_neg (by simp [h6]),List.append_nil] at hs
     simp -implicitDefEqProofs only [go_sem,h1,k2,h6]
     repeat (with_reducible apply And.intro; case left=>omega)
     refine ⟨i + 1,?_,?_,weakS [some 0] ?_ ?_ rfl rfl⟩
     rotate_left
     ·show _ < _
      omega
     ·simp -implicitDefEqProofs only [go_sem]
     ·simp -implicitDefEqProofs only [go_sem]
      all_goals ((rw [hs]))
     exact h1
  ·simp -implicitDefEqProofs only [go_sem,h1]
   refine fin1' ?_
   simp -implicitDefEqProofs only [go_sem]
   rw [List.take_of_length_le (by omega)]
theorem c_spec_l8One (a b:Term):C E.P 140 [av (cT a),av (cT b)] [] (Eq2 (av (cLit (eqLit a b))) []):=by
 have hLB:=LB_eq
 refine C_goS (nt:=9) (rs:=[.cell 4 66]) hm Tryz.func140 rfl rfl rfl rfl rfl (fun hl he=>?_)
 simp -implicitDefEqProofs only [go_sem] at hl ⊢
 refine fin1' ?_
 simp -implicitDefEqProofs only [go_sem]
 all_goals (simp [eqLit,eqAtom]; done)
theorem c_spec_l8With (lits:List LitD) (l:LitD) (hl1:lits.length ≤ 100):C E.P 139 [lv (rowsLit lits),av (cLit l)] [] (Eq2 (lv (rowsLit (lits ++ [l]))) []):=by
 have hLB:=LB_eq
 refine C_goS (nt:=11) (rs:=[.tmp 4]) hm Tryz.func139 rfl rfl rfl rfl rfl (fun hl he=>?_)
 simp -implicitDefEqProofs only [go_sem] at hl ⊢
 repeat (first | with_reducible refine ind_andM (by kernel_rfl) ?_ | (with_reducible apply And.intro; case left=>first | omega | exact ⟨rowsLit_all _,by omega⟩))
 refine fin1' ?_
 simp -implicitDefEqProofs only [go_sem]
 rw [← rowsLit_app,rowsLit_cons,rowsLit_nil]
 rfl
theorem c_spec_l8Pair (nums:List Term) (a b:Term):C E.P 138 [lv (rowsT nums),av (cT a),av (cT b)] [] (Eq2 (bv (Mod.differ nums a b)) []):=by
 have hd:Mod.differ nums a b = true ↔ a ∈ nums ∧ b ∈ nums ∧ a ≠ b:=differ_iff
 have hLB:=LB_eq
 refine C_goS (nt:=23) (rs:=[.tmp 6]) hm Tryz.func138 rfl rfl rfl rfl rfl (fun hl he=>?_)
 simp -implicitDefEqProofs only [go_sem] at hl ⊢
 refine atCall [] (c_spec_l4Place nums a) ?_ ?_ <;> simp -implicitDefEqProofs only [go_sem]
 rcases Classical.em (0 ≤ termIdx nums a) with h1 | h1
 ·simp -implicitDefEqProofs only [go_sem,h1]
  refine atCall [] (c_spec_l4Place nums b) ?_ ?_ <;> simp -implicitDefEqProofs only [go_sem]
  rcases Classical.em (0 ≤ termIdx nums b) with h2 | h2
  ·simp -implicitDefEqProofs only [go_sem,h2]
   refine atCall [] (c_spec_TermSame a b) ?_ ?_ <;> simp -implicitDefEqProofs only [go_sem]
   have e:Mod.differ nums a b = !decide (a = b):=by
    apply bool_iff
    rw [hd]
    simp [termIdx_nn.1 h1,termIdx_nn.1 h2]
   refine fin1' ?_
   simp -implicitDefEqProofs only [go_sem]
   all_goals (simp [e]; done)
  ·have e:Mod.differ nums a b = false:=by simp [Mod.differ,h2]
   simp -implicitDefEqProofs only [go_sem,h2]
   refine fin1' ?_
   simp -implicitDefEqProofs only [go_sem]
   all_goals (simp [e]; done)
 ·have e:Mod.differ nums a b = false:=by simp [Mod.differ,h1]
  simp -implicitDefEqProofs only [go_sem,h1]
  refine fin1' ?_
  simp -implicitDefEqProofs only [go_sem]
  all_goals (simp [e]; done)
end Go.Proofs.YtlddcknkojieeaaGreat
namespace Go.Proofs.YtlddcknkojieeaaGreat
open Go.Eng Go.Mod
open Int renaming reduceEq → Z1,reduceLT → Z2,reduceLE → Z3,reduceToNat → Z4
set_option maxRecDepth 100000
set_option maxHeartbeats 400000
def pick2 {α:Type} (i:Nat) (xs:List α):List α:=match i with
 | 0=>[]
 | _ + 1=>xs
def done2 (i:Nat) (b:Bool):Bool:=match i with
 | 0=>false
 | _ + 1=>b
theorem pick2_0 {α:Type} (xs:List α):pick2 0 xs = []:=rfl
theorem pick2_1 {α:Type} (xs:List α):pick2 1 xs = xs:=rfl
theorem done2_0 (b:Bool):done2 0 b = false:=rfl
theorem done2_1 (b:Bool):done2 1 b = b:=rfl
theorem c_spec_l6Put0 (t:Term) (n:Int):C E.P 198 [av (cAtom ⟨2,term0,term0,[],[],0,true⟩),av (cT t),iv n] [] (Eq2 (av (cAtom ⟨2,term0,term0,[t],[n],0,true⟩)) []):=by
 have hLB:=LB_eq
 refine C_goS (nt:=90) (rs:=[.cell 6 64]) hm Tryz.func198 rfl rfl rfl rfl rfl (fun hl he=>?_)
 simp -implicitDefEqProofs only [go_sem] at hl ⊢
 refine loop_go1 hm (fun (i:Nat)=> i = 0) (fun (i:Nat)=> ⟨mkS 90 .any [(2,iv n),(3,.ptr 0 0),(4,.ptr 1 0),(6,.ptr 2 0),(7,.ptr 3 0),(8,bv false),(9,iv i)],[some (.box (pvs (cAtom ⟨2,term0,term0,[],[],0,true⟩))),some (.box (pvs (cT t))),some (.box (pvs (cAtom atom0))),some (.box [.d (.val (.int .i64 2)),.d (.str []),.d (.lst []),.d (.str []),.d (.lst []),.acc 4,.acc 5,.d (.val (.int .i64 0)),.d (.val (.bool true))]),some (.acc 62 (rowsT [])),some (.acc 3 (rowsI []))]⟩) (fun (i:Nat)=> 0 - i) (0) ?_ (weakS [some 0,some 1,some 2,some 3,none,none] ?_ ?_ rfl rfl) ?_
 rotate_left
 ·simp -implicitDefEqProofs only [go_sem]
 ·simp -implicitDefEqProofs only [go_sem]
  all_goals (simp [atom0])
 rotate_left
 ·rfl
 ·rintro i rfl
  simp -implicitDefEqProofs only [go_sem,Int.lt_irrefl]
  repeat (with_reducible apply And.intro; case left=>omega)
  refine fin1' ?_
  simp -implicitDefEqProofs only [go_sem]
  simp [rowsT_cons,rowsI_cons,cT]
theorem c_spec_l6PutL (a b:Term) (k n:Int) (ta:isTerm a = true) (tb:isTerm b = true) (hlt:sLess (termText b) (termText a) = true) :
 C E.P 198 [av (cAtom ⟨2,term0,term0,[a],[k],0,true⟩),av (cT b),iv n] [] (Eq2 (av (cAtom ⟨2,term0,term0,[b,a],[n,k],0,true⟩)) []):=by
 have hl1:Op.bytesLess (termText b) (termText a) = true:=hlt
 have hne:¬ termText a = termText b:=fun h=>less_ne hl1 h.symm
 have hl2:Op.bytesLess (termText a) (termText b) = false:=by
  cases h:Op.bytesLess (termText a) (termText b)
  ·rfl
  ·have:=less_trans h hl1
   rw [less_irrefl] at this
   cases this
 have hLB:=LB_eq
 refine C_goS (nt:=90) (rs:=[.cell 6 64]) hm Tryz.func198 rfl rfl rfl rfl rfl (fun hl he=>?_)
 simp -implicitDefEqProofs only [go_sem] at hl ⊢
 refine loop_go1 hm (fun (i:Nat)=> i = 0 ∨ i = 1) (fun (i:Nat)=> ⟨mkS 90 .any [(2,iv n),(3,.ptr 0 0),(4,.ptr 1 0),(6,.ptr 2 0),(7,.ptr 3 0),(8,bv (done2 i true)),(9,iv i)],[some (.box (pvs (cAtom ⟨2,term0,term0,[a],[k],0,true⟩))),some (.box (pvs (cT b))),some (.box (pvs (cAtom atom0))),some (.box [.d (.val (.int .i64 2)),.d (.str []),.d (.lst []),.d (.str []),.d (.lst []),.acc 4,.acc 5,.d (.val (.int .i64 0)),.d (.val (.bool true))]),some (.acc 62 (rowsT (pick2 i [b,a]))),some (.acc 3 (rowsI (pick2 i [n,k])))]⟩) (fun (i:Nat)=> 1 - i) (0) ?_ (weakS [some 0,some 1,some 2,some 3,none,none] ?_ ?_ rfl rfl) ?_
 rotate_left
 ·simp -implicitDefEqProofs only [go_sem]
  all_goals (simp [done2])
 ·simp -implicitDefEqProofs only [go_sem]
  all_goals (simp [atom0,pick2])
 rotate_left
 ·left; rfl
 ·rintro i (rfl | rfl)
  ·simp -implicitDefEqProofs only [go_sem,Z2,pick2_0,done2_0,rowsT_cons,rowsI_cons,row_head]
   refine atCall [] (c_spec_l4Text' a ta) ?_ ?_ <;> simp -implicitDefEqProofs only [go_sem]
   refine atCall [] (c_spec_l4Text' b tb) ?_ ?_ <;> simp -implicitDefEqProofs only [go_sem,hl2]
   repeat (with_reducible apply And.intro; case left=>omega)
   refine atCall [] (c_spec_l4Text' b tb) ?_ ?_ <;> simp -implicitDefEqProofs only [go_sem,hne,row_head]
   repeat (first | with_reducible refine ind_andM (by kernel_rfl) ?_ | (with_reducible apply And.intro; case left=>omega))
   refine ⟨1,?_,?_,weakS [some 0,some 1,some 2,some 3,some 8,some 9] ?_ ?_ rfl rfl⟩
   rotate_left
   ·show _ < _
    omega
   ·simp -implicitDefEqProofs only [go_sem]
    all_goals (simp [done2])
   ·simp -implicitDefEqProofs only [go_sem]
    all_goals (simp [pick2,rowsT_cons,rowsI_cons,cT])
   right; rfl
  ·simp -implicitDefEqProofs only [go_sem,pick2_1,done2_1,Int.lt_irrefl]
   refine fin1' ?_
   simp -implicitDefEqProofs only [go_sem]
theorem c_spec_l6PutG (a b:Term) (k n:Int) (ta:isTerm a = true) (tb:isTerm b = true) (hgt:sLess (termText b) (termText a) = false) (hne:¬ termText a = termText b) :
 C E.P 198 [av (cAtom ⟨2,term0,term0,[a],[k],0,true⟩),av (cT b),iv n] [] (Eq2 (av (cAtom ⟨2,term0,term0,[a,b],[k,n],0,true⟩)) []):=by
 have hl2:Op.bytesLess (termText a) (termText b) = true:=less_total (a:=termText b) (b:=termText a) (fun e=>hne e.symm) hgt
 have hLB:=LB_eq
 refine C_goS (nt:=90) (rs:=[.cell 6 64]) hm Tryz.func198 rfl rfl rfl rfl rfl (fun hl he=>?_)
 simp -implicitDefEqProofs only [go_sem] at hl ⊢
 refine loop_go1 hm (fun (i:Nat)=> i = 0 ∨ i = 1) (fun (i:Nat)=> ⟨mkS 90 .any [(2,iv n),(3,.ptr 0 0),(4,.ptr 1 0),(6,.ptr 2 0),(7,.ptr 3 0),(8,bv false),(9,iv i)],[some (.box (pvs (cAtom ⟨2,term0,term0,[a],[k],0,true⟩))),some (.box (pvs (cT b))),some (.box (pvs (cAtom atom0))),some (.box [.d (.val (.int .i64 2)),.d (.str []),.d (.lst []),.d (.str []),.d (.lst []),.acc 4,.acc 5,.d (.val (.int .i64 0)),.d (.val (.bool true))]),some (.acc 62 (rowsT (pick2 i [a]))),some (.acc 3 (rowsI (pick2 i [k])))]⟩) (fun (i:Nat)=> 1 - i) (0) ?_ (weakS [some 0,some 1,some 2,some 3,none,none] ?_ ?_ rfl rfl) ?_
 rotate_left
 ·simp -implicitDefEqProofs only [go_sem]
 ·simp -implicitDefEqProofs only [go_sem]
  all_goals (simp [atom0,pick2])
 rotate_left
 ·left; rfl
 ·rintro i (rfl | rfl)
  ·simp -implicitDefEqProofs only [go_sem,Z2,pick2_0,rowsT_cons,rowsI_cons,row_head]
   refine atCall [] (c_spec_l4Text' a ta) ?_ ?_ <;> simp -implicitDefEqProofs only [go_sem]
   refine atCall [] (c_spec_l4Text' b tb) ?_ ?_ <;> simp -implicitDefEqProofs only [go_sem,hl2]
   refine atCall [] (c_spec_l4Text' b tb) ?_ ?_ <;> simp -implicitDefEqProofs only [go_sem,hne,row_head]
   repeat (first | with_reducible refine ind_andM (by kernel_rfl) ?_ | (with_reducible apply And.intro; case left=>omega))
   refine ⟨1,?_,?_,weakS [some 0,some 1,some 2,some 3,some 6,some 7] ?_ ?_ rfl rfl⟩
   rotate_left
   ·show _ < _
    omega
   ·simp -implicitDefEqProofs only [go_sem]
    all_goals (simp [])
   ·simp -implicitDefEqProofs only [go_sem]
    all_goals (simp [pick2,rowsT_cons,rowsI_cons,cT])
   right; rfl
  ·simp -implicitDefEqProofs only [go_sem,pick2_1,Int.lt_irrefl]
   repeat (with_reducible apply And.intro; case left=>omega)
   refine fin1' ?_
   simp -implicitDefEqProofs only [go_sem]
   all_goals (simp [rowsT_cons,rowsI_cons,cT]; done)
theorem c_spec_l8Less (a b:Term) (ta:isTerm a = true) (tb:isTerm b = true) (hne:a ≠ b):C E.P 141 [av (cT a),av (cT b)] [] (Eq2 (av (cLit (lessLit a b))) []):=by
 have ht:¬ termText a = termText b:=fun h=>hne (termText_inj ta tb h)
 have hLB:=LB_eq
 refine C_goS (nt:=13) (rs:=[.cell 4 66]) hm Tryz.func141 rfl rfl rfl rfl rfl (fun hl he=>?_)
 simp -implicitDefEqProofs only [go_sem] at hl ⊢
 refine atCall [] (c_spec_l6Put0 a 1) ?_ ?_ <;> simp -implicitDefEqProofs only [go_sem]
 cases h:sLess (termText b) (termText a)
 ·refine atCall [] (c_spec_l6PutG a b 1 (-1) ta tb h ht) ?_ ?_ <;> simp -implicitDefEqProofs only [go_sem]
  refine fin1' ?_
  simp -implicitDefEqProofs only [go_sem]
  all_goals (simp [lessLit,h]; done)
 ·refine atCall [] (c_spec_l6PutL a b 1 (-1) ta tb h) ?_ ?_ <;> simp -implicitDefEqProofs only [go_sem]
  refine fin1' ?_
  simp -implicitDefEqProofs only [go_sem]
  all_goals (simp [lessLit,h]; done)
end Go.Proofs.YtlddcknkojieeaaGreat
