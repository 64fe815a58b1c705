/-
  The reference: the walk of words that are bent. A step towards the laws.
-/
import Derived.Test.YtpidddienjoleaaGreatKAya
import Derived.Test.YtpidddienjoleaaGreatKAq
import Derived.Test.YtpidddienjoleaaGreatKADa
set_option linter.unusedVariables false
set_option linter.unusedSimpArgs false
namespace Go.Proofs.YtpidddienjoleaaGreat
open Go.Eng Go.Mod
open Int renaming reduceEq → Z1,reduceLT → Z2,reduceLE → Z3,reduceToNat → Z4
set_option maxRecDepth 100000
set_option maxHeartbeats 400000
theorem rowsSym_put {l:List Sym} {k:Nat} (h:k < l.length) (x:Sym) (r:List D) (hr:r = cSym x):(rowsSym l).set k r = rowsSym (l.set k x):=by
 rw [hr,rowsSym,rowsSym,List.map_set]
theorem c_spec_l4Bent (b:List Int) (hb:OkB b) (s:Sig) (hl9:s.syms.length ≤ 100) (ha9:∀ x ∈ s.syms,x.args.length ≤ 1000) (p:Int) (h1:0 ≤ p) (h2:p ≤ 900000000) :
 C E.P 136 [.ptr 0 0,av (cSig s)] [some (rdE b p)] (Eq2 (av (cSig (bentS b s p).1)) [some (rdE b (bentS b s p).2)]):=by
 have q2:p + 1 + 1 = p + 2:=by omega
 have q3:p + 2 + 1 = p + 3:=by omega
 have q4:p + 3 + 1 = p + 4:=by omega
 have hLB:=LB_eq
 refine C_goW (nt:=116) (rs:=[.cell 4 25]) Tryz.func136 rfl rfl rfl rfl rfl (fun hl he=>?_)
 simp -implicitDefEqProofs only [go_sem] at hl ⊢
 refine W_of hm ?_
 simp -implicitDefEqProofs only [go_sem]
 refine loop_go1 hm (fun (i:Nat)=> i ≤ s.syms.length) (fun (i:Nat)=> ⟨mkS 116 .any [(0,.ptr 0 0),(3,.ptr 1 0),(4,.ptr 2 0),(5,.ptr 3 0),(6,iv i)],[some (rdE b p),some (.box (pvs (cSig s))),some (.box [.nilS]),some (.box [.acc 4]),some (.tre 117 (symT (s.syms.take i)))]⟩) (fun (i:Nat)=> s.syms.length - i) (0) ?_ (weakS [some 0,some 1,some 2,some 4,some 3] ?_ ?_ rfl rfl) ?_
 rotate_left
 ·simp -implicitDefEqProofs only [go_sem]
 ·simp -implicitDefEqProofs only [go_sem]
  all_goals (rfl)
 rotate_left
 ·omega
 ·rintro i hi
  have hp:(symT (s.syms.take i)).length = i:=by rw [symT_len,List.length_take]; omega
  rcases Classical.em (i < s.syms.length) with h3 | h3
  ·have ha:=ha9 s.syms[i] (List.getElem_mem h3)
   have hall:=rowsI_all s.syms[i].args
   simp -implicitDefEqProofs only [go_sem,h3]
   repeat (with_reducible apply And.intro; case left=>first | omega | exact ⟨rowsI_all _,by omega⟩)
   refine ⟨i + 1,?_,?_,weak_put 9 i _ rfl (by rw [List.length_append,hp]; simp) (rwT_endn hp) ?_⟩
   rotate_left
   ·show _ < _
    omega
   ·simp -implicitDefEqProofs only [go_sem]
    refine weakS [some 0,some 1,some 2,some 3,some 9] ?_ ?_ rfl rfl
    ·simp -implicitDefEqProofs only [go_sem]
    ·simp -implicitDefEqProofs only [go_sem]
     all_goals (rw [set_endn hp]; exact ⟨symT_snoc h3,(congrArg (fun z=>(frzRows z).isSome) (symT_snoc h3)).trans (symT_ok _)⟩)
   exact h3
  ·have et:s.syms.take i = s.syms:=List.take_of_length_le (by omega)
   rw [et]
   rcases Classical.em (s.syms.length = 0) with h4 | h4
   ·have e:bentS b s p = (s,p):=by rw [bentS,if_pos h4]
    have k4:((s.syms.length:Int) = 0) = True:=eq_true (by omega)
    simp -implicitDefEqProofs only [go_sem,h3,k4]
    refine FinW_of ?_
    refine finM' [some 0] ?_ rfl rfl
    simp -implicitDefEqProofs only [go_sem]
    rw [e]
    exact ⟨⟨⟨_,rfl,rfl⟩,rfl⟩,rfl⟩
   have k4:¬ (s.syms.length:Int) = 0:=by omega
   simp -implicitDefEqProofs only [go_sem,h3,k4]
   refine atOwn [] [0] (c_pick b p 8 hb h1 (by omega)) ?_ ?_ <;> simp -implicitDefEqProofs only [go_sem]
   rcases Classical.em (0 < pickV b p 8) with h5 | h5
   ·have e:bentS b s p = (s,p + 1):=by rw [bentS,if_neg h4,if_pos h5]
    simp -implicitDefEqProofs only [go_sem,h5]
    refine FinW_of ?_
    refine finM' [some 0] ?_ rfl rfl
    simp -implicitDefEqProofs only [go_sem]
    rw [e]
    exact ⟨⟨⟨_,rfl,rfl⟩,rfl⟩,rfl⟩
   simp -implicitDefEqProofs only [go_sem,h5]
   obtain ⟨k,ek,hk⟩:=pickN_b hb (p:=p + 1) (n:=s.syms.length) (by omega) (by omega)
   obtain ⟨x,hx⟩:∃ x,s.syms[k] = x:=⟨_,rfl⟩
   have ex:s.syms.getD k ⟨[],[],0⟩ = x:=by rw [← hx,List.getD_eq_getElem?_getD,List.getElem?_eq_getElem hk]; rfl
   have hrow:row (rowsSym s.syms) k = cSym x:=by rw [rowsSym_row hk,hx]
   obtain ⟨y,e0⟩:∃ y,bentS b s p = y:=⟨_,rfl⟩
   have ee:=e0
   unfold bentS at ee
   simp only [if_neg h4,if_neg h5,ek,Int.toNat_natCast,ex] at ee
   refine atOwn [] [0] (c_pick b (p + 1) s.syms.length hb (by omega) (by omega)) ?_ ?_ <;> simp -implicitDefEqProofs only [go_sem,ek,q2]
   rcases Classical.em (pickV b (p + 2) 5 = 1) with c1 | c1
   ·have c0:¬ pickV b (p + 2) 5 = 0:=by omega
    have k1:=eq_true c1
    rw [if_neg c0,if_pos c1] at ee
    have hkT:k < (symT s.syms).length:=by rw [symT_len]; exact hk
    have hrowT:rwT (symT s.syms) k = [.leaf (.str x.name),.own 3 (intT x.args),.leaf (.val (.int .i64 x.sort))]:=by rw [symT_row hk,hx]; rfl
    have hrs:∀ r,rwT ((symT s.syms).set k r) k = r:=fun r=>rwT_set hkT
    have hxa:x.args.length ≤ 1000:=by rw [← hx]; exact ha9 _ (List.getElem_mem hk)
    refine atWk (take_row 4 k _ rfl hkT hrowT) ?_
    simp -implicitDefEqProofs only [go_sem]
    refine atOwn [] [0] (c_pick b (p + 2) 5 hb (by omega) (by omega)) ?_ ?_ <;> simp -implicitDefEqProofs only [go_sem,c0,k1,q3,hrs]
    repeat (with_reducible apply And.intro; case left=>omega)
    refine atOwn [] [0] (c_num b (p + 3) [0,2,-1,1] hb (by omega) (by omega) (by simp) (by simp)) ?_ ?_ <;> simp -implicitDefEqProofs only [go_sem,q4,hrs]
    repeat (first | with_reducible refine ind_andM (by kernel_rfl) ?_ | (with_reducible apply And.intro; case left=>omega))
    refine ⟨_,Wk0.weak (put_row 4 k _ rfl (by rw [List.length_set]; exact hkT) (hrs _)),?_⟩
    simp -implicitDefEqProofs only [go_sem]
    refine finM' [some 0] ?_ rfl rfl
    simp -implicitDefEqProofs only [go_sem]
    rw [e0,← ee]
    have hst:=symT_set s.syms k ⟨x.name,x.args ++ [numV b (p + 3) [0,2,-1,1]],x.sort⟩
    rw [cSymT,← intT_app] at hst
    exact ⟨⟨⟨_,(congrArg frzRows hst).trans (symT_frz _),rfl⟩,rfl⟩,rfl⟩
   refine atWk (frz_tre 4 rfl (symT_frz _)) ?_
   simp -implicitDefEqProofs only [go_sem]
   refine atOwn [] [0] (c_pick b (p + 2) 5 hb (by omega) (by omega)) ?_ ?_ <;> simp -implicitDefEqProofs only [go_sem,q3]
   rcases Classical.em (pickV b (p + 2) 5 = 0) with c0 | c0
   ·have k0:=eq_true c0
    rw [if_pos c0] at ee
    simp -implicitDefEqProofs only [go_sem,k0]
    refine atOwn [] [0] (c_of b (p + 3) [[],[65],[97,98,99],[122,122],[97]] hb (by omega) (by omega) (by simp) (by simp)) ?_ ?_ <;> simp -implicitDefEqProofs only [go_sem,hk,q4]
    with_reducible refine ind_andM (by kernel_rfl) ?_
    refine FinW_of ?_
    refine finM' [some 0] ?_ rfl rfl
    simp -implicitDefEqProofs only [go_sem]
    rw [e0,← ee]
    exact ⟨⟨(rowsSym_put hk ⟨ofV b (p + 3) [[],[65],[97,98,99],[122,122],[97]],x.args,x.sort⟩ _ (by rw [hx]; rfl)).symm,rfl⟩,rfl⟩
   rw [if_neg c0,if_neg c1] at ee
   rcases Classical.em (pickV b (p + 2) 5 = 2) with c2 | c2
   ·have k2:=eq_true c2
    rw [if_pos c2] at ee
    simp -implicitDefEqProofs only [go_sem,c0,c1,k2]
    refine atOwn [] [0] (c_num b (p + 3) [1,2,-1,0] hb (by omega) (by omega) (by simp) (by simp)) ?_ ?_ <;> simp -implicitDefEqProofs only [go_sem,hk,q4]
    with_reducible refine ind_andM (by kernel_rfl) ?_
    refine FinW_of ?_
    refine finM' [some 0] ?_ rfl rfl
    simp -implicitDefEqProofs only [go_sem]
    rw [e0,← ee]
    exact ⟨⟨(rowsSym_put hk ⟨x.name,x.args,numV b (p + 3) [1,2,-1,0]⟩ _ (by rw [hx]; rfl)).symm,rfl⟩,rfl⟩
   rw [if_neg c2] at ee
   rcases Classical.em (pickV b (p + 2) 5 = 3) with c3 | c3
   ·have k3:=eq_true c3
    rw [if_pos c3] at ee
    simp -implicitDefEqProofs only [go_sem,c0,c1,c2,k3,hk,hrow]
    repeat (first | with_reducible refine ind_andM (by kernel_rfl) ?_ | (with_reducible apply And.intro; case left=>omega))
    refine FinW_of ?_
    refine finM' [some 0] ?_ rfl rfl
    simp -implicitDefEqProofs only [go_sem]
    rw [e0,← ee]
    exact ⟨⟨by rw [← rowsSym_app]; rfl,rfl⟩,rfl⟩
   rw [if_neg c3] at ee
   simp -implicitDefEqProofs only [go_sem,c0,c1,c2,c3]
   refine loop_go2 hm (fun (l:List Sym) (q:Int)=> p + 3 ≤ q ∧ q ≤ p + 3 + l.length ∧ l.length ≤ 100 ∧ fillS b (8 - s.syms.length) s.syms (p + 3) = fillS b (8 - l.length) l q) (fun (l:List Sym) (q:Int)=> ⟨mkS 116 .any [(0,.ptr 0 0),(4,.ptr 2 0),(5,.ptr 3 0)],[some (rdE b q),some (.box (pvs (cSig s))),some (.box [.nilS]),some (.box [.acc 4]),some (.acc 117 (rowsSym l))]⟩) (fun (l:List Sym) (q:Int)=> 8 - l.length) (s.syms) (p + 3) ?_ (weakS [some 0,some 1,some 2,some 3,some 4] ?_ ?_ rfl rfl) ?_
   rotate_left
   ·simp -implicitDefEqProofs only [go_sem]
   ·simp -implicitDefEqProofs only [go_sem]
   rotate_left
   ·exact ⟨by omega,by omega,hl9,rfl⟩
   ·rintro l q ⟨b1,b2,b3,hg⟩
    rcases Classical.em (l.length ≤ 7) with h6 | h6
    ·have h6':(l.length:Int) ≤ 7:=by omega
     have e8:8 - l.length = (8 - (l.length + 1)) + 1:=by omega
     rw [e8,fillS] at hg
     have hof:=ofV_mem hb (p:=q) (l:=[[97],[98],[122]]) (by omega) (by simp)
     have hol:(ofV b q [[97],[98],[122]]).length = 1:=by
      simp only [List.mem_cons,List.not_mem_nil,or_false] at hof
      rcases hof with e | e | e <;> rw [e] <;> rfl
     have hla:(l ++ [(⟨122 :: ofV b q [[97],[98],[122]],[],0⟩:Sym)]).length = l.length + 1:=by simp
     simp -implicitDefEqProofs only [go_sem,h6']
     refine atOwn [] [0] (c_of b q [[97],[98],[122]] hb (by omega) (by omega) (by simp) (by simp)) ?_ ?_ <;> simp -implicitDefEqProofs only [go_sem]
     repeat (first | with_reducible refine ind_andM (by kernel_rfl) ?_ | (with_reducible apply And.intro; case left=>omega))
     refine ⟨l ++ [(⟨122 :: ofV b q [[97],[98],[122]],[],0⟩:Sym)],q + 1,?_,?_,weakS [some 0,some 1,some 2,some 3,some 5] ?_ ?_ rfl rfl⟩
     rotate_left
     ·show _ < _
      omega
     ·simp -implicitDefEqProofs only [go_sem]
     ·simp -implicitDefEqProofs only [go_sem]
      all_goals ((rw [← rowsSym_app]; rfl))
     exact ⟨by omega,by simp; omega,by simp; omega,by simpa using hg⟩
    ·have h6':¬ (l.length:Int) ≤ 7:=by omega
     have e8:8 - l.length = 0:=by omega
     rw [e8,fillS] at hg
     rw [hg] at ee
     simp -implicitDefEqProofs only [go_sem,h6']
     refine FinW_of ?_
     refine finM' [some 0] ?_ rfl rfl
     simp -implicitDefEqProofs only [go_sem]
     rw [e0,← ee]
     exact ⟨⟨rfl,rfl⟩,rfl⟩
theorem lift_put (A:List Term) (t:Term):frzRows (lift (rowsT A) ++ [[T.leaf (D.str t.name),T.own 35 (tTs t.kids)]]) = some (rowsT (A ++ [t])):=by
 have h1:frzRows [[T.leaf (D.str t.name),T.own 35 (tTs t.kids)]] = some [cT t]:=by simp [frzRows,frzCells,T.frz,tTs_frz,cT]
 rw [frz_app (frzRows_lift _) h1,← rowsT_app,rowsT_cons,rowsT_nil]
theorem lift_put2 (A:List Term) (t:Term):frzRows (lift (rowsT A) ++ [[T.leaf (D.str t.name),T.own 35 (tTs t.kids)],[T.leaf (D.str t.name),T.own 35 (tTs t.kids)]]) = some (rowsT (A ++ [t,t])):=by
 have h1:frzRows [[T.leaf (D.str t.name),T.own 35 (tTs t.kids)],[T.leaf (D.str t.name),T.own 35 (tTs t.kids)]] = some [cT t,cT t]:=by simp [frzRows,frzCells,T.frz,tTs_frz,cT]
 rw [frz_app (frzRows_lift _) h1,← rowsT_app,rowsT_cons,rowsT_cons,rowsT_nil]
theorem c_spec_l4Copy_T1 (t:Term) (ih:∀ k ∈ t.kids,C E.P 46 [av (cT k)] [] (Eq2 (.agg [sv k.name,.acc 0]) [some (.tre 35 (tTs k.kids))])):C E.P 46 [av (cT t)] [] (Eq2 (.agg [sv t.name,.acc 0]) [some (.tre 35 (tTs t.kids))]):=by
 have hLB:=LB_eq
 refine C_goS (nt:=27) (rs:=[.cell 2 35]) hm Tryz.func46 rfl rfl rfl rfl rfl (fun hl he=>?_)
 simp -implicitDefEqProofs only [go_sem] at hl ⊢
 refine loop_go1 hm (fun (i:Nat)=> i ≤ t.kids.length) (fun (i:Nat)=> ⟨mkS 27 .any [(1,.ptr 0 0),(2,.ptr 1 0),(3,.ptr 2 0),(4,iv i)],[some (.box (pvs (cT t))),some (.box (pvs (cT term0))),some (.box [.d (.str t.name),.acc 3]),some (.tre 35 (tTs (t.kids.take i)))]⟩) (fun (i:Nat)=> t.kids.length - i) (0) ?_ (weakS [some 0,some 1,some 2,none] ?_ ?_ rfl rfl) ?_
 rotate_left
 ·simp -implicitDefEqProofs only [go_sem]
 ·simp -implicitDefEqProofs only [go_sem]
  all_goals (rfl)
 rotate_left
 ·omega
 ·rintro i hi
  have hp:(tTs (t.kids.take i)).length = i:=by rw [tTs_len,List.length_take]; omega
  rcases Classical.em (i < t.kids.length) with h1 | h1
  ·simp -implicitDefEqProofs only [go_sem,h1]
   have hc:=ih t.kids[i] (List.getElem_mem h1)
   refine atOwn [] [4] hc ?_ ?_ <;> simp -implicitDefEqProofs only [go_sem]
   repeat (first | with_reducible refine ind_andM (by kernel_rfl) ?_ | (with_reducible apply And.intro; case left=>omega))
   refine ⟨i + 1,?_,?_,weak_put 6 i _ rfl (by rw [List.length_append,hp]; simp) (rwT_endn hp) ?_⟩
   rotate_left
   ·show _ < _
    omega
   ·simp -implicitDefEqProofs only [go_sem]
    refine weakS [some 0,some 1,some 2,some 6] ?_ ?_ rfl rfl
    ·simp -implicitDefEqProofs only [go_sem]
    ·simp -implicitDefEqProofs only [go_sem]
     all_goals (rw [set_endn hp]; exact ⟨tTs_snoc h1,(congrArg (fun z=>(frzRows z).isSome) (tTs_snoc h1)).trans (tTs_ok _)⟩)
   exact h1
  ·have et:t.kids.take i = t.kids:=List.take_of_length_le (by omega)
   simp -implicitDefEqProofs only [go_sem,h1,et]
   refine finM' [some 3] ?_ rfl rfl
   simp -implicitDefEqProofs only [go_sem]
theorem c_spec_l4Copy_T:∀ t,C E.P 46 [av (cT t)] [] (Eq2 (.agg [sv t.name,.acc 0]) [some (.tre 35 (tTs t.kids))]):=
 Term.ind fun n ks ih=>c_spec_l4Copy_T1 (.mk n ks) ih
theorem c_spec_l4Some (b:List Int) (hb:OkB b) (s:Sig) (hs:SigFair s) (p:Int) (h1:0 ≤ p) (h2:p ≤ 900000000):C E.P 209 [.ptr 0 0,av (cSig s)] [some (rdE b p)] (Eq2 (av (cT (someT b s p).1)) [some (rdE b (someT b s p).2)]):=by
 obtain ⟨d,ed,hd1,hd4⟩:∃ d:Nat,numV b (p + 1) [2,3,1,4] = d ∧ 1 ≤ d ∧ d ≤ 4:=by
  have hm:=numV_mem hb (p:=p + 1) (l:=[2,3,1,4]) (by omega) (by simp)
  simp only [List.mem_cons,List.not_mem_nil,or_false] at hm
  exact ⟨(numV b (p + 1) [2,3,1,4]).toNat,by omega,by omega,by omega⟩
 have hpw:(2:Int) ^ d ≤ 16:=by
  have:=Nat.pow_le_pow_right (n:=2) (by omega) hd4
  have e:(2:Int) ^ d = ((2 ^ d:Nat):Int):=by simp
  omega
 have ha:=anyT_b (b:=b) hs d (pickV b p 2) (p + 2)
 obtain ⟨y,e0⟩:∃ y,someT b s p = y:=⟨_,rfl⟩
 have ee:=e0
 unfold someT at ee
 simp only [ed,Int.toNat_natCast] at ee
 obtain ⟨r,hr⟩:∃ r,anyT b s d (pickV b p 2) (p + 2) = r:=⟨_,rfl⟩
 have hO:=c_spec_l4Any_O b hb s hs d (pickV b p 2) (p + 2) hd1 (by omega) (by omega)
 have hk2:=anyT_kids b hs d (pickV b p 2) (p + 2)
 rw [hr] at ee ha hO hk2
 rw [e0,← ee]
 have hp:(lift (rowsT r.1.kids)).length = r.1.kids.length:=by simp [lift,rowsT_len]
 have q2:p + 1 + 1 = p + 2:=by omega
 have hLB:=LB_eq
 refine C_goW (nt:=49) (rs:=[.cell 4 35]) Tryz.func209 rfl rfl rfl rfl rfl (fun hl he=>?_)
 simp -implicitDefEqProofs only [go_sem] at hl ⊢
 refine W_of hm ?_
 refine atOwn [] [0] (c_pick b p 2 hb h1 (by omega)) ?_ ?_ <;> simp -implicitDefEqProofs only [go_sem]
 refine atOwn [] [0] (c_num b (p + 1) [2,3,1,4] hb (by omega) (by omega) (by simp) (by simp)) ?_ ?_ <;> simp -implicitDefEqProofs only [go_sem]
 rw [ed,q2]
 refine atOwn [] [0,3] hO ?_ ?_ <;> simp -implicitDefEqProofs only [go_sem]
 with_reducible refine ind_andM (by kernel_rfl) ?_
 refine atOwn [] [0] (c_pick b r.2 48 hb (by omega) (by omega)) ?_ ?_ <;> simp -implicitDefEqProofs only [go_sem]
 rcases Classical.em (pickV b r.2 48 = 0) with c0 | c0
 ·have k0:=eq_true c0
  rw [if_pos c0]
  simp -implicitDefEqProofs only [go_sem,k0]
  have qr:r.2 + 1 + 1 = r.2 + 2:=by omega
  refine atOwn [] [0] (c_of b (r.2 + 1) [[],[65],[97,98,99],[102]] hb (by omega) (by omega) (by simp) (by simp)) ?_ ?_ <;> simp -implicitDefEqProofs only [go_sem,qr]
  refine FinW_of ?_
  refine finM' [some 0] ?_ rfl rfl
  simp -implicitDefEqProofs only [go_sem]
  rfl
 rw [if_neg c0]
 rcases Classical.em (pickV b r.2 48 = 1) with c1 | c1
 ·have k1:=eq_true c1
  rw [if_pos c1]
  simp -implicitDefEqProofs only [go_sem,c0,k1]
  refine atLookO [] [3] [5] (c_spec_l4Copy_T r.1) rfl ?_ ?_ ?_
  ·(simp -implicitDefEqProofs only [go_sem]; repeat' (first | exact Vws.nil | apply Vws.cons | exact Vw.same (by first | rfl | simp -implicitDefEqProofs only [go_sem,Z1,Z2,Z3,Z4]) | exact Vw.acc rfl rfl | exact Vw.tre rfl rfl (by simp -implicitDefEqProofs only [go_sem,Z1,Z2,Z3,Z4]) | exact Vw.nil | apply Vw.agg | apply Vw.fn | refine Vw.box rfl rfl ?_))
  all_goals simp -implicitDefEqProofs only [go_sem]
  repeat (with_reducible apply And.intro; case left=>omega)
  refine FinW_put (put_row 8 r.1.kids.length _ rfl (by rw [List.length_append,hp]; simp) (rwT_endn hp)) ?_
  simp -implicitDefEqProofs only [go_sem]
  rw [set_endn hp]
  refine FinW_of ?_
  refine finM' [some 0] ?_ rfl rfl
  simp -implicitDefEqProofs only [go_sem]
  exact ⟨⟨_,lift_put _ _,rfl⟩,rfl⟩
 rw [if_neg c1]
 rcases Classical.em (pickV b r.2 48 = 2) with c2 | c2
 ·have k2:=eq_true c2
  rw [if_pos c2]
  simp -implicitDefEqProofs only [go_sem,c0,c1,k2]
  refine atLookO [] [3] [5] (c_spec_l4Copy_T r.1) rfl ?_ ?_ ?_
  ·(simp -implicitDefEqProofs only [go_sem]; repeat' (first | exact Vws.nil | apply Vws.cons | exact Vw.same (by first | rfl | simp -implicitDefEqProofs only [go_sem,Z1,Z2,Z3,Z4]) | exact Vw.acc rfl rfl | exact Vw.tre rfl rfl (by simp -implicitDefEqProofs only [go_sem,Z1,Z2,Z3,Z4]) | exact Vw.nil | apply Vw.agg | apply Vw.fn | refine Vw.box rfl rfl ?_))
  all_goals simp -implicitDefEqProofs only [go_sem]
  refine atLookO [] [3] [7] (c_spec_l4Copy_T r.1) rfl ?_ ?_ ?_
  ·(simp -implicitDefEqProofs only [go_sem]; repeat' (first | exact Vws.nil | apply Vws.cons | exact Vw.same (by first | rfl | simp -implicitDefEqProofs only [go_sem,Z1,Z2,Z3,Z4]) | exact Vw.acc rfl rfl | exact Vw.tre rfl rfl (by simp -implicitDefEqProofs only [go_sem,Z1,Z2,Z3,Z4]) | exact Vw.nil | apply Vw.agg | apply Vw.fn | refine Vw.box rfl rfl ?_))
  all_goals simp -implicitDefEqProofs only [go_sem]
  repeat (with_reducible apply And.intro; case left=>omega)
  refine FinW_put (put_row 10 r.1.kids.length _ rfl (by rw [List.length_append,hp]; simp) (rwT_two0 hp)) ?_
  simp -implicitDefEqProofs only [go_sem]
  rw [set_two0 hp]
  refine FinW_put (put_row 10 (r.1.kids.length + 1) _ rfl (by rw [List.length_append,hp]; simp) (rwT_two1 hp)) ?_
  simp -implicitDefEqProofs only [go_sem]
  rw [set_two1 hp]
  refine FinW_of ?_
  refine finM' [some 0] ?_ rfl rfl
  simp -implicitDefEqProofs only [go_sem]
  exact ⟨⟨_,lift_put2 _ _,rfl⟩,rfl⟩
 ·rw [if_neg c2]
  simp -implicitDefEqProofs only [go_sem,c0,c1,c2]
  refine FinW_of ?_
  refine finM' [some 0] ?_ rfl rfl
  simp -implicitDefEqProofs only [go_sem]
  rfl
end Go.Proofs.YtpidddienjoleaaGreat
