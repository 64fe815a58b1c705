/-
  The program: the model of a closure, up to the insertion of rows. A step towards the laws. The program: BothRun, up to slices.Insert. A step towards the laws. The library's slices.Insert at rows of a model: one row, put in. A step towards the laws.
-/
import Derived.Test.YtpidddienjoleaaGreatKAzh
import Derived.Test.YtpidddienjoleaaGreatKAc
import Derived.Test.YtpidddienjoleaaGreatKAzf
import Derived.Test.YtpidddienjoleaaGreatKAEl
import Derived.Test.YtpidddienjoleaaGreatKAD
import Derived.Test.YtpidddienjoleaaGreatKADa
import Derived.Test.YtpidddienjoleaaGreatKAN
import Derived.Test.YtpidddienjoleaaGreatKAO
set_option linter.unusedVariables false
set_option linter.unusedSimpArgs false
namespace Go.Proofs.YtpidddienjoleaaGreat
open Go.Eng Go.Mod
open Int renaming reduceEq → Z1,reduceLT → Z2,reduceLE → Z3,reduceToNat → Z4
set_option maxRecDepth 100000
set_option maxHeartbeats 1600000
theorem atOp_wk {E:Env} {o:Oper} {g g':G} {rest:Tok → Option (List Ky) → G → Prop} (hw:Wk0 E.P g g') (h:atOp E none none o g' rest):atOp E none none o g rest:=by
 rcases h with ⟨R,δ,h1,h2⟩ | ⟨_,_,g2,hw2,R,δ,h1,h2⟩
 ·exact .inr ⟨rfl,rfl,g',hw,R,δ,h1,h2⟩
 ·exact .inr ⟨rfl,rfl,g2,hw.trans hw2,R,δ,h1,h2⟩
section
variable (s:Sig) (terms nums:List Term) (c:List Nat) (steps:List Step) (vals:List Mod.Rat)
theorem c_model1 (t:Term) (ht:t ∈ terms) (hc:c.length = terms.length) (h4v:vals.length = 4) (h4:nums.length ≤ 4) (hcb:∀ x ∈ c,x ≤ 1000):C E.P 169 [av (cT t),.ptr 0 0,.ptr 1 0,.ptr 2 0] [some (.box [.ptr 3 0]),some (.box [lv (rowsRat vals)]),some (.box [.ptr 4 0]),some (.box (pvs (cDec s terms nums))),some (.box [lv (rowsT terms),lv (rowsN c),lv (rowsStep steps)])] (Eq2 (av (cRat (valTm terms nums c vals t))) [some (.box [.ptr 3 0]),some (.box [lv (rowsRat vals)]),some (.box [.ptr 4 0]),some (.box (pvs (cDec s terms nums))),some (.box [lv (rowsT terms),lv (rowsN c),lv (rowsStep steps)])]):=by
 have hLB:=LB_eq
 refine C_goS (nt:=29) (rs:=[.cell 5 57]) hm Tryz.func169 rfl rfl rfl rfl rfl (fun hl he=>?_)
 simp -implicitDefEqProofs only [go_sem] at hl ⊢
 refine atCall [] (c_impl_termIndex nums t) ?_ ?_ <;> simp -implicitDefEqProofs only [go_sem]
 with_reducible refine ind_andM (by kernel_rfl) ?_
 rcases Classical.em (t ∈ nums) with hn | hn
 ·have pN:=placeN_lt hn
  have cN:=placeN_cast hn
  have pN':placeN nums t < vals.length:=by omega
  have nn:(0:Int) ≤ (placeN nums t:Int):=by omega
  have e:valTm terms nums c vals t = vals[placeN nums t]:=by rw [valTm,if_neg (by omega),getD_at pN']
  simp -implicitDefEqProofs only [go_sem,cN,nn,pN']
  refine finM' [some 0,some 1,some 2,some 3,some 4] ?_ rfl rfl
  simp -implicitDefEqProofs only [go_sem]
  rw [e]
  all_goals ((repeat' apply And.intro) <;> rfl)
 ·have h3:¬ (0:Int) ≤ termIdx nums t:=fun h=>hn (termIdx_nn.1 h)
  have pT:=placeN_lt ht
  have pc:placeN terms t < c.length:=by omega
  have ec:c[placeN terms t] = cl c (placeN terms t):=(cl_lt pc).symm
  have hle:=hcb _ (cl_mem pc)
  have e:valTm terms nums c vals t = whole (cl c (placeN terms t)):=by rw [valTm,if_pos (by omega)]
  have ca:=c_at terms c steps t
  rw [placeN_cast ht] at ca
  simp -implicitDefEqProofs only [go_sem,h3]
  refine atLook [] [4] ca rfl ?_ ?_ ?_
  ·(simp -implicitDefEqProofs only [go_sem]; repeat' (first | exact Vws.nil | apply Vws.cons | exact Vw.same (by first | rfl | simp -implicitDefEqProofs only [go_sem,Z1,Z2,Z3,Z4]) | exact Vw.acc rfl rfl | exact Vw.tre rfl rfl (by simp -implicitDefEqProofs only [go_sem,Z1,Z2,Z3,Z4]) | exact Vw.nil | apply Vw.agg | apply Vw.fn | refine Vw.box rfl rfl ?_))
  all_goals simp -implicitDefEqProofs only [go_sem,pc,ec]
  refine atCall [] (c_impl_whole (cl c (placeN terms t):Int)) ?_ ?_ <;> simp -implicitDefEqProofs only [go_sem]
  with_reducible refine ind_andM (by kernel_rfl) ?_
  refine finM' [some 0,some 1,some 2,some 3,some 4] ?_ rfl rfl
  simp -implicitDefEqProofs only [go_sem]
  rw [e]
  all_goals ((repeat' apply And.intro) <;> rfl)
def InsertOk:Prop:=∀ (rows:List Mod.Row) (k:Nat) (r:Mod.Row),k ≤ rows.length → rows.length ≤ 1000 → C E.P 170 [.acc 0,iv k,.acc 1] [some (.acc 167 (rowsRow rows)),some (.acc 167 [cRow r])] (Eq2 (.acc 2) [some .dead,some .dead,some (.acc 167 (rowsRow (rows.take k ++ r :: rows.drop k)))])
theorem c_impl_model (hIns:InsertOk) (hk:KidsIn terms) (hnd:terms.Nodup) (hc:c.length = terms.length) (hcb:∀ x ∈ c,x ≤ 1000) (h4v:vals.length = 4) (hv9:∀ x ∈ vals,ratOk x = true) (h4:nums.length ≤ 4) (hl9:terms.length ≤ 900) (hk9:∀ t ∈ terms,t.kids.length ≤ 1000) :
 C E.P 104 [.ptr 0 0,.ptr 1 0,lv (rowsRat vals)] [some (.box (pvs (cDec s terms nums))),some (.box [lv (rowsT terms),lv (rowsN c),lv (rowsStep steps)])] (Eq2 (av (cModel ⟨modelRows terms nums c vals⟩)) [some (.box (pvs (cDec s terms nums))),some (.box [lv (rowsT terms),lv (rowsN c),lv (rowsStep steps)])]):=by
 have hLB:=LB_eq
 refine C_goS (nt:=66) (rs:=[.cell 6 32]) hm Tryz.func104 rfl rfl rfl rfl rfl (fun hl he=>?_)
 simp -implicitDefEqProofs only [go_sem] at hl ⊢
 refine loop_go2 hm (fun (i:Nat) (rows:List Mod.Row)=> i ≤ terms.length ∧ rows.length ≤ i ∧ (∀ x ∈ rows,ratsOk x.args = true) ∧ rows.Pairwise (fun a b=>rowLess a b = true) ∧ modelRows terms nums c vals = (terms.drop i).foldl (fun rows t=>putRow rows (rowVals terms nums c vals t)) rows) (fun (i:Nat) (rows:List Mod.Row)=> ⟨mkS 66 .any [(6,.ptr 5 0),(7,.fn 169 [.ptr 2 0,.ptr 4 0,.ptr 3 0]),(8,.ptr 6 0),(20,lv (rowsT terms)),(21,iv terms.length),(22,iv i)],[some (.box (pvs (cDec s terms nums))),some (.box [lv (rowsT terms),lv (rowsN c),lv (rowsStep steps)]),some (.box [.ptr 0 0]),some (.box [.ptr 1 0]),some (.box [lv (rowsRat vals)]),some (.box (pvs (cModel model0))),some (.box [.acc 7]),some (.acc 167 (rowsRow rows))]⟩) (fun (i:Nat) (rows:List Mod.Row)=> terms.length - i) (0) ([]) ?_ (weakS [some 0,some 1,some 2,some 3,some 4,some 5,some 6,none] ?_ ?_ rfl rfl) ?_
 rotate_left
 ·simp -implicitDefEqProofs only [go_sem]
 ·simp -implicitDefEqProofs only [go_sem]
  all_goals (rfl)
 rotate_left
 ·exact ⟨Nat.zero_le _,Nat.le_refl _,fun x hx=>(by simp at hx),List.Pairwise.nil,rfl⟩
 ·rintro i rows ⟨hi,hrl,hro,hpw,hg⟩
  rcases Classical.em (i < terms.length) with h1 | h1
  ·have mt:=List.getElem_mem h1
   have kt:=hk _ mt
   have kl:=hk9 _ mt
   have hv:=c_model1 s terms nums c steps vals terms[i] mt hc h4v h4 hcb
   rw [List.drop_eq_getElem_cons h1,List.foldl_cons] at hg
   obtain ⟨t,ht⟩:∃ t,terms[i] = t:=⟨_,rfl⟩
   rw [ht] at hv hg kt kl
   simp -implicitDefEqProofs only [go_sem,h1,ht]
   refine atOwn [.ptr 2 0,.ptr 4 0,.ptr 3 0] [2,4,3,0,1] hv ?_ ?_
   ·simp -implicitDefEqProofs only [go_sem]
    first | rfl | ((repeat' apply And.intro) <;> rfl)
   simp -implicitDefEqProofs only [go_sem]
   with_reducible refine ind_andM (by kernel_rfl) ?_
   refine loop_go1 hm (fun (j:Nat)=> j ≤ t.kids.length) (fun (j:Nat)=> ⟨mkS 66 .any [(6,.ptr 5 0),(7,.fn 169 [.ptr 2 0,.ptr 4 0,.ptr 3 0]),(8,.ptr 6 0),(11,.ptr 8 0),(20,lv (rowsT terms)),(21,iv terms.length),(22,iv i),(33,lv (rowsT t.kids)),(34,iv t.kids.length),(35,iv j)],[some (.box (pvs (cDec s terms nums))),some (.box [lv (rowsT terms),lv (rowsN c),lv (rowsStep steps)]),some (.box [.ptr 0 0]),some (.box [.ptr 1 0]),some (.box [lv (rowsRat vals)]),some (.box (pvs (cModel model0))),some (.box [.acc 7]),some (.acc 167 (rowsRow rows)),some (.box [sv t.name,.acc 9,iv (valTm terms nums c vals t).N,iv (valTm terms nums c vals t).D]),some (.acc 57 (rowsRat ((t.kids.take j).map (valTm terms nums c vals))))]⟩) (fun (j:Nat)=> t.kids.length - j) (0) ?_ (weakS [some 0,some 1,some 2,some 3,some 4,some 5,some 6,some 7,some 9,none] ?_ ?_ rfl rfl) ?_
   rotate_left
   ·simp -implicitDefEqProofs only [go_sem]
   ·simp -implicitDefEqProofs only [go_sem]
   rotate_left
   ·omega
   ·rintro j hj
    have hsl:((t.kids.take j).map (valTm terms nums c vals)).length ≤ 1000:=by simp; omega
    rcases Classical.em (j < t.kids.length) with h2 | h2
    ·have mk:=kt _ (List.getElem_mem h2)
     have hvk:=c_model1 s terms nums c steps vals t.kids[j] mk hc h4v h4 hcb
     have hs:(t.kids.take (j + 1)).map (valTm terms nums c vals) = (t.kids.take j).map (valTm terms nums c vals) ++ [valTm terms nums c vals t.kids[j]]:=by
      rw [List.take_add_one,List.getElem?_eq_getElem h2,List.map_append]; rfl
     simp -implicitDefEqProofs only [go_sem,h2]
     refine atOwn [.ptr 2 0,.ptr 4 0,.ptr 3 0] [2,4,3,0,1] hvk ?_ ?_
     ·simp -implicitDefEqProofs only [go_sem]
      first | rfl | ((repeat' apply And.intro) <;> rfl)
     simp -implicitDefEqProofs only [go_sem]
     repeat (first | with_reducible refine ind_andM (by kernel_rfl) ?_ | (with_reducible apply And.intro; case left=>omega))
     refine ⟨j + 1,?_,?_,weakS [some 0,some 1,some 2,some 3,some 4,some 5,some 6,some 7,some 8,some 11] ?_ ?_ rfl rfl⟩
     rotate_left
     ·show _ < _
      omega
     ·simp -implicitDefEqProofs only [go_sem]
     ·simp -implicitDefEqProofs only [go_sem]
      all_goals ((rw [hs,← rowsRat_app,rowsRat_cons,rowsRat_nil]; rfl))
     exact h2
    ·have et:t.kids.take j = t.kids:=List.take_of_length_le (by omega)
     have hrt:ratsOk (rowVals terms nums c vals t).args = true:=rowVals_ok hcb hv9
     have hbs:=c_BinarySearch_Row rows (rowVals terms nums c vals t) (mono_pair hro hpw hrt) (by omega)
     have hpc:=putRow_cut rows (rowVals terms nums c vals t)
     have hcl:=cut_le rows (rowVals terms nums c vals t)
     have hlen:=putRow_len rows (rowVals terms nums c vals t)
     have hmem:∀ x ∈ putRow rows (rowVals terms nums c vals t),ratsOk x.args = true:=fun x hx=>by
      rcases mem_putRow hx with hx | hx
      ·exact hro x hx
      ·rw [hx]; exact hrt
     have hpw2:=putRow_pair hro hpw hrt
     rw [et]
     simp -implicitDefEqProofs only [go_sem,h2]
     refine atLook [] [7,9] hbs rfl ?_ ?_ ?_
     ·(simp -implicitDefEqProofs only [go_sem]; repeat' (first | exact Vws.nil | apply Vws.cons | exact Vw.same (by first | rfl | simp -implicitDefEqProofs only [go_sem,Z1,Z2,Z3,Z4]) | exact Vw.acc rfl rfl | exact Vw.tre rfl rfl (by simp -implicitDefEqProofs only [go_sem,Z1,Z2,Z3,Z4]) | exact Vw.nil | apply Vw.agg | apply Vw.fn | refine Vw.box rfl rfl ?_))
     all_goals simp -implicitDefEqProofs only [go_sem]
     cases hf:found rows (rowVals terms nums c vals t)
     ·rw [hf,if_neg (by simp)] at hpc
      have hin:=hIns rows (cut rows (rowVals terms nums c vals t)) (rowVals terms nums c vals t) hcl (by omega)
      rw [← hpc] at hin
      simp -implicitDefEqProofs only [go_sem]
      refine atOp_wk (put_row 10 0 [T.leaf (D.str t.name),T.ref 9,T.leaf (D.val (Value.int IntKind.i64 (valTm terms nums c vals t).N)),T.leaf (D.val (Value.int IntKind.i64 (valTm terms nums c vals t).D))] rfl (by simp) rfl) ?_
      simp -implicitDefEqProofs only [go_sem]
      refine atOp_wk (frz_tre 10 (ys:=[cRow (rowVals terms nums c vals t)]) rfl (by simp only [List.set_cons_zero,frzRows,frzCells,T.frz,frzRows_lift]; try rfl)) ?_
      simp -implicitDefEqProofs only [go_sem]
      refine atOwn [] [7,10,11] hin ?_ ?_ <;> simp -implicitDefEqProofs only [go_sem]
      ·rfl
      repeat (with_reducible apply And.intro; case left=>omega)
      refine ⟨i + 1,putRow rows (rowVals terms nums c vals t),?_,?_,weakS [some 0,some 1,some 2,some 3,some 4,some 5,some 6,some 11] ?_ ?_ rfl rfl⟩
      rotate_left
      ·show _ < _
       omega
      ·simp -implicitDefEqProofs only [go_sem]
      ·simp -implicitDefEqProofs only [go_sem]
      exact ⟨by omega,by omega,hmem,hpw2,hg⟩
     ·rw [hf,if_pos rfl] at hpc
      rw [hpc] at hg
      simp -implicitDefEqProofs only [go_sem]
      repeat (with_reducible apply And.intro; case left=>omega)
      refine ⟨i + 1,rows,?_,?_,weakS [some 0,some 1,some 2,some 3,some 4,some 5,some 6,some 7] ?_ ?_ rfl rfl⟩
      rotate_left
      ·show _ < _
       omega
      ·simp -implicitDefEqProofs only [go_sem]
      ·simp -implicitDefEqProofs only [go_sem]
      exact ⟨by omega,by omega,hro,hpw,hg⟩
  ·rw [List.drop_of_length_le (by omega),List.foldl_nil] at hg
   simp -implicitDefEqProofs only [go_sem,h1]
   refine finM' [some 0,some 1] ?_ rfl rfl
   simp -implicitDefEqProofs only [go_sem]
   rw [hg]
   all_goals ((repeat' apply And.intro) <;> rfl)
end
end Go.Proofs.YtpidddienjoleaaGreat
namespace Go.Proofs.YtpidddienjoleaaGreat
open Go.Eng Go.Mod
open Int renaming reduceEq → Z1,reduceLT → Z2,reduceLE → Z3,reduceToNat → Z4
set_option maxRecDepth 100000
set_option maxHeartbeats 3200000
theorem far_codes (ls:List Lin):(farRun ls).code = 0 ∨ (farRun ls).code = 1 ∨ (farRun ls).code = 2 ∨ (farRun ls).code = 3:=by
 unfold farRun
 split
 ·split
  ·exact .inr (.inr (.inl rfl))
  ·split
   ·exact .inr (.inr (.inl rfl))
   ·split
    ·exact .inr (.inr (.inl rfl))
    ·split
     ·exact .inr (.inr (.inl rfl))
     ·unfold farEnd
      split
      ·split
       ·exact .inr (.inl rfl)
       ·exact .inr (.inr (.inl rfl))
      ·split
       ·exact .inr (.inr (.inl rfl))
       ·split
        ·exact .inl rfl
        ·exact .inr (.inr (.inl rfl))
 ·exact .inr (.inr (.inr rfl))
theorem c_impl_ModelAll (s:Sig) (m:Mod.Model) (lits:List LitD) (hl9:lits.length ≤ 1000):C E.P 105 [av (cSig s),av (cModel m),lv (rowsLit lits)] [] (Eq2 (bv (modelAll s m lits)) []):=by
 have hLB:=LB_eq
 refine C_goS (nt:=35) (rs:=[.tmp 6]) hm Tryz.func105 rfl rfl rfl rfl rfl (fun hl he=>?_)
 simp -implicitDefEqProofs only [go_sem] at hl ⊢
 refine atCall [] (c_impl_ModelOk s m) ?_ ?_ <;> simp -implicitDefEqProofs only [go_sem]
 cases h0:modelOk s m
 ·have e:modelAll s m lits = false:=by simp [modelAll,h0]
  simp -implicitDefEqProofs only [go_sem]
  refine fin1' ?_
  simp -implicitDefEqProofs only [go_sem]
  all_goals (simp [e]; done)
 ·have e:modelAll s m lits = lits.all fun l=>decide (modelLit s m l = some true):=by simp [modelAll,h0]
  simp -implicitDefEqProofs only [go_sem]
  refine loop_go1 hm (fun (i:Nat)=> i ≤ lits.length ∧ modelAll s m lits = (lits.drop i).all fun l=>decide (modelLit s m l = some true)) (fun (i:Nat)=> ⟨mkS 35 .any [(3,.ptr 0 0),(4,.ptr 1 0),(15,lv (rowsLit lits)),(16,iv lits.length),(17,iv i)],[some (.box (pvs (cSig s))),some (.box (pvs (cModel m)))]⟩) (fun (i:Nat)=> lits.length - i) (0) ?_ (weakS [some 0,some 1] ?_ ?_ rfl rfl) ?_
  rotate_left
  ·simp -implicitDefEqProofs only [go_sem]
  ·simp -implicitDefEqProofs only [go_sem]
  rotate_left
  ·exact ⟨Nat.zero_le _,e⟩
  ·rintro i ⟨hi,hg⟩
   rcases Classical.em (i < lits.length) with h1 | h1
   ·rw [List.drop_eq_getElem_cons h1,List.all_cons] at hg
    have hco:=c_impl_ModelLit s m lits[i]
    simp -implicitDefEqProofs only [go_sem,h1]
    refine atCall [] hco ?_ ?_ <;> simp -implicitDefEqProofs only [go_sem]
    cases h2:modelLit s m lits[i] with
    | none=>
      rw [h2] at hg
      simp -implicitDefEqProofs only [go_sem,Option.isSome_none,Option.getD_none]
      refine fin1' ?_
      simp -implicitDefEqProofs only [go_sem]
      all_goals (simp [hg]; done)
    | some b=>
      rw [h2] at hg
      cases b
      ·simp -implicitDefEqProofs only [go_sem,Option.isSome_some,Option.getD_some]
       refine fin1' ?_
       simp -implicitDefEqProofs only [go_sem]
       all_goals (simp [hg]; done)
      ·simp only [decide_true,Bool.true_and] at hg
       simp -implicitDefEqProofs only [go_sem,Option.isSome_some,Option.getD_some]
       repeat (with_reducible apply And.intro; case left=>omega)
       refine ⟨i + 1,?_,?_,weakS [some 0,some 1] ?_ ?_ rfl rfl⟩
       rotate_left
       ·show _ < _
        omega
       ·simp -implicitDefEqProofs only [go_sem]
       ·simp -implicitDefEqProofs only [go_sem]
       exact ⟨by omega,hg⟩
   ·rw [List.drop_of_length_le (by omega),List.all_nil] at hg
    simp -implicitDefEqProofs only [go_sem,h1]
    refine fin1' ?_
    simp -implicitDefEqProofs only [go_sem]
    all_goals (simp [hg]; done)
theorem rowsCase1I (a:Case):rowsCase [a] = [cCase a]:=by rw [rowsCase_cons,rowsCase_nil]
def bothVI (r:Both):PV:=.tup [av (cModel r.model),av (cCase r.case),iv r.code]
attribute [go_sem] bothVI
theorem c_impl_run (hIns:InsertOk) (s:Sig) (terms nums:List Term):∀ (f:Nat) (lits:List LitD),GoodL s lits → termsOf lits = terms → numsOf s lits = nums → room nums lits < f → lits.length + f ≤ 50 → C E.P 41 [.ptr 0 0,lv (rowsLit lits)] [some (.box (pvs (cDec s terms nums)))] (Eq2 (bothVI (runF s terms nums f lits)) [some (.box (pvs (cDec s terms nums)))]):=by
 intro f
 induction f with
 | zero=>intro lits hG _ _ h; omega
 | succ f ih=>
 intro lits hG hT hN hroom hlen
 have hel:(eqsOf lits).length ≤ 50:=Nat.le_trans (List.length_filterMap_le _ _) (by omega)
 have next:∀ x,Mod.Next s lits x → C E.P 41 [.ptr 0 0,lv (rowsLit (lits ++ [x]))] [some (.box (pvs (cDec s terms nums)))] (Eq2 (bothVI (runF s terms nums f (lits ++ [x]))) [some (.box (pvs (cDec s terms nums)))]):=fun x hx=>by
  obtain ⟨g1,g2,g3,g4⟩:=hx
  rw [hN] at g4
  exact ih (lits ++ [x]) g1 (g2.trans hT) (g3.trans hN) (by omega) (by simp; omega)
 have h4:=hG.n4
 have h24:=hG.n24
 have hkids:=hG.kids
 have hein:=hG.eqsIn
 have hlen9:=hG.len9
 have hk9:=hG.kids9
 have hkin:=hG.eqKind
 have hnum:=hG.num
 have hnd:=hG.nodup
 have hcl:=hG.clLen
 have hcb:=hG.clBound
 have hfit:=hG.fit
 have hsub:∀ t ∈ numsOf s lits,t ∈ termsOf lits:=nums_sub
 have neq:∀ i k,i < k → k < (numsOf s lits).length → Mod.linked (numsOf s lits) lits i k = false → Mod.Next s lits (eqLit ((numsOf s lits).getD i term0) ((numsOf s lits).getD k term0)):=fun i k h1 h2 h3=>next_eq hG h1 h2 h3
 have npa:∀ i k,i < k → k < (numsOf s lits).length → isOpen (numsOf s lits) lits i k = true → ∀ l ∈ parted ((numsOf s lits).getD i term0) ((numsOf s lits).getD k term0),Mod.Next s lits l:=fun i k h1 h2 h3=>next_parted hG h1 h2 h3
 have nne:∀ i k,i < k → k < (numsOf s lits).length → (numsOf s lits).getD i term0 ≠ (numsOf s lits).getD k term0:=fun i k h1 h2=>nums_ne hG h1 h2
 have hkept:=closed_kept (parts:=termsOf lits) (eqs:=eqsOf lits) hein
 have hsl:(closed (termsOf lits) (eqsOf lits)).2.length ≤ 2000000:=by
  have h1:=kept_steps hkept (closed (termsOf lits) (eqsOf lits)).2.length (Nat.le_refl _)
  have h2:(List.range (termsOf lits).length).sum ≤ (List.range (termsOf lits).length).length * 1000:=sum_bound fun x hx=>by have:=List.mem_range.1 hx; omega
  have h3:(List.range (termsOf lits).length).length * 1000 ≤ 1000 * 1000:=Nat.mul_le_mul_right _ (by simpa using hlen9)
  omega
 rw [hT] at hkept hsl h24 hkids hein hlen9 hk9 hkin hnd hcl hcb hsub
 rw [hN] at h4 hnum hfit hsub neq npa nne
 have hLB:=LB_eq
 refine C_goS (nt:=205) (rs:=[.cell 4 32,.cell 5 42,.tmp 6]) hm Tryz.func41 rfl rfl rfl rfl rfl (fun hl he=>?_)
 simp -implicitDefEqProofs only [go_sem] at hl ⊢
 refine atCall [] (c_impl_eqsOf lits (by omega)) ?_ ?_ <;> simp -implicitDefEqProofs only [go_sem]
 rcases Classical.em ((12:Int) < ((eqsOf lits).length:Int)) with h12 | h12
 ·rw [run_much (by omega)]
  simp -implicitDefEqProofs only [go_sem,h12]
  refine finM' [some 0] ?_ rfl rfl
  simp -implicitDefEqProofs only [go_sem]
  all_goals ((repeat' apply And.intro) <;> rfl)
 have h12':¬ 12 < (eqsOf lits).length:=by omega
 simp -implicitDefEqProofs only [go_sem,h12]
 refine atOwn [] [5] (c_impl_closed terms (eqsOf lits) hkids hein hlen9 hk9 (by omega)) ?_ ?_ <;> simp -implicitDefEqProofs only [go_sem]
 have ccl:=c_impl_clash s terms nums (eqsOf lits) lits hkids hein hlen9 hk9 hkin
 refine atOwn [] [0,5] ccl ?_ ?_
 ·simp -implicitDefEqProofs only [go_sem]
  first | rfl | ((repeat' apply And.intro) <;> rfl)
 simp -implicitDefEqProofs only [go_sem]
 cases hc:firstAt (clashes terms (closed terms (eqsOf lits)).1) lits with
 | some n=>
   rw [run_clash h12' hc]
   simp -implicitDefEqProofs only [go_sem,Option.isSome_some]
   with_reducible refine ind_andM (by kernel_rfl) ?_
   refine finM' [some 0] ?_ rfl rfl
   simp -implicitDefEqProofs only [go_sem]
   all_goals ((repeat' apply And.intro) <;> rfl)
 | none=>
 simp -implicitDefEqProofs only [go_sem,Option.isSome_none]
 refine atCall [] (c_impl_linsOf nums lits h4 (by omega) hfit) ?_ ?_ <;> simp -implicitDefEqProofs only [go_sem]
 refine atCall [] (c_impl_FarRun (linsOf nums lits)) ?_ ?_ <;> simp -implicitDefEqProofs only [go_sem]
 with_reducible refine ind_andM (by kernel_rfl) ?_
 have hcodes:=far_codes (linsOf nums lits)
 have hfv:=far_vals (list:=linsOf nums lits)
 have l1:=run_far1 (s:=s) (terms:=terms) (nums:=nums) (f:=f) h12' hc
 have l2:=run_far2 (s:=s) (terms:=terms) (nums:=nums) (f:=f) h12' hc
 have l3:=fun h q=>@run_have s terms nums f lits h12' hc h q
 have l4:=fun h hp q=>@run_part s terms nums f lits h12' hc h hp q
 have l5:=fun h hp=>@run_model s terms nums f lits h12' hc h hp
 generalize farRun (linsOf nums lits) = far at *
 obtain ⟨vals,times,code⟩:=far
 simp only at hcodes hfv l1 l2 l3 l4 l5 ⊢
 rcases hcodes with rfl | rfl | rfl | rfl
 ·obtain ⟨v4,vok⟩:=hfv rfl
  have co1:=c_pairs2 s terms nums (closed terms (eqsOf lits)).1 (closed terms (eqsOf lits)).2 lits hsub hcl h4
  simp -implicitDefEqProofs only [go_sem,Z1]
  refine atOwn [] [0] (c_impl_links s terms nums (eqsOf lits) h4 (by omega)) ?_ ?_ <;> simp -implicitDefEqProofs only [go_sem]
  refine atOwn [] [8,9,6,1,5,0] co1 ?_ ?_
  ·simp -implicitDefEqProofs only [go_sem]
   first | rfl | ((repeat' apply And.intro) <;> rfl)
  simp -implicitDefEqProofs only [go_sem]
  cases hp:firstPair nums.length (openP true terms nums (closed terms (eqsOf lits)).1 lits) with
  | some q=>
    obtain ⟨q1,q2,q3⟩:=firstPair_some hp
    have hlk:=openP_linked q3
    have hnx:=next _ (neq q.1 q.2 q1 q2 hlk)
    have hi:q.1 < nums.length:=by omega
    have ga:nums.getD q.1 term0 = nums[q.1]:=getD_term hi
    have gb:nums.getD q.2 term0 = nums[q.2]:=getD_term q2
    have hA:=hsub _ (List.getElem_mem hi)
    have hB:=hsub _ (List.getElem_mem q2)
    have hsm:sameCl terms (closed terms (eqsOf lits)).1 nums[q.1] nums[q.2] = true:=by
     rw [openP_trueI,hlk,ga,gb] at q3
     exact q3
    have hre:=c_impl_explained terms (eqsOf lits) (closed terms (eqsOf lits)).1 (closed terms (eqsOf lits)).2 hkept.1 hkids hlen9 hk9 hsl nums[q.1] nums[q.2] hA hB (by rw [← hkept.2]; simpa [sameCl] using hsm)
    rw [l3 rfl q hp]
    rw [ga,gb] at hnx ⊢
    obtain ⟨i,k⟩:=q
    simp only at hnx hi q2 hre ⊢
    obtain ⟨r,er⟩:∃ r,runF s terms nums f (lits ++ [eqLit nums[i] nums[k]]) = r:=⟨_,rfl⟩
    rw [er] at hnx ⊢
    simp -implicitDefEqProofs only [go_sem,Option.isSome_some,Option.getD_some,hi,q2]
    with_reducible refine ind_andM (by kernel_rfl) ?_
    refine atCall [] (c_impl_eqLit nums[i] nums[k]) ?_ ?_ <;> simp -implicitDefEqProofs only [go_sem]
    refine atCall [] (c_impl_and lits (eqLit nums[i] nums[k]) (by omega)) ?_ ?_ <;> simp -implicitDefEqProofs only [go_sem]
    refine atOwn [] [0] hnx ?_ ?_ <;> simp -implicitDefEqProofs only [go_sem]
    with_reducible refine ind_andM (by kernel_rfl) ?_
    rcases Classical.em (r.code = 1) with hr | hr
    ·have kr:=eq_true hr
     rw [haveC,if_pos hr]
     simp -implicitDefEqProofs only [go_sem,kr]
     refine atOwn [] [5] hre ?_ ?_ <;> simp -implicitDefEqProofs only [go_sem]
     with_reducible refine ind_andM (by kernel_rfl) ?_
     refine finM' [some 0] ?_ rfl rfl
     simp -implicitDefEqProofs only [go_sem]
     all_goals ((repeat' apply And.intro) <;> first | rfl | exact (rowsCase1I _).symm)
    ·rw [haveC,if_neg hr]
     simp -implicitDefEqProofs only [go_sem,hr]
     refine finM' [some 0] ?_ rfl rfl
     simp -implicitDefEqProofs only [go_sem]
     all_goals ((repeat' apply And.intro) <;> rfl)
  | none=>
  have co2:=c_pairs3 s terms nums (closed terms (eqsOf lits)).1 lits hnum h4
  simp -implicitDefEqProofs only [go_sem,Option.isSome_none,Option.getD_none]
  refine atOwn [] [8,1,2,0] co2 ?_ ?_
  ·simp -implicitDefEqProofs only [go_sem]
   first | rfl | ((repeat' apply And.intro) <;> rfl)
  simp -implicitDefEqProofs only [go_sem]
  cases hq:firstPair nums.length (openP false terms nums (closed terms (eqsOf lits)).1 lits) with
  | some q=>
    obtain ⟨q1,q2,q3⟩:=firstPair_some hq
    have hnx:=npa q.1 q.2 q1 q2 (openP_isOpen q3)
    have hne:=nne q.1 q.2 q1 q2
    have hi:q.1 < nums.length:=by omega
    have ga:nums.getD q.1 term0 = nums[q.1]:=getD_term hi
    have gb:nums.getD q.2 term0 = nums[q.2]:=getD_term q2
    have tA:=hnum _ (List.getElem_mem hi)
    have tB:=hnum _ (List.getElem_mem q2)
    have hR:=l4 rfl hp q hq
    rw [ga,gb] at hnx hne hR
    obtain ⟨i0,k0⟩:=q
    simp only at hnx hne hi q2 tA tB hR
    obtain ⟨R,eR⟩:∃ R,runF s terms nums (f + 1) lits = R:=⟨_,rfl⟩
    rw [eR] at hR ⊢
    have hp3:(parted nums[i0] nums[k0]).length = 3:=rfl
    simp -implicitDefEqProofs only [go_sem,Option.isSome_some,Option.getD_some,hi,q2]
    with_reducible refine ind_andM (by kernel_rfl) ?_
    obtain ⟨a,ha⟩:∃ a,nums[i0] = a:=⟨_,rfl⟩
    obtain ⟨b,hb⟩:∃ b,nums[k0] = b:=⟨_,rfl⟩
    rw [ha] at hnx hne tA hR hp3
    rw [hb] at hnx hne tB hR hp3
    simp -implicitDefEqProofs only [go_sem,ha,hb]
    refine atCall [] (c_impl_Term_own a) ?_ ?_ <;> simp -implicitDefEqProofs only [go_sem]
    refine atCall [] (c_impl_Term_own b) ?_ ?_ <;> simp -implicitDefEqProofs only [go_sem]
    with_reducible refine ind_andM (by kernel_rfl) ?_
    refine atCall [] (c_impl_parted a b tA tB) ?_ ?_ <;> simp -implicitDefEqProofs only [go_sem]
    refine loop_go2 hm (fun (i:Nat) (out:List Case)=> i ≤ 3 ∧ out.length = i ∧ R = partC (runF s terms nums f) a b (((parted a b).drop i).map fun l=>lits ++ [l]) out) (fun (i:Nat) (out:List Case)=> ⟨mkS 205 .any [(2,.ptr 1 0),(3,.ptr 2 0),(4,.ptr 3 0),(5,.ptr 4 0),(29,.ptr 5 0),(160,lv (rowsLit (parted a b))),(161,iv (parted a b).length),(162,iv i)],[some (.box (pvs (cDec s terms nums))),some (.box [.ptr 0 0]),some (.box [lv (rowsLit lits)]),some (.box (pvs (cModel model0))),some (.box (pvs (cCase case0))),some (.box [iv 4,iv 0,iv 0,iv 0,sv [],lv [],lv [],lv [],sv a.name,lv (rowsT a.kids),sv b.name,lv (rowsT b.kids),.acc 6]),some (.acc 42 (rowsCase out))]⟩) (fun (i:Nat) (out:List Case)=> 3 - i) (0) ([]) ?_ (weakS [some 0,some 1,some 2,some 3,some 4,some 12,none] ?_ ?_ rfl rfl) ?_
    rotate_left
    ·simp -implicitDefEqProofs only [go_sem]
    ·simp -implicitDefEqProofs only [go_sem]
     all_goals (((repeat' apply And.intro) <;> rfl))
    rotate_left
    ·exact ⟨by omega,rfl,hR⟩
    ·rintro i out ⟨hi9,ho,hg⟩
     have hol:out.length ≤ 3:=by omega
     rcases Classical.em (i < 3) with h1 | h1
     ·have h1':i < (parted a b).length:=by omega
      have hr:=next _ (hnx _ (List.getElem_mem h1'))
      rw [List.drop_eq_getElem_cons h1',List.map_cons,partC_step] at hg
      obtain ⟨x,hx⟩:∃ x,(parted a b)[i] = x:=⟨_,rfl⟩
      rw [hx] at hr hg
      obtain ⟨r,er⟩:∃ r,runF s terms nums f (lits ++ [x]) = r:=⟨_,rfl⟩
      rw [er] at hr hg
      simp -implicitDefEqProofs only [go_sem,h1',hx]
      refine atCall [] (c_impl_and lits x (by omega)) ?_ ?_ <;> simp -implicitDefEqProofs only [go_sem]
      refine atOwn [] [0] hr ?_ ?_ <;> simp -implicitDefEqProofs only [go_sem]
      with_reducible refine ind_andM (by kernel_rfl) ?_
      rcases Classical.em (r.code = 1) with hcd | hcd
      ·rw [if_pos hcd] at hg
       have kc:=eq_true hcd
       simp -implicitDefEqProofs only [go_sem,kc]
       repeat (with_reducible apply And.intro; case left=>omega)
       refine ⟨i + 1,out ++ [r.case],?_,?_,weakS [some 0,some 1,some 2,some 3,some 4,some 5,some 10] ?_ ?_ rfl rfl⟩
       rotate_left
       ·show _ < _
        omega
       ·simp -implicitDefEqProofs only [go_sem]
       ·simp -implicitDefEqProofs only [go_sem]
        all_goals ((rw [← rowsCase_app,rowsCase_cons,rowsCase_nil]; rfl))
       exact ⟨by omega,by simp [ho],hg⟩
      ·rw [if_neg hcd] at hg
       simp -implicitDefEqProofs only [go_sem,hcd]
       refine finM' [some 0] ?_ rfl rfl
       simp -implicitDefEqProofs only [go_sem]
       rw [hg]
       all_goals ((repeat' apply And.intro) <;> rfl)
     ·have h1':¬ i < (parted a b).length:=by omega
      rw [List.drop_of_length_le (by omega),List.map_nil,partC_end] at hg
      simp -implicitDefEqProofs only [go_sem,h1']
      with_reducible refine ind_andM (by kernel_rfl) ?_
      refine finM' [some 0] ?_ rfl rfl
      simp -implicitDefEqProofs only [go_sem]
      rw [hg]
      all_goals ((repeat' apply And.intro) <;> rfl)
  | none=>
  have cmo:=c_impl_model s terms nums (closed terms (eqsOf lits)).1 (closed terms (eqsOf lits)).2 vals hIns hkids hnd hcl hcb v4 vok h4 (by omega) hk9
  have cal:=c_impl_ModelAll s ⟨modelRows terms nums (closed terms (eqsOf lits)).1 vals⟩ lits (by omega)
  rw [l5 rfl hp hq]
  simp -implicitDefEqProofs only [go_sem,Option.isSome_none,Option.getD_none]
  refine atOwn [] [0,5] cmo ?_ ?_
  ·simp -implicitDefEqProofs only [go_sem]
   first | rfl | ((repeat' apply And.intro) <;> rfl)
  simp -implicitDefEqProofs only [go_sem]
  refine atCall [] cal ?_ ?_ <;> simp -implicitDefEqProofs only [go_sem]
  with_reducible refine ind_andM (by kernel_rfl) ?_
  cases hm2:modelAll s ⟨modelRows terms nums (closed terms (eqsOf lits)).1 vals⟩ lits
  ·rw [if_neg (by simp)]
   simp -implicitDefEqProofs only [go_sem]
   refine finM' [some 0] ?_ rfl rfl
   simp -implicitDefEqProofs only [go_sem]
   all_goals ((repeat' apply And.intro) <;> rfl)
  ·rw [if_pos rfl]
   simp -implicitDefEqProofs only [go_sem]
   refine finM' [some 0] ?_ rfl rfl
   simp -implicitDefEqProofs only [go_sem]
   all_goals ((repeat' apply And.intro) <;> rfl)
 ·rw [l1 rfl]
  simp -implicitDefEqProofs only [go_sem]
  refine finM' [some 0] ?_ rfl rfl
  simp -implicitDefEqProofs only [go_sem]
  all_goals ((repeat' apply And.intro) <;> rfl)
 ·rw [l2 (by decide) (by decide)]
  simp -implicitDefEqProofs only [go_sem,Z1]
  refine finM' [some 0] ?_ rfl rfl
  simp -implicitDefEqProofs only [go_sem]
  all_goals ((repeat' apply And.intro) <;> rfl)
 ·rw [l2 (by decide) (by decide)]
  simp -implicitDefEqProofs only [go_sem,Z1]
  refine finM' [some 0] ?_ rfl rfl
  simp -implicitDefEqProofs only [go_sem]
  all_goals ((repeat' apply And.intro) <;> rfl)
end Go.Proofs.YtpidddienjoleaaGreat
namespace Go.Proofs.YtpidddienjoleaaGreat
open Go.Eng Go.Mod
open Int renaming reduceEq → Z1,reduceLT → Z2,reduceLE → Z3,reduceToNat → Z4
set_option maxRecDepth 100000
set_option maxHeartbeats 3200000
theorem c_impl_termsOf_D (lits:List LitD) (hl1:lits.length ≤ 100) (hw:∀ l ∈ lits,atomWf l.atom = true):C E.P 38 [lv (rowsLit lits)] [] (Eq2 (lv (rowsT (termsOf lits))) []):=by
 obtain ⟨hle,hok⟩:=allTerms_ok hw
 have hLB:=LB_eq
 refine C_goS (nt:=20) (rs:=[.tmp 2]) hm Tryz.func38 rfl rfl rfl rfl rfl (fun hl he=>?_)
 simp -implicitDefEqProofs only [go_sem] at hl ⊢
 refine loop_go1 hm (fun (i:Nat)=> i ≤ lits.length) (fun (i:Nat)=> ⟨mkS 20 .any [(3,.acc 0),(6,lv (rowsLit lits)),(7,iv lits.length),(8,iv i)],[some (.acc 35 (rowsT (allTerms (lits.take i))))]⟩) (fun (i:Nat)=> lits.length - i) (0) ?_ (weakS [none] ?_ ?_ rfl rfl) ?_
 rotate_left
 ·simp -implicitDefEqProofs only [go_sem]
 ·simp -implicitDefEqProofs only [go_sem]
  all_goals (rfl)
 rotate_left
 ·omega
 ·rintro i hi
  rcases Classical.em (i < lits.length) with h1 | h1
  ·have h2:=allTerms_ok (lits:=lits.take i) fun l hl=>hw l (List.mem_of_mem_take hl)
   have h3:=atomTerms_ok (hw lits[i] (List.getElem_mem h1))
   have h4:(lits.take i).length ≤ 100:=by simp; omega
   simp -implicitDefEqProofs only [go_sem,h1]
   refine atCall [] (c_impl_Atom_terms lits[i].atom) ?_ ?_ <;> simp -implicitDefEqProofs only [go_sem]
   repeat (with_reducible apply And.intro; case left=>first | omega | exact ⟨rowsT_all _,by omega⟩)
   refine ⟨i + 1,?_,?_,weakS [some 2] ?_ ?_ rfl rfl⟩
   rotate_left
   ·show _ < _
    omega
   ·simp -implicitDefEqProofs only [go_sem]
   ·simp -implicitDefEqProofs only [go_sem]
    all_goals ((rw [allTerms_snoc h1,← rowsT_app]))
   exact h1
  ·have e:lits.take i = lits:=List.take_of_length_le (by omega)
   simp -implicitDefEqProofs only [go_sem,h1,e]
   refine atOwn [] [0,1] (C_eat1 (e:=35) (rest:=[]) rfl (c_impl_TermParts_own (allTerms lits) (by omega) hok)) ?_ ?_ <;> simp -implicitDefEqProofs only [go_sem]
   refine fin1' ?_
   simp -implicitDefEqProofs only [go_sem]
   rfl
theorem c_impl_BothRun (hIns:InsertOk) (s:Sig) (lits:List LitD):C E.P 10 [av (cSig s),lv (rowsLit lits)] [] (Eq2 (bothVI (bothRun s lits)) []):=by
 have hLB:=LB_eq
 refine C_goS (nt:=28) (rs:=[.cell 4 32,.cell 5 42,.tmp 6]) hm Tryz.func10 rfl rfl rfl rfl rfl (fun hl he=>?_)
 simp -implicitDefEqProofs only [go_sem] at hl ⊢
 refine atCall [] (c_impl_BothOk s lits) ?_ ?_ <;> simp -implicitDefEqProofs only [go_sem]
 cases hok:bothOk s lits
 ·have e:bothRun s lits = ⟨model0,case0,3⟩:=by simp [bothRun,hok]
  rw [e]
  simp -implicitDefEqProofs only [go_sem]
  refine fin1' ?_
  simp -implicitDefEqProofs only [go_sem]
  all_goals ((repeat' apply And.intro) <;> rfl)
 have e:bothRun s lits = runF s (termsOf lits) (numsOf s lits) 13 lits:=by simp [bothRun,hok]
 have hG:=goodL_of hok
 have h6:=(fit_both hok).2.2.2.1
 have hroom:=room_le hG.n4 lits
 have hrun:=c_impl_run hIns s (termsOf lits) (numsOf s lits) 13 lits hG rfl rfl (by omega) (by omega)
 rw [e]
 simp -implicitDefEqProofs only [go_sem]
 refine atCall [] (c_impl_termsOf_D lits (by omega) hG.wf) ?_ ?_ <;> simp -implicitDefEqProofs only [go_sem]
 refine atCall [] (c_impl_numsOf s lits (by omega) hG.wf) ?_ ?_ <;> simp -implicitDefEqProofs only [go_sem]
 with_reducible refine ind_andM (by kernel_rfl) ?_
 refine atOwn [] [3] hrun ?_ ?_ <;> simp -implicitDefEqProofs only [go_sem]
 refine fin1' ?_
 simp -implicitDefEqProofs only [go_sem]
 all_goals ((repeat' apply And.intro) <;> rfl)
end Go.Proofs.YtpidddienjoleaaGreat
namespace Go.Proofs.YtpidddienjoleaaGreat
open Go.Eng Go.Mod
open Int renaming reduceEq → Z1,reduceLT → Z2,reduceLE → Z3,reduceToNat → Z4
set_option maxRecDepth 100000
set_option maxHeartbeats 1600000
theorem c_Insert_end (rows:List Mod.Row) (r:Mod.Row) (hl9:rows.length ≤ 1000):C E.P 170 [.acc 0,iv (rows.length:Int),.acc 1] [some (.acc 167 (rowsRow rows)),some (.acc 167 [cRow r])] (Eq2 (.acc 2) [some .dead,some .dead,some (.acc 167 (rowsRow (rows.take rows.length ++ r :: rows.drop rows.length)))]):=by
 have e:rows.take rows.length ++ r :: rows.drop rows.length = rows ++ [r]:=by rw [List.take_length,List.drop_length]
 have hs:rowsRow (rows ++ [r]) = rowsRow rows ++ [cRow r]:=by simp [rowsRow]
 rw [e,hs]
 have hLB:=LB_eq
 refine C_goS (nt:=95) (rs:=[.tmp 6]) hm Tryz.func170 rfl rfl rfl rfl rfl (fun hl he=>?_)
 simp -implicitDefEqProofs only [go_sem] at hl ⊢
 refine atOp_by (st_tail_any (.tmp 10) (.tmp 11) 30 167 0 _ _ (rowsRow rows) (rows.length:Int) rfl rfl rfl (by simp -implicitDefEqProofs only [go_sem]) (by simp -implicitDefEqProofs only [go_sem]) (by simp -implicitDefEqProofs only [go_sem]) (by omega) (by simp [rowsRow])) ?_
 simp -implicitDefEqProofs only [go_sem,Z1]
 repeat (with_reducible apply And.intro; case left=>(simp; omega))
 refine finM' [some 0,some 1,some 2] ?_ rfl rfl
 simp -implicitDefEqProofs only [go_sem]
end Go.Proofs.YtpidddienjoleaaGreat
