/-
  A formula told to a stack: the walks. A step towards the exact laws. A formula told to a stack: the reference's walks. A step towards the exact laws.
-/
import Derived.Test.YtdikjlldidjioaaGreatKAs
import Derived.Test.YtdikjlldidjioaaGreatKAt
import Derived.Test.YtdikjlldidjioaaGreatKADa
set_option linter.unusedVariables false
set_option linter.unusedSimpArgs false
namespace Go.Proofs.YtdikjlldidjioaaGreat
open Go.Eng Go.Mod
open Int renaming reduceEq → Z1,reduceLT → Z2,reduceLE → Z3,reduceToNat → Z4
set_option maxRecDepth 100000
set_option maxHeartbeats 400000
theorem lift_one (x:List D):lift [x] = [x.map T.leaf]:=rfl
theorem frz_leafs:∀ (x:List D),frzCells (x.map T.leaf) = some x:=frzCells_lift
end Go.Proofs.YtdikjlldidjioaaGreat
namespace Go.Proofs.YtdikjlldidjioaaGreat
open Go.Eng Go.Mod
open Int renaming reduceEq → Z1,reduceLT → Z2,reduceLE → Z3,reduceToNat → Z4
set_option maxRecDepth 100000
set_option maxHeartbeats 400000
def cDT (fs:List Mod.Form):List T:=[.own 50 (lift (rowsForm fs))]
def dT (l:List (List Mod.Form)):List (List T):=l.map cDT
theorem dT_len (l:List (List Mod.Form)):(dT l).length = l.length:=by simp [dT]
theorem dT_row {l:List (List Mod.Form)} {i:Nat} (h:i < l.length):rwT (dT l) i = cDT l[i]:=by simp [dT,rwT,List.getD,List.getElem?_eq_getElem h]
theorem dT_snoc {l:List (List Mod.Form)} {i:Nat} (h:i < l.length):dT (l.take i) ++ [cDT l[i]] = dT (l.take (i + 1)):=by
 have e:l.take (i + 1) = l.take i ++ [l[i]]:=by rw [List.take_add_one,List.getElem?_eq_getElem h]; rfl
 rw [e]; simp only [dT,List.map_append,List.map_cons,List.map_nil]
theorem dT_frz:∀ (l:List (List Mod.Form)),frzRows (dT l) = some (rowsFF l)
 | []=>rfl
 | s :: l=>by
   have:=dT_frz l
   simp only [dT,List.map_cons] at this ⊢
   simp [frzRows,frzCells,T.frz,cDT,frzRows_lift,this,rowsFF]
theorem dT_ok (l:List (List Mod.Form)):(frzRows (dT l)).isSome = true:=by rw [dT_frz]; rfl
theorem dT_ren (m:List Nat) (l:List (List Mod.Form)):renRows m (dT l) = dT l:=frz_renRs _ (by rw [dT_frz]; rfl)
attribute [go_sem] dT_len dT_frz dT_ren lift_len
theorem c_spec_l14Copy_T (s:Stack) (hb9:ctStack s ≤ 8000000) (hl9:s.levels.length ≤ 8000000):C E.P 68 [av (cStack s)] [] (Eq2 (.agg [lv (rowsSym s.sig.syms),.acc 0]) [some (.tre 36 (dT s.levels))]):=by
 rw [ctStack] at hb9
 have hLB:=LB_eq
 refine C_goS (nt:=29) (rs:=[.cell 2 29]) hm Tryz.func68 rfl rfl rfl rfl rfl (fun hl he=>?_)
 simp -implicitDefEqProofs only [go_sem,Z1,Z2,Z3,Z4] at hl ⊢
 refine atCall [] (c_spec_l14Sig s.sig (by omega)) ?_ ?_ <;> simp -implicitDefEqProofs only [go_sem,Z1,Z2,Z3,Z4]
 refine loop_go1 hm (fun (i:Nat)=> i ≤ s.levels.length) (fun (i:Nat)=> ⟨mkS 29 .any [(1,.ptr 0 0),(2,.ptr 1 0),(3,.ptr 2 0),(4,iv i)],[some (.box (pvs (cStack s))),some (.box [.nilS,.nilS]),some (.box [lv (rowsSym s.sig.syms),.acc 3]),some (.tre 36 (dT (s.levels.take i)))]⟩) (fun (i:Nat)=> s.levels.length - i) (0) ?_ (weakS [some 0,some 1,some 3,some 2] ?_ ?_ rfl rfl) ?_
 rotate_left
 ·simp -implicitDefEqProofs only [go_sem,Z1,Z2,Z3,Z4]
 ·simp -implicitDefEqProofs only [go_sem,Z1,Z2,Z3,Z4]
  all_goals (rfl)
 rotate_left
 ·omega
 ·rintro i hi
  have hp:(dT (s.levels.take i)).length = i:=by rw [dT_len,List.length_take]; omega
  rcases Classical.em (i < s.levels.length) with h1 | h1
  ·have hc9:=ctL_mem ctForms (List.getElem_mem h1)
   simp -implicitDefEqProofs only [go_sem,Z1,Z2,Z3,Z4,h1]
   refine atOwn [] [4] (c_spec_l14Level s.levels[i] (by omega)) ?_ ?_ <;> simp -implicitDefEqProofs only [go_sem,Z1,Z2,Z3,Z4]
   repeat (first | with_reducible refine ind_andM (by kernel_rfl) ?_ | (with_reducible apply And.intro; case left=>omega))
   refine ⟨i + 1,?_,?_,weak_put 6 i _ rfl (by rw [List.length_append,hp]; simp) (rwT_endn hp) ?_⟩
   rotate_left
   ·show _ < _
    omega
   ·simp -implicitDefEqProofs only [go_sem,Z1,Z2,Z3,Z4]
    refine weakS [some 0,some 1,some 2,some 6] ?_ ?_ rfl rfl
    ·simp -implicitDefEqProofs only [go_sem,Z1,Z2,Z3,Z4]
    ·simp -implicitDefEqProofs only [go_sem,Z1,Z2,Z3,Z4]
     all_goals (rw [set_endn hp]; exact ⟨dT_snoc h1,(congrArg (fun z=>(frzRows z).isSome) (dT_snoc h1)).trans (dT_ok _)⟩)
   exact h1
  ·simp -implicitDefEqProofs only [go_sem,Z1,Z2,Z3,Z4,h1]
   refine finM' [some 3] ?_ rfl rfl
   simp -implicitDefEqProofs only [go_sem,Z1,Z2,Z3,Z4]
   rw [List.take_of_length_le (by omega)]
theorem tell_frzD (l:List (List Mod.Form)) (f:Mod.Form) (h:0 < l.length):frzRows ((dT l).set (l.length - 1) [.own 50 (lift (rowsForm (l[l.length - 1]'(by omega))) ++ [(cForm f).map T.leaf])]) = some (rowsFF (tellLast l f)):=by
 have key:∀ (l:List (List Mod.Form)) (i:Nat) (hi:i < l.length) (x:List T) (y:List Mod.Form),frzCells x = some [.lst (rowsForm y)] → frzRows ((dT l).set i x) = some (rowsFF (l.set i y)):=by
  intro l
  induction l with
  | nil=>intro i hi; simp at hi
  | cons a l ih=>
    intro i hi x y hx
    cases i with
    | zero=>
      have:=dT_frz l
      simp only [dT,List.map_cons,List.set_cons_zero] at this ⊢
      simp [frzRows,hx,this,rowsFF]
    | succ i=>
      have:=ih i (by simpa using hi) x y hx
      simp only [dT,List.map_cons,List.set_cons_succ] at this ⊢
      simp [frzRows,frzCells,T.frz,cDT,frzRows_lift,this,rowsFF]
 rw [tellLast_set l f h]
 refine key l _ (by omega) _ _ ?_
 have h1:=frz_app (frzRows_lift (rowsForm (l[l.length - 1]'(by omega)))) (show frzRows [(cForm f).map T.leaf] = some [cForm f] by simp [frzRows,frz_leafs])
 simp only [frzCells,T.frz,h1]
 rw [← rowsForm_app,rowsForm_cons,rowsForm_nil]
theorem c_spec_StackTell (s:Stack) (f:Mod.Form) (hb9:ctStack s + ctForm f ≤ 8000000):C E.P 64 [av (cStack s),av (cForm f)] [] (Eq2 (.tup [av (cStack (stackTell s f).1),bv (stackTell s f).2]) []):=by
 have hfl:s.levels.flatten.length ≤ 8000000:=by
  have:=flat_len s.levels
  rw [ctStack] at hb9
  omega
 have hLB:LB = 1099511627776:=rfl
 refine C_goW (nt:=51) (rs:=[.cell 4 29,.tmp 5]) Tryz.func64 rfl rfl rfl rfl rfl (fun hl he=>?_)
 simp -implicitDefEqProofs only [go_sem,Z1,Z2,Z3,Z4] at hl he ⊢
 refine W_seq (W_of hm ?_)
 simp -implicitDefEqProofs only [go_sem,Z1,Z2,Z3,Z4,onQ_on,thenQ_n]
 refine W_seq (W_of hm ?_)
 simp -implicitDefEqProofs only [go_sem,Z1,Z2,Z3,Z4,onQ_on,thenQ_n,thenQ_r]
 refine atCall [] (c_spec_StackOk s hfl) ?_ ?_ <;> simp -implicitDefEqProofs only [go_sem,Z1,Z2,Z3,Z4,onQ_on,thenQ_n,thenQ_r]
 cases hok:stackOk s
 ·have e:stackTell s f = (⟨⟨[]⟩,[]⟩,false):=by simp [stackTell,hok]
  simp -implicitDefEqProofs only [go_sem,Z1,Z2,Z3,Z4,onQ_on,thenQ_n,thenQ_r]
  refine FinW_of ?_
  refine fin1' ?_
  simp -implicitDefEqProofs only [go_sem,Z1,Z2,Z3,Z4]
  rw [e]
  exact ⟨⟨rfl,rfl⟩,rfl⟩
 ·have hlen:=stackOk_len hok
  simp -implicitDefEqProofs only [go_sem,Z1,Z2,Z3,Z4,onQ_on,thenQ_n,thenQ_r]
  refine W_seq (W_of hm ?_)
  simp -implicitDefEqProofs only [go_sem,Z1,Z2,Z3,Z4,onQ_on,thenQ_n,thenQ_r]
  refine atOwn [] [3] (c_spec_l14Copy_T s (by omega) (by omega)) ?_ ?_ <;> simp -implicitDefEqProofs only [go_sem,Z1,Z2,Z3,Z4,onQ_on,thenQ_n,thenQ_r]
  refine W_seq (W_of hm ?_)
  simp -implicitDefEqProofs only [go_sem,Z1,Z2,Z3,Z4,onQ_on,thenQ_n,thenQ_r]
  repeat (with_reducible apply And.intro; case left=>omega)
  refine W_seq (W_seq (W_flag hm rfl rfl rfl rfl (by kernel_rfl) (by kernel_rfl) (by kernel_rfl) (by kernel_rfl) (by kernel_rfl) (by kernel_rfl) (by simp only [mkS_len]; omega) ?_))
  intro b
  have hlv:s.levels[s.levels.length - 1].length ≤ 8000000:=by
   have h1:=ctForms_len s.levels[s.levels.length - 1]
   have h2:=ctL_mem ctForms (List.getElem_mem (show s.levels.length - 1 < s.levels.length by omega))
   rw [ctStack] at hb9
   omega
  have hl2:s.levels.length - 1 < s.levels.length:=by omega
  have hct2:ctStack ⟨s.sig,tellLast s.levels f⟩ ≤ 8000000:=by
   have:=tellLast_ct s.levels f
   rw [ctStack] at hb9
   simp only [ctStack]
   omega
  have hfl2:(tellLast s.levels f).flatten.length ≤ 8000000:=by
   have:=flat_len (tellLast s.levels f)
   simp only [ctStack] at hct2
   omega
  have hp:(lift (rowsForm s.levels[s.levels.length - 1])).length = s.levels[s.levels.length - 1].length:=by rw [lift_len,rowsForm_len]
  have hrz:∀ r,rwT (lift (rowsForm s.levels[s.levels.length - 1]) ++ [r]) s.levels[s.levels.length - 1].length = r:=fun r=>rwT_endn hp
  have hsz:∀ r r',(lift (rowsForm s.levels[s.levels.length - 1]) ++ [r]).set s.levels[s.levels.length - 1].length r' = lift (rowsForm s.levels[s.levels.length - 1]) ++ [r']:=fun r r'=>set_endn hp
  have hl3:s.levels.length - 1 < (dT s.levels).length:=by rw [dT_len]; exact hl2
  have e2:((s.levels.length:Int) - 1).toNat = s.levels.length - 1:=by omega
  have hrow:rwT (dT s.levels) (s.levels.length - 1) = [.own 50 (lift (rowsForm s.levels[s.levels.length - 1]))]:=dT_row hl2
  have hrs:∀ r,rwT ((dT s.levels).set (s.levels.length - 1) r) (s.levels.length - 1) = r:=fun r=>rwT_set hl3
  refine W_weak (Wk0.weak (take_row 3 (s.levels.length - 1) _ rfl hl3 hrow)) ?_
  simp -implicitDefEqProofs only [go_sem,Z1,Z2,Z3,Z4,thenQ_n]
  cases b
  ·refine W_of hm ?_
   simp -implicitDefEqProofs only [go_sem,Z1,Z2,Z3,Z4,onQ_on,thenQ_n,thenQ_r,e2,hrs]
   repeat (with_reducible apply And.intro; case left=>omega)
   refine atCall [] (c_spec_l14Form f (by omega)) ?_ ?_ <;> simp -implicitDefEqProofs only [go_sem,Z1,Z2,Z3,Z4,onQ_on,thenQ_n,thenQ_r,e2,hrs]
   repeat (first | with_reducible refine ind_andM (by kernel_rfl) ?_ | (with_reducible apply And.intro; case left=>omega))
   refine W_weak (Wk0.weak (put_row 3 (s.levels.length - 1) _ rfl (by rw [List.length_set]; exact hl3) (hrs _))) ?_
   simp -implicitDefEqProofs only [go_sem,Z1,Z2,Z3,Z4,lift_one]
   have hfr:=tell_frzD s.levels f (by omega)
   simp only [cForm,List.map_cons,List.map_nil] at hfr
   generalize (dT s.levels).set (s.levels.length - 1) _ = L at hfr ⊢
   refine W_seq (W_of hm ?_)
   simp -implicitDefEqProofs only [go_sem,Z1,Z2,Z3,Z4,onQ_on,thenQ_n,thenQ_r]
   refine atLook [] [3] (c_spec_StackOk ⟨s.sig,tellLast s.levels f⟩ hfl2) rfl ?_ ?_ ?_
   ·simp -implicitDefEqProofs only [go_sem,Z1,Z2,Z3,Z4]
    exact Vws.cons (Vw.agg (Vws.cons (Vw.same rfl) (Vws.cons (Vw.tre rfl rfl hfr) .nil))) .nil
   all_goals simp -implicitDefEqProofs only [go_sem,Z1,Z2,Z3,Z4]
   cases hok2:stackOk ⟨s.sig,tellLast s.levels f⟩
   ·have e:stackTell s f = (s,false):=by rw [stackTell,if_pos hok,hok2]; rfl
    simp -implicitDefEqProofs only [go_sem,Z1,Z2,Z3,Z4,onQ_on,thenQ_n,thenQ_r]
    refine atCall [] (c_spec_l14Copy s (by omega) (by omega)) ?_ ?_ <;> simp -implicitDefEqProofs only [go_sem,Z1,Z2,Z3,Z4,onQ_on,thenQ_n,thenQ_r]
    refine FinW_of ?_
    refine fin1' ?_
    simp -implicitDefEqProofs only [go_sem,Z1,Z2,Z3,Z4]
    rw [e]
    exact ⟨⟨rfl,rfl⟩,rfl⟩
   ·have e:stackTell s f = (⟨s.sig,tellLast s.levels f⟩,true):=by rw [stackTell,if_pos hok,if_pos hok2]
    simp -implicitDefEqProofs only [go_sem,Z1,Z2,Z3,Z4,onQ_on,thenQ_n,thenQ_r]
    refine W_of hm ?_
    simp -implicitDefEqProofs only [go_sem,Z1,Z2,Z3,Z4,onQ_on,thenQ_n,thenQ_r]
    refine FinW_of ?_
    refine fin1' ?_
    simp -implicitDefEqProofs only [go_sem,Z1,Z2,Z3,Z4]
    rw [e]
    exact ⟨⟨rfl,_,hfr,rfl⟩,rfl⟩
  ·refine W_of hm ?_
   simp -implicitDefEqProofs only [go_sem,Z1,Z2,Z3,Z4,onQ_on,thenQ_n,thenQ_r,e2,hrs,lift_one,hrz,hsz]
   repeat (with_reducible apply And.intro; case left=>omega)
   refine atCall [] (c_spec_l14Form f (by omega)) ?_ ?_ <;> simp -implicitDefEqProofs only [go_sem,Z1,Z2,Z3,Z4,onQ_on,thenQ_n,thenQ_r,e2,hrs,lift_one,hrz,hsz]
   repeat (first | with_reducible refine ind_andM (by kernel_rfl) ?_ | (with_reducible apply And.intro; case left=>first | omega | (simp [*]; done)))
   refine W_weak (Wk0.weak (put_row 3 (s.levels.length - 1) _ rfl (by rw [List.length_set]; exact hl3) (hrs _))) ?_
   simp -implicitDefEqProofs only [go_sem,Z1,Z2,Z3,Z4,lift_one]
   have hfr:=tell_frzD s.levels f (by omega)
   simp only [cForm,List.map_cons,List.map_nil] at hfr
   generalize (dT s.levels).set (s.levels.length - 1) _ = L at hfr ⊢
   refine W_seq (W_of hm ?_)
   simp -implicitDefEqProofs only [go_sem,Z1,Z2,Z3,Z4,onQ_on,thenQ_n,thenQ_r]
   refine atLook [] [3] (c_spec_StackOk ⟨s.sig,tellLast s.levels f⟩ hfl2) rfl ?_ ?_ ?_
   ·simp -implicitDefEqProofs only [go_sem,Z1,Z2,Z3,Z4]
    exact Vws.cons (Vw.agg (Vws.cons (Vw.same rfl) (Vws.cons (Vw.tre rfl rfl hfr) .nil))) .nil
   all_goals simp -implicitDefEqProofs only [go_sem,Z1,Z2,Z3,Z4]
   cases hok2:stackOk ⟨s.sig,tellLast s.levels f⟩
   ·have e:stackTell s f = (s,false):=by rw [stackTell,if_pos hok,hok2]; rfl
    simp -implicitDefEqProofs only [go_sem,Z1,Z2,Z3,Z4,onQ_on,thenQ_n,thenQ_r]
    refine atCall [] (c_spec_l14Copy s (by omega) (by omega)) ?_ ?_ <;> simp -implicitDefEqProofs only [go_sem,Z1,Z2,Z3,Z4,onQ_on,thenQ_n,thenQ_r]
    refine FinW_of ?_
    refine fin1' ?_
    simp -implicitDefEqProofs only [go_sem,Z1,Z2,Z3,Z4]
    rw [e]
    exact ⟨⟨rfl,rfl⟩,rfl⟩
   ·have e:stackTell s f = (⟨s.sig,tellLast s.levels f⟩,true):=by rw [stackTell,if_pos hok,if_pos hok2]
    simp -implicitDefEqProofs only [go_sem,Z1,Z2,Z3,Z4,onQ_on,thenQ_n,thenQ_r]
    refine W_of hm ?_
    simp -implicitDefEqProofs only [go_sem,Z1,Z2,Z3,Z4,onQ_on,thenQ_n,thenQ_r]
    refine FinW_of ?_
    refine fin1' ?_
    simp -implicitDefEqProofs only [go_sem,Z1,Z2,Z3,Z4]
    rw [e]
    exact ⟨⟨rfl,_,hfr,rfl⟩,rfl⟩
end Go.Proofs.YtdikjlldidjioaaGreat
