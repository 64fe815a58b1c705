/-
  Stacks that share nothing: the program's walks. A step towards the exact laws.
-/
import Derived.Test.YtpidddienjoleaaGreatKAr
import Derived.Test.YtpidddienjoleaaGreatKAq
import Derived.Test.YtpidddienjoleaaGreatKAh
import Derived.Test.YtpidddienjoleaaGreatKAEa
import Derived.Test.YtpidddienjoleaaGreatKADa
set_option linter.unusedVariables false
set_option linter.unusedSimpArgs false
namespace Go.Proofs.YtpidddienjoleaaGreat
open Go.Eng Go.Mod
open Int renaming reduceEq → Z1,reduceLT → Z2,reduceLE → Z3,reduceToNat → Z4
set_option maxRecDepth 100000
set_option maxHeartbeats 400000
theorem ctL_mem {α:Type} (c:α → Nat):∀ {xs:List α} {x:α},x ∈ xs → c x ≤ ctL c xs
 | a :: xs,x,h=>by
   simp only [ctL]
   rcases List.mem_cons.1 h with rfl | h
   ·omega
   ·have:=ctL_mem c h
    omega
theorem ctL_len {α:Type} (c:α → Nat) (h:∀ x,1 ≤ c x):∀ (xs:List α),xs.length ≤ ctL c xs
 | []=>by simp
 | x :: xs=>by
   have:=ctL_len c h xs
   have:=h x
   simp only [ctL,List.length_cons]
   omega
theorem c_impl_ownForms_T1 (ts:List Mod.Form) (ih:∀ t ∈ ts,ctForm t ≤ 8000000 → C E.P 141 [av (cForm t)] [] (Eq2 (.agg (formV t 0)) (formE t))) (hb9:ctForms ts ≤ 8000000):C E.P 73 [lv (rowsForm ts)] [] (Eq2 (.acc 0) [some (.tre 112 (fTs ts))]):=by
 have hln:=ctForms_len ts
 have hLB:=LB_eq
 refine C_goS (nt:=19) (rs:=[.tmp 2]) hm Tryz.func73 rfl rfl rfl rfl rfl (fun hl he=>?_)
 simp -implicitDefEqProofs only [go_sem,Z1,Z2,Z3,Z4] at hl ⊢
 refine loop_go1 hm (fun (i:Nat)=> i ≤ ts.length) (fun (i:Nat)=> ⟨mkS 19 .any [(3,.acc 0),(6,lv (rowsForm ts)),(7,iv ts.length),(8,iv i)],[some (.tre 112 (fTs (ts.take i)))]⟩) (fun (i:Nat)=> ts.length - i) (0) ?_ (weakS [none] ?_ ?_ rfl rfl) ?_
 rotate_left
 ·simp -implicitDefEqProofs only [go_sem,Z1,Z2,Z3,Z4]
 ·simp -implicitDefEqProofs only [go_sem,Z1,Z2,Z3,Z4]
  all_goals (rfl)
 rotate_left
 ·omega
 ·rintro i hi
  have hp:(fTs (ts.take i)).length = i:=by rw [fTs_len,List.length_take]; omega
  rcases Classical.em (i < ts.length) with h1 | h1
  ·have hc9:ctForm ts[i] ≤ 8000000:=by
    have:=ctL_mem ctForm (List.getElem_mem h1)
    rw [← ctForms_L] at this
    omega
   simp -implicitDefEqProofs only [go_sem,Z1,Z2,Z3,Z4,h1]
   have hc:=ih ts[i] (List.getElem_mem h1) hc9
   refine atOwn [] [2,3,4,5,6] hc ?_ ?_ <;> simp -implicitDefEqProofs only [go_sem,Z1,Z2,Z3,Z4]
   repeat (with_reducible apply And.intro; case left=>omega)
   refine ⟨i + 1,?_,?_,weak_put 8 i _ rfl (by rw [List.length_append,hp]; simp) (rwT_endn hp) ?_⟩
   rotate_left
   ·show _ < _
    omega
   ·simp -implicitDefEqProofs only [go_sem,Z1,Z2,Z3,Z4]
    refine weakS [some 8] ?_ ?_ rfl rfl
    ·simp -implicitDefEqProofs only [go_sem,Z1,Z2,Z3,Z4]
    ·simp -implicitDefEqProofs only [go_sem,Z1,Z2,Z3,Z4]
     all_goals (rw [set_endn hp]; exact ⟨fTs_snoc h1,(congrArg (fun z=>(frzRows z).isSome) (fTs_snoc h1)).trans (fTs_ok _)⟩)
   exact h1
  ·simp -implicitDefEqProofs only [go_sem,Z1,Z2,Z3,Z4,h1]
   refine finM' [some 0] ?_ rfl rfl
   simp -implicitDefEqProofs only [go_sem,Z1,Z2,Z3,Z4]
   rw [List.take_of_length_le (by omega)]
theorem c_impl_Form_own_T1 (t:Mod.Form) (ih:∀ k ∈ t.kids,ctForm k ≤ 8000000 → C E.P 141 [av (cForm k)] [] (Eq2 (.agg (formV k 0)) (formE k))) (hb9:ctForm t ≤ 8000000):C E.P 141 [av (cForm t)] [] (Eq2 (.agg (formV t 0)) (formE t)):=by
 rw [ctForm_eq,ctLit] at hb9
 have hLB:=LB_eq
 refine C_goS (nt:=14) (rs:=[.cell 2 112]) hm Tryz.func141 rfl rfl rfl rfl rfl (fun hl he=>?_)
 simp -implicitDefEqProofs only [go_sem,Z1,Z2,Z3,Z4] at hl ⊢
 refine atOwn [] [2,3,4,5] (c_impl_Atom_own_T t.lit.atom (by omega)) ?_ ?_ <;> simp -implicitDefEqProofs only [go_sem,Z1,Z2,Z3,Z4]
 refine atOwn [] [6] (c_impl_ownForms_T1 t.kids ih (by omega)) ?_ ?_ <;> simp -implicitDefEqProofs only [go_sem,Z1,Z2,Z3,Z4]
 refine finM' [some 2,some 3,some 4,some 5,some 6] ?_ rfl rfl
 simp -implicitDefEqProofs only [go_sem,Z1,Z2,Z3,Z4]
theorem c_impl_Form_own_T:∀ (t:Mod.Form),ctForm t ≤ 8000000 → C E.P 141 [av (cForm t)] [] (Eq2 (.agg (formV t 0)) (formE t)):=
 Form.ind fun _ _ _ ih hb=>c_impl_Form_own_T1 _ ih hb
theorem c_impl_ownForms_T (ts:List Mod.Form) (hb9:ctForms ts ≤ 8000000):C E.P 73 [lv (rowsForm ts)] [] (Eq2 (.acc 0) [some (.tre 112 (fTs ts))]):=c_impl_ownForms_T1 ts (fun t _=>c_impl_Form_own_T t) hb9
theorem c_impl_Sig_own_T (s:Sig) (hb9:ctL ctSym s.syms ≤ 8000000):C E.P 61 [av (cSig s)] [] (Eq2 (.agg [.acc 0]) [some (.tre 117 (symT s.syms))]):=by
 have hln:=ctL_len ctSym (fun x=>by unfold ctSym; omega) s.syms
 have hLB:=LB_eq
 refine C_goS (nt:=25) (rs:=[.cell 2 25]) hm Tryz.func61 rfl rfl rfl rfl rfl (fun hl he=>?_)
 simp -implicitDefEqProofs only [go_sem,Z1,Z2,Z3,Z4] at hl ⊢
 refine loop_go1 hm (fun (i:Nat)=> i ≤ s.syms.length) (fun (i:Nat)=> ⟨mkS 25 .any [(2,.ptr 1 0),(3,.ptr 2 0),(7,lv (rowsSym s.syms)),(8,iv s.syms.length),(9,iv i)],[some (.box (pvs (cSig s))),some (.box [.nilS]),some (.box [.acc 3]),some (.tre 117 (symT (s.syms.take i)))]⟩) (fun (i:Nat)=> s.syms.length - i) (0) ?_ (weakS [some 0,some 1,some 2,none] ?_ ?_ rfl rfl) ?_
 rotate_left
 ·simp -implicitDefEqProofs only [go_sem,Z1,Z2,Z3,Z4]
 ·simp -implicitDefEqProofs only [go_sem,Z1,Z2,Z3,Z4]
  all_goals (rfl)
 rotate_left
 ·omega
 ·rintro i hi
  have hp:(symT (s.syms.take i)).length = i:=by rw [symT_len,List.length_take]; omega
  rcases Classical.em (i < s.syms.length) with h1 | h1
  ·have hc9:=ctL_mem ctSym (List.getElem_mem h1)
   rw [ctSym] at hc9
   simp -implicitDefEqProofs only [go_sem,Z1,Z2,Z3,Z4,h1]
   refine atOwn [] [5] (c_Clone_int_T s.syms[i].args (by omega)) ?_ ?_ <;> simp -implicitDefEqProofs only [go_sem,Z1,Z2,Z3,Z4]
   repeat (with_reducible apply And.intro; case left=>omega)
   refine ⟨i + 1,?_,?_,weak_put 7 i _ rfl (by rw [List.length_append,hp]; simp) (rwT_endn hp) ?_⟩
   rotate_left
   ·show _ < _
    omega
   ·simp -implicitDefEqProofs only [go_sem,Z1,Z2,Z3,Z4]
    refine weakS [some 0,some 1,some 2,some 7] ?_ ?_ rfl rfl
    ·simp -implicitDefEqProofs only [go_sem,Z1,Z2,Z3,Z4]
    ·simp -implicitDefEqProofs only [go_sem,Z1,Z2,Z3,Z4]
     all_goals (rw [set_endn hp]; exact ⟨symT_snoc h1,(congrArg (fun z=>(frzRows z).isSome) (symT_snoc h1)).trans (symT_ok _)⟩)
   exact h1
  ·simp -implicitDefEqProofs only [go_sem,Z1,Z2,Z3,Z4,h1]
   refine finM' [some 3] ?_ rfl rfl
   simp -implicitDefEqProofs only [go_sem,Z1,Z2,Z3,Z4]
   rw [List.take_of_length_le (by omega)]
theorem c_impl_Stack_own_T (s:Stack) (hb9:ctStack s ≤ 8000000) (hl9:s.levels.length ≤ 8000000):C E.P 69 [av (cStack s)] [] (Eq2 (.agg [.acc 0,.acc 1]) [some (.tre 117 (symT s.sig.syms)),some (.tre 79 (lT s.levels))]):=by
 rw [ctStack] at hb9
 have hLB:=LB_eq
 refine C_goS (nt:=26) (rs:=[.cell 2 72]) hm Tryz.func69 rfl rfl rfl rfl rfl (fun hl he=>?_)
 simp -implicitDefEqProofs only [go_sem,Z1,Z2,Z3,Z4] at hl ⊢
 refine atOwn [] [2] (c_impl_Sig_own_T s.sig (by omega)) ?_ ?_ <;> simp -implicitDefEqProofs only [go_sem,Z1,Z2,Z3,Z4]
 refine loop_go1 hm (fun (i:Nat)=> i ≤ s.levels.length) (fun (i:Nat)=> ⟨mkS 26 .any [(2,.ptr 1 0),(3,.ptr 3 0),(11,lv (rowsFF s.levels)),(12,iv s.levels.length),(13,iv i)],[some (.box (pvs (cStack s))),some (.box [.nilS,.nilS]),some (.tre 117 (symT s.sig.syms)),some (.box [.acc 2,.acc 4]),some (.tre 79 (lT (s.levels.take i)))]⟩) (fun (i:Nat)=> s.levels.length - i) (0) ?_ (weakS [some 0,some 1,some 2,some 3,none] ?_ ?_ rfl rfl) ?_
 rotate_left
 ·simp -implicitDefEqProofs only [go_sem,Z1,Z2,Z3,Z4]
 ·simp -implicitDefEqProofs only [go_sem,Z1,Z2,Z3,Z4]
  all_goals (rfl)
 rotate_left
 ·omega
 ·rintro i hi
  have hp:(lT (s.levels.take i)).length = i:=by rw [lT_len,List.length_take]; omega
  rcases Classical.em (i < s.levels.length) with h1 | h1
  ·have hc9:=ctL_mem ctForms (List.getElem_mem h1)
   simp -implicitDefEqProofs only [go_sem,Z1,Z2,Z3,Z4,h1]
   refine atOwn [] [5] (c_impl_ownForms_T s.levels[i] (by omega)) ?_ ?_ <;> simp -implicitDefEqProofs only [go_sem,Z1,Z2,Z3,Z4]
   repeat (first | with_reducible refine ind_andM (by kernel_rfl) ?_ | (with_reducible apply And.intro; case left=>omega))
   refine ⟨i + 1,?_,?_,weak_put 7 i _ rfl (by rw [List.length_append,hp]; simp) (rwT_endn hp) ?_⟩
   rotate_left
   ·show _ < _
    omega
   ·simp -implicitDefEqProofs only [go_sem,Z1,Z2,Z3,Z4]
    refine weakS [some 0,some 1,some 2,some 3,some 7] ?_ ?_ rfl rfl
    ·simp -implicitDefEqProofs only [go_sem,Z1,Z2,Z3,Z4]
    ·simp -implicitDefEqProofs only [go_sem,Z1,Z2,Z3,Z4]
     all_goals (rw [set_endn hp]; exact ⟨lT_snoc h1,(congrArg (fun z=>(frzRows z).isSome) (lT_snoc h1)).trans (lT_ok _)⟩)
   exact h1
  ·simp -implicitDefEqProofs only [go_sem,Z1,Z2,Z3,Z4,h1]
   refine finM' [some 2,some 4] ?_ rfl rfl
   simp -implicitDefEqProofs only [go_sem,Z1,Z2,Z3,Z4]
   rw [List.take_of_length_le (by omega)]
theorem c_impl_Stack_forms (s:Stack) (hl9:s.levels.flatten.length ≤ 8000000):C E.P 72 [av (cStack s)] [] (Eq2 (lv (rowsForm s.levels.flatten)) []):=by
 have hLB:=LB_eq
 refine C_goS (nt:=18) (rs:=[.tmp 2]) hm Tryz.func72 rfl rfl rfl rfl rfl (fun hl he=>?_)
 simp -implicitDefEqProofs only [go_sem,Z1,Z2,Z3,Z4] at hl ⊢
 refine loop_go1 hm (fun (i:Nat)=> i ≤ s.levels.length) (fun (i:Nat)=> ⟨mkS 18 .any [(3,.acc 1),(7,lv (rowsFF s.levels)),(8,iv s.levels.length),(9,iv i)],[some (.box (pvs (cStack s))),some (.acc 112 (rowsForm (s.levels.take i).flatten))]⟩) (fun (i:Nat)=> s.levels.length - i) (0) ?_ (weakS [some 0,none] ?_ ?_ rfl rfl) ?_
 rotate_left
 ·simp -implicitDefEqProofs only [go_sem,Z1,Z2,Z3,Z4]
 ·simp -implicitDefEqProofs only [go_sem,Z1,Z2,Z3,Z4]
  all_goals (rfl)
 rotate_left
 ·omega
 ·rintro i hi
  rcases Classical.em (i < s.levels.length) with h1 | h1
  ·have e:rowsForm (s.levels.take i).flatten ++ rowsForm s.levels[i] = rowsForm (s.levels.take (i + 1)).flatten:=by
    have e:s.levels.take (i + 1) = s.levels.take i ++ [s.levels[i]]:=by rw [List.take_add_one,List.getElem?_eq_getElem h1]; rfl
    rw [rowsForm_app,e,List.flatten_append]
    simp
   have e2:s.levels.flatten.length = (s.levels.take (i + 1)).flatten.length + (s.levels.drop (i + 1)).flatten.length:=by
    rw [← List.length_append,← List.flatten_append,List.take_append_drop]
   have e3:(s.levels.take (i + 1)).flatten.length = (s.levels.take i).flatten.length + s.levels[i].length:=by
    have:=congrArg List.length e
    rw [List.length_append,rowsForm_len,rowsForm_len,rowsForm_len] at this
    exact this.symm
   have hall:=rowsForm_all s.levels[i]
   simp -implicitDefEqProofs only [go_sem,Z1,Z2,Z3,Z4,h1]
   repeat (with_reducible apply And.intro; case left=>first | omega | exact ⟨rowsForm_all _,by omega⟩)
   refine ⟨i + 1,?_,?_,weakS [some 0,some 2] ?_ ?_ rfl rfl⟩
   rotate_left
   ·show _ < _
    omega
   ·simp -implicitDefEqProofs only [go_sem,Z1,Z2,Z3,Z4]
   ·simp -implicitDefEqProofs only [go_sem,Z1,Z2,Z3,Z4]
    all_goals (exact e)
   exact h1
  ·simp -implicitDefEqProofs only [go_sem,Z1,Z2,Z3,Z4,h1]
   refine fin1' ?_
   simp -implicitDefEqProofs only [go_sem,Z1,Z2,Z3,Z4]
   rw [List.take_of_length_le (by omega)]
theorem c_impl_StackOk (s:Stack) (hl9:s.levels.flatten.length ≤ 8000000):C E.P 31 [av (cStack s)] [] (Eq2 (bv (stackOk s)) []):=by
 have hLB:=LB_eq
 refine C_goS (nt:=14) (rs:=[.tmp 2]) hm Tryz.func31 rfl rfl rfl rfl rfl (fun hl he=>?_)
 simp -implicitDefEqProofs only [go_sem,Z1,Z2,Z3,Z4] at hl ⊢
 refine atCall [] (c_impl_within s.levels.length 1 4) ?_ ?_ <;> simp -implicitDefEqProofs only [go_sem,Z1,Z2,Z3,Z4]
 cases hw:within s.levels.length 1 4
 ·simp -implicitDefEqProofs only [go_sem,Z1,Z2,Z3,Z4]
  with_reducible refine ind_andM (by kernel_rfl) ?_
  refine fin1' ?_
  simp -implicitDefEqProofs only [go_sem,Z1,Z2,Z3,Z4]
  all_goals (simp [stackOk,hw]; done)
 ·simp -implicitDefEqProofs only [go_sem,Z1,Z2,Z3,Z4]
  refine atCall [] (c_impl_Stack_forms s hl9) ?_ ?_ <;> simp -implicitDefEqProofs only [go_sem,Z1,Z2,Z3,Z4]
  refine atCall [] (c_impl_FormsOk s.sig s.levels.flatten) ?_ ?_ <;> simp -implicitDefEqProofs only [go_sem,Z1,Z2,Z3,Z4]
  with_reducible refine ind_andM (by kernel_rfl) ?_
  refine fin1' ?_
  simp -implicitDefEqProofs only [go_sem,Z1,Z2,Z3,Z4]
  all_goals (simp [stackOk,hw]; done)
theorem c_impl_StackPop (s:Stack) (hb9:ctStack s ≤ 8000000):C E.P 30 [av (cStack s)] [] (Eq2 (.tup [.agg [.acc 0,.acc 1],bv (stackPop s).2]) [some (.tre 117 (symT (stackPop s).1.sig.syms)),some (.tre 79 (lT (stackPop s).1.levels))]):=by
 have hfl:s.levels.flatten.length ≤ 8000000:=by
  have:=flat_len s.levels
  rw [ctStack] at hb9
  omega
 have hLB:=LB_eq
 refine C_goS (nt:=25) (rs:=[.cell 2 72,.tmp 3]) hm Tryz.func30 rfl rfl rfl rfl rfl (fun hl he=>?_)
 simp -implicitDefEqProofs only [go_sem,Z1,Z2,Z3,Z4] at hl ⊢
 refine atCall [] (c_impl_StackOk s hfl) ?_ ?_ <;> simp -implicitDefEqProofs only [go_sem,Z1,Z2,Z3,Z4]
 cases hok:stackOk s
 ·have e:stackPop s = (⟨⟨[]⟩,[]⟩,false):=by simp [stackPop,hok]
  simp -implicitDefEqProofs only [go_sem,Z1,Z2,Z3,Z4]
  refine finM' [none,none] ?_ rfl rfl
  simp -implicitDefEqProofs only [go_sem,Z1,Z2,Z3,Z4]
  rw [e]
  exact ⟨rfl,rfl,rfl⟩
 ·have hlen:=stackOk_len hok
  simp -implicitDefEqProofs only [go_sem,Z1,Z2,Z3,Z4]
  refine atOwn [] [2,3] (c_impl_Stack_own_T s hb9 (by omega)) ?_ ?_ <;> simp -implicitDefEqProofs only [go_sem,Z1,Z2,Z3,Z4]
  rcases Classical.em ((s.levels.length:Int) = 1) with h2 | h2
  ·have e:stackPop s = (s,false):=by rw [stackPop,if_pos hok,if_pos (by omega)]
   simp -implicitDefEqProofs only [go_sem,Z1,Z2,Z3,Z4,h2]
   refine finM' [some 2,some 3] ?_ rfl rfl
   simp -implicitDefEqProofs only [go_sem,Z1,Z2,Z3,Z4]
   rw [e]
   exact ⟨rfl,rfl,rfl⟩
  ·have e:stackPop s = (⟨s.sig,s.levels.take (s.levels.length - 1)⟩,true):=by rw [stackPop,if_pos hok,if_neg (by omega)]
   have e2:((s.levels.length:Int) - 1).toNat = s.levels.length - 1:=by omega
   simp -implicitDefEqProofs only [go_sem,Z1,Z2,Z3,Z4,h2]
   repeat (with_reducible apply And.intro; case left=>omega)
   refine atOp_by (st_head_tre (.tmp 17) (.tmp 21) 70 79 3 5 _ _ (lT s.levels) ((s.levels.length:Int) - 1) rfl rfl rfl ?_ ?_ ?_ (by omega) (by rw [lT_len]; omega) rfl) ?_
   ·simp -implicitDefEqProofs only [go_sem,Z1,Z2,Z3,Z4]
   ·simp -implicitDefEqProofs only [go_sem,Z1,Z2,Z3,Z4]
   ·simp -implicitDefEqProofs only [go_sem,Z1,Z2,Z3,Z4]
   simp -implicitDefEqProofs only [go_sem,Z1,Z2,Z3,Z4,e2]
   refine finM' [some 2,some 5] ?_ rfl rfl
   simp -implicitDefEqProofs only [go_sem,Z1,Z2,Z3,Z4]
   rw [e]
   exact ⟨rfl,rfl,rfl⟩
end Go.Proofs.YtpidddienjoleaaGreat
