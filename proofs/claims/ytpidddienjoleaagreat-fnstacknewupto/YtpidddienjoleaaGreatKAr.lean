/-
  Copies that share nothing: the walks. A step towards the exact laws.
-/
import Derived.Test.YtpidddienjoleaaGreatKAq
import Derived.Test.YtpidddienjoleaaGreatKAl
set_option linter.unusedVariables false
set_option linter.unusedSimpArgs false
namespace Go.Proofs.YtpidddienjoleaaGreat
open Go.Eng Go.Mod
open Int renaming reduceEq → Z1,reduceLT → Z2,reduceLE → Z3,reduceToNat → Z4
set_option maxRecDepth 100000
set_option maxHeartbeats 400000
theorem c_Clone_int_nilT:C E.P 110 [.nilS] [] (Eq2 (.acc 0) [some (.tre 3 (intT []))]):=by
 have hLB:=LB_eq
 refine C_goS (nt:=8) (rs:=[.tmp 2]) hm Tryz.func110 rfl rfl rfl rfl rfl (fun hl he=>?_)
 simp -implicitDefEqProofs only [go_sem,Z1,Z2,Z3,Z4] at hl ⊢
 refine atNil 3 _ true rfl rfl (by simp -implicitDefEqProofs only [go_sem,Z1,Z2,Z3,Z4]) eqnil_nil ?_
 simp -implicitDefEqProofs only [go_sem,Z1,Z2,Z3,Z4]
 refine finM' [none] ?_ rfl rfl
 simp -implicitDefEqProofs only [go_sem,Z1,Z2,Z3,Z4]
 rfl
theorem c_Clone_int_valT (a:Addr) (c:Nat):C E.P 110 [.d (.val (.slice (some a) 0 c))] [] (Eq2 (.acc 0) [some (.tre 3 (intT []))]):=by
 have hLB:=LB_eq
 refine C_goS (nt:=8) (rs:=[.tmp 2]) hm Tryz.func110 rfl rfl rfl rfl rfl (fun hl he=>?_)
 simp -implicitDefEqProofs only [go_sem,Z1,Z2,Z3,Z4] at hl ⊢
 refine atNil 3 _ false rfl rfl (p:=.d (.val (.slice (some a) 0 c))) (by simp -implicitDefEqProofs only [go_sem,Z1,Z2,Z3,Z4]) (eqnil_val _ _ _) ?_
 simp -implicitDefEqProofs only [go_sem,Z1,Z2,Z3,Z4]
 repeat (with_reducible apply And.intro; case left=>(simp [*]; done))
 refine finM' [some 1] ?_ rfl rfl
 simp -implicitDefEqProofs only [go_sem,Z1,Z2,Z3,Z4]
 rfl
theorem c_Clone_int_consT (n:Int) (ns:List Int) (hl1:ns.length ≤ 8000000):C E.P 110 [.d (.lst (rowsI (n :: ns)))] [] (Eq2 (.acc 0) [some (.tre 3 (intT (n :: ns)))]):=by
 have h1:=rowsI_all (n :: ns)
 have hl2:(rowsI ns).length = ns.length:=rowsI_len ns
 rw [rowsI_cons] at h1 ⊢
 have hLB:=LB_eq
 refine C_goS (nt:=8) (rs:=[.tmp 2]) hm Tryz.func110 rfl rfl rfl rfl rfl (fun hl he=>?_)
 simp -implicitDefEqProofs only [go_sem,Z1,Z2,Z3,Z4] at hl ⊢
 refine atNil 3 _ false rfl rfl (p:=.d (.lst ([.val (.int .i64 n)] :: rowsI ns))) (by simp -implicitDefEqProofs only [go_sem,Z1,Z2,Z3,Z4]) eqnil_lst ?_
 simp -implicitDefEqProofs only [go_sem,Z1,Z2,Z3,Z4]
 refine And.intro ⟨?_,by omega,by omega⟩ ?_
 ·simpa using h1
 refine finM' [some 1] ?_ rfl rfl
 simp -implicitDefEqProofs only [go_sem,Z1,Z2,Z3,Z4]
 rw [← lift_rowsI,rowsI_cons]
theorem c_Clone_int_T (ns:List Int) (hl1:ns.length ≤ 8000000):C E.P 110 [lv (rowsI ns)] [] (Eq2 (.acc 0) [some (.tre 3 (intT ns))]):=by
 cases ns with
 | nil=>exact C_split c_Clone_int_nilT c_Clone_int_valT
 | cons x xs=>exact c_Clone_int_consT x xs (by simp at hl1; omega)
theorem c_impl_ownTerms_T1 (ts:List Term) (ih:∀ k ∈ ts,C E.P 102 [av (cT k)] [] (Eq2 (.agg [sv k.name,.acc 0]) [some (.tre 35 (tTs k.kids))])):C E.P 109 [lv (rowsT ts)] [] (Eq2 (.acc 0) [some (.tre 35 (tTs ts))]):=by
 have hLB:=LB_eq
 refine C_goS (nt:=19) (rs:=[.tmp 2]) hm Tryz.func109 rfl rfl rfl rfl rfl (fun hl he=>?_)
 simp -implicitDefEqProofs only [go_sem,Z1,Z2,Z3,Z4] at hl ⊢
 refine loop_go1 hm (fun (i:Nat)=> i ≤ ts.length) (fun (i:Nat)=> ⟨mkS 19 .any [(3,.acc 0),(6,lv (rowsT ts)),(7,iv ts.length),(8,iv i)],[some (.tre 35 (tTs (ts.take i)))]⟩) (fun (i:Nat)=> ts.length - i) (0) ?_ (weakS [none] ?_ ?_ rfl rfl) ?_
 rotate_left
 ·simp -implicitDefEqProofs only [go_sem,Z1,Z2,Z3,Z4]
 ·simp -implicitDefEqProofs only [go_sem,Z1,Z2,Z3,Z4]
  all_goals (rfl)
 rotate_left
 ·omega
 ·rintro i hi
  have hp:(tTs (ts.take i)).length = i:=by rw [tTs_len,List.length_take]; omega
  rcases Classical.em (i < ts.length) with h1 | h1
  ·simp -implicitDefEqProofs only [go_sem,Z1,Z2,Z3,Z4,h1]
   have hc:=ih ts[i] (List.getElem_mem h1)
   refine atOwn [] [2] hc ?_ ?_ <;> simp -implicitDefEqProofs only [go_sem,Z1,Z2,Z3,Z4]
   refine ⟨by omega,by omega,?_⟩
   refine ⟨i + 1,?_,?_,weak_put 4 i _ rfl (by rw [List.length_append,hp]; simp) (rwT_endn hp) ?_⟩
   rotate_left
   ·show _ < _
    omega
   ·simp -implicitDefEqProofs only [go_sem,Z1,Z2,Z3,Z4]
    refine weakS [some 4] ?_ ?_ rfl rfl
    ·simp -implicitDefEqProofs only [go_sem,Z1,Z2,Z3,Z4]
    ·simp -implicitDefEqProofs only [go_sem,Z1,Z2,Z3,Z4]
     all_goals (rw [set_endn hp]; exact ⟨tTs_snoc h1,(congrArg (fun z=>(frzRows z).isSome) (tTs_snoc h1)).trans (tTs_ok _)⟩)
   exact h1
  ·simp -implicitDefEqProofs only [go_sem,Z1,Z2,Z3,Z4,h1]
   refine finM' [some 0] ?_ rfl rfl
   simp -implicitDefEqProofs only [go_sem,Z1,Z2,Z3,Z4]
   rw [List.take_of_length_le (by omega)]
theorem c_impl_own_T1 (t:Term) (ih:∀ k ∈ t.kids,C E.P 102 [av (cT k)] [] (Eq2 (.agg [sv k.name,.acc 0]) [some (.tre 35 (tTs k.kids))])):C E.P 102 [av (cT t)] [] (Eq2 (.agg [sv t.name,.acc 0]) [some (.tre 35 (tTs t.kids))]):=by
 have hLB:=LB_eq
 refine C_goS (nt:=9) (rs:=[.cell 2 35]) hm Tryz.func102 rfl rfl rfl rfl rfl (fun hl he=>?_)
 simp -implicitDefEqProofs only [go_sem,Z1,Z2,Z3,Z4] at hl ⊢
 refine atOwn [] [2] (c_impl_ownTerms_T1 t.kids ih) ?_ ?_ <;> simp -implicitDefEqProofs only [go_sem,Z1,Z2,Z3,Z4]
 with_reducible refine ind_andM (by kernel_rfl) ?_
 skip
 refine finM' [some 2] ?_ rfl rfl
 simp -implicitDefEqProofs only [go_sem,Z1,Z2,Z3,Z4]
theorem c_impl_Term_own_T:∀ t,C E.P 102 [av (cT t)] [] (Eq2 (.agg [sv t.name,.acc 0]) [some (.tre 35 (tTs t.kids))]):=
 Term.ind fun n ks ih=>c_impl_own_T1 _ ih
theorem c_impl_ownTerms_T (ts:List Term):C E.P 109 [lv (rowsT ts)] [] (Eq2 (.acc 0) [some (.tre 35 (tTs ts))]):=c_impl_ownTerms_T1 ts fun t _=>c_impl_Term_own_T t
theorem c_impl_Atom_own_T (a:Atom) (hl1:a.times.length ≤ 8000000):C E.P 43 [av (cAtom a)] [] (Eq2 (.agg (atomV a 0)) (atomE a)):=by
 have hLB:=LB_eq
 refine C_goS (nt:=20) (rs:=[.cell 2 46]) hm Tryz.func43 rfl rfl rfl rfl rfl (fun hl he=>?_)
 simp -implicitDefEqProofs only [go_sem,Z1,Z2,Z3,Z4] at hl ⊢
 refine atOwn [] [2] (c_impl_Term_own_T a.A) ?_ ?_ <;> simp -implicitDefEqProofs only [go_sem,Z1,Z2,Z3,Z4]
 refine atOwn [] [3] (c_impl_Term_own_T a.B) ?_ ?_ <;> simp -implicitDefEqProofs only [go_sem,Z1,Z2,Z3,Z4]
 refine atOwn [] [4] (c_impl_ownTerms_T a.nums) ?_ ?_ <;> simp -implicitDefEqProofs only [go_sem,Z1,Z2,Z3,Z4]
 refine atOwn [] [5] (c_Clone_int_T a.times hl1) ?_ ?_ <;> simp -implicitDefEqProofs only [go_sem,Z1,Z2,Z3,Z4]
 with_reducible refine ind_andM (by kernel_rfl) ?_
 refine finM' [some 2,some 3,some 4,some 5] ?_ rfl rfl
 simp -implicitDefEqProofs only [go_sem,Z1,Z2,Z3,Z4]
end Go.Proofs.YtpidddienjoleaaGreat
