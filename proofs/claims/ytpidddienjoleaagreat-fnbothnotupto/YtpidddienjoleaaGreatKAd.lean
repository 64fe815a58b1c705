/-
  The program: the walks of formulas. A step towards the exact laws.
-/
import Derived.Test.YtpidddienjoleaaGreatKAE
import Derived.Test.YtpidddienjoleaaGreatKAO
set_option linter.unusedVariables false
set_option linter.unusedSimpArgs false
namespace Go.Proofs.YtpidddienjoleaaGreat
open Go.Eng Go.Mod
open Int renaming reduceEq → Z1,reduceLT → Z2,reduceLE → Z3,reduceToNat → Z4
set_option maxRecDepth 100000
set_option maxHeartbeats 400000
theorem c_Equal_int (a b:List Int):C E.P 56 [lv (rowsI a),lv (rowsI b)] [] (Eq2 (bv (decide (a = b))) []):=by
 have hLB:=LB_eq
 refine C_goS (nt:=26) (rs:=[.tmp 4]) hm Tryz.func56 rfl rfl rfl rfl rfl (fun hl he=>?_)
 simp -implicitDefEqProofs only [go_sem] at hl ⊢
 rcases Classical.em (a.length = b.length) with h2 | h2
 ·have k2:=eq_true h2
  simp -implicitDefEqProofs only [go_sem,k2]
  refine loop_go1 hm (fun (i:Nat)=> i ≤ a.length ∧ (a = b ↔ a.drop i = b.drop i)) (fun (i:Nat)=> ⟨mkS 26 .any [(0,lv (rowsI a)),(1,lv (rowsI b)),(12,iv a.length),(13,iv i)],[]⟩) (fun (i:Nat)=> a.length - i) (0) ?_ (weakS [] ?_ ?_ rfl rfl) ?_
  rotate_left
  ·simp -implicitDefEqProofs only [go_sem]
  ·simp -implicitDefEqProofs only [go_sem]
  rotate_left
  ·simp
  ·rintro i ⟨hi,hg⟩
   rcases Classical.em (i < a.length) with h3 | h3
   ·have h4:i < b.length:=by omega
    rw [List.drop_eq_getElem_cons h3,List.drop_eq_getElem_cons h4,List.cons.injEq] at hg
    rcases Classical.em (a[i] = b[i]) with h5 | h5
    ·have k5:=eq_true h5
     simp -implicitDefEqProofs only [go_sem,h3,h4,k5]
     with_reducible refine ind_andM (by kernel_rfl) ?_
     repeat (with_reducible apply And.intro; case left=>omega)
     refine ⟨i + 1,?_,?_,weakS [] ?_ ?_ rfl rfl⟩
     rotate_left
     ·show _ < _
      omega
     ·simp -implicitDefEqProofs only [go_sem]
     ·simp -implicitDefEqProofs only [go_sem]
     refine ⟨by omega,?_⟩
     rw [hg]
     simp [h5]
    ·have e:¬ a = b:=fun hh=>h5 (hg.1 hh).1
     simp -implicitDefEqProofs only [go_sem,h3,h4,h5]
     with_reducible refine ind_andM (by kernel_rfl) ?_
     refine fin1' ?_
     simp -implicitDefEqProofs only [go_sem]
     all_goals (simp [e]; done)
   ·rw [List.drop_of_length_le (by omega),List.drop_of_length_le (by omega)] at hg
    simp -implicitDefEqProofs only [go_sem,h3]
    refine fin1' ?_
    simp -implicitDefEqProofs only [go_sem]
    all_goals (simp [hg]; done)
 ·have e:¬ a = b:=fun hh=>h2 (by rw [hh])
  simp -implicitDefEqProofs only [go_sem,h2]
  refine fin1' ?_
  simp -implicitDefEqProofs only [go_sem]
  all_goals (simp [e]; done)
theorem atom_eqI (a b:Atom):(a = b) = (a.kind = b.kind ∧ a.A = b.A ∧ a.B = b.B ∧ a.nums = b.nums ∧ a.times = b.times ∧ a.bound = b.bound ∧ a.strict = b.strict):=by
 cases a; cases b; simp only [Atom.mk.injEq]
theorem c_impl_AtomSame (a b:Atom):C E.P 138 [av (cAtom a),av (cAtom b)] [] (Eq2 (bv (decide (a = b))) []):=by
 have hLB:=LB_eq
 refine C_goS (nt:=52) (rs:=[.tmp 4]) hm Tryz.func138 rfl rfl rfl rfl rfl (fun hl he=>?_)
 simp -implicitDefEqProofs only [go_sem] at hl ⊢
 rcases Classical.em (a.kind = b.kind) with h1 | h1
 rotate_left
 ·simp -implicitDefEqProofs only [go_sem,h1]
  refine fin1' ?_
  simp -implicitDefEqProofs only [go_sem]
  all_goals (simp [atom_eqI,h1]; done)
 have k1:=eq_true h1
 simp -implicitDefEqProofs only [go_sem,k1]
 refine atCall [] (c_impl_TermSame a.A b.A) ?_ ?_ <;> simp -implicitDefEqProofs only [go_sem]
 rcases Classical.em (a.A = b.A) with h2 | h2
 rotate_left
 ·simp -implicitDefEqProofs only [go_sem,h2]
  refine fin1' ?_
  simp -implicitDefEqProofs only [go_sem]
  all_goals (simp [atom_eqI,h2]; done)
 have k2:=eq_true h2
 simp -implicitDefEqProofs only [go_sem,k2]
 refine atCall [] (c_impl_TermSame a.B b.B) ?_ ?_ <;> simp -implicitDefEqProofs only [go_sem]
 rcases Classical.em (a.B = b.B) with h3 | h3
 rotate_left
 ·simp -implicitDefEqProofs only [go_sem,h3]
  refine fin1' ?_
  simp -implicitDefEqProofs only [go_sem]
  all_goals (simp [atom_eqI,h3]; done)
 have k3:=eq_true h3
 simp -implicitDefEqProofs only [go_sem,k3]
 refine atCall [] (c_EqualFunc_Term 15 a.nums b.nums (fun x _ y=>c_impl_TermSame x y)) ?_ ?_ <;> simp -implicitDefEqProofs only [go_sem]
 rcases Classical.em (a.nums = b.nums) with h4 | h4
 rotate_left
 ·simp -implicitDefEqProofs only [go_sem,h4]
  refine fin1' ?_
  simp -implicitDefEqProofs only [go_sem]
  all_goals (simp [atom_eqI,h4]; done)
 have k4:=eq_true h4
 simp -implicitDefEqProofs only [go_sem,k4]
 refine atCall [] (c_Equal_int a.times b.times) ?_ ?_ <;> simp -implicitDefEqProofs only [go_sem]
 rcases Classical.em (a.times = b.times) with h5 | h5
 rotate_left
 ·simp -implicitDefEqProofs only [go_sem,h5]
  refine fin1' ?_
  simp -implicitDefEqProofs only [go_sem]
  all_goals (simp [atom_eqI,h5]; done)
 have k5:=eq_true h5
 simp -implicitDefEqProofs only [go_sem,k5]
 rcases Classical.em (a.bound = b.bound) with h6 | h6
 rotate_left
 ·simp -implicitDefEqProofs only [go_sem,h6]
  refine fin1' ?_
  simp -implicitDefEqProofs only [go_sem]
  all_goals (simp [atom_eqI,h6]; done)
 have k6:=eq_true h6
 have e:decide (a = b) = (a.strict == b.strict):=by
  rw [Bool.beq_eq_decide_eq]
  exact decide_eq_decide.2 (by rw [atom_eqI]; simp [h1,h2,h3,h4,h5,h6])
 simp -implicitDefEqProofs only [go_sem,k6]
 refine fin1' ?_
 simp -implicitDefEqProofs only [go_sem]
 all_goals (simp [e]; done)
theorem c_Clone_int_nil:C E.P 110 [.nilS] [] (Eq2 (lv (rowsI [])) []):=by
 have hLB:=LB_eq
 refine C_goS (nt:=8) (rs:=[.tmp 2]) hm Tryz.func110 rfl rfl rfl rfl rfl (fun hl he=>?_)
 simp -implicitDefEqProofs only [go_sem] at hl ⊢
 refine atNil 3 _ true rfl rfl (by simp -implicitDefEqProofs only [go_sem]) eqnil_nil ?_
 simp -implicitDefEqProofs only [go_sem]
 refine fin1' ?_
 simp -implicitDefEqProofs only [go_sem]
theorem c_Clone_int_val (a:Addr) (c:Nat):C E.P 110 [.d (.val (.slice (some a) 0 c))] [] (Eq2 (lv (rowsI [])) []):=by
 have hLB:=LB_eq
 refine C_goS (nt:=8) (rs:=[.tmp 2]) hm Tryz.func110 rfl rfl rfl rfl rfl (fun hl he=>?_)
 simp -implicitDefEqProofs only [go_sem] at hl ⊢
 refine atNil 3 _ false rfl rfl (p:=.d (.val (.slice (some a) 0 c))) (by simp -implicitDefEqProofs only [go_sem]) (eqnil_val _ _ _) ?_
 simp -implicitDefEqProofs only [go_sem]
 repeat (with_reducible apply And.intro; case left=>(simp [*]; done))
 refine fin1' ?_
 simp -implicitDefEqProofs only [go_sem]
theorem c_Clone_int_cons (r:List D) (rs:List (List D)) (hl1:rs.length ≤ 1000) (h1:∀ y ∈ r :: rs,y.length = 1):C E.P 110 [.d (.lst (r :: rs))] [] (Eq2 (lv (r :: rs)) []):=by
 have hLB:=LB_eq
 refine C_goS (nt:=8) (rs:=[.tmp 2]) hm Tryz.func110 rfl rfl rfl rfl rfl (fun hl he=>?_)
 simp -implicitDefEqProofs only [go_sem] at hl ⊢
 refine atNil 3 _ false rfl rfl (p:=.d (.lst (r :: rs))) (by simp -implicitDefEqProofs only [go_sem]) eqnil_lst ?_
 simp -implicitDefEqProofs only [go_sem]
 refine And.intro ⟨?_,by omega,by omega⟩ ?_
 ·simpa using h1
 refine fin1' ?_
 simp -implicitDefEqProofs only [go_sem]
theorem c_Clone_int (ns:List Int) (hl1:ns.length ≤ 1000):C E.P 110 [lv (rowsI ns)] [] (Eq2 (lv (rowsI ns)) []):=by
 cases ns with
 | nil=>exact C_split c_Clone_int_nil c_Clone_int_val
 | cons x xs=>
   have h1:=rowsI_all (x :: xs)
   rw [rowsI_cons] at h1 ⊢
   exact c_Clone_int_cons _ (rowsI xs) (by rw [rowsI_len]; simp at hl1; omega) h1
theorem c_impl_Atom_own (a:Atom) (hl1:a.times.length ≤ 1000):C E.P 43 [av (cAtom a)] [] (Eq2 (av (cAtom a)) []):=by
 have hLB:=LB_eq
 refine C_goS (nt:=20) (rs:=[.cell 2 46]) hm Tryz.func43 rfl rfl rfl rfl rfl (fun hl he=>?_)
 simp -implicitDefEqProofs only [go_sem] at hl ⊢
 refine atCall [] (c_impl_Term_own a.A) ?_ ?_ <;> simp -implicitDefEqProofs only [go_sem]
 refine atCall [] (c_impl_Term_own a.B) ?_ ?_ <;> simp -implicitDefEqProofs only [go_sem]
 refine atCall [] (c_impl_ownTerms a.nums) ?_ ?_ <;> simp -implicitDefEqProofs only [go_sem]
 refine atCall [] (c_Clone_int a.times hl1) ?_ ?_ <;> simp -implicitDefEqProofs only [go_sem]
 with_reducible refine ind_andM (by kernel_rfl) ?_
 refine fin1' ?_
 simp -implicitDefEqProofs only [go_sem]
theorem atomWf_times {a:Atom} (h:atomWf a = true):a.times.length ≤ 4:=by
 rcases atomWf_kind h with k | k
 ·rw [atomWf,if_pos k] at h
  simp only [Bool.and_eq_true,decide_eq_true_eq] at h
  have:=h.2.2.2.1
  omega
 ·obtain ⟨_,_,h3,h4,_⟩:=atomWf_sum h k
  omega
end Go.Proofs.YtpidddienjoleaaGreat
