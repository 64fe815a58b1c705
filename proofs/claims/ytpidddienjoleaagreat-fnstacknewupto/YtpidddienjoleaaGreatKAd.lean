/-
  The program: the walks of formulas. A step towards the exact laws. The program: the walks of formulas, going on: what they tell of, and whether they hold. A step towards the exact laws.
-/
import Derived.Test.YtpidddienjoleaaGreatKAE
import Derived.Test.YtpidddienjoleaaGreatKAO
set_option linter.unusedVariables false
set_option linter.unusedSimpArgs false
namespace Go.Proofs.YtpidddienjoleaaGreat
open Go.Eng Go.Mod
open Int renaming reduceEq → Z1,reduceLT → Z2,reduceLE → Z3,reduceToNat → Z4
set_option maxRecDepth 100000
set_option maxHeartbeats 400000
theorem c_IndexFunc_Atom (f:Nat) (cap:List PV) (hcap:lts 0 cap = true) (p:Atom → Bool) (xs:List Atom) (hf:∀ x ∈ xs,C E.P f (av (cAtom x) :: cap) [] (Eq2 (bv (p x)) [])) :
 C E.P 260 [lv (rowsAtom xs),.fn f cap] [] (Eq2 (iv (idxOf p xs)) []):=by
 have hLB:=LB_eq
 refine C_goS (nt:=19) (rs:=[.tmp 4]) hm Tryz.func260 rfl rfl rfl rfl rfl (fun hl he=>?_)
 simp -implicitDefEqProofs only [go_sem] at hl ⊢
 refine loop_go1 hm (fun (i:Nat)=> i ≤ xs.length ∧ idxOf p xs = idxGo p (xs.drop i) i) (fun (i:Nat)=> ⟨mkS 19 .any [(0,lv (rowsAtom xs)),(1,.fn f cap),(7,iv xs.length),(8,iv i)],[]⟩) (fun (i:Nat)=> xs.length - i) (0) ?_ (weakS [] ?_ ?_ rfl rfl) ?_
 rotate_left
 ·simp -implicitDefEqProofs only [go_sem]
  all_goals (simp [wks_rfl, *]; done)
 ·simp -implicitDefEqProofs only [go_sem]
 rotate_left
 ·simp [idxOf]
 ·rintro i ⟨hi,hg⟩
  rcases Classical.em (i < xs.length) with h1 | h1
  ·rw [List.drop_eq_getElem_cons h1,idxGo] at hg
   simp -implicitDefEqProofs only [go_sem,h1]
   have hc:=hf xs[i] (List.getElem_mem h1)
   refine atCall cap hc ?_ ?_ <;> simp -implicitDefEqProofs only [go_sem,hcap]
   cases h2:p xs[i]
   ·rw [h2] at hg
    simp only [Bool.false_eq_true,if_false] at hg
    simp -implicitDefEqProofs only [go_sem]
    refine ⟨by omega,?_⟩
    refine ⟨i + 1,?_,?_,weakS [] ?_ ?_ rfl rfl⟩
    rotate_left
    ·show _ < _
     omega
    ·simp -implicitDefEqProofs only [go_sem]
     all_goals (simp [wks_rfl, *]; done)
    ·simp -implicitDefEqProofs only [go_sem]
    exact ⟨by omega,hg⟩
   ·rw [h2] at hg
    simp only [if_true] at hg
    simp -implicitDefEqProofs only [go_sem]
    refine fin1' ?_
    simp -implicitDefEqProofs only [go_sem]
    all_goals (simp [hg]; done)
  ·rw [List.drop_of_length_le (by omega),idxGo] at hg
   simp -implicitDefEqProofs only [go_sem,h1]
   refine fin1' ?_
   simp -implicitDefEqProofs only [go_sem]
   all_goals (simp [hg]; done)
theorem c_Equal_int (a b:List Int):C E.P 56 [lv (rowsI a),lv (rowsI b)] [] (Eq2 (bv (decide (a = b))) []):=by
 have hLB:=LB_eq
 refine C_goS (nt:=26) (rs:=[.tmp 4]) hm Tryz.func56 rfl rfl rfl rfl rfl (fun hl he=>?_)
 simp -implicitDefEqProofs only [go_sem] at hl ⊢
 rcases Classical.em (a.length = b.length) with h2 | h2
 ·have k2:=eq_true h2
  simp -implicitDefEqProofs only [go_sem,k2]
  refine loop_go1 hm (fun (i:Nat)=> i ≤ a.length ∧ (a = b ↔ a.drop i = b.drop i)) (fun (i:Nat)=> ⟨mkS 26 .any [(0,lv (rowsI a)),(1,lv (rowsI b)),(12,iv a.length),(13,iv i)],[]⟩) (fun (i:Nat)=> a.length - i) (0) ?_ (weakS [] ?_ ?_ rfl rfl) ?_
  rotate_left
  ·simp -implicitDefEqProofs only [go_sem]
  ·simp -implicitDefEqProofs only [go_sem]
  rotate_left
  ·simp
  ·rintro i ⟨hi,hg⟩
   rcases Classical.em (i < a.length) with h3 | h3
   ·have h4:i < b.length:=by omega
    rw [List.drop_eq_getElem_cons h3,List.drop_eq_getElem_cons h4,List.cons.injEq] at hg
    rcases Classical.em (a[i] = b[i]) with h5 | h5
    ·have k5:=eq_true h5
     simp -implicitDefEqProofs only [go_sem,h3,h4,k5]
     with_reducible refine ind_andM (by kernel_rfl) ?_
     repeat (with_reducible apply And.intro; case left=>omega)
     refine ⟨i + 1,?_,?_,weakS [] ?_ ?_ rfl rfl⟩
     rotate_left
     ·show _ < _
      omega
     ·simp -implicitDefEqProofs only [go_sem]
     ·simp -implicitDefEqProofs only [go_sem]
     refine ⟨by omega,?_⟩
     rw [hg]
     simp [h5]
    ·have e:¬ a = b:=fun hh=>h5 (hg.1 hh).1
     simp -implicitDefEqProofs only [go_sem,h3,h4,h5]
     with_reducible refine ind_andM (by kernel_rfl) ?_
     refine fin1' ?_
     simp -implicitDefEqProofs only [go_sem]
     all_goals (simp [e]; done)
   ·rw [List.drop_of_length_le (by omega),List.drop_of_length_le (by omega)] at hg
    simp -implicitDefEqProofs only [go_sem,h3]
    refine fin1' ?_
    simp -implicitDefEqProofs only [go_sem]
    all_goals (simp [hg]; done)
 ·have e:¬ a = b:=fun hh=>h2 (by rw [hh])
  simp -implicitDefEqProofs only [go_sem,h2]
  refine fin1' ?_
  simp -implicitDefEqProofs only [go_sem]
  all_goals (simp [e]; done)
theorem atom_eqI (a b:Atom):(a = b) = (a.kind = b.kind ∧ a.A = b.A ∧ a.B = b.B ∧ a.nums = b.nums ∧ a.times = b.times ∧ a.bound = b.bound ∧ a.strict = b.strict):=by
 cases a; cases b; simp only [Atom.mk.injEq]
theorem c_impl_AtomSame (a b:Atom):C E.P 138 [av (cAtom a),av (cAtom b)] [] (Eq2 (bv (decide (a = b))) []):=by
 have hLB:=LB_eq
 refine C_goS (nt:=52) (rs:=[.tmp 4]) hm Tryz.func138 rfl rfl rfl rfl rfl (fun hl he=>?_)
 simp -implicitDefEqProofs only [go_sem] at hl ⊢
 rcases Classical.em (a.kind = b.kind) with h1 | h1
 rotate_left
 ·simp -implicitDefEqProofs only [go_sem,h1]
  refine fin1' ?_
  simp -implicitDefEqProofs only [go_sem]
  all_goals (simp [atom_eqI,h1]; done)
 have k1:=eq_true h1
 simp -implicitDefEqProofs only [go_sem,k1]
 refine atCall [] (c_impl_TermSame a.A b.A) ?_ ?_ <;> simp -implicitDefEqProofs only [go_sem]
 rcases Classical.em (a.A = b.A) with h2 | h2
 rotate_left
 ·simp -implicitDefEqProofs only [go_sem,h2]
  refine fin1' ?_
  simp -implicitDefEqProofs only [go_sem]
  all_goals (simp [atom_eqI,h2]; done)
 have k2:=eq_true h2
 simp -implicitDefEqProofs only [go_sem,k2]
 refine atCall [] (c_impl_TermSame a.B b.B) ?_ ?_ <;> simp -implicitDefEqProofs only [go_sem]
 rcases Classical.em (a.B = b.B) with h3 | h3
 rotate_left
 ·simp -implicitDefEqProofs only [go_sem,h3]
  refine fin1' ?_
  simp -implicitDefEqProofs only [go_sem]
  all_goals (simp [atom_eqI,h3]; done)
 have k3:=eq_true h3
 simp -implicitDefEqProofs only [go_sem,k3]
 refine atCall [] (c_EqualFunc_Term 15 a.nums b.nums (fun x _ y=>c_impl_TermSame x y)) ?_ ?_ <;> simp -implicitDefEqProofs only [go_sem]
 rcases Classical.em (a.nums = b.nums) with h4 | h4
 rotate_left
 ·simp -implicitDefEqProofs only [go_sem,h4]
  refine fin1' ?_
  simp -implicitDefEqProofs only [go_sem]
  all_goals (simp [atom_eqI,h4]; done)
 have k4:=eq_true h4
 simp -implicitDefEqProofs only [go_sem,k4]
 refine atCall [] (c_Equal_int a.times b.times) ?_ ?_ <;> simp -implicitDefEqProofs only [go_sem]
 rcases Classical.em (a.times = b.times) with h5 | h5
 rotate_left
 ·simp -implicitDefEqProofs only [go_sem,h5]
  refine fin1' ?_
  simp -implicitDefEqProofs only [go_sem]
  all_goals (simp [atom_eqI,h5]; done)
 have k5:=eq_true h5
 simp -implicitDefEqProofs only [go_sem,k5]
 rcases Classical.em (a.bound = b.bound) with h6 | h6
 rotate_left
 ·simp -implicitDefEqProofs only [go_sem,h6]
  refine fin1' ?_
  simp -implicitDefEqProofs only [go_sem]
  all_goals (simp [atom_eqI,h6]; done)
 have k6:=eq_true h6
 have e:decide (a = b) = (a.strict == b.strict):=by
  rw [Bool.beq_eq_decide_eq]
  exact decide_eq_decide.2 (by rw [atom_eqI]; simp [h1,h2,h3,h4,h5,h6])
 simp -implicitDefEqProofs only [go_sem,k6]
 refine fin1' ?_
 simp -implicitDefEqProofs only [go_sem]
 all_goals (simp [e]; done)
theorem c_impl_atomIndex_1 (t u:Atom):C E.P 261 [av (cAtom u),.iptr [cAtom t] 0 0] [] (Eq2 (bv (decide (t = u))) []):=by
 have hLB:=LB_eq
 refine C_goS (nt:=7) (rs:=[.tmp 3]) hm Tryz.func261 rfl rfl rfl rfl rfl (fun hl he=>?_)
 simp -implicitDefEqProofs only [go_sem] at hl ⊢
 refine atCall [] (c_impl_AtomSame t u) ?_ ?_ <;> simp -implicitDefEqProofs only [go_sem]
 refine fin1' ?_
 simp -implicitDefEqProofs only [go_sem]
theorem c_impl_atomIndex (ts:List Atom) (t:Atom):C E.P 235 [lv (rowsAtom ts),av (cAtom t)] [] (Eq2 (iv (atomIdx ts t)) []):=by
 have hLB:=LB_eq
 refine C_goS (nt:=8) (rs:=[.tmp 4]) hm Tryz.func235 rfl rfl rfl rfl rfl (fun hl he=>?_)
 simp -implicitDefEqProofs only [go_sem] at hl ⊢
 refine atLook [] [0] (c_IndexFunc_Atom 261 [.iptr [cAtom t] 0 0] rfl (fun u=>decide (t = u)) ts (fun u _=>c_impl_atomIndex_1 t u)) rfl ?_ ?_ ?_
 ·(simp -implicitDefEqProofs only [go_sem]; repeat' (first | exact Vws.nil | apply Vws.cons | exact Vw.same (by first | rfl | simp -implicitDefEqProofs only [go_sem,Z1,Z2,Z3,Z4]) | exact Vw.acc rfl rfl | exact Vw.tre rfl rfl (by simp -implicitDefEqProofs only [go_sem,Z1,Z2,Z3,Z4]) | exact Vw.nil | apply Vw.agg | apply Vw.fn | refine Vw.box rfl rfl ?_))
 all_goals simp -implicitDefEqProofs only [go_sem]
 refine fin1' ?_
 simp -implicitDefEqProofs only [go_sem]
 all_goals (simp [atomIdx]; done)
theorem c_Clone_int_nil:C E.P 110 [.nilS] [] (Eq2 (lv (rowsI [])) []):=by
 have hLB:=LB_eq
 refine C_goS (nt:=8) (rs:=[.tmp 2]) hm Tryz.func110 rfl rfl rfl rfl rfl (fun hl he=>?_)
 simp -implicitDefEqProofs only [go_sem] at hl ⊢
 refine atNil 3 _ true rfl rfl (by simp -implicitDefEqProofs only [go_sem]) eqnil_nil ?_
 simp -implicitDefEqProofs only [go_sem]
 refine fin1' ?_
 simp -implicitDefEqProofs only [go_sem]
theorem c_Clone_int_val (a:Addr) (c:Nat):C E.P 110 [.d (.val (.slice (some a) 0 c))] [] (Eq2 (lv (rowsI [])) []):=by
 have hLB:=LB_eq
 refine C_goS (nt:=8) (rs:=[.tmp 2]) hm Tryz.func110 rfl rfl rfl rfl rfl (fun hl he=>?_)
 simp -implicitDefEqProofs only [go_sem] at hl ⊢
 refine atNil 3 _ false rfl rfl (p:=.d (.val (.slice (some a) 0 c))) (by simp -implicitDefEqProofs only [go_sem]) (eqnil_val _ _ _) ?_
 simp -implicitDefEqProofs only [go_sem]
 repeat (with_reducible apply And.intro; case left=>(simp [*]; done))
 refine fin1' ?_
 simp -implicitDefEqProofs only [go_sem]
theorem c_Clone_int_cons (r:List D) (rs:List (List D)) (hl1:rs.length ≤ 1000) (h1:∀ y ∈ r :: rs,y.length = 1):C E.P 110 [.d (.lst (r :: rs))] [] (Eq2 (lv (r :: rs)) []):=by
 have hLB:=LB_eq
 refine C_goS (nt:=8) (rs:=[.tmp 2]) hm Tryz.func110 rfl rfl rfl rfl rfl (fun hl he=>?_)
 simp -implicitDefEqProofs only [go_sem] at hl ⊢
 refine atNil 3 _ false rfl rfl (p:=.d (.lst (r :: rs))) (by simp -implicitDefEqProofs only [go_sem]) eqnil_lst ?_
 simp -implicitDefEqProofs only [go_sem]
 refine And.intro ⟨?_,by omega,by omega⟩ ?_
 ·simpa using h1
 refine fin1' ?_
 simp -implicitDefEqProofs only [go_sem]
theorem c_Clone_int (ns:List Int) (hl1:ns.length ≤ 1000):C E.P 110 [lv (rowsI ns)] [] (Eq2 (lv (rowsI ns)) []):=by
 cases ns with
 | nil=>exact C_split c_Clone_int_nil c_Clone_int_val
 | cons x xs=>
   have h1:=rowsI_all (x :: xs)
   rw [rowsI_cons] at h1 ⊢
   exact c_Clone_int_cons _ (rowsI xs) (by rw [rowsI_len]; simp at hl1; omega) h1
theorem c_impl_Atom_own (a:Atom) (hl1:a.times.length ≤ 1000):C E.P 43 [av (cAtom a)] [] (Eq2 (av (cAtom a)) []):=by
 have hLB:=LB_eq
 refine C_goS (nt:=20) (rs:=[.cell 2 46]) hm Tryz.func43 rfl rfl rfl rfl rfl (fun hl he=>?_)
 simp -implicitDefEqProofs only [go_sem] at hl ⊢
 refine atCall [] (c_impl_Term_own a.A) ?_ ?_ <;> simp -implicitDefEqProofs only [go_sem]
 refine atCall [] (c_impl_Term_own a.B) ?_ ?_ <;> simp -implicitDefEqProofs only [go_sem]
 refine atCall [] (c_impl_ownTerms a.nums) ?_ ?_ <;> simp -implicitDefEqProofs only [go_sem]
 refine atCall [] (c_Clone_int a.times hl1) ?_ ?_ <;> simp -implicitDefEqProofs only [go_sem]
 with_reducible refine ind_andM (by kernel_rfl) ?_
 refine fin1' ?_
 simp -implicitDefEqProofs only [go_sem]
theorem atomWf_times {a:Atom} (h:atomWf a = true):a.times.length ≤ 4:=by
 rcases atomWf_kind h with k | k
 ·rw [atomWf,if_pos k] at h
  simp only [Bool.and_eq_true,decide_eq_true_eq] at h
  have:=h.2.2.2.1
  omega
 ·obtain ⟨_,_,h3,h4,_⟩:=atomWf_sum h k
  omega
theorem c_impl_kidsOf (k:Int):C E.P 258 [iv k] [] (Eq2 (iv (kidsOf k)) []):=by
 have hLB:=LB_eq
 refine C_goS (nt:=13) (rs:=[.tmp 2]) hm Tryz.func258 rfl rfl rfl rfl rfl (fun hl he=>?_)
 simp -implicitDefEqProofs only [go_sem] at hl ⊢
 rcases Classical.em (k = 1) with h1 | h1
 ·have q:=eq_true h1
  simp -implicitDefEqProofs only [go_sem,q]
  refine fin1' ?_
  simp -implicitDefEqProofs only [go_sem]
  all_goals (simp [kidsOf,h1]; done)
 rcases Classical.em (k = 2) with h2 | h2
 ·have q:=eq_true h2
  simp -implicitDefEqProofs only [go_sem,h1,q]
  refine fin1' ?_
  simp -implicitDefEqProofs only [go_sem]
  all_goals (simp [kidsOf,h2]; done)
 rcases Classical.em (k = 3) with h3 | h3
 ·have q:=eq_true h3
  simp -implicitDefEqProofs only [go_sem,h1,h2,q]
  refine fin1' ?_
  simp -implicitDefEqProofs only [go_sem]
  all_goals (simp [kidsOf,h3]; done)
 rcases Classical.em (k = 4) with h4 | h4
 ·have q:=eq_true h4
  simp -implicitDefEqProofs only [go_sem,h1,h2,h3,q]
  refine fin1' ?_
  simp -implicitDefEqProofs only [go_sem]
  all_goals (simp [kidsOf,h4]; done)
 rcases Classical.em (k = 5) with h5 | h5
 ·have q:=eq_true h5
  simp -implicitDefEqProofs only [go_sem,h1,h2,h3,h4,q]
  refine fin1' ?_
  simp -implicitDefEqProofs only [go_sem]
  all_goals (simp [kidsOf,h5]; done)
 rcases Classical.em (k = 6) with h6 | h6
 ·have q:=eq_true h6
  simp -implicitDefEqProofs only [go_sem,h1,h2,h3,h4,h5,q]
  refine fin1' ?_
  simp -implicitDefEqProofs only [go_sem]
  all_goals (simp [kidsOf,h6]; done)
 ·simp -implicitDefEqProofs only [go_sem,h1,h2,h3,h4,h5,h6]
  refine fin1' ?_
  simp -implicitDefEqProofs only [go_sem]
  all_goals (simp [kidsOf,h1,h2,h3,h4,h5,h6]; done)
theorem c_impl_isNoLit (l:LitD):C E.P 259 [av (cLit l)] [] (Eq2 (bv (isNoLit l)) []):=by
 have hLB:=LB_eq
 refine C_goS (nt:=12) (rs:=[.tmp 2]) hm Tryz.func259 rfl rfl rfl rfl rfl (fun hl he=>?_)
 simp -implicitDefEqProofs only [go_sem] at hl ⊢
 cases h1:l.no
 ·have hc:=c_impl_AtomSame l.atom atom0
  simp -implicitDefEqProofs only [go_sem]
  refine atCall [] hc ?_ ?_ <;> simp -implicitDefEqProofs only [go_sem]
  ·exact ⟨rfl,rfl,rfl,rfl,rfl,rfl,rfl,rfl,rfl⟩
  refine fin1' ?_
  simp -implicitDefEqProofs only [go_sem]
  all_goals (simp [isNoLit,h1]; done)
 ·simp -implicitDefEqProofs only [go_sem]
  refine fin1' ?_
  simp -implicitDefEqProofs only [go_sem]
  all_goals (simp [isNoLit,h1]; done)
theorem formSize_eq (t:Mod.Form) (deep:Nat):formSize t deep = if decide (deep ≤ 5) && formHead t.kind t.lit t.kids then 1 + formSizes t.kids (deep + 1) else 11:=by cases t; rfl
theorem formSizes_snoc {ts:List Mod.Form} {i:Nat} (h:i < ts.length) (d:Nat):formSizes (ts.take (i + 1)) d = formSizes (ts.take i) d + formSize ts[i] d:=by
 have key:∀ (xs:List Mod.Form),formSizes (xs ++ [ts[i]]) d = formSizes xs d + formSize ts[i] d:=by
  intro xs
  induction xs with
  | nil=>simp [formSizes]
  | cons a xs ih=>simp only [List.cons_append,formSizes,ih]; omega
 rw [take_snoc h,key]
theorem kidsOf_zero {k:Int}:kidsOf k = 0 ↔ k = 1:=by
 unfold kidsOf
 constructor
 ·intro h
  split at h
  ·assumption
  ·split at h
   ·omega
   ·split at h <;> omega
 ·intro h; rw [if_pos h]
theorem c_impl_formSize1 (t:Mod.Form) (ih:∀ k ∈ t.kids,∀ deep:Nat,1 ≤ deep → deep ≤ 6 → C E.P 234 [av (cForm k),iv deep] [] (Eq2 (iv (formSize k deep)) [])) (deep:Nat) (g1:1 ≤ deep) (g5:deep ≤ 6) :
 C E.P 234 [av (cForm t),iv deep] [] (Eq2 (iv (formSize t deep)) []):=by
 have ht:=formSize_eq t deep
 have hLB:=LB_eq
 refine C_goS (nt:=57) (rs:=[.tmp 4]) hm Tryz.func234 rfl rfl rfl rfl rfl (fun hl he=>?_)
 simp -implicitDefEqProofs only [go_sem] at hl ⊢
 refine atCall [] (c_impl_kidsOf t.kind) ?_ ?_ <;> simp -implicitDefEqProofs only [go_sem]
 rcases Classical.em ((5:Int) < (deep:Int)) with h4 | h4
 ·have h4':¬ deep ≤ 5:=by omega
  simp only [h4',decide_false,Bool.false_and,Bool.false_eq_true,if_false] at ht
  simp -implicitDefEqProofs only [go_sem,h4]
  refine fin1' ?_
  simp -implicitDefEqProofs only [go_sem]
  all_goals (simp [ht]; done)
 have h4':deep ≤ 5:=by omega
 simp only [h4',decide_true,Bool.true_and] at ht
 rcases Classical.em (kidsOf t.kind = t.kids.length) with h1 | h1
 rotate_left
 ·have hh:formHead t.kind t.lit t.kids = false:=by simp [formHead,h1]
  rw [hh] at ht
  simp only [Bool.false_eq_true,if_false] at ht
  simp -implicitDefEqProofs only [go_sem,h4,h1]
  refine fin1' ?_
  simp -implicitDefEqProofs only [go_sem]
  all_goals (simp [ht]; done)
 have k1:=eq_true h1
 rcases Classical.em (t.kind = 1) with h2 | h2
 ·have hz:kidsOf t.kind = 0:=kidsOf_zero.2 h2
  have hz2:=eq_true hz
  have hh:formHead t.kind t.lit t.kids = atomWf t.lit.atom:=by unfold formHead; rw [if_pos h2]; simp [h1]
  rw [hh] at ht
  simp -implicitDefEqProofs only [go_sem,h4,k1,hz2]
  refine atCall [] (c_impl_Atom_ok t.lit.atom) ?_ ?_ <;> simp -implicitDefEqProofs only [go_sem]
  cases h3:atomWf t.lit.atom
  ·rw [h3] at ht
   simp only [Bool.false_eq_true,if_false] at ht
   simp -implicitDefEqProofs only [go_sem]
   refine fin1' ?_
   simp -implicitDefEqProofs only [go_sem]
   all_goals (simp [ht]; done)
  ·rw [h3] at ht
   simp only [if_true] at ht
   have hl2:t.kids.length ≤ 2:=formHead_len (by rw [hh,h3])
   simp -implicitDefEqProofs only [go_sem,hz2]
   refine loop_go1 hm (fun (i:Nat)=> i ≤ t.kids.length) (fun (i:Nat)=> ⟨mkS 57 .any [(1,iv deep),(6,iv ((1 + formSizes (t.kids.take i) (deep + 1):Nat):Int)),(43,lv (rowsForm t.kids)),(44,iv t.kids.length),(45,iv i)],[]⟩) (fun (i:Nat)=> t.kids.length - i) (0) ?_ (weakS [] ?_ ?_ rfl rfl) ?_
   rotate_left
   ·simp -implicitDefEqProofs only [go_sem]
    all_goals (simp [formSizes])
   ·simp -implicitDefEqProofs only [go_sem]
   rotate_left
   ·omega
   ·rintro i hi
    have hb:=formSizes_le (t.kids.take i) (deep + 1) (by omega) (by omega)
    have hp:(2:Nat) ^ (6 - (deep + 1)) ≤ 2 ^ 5:=Nat.pow_le_pow_right (by omega) (by omega)
    have hq:(t.kids.take i).length * (23 * 2 ^ (6 - (deep + 1)) - 12) ≤ 2 * (23 * 2 ^ (6 - (deep + 1)) - 12):=Nat.mul_le_mul_right _ (by rw [List.length_take]; omega)
    rcases Classical.em (i < t.kids.length) with h9 | h9
    ·have hk:=formSize_le t.kids[i] (deep + 1) (by omega) (by omega)
     simp -implicitDefEqProofs only [go_sem,h9]
     repeat (with_reducible apply And.intro; case left=>omega)
     have hc:=ih t.kids[i] (List.getElem_mem h9) (deep + 1) (by omega) (by omega)
     refine atCall [] hc ?_ ?_ <;> simp -implicitDefEqProofs only [go_sem]
     repeat (with_reducible apply And.intro; case left=>omega)
     refine ⟨i + 1,?_,?_,weakS [] ?_ ?_ rfl rfl⟩
     rotate_left
     ·show _ < _
      omega
     ·simp -implicitDefEqProofs only [go_sem]
      all_goals ((simp only [formSizes_snoc h9]; simp; omega))
     ·simp -implicitDefEqProofs only [go_sem]
     exact h9
    ·have et:t.kids.take i = t.kids:=List.take_of_length_le (by omega)
     simp -implicitDefEqProofs only [go_sem,h9,et]
     refine fin1' ?_
     simp -implicitDefEqProofs only [go_sem]
     all_goals (simp [ht]; done)
 ·have hz:¬ kidsOf t.kind = 0:=fun e=>h2 (kidsOf_zero.1 e)
  have hh:formHead t.kind t.lit t.kids = isNoLit t.lit:=by unfold formHead; rw [if_neg h2]; simp [h1]
  rw [hh] at ht
  simp -implicitDefEqProofs only [go_sem,h4,k1,hz]
  refine atCall [] (c_impl_isNoLit t.lit) ?_ ?_ <;> simp -implicitDefEqProofs only [go_sem]
  cases h3:isNoLit t.lit
  ·rw [h3] at ht
   simp only [Bool.false_eq_true,if_false] at ht
   simp -implicitDefEqProofs only [go_sem]
   refine fin1' ?_
   simp -implicitDefEqProofs only [go_sem]
   all_goals (simp [ht]; done)
  ·rw [h3] at ht
   simp only [if_true] at ht
   have hl2:t.kids.length ≤ 2:=formHead_len (by rw [hh,h3])
   simp -implicitDefEqProofs only [go_sem]
   refine loop_go1 hm (fun (i:Nat)=> i ≤ t.kids.length) (fun (i:Nat)=> ⟨mkS 57 .any [(1,iv deep),(6,iv ((1 + formSizes (t.kids.take i) (deep + 1):Nat):Int)),(43,lv (rowsForm t.kids)),(44,iv t.kids.length),(45,iv i)],[]⟩) (fun (i:Nat)=> t.kids.length - i) (0) ?_ (weakS [] ?_ ?_ rfl rfl) ?_
   rotate_left
   ·simp -implicitDefEqProofs only [go_sem]
    all_goals (simp [formSizes])
   ·simp -implicitDefEqProofs only [go_sem]
   rotate_left
   ·omega
   ·rintro i hi
    have hb:=formSizes_le (t.kids.take i) (deep + 1) (by omega) (by omega)
    have hp:(2:Nat) ^ (6 - (deep + 1)) ≤ 2 ^ 5:=Nat.pow_le_pow_right (by omega) (by omega)
    have hq:(t.kids.take i).length * (23 * 2 ^ (6 - (deep + 1)) - 12) ≤ 2 * (23 * 2 ^ (6 - (deep + 1)) - 12):=Nat.mul_le_mul_right _ (by rw [List.length_take]; omega)
    rcases Classical.em (i < t.kids.length) with h9 | h9
    ·have hk:=formSize_le t.kids[i] (deep + 1) (by omega) (by omega)
     simp -implicitDefEqProofs only [go_sem,h9]
     repeat (with_reducible apply And.intro; case left=>omega)
     have hc:=ih t.kids[i] (List.getElem_mem h9) (deep + 1) (by omega) (by omega)
     refine atCall [] hc ?_ ?_ <;> simp -implicitDefEqProofs only [go_sem]
     repeat (with_reducible apply And.intro; case left=>omega)
     refine ⟨i + 1,?_,?_,weakS [] ?_ ?_ rfl rfl⟩
     rotate_left
     ·show _ < _
      omega
     ·simp -implicitDefEqProofs only [go_sem]
      all_goals ((simp only [formSizes_snoc h9]; simp; omega))
     ·simp -implicitDefEqProofs only [go_sem]
     exact h9
    ·have et:t.kids.take i = t.kids:=List.take_of_length_le (by omega)
     simp -implicitDefEqProofs only [go_sem,h9,et]
     refine fin1' ?_
     simp -implicitDefEqProofs only [go_sem]
     all_goals (simp [ht]; done)
theorem c_impl_formSize:∀ (t:Mod.Form) (deep:Nat),1 ≤ deep → deep ≤ 6 → C E.P 234 [av (cForm t),iv deep] [] (Eq2 (iv (formSize t deep)) []):=
 Form.ind fun k x ks ih deep h1 h2=>c_impl_formSize1 (.mk k x ks) ih deep h1 h2
end Go.Proofs.YtpidddienjoleaaGreat
namespace Go.Proofs.YtpidddienjoleaaGreat
open Go.Eng Go.Mod
open Int renaming reduceEq → Z1,reduceLT → Z2,reduceLE → Z3,reduceToNat → Z4
set_option maxRecDepth 100000
set_option maxHeartbeats 400000
theorem formShapes_takeI:∀ {ts:List Mod.Form} {d:Nat},formShapes ts d = true → ∀ i,formShapes (ts.take i) d = true
 | [],_,_,i=>by simp [formShapes]
 | t :: ts,d,h,0=>by simp [formShapes]
 | t :: ts,d,h,i + 1=>by
   simp only [formShapes,Bool.and_eq_true] at h
   simp only [List.take_succ_cons,formShapes,h.1,Bool.true_and]
   exact formShapes_takeI h.2 i
theorem atoms_roomI {t:Mod.Form} {d:Nat} {l:List Atom} (hsh:formShape t (d + 1) = true) (hl1:l.length + 2 ^ (d + 1) ≤ 900000) (i:Nat) (hi:i < t.kids.length):(withAtomss l (t.kids.take i)).length + 2 ^ d ≤ 900000:=by
 have hk:=formShape_kids hsh
 have hp:(2:Nat) ^ (d + 1) = 2 * 2 ^ d:=by rw [Nat.pow_succ]; omega
 have hp1:1 ≤ (2:Nat) ^ d:=Nat.one_le_two_pow
 have h1:=withAtomss_len (t.kids.take i) d l (formShapes_takeI hk.2.2 i)
 have h2:=formManys_le (t.kids.take i) d (formShapes_takeI hk.2.2 i)
 have h3:(t.kids.take i).length ≤ 1:=by rw [List.length_take]; omega
 have h4:(t.kids.take i).length * (2 ^ d - 1) ≤ 1 * (2 ^ d - 1):=Nat.mul_le_mul_right _ h3
 omega
theorem head_lit {t:Mod.Form} {d:Nat} (hsh:formShape t (d + 1) = true) (h1:t.kind = 1):t.kids = [] ∧ atomWf t.lit.atom = true:=by
 have hk:=(formShape_kids hsh).1
 simp only [formHead,Bool.and_eq_true,decide_eq_true_eq] at hk
 have ha:=hk.2
 rw [if_pos h1] at ha
 refine ⟨?_,ha⟩
 have hz:kidsOf t.kind = 0:=kidsOf_zero.2 h1
 exact List.length_eq_zero_iff.1 (by omega)
theorem c_impl_withAtoms1 (t:Mod.Form) (ih:∀ k ∈ t.kids,∀ (d:Nat) (l:List Atom),formShape k d = true → l.length + 2 ^ d ≤ 900000 → C E.P 197 [.acc 0,av (cForm k)] [some (.acc 46 (rowsAtom l))] (Eq2 (.acc 1) [some .dead,some (.acc 46 (rowsAtom (withAtoms l k)))])) (d:Nat) (l:List Atom)
 (hsh:formShape t d = true) (hl1:l.length + 2 ^ d ≤ 900000) :
 C E.P 197 [.acc 0,av (cForm t)] [some (.acc 46 (rowsAtom l))] (Eq2 (.acc 1) [some .dead,some (.acc 46 (rowsAtom (withAtoms l t)))]):=by
 cases d with
 | zero=>cases t; simp [formShape] at hsh
 | succ d=>
 have hk:=formShape_kids hsh
 have hroom:=atoms_roomI hsh hl1
 have hp1:1 ≤ (2:Nat) ^ (d + 1):=Nat.one_le_two_pow
 have hLB:=LB_eq
 refine C_goS (nt:=37) (rs:=[.tmp 4]) hm Tryz.func197 rfl rfl rfl rfl rfl (fun hl he=>?_)
 simp -implicitDefEqProofs only [go_sem] at hl ⊢
 rcases Classical.em (t.kind = 1) with hkind | hkind
 ·have kk:=eq_true hkind
  obtain ⟨hz,hwf⟩:=head_lit hsh hkind
  have htm:=atomWf_times hwf
  simp -implicitDefEqProofs only [go_sem,kk]
  refine atLook [] [0] (c_impl_atomIndex l t.lit.atom) rfl ?_ ?_ ?_
  ·(simp -implicitDefEqProofs only [go_sem]; repeat' (first | exact Vws.nil | apply Vws.cons | exact Vw.same (by first | rfl | simp -implicitDefEqProofs only [go_sem,Z1,Z2,Z3,Z4]) | exact Vw.acc rfl rfl | exact Vw.tre rfl rfl (by simp -implicitDefEqProofs only [go_sem,Z1,Z2,Z3,Z4]) | exact Vw.nil | apply Vw.agg | apply Vw.fn | refine Vw.box rfl rfl ?_))
  all_goals simp -implicitDefEqProofs only [go_sem]
  rcases Classical.em (atomIdx l t.lit.atom < 0) with hx | hx
  ·simp -implicitDefEqProofs only [go_sem,hx]
   refine atCall [] (c_impl_Atom_own t.lit.atom (by omega)) ?_ ?_ <;> simp -implicitDefEqProofs only [go_sem]
   repeat (with_reducible apply And.intro; case left=>omega)
   refine finM' [some 0,some 2] ?_ rfl rfl
   simp -implicitDefEqProofs only [go_sem]
   rw [withAtoms_eq,if_pos hkind,if_pos hx,← rowsAtom_app,rowsAtom_cons,rowsAtom_nil]
   rfl
  ·have he9:withAtomss l t.kids = withAtoms l t:=by rw [withAtoms_eq,if_pos hkind,if_neg hx,hz]; rfl
   simp -implicitDefEqProofs only [go_sem,hx]
   refine loop_go1 hm (fun (i:Nat)=> i ≤ t.kids.length) (fun (i:Nat)=> ⟨mkS 37 .any [(0,.acc 1),(26,lv (rowsForm t.kids)),(27,iv t.kids.length),(28,iv i)],[some .dead,some (.acc 46 (rowsAtom (withAtomss l (t.kids.take i))))]⟩) (fun (i:Nat)=> t.kids.length - i) (0) ?_ (weakS [some 0,some 0] ?_ ?_ rfl rfl) ?_
   rotate_left
   ·simp -implicitDefEqProofs only [go_sem]
   ·simp -implicitDefEqProofs only [go_sem]
    all_goals (simp only [withAtomss])
   rotate_left
   ·omega
   ·rintro i hi
    rcases Classical.em (i < t.kids.length) with h9 | h9
    ·simp -implicitDefEqProofs only [go_sem,h9]
     have hc:=ih t.kids[i] (List.getElem_mem h9) d (withAtomss l (t.kids.take i)) (formShapes_mem hk.2.2 _ (List.getElem_mem h9)) (hroom i h9)
     refine atOwn [] [1,3] hc ?_ ?_ <;> simp -implicitDefEqProofs only [go_sem]
     repeat (with_reducible apply And.intro; case left=>omega)
     refine ⟨i + 1,?_,?_,weakS [some 0,some 3] ?_ ?_ rfl rfl⟩
     rotate_left
     ·show _ < _
      omega
     ·simp -implicitDefEqProofs only [go_sem]
     ·simp -implicitDefEqProofs only [go_sem]
      all_goals (simp only [withAtomss_snoc h9])
     exact h9
    ·have e:t.kids.take i = t.kids:=List.take_of_length_le (by omega)
     simp -implicitDefEqProofs only [go_sem,h9,e]
     refine finM' [some 0,some 1] ?_ rfl rfl
     simp -implicitDefEqProofs only [go_sem]
     rw [he9]
 ·have he9:withAtomss l t.kids = withAtoms l t:=by rw [withAtoms_eq,if_neg hkind]
  simp -implicitDefEqProofs only [go_sem,hkind]
  refine loop_go1 hm (fun (i:Nat)=> i ≤ t.kids.length) (fun (i:Nat)=> ⟨mkS 37 .any [(0,.acc 1),(26,lv (rowsForm t.kids)),(27,iv t.kids.length),(28,iv i)],[some .dead,some (.acc 46 (rowsAtom (withAtomss l (t.kids.take i))))]⟩) (fun (i:Nat)=> t.kids.length - i) (0) ?_ (weakS [some 0,some 0] ?_ ?_ rfl rfl) ?_
  rotate_left
  ·simp -implicitDefEqProofs only [go_sem]
  ·simp -implicitDefEqProofs only [go_sem]
   all_goals (simp only [withAtomss])
  rotate_left
  ·omega
  ·rintro i hi
   rcases Classical.em (i < t.kids.length) with h9 | h9
   ·simp -implicitDefEqProofs only [go_sem,h9]
    have hc:=ih t.kids[i] (List.getElem_mem h9) d (withAtomss l (t.kids.take i)) (formShapes_mem hk.2.2 _ (List.getElem_mem h9)) (hroom i h9)
    refine atOwn [] [1,3] hc ?_ ?_ <;> simp -implicitDefEqProofs only [go_sem]
    repeat (with_reducible apply And.intro; case left=>omega)
    refine ⟨i + 1,?_,?_,weakS [some 0,some 3] ?_ ?_ rfl rfl⟩
    rotate_left
    ·show _ < _
     omega
    ·simp -implicitDefEqProofs only [go_sem]
    ·simp -implicitDefEqProofs only [go_sem]
     all_goals (simp only [withAtomss_snoc h9])
    exact h9
   ·have e:t.kids.take i = t.kids:=List.take_of_length_le (by omega)
    simp -implicitDefEqProofs only [go_sem,h9,e]
    refine finM' [some 0,some 1] ?_ rfl rfl
    simp -implicitDefEqProofs only [go_sem]
    rw [he9]
theorem c_impl_withAtoms:∀ (t:Mod.Form) (d:Nat) (l:List Atom),formShape t d = true → l.length + 2 ^ d ≤ 900000 → C E.P 197 [.acc 0,av (cForm t)] [some (.acc 46 (rowsAtom l))] (Eq2 (.acc 1) [some .dead,some (.acc 46 (rowsAtom (withAtoms l t)))]):=
 Form.ind fun k x ks ih d l h1 h2=>c_impl_withAtoms1 (.mk k x ks) ih d l h1 h2
theorem c_impl_withAtoms_nil (t:Mod.Form) (hsh:formShape t 5 = true):C E.P 197 [.nilS,av (cForm t)] [] (Eq2 (lv (rowsAtom (withAtoms [] t))) []):=by
 have hk:=formShape_kids hsh
 have hroom:=atoms_roomI (l:=[]) hsh (by simp)
 have hLB:=LB_eq
 refine C_goS (nt:=37) (rs:=[.tmp 4]) hm Tryz.func197 rfl rfl rfl rfl rfl (fun hl he=>?_)
 simp -implicitDefEqProofs only [go_sem] at hl ⊢
 rcases Classical.em (t.kind = 1) with hkind | hkind
 ·have kk:=eq_true hkind
  obtain ⟨hz,hwf⟩:=head_lit hsh hkind
  have htm:=atomWf_times hwf
  have hx:atomIdx [] t.lit.atom < 0:=by
   rcases Int.lt_or_le (atomIdx [] t.lit.atom) 0 with h | h
   ·exact h
   ·have:=atomIdx_nn.1 h; simp at this
  simp -implicitDefEqProofs only [go_sem,kk]
  refine atCall [] (c_impl_atomIndex [] t.lit.atom) ?_ ?_ <;> simp -implicitDefEqProofs only [go_sem]
  simp -implicitDefEqProofs only [go_sem,hx]
  refine atCall [] (c_impl_Atom_own t.lit.atom (by omega)) ?_ ?_ <;> simp -implicitDefEqProofs only [go_sem]
  repeat (with_reducible apply And.intro; case left=>omega)
  refine fin1' ?_
  simp -implicitDefEqProofs only [go_sem]
  rw [withAtoms_eq,if_pos hkind,if_pos hx]
  rfl
 ·simp -implicitDefEqProofs only [go_sem,hkind]
  refine loop_go1 hm (fun (i:Nat)=> i ≤ t.kids.length) (fun (i:Nat)=> ⟨mkS 37 .any [(0,.acc 0),(26,lv (rowsForm t.kids)),(27,iv t.kids.length),(28,iv i)],[some (.acc 46 (rowsAtom (withAtomss [] (t.kids.take i))))]⟩) (fun (i:Nat)=> t.kids.length - i) (0) ?_ (weakS [none] ?_ ?_ rfl rfl) ?_
  rotate_left
  ·simp -implicitDefEqProofs only [go_sem]
  ·simp -implicitDefEqProofs only [go_sem]
   all_goals (simp [withAtomss,rowsAtom])
  rotate_left
  ·omega
  ·rintro i hi
   rcases Classical.em (i < t.kids.length) with h9 | h9
   ·simp -implicitDefEqProofs only [go_sem,h9]
    have hc:=c_impl_withAtoms t.kids[i] 4 (withAtomss [] (t.kids.take i)) (formShapes_mem hk.2.2 _ (List.getElem_mem h9)) (hroom i h9)
    refine atOwn [] [0,2] hc ?_ ?_ <;> simp -implicitDefEqProofs only [go_sem]
    repeat (with_reducible apply And.intro; case left=>omega)
    refine ⟨i + 1,?_,?_,weakS [some 2] ?_ ?_ rfl rfl⟩
    rotate_left
    ·show _ < _
     omega
    ·simp -implicitDefEqProofs only [go_sem]
    ·simp -implicitDefEqProofs only [go_sem]
     all_goals (simp only [withAtomss_snoc h9])
    exact h9
   ·have e:t.kids.take i = t.kids:=List.take_of_length_le (by omega)
    simp -implicitDefEqProofs only [go_sem,h9,e]
    refine fin1' ?_
    simp -implicitDefEqProofs only [go_sem]
    rw [withAtoms_eq,if_neg hkind]
theorem c_impl_isForm (t:Mod.Form):C E.P 196 [av (cForm t)] [] (Eq2 (bv (isForm t)) []):=by
 have hsz:=size_formShape t 5 (by omega)
 have hLB:=LB_eq
 refine C_goS (nt:=12) (rs:=[.tmp 2]) hm Tryz.func196 rfl rfl rfl rfl rfl (fun hl he=>?_)
 simp -implicitDefEqProofs only [go_sem] at hl ⊢
 have hc:=c_impl_formSize t 1 (by omega) (by omega)
 refine atCall [] hc ?_ ?_ <;> simp -implicitDefEqProofs only [go_sem]
 rcases Classical.em ((formSize t 1:Int) ≤ 10) with h1 | h1
 ·have h1':formSize t 1 ≤ 10:=by omega
  have hsh:formShape t 5 = true:=by
   cases h:formShape t 5
   ·have:=hsz.2 h
    have h2:formSize t (6 - 5) = formSize t 1:=rfl
    omega
   ·rfl
  simp -implicitDefEqProofs only [go_sem,h1]
  refine atCall [] (c_impl_withAtoms_nil t hsh) ?_ ?_ <;> simp -implicitDefEqProofs only [go_sem]
  refine fin1' ?_
  simp -implicitDefEqProofs only [go_sem]
  simp [isForm,h1']
  omega
 ·have h1':¬ formSize t 1 ≤ 10:=by omega
  simp -implicitDefEqProofs only [go_sem,h1]
  refine fin1' ?_
  simp -implicitDefEqProofs only [go_sem]
  all_goals (simp [isForm,h1']; done)
theorem c_impl_plain (l:List Atom) (hl1:l.length ≤ 900000):C E.P 140 [lv (rowsAtom l)] [] (Eq2 (lv (rowsLit (plain l))) []):=by
 have hLB:=LB_eq
 refine C_goS (nt:=19) (rs:=[.tmp 2]) hm Tryz.func140 rfl rfl rfl rfl rfl (fun hl he=>?_)
 simp -implicitDefEqProofs only [go_sem] at hl ⊢
 refine loop_go1 hm (fun (i:Nat)=> i ≤ l.length) (fun (i:Nat)=> ⟨mkS 19 .any [(3,.acc 0),(6,lv (rowsAtom l)),(7,iv l.length),(8,iv i)],[some (.acc 48 (rowsLit (plain (l.take i))))]⟩) (fun (i:Nat)=> l.length - i) (0) ?_ (weakS [none] ?_ ?_ rfl rfl) ?_
 rotate_left
 ·simp -implicitDefEqProofs only [go_sem]
 ·simp -implicitDefEqProofs only [go_sem]
  all_goals (simp [plain,rowsLit])
 rotate_left
 ·omega
 ·rintro i hi
  have hv:=plain_len (l.take i)
  have hv2:(l.take i).length = i:=by rw [List.length_take]; omega
  rcases Classical.em (i < l.length) with h1 | h1
  ·simp -implicitDefEqProofs only [go_sem,h1]
   repeat (with_reducible apply And.intro; case left=>omega)
   refine ⟨i + 1,?_,?_,weakS [some 2] ?_ ?_ rfl rfl⟩
   rotate_left
   ·show _ < _
    omega
   ·simp -implicitDefEqProofs only [go_sem]
   ·simp -implicitDefEqProofs only [go_sem]
    all_goals ((rw [plain_snoc h1,← rowsLit_app]; rfl))
   exact h1
  ·have et:l.take i = l:=List.take_of_length_le (by omega)
   simp -implicitDefEqProofs only [go_sem,h1,et]
   refine fin1' ?_
   simp -implicitDefEqProofs only [go_sem]
end Go.Proofs.YtpidddienjoleaaGreat
