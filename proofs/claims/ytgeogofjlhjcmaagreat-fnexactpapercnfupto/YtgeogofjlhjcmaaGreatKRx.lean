/-
  The program: the walks of clause form, whose clauses share nothing. A step towards the exact laws. The program: the walk of PaperCnf, whose clauses share nothing. A step towards the exact laws.
-/
import Derived.Test.YtgeogofjlhjcmaaGreatKRm
import Derived.Test.YtgeogofjlhjcmaaGreatKRq
import Derived.Test.YtgeogofjlhjcmaaGreatKRl
import Derived.Test.YtgeogofjlhjcmaaGreatKRv
import Derived.Test.YtgeogofjlhjcmaaGreatKRDa
import Derived.Test.YtgeogofjlhjcmaaGreatKREa
set_option linter.unusedVariables false
set_option linter.unusedSimpArgs false
namespace Go.Proofs.YtgeogofjlhjcmaaGreat
open Go.Eng Go.Mod
open Int renaming reduceEq → Z1,reduceLT → Z2,reduceLE → Z3,reduceToNat → Z4
set_option maxRecDepth 100000
set_option maxHeartbeats 400000
theorem c_Clone_int_nilA:C E.P 118 [.nilS] [] (Eq2 (.acc 0) [some (.acc 3 (rowsI []))]):=by
 have hLB:=LB_eq
 refine C_goS (nt:=8) (rs:=[.tmp 2]) hm Tryz.func118 rfl rfl rfl rfl rfl (fun hl he=>?_)
 simp -implicitDefEqProofs only [go_sem,Z1,Z2,Z3,Z4] at hl ⊢
 refine atNil 3 _ true rfl rfl (by simp -implicitDefEqProofs only [go_sem,Z1,Z2,Z3,Z4]) eqnil_nil ?_
 try simp -implicitDefEqProofs only [go_sem,Z1,Z2,Z3,Z4]
 try (with_reducible refine ind_andM (by kernel_rfl) ?_)
 refine finM' [none] ?_ rfl rfl
 simp -implicitDefEqProofs only [go_sem,Z1,Z2,Z3,Z4]
theorem c_Clone_int_A (ns:List Int) (hl1:ns.length ≤ 1000):C E.P 118 [lv (rowsI ns)] [] (Eq2 (.acc 0) [some (.acc 3 (rowsI ns))]):=by
 cases ns with
 | nil=>exact C_split c_Clone_int_nilA c_Clone_int_valO
 | cons x xs=>exact c_Clone_int_own (x :: xs) (by simp) hl1
theorem c_impl_ClauseOf_T (l:List Int) (hl9:l.length ≤ 12) (hb9:∀ x ∈ l,-1000000 ≤ x ∧ x ≤ 1000000):C E.P 142 [lv (rowsI l)] [] (Eq2 (.tup [.acc 0,bv (clauseOf l).isSome]) [some (.tre 3 (intT ((clauseOf l).getD [])))]):=by
 have e:=clauseOf_fairB l
 have hLB:=LB_eq
 refine C_goS (nt:=29) (rs:=[.tmp 2,.tmp 3]) hm Tryz.func142 rfl rfl rfl rfl rfl (fun hl he=>?_)
 simp -implicitDefEqProofs only [go_sem,Z1,Z2,Z3,Z4] at hl ⊢
 refine loop_go1 hm (fun (i:Nat)=> i ≤ l.length ∧ (∀ x ∈ l.take i,-60 ≤ x ∧ x ≤ 60) ∧ fairB l = (l.drop i).all fun x=>isMark x 60 && !l.contains (-x)) (fun (i:Nat)=> ⟨mkS 29 .any [(0,lv (rowsI l)),(7,lv (rowsI l)),(8,iv l.length),(9,iv i)],[]⟩) (fun (i:Nat)=> l.length - i) (0) ?_ (weakS [] ?_ ?_ rfl rfl) ?_
 rotate_left
 ·simp -implicitDefEqProofs only [go_sem,Z1,Z2,Z3,Z4]
  all_goals (first | done | (simp [wks_rfl, *]; done) | (simp [wks_rfl]; done) | (simp; omega) | skip)
 ·simp -implicitDefEqProofs only [go_sem,Z1,Z2,Z3,Z4]
  all_goals (first | done | (simp [wks_rfl, *]; done) | (simp [wks_rfl]; done) | (simp; omega) | skip)
 rotate_left
 ·exact ⟨by omega,by simp,rfl⟩
 ·rintro i ⟨hi,ht,hg⟩
  rcases Classical.em (i < l.length) with h1 | h1
  ·have hb:=hb9 l[i] (List.getElem_mem h1)
   rw [List.drop_eq_getElem_cons h1,List.all_cons] at hg
   have hc:C E.P 140 [iv l[i],iv 60] [] (Eq2 (bv (isMark l[i] 60)) []):=c_impl_isMark l[i] 60 (by omega)
   try simp -implicitDefEqProofs only [go_sem,Z1,Z2,Z3,Z4,h1]
   try (with_reducible refine ind_andM (by kernel_rfl) ?_)
   refine atCall [] hc ?_ ?_ <;> simp -implicitDefEqProofs only [go_sem,Z1,Z2,Z3,Z4]
   try (with_reducible refine ind_andM (by kernel_rfl) ?_)
   cases h2:isMark l[i] 60
   ·rw [h2,Bool.false_and,Bool.false_and] at hg
    rw [hg,if_neg (by simp)] at e
    try simp -implicitDefEqProofs only [go_sem,Z1,Z2,Z3,Z4]
    try (with_reducible refine ind_andM (by kernel_rfl) ?_)
    refine finM' [none] ?_ rfl rfl
    simp -implicitDefEqProofs only [go_sem,Z1,Z2,Z3,Z4]
    rw [e]
    exact ⟨rfl,rfl⟩
   ·have hm:=isMark_iff.1 h2
    rw [h2,Bool.true_and] at hg
    try simp -implicitDefEqProofs only [go_sem,Z1,Z2,Z3,Z4]
    try (with_reducible refine ind_andM (by kernel_rfl) ?_)
    repeat (first | with_reducible refine ind_andM (by kernel_rfl) ?_ | (with_reducible apply And.intro; case left=>first | omega | assumption | exact ⟨rowsT_all _,by omega⟩ | exact ⟨rowsI_all _,by omega⟩ | exact ⟨rowsLit_all _,by omega⟩ | exact ⟨rowsLin_all _,by omega⟩ | exact ⟨rowsEq_all _,by omega⟩ | rfl | (simp [*]; done) | (simp; omega) | exact ⟨rowsRat_all _,by omega⟩ | exact ⟨rowsAtom_all _,by omega⟩ | exact ⟨rowsB_all _,by omega⟩ | exact ⟨rowsForm_all _,by omega⟩ | exact ⟨rowsII_all _,by omega⟩))
    refine atCall [] (c_Contains_int l (-l[i])) ?_ ?_ <;> simp -implicitDefEqProofs only [go_sem,Z1,Z2,Z3,Z4]
    try (with_reducible refine ind_andM (by kernel_rfl) ?_)
    cases h3:l.contains (-l[i])
    ·rw [h3,Bool.not_false,Bool.true_and] at hg
     try simp -implicitDefEqProofs only [go_sem,Z1,Z2,Z3,Z4]
     try (with_reducible refine ind_andM (by kernel_rfl) ?_)
     repeat (first | with_reducible refine ind_andM (by kernel_rfl) ?_ | (with_reducible apply And.intro; case left=>first | omega | assumption | exact ⟨rowsT_all _,by omega⟩ | exact ⟨rowsI_all _,by omega⟩ | exact ⟨rowsLit_all _,by omega⟩ | exact ⟨rowsLin_all _,by omega⟩ | exact ⟨rowsEq_all _,by omega⟩ | rfl | (simp [*]; done) | (simp; omega) | exact ⟨rowsRat_all _,by omega⟩ | exact ⟨rowsAtom_all _,by omega⟩ | exact ⟨rowsB_all _,by omega⟩ | exact ⟨rowsForm_all _,by omega⟩ | exact ⟨rowsII_all _,by omega⟩))
     refine ⟨i + 1,?_,?_,weakS [] ?_ ?_ rfl rfl⟩
     rotate_left
     ·show _ < _
      omega
     ·simp -implicitDefEqProofs only [go_sem,Z1,Z2,Z3,Z4]
      all_goals (first | done | (simp [wks_rfl, *]; done) | (simp [wks_rfl]; done) | (simp; omega) | skip)
     ·simp -implicitDefEqProofs only [go_sem,Z1,Z2,Z3,Z4]
      all_goals (first | done | (simp [wks_rfl, *]; done) | (simp [wks_rfl]; done) | (simp; omega) | skip)
     refine ⟨by omega,fun x hx=>?_,hg⟩
     rw [take_snoc h1] at hx
     rcases List.mem_append.1 hx with hx | hx
     ·exact ht x hx
     ·rw [List.mem_singleton.1 hx]; omega
    ·rw [h3,Bool.not_true,Bool.false_and] at hg
     rw [hg,if_neg (by simp)] at e
     try simp -implicitDefEqProofs only [go_sem,Z1,Z2,Z3,Z4]
     try (with_reducible refine ind_andM (by kernel_rfl) ?_)
     refine finM' [none] ?_ rfl rfl
     simp -implicitDefEqProofs only [go_sem,Z1,Z2,Z3,Z4]
     rw [e]
     exact ⟨rfl,rfl⟩
  ·rw [List.drop_of_length_le (by omega),List.all_nil] at hg
   rw [List.take_of_length_le (by omega)] at ht
   rw [hg,if_pos rfl] at e
   try simp -implicitDefEqProofs only [go_sem,Z1,Z2,Z3,Z4,h1]
   try (with_reducible refine ind_andM (by kernel_rfl) ?_)
   refine atOwn [] [0] (c_Clone_int_A l (by omega)) ?_ ?_ <;> simp -implicitDefEqProofs only [go_sem,Z1,Z2,Z3,Z4]
   try (with_reducible refine ind_andM (by kernel_rfl) ?_)
   refine atOwn [] [0] (c_SortFunc l hl9 ht) ?_ ?_ <;> simp -implicitDefEqProofs only [go_sem,Z1,Z2,Z3,Z4]
   try (with_reducible refine ind_andM (by kernel_rfl) ?_)
   refine atOwn [] [0,1] (c_Compact_int (isort l) (by rw [isort_len]; omega)) ?_ ?_ <;> simp -implicitDefEqProofs only [go_sem,Z1,Z2,Z3,Z4]
   try (with_reducible refine ind_andM (by kernel_rfl) ?_)
   refine finM' [some 1] ?_ rfl rfl
   simp -implicitDefEqProofs only [go_sem,Z1,Z2,Z3,Z4]
   rw [e]
   exact ⟨rfl,rfl⟩
theorem c_impl_add_T (c:Mod.Cnf) (atoms:List Atom) (fs:List Mod.Form) (l:List Int) (hl9:l.length ≤ 12) (hb9:∀ x ∈ l,-1000000 ≤ x ∧ x ≤ 1000000) (hc9:c.list.length ≤ 100000) :
 C E.P 102 [.ptr 0 0,lv (rowsI l)] [some (.box [iv c.many,.acc 1,lv (rowsAtom atoms),.acc 2]),some (.tre 44 (iiT c.list)),some (.acc 63 (rowsForm fs))] (Eq2 (.tup []) [some (.box [iv (addC c l).many,.acc 3,lv (rowsAtom atoms),.acc 2]),some .dead,some (.acc 63 (rowsForm fs)),some (.tre 44 (iiT (addC c l).list))]):=by
 have hLB:=LB_eq
 refine C_goW (nt:=24) (rs:=[]) Tryz.func102 rfl rfl rfl rfl rfl (fun hl he=>?_)
 simp -implicitDefEqProofs only [go_sem,Z1,Z2,Z3,Z4] at hl ⊢
 refine W_of hm ?_
 try simp -implicitDefEqProofs only [go_sem,Z1,Z2,Z3,Z4,onQ_on]
 try (with_reducible refine ind_andM (by kernel_rfl) ?_)
 refine atOwn [] [3] (c_impl_ClauseOf_T l hl9 hb9) ?_ ?_ <;> simp -implicitDefEqProofs only [go_sem,Z1,Z2,Z3,Z4,onQ_on]
 try (with_reducible refine ind_andM (by kernel_rfl) ?_)
 cases h:clauseOf l with
 | none=>
   have e:=addC_noneI (c:=c) h
   try simp -implicitDefEqProofs only [go_sem,Z1,Z2,Z3,Z4,Option.isSome_none,Option.getD_none,onQ_on]
   try (with_reducible refine ind_andM (by kernel_rfl) ?_)
   refine FinW_of ?_
   refine finM' [some 0,some 1,some 2,some 1] ?_ rfl rfl
   simp -implicitDefEqProofs only [go_sem,Z1,Z2,Z3,Z4]
   rw [e]
   exact ⟨rfl,rfl⟩
 | some o=>
   have e:=addC_someI (c:=c) h
   have hp:(iiT c.list).length = c.list.length:=iiT_len c.list
   try simp -implicitDefEqProofs only [go_sem,Z1,Z2,Z3,Z4,Option.isSome_some,Option.getD_some,onQ_on]
   try (with_reducible refine ind_andM (by kernel_rfl) ?_)
   repeat (first | with_reducible refine ind_andM (by kernel_rfl) ?_ | (with_reducible apply And.intro; case left=>first | omega | assumption | exact ⟨rowsT_all _,by omega⟩ | exact ⟨rowsI_all _,by omega⟩ | exact ⟨rowsLit_all _,by omega⟩ | exact ⟨rowsLin_all _,by omega⟩ | exact ⟨rowsEq_all _,by omega⟩ | rfl | (simp [*]; done) | (simp; omega) | exact ⟨rowsRat_all _,by omega⟩ | exact ⟨rowsAtom_all _,by omega⟩ | exact ⟨rowsB_all _,by omega⟩ | exact ⟨rowsForm_all _,by omega⟩ | exact ⟨rowsII_all _,by omega⟩))
   refine ⟨_,Wk0.weak (put_row 5 c.list.length _ rfl (by rw [List.length_append,hp]; simp) (rwT_endn hp)),?_⟩
   simp -implicitDefEqProofs only [go_sem,Z1,Z2,Z3,Z4]
   refine finM' [some 0,some 1,some 2,some 5] ?_ rfl rfl
   simp -implicitDefEqProofs only [go_sem,Z1,Z2,Z3,Z4]
   rw [e]
   refine ⟨rfl,?_⟩
   rw [set_endn hp]
   exact ⟨iiT_app c.list o,(congrArg (fun z=>(frzRows z).isSome) (iiT_app c.list o)).trans (iiT_ok _)⟩
theorem c_impl_literal1_T (atoms:List Atom) (hat:atoms.length ≤ 1000) (t:Mod.Form) (ih:∀ k ∈ t.kids,∀ (d:Nat) (c:Mod.Cnf) (fs:List Mod.Form),formShape k d = true → inside atoms k → (atoms.length:Int) ≤ c.many → c.many + 2 ^ d ≤ 10000 → c.list.length + 4 * 2 ^ d ≤ 80000 → fs.length + 2 ^ d ≤ 80000 → C E.P 139 [.ptr 0 0,av (cForm k)] [some (.box [iv c.many,.acc 1,lv (rowsAtom atoms),.acc 2]),some (.tre 44 (iiT c.list)),some (.acc 63 (rowsForm fs))] (Eq2 (iv (formC atoms k c).2) [some (.box [iv (formC atoms k c).1.many,.acc 3,lv (rowsAtom atoms),.acc 4]),some .dead,some .dead,some (.tre 44 (iiT (formC atoms k c).1.list)),some (.acc 63 (rowsForm (fs ++ nodesF k)))]))
 (d:Nat) (c:Mod.Cnf) (fs:List Mod.Form) (hsh:formShape t d = true) (hin:inside atoms t) (hmm:(atoms.length:Int) ≤ c.many) (hb1:c.many + 2 ^ d ≤ 10000) (hb2:c.list.length + 4 * 2 ^ d ≤ 80000) (hb3:fs.length + 2 ^ d ≤ 80000) :
 C E.P 139 [.ptr 0 0,av (cForm t)] [some (.box [iv c.many,.acc 1,lv (rowsAtom atoms),.acc 2]),some (.tre 44 (iiT c.list)),some (.acc 63 (rowsForm fs))] (Eq2 (iv (formC atoms t c).2) [some (.box [iv (formC atoms t c).1.many,.acc 3,lv (rowsAtom atoms),.acc 4]),some .dead,some .dead,some (.tre 44 (iiT (formC atoms t c).1.list)),some (.acc 63 (rowsForm (fs ++ nodesF t)))]):=by
 cases d with
 | zero=>cases t; simp [formShape] at hsh
 | succ d=>
 have hk:=formShape_kids hsh
 have hp1:(1:Nat) ≤ 2 ^ d:=Nat.one_le_two_pow
 have hp2:(2:Nat) ^ (d + 1) = 2 * 2 ^ d:=by rw [Nat.pow_succ]; omega
 have hp3:(2:Int) ^ (d + 1) = 2 * ((2 ^ d:Nat):Int):=by rw [Int.pow_succ,Int.mul_comm]; simp
 have hp4:(2:Int) ^ d = ((2 ^ d:Nat):Int):=by simp
 rw [hp2] at hb2 hb3
 rw [hp3] at hb1
 rcases formHead_arms hk.1 with ⟨k1,hl0⟩ | ⟨k2,hl1⟩ | ⟨k3,hl2⟩
 ·have e:=formC_lit (atoms:=atoms) (c:=c) k1
  have en:=nodesF_lit k1
  have hmem:=inside_lit hin k1
  have b1:=atomIdx_nn.2 hmem
  have b2:=atomIdx_lt hmem
  have kk:=eq_true k1
  have hLB:=LB_eq
  refine C_goS (nt:=166) (rs:=[.tmp 4]) hm Tryz.func139 rfl rfl rfl rfl rfl (fun hl he=>?_)
  simp -implicitDefEqProofs only [go_sem,Z1,Z2,Z3,Z4] at hl ⊢
  try simp -implicitDefEqProofs only [go_sem,Z1,Z2,Z3,Z4,kk]
  try (with_reducible refine ind_andM (by kernel_rfl) ?_)
  refine atCall [] (c_impl_atomIndex atoms t.lit.atom) ?_ ?_ <;> simp -implicitDefEqProofs only [go_sem,Z1,Z2,Z3,Z4]
  try (with_reducible refine ind_andM (by kernel_rfl) ?_)
  repeat (first | with_reducible refine ind_andM (by kernel_rfl) ?_ | (with_reducible apply And.intro; case left=>first | omega | assumption | exact ⟨rowsT_all _,by omega⟩ | exact ⟨rowsI_all _,by omega⟩ | exact ⟨rowsLit_all _,by omega⟩ | exact ⟨rowsLin_all _,by omega⟩ | exact ⟨rowsEq_all _,by omega⟩ | rfl | (simp [*]; done) | (simp; omega) | exact ⟨rowsRat_all _,by omega⟩ | exact ⟨rowsAtom_all _,by omega⟩ | exact ⟨rowsB_all _,by omega⟩ | exact ⟨rowsForm_all _,by omega⟩ | exact ⟨rowsII_all _,by omega⟩))
  cases hno:t.lit.no
  ·try simp -implicitDefEqProofs only [go_sem,Z1,Z2,Z3,Z4,hno]
   try (with_reducible refine ind_andM (by kernel_rfl) ?_)
   refine finM' [some 0,some 1,some 2,some 1,some 2] ?_ rfl rfl
   simp -implicitDefEqProofs only [go_sem,Z1,Z2,Z3,Z4]
   rw [e,en,hno,List.append_nil]
   exact ⟨rfl,rfl,rfl,rfl⟩
  ·try simp -implicitDefEqProofs only [go_sem,Z1,Z2,Z3,Z4,hno]
   try (with_reducible refine ind_andM (by kernel_rfl) ?_)
   repeat (first | with_reducible refine ind_andM (by kernel_rfl) ?_ | (with_reducible apply And.intro; case left=>first | omega | assumption | exact ⟨rowsT_all _,by omega⟩ | exact ⟨rowsI_all _,by omega⟩ | exact ⟨rowsLit_all _,by omega⟩ | exact ⟨rowsLin_all _,by omega⟩ | exact ⟨rowsEq_all _,by omega⟩ | rfl | (simp [*]; done) | (simp; omega) | exact ⟨rowsRat_all _,by omega⟩ | exact ⟨rowsAtom_all _,by omega⟩ | exact ⟨rowsB_all _,by omega⟩ | exact ⟨rowsForm_all _,by omega⟩ | exact ⟨rowsII_all _,by omega⟩))
   refine finM' [some 0,some 1,some 2,some 1,some 2] ?_ rfl rfl
   simp -implicitDefEqProofs only [go_sem,Z1,Z2,Z3,Z4]
   rw [e,en,hno,List.append_nil]
   exact ⟨rfl,rfl,rfl,rfl⟩
 ·have e:=formC_not (atoms:=atoms) (c:=c) k2 hl1
  have en:=nodesF_not k2 hl1
  have h0:0 < t.kids.length:=by omega
  have hk0:=List.getElem_mem h0
  have hs0:=formShapes_mem hk.2.2 _ hk0
  have hi0:=inside_kids hin (by omega) _ hk0
  have c0:=ih t.kids[0] hk0 d c fs hs0 hi0 hmm (by omega) (by omega) (by omega)
  have g0:=formC_grow t.kids[0] d atoms c hs0
  have m0:=formMany_le t.kids[0] d hs0
  have q0:=formC_mark t.kids[0] d atoms c hs0 hi0 hmm (by omega)
  have n1:¬ t.kind = 1:=by omega
  have kk:=eq_true k2
  have hLB:=LB_eq
  refine C_goS (nt:=166) (rs:=[.tmp 4]) hm Tryz.func139 rfl rfl rfl rfl rfl (fun hl he=>?_)
  simp -implicitDefEqProofs only [go_sem,Z1,Z2,Z3,Z4] at hl ⊢
  try simp -implicitDefEqProofs only [go_sem,Z1,Z2,Z3,Z4,n1,h0]
  try (with_reducible refine ind_andM (by kernel_rfl) ?_)
  refine atOwn [] [0,1,2,4,5] c0 ?_ ?_
  ·simp -implicitDefEqProofs only [go_sem,Z1,Z2,Z3,Z4]
   rfl
  simp -implicitDefEqProofs only [go_sem,Z1,Z2,Z3,Z4,h0]
  try (with_reducible refine ind_andM (by kernel_rfl) ?_)
  try simp -implicitDefEqProofs only [go_sem,Z1,Z2,Z3,Z4,kk]
  try (with_reducible refine ind_andM (by kernel_rfl) ?_)
  repeat (first | with_reducible refine ind_andM (by kernel_rfl) ?_ | (with_reducible apply And.intro; case left=>first | omega | assumption | exact ⟨rowsT_all _,by omega⟩ | exact ⟨rowsI_all _,by omega⟩ | exact ⟨rowsLit_all _,by omega⟩ | exact ⟨rowsLin_all _,by omega⟩ | exact ⟨rowsEq_all _,by omega⟩ | rfl | (simp [*]; done) | (simp; omega) | exact ⟨rowsRat_all _,by omega⟩ | exact ⟨rowsAtom_all _,by omega⟩ | exact ⟨rowsB_all _,by omega⟩ | exact ⟨rowsForm_all _,by omega⟩ | exact ⟨rowsII_all _,by omega⟩))
  refine finM' [some 0,some 1,some 2,some 4,some 5] ?_ rfl rfl
  simp -implicitDefEqProofs only [go_sem,Z1,Z2,Z3,Z4]
  rw [e,en]
  exact ⟨rfl,rfl,rfl,rfl⟩
 ·have n1:¬ t.kind = 1:=by omega
  have n2:¬ t.kind = 2:=by omega
  have e:=formC_two (atoms:=atoms) (c:=c) n1 n2 hl2
  have en:=nodesF_two n1 n2 hl2
  have h0:0 < t.kids.length:=by omega
  have h1:1 < t.kids.length:=by omega
  have hk0:=List.getElem_mem h0
  have hs0:=formShapes_mem hk.2.2 _ hk0
  have hi0:=inside_kids hin (by omega) _ hk0
  have c0:=ih t.kids[0] hk0 d c fs hs0 hi0 hmm (by omega) (by omega) (by omega)
  have g0:=formC_grow t.kids[0] d atoms c hs0
  have m0:=formMany_le t.kids[0] d hs0
  have f0:=nodesF_len t.kids[0] d hs0
  have q0:=formC_mark t.kids[0] d atoms c hs0 hi0 hmm (by omega)
  generalize hc1:formC atoms t.kids[0] c = r1 at *
  have hk1:=List.getElem_mem h1
  have hs1:=formShapes_mem hk.2.2 _ hk1
  have hi1:=inside_kids hin (by omega) _ hk1
  have c1:=ih t.kids[1] hk1 d r1.1 (fs ++ nodesF t.kids[0]) hs1 hi1 (by omega) (by omega) (by omega) (by rw [List.length_append]; omega)
  have g1:=formC_grow t.kids[1] d atoms r1.1 hs1
  have m1:=formMany_le t.kids[1] d hs1
  have f1:=nodesF_len t.kids[1] d hs1
  have q1:=formC_mark t.kids[1] d atoms r1.1 hs1 hi1 (by omega) (by omega)
  generalize hc2:formC atoms t.kids[1] r1.1 = r2 at *
  have ha:fs ++ (nodesF t.kids[0] ++ nodesF t.kids[1] ++ [t]) = fs ++ nodesF t.kids[0] ++ nodesF t.kids[1] ++ [t]:=by simp
  rw [e,en,ha]
  generalize hfs:fs ++ nodesF t.kids[0] ++ nodesF t.kids[1] = gs at *
  have hgl:gs.length ≤ 80000:=by rw [← hfs,List.length_append,List.length_append]; omega
  rcases k3 with kx | kx | kx | kx
  ·have z:((⟨r2.1.many + 1,r2.1.list⟩:Mod.Cnf)).list.length ≤ 80000:=by simp only; omega
   have z0:=addC_len ((⟨r2.1.many + 1,r2.1.list⟩:Mod.Cnf)) [-(r2.1.many + 1),r1.2]
   have u0:=c_impl_add_T ((⟨r2.1.many + 1,r2.1.list⟩:Mod.Cnf)) atoms (gs ++ [t]) [-(r2.1.many + 1),r1.2] (by simp) (by simp; omega) (by omega)
   simp only [rowsI_cons,rowsI_nil] at u0
   have z1:=addC_len (addC ((⟨r2.1.many + 1,r2.1.list⟩:Mod.Cnf)) [-(r2.1.many + 1),r1.2]) [-(r2.1.many + 1),r2.2]
   have u1:=c_impl_add_T (addC ((⟨r2.1.many + 1,r2.1.list⟩:Mod.Cnf)) [-(r2.1.many + 1),r1.2]) atoms (gs ++ [t]) [-(r2.1.many + 1),r2.2] (by simp) (by simp; omega) (by omega)
   simp only [rowsI_cons,rowsI_nil] at u1
   have z2:=addC_len (addC (addC ((⟨r2.1.many + 1,r2.1.list⟩:Mod.Cnf)) [-(r2.1.many + 1),r1.2]) [-(r2.1.many + 1),r2.2]) [(r2.1.many + 1),-r1.2,-r2.2]
   have u2:=c_impl_add_T (addC (addC ((⟨r2.1.many + 1,r2.1.list⟩:Mod.Cnf)) [-(r2.1.many + 1),r1.2]) [-(r2.1.many + 1),r2.2]) atoms (gs ++ [t]) [(r2.1.many + 1),-r1.2,-r2.2] (by simp) (by simp; omega) (by omega)
   simp only [rowsI_cons,rowsI_nil] at u2
   have en:nodeC t.kind ⟨r2.1.many + 1,r2.1.list⟩ (r2.1.many + 1) r1.2 r2.2 = addC (addC (addC ((⟨r2.1.many + 1,r2.1.list⟩:Mod.Cnf)) [-(r2.1.many + 1),r1.2]) [-(r2.1.many + 1),r2.2]) [(r2.1.many + 1),-r1.2,-r2.2]:=by rw [nodeC,if_pos kx]; simp only [orC,iffC,Int.neg_neg]
   rw [en]
   have kk:=eq_true kx
   have hLB:=LB_eq
   refine C_goS (nt:=166) (rs:=[.tmp 4]) hm Tryz.func139 rfl rfl rfl rfl rfl (fun hl he=>?_)
   simp -implicitDefEqProofs only [go_sem,Z1,Z2,Z3,Z4] at hl ⊢
   try simp -implicitDefEqProofs only [go_sem,Z1,Z2,Z3,Z4,n1,h0]
   try (with_reducible refine ind_andM (by kernel_rfl) ?_)
   refine atOwn [] [0,1,2,4,5] c0 ?_ ?_
   ·simp -implicitDefEqProofs only [go_sem,Z1,Z2,Z3,Z4]
    rfl
   simp -implicitDefEqProofs only [go_sem,Z1,Z2,Z3,Z4,h0]
   try (with_reducible refine ind_andM (by kernel_rfl) ?_)
   try simp -implicitDefEqProofs only [go_sem,Z1,Z2,Z3,Z4,n2,h1]
   try (with_reducible refine ind_andM (by kernel_rfl) ?_)
   refine atOwn [] [0,4,5,6,7] c1 ?_ ?_
   ·simp -implicitDefEqProofs only [go_sem,Z1,Z2,Z3,Z4]
    rfl
   simp -implicitDefEqProofs only [go_sem,Z1,Z2,Z3,Z4,h1]
   try (with_reducible refine ind_andM (by kernel_rfl) ?_)
   repeat (first | with_reducible refine ind_andM (by kernel_rfl) ?_ | (with_reducible apply And.intro; case left=>first | omega | assumption | exact ⟨rowsT_all _,by omega⟩ | exact ⟨rowsI_all _,by omega⟩ | exact ⟨rowsLit_all _,by omega⟩ | exact ⟨rowsLin_all _,by omega⟩ | exact ⟨rowsEq_all _,by omega⟩ | rfl | (simp [*]; done) | (simp; omega) | exact ⟨rowsRat_all _,by omega⟩ | exact ⟨rowsAtom_all _,by omega⟩ | exact ⟨rowsB_all _,by omega⟩ | exact ⟨rowsForm_all _,by omega⟩ | exact ⟨rowsII_all _,by omega⟩))
   refine And.intro (by rw [List.length_append,rowsForm_len]; simp) ?_
   refine And.intro (by rw [List.length_append,rowsForm_len]; simp) ?_
   repeat (first | with_reducible refine ind_andM (by kernel_rfl) ?_ | (with_reducible apply And.intro; case left=>first | omega | assumption | exact ⟨rowsT_all _,by omega⟩ | exact ⟨rowsI_all _,by omega⟩ | exact ⟨rowsLit_all _,by omega⟩ | exact ⟨rowsLin_all _,by omega⟩ | exact ⟨rowsEq_all _,by omega⟩ | rfl | (simp [*]; done) | (simp; omega) | exact ⟨rowsRat_all _,by omega⟩ | exact ⟨rowsAtom_all _,by omega⟩ | exact ⟨rowsB_all _,by omega⟩ | exact ⟨rowsForm_all _,by omega⟩ | exact ⟨rowsII_all _,by omega⟩))
   rw [rowsForm_fill gs t]
   try simp -implicitDefEqProofs only [go_sem,Z1,Z2,Z3,Z4,kk]
   try (with_reducible refine ind_andM (by kernel_rfl) ?_)
   repeat (first | with_reducible refine ind_andM (by kernel_rfl) ?_ | (with_reducible apply And.intro; case left=>first | omega | assumption | exact ⟨rowsT_all _,by omega⟩ | exact ⟨rowsI_all _,by omega⟩ | exact ⟨rowsLit_all _,by omega⟩ | exact ⟨rowsLin_all _,by omega⟩ | exact ⟨rowsEq_all _,by omega⟩ | rfl | (simp [*]; done) | (simp; omega) | exact ⟨rowsRat_all _,by omega⟩ | exact ⟨rowsAtom_all _,by omega⟩ | exact ⟨rowsB_all _,by omega⟩ | exact ⟨rowsForm_all _,by omega⟩ | exact ⟨rowsII_all _,by omega⟩))
   refine atOwn [] [0,6,8,9] u0 ?_ ?_
   ·simp -implicitDefEqProofs only [go_sem,Z1,Z2,Z3,Z4]
    rfl
   simp -implicitDefEqProofs only [go_sem,Z1,Z2,Z3,Z4]
   try (with_reducible refine ind_andM (by kernel_rfl) ?_)
   repeat (first | with_reducible refine ind_andM (by kernel_rfl) ?_ | (with_reducible apply And.intro; case left=>first | omega | assumption | exact ⟨rowsT_all _,by omega⟩ | exact ⟨rowsI_all _,by omega⟩ | exact ⟨rowsLit_all _,by omega⟩ | exact ⟨rowsLin_all _,by omega⟩ | exact ⟨rowsEq_all _,by omega⟩ | rfl | (simp [*]; done) | (simp; omega) | exact ⟨rowsRat_all _,by omega⟩ | exact ⟨rowsAtom_all _,by omega⟩ | exact ⟨rowsB_all _,by omega⟩ | exact ⟨rowsForm_all _,by omega⟩ | exact ⟨rowsII_all _,by omega⟩))
   refine atOwn [] [0,9,8,10] u1 ?_ ?_
   ·simp -implicitDefEqProofs only [go_sem,Z1,Z2,Z3,Z4]
    rfl
   simp -implicitDefEqProofs only [go_sem,Z1,Z2,Z3,Z4]
   try (with_reducible refine ind_andM (by kernel_rfl) ?_)
   repeat (first | with_reducible refine ind_andM (by kernel_rfl) ?_ | (with_reducible apply And.intro; case left=>first | omega | assumption | exact ⟨rowsT_all _,by omega⟩ | exact ⟨rowsI_all _,by omega⟩ | exact ⟨rowsLit_all _,by omega⟩ | exact ⟨rowsLin_all _,by omega⟩ | exact ⟨rowsEq_all _,by omega⟩ | rfl | (simp [*]; done) | (simp; omega) | exact ⟨rowsRat_all _,by omega⟩ | exact ⟨rowsAtom_all _,by omega⟩ | exact ⟨rowsB_all _,by omega⟩ | exact ⟨rowsForm_all _,by omega⟩ | exact ⟨rowsII_all _,by omega⟩))
   refine atOwn [] [0,10,8,11] u2 ?_ ?_
   ·simp -implicitDefEqProofs only [go_sem,Z1,Z2,Z3,Z4]
    rfl
   simp -implicitDefEqProofs only [go_sem,Z1,Z2,Z3,Z4]
   try (with_reducible refine ind_andM (by kernel_rfl) ?_)
   refine finM' [some 0,some 1,some 2,some 11,some 8] ?_ rfl rfl
   simp -implicitDefEqProofs only [go_sem,Z1,Z2,Z3,Z4]
  ·have n3:¬ t.kind = 3:=by omega
   have z:((⟨r2.1.many + 1,r2.1.list⟩:Mod.Cnf)).list.length ≤ 80000:=by simp only; omega
   have z0:=addC_len ((⟨r2.1.many + 1,r2.1.list⟩:Mod.Cnf)) [(r2.1.many + 1),-r1.2]
   have u0:=c_impl_add_T ((⟨r2.1.many + 1,r2.1.list⟩:Mod.Cnf)) atoms (gs ++ [t]) [(r2.1.many + 1),-r1.2] (by simp) (by simp; omega) (by omega)
   simp only [rowsI_cons,rowsI_nil] at u0
   have z1:=addC_len (addC ((⟨r2.1.many + 1,r2.1.list⟩:Mod.Cnf)) [(r2.1.many + 1),-r1.2]) [(r2.1.many + 1),-r2.2]
   have u1:=c_impl_add_T (addC ((⟨r2.1.many + 1,r2.1.list⟩:Mod.Cnf)) [(r2.1.many + 1),-r1.2]) atoms (gs ++ [t]) [(r2.1.many + 1),-r2.2] (by simp) (by simp; omega) (by omega)
   simp only [rowsI_cons,rowsI_nil] at u1
   have z2:=addC_len (addC (addC ((⟨r2.1.many + 1,r2.1.list⟩:Mod.Cnf)) [(r2.1.many + 1),-r1.2]) [(r2.1.many + 1),-r2.2]) [-(r2.1.many + 1),r1.2,r2.2]
   have u2:=c_impl_add_T (addC (addC ((⟨r2.1.many + 1,r2.1.list⟩:Mod.Cnf)) [(r2.1.many + 1),-r1.2]) [(r2.1.many + 1),-r2.2]) atoms (gs ++ [t]) [-(r2.1.many + 1),r1.2,r2.2] (by simp) (by simp; omega) (by omega)
   simp only [rowsI_cons,rowsI_nil] at u2
   have en:nodeC t.kind ⟨r2.1.many + 1,r2.1.list⟩ (r2.1.many + 1) r1.2 r2.2 = addC (addC (addC ((⟨r2.1.many + 1,r2.1.list⟩:Mod.Cnf)) [(r2.1.many + 1),-r1.2]) [(r2.1.many + 1),-r2.2]) [-(r2.1.many + 1),r1.2,r2.2]:=by rw [nodeC,if_neg n3,if_pos kx]; simp only [orC,iffC,Int.neg_neg]
   rw [en]
   have kk:=eq_true kx
   have hLB:=LB_eq
   refine C_goS (nt:=166) (rs:=[.tmp 4]) hm Tryz.func139 rfl rfl rfl rfl rfl (fun hl he=>?_)
   simp -implicitDefEqProofs only [go_sem,Z1,Z2,Z3,Z4] at hl ⊢
   try simp -implicitDefEqProofs only [go_sem,Z1,Z2,Z3,Z4,n1,h0]
   try (with_reducible refine ind_andM (by kernel_rfl) ?_)
   refine atOwn [] [0,1,2,4,5] c0 ?_ ?_
   ·simp -implicitDefEqProofs only [go_sem,Z1,Z2,Z3,Z4]
    rfl
   simp -implicitDefEqProofs only [go_sem,Z1,Z2,Z3,Z4,h0]
   try (with_reducible refine ind_andM (by kernel_rfl) ?_)
   try simp -implicitDefEqProofs only [go_sem,Z1,Z2,Z3,Z4,n2,h1]
   try (with_reducible refine ind_andM (by kernel_rfl) ?_)
   refine atOwn [] [0,4,5,6,7] c1 ?_ ?_
   ·simp -implicitDefEqProofs only [go_sem,Z1,Z2,Z3,Z4]
    rfl
   simp -implicitDefEqProofs only [go_sem,Z1,Z2,Z3,Z4,h1]
   try (with_reducible refine ind_andM (by kernel_rfl) ?_)
   repeat (first | with_reducible refine ind_andM (by kernel_rfl) ?_ | (with_reducible apply And.intro; case left=>first | omega | assumption | exact ⟨rowsT_all _,by omega⟩ | exact ⟨rowsI_all _,by omega⟩ | exact ⟨rowsLit_all _,by omega⟩ | exact ⟨rowsLin_all _,by omega⟩ | exact ⟨rowsEq_all _,by omega⟩ | rfl | (simp [*]; done) | (simp; omega) | exact ⟨rowsRat_all _,by omega⟩ | exact ⟨rowsAtom_all _,by omega⟩ | exact ⟨rowsB_all _,by omega⟩ | exact ⟨rowsForm_all _,by omega⟩ | exact ⟨rowsII_all _,by omega⟩))
   refine And.intro (by rw [List.length_append,rowsForm_len]; simp) ?_
   refine And.intro (by rw [List.length_append,rowsForm_len]; simp) ?_
   repeat (first | with_reducible refine ind_andM (by kernel_rfl) ?_ | (with_reducible apply And.intro; case left=>first | omega | assumption | exact ⟨rowsT_all _,by omega⟩ | exact ⟨rowsI_all _,by omega⟩ | exact ⟨rowsLit_all _,by omega⟩ | exact ⟨rowsLin_all _,by omega⟩ | exact ⟨rowsEq_all _,by omega⟩ | rfl | (simp [*]; done) | (simp; omega) | exact ⟨rowsRat_all _,by omega⟩ | exact ⟨rowsAtom_all _,by omega⟩ | exact ⟨rowsB_all _,by omega⟩ | exact ⟨rowsForm_all _,by omega⟩ | exact ⟨rowsII_all _,by omega⟩))
   rw [rowsForm_fill gs t]
   try simp -implicitDefEqProofs only [go_sem,Z1,Z2,Z3,Z4,n3,kk]
   try (with_reducible refine ind_andM (by kernel_rfl) ?_)
   repeat (first | with_reducible refine ind_andM (by kernel_rfl) ?_ | (with_reducible apply And.intro; case left=>first | omega | assumption | exact ⟨rowsT_all _,by omega⟩ | exact ⟨rowsI_all _,by omega⟩ | exact ⟨rowsLit_all _,by omega⟩ | exact ⟨rowsLin_all _,by omega⟩ | exact ⟨rowsEq_all _,by omega⟩ | rfl | (simp [*]; done) | (simp; omega) | exact ⟨rowsRat_all _,by omega⟩ | exact ⟨rowsAtom_all _,by omega⟩ | exact ⟨rowsB_all _,by omega⟩ | exact ⟨rowsForm_all _,by omega⟩ | exact ⟨rowsII_all _,by omega⟩))
   refine atOwn [] [0,6,8,9] u0 ?_ ?_
   ·simp -implicitDefEqProofs only [go_sem,Z1,Z2,Z3,Z4]
    rfl
   simp -implicitDefEqProofs only [go_sem,Z1,Z2,Z3,Z4]
   try (with_reducible refine ind_andM (by kernel_rfl) ?_)
   repeat (first | with_reducible refine ind_andM (by kernel_rfl) ?_ | (with_reducible apply And.intro; case left=>first | omega | assumption | exact ⟨rowsT_all _,by omega⟩ | exact ⟨rowsI_all _,by omega⟩ | exact ⟨rowsLit_all _,by omega⟩ | exact ⟨rowsLin_all _,by omega⟩ | exact ⟨rowsEq_all _,by omega⟩ | rfl | (simp [*]; done) | (simp; omega) | exact ⟨rowsRat_all _,by omega⟩ | exact ⟨rowsAtom_all _,by omega⟩ | exact ⟨rowsB_all _,by omega⟩ | exact ⟨rowsForm_all _,by omega⟩ | exact ⟨rowsII_all _,by omega⟩))
   refine atOwn [] [0,9,8,10] u1 ?_ ?_
   ·simp -implicitDefEqProofs only [go_sem,Z1,Z2,Z3,Z4]
    rfl
   simp -implicitDefEqProofs only [go_sem,Z1,Z2,Z3,Z4]
   try (with_reducible refine ind_andM (by kernel_rfl) ?_)
   repeat (first | with_reducible refine ind_andM (by kernel_rfl) ?_ | (with_reducible apply And.intro; case left=>first | omega | assumption | exact ⟨rowsT_all _,by omega⟩ | exact ⟨rowsI_all _,by omega⟩ | exact ⟨rowsLit_all _,by omega⟩ | exact ⟨rowsLin_all _,by omega⟩ | exact ⟨rowsEq_all _,by omega⟩ | rfl | (simp [*]; done) | (simp; omega) | exact ⟨rowsRat_all _,by omega⟩ | exact ⟨rowsAtom_all _,by omega⟩ | exact ⟨rowsB_all _,by omega⟩ | exact ⟨rowsForm_all _,by omega⟩ | exact ⟨rowsII_all _,by omega⟩))
   refine atOwn [] [0,10,8,11] u2 ?_ ?_
   ·simp -implicitDefEqProofs only [go_sem,Z1,Z2,Z3,Z4]
    rfl
   simp -implicitDefEqProofs only [go_sem,Z1,Z2,Z3,Z4]
   try (with_reducible refine ind_andM (by kernel_rfl) ?_)
   refine finM' [some 0,some 1,some 2,some 11,some 8] ?_ rfl rfl
   simp -implicitDefEqProofs only [go_sem,Z1,Z2,Z3,Z4]
  ·have n3:¬ t.kind = 3:=by omega
   have n4:¬ t.kind = 4:=by omega
   have z:((⟨r2.1.many + 1,r2.1.list⟩:Mod.Cnf)).list.length ≤ 80000:=by simp only; omega
   have z0:=addC_len ((⟨r2.1.many + 1,r2.1.list⟩:Mod.Cnf)) [(r2.1.many + 1),r1.2]
   have u0:=c_impl_add_T ((⟨r2.1.many + 1,r2.1.list⟩:Mod.Cnf)) atoms (gs ++ [t]) [(r2.1.many + 1),r1.2] (by simp) (by simp; omega) (by omega)
   simp only [rowsI_cons,rowsI_nil] at u0
   have z1:=addC_len (addC ((⟨r2.1.many + 1,r2.1.list⟩:Mod.Cnf)) [(r2.1.many + 1),r1.2]) [(r2.1.many + 1),-r2.2]
   have u1:=c_impl_add_T (addC ((⟨r2.1.many + 1,r2.1.list⟩:Mod.Cnf)) [(r2.1.many + 1),r1.2]) atoms (gs ++ [t]) [(r2.1.many + 1),-r2.2] (by simp) (by simp; omega) (by omega)
   simp only [rowsI_cons,rowsI_nil] at u1
   have z2:=addC_len (addC (addC ((⟨r2.1.many + 1,r2.1.list⟩:Mod.Cnf)) [(r2.1.many + 1),r1.2]) [(r2.1.many + 1),-r2.2]) [-(r2.1.many + 1),-r1.2,r2.2]
   have u2:=c_impl_add_T (addC (addC ((⟨r2.1.many + 1,r2.1.list⟩:Mod.Cnf)) [(r2.1.many + 1),r1.2]) [(r2.1.many + 1),-r2.2]) atoms (gs ++ [t]) [-(r2.1.many + 1),-r1.2,r2.2] (by simp) (by simp; omega) (by omega)
   simp only [rowsI_cons,rowsI_nil] at u2
   have en:nodeC t.kind ⟨r2.1.many + 1,r2.1.list⟩ (r2.1.many + 1) r1.2 r2.2 = addC (addC (addC ((⟨r2.1.many + 1,r2.1.list⟩:Mod.Cnf)) [(r2.1.many + 1),r1.2]) [(r2.1.many + 1),-r2.2]) [-(r2.1.many + 1),-r1.2,r2.2]:=by rw [nodeC,if_neg n3,if_neg n4,if_pos kx]; simp only [orC,iffC,Int.neg_neg]
   rw [en]
   have kk:=eq_true kx
   have hLB:=LB_eq
   refine C_goS (nt:=166) (rs:=[.tmp 4]) hm Tryz.func139 rfl rfl rfl rfl rfl (fun hl he=>?_)
   simp -implicitDefEqProofs only [go_sem,Z1,Z2,Z3,Z4] at hl ⊢
   try simp -implicitDefEqProofs only [go_sem,Z1,Z2,Z3,Z4,n1,h0]
   try (with_reducible refine ind_andM (by kernel_rfl) ?_)
   refine atOwn [] [0,1,2,4,5] c0 ?_ ?_
   ·simp -implicitDefEqProofs only [go_sem,Z1,Z2,Z3,Z4]
    rfl
   simp -implicitDefEqProofs only [go_sem,Z1,Z2,Z3,Z4,h0]
   try (with_reducible refine ind_andM (by kernel_rfl) ?_)
   try simp -implicitDefEqProofs only [go_sem,Z1,Z2,Z3,Z4,n2,h1]
   try (with_reducible refine ind_andM (by kernel_rfl) ?_)
   refine atOwn [] [0,4,5,6,7] c1 ?_ ?_
   ·simp -implicitDefEqProofs only [go_sem,Z1,Z2,Z3,Z4]
    rfl
   simp -implicitDefEqProofs only [go_sem,Z1,Z2,Z3,Z4,h1]
   try (with_reducible refine ind_andM (by kernel_rfl) ?_)
   repeat (first | with_reducible refine ind_andM (by kernel_rfl) ?_ | (with_reducible apply And.intro; case left=>first | omega | assumption | exact ⟨rowsT_all _,by omega⟩ | exact ⟨rowsI_all _,by omega⟩ | exact ⟨rowsLit_all _,by omega⟩ | exact ⟨rowsLin_all _,by omega⟩ | exact ⟨rowsEq_all _,by omega⟩ | rfl | (simp [*]; done) | (simp; omega) | exact ⟨rowsRat_all _,by omega⟩ | exact ⟨rowsAtom_all _,by omega⟩ | exact ⟨rowsB_all _,by omega⟩ | exact ⟨rowsForm_all _,by omega⟩ | exact ⟨rowsII_all _,by omega⟩))
   refine And.intro (by rw [List.length_append,rowsForm_len]; simp) ?_
   refine And.intro (by rw [List.length_append,rowsForm_len]; simp) ?_
   repeat (first | with_reducible refine ind_andM (by kernel_rfl) ?_ | (with_reducible apply And.intro; case left=>first | omega | assumption | exact ⟨rowsT_all _,by omega⟩ | exact ⟨rowsI_all _,by omega⟩ | exact ⟨rowsLit_all _,by omega⟩ | exact ⟨rowsLin_all _,by omega⟩ | exact ⟨rowsEq_all _,by omega⟩ | rfl | (simp [*]; done) | (simp; omega) | exact ⟨rowsRat_all _,by omega⟩ | exact ⟨rowsAtom_all _,by omega⟩ | exact ⟨rowsB_all _,by omega⟩ | exact ⟨rowsForm_all _,by omega⟩ | exact ⟨rowsII_all _,by omega⟩))
   rw [rowsForm_fill gs t]
   try simp -implicitDefEqProofs only [go_sem,Z1,Z2,Z3,Z4,n3,n4,kk]
   try (with_reducible refine ind_andM (by kernel_rfl) ?_)
   repeat (first | with_reducible refine ind_andM (by kernel_rfl) ?_ | (with_reducible apply And.intro; case left=>first | omega | assumption | exact ⟨rowsT_all _,by omega⟩ | exact ⟨rowsI_all _,by omega⟩ | exact ⟨rowsLit_all _,by omega⟩ | exact ⟨rowsLin_all _,by omega⟩ | exact ⟨rowsEq_all _,by omega⟩ | rfl | (simp [*]; done) | (simp; omega) | exact ⟨rowsRat_all _,by omega⟩ | exact ⟨rowsAtom_all _,by omega⟩ | exact ⟨rowsB_all _,by omega⟩ | exact ⟨rowsForm_all _,by omega⟩ | exact ⟨rowsII_all _,by omega⟩))
   refine atOwn [] [0,6,8,9] u0 ?_ ?_
   ·simp -implicitDefEqProofs only [go_sem,Z1,Z2,Z3,Z4]
    rfl
   simp -implicitDefEqProofs only [go_sem,Z1,Z2,Z3,Z4]
   try (with_reducible refine ind_andM (by kernel_rfl) ?_)
   repeat (first | with_reducible refine ind_andM (by kernel_rfl) ?_ | (with_reducible apply And.intro; case left=>first | omega | assumption | exact ⟨rowsT_all _,by omega⟩ | exact ⟨rowsI_all _,by omega⟩ | exact ⟨rowsLit_all _,by omega⟩ | exact ⟨rowsLin_all _,by omega⟩ | exact ⟨rowsEq_all _,by omega⟩ | rfl | (simp [*]; done) | (simp; omega) | exact ⟨rowsRat_all _,by omega⟩ | exact ⟨rowsAtom_all _,by omega⟩ | exact ⟨rowsB_all _,by omega⟩ | exact ⟨rowsForm_all _,by omega⟩ | exact ⟨rowsII_all _,by omega⟩))
   refine atOwn [] [0,9,8,10] u1 ?_ ?_
   ·simp -implicitDefEqProofs only [go_sem,Z1,Z2,Z3,Z4]
    rfl
   simp -implicitDefEqProofs only [go_sem,Z1,Z2,Z3,Z4]
   try (with_reducible refine ind_andM (by kernel_rfl) ?_)
   repeat (first | with_reducible refine ind_andM (by kernel_rfl) ?_ | (with_reducible apply And.intro; case left=>first | omega | assumption | exact ⟨rowsT_all _,by omega⟩ | exact ⟨rowsI_all _,by omega⟩ | exact ⟨rowsLit_all _,by omega⟩ | exact ⟨rowsLin_all _,by omega⟩ | exact ⟨rowsEq_all _,by omega⟩ | rfl | (simp [*]; done) | (simp; omega) | exact ⟨rowsRat_all _,by omega⟩ | exact ⟨rowsAtom_all _,by omega⟩ | exact ⟨rowsB_all _,by omega⟩ | exact ⟨rowsForm_all _,by omega⟩ | exact ⟨rowsII_all _,by omega⟩))
   refine atOwn [] [0,10,8,11] u2 ?_ ?_
   ·simp -implicitDefEqProofs only [go_sem,Z1,Z2,Z3,Z4]
    rfl
   simp -implicitDefEqProofs only [go_sem,Z1,Z2,Z3,Z4]
   try (with_reducible refine ind_andM (by kernel_rfl) ?_)
   refine finM' [some 0,some 1,some 2,some 11,some 8] ?_ rfl rfl
   simp -implicitDefEqProofs only [go_sem,Z1,Z2,Z3,Z4]
  ·have n3:¬ t.kind = 3:=by omega
   have n4:¬ t.kind = 4:=by omega
   have n5:¬ t.kind = 5:=by omega
   have z:((⟨r2.1.many + 1,r2.1.list⟩:Mod.Cnf)).list.length ≤ 80000:=by simp only; omega
   have z0:=addC_len ((⟨r2.1.many + 1,r2.1.list⟩:Mod.Cnf)) [-(r2.1.many + 1),-r1.2,r2.2]
   have u0:=c_impl_add_T ((⟨r2.1.many + 1,r2.1.list⟩:Mod.Cnf)) atoms (gs ++ [t]) [-(r2.1.many + 1),-r1.2,r2.2] (by simp) (by simp; omega) (by omega)
   simp only [rowsI_cons,rowsI_nil] at u0
   have z1:=addC_len (addC ((⟨r2.1.many + 1,r2.1.list⟩:Mod.Cnf)) [-(r2.1.many + 1),-r1.2,r2.2]) [-(r2.1.many + 1),r1.2,-r2.2]
   have u1:=c_impl_add_T (addC ((⟨r2.1.many + 1,r2.1.list⟩:Mod.Cnf)) [-(r2.1.many + 1),-r1.2,r2.2]) atoms (gs ++ [t]) [-(r2.1.many + 1),r1.2,-r2.2] (by simp) (by simp; omega) (by omega)
   simp only [rowsI_cons,rowsI_nil] at u1
   have z2:=addC_len (addC (addC ((⟨r2.1.many + 1,r2.1.list⟩:Mod.Cnf)) [-(r2.1.many + 1),-r1.2,r2.2]) [-(r2.1.many + 1),r1.2,-r2.2]) [(r2.1.many + 1),r1.2,r2.2]
   have u2:=c_impl_add_T (addC (addC ((⟨r2.1.many + 1,r2.1.list⟩:Mod.Cnf)) [-(r2.1.many + 1),-r1.2,r2.2]) [-(r2.1.many + 1),r1.2,-r2.2]) atoms (gs ++ [t]) [(r2.1.many + 1),r1.2,r2.2] (by simp) (by simp; omega) (by omega)
   simp only [rowsI_cons,rowsI_nil] at u2
   have z3:=addC_len (addC (addC (addC ((⟨r2.1.many + 1,r2.1.list⟩:Mod.Cnf)) [-(r2.1.many + 1),-r1.2,r2.2]) [-(r2.1.many + 1),r1.2,-r2.2]) [(r2.1.many + 1),r1.2,r2.2]) [(r2.1.many + 1),-r1.2,-r2.2]
   have u3:=c_impl_add_T (addC (addC (addC ((⟨r2.1.many + 1,r2.1.list⟩:Mod.Cnf)) [-(r2.1.many + 1),-r1.2,r2.2]) [-(r2.1.many + 1),r1.2,-r2.2]) [(r2.1.many + 1),r1.2,r2.2]) atoms (gs ++ [t]) [(r2.1.many + 1),-r1.2,-r2.2] (by simp) (by simp; omega) (by omega)
   simp only [rowsI_cons,rowsI_nil] at u3
   have en:nodeC t.kind ⟨r2.1.many + 1,r2.1.list⟩ (r2.1.many + 1) r1.2 r2.2 = addC (addC (addC (addC ((⟨r2.1.many + 1,r2.1.list⟩:Mod.Cnf)) [-(r2.1.many + 1),-r1.2,r2.2]) [-(r2.1.many + 1),r1.2,-r2.2]) [(r2.1.many + 1),r1.2,r2.2]) [(r2.1.many + 1),-r1.2,-r2.2]:=by rw [nodeC,if_neg n3,if_neg n4,if_neg n5]; simp only [orC,iffC,Int.neg_neg]
   rw [en]
   have hLB:=LB_eq
   refine C_goS (nt:=166) (rs:=[.tmp 4]) hm Tryz.func139 rfl rfl rfl rfl rfl (fun hl he=>?_)
   simp -implicitDefEqProofs only [go_sem,Z1,Z2,Z3,Z4] at hl ⊢
   try simp -implicitDefEqProofs only [go_sem,Z1,Z2,Z3,Z4,n1,h0]
   try (with_reducible refine ind_andM (by kernel_rfl) ?_)
   refine atOwn [] [0,1,2,4,5] c0 ?_ ?_
   ·simp -implicitDefEqProofs only [go_sem,Z1,Z2,Z3,Z4]
    rfl
   simp -implicitDefEqProofs only [go_sem,Z1,Z2,Z3,Z4,h0]
   try (with_reducible refine ind_andM (by kernel_rfl) ?_)
   try simp -implicitDefEqProofs only [go_sem,Z1,Z2,Z3,Z4,n2,h1]
   try (with_reducible refine ind_andM (by kernel_rfl) ?_)
   refine atOwn [] [0,4,5,6,7] c1 ?_ ?_
   ·simp -implicitDefEqProofs only [go_sem,Z1,Z2,Z3,Z4]
    rfl
   simp -implicitDefEqProofs only [go_sem,Z1,Z2,Z3,Z4,h1]
   try (with_reducible refine ind_andM (by kernel_rfl) ?_)
   repeat (first | with_reducible refine ind_andM (by kernel_rfl) ?_ | (with_reducible apply And.intro; case left=>first | omega | assumption | exact ⟨rowsT_all _,by omega⟩ | exact ⟨rowsI_all _,by omega⟩ | exact ⟨rowsLit_all _,by omega⟩ | exact ⟨rowsLin_all _,by omega⟩ | exact ⟨rowsEq_all _,by omega⟩ | rfl | (simp [*]; done) | (simp; omega) | exact ⟨rowsRat_all _,by omega⟩ | exact ⟨rowsAtom_all _,by omega⟩ | exact ⟨rowsB_all _,by omega⟩ | exact ⟨rowsForm_all _,by omega⟩ | exact ⟨rowsII_all _,by omega⟩))
   refine And.intro (by rw [List.length_append,rowsForm_len]; simp) ?_
   refine And.intro (by rw [List.length_append,rowsForm_len]; simp) ?_
   repeat (first | with_reducible refine ind_andM (by kernel_rfl) ?_ | (with_reducible apply And.intro; case left=>first | omega | assumption | exact ⟨rowsT_all _,by omega⟩ | exact ⟨rowsI_all _,by omega⟩ | exact ⟨rowsLit_all _,by omega⟩ | exact ⟨rowsLin_all _,by omega⟩ | exact ⟨rowsEq_all _,by omega⟩ | rfl | (simp [*]; done) | (simp; omega) | exact ⟨rowsRat_all _,by omega⟩ | exact ⟨rowsAtom_all _,by omega⟩ | exact ⟨rowsB_all _,by omega⟩ | exact ⟨rowsForm_all _,by omega⟩ | exact ⟨rowsII_all _,by omega⟩))
   rw [rowsForm_fill gs t]
   try simp -implicitDefEqProofs only [go_sem,Z1,Z2,Z3,Z4,n3,n4,n5]
   try (with_reducible refine ind_andM (by kernel_rfl) ?_)
   repeat (first | with_reducible refine ind_andM (by kernel_rfl) ?_ | (with_reducible apply And.intro; case left=>first | omega | assumption | exact ⟨rowsT_all _,by omega⟩ | exact ⟨rowsI_all _,by omega⟩ | exact ⟨rowsLit_all _,by omega⟩ | exact ⟨rowsLin_all _,by omega⟩ | exact ⟨rowsEq_all _,by omega⟩ | rfl | (simp [*]; done) | (simp; omega) | exact ⟨rowsRat_all _,by omega⟩ | exact ⟨rowsAtom_all _,by omega⟩ | exact ⟨rowsB_all _,by omega⟩ | exact ⟨rowsForm_all _,by omega⟩ | exact ⟨rowsII_all _,by omega⟩))
   refine atOwn [] [0,6,8,9] u0 ?_ ?_
   ·simp -implicitDefEqProofs only [go_sem,Z1,Z2,Z3,Z4]
    rfl
   simp -implicitDefEqProofs only [go_sem,Z1,Z2,Z3,Z4]
   try (with_reducible refine ind_andM (by kernel_rfl) ?_)
   repeat (first | with_reducible refine ind_andM (by kernel_rfl) ?_ | (with_reducible apply And.intro; case left=>first | omega | assumption | exact ⟨rowsT_all _,by omega⟩ | exact ⟨rowsI_all _,by omega⟩ | exact ⟨rowsLit_all _,by omega⟩ | exact ⟨rowsLin_all _,by omega⟩ | exact ⟨rowsEq_all _,by omega⟩ | rfl | (simp [*]; done) | (simp; omega) | exact ⟨rowsRat_all _,by omega⟩ | exact ⟨rowsAtom_all _,by omega⟩ | exact ⟨rowsB_all _,by omega⟩ | exact ⟨rowsForm_all _,by omega⟩ | exact ⟨rowsII_all _,by omega⟩))
   refine atOwn [] [0,9,8,10] u1 ?_ ?_
   ·simp -implicitDefEqProofs only [go_sem,Z1,Z2,Z3,Z4]
    rfl
   simp -implicitDefEqProofs only [go_sem,Z1,Z2,Z3,Z4]
   try (with_reducible refine ind_andM (by kernel_rfl) ?_)
   repeat (first | with_reducible refine ind_andM (by kernel_rfl) ?_ | (with_reducible apply And.intro; case left=>first | omega | assumption | exact ⟨rowsT_all _,by omega⟩ | exact ⟨rowsI_all _,by omega⟩ | exact ⟨rowsLit_all _,by omega⟩ | exact ⟨rowsLin_all _,by omega⟩ | exact ⟨rowsEq_all _,by omega⟩ | rfl | (simp [*]; done) | (simp; omega) | exact ⟨rowsRat_all _,by omega⟩ | exact ⟨rowsAtom_all _,by omega⟩ | exact ⟨rowsB_all _,by omega⟩ | exact ⟨rowsForm_all _,by omega⟩ | exact ⟨rowsII_all _,by omega⟩))
   refine atOwn [] [0,10,8,11] u2 ?_ ?_
   ·simp -implicitDefEqProofs only [go_sem,Z1,Z2,Z3,Z4]
    rfl
   simp -implicitDefEqProofs only [go_sem,Z1,Z2,Z3,Z4]
   try (with_reducible refine ind_andM (by kernel_rfl) ?_)
   repeat (first | with_reducible refine ind_andM (by kernel_rfl) ?_ | (with_reducible apply And.intro; case left=>first | omega | assumption | exact ⟨rowsT_all _,by omega⟩ | exact ⟨rowsI_all _,by omega⟩ | exact ⟨rowsLit_all _,by omega⟩ | exact ⟨rowsLin_all _,by omega⟩ | exact ⟨rowsEq_all _,by omega⟩ | rfl | (simp [*]; done) | (simp; omega) | exact ⟨rowsRat_all _,by omega⟩ | exact ⟨rowsAtom_all _,by omega⟩ | exact ⟨rowsB_all _,by omega⟩ | exact ⟨rowsForm_all _,by omega⟩ | exact ⟨rowsII_all _,by omega⟩))
   refine atOwn [] [0,11,8,12] u3 ?_ ?_
   ·simp -implicitDefEqProofs only [go_sem,Z1,Z2,Z3,Z4]
    rfl
   simp -implicitDefEqProofs only [go_sem,Z1,Z2,Z3,Z4]
   try (with_reducible refine ind_andM (by kernel_rfl) ?_)
   refine finM' [some 0,some 1,some 2,some 12,some 8] ?_ rfl rfl
   simp -implicitDefEqProofs only [go_sem,Z1,Z2,Z3,Z4]
end Go.Proofs.YtgeogofjlhjcmaaGreat
namespace Go.Proofs.YtgeogofjlhjcmaaGreat
open Go.Eng Go.Mod
open Int renaming reduceEq → Z1,reduceLT → Z2,reduceLE → Z3,reduceToNat → Z4
set_option maxRecDepth 100000
set_option maxHeartbeats 400000
theorem c_impl_literal_T (atoms:List Atom) (hat:atoms.length ≤ 1000):∀ (t:Mod.Form) (d:Nat) (c:Mod.Cnf) (fs:List Mod.Form),formShape t d = true → inside atoms t → (atoms.length:Int) ≤ c.many → c.many + 2 ^ d ≤ 10000 → c.list.length + 4 * 2 ^ d ≤ 80000 → fs.length + 2 ^ d ≤ 80000 →
 C E.P 139 [.ptr 0 0,av (cForm t)] [some (.box [iv c.many,.acc 1,lv (rowsAtom atoms),.acc 2]),some (.tre 44 (iiT c.list)),some (.acc 63 (rowsForm fs))] (Eq2 (iv (formC atoms t c).2) [some (.box [iv (formC atoms t c).1.many,.acc 3,lv (rowsAtom atoms),.acc 4]),some .dead,some .dead,some (.tre 44 (iiT (formC atoms t c).1.list)),some (.acc 63 (rowsForm (fs ++ nodesF t)))]):=
 Form.ind fun k x ks ih d c fs h1 h2 h3 h4 h5 h6=>c_impl_literal1_T atoms hat (.mk k x ks) ih d c fs h1 h2 h3 h4 h5 h6
theorem c_impl_translated_none (list:List Mod.Form) (h:formsAtoms list = none):C E.P 100 [lv (rowsForm list)] [] (Eq2 (.tup [.d (.val (.pointer none)),bv false]) []):=by
 have hLB:=LB_eq
 refine C_goS (nt:=36) (rs:=[.tmp 2,.tmp 3]) hm Tryz.func100 rfl rfl rfl rfl rfl (fun hl he=>?_)
 simp -implicitDefEqProofs only [go_sem,Z1,Z2,Z3,Z4] at hl ⊢
 have hc:=c_impl_formsAtoms list
 rw [h] at hc
 simp only [Option.getD_none,Option.isSome_none] at hc
 refine atCall [] hc ?_ ?_ <;> simp -implicitDefEqProofs only [go_sem,Z1,Z2,Z3,Z4]
 try (with_reducible refine ind_andM (by kernel_rfl) ?_)
 try simp -implicitDefEqProofs only [go_sem,Z1,Z2,Z3,Z4]
 try (with_reducible refine ind_andM (by kernel_rfl) ?_)
 refine fin1' ?_
 simp -implicitDefEqProofs only [go_sem,Z1,Z2,Z3,Z4]
theorem c_impl_translated_T (list:List Mod.Form) (atoms:List Atom) (h:formsAtoms list = some atoms):C E.P 100 [lv (rowsForm list)] [] (Eq2 (.tup [.ptr 0 0,bv true]) [some (.box [iv (cnfOf list).many,.acc 1,lv (rowsAtom atoms),.acc 2]),some (.tre 44 (iiT (cnfOf list).list)),some (.acc 63 (rowsForm (nodesFs list)))]):=by
 obtain ⟨p1,p2,p3,p4⟩:=formsAtoms_parts h
 have e:=cnfOf_some h
 rw [e]
 have hLB:=LB_eq
 refine C_goS (nt:=36) (rs:=[.tmp 2,.tmp 3]) hm Tryz.func100 rfl rfl rfl rfl rfl (fun hl he=>?_)
 simp -implicitDefEqProofs only [go_sem,Z1,Z2,Z3,Z4] at hl ⊢
 have hc:=c_impl_formsAtoms list
 rw [h] at hc
 simp only [Option.getD_some,Option.isSome_some] at hc
 refine atCall [] hc ?_ ?_ <;> simp -implicitDefEqProofs only [go_sem,Z1,Z2,Z3,Z4]
 try (with_reducible refine ind_andM (by kernel_rfl) ?_)
 try simp -implicitDefEqProofs only [go_sem,Z1,Z2,Z3,Z4]
 try (with_reducible refine ind_andM (by kernel_rfl) ?_)
 refine loop_go3 hm (fun (i:Nat) (c:Mod.Cnf) (fs:List Mod.Form)=> i ≤ list.length ∧ (atoms.length:Int) ≤ c.many ∧ c.many ≤ 6 + 31 * i ∧ c.list.length ≤ 125 * i ∧ cnfGo atoms list ⟨atoms.length,[]⟩ = cnfGo atoms (list.drop i) c ∧ fs.length ≤ 31 * i ∧ nodesFs list = fs ++ nodesFs (list.drop i)) (fun (i:Nat) (c:Mod.Cnf) (fs:List Mod.Form)=> ⟨mkS 36 .any [(6,.ptr 0 0),(22,lv (rowsForm list)),(23,iv list.length),(24,iv i)],[some (.box [iv c.many,.acc 1,lv (rowsAtom atoms),.acc 2]),some (.tre 44 (iiT c.list)),some (.acc 63 (rowsForm fs))]⟩) (fun (i:Nat) (c:Mod.Cnf) (fs:List Mod.Form)=> list.length - i) (0) (⟨atoms.length,[]⟩) ([]) ?_ (weakS [some 0,none,none] ?_ ?_ rfl rfl) ?_
 rotate_left
 ·simp -implicitDefEqProofs only [go_sem,Z1,Z2,Z3,Z4]
  all_goals (first | done | (rfl) | (simp [wks_rfl, *]; done) | (simp [wks_rfl]; done) | (simp; omega) | skip)
 ·simp -implicitDefEqProofs only [go_sem,Z1,Z2,Z3,Z4]
  all_goals (first | done | (rfl) | (simp [wks_rfl, *]; done) | (simp [wks_rfl]; done) | (simp; omega) | skip)
 rotate_left
 ·exact ⟨by omega,by simp only; omega,by simp only; omega,by simp,rfl,by simp,rfl⟩
 ·rintro i c fs ⟨hi,b1,b2,b3,hg,b4,hn⟩
  rcases Classical.em (i < list.length) with h1 | h1
  ·obtain ⟨q0,q1,q2,q3,q4,q5,q6,q7,q8⟩:=form_step h h1 b1 b2 b3
   have q9:=nodesF_len list[i] 5 q3
   have q10:=formMany_le list[i] 5 q3
   rw [cnfGo_drop h1] at hg
   rw [nodesFs_drop h1,← List.append_assoc] at hn
   have cf:=c_impl_literal_T atoms (by omega) list[i] 5 c fs q3 q4 b1 (by omega) (by omega) (by omega)
   have ca:=c_impl_add_T (formC atoms list[i] c).1 atoms (fs ++ nodesF list[i]) [(formC atoms list[i] c).2] (by simp) (by simp; omega) (by omega)
   simp only [rowsI_cons,rowsI_nil] at ca
   try simp -implicitDefEqProofs only [go_sem,Z1,Z2,Z3,Z4,h1]
   try (with_reducible refine ind_andM (by kernel_rfl) ?_)
   refine atOwn [] [0,1,2,4,5] cf ?_ ?_
   ·simp -implicitDefEqProofs only [go_sem,Z1,Z2,Z3,Z4]
    rfl
   simp -implicitDefEqProofs only [go_sem,Z1,Z2,Z3,Z4,h1]
   try (with_reducible refine ind_andM (by kernel_rfl) ?_)
   refine atOwn [] [0,4,5,6] ca ?_ ?_
   ·simp -implicitDefEqProofs only [go_sem,Z1,Z2,Z3,Z4]
    rfl
   simp -implicitDefEqProofs only [go_sem,Z1,Z2,Z3,Z4]
   try (with_reducible refine ind_andM (by kernel_rfl) ?_)
   repeat (first | with_reducible refine ind_andM (by kernel_rfl) ?_ | (with_reducible apply And.intro; case left=>first | omega | assumption | exact ⟨rowsT_all _,by omega⟩ | exact ⟨rowsI_all _,by omega⟩ | exact ⟨rowsLit_all _,by omega⟩ | exact ⟨rowsLin_all _,by omega⟩ | exact ⟨rowsEq_all _,by omega⟩ | rfl | (simp [*]; done) | (simp; omega) | exact ⟨rowsRat_all _,by omega⟩ | exact ⟨rowsAtom_all _,by omega⟩ | exact ⟨rowsB_all _,by omega⟩ | exact ⟨rowsForm_all _,by omega⟩ | exact ⟨rowsII_all _,by omega⟩))
   refine ⟨i + 1,addC (formC atoms list[i] c).1 [(formC atoms list[i] c).2],fs ++ nodesF list[i],?_,?_,weakS [some 0,some 6,some 5] ?_ ?_ rfl rfl⟩
   rotate_left
   ·show _ < _
    omega
   ·simp -implicitDefEqProofs only [go_sem,Z1,Z2,Z3,Z4]
    all_goals (first | done | (exact ⟨rfl,iiT_ok _⟩) | (simp [wks_rfl, *]; done) | (simp [wks_rfl]; done) | (simp; omega) | skip)
   ·simp -implicitDefEqProofs only [go_sem,Z1,Z2,Z3,Z4]
    all_goals (first | done | (exact ⟨rfl,iiT_ok _⟩) | (simp [wks_rfl, *]; done) | (simp [wks_rfl]; done) | (simp; omega) | skip)
   exact ⟨by omega,q6,q7,q8,hg,by rw [List.length_append]; omega,hn⟩
  ·rw [List.drop_of_length_le (by omega),cnfGo] at hg
   rw [List.drop_of_length_le (by omega),nodesFs,List.append_nil] at hn
   rw [hg,hn]
   try simp -implicitDefEqProofs only [go_sem,Z1,Z2,Z3,Z4,h1]
   try (with_reducible refine ind_andM (by kernel_rfl) ?_)
   refine finM' [some 0,some 1,some 2] ?_ rfl rfl
   simp -implicitDefEqProofs only [go_sem,Z1,Z2,Z3,Z4]
theorem c_impl_paperCnf_T (list:List Mod.Form) (p:Mod.Paper):C E.P 60 [lv (rowsForm list),lv (rowsLemma p.lemmas)] [] (Eq2 (.tup [.agg [iv (paperCnf list p).many,.acc 0],bv (paperFits list p.lemmas)]) [some (.tre 44 (iiT (paperCnf list p).list))]):=by
 rw [paperCnf_fits]
 have hLB:=LB_eq
 refine C_goS (nt:=48) (rs:=[.cell 4 75,.tmp 5]) hm Tryz.func60 rfl rfl rfl rfl rfl (fun hl he=>?_)
 simp -implicitDefEqProofs only [go_sem,Z1,Z2,Z3,Z4] at hl ⊢
 cases h:formsAtoms list with
 | none=>
   rw [paperFits_none h,if_neg (by simp)]
   refine atCall [] (c_impl_translated_none list h) ?_ ?_ <;> simp -implicitDefEqProofs only [go_sem,Z1,Z2,Z3,Z4]
   try (with_reducible refine ind_andM (by kernel_rfl) ?_)
   try simp -implicitDefEqProofs only [go_sem,Z1,Z2,Z3,Z4]
   try (with_reducible refine ind_andM (by kernel_rfl) ?_)
   refine finM' [none] ?_ rfl rfl
   simp -implicitDefEqProofs only [go_sem,Z1,Z2,Z3,Z4]
   exact ⟨rfl,rfl⟩
 | some atoms=>
   obtain ⟨p1,p2,p3,p4⟩:=formsAtoms_parts h
   have hlen:=cnfOf_len list
   rw [paperFits_some h]
   refine atOwn [] [1,2,3] (c_impl_translated_T list atoms h) ?_ ?_ <;> simp -implicitDefEqProofs only [go_sem,Z1,Z2,Z3,Z4]
   try (with_reducible refine ind_andM (by kernel_rfl) ?_)
   rcases Classical.em ((64:Int) < (p.lemmas.length:Int)) with hn | hn
   ·have hn':¬ p.lemmas.length ≤ 64:=by omega
    rw [decide_eq_false hn',Bool.false_and,if_neg (by simp)]
    try simp -implicitDefEqProofs only [go_sem,Z1,Z2,Z3,Z4,hn]
    try (with_reducible refine ind_andM (by kernel_rfl) ?_)
    refine finM' [none] ?_ rfl rfl
    simp -implicitDefEqProofs only [go_sem,Z1,Z2,Z3,Z4]
    exact ⟨rfl,rfl⟩
   ·have hn':p.lemmas.length ≤ 64:=by omega
    rw [decide_eq_true hn',Bool.true_and]
    try simp -implicitDefEqProofs only [go_sem,Z1,Z2,Z3,Z4,hn]
    try (with_reducible refine ind_andM (by kernel_rfl) ?_)
    refine loop_go2 hm (fun (i:Nat) (b:Mod.Cnf)=> i ≤ p.lemmas.length ∧ b.list.length ≤ 1000 + i ∧ lemsGo (cnfOf list) p.lemmas = lemsGo b (p.lemmas.drop i) ∧ (p.lemmas.all fun l=>isSelection l.marks atoms.length) = ((p.lemmas.drop i).all fun l=>isSelection l.marks atoms.length)) (fun (i:Nat) (b:Mod.Cnf)=> ⟨mkS 48 .any [(4,.ptr 0 0),(6,.ptr 1 0),(23,lv (rowsLemma p.lemmas)),(24,iv p.lemmas.length),(25,iv i)],[some (.box [iv 0,.nilS]),some (.box [iv b.many,.acc 2,lv (rowsAtom atoms),.acc 3]),some (.tre 44 (iiT b.list)),some (.acc 63 (rowsForm (nodesFs list)))]⟩) (fun (i:Nat) (b:Mod.Cnf)=> p.lemmas.length - i) (0) (cnfOf list) ?_ (weakS [some 0,some 1,some 2,some 3] ?_ ?_ rfl rfl) ?_
    rotate_left
    ·simp -implicitDefEqProofs only [go_sem,Z1,Z2,Z3,Z4]
     all_goals (first | done | (exact ⟨rfl,iiT_ok _⟩) | (simp [wks_rfl, *]; done) | (simp [wks_rfl]; done) | (simp; omega) | skip)
    ·simp -implicitDefEqProofs only [go_sem,Z1,Z2,Z3,Z4]
     all_goals (first | done | (exact ⟨rfl,iiT_ok _⟩) | (simp [wks_rfl, *]; done) | (simp [wks_rfl]; done) | (simp; omega) | skip)
    rotate_left
    ·exact ⟨by omega,by omega,rfl,by simp⟩
    ·rintro i b ⟨hi,b1,hg,ha⟩
     rcases Classical.em (i < p.lemmas.length) with h1 | h1
     ·rw [List.drop_eq_getElem_cons h1,List.all_cons] at ha
      have hc:=c_impl_isSelection p.lemmas[i].marks atoms (by omega)
      cases q1:isSelection p.lemmas[i].marks atoms.length
      ·rw [q1] at hc ha
       rw [Bool.false_and] at ha
       rw [ha,if_neg (by simp)]
       try simp -implicitDefEqProofs only [go_sem,Z1,Z2,Z3,Z4,h1]
       try (with_reducible refine ind_andM (by kernel_rfl) ?_)
       refine atCall [] hc ?_ ?_ <;> simp -implicitDefEqProofs only [go_sem,Z1,Z2,Z3,Z4]
       try (with_reducible refine ind_andM (by kernel_rfl) ?_)
       repeat (first | with_reducible refine ind_andM (by kernel_rfl) ?_ | (with_reducible apply And.intro; case left=>first | omega | assumption | exact ⟨rowsT_all _,by omega⟩ | exact ⟨rowsI_all _,by omega⟩ | exact ⟨rowsLit_all _,by omega⟩ | exact ⟨rowsLin_all _,by omega⟩ | exact ⟨rowsEq_all _,by omega⟩ | rfl | (simp [*]; done) | (simp; omega) | exact ⟨rowsRat_all _,by omega⟩ | exact ⟨rowsAtom_all _,by omega⟩ | exact ⟨rowsB_all _,by omega⟩ | exact ⟨rowsForm_all _,by omega⟩ | exact ⟨rowsII_all _,by omega⟩))
       refine finM' [none] ?_ rfl rfl
       simp -implicitDefEqProofs only [go_sem,Z1,Z2,Z3,Z4]
       exact ⟨rfl,rfl⟩
      ·rw [q1] at hc ha
       rw [Bool.true_and] at ha
       have q3:=sel_len6 q1 p3
       have q4:=isSelection_mem q1
       have a1:=addC_len b (p.lemmas[i].marks.map fun m=>-m)
       rw [lemsGo_drop h1] at hg
       try simp -implicitDefEqProofs only [go_sem,Z1,Z2,Z3,Z4,h1]
       try (with_reducible refine ind_andM (by kernel_rfl) ?_)
       refine atCall [] hc ?_ ?_ <;> simp -implicitDefEqProofs only [go_sem,Z1,Z2,Z3,Z4]
       try (with_reducible refine ind_andM (by kernel_rfl) ?_)
       repeat (first | with_reducible refine ind_andM (by kernel_rfl) ?_ | (with_reducible apply And.intro; case left=>first | omega | assumption | exact ⟨rowsT_all _,by omega⟩ | exact ⟨rowsI_all _,by omega⟩ | exact ⟨rowsLit_all _,by omega⟩ | exact ⟨rowsLin_all _,by omega⟩ | exact ⟨rowsEq_all _,by omega⟩ | rfl | (simp [*]; done) | (simp; omega) | exact ⟨rowsRat_all _,by omega⟩ | exact ⟨rowsAtom_all _,by omega⟩ | exact ⟨rowsB_all _,by omega⟩ | exact ⟨rowsForm_all _,by omega⟩ | exact ⟨rowsII_all _,by omega⟩))
       refine atCall [] (c_impl_negated p.lemmas[i].marks (by omega) (fun x hx=>by have:=q4 x hx; omega)) ?_ ?_ <;> simp -implicitDefEqProofs only [go_sem,Z1,Z2,Z3,Z4]
       try (with_reducible refine ind_andM (by kernel_rfl) ?_)
       refine atOwn [] [1,2,3,5] (c_impl_add_T b atoms (nodesFs list) (p.lemmas[i].marks.map fun m=>-m) (by rw [List.length_map]; omega) (fun x hx=>by obtain ⟨m,hm1,hm2⟩:=List.mem_map.1 hx; have:=q4 m hm1; omega) (by omega)) ?_ ?_
       ·simp -implicitDefEqProofs only [go_sem,Z1,Z2,Z3,Z4]
        rfl
       simp -implicitDefEqProofs only [go_sem,Z1,Z2,Z3,Z4]
       try (with_reducible refine ind_andM (by kernel_rfl) ?_)
       repeat (first | with_reducible refine ind_andM (by kernel_rfl) ?_ | (with_reducible apply And.intro; case left=>first | omega | assumption | exact ⟨rowsT_all _,by omega⟩ | exact ⟨rowsI_all _,by omega⟩ | exact ⟨rowsLit_all _,by omega⟩ | exact ⟨rowsLin_all _,by omega⟩ | exact ⟨rowsEq_all _,by omega⟩ | rfl | (simp [*]; done) | (simp; omega) | exact ⟨rowsRat_all _,by omega⟩ | exact ⟨rowsAtom_all _,by omega⟩ | exact ⟨rowsB_all _,by omega⟩ | exact ⟨rowsForm_all _,by omega⟩ | exact ⟨rowsII_all _,by omega⟩))
       refine ⟨i + 1,addC b (p.lemmas[i].marks.map fun m=>-m),?_,?_,weakS [some 0,some 1,some 5,some 3] ?_ ?_ rfl rfl⟩
       rotate_left
       ·show _ < _
        omega
       ·simp -implicitDefEqProofs only [go_sem,Z1,Z2,Z3,Z4]
        all_goals (first | done | (exact ⟨rfl,iiT_ok _⟩) | (simp [wks_rfl, *]; done) | (simp [wks_rfl]; done) | (simp; omega) | skip)
       ·simp -implicitDefEqProofs only [go_sem,Z1,Z2,Z3,Z4]
        all_goals (first | done | (exact ⟨rfl,iiT_ok _⟩) | (simp [wks_rfl, *]; done) | (simp [wks_rfl]; done) | (simp; omega) | skip)
       exact ⟨by omega,by omega,hg,ha⟩
     ·rw [List.drop_of_length_le (by omega),lemsGo] at hg
      rw [List.drop_of_length_le (by omega),List.all_nil] at ha
      rw [hg,ha,if_pos rfl]
      try simp -implicitDefEqProofs only [go_sem,Z1,Z2,Z3,Z4,h1]
      try (with_reducible refine ind_andM (by kernel_rfl) ?_)
      refine finM' [some 2] ?_ rfl rfl
      simp -implicitDefEqProofs only [go_sem,Z1,Z2,Z3,Z4]
theorem c_impl_PaperCnf_T (list:List Mod.Form) (p:Mod.Paper):C E.P 24 [lv (rowsForm list),av (cPaper p)] [] (Eq2 (.agg [iv (paperCnf list p).many,.acc 0]) [some (.tre 44 (iiT (paperCnf list p).list))]):=by
 have hLB:=LB_eq
 refine C_goS (nt:=15) (rs:=[.cell 4 75]) hm Tryz.func24 rfl rfl rfl rfl rfl (fun hl he=>?_)
 simp -implicitDefEqProofs only [go_sem,Z1,Z2,Z3,Z4] at hl ⊢
 refine atOwn [] [2] (c_impl_paperCnf_T list p) ?_ ?_ <;> simp -implicitDefEqProofs only [go_sem,Z1,Z2,Z3,Z4]
 try (with_reducible refine ind_andM (by kernel_rfl) ?_)
 refine finM' [some 2] ?_ rfl rfl
 simp -implicitDefEqProofs only [go_sem,Z1,Z2,Z3,Z4]
end Go.Proofs.YtgeogofjlhjcmaaGreat
