/-
  The reference: the walks of clause form, logs and papers. A step towards the exact laws. The reference: the walks of clause form. A step towards the exact laws.
-/
import Derived.Test.YtkkbmikoifnnbaaGreatKAk
import Derived.Test.YtkkbmikoifnnbaaGreatKAEa
set_option linter.unusedVariables false
set_option linter.unusedSimpArgs false
namespace Go.Proofs.YtkkbmikoifnnbaaGreat
open Go.Eng Go.Mod
open Int renaming reduceEq → Z1,reduceLT → Z2,reduceLE → Z3,reduceToNat → Z4
set_option maxRecDepth 100000
set_option maxHeartbeats 400000
theorem rowsII_app (a b:List (List Int)):rowsII a ++ rowsII b = rowsII (a ++ b):=by simp [rowsII]
theorem addC_none {c:Mod.Cnf} {l:List Int} (h:clauseOf l = none):addC c l = c:=by unfold addC; rw [h]
theorem addC_some {c:Mod.Cnf} {l o:List Int} (h:clauseOf l = some o):addC c l = ⟨c.many,c.list ++ [o]⟩:=by unfold addC; rw [h]
theorem c_spec_l10Add (c:Mod.Cnf) (l:List Int) (hl9:l.length ≤ 100) (hc9:c.list.length ≤ 100000):C E.P 28 [.agg [iv c.many,.acc 0],lv (rowsI l)] [some (.acc 43 (rowsII c.list))] (Eq2 (.agg [iv (addC c l).many,.acc 1]) [some .dead,some (.acc 43 (rowsII (addC c l).list))]):=by
 have hLB:=LB_eq
 refine C_goS (nt:=20) (rs:=[.cell 4 29]) hm Tryz.func28 rfl rfl rfl rfl rfl (fun hl he=>?_)
 simp -implicitDefEqProofs only [go_sem] at hl ⊢
 refine atCall [] (c_spec_ClauseOf l hl9) ?_ ?_ <;> simp -implicitDefEqProofs only [go_sem]
 cases h:clauseOf l with
 | none=>
   have e:=addC_none (c:=c) h
   simp -implicitDefEqProofs only [go_sem,Option.isSome_none,Option.getD_none]
   refine finM' [some 0,some 0] ?_ rfl rfl
   simp -implicitDefEqProofs only [go_sem]
   rw [e]
   exact ⟨rfl,rfl⟩
 | some o=>
   have e:=addC_some (c:=c) h
   simp -implicitDefEqProofs only [go_sem,Option.isSome_some,Option.getD_some]
   repeat (with_reducible apply And.intro; case left=>omega)
   refine finM' [some 0,some 3] ?_ rfl rfl
   simp -implicitDefEqProofs only [go_sem]
   rw [e]
   exact ⟨rfl,rowsII_app c.list [o]⟩
theorem c_spec_l10Or (c:Mod.Cnf) (v a b:Int) (hv:-1000000 ≤ v ∧ v ≤ 1000000) (ha:-1000000 ≤ a ∧ a ≤ 1000000) (hb:-1000000 ≤ b ∧ b ≤ 1000000) (hc9:c.list.length ≤ 90000):C E.P 57 [.agg [iv c.many,.acc 0],iv v,iv a,iv b] [some (.acc 43 (rowsII c.list))] (Eq2 (.agg [iv (orC c v a b).many,.acc 1]) [some .dead,some (.acc 43 (rowsII (orC c v a b).list))]):=by
 have l0:=addC_len (c) [v,-a]
 have q0:=c_spec_l10Add (c) [v,-a] (by simp) (by omega)
 simp only [rowsI_cons,rowsI_nil] at q0
 have l1:=addC_len (addC (c) [v,-a]) [v,-b]
 have q1:=c_spec_l10Add (addC (c) [v,-a]) [v,-b] (by simp) (by omega)
 simp only [rowsI_cons,rowsI_nil] at q1
 have l2:=addC_len (addC (addC (c) [v,-a]) [v,-b]) [-v,a,b]
 have q2:=c_spec_l10Add (addC (addC (c) [v,-a]) [v,-b]) [-v,a,b] (by simp) (by omega)
 simp only [rowsI_cons,rowsI_nil] at q2
 have e:orC c v a b = addC (addC (addC (c) [v,-a]) [v,-b]) [-v,a,b]:=rfl
 rw [e]
 have hLB:=LB_eq
 refine C_goS (nt:=28) (rs:=[.cell 8 29]) hm Tryz.func57 rfl rfl rfl rfl rfl (fun hl he=>?_)
 simp -implicitDefEqProofs only [go_sem] at hl ⊢
 repeat (with_reducible apply And.intro; case left=>omega)
 refine atOwn [] [0,3] q0 ?_ ?_ <;> simp -implicitDefEqProofs only [go_sem]
 repeat (with_reducible apply And.intro; case left=>omega)
 refine atOwn [] [3,4] q1 ?_ ?_ <;> simp -implicitDefEqProofs only [go_sem]
 repeat (with_reducible apply And.intro; case left=>omega)
 refine atOwn [] [4,5] q2 ?_ ?_ <;> simp -implicitDefEqProofs only [go_sem]
 refine finM' [some 0,some 5] ?_ rfl rfl
 simp -implicitDefEqProofs only [go_sem]
theorem c_spec_l10Iff (c:Mod.Cnf) (v a b:Int) (hv:-1000000 ≤ v ∧ v ≤ 1000000) (ha:-1000000 ≤ a ∧ a ≤ 1000000) (hb:-1000000 ≤ b ∧ b ≤ 1000000) (hc9:c.list.length ≤ 90000):C E.P 58 [.agg [iv c.many,.acc 0],iv v,iv a,iv b] [some (.acc 43 (rowsII c.list))] (Eq2 (.agg [iv (iffC c v a b).many,.acc 1]) [some .dead,some (.acc 43 (rowsII (iffC c v a b).list))]):=by
 have l0:=addC_len (c) [-v,-a,b]
 have q0:=c_spec_l10Add (c) [-v,-a,b] (by simp) (by omega)
 simp only [rowsI_cons,rowsI_nil] at q0
 have l1:=addC_len (addC (c) [-v,-a,b]) [-v,a,-b]
 have q1:=c_spec_l10Add (addC (c) [-v,-a,b]) [-v,a,-b] (by simp) (by omega)
 simp only [rowsI_cons,rowsI_nil] at q1
 have l2:=addC_len (addC (addC (c) [-v,-a,b]) [-v,a,-b]) [v,a,b]
 have q2:=c_spec_l10Add (addC (addC (c) [-v,-a,b]) [-v,a,-b]) [v,a,b] (by simp) (by omega)
 simp only [rowsI_cons,rowsI_nil] at q2
 have l3:=addC_len (addC (addC (addC (c) [-v,-a,b]) [-v,a,-b]) [v,a,b]) [v,-a,-b]
 have q3:=c_spec_l10Add (addC (addC (addC (c) [-v,-a,b]) [-v,a,-b]) [v,a,b]) [v,-a,-b] (by simp) (by omega)
 simp only [rowsI_cons,rowsI_nil] at q3
 have e:iffC c v a b = addC (addC (addC (addC (c) [-v,-a,b]) [-v,a,-b]) [v,a,b]) [v,-a,-b]:=rfl
 rw [e]
 have hLB:=LB_eq
 refine C_goS (nt:=39) (rs:=[.cell 8 29]) hm Tryz.func58 rfl rfl rfl rfl rfl (fun hl he=>?_)
 simp -implicitDefEqProofs only [go_sem] at hl ⊢
 repeat (with_reducible apply And.intro; case left=>omega)
 refine atOwn [] [0,3] q0 ?_ ?_ <;> simp -implicitDefEqProofs only [go_sem]
 repeat (with_reducible apply And.intro; case left=>omega)
 refine atOwn [] [3,4] q1 ?_ ?_ <;> simp -implicitDefEqProofs only [go_sem]
 refine atOwn [] [4,5] q2 ?_ ?_ <;> simp -implicitDefEqProofs only [go_sem]
 repeat (with_reducible apply And.intro; case left=>omega)
 refine atOwn [] [5,6] q3 ?_ ?_ <;> simp -implicitDefEqProofs only [go_sem]
 refine finM' [some 0,some 6] ?_ rfl rfl
 simp -implicitDefEqProofs only [go_sem]
end Go.Proofs.YtkkbmikoifnnbaaGreat
namespace Go.Proofs.YtkkbmikoifnnbaaGreat
open Go.Eng Go.Mod
open Int renaming reduceEq → Z1,reduceLT → Z2,reduceLE → Z3,reduceToNat → Z4
set_option maxRecDepth 100000
set_option maxHeartbeats 400000
theorem c_spec_l10Form1 (atoms:List Atom) (hat:atoms.length ≤ 1000) (t:Mod.Form) (ih:∀ k ∈ t.kids,∀ (d:Nat) (c:Mod.Cnf),formShape k d = true → inside atoms k → (atoms.length:Int) ≤ c.many → c.many + 2 ^ d ≤ 10000 → c.list.length + 4 * 2 ^ d ≤ 80000 → C E.P 27 [.agg [iv c.many,.acc 0],lv (rowsAtom atoms),av (cForm k)] [some (.acc 43 (rowsII c.list))] (Eq2 (.tup [.agg [iv (formC atoms k c).1.many,.acc 1],iv (formC atoms k c).2]) [some .dead,some (.acc 43 (rowsII (formC atoms k c).1.list))]))
 (d:Nat) (c:Mod.Cnf) (hsh:formShape t d = true) (hin:inside atoms t) (hmm:(atoms.length:Int) ≤ c.many) (hb1:c.many + 2 ^ d ≤ 10000) (hb2:c.list.length + 4 * 2 ^ d ≤ 80000) :
 C E.P 27 [.agg [iv c.many,.acc 0],lv (rowsAtom atoms),av (cForm t)] [some (.acc 43 (rowsII c.list))] (Eq2 (.tup [.agg [iv (formC atoms t c).1.many,.acc 1],iv (formC atoms t c).2]) [some .dead,some (.acc 43 (rowsII (formC atoms t c).1.list))]):=by
 cases d with
 | zero=>cases t; simp [formShape] at hsh
 | succ d=>
 have hk:=formShape_kids hsh
 have hp1:(1:Nat) ≤ 2 ^ d:=Nat.one_le_two_pow
 have hp2:(2:Nat) ^ (d + 1) = 2 * 2 ^ d:=by rw [Nat.pow_succ]; omega
 have hp3:(2:Int) ^ (d + 1) = 2 * ((2 ^ d:Nat):Int):=by rw [Int.pow_succ,Int.mul_comm]; simp
 have hp4:(2:Int) ^ d = ((2 ^ d:Nat):Int):=by simp
 rw [hp2] at hb2
 rw [hp3] at hb1
 rcases formHead_arms hk.1 with ⟨k1,hl0⟩ | ⟨k2,hl1⟩ | ⟨k3,hl2⟩
 ·have e:=formC_lit (atoms:=atoms) (c:=c) k1
  have hmem:=inside_lit hin k1
  have b1:=atomIdx_nn.2 hmem
  have b2:=atomIdx_lt hmem
  have kk:=eq_true k1
  have hLB:=LB_eq
  refine C_goS (nt:=97) (rs:=[.cell 6 29,.tmp 7]) hm Tryz.func27 rfl rfl rfl rfl rfl (fun hl he=>?_)
  simp -implicitDefEqProofs only [go_sem] at hl ⊢
  simp -implicitDefEqProofs only [go_sem,kk]
  refine atCall [] (c_spec_l9Place atoms t.lit.atom) ?_ ?_ <;> simp -implicitDefEqProofs only [go_sem]
  repeat (with_reducible apply And.intro; case left=>omega)
  cases hno:t.lit.no
  ·simp -implicitDefEqProofs only [go_sem]
   refine finM' [some 0,some 0] ?_ rfl rfl
   simp -implicitDefEqProofs only [go_sem]
   rw [e,hno]
   exact ⟨⟨rfl,rfl⟩,rfl⟩
  ·simp -implicitDefEqProofs only [go_sem]
   repeat (with_reducible apply And.intro; case left=>omega)
   refine finM' [some 0,some 0] ?_ rfl rfl
   simp -implicitDefEqProofs only [go_sem]
   rw [e,hno]
   exact ⟨⟨rfl,rfl⟩,rfl⟩
 ·have e:=formC_not (atoms:=atoms) (c:=c) k2 hl1
  have h0:0 < t.kids.length:=by omega
  have hk0:=List.getElem_mem h0
  have hs0:=formShapes_mem hk.2.2 _ hk0
  have hi0:=inside_kids hin (by omega) _ hk0
  have c0:=ih t.kids[0] hk0 d c hs0 hi0 hmm (by omega) (by omega)
  have g0:=formC_grow t.kids[0] d atoms c hs0
  have m0:=formMany_le t.kids[0] d hs0
  have q0:=formC_mark t.kids[0] d atoms c hs0 hi0 hmm (by omega)
  have n1:¬ t.kind = 1:=by omega
  have kk:=eq_true k2
  have hLB:=LB_eq
  refine C_goS (nt:=97) (rs:=[.cell 6 29,.tmp 7]) hm Tryz.func27 rfl rfl rfl rfl rfl (fun hl he=>?_)
  simp -implicitDefEqProofs only [go_sem] at hl ⊢
  simp -implicitDefEqProofs only [go_sem,n1,h0]
  refine atOwn [] [0,4] c0 ?_ ?_ <;> simp -implicitDefEqProofs only [go_sem]
  with_reducible refine ind_andM (by kernel_rfl) ?_
  simp -implicitDefEqProofs only [go_sem,kk]
  repeat (with_reducible apply And.intro; case left=>omega)
  refine finM' [some 0,some 4] ?_ rfl rfl
  simp -implicitDefEqProofs only [go_sem]
  rw [e]
  exact ⟨⟨rfl,rfl⟩,rfl⟩
 ·have n1:¬ t.kind = 1:=by omega
  have n2:¬ t.kind = 2:=by omega
  have e:=formC_two (atoms:=atoms) (c:=c) n1 n2 hl2
  have h0:0 < t.kids.length:=by omega
  have h1:1 < t.kids.length:=by omega
  have hk0:=List.getElem_mem h0
  have hs0:=formShapes_mem hk.2.2 _ hk0
  have hi0:=inside_kids hin (by omega) _ hk0
  have c0:=ih t.kids[0] hk0 d c hs0 hi0 hmm (by omega) (by omega)
  have g0:=formC_grow t.kids[0] d atoms c hs0
  have m0:=formMany_le t.kids[0] d hs0
  have q0:=formC_mark t.kids[0] d atoms c hs0 hi0 hmm (by omega)
  generalize hc1:formC atoms t.kids[0] c = r1 at *
  have hk1:=List.getElem_mem h1
  have hs1:=formShapes_mem hk.2.2 _ hk1
  have hi1:=inside_kids hin (by omega) _ hk1
  have c1:=ih t.kids[1] hk1 d r1.1 hs1 hi1 (by omega) (by omega) (by omega)
  have g1:=formC_grow t.kids[1] d atoms r1.1 hs1
  have m1:=formMany_le t.kids[1] d hs1
  have q1:=formC_mark t.kids[1] d atoms r1.1 hs1 hi1 (by omega) (by omega)
  generalize hc2:formC atoms t.kids[1] r1.1 = r2 at *
  rw [e]
  rcases k3 with kx | kx | kx | kx
  ·have en:nodeC t.kind ⟨r2.1.many + 1,r2.1.list⟩ (r2.1.many + 1) r1.2 r2.2 = orC ⟨r2.1.many + 1,r2.1.list⟩ (-(r2.1.many + 1)) (-r1.2) (-r2.2):=by rw [nodeC,if_pos kx]
   have cc:=c_spec_l10Or ⟨r2.1.many + 1,r2.1.list⟩ (-(r2.1.many + 1)) (-r1.2) (-r2.2) (by omega) (by omega) (by omega) (by simp only; omega)
   rw [← en] at cc
   have kk:=eq_true kx
   have hLB:=LB_eq
   refine C_goS (nt:=97) (rs:=[.cell 6 29,.tmp 7]) hm Tryz.func27 rfl rfl rfl rfl rfl (fun hl he=>?_)
   simp -implicitDefEqProofs only [go_sem] at hl ⊢
   simp -implicitDefEqProofs only [go_sem,n1,h0]
   refine atOwn [] [0,4] c0 ?_ ?_ <;> simp -implicitDefEqProofs only [go_sem]
   with_reducible refine ind_andM (by kernel_rfl) ?_
   simp -implicitDefEqProofs only [go_sem,Z3,Z4,n2,h1]
   refine atOwn [] [4,5] c1 ?_ ?_ <;> simp -implicitDefEqProofs only [go_sem]
   with_reducible refine ind_andM (by kernel_rfl) ?_
   repeat (with_reducible apply And.intro; case left=>omega)
   simp -implicitDefEqProofs only [go_sem,kk]
   repeat (with_reducible apply And.intro; case left=>omega)
   refine atOwn [] [5,6] cc ?_ ?_ <;> simp -implicitDefEqProofs only [go_sem]
   refine finM' [some 0,some 6] ?_ rfl rfl
   simp -implicitDefEqProofs only [go_sem]
  ·have n3:¬ t.kind = 3:=by omega
   have en:nodeC t.kind ⟨r2.1.many + 1,r2.1.list⟩ (r2.1.many + 1) r1.2 r2.2 = orC ⟨r2.1.many + 1,r2.1.list⟩ (r2.1.many + 1) r1.2 r2.2:=by rw [nodeC,if_neg n3,if_pos kx]
   have cc:=c_spec_l10Or ⟨r2.1.many + 1,r2.1.list⟩ (r2.1.many + 1) r1.2 r2.2 (by omega) (by omega) (by omega) (by simp only; omega)
   rw [← en] at cc
   have kk:=eq_true kx
   have hLB:=LB_eq
   refine C_goS (nt:=97) (rs:=[.cell 6 29,.tmp 7]) hm Tryz.func27 rfl rfl rfl rfl rfl (fun hl he=>?_)
   simp -implicitDefEqProofs only [go_sem] at hl ⊢
   simp -implicitDefEqProofs only [go_sem,n1,h0]
   refine atOwn [] [0,4] c0 ?_ ?_ <;> simp -implicitDefEqProofs only [go_sem]
   with_reducible refine ind_andM (by kernel_rfl) ?_
   simp -implicitDefEqProofs only [go_sem,Z3,Z4,n2,h1]
   refine atOwn [] [4,5] c1 ?_ ?_ <;> simp -implicitDefEqProofs only [go_sem]
   with_reducible refine ind_andM (by kernel_rfl) ?_
   repeat (with_reducible apply And.intro; case left=>omega)
   simp -implicitDefEqProofs only [go_sem,n3,kk]
   refine atOwn [] [5,6] cc ?_ ?_ <;> simp -implicitDefEqProofs only [go_sem]
   refine finM' [some 0,some 6] ?_ rfl rfl
   simp -implicitDefEqProofs only [go_sem]
  ·have n3:¬ t.kind = 3:=by omega
   have n4:¬ t.kind = 4:=by omega
   have en:nodeC t.kind ⟨r2.1.many + 1,r2.1.list⟩ (r2.1.many + 1) r1.2 r2.2 = orC ⟨r2.1.many + 1,r2.1.list⟩ (r2.1.many + 1) (-r1.2) r2.2:=by rw [nodeC,if_neg n3,if_neg n4,if_pos kx]
   have cc:=c_spec_l10Or ⟨r2.1.many + 1,r2.1.list⟩ (r2.1.many + 1) (-r1.2) r2.2 (by omega) (by omega) (by omega) (by simp only; omega)
   rw [← en] at cc
   have kk:=eq_true kx
   have hLB:=LB_eq
   refine C_goS (nt:=97) (rs:=[.cell 6 29,.tmp 7]) hm Tryz.func27 rfl rfl rfl rfl rfl (fun hl he=>?_)
   simp -implicitDefEqProofs only [go_sem] at hl ⊢
   simp -implicitDefEqProofs only [go_sem,n1,h0]
   refine atOwn [] [0,4] c0 ?_ ?_ <;> simp -implicitDefEqProofs only [go_sem]
   with_reducible refine ind_andM (by kernel_rfl) ?_
   simp -implicitDefEqProofs only [go_sem,Z3,Z4,n2,h1]
   refine atOwn [] [4,5] c1 ?_ ?_ <;> simp -implicitDefEqProofs only [go_sem]
   with_reducible refine ind_andM (by kernel_rfl) ?_
   repeat (with_reducible apply And.intro; case left=>omega)
   simp -implicitDefEqProofs only [go_sem,n3,n4,kk]
   repeat (with_reducible apply And.intro; case left=>omega)
   refine atOwn [] [5,6] cc ?_ ?_ <;> simp -implicitDefEqProofs only [go_sem]
   refine finM' [some 0,some 6] ?_ rfl rfl
   simp -implicitDefEqProofs only [go_sem]
  ·have n3:¬ t.kind = 3:=by omega
   have n4:¬ t.kind = 4:=by omega
   have n5:¬ t.kind = 5:=by omega
   have en:nodeC t.kind ⟨r2.1.many + 1,r2.1.list⟩ (r2.1.many + 1) r1.2 r2.2 = iffC ⟨r2.1.many + 1,r2.1.list⟩ (r2.1.many + 1) r1.2 r2.2:=by rw [nodeC,if_neg n3,if_neg n4,if_neg n5]
   have cc:=c_spec_l10Iff ⟨r2.1.many + 1,r2.1.list⟩ (r2.1.many + 1) r1.2 r2.2 (by omega) (by omega) (by omega) (by simp only; omega)
   rw [← en] at cc
   have hLB:=LB_eq
   refine C_goS (nt:=97) (rs:=[.cell 6 29,.tmp 7]) hm Tryz.func27 rfl rfl rfl rfl rfl (fun hl he=>?_)
   simp -implicitDefEqProofs only [go_sem] at hl ⊢
   simp -implicitDefEqProofs only [go_sem,n1,h0]
   refine atOwn [] [0,4] c0 ?_ ?_ <;> simp -implicitDefEqProofs only [go_sem]
   with_reducible refine ind_andM (by kernel_rfl) ?_
   simp -implicitDefEqProofs only [go_sem,Z3,Z4,n2,h1]
   refine atOwn [] [4,5] c1 ?_ ?_ <;> simp -implicitDefEqProofs only [go_sem]
   with_reducible refine ind_andM (by kernel_rfl) ?_
   repeat (with_reducible apply And.intro; case left=>omega)
   simp -implicitDefEqProofs only [go_sem,n3,n4,n5]
   refine atOwn [] [5,6] cc ?_ ?_ <;> simp -implicitDefEqProofs only [go_sem]
   refine finM' [some 0,some 6] ?_ rfl rfl
   simp -implicitDefEqProofs only [go_sem]
theorem c_spec_l10Form (atoms:List Atom) (hat:atoms.length ≤ 1000):∀ (t:Mod.Form) (d:Nat) (c:Mod.Cnf),formShape t d = true → inside atoms t → (atoms.length:Int) ≤ c.many → c.many + 2 ^ d ≤ 10000 → c.list.length + 4 * 2 ^ d ≤ 80000 → C E.P 27 [.agg [iv c.many,.acc 0],lv (rowsAtom atoms),av (cForm t)] [some (.acc 43 (rowsII c.list))] (Eq2 (.tup [.agg [iv (formC atoms t c).1.many,.acc 1],iv (formC atoms t c).2]) [some .dead,some (.acc 43 (rowsII (formC atoms t c).1.list))]):=
 Form.ind fun k x ks ih d c h1 h2 h3 h4 h5=>c_spec_l10Form1 atoms hat (.mk k x ks) ih d c h1 h2 h3 h4 h5
end Go.Proofs.YtkkbmikoifnnbaaGreat
