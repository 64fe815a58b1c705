/-
  The program: the walks of clause form. A step towards the exact laws. The program: the walks of papers' clauses, and of logs. A step towards the exact laws.
-/
import Derived.Test.YtpidddienjoleaaGreatKAl
import Derived.Test.YtpidddienjoleaaGreatKAEa
import Derived.Shelf.Spec.SlicesGrow
import Derived.Test.YtpidddienjoleaaGreatKAF
import Derived.Test.YtpidddienjoleaaGreatKAD
set_option linter.unusedVariables false
set_option linter.unusedSimpArgs false
namespace Go.Proofs.YtpidddienjoleaaGreat
open Go.Eng Go.Mod
open Int renaming reduceEq → Z1,reduceLT → Z2,reduceLE → Z3,reduceToNat → Z4
set_option maxRecDepth 100000
set_option maxHeartbeats 400000
theorem rowsII_appI (a b:List (List Int)):rowsII a ++ rowsII b = rowsII (a ++ b):=by simp [rowsII]
theorem addC_noneI {c:Mod.Cnf} {l:List Int} (h:clauseOf l = none):addC c l = c:=by unfold addC; rw [h]
theorem addC_someI {c:Mod.Cnf} {l o:List Int} (h:clauseOf l = some o):addC c l = ⟨c.many,c.list ++ [o]⟩:=by unfold addC; rw [h]
theorem c_impl_add (c:Mod.Cnf) (atoms:List Atom) (fs:List Mod.Form) (l:List Int) (hne:l ≠ []) (hl9:l.length ≤ 12) (hb9:∀ x ∈ l,-1000000 ≤ x ∧ x ≤ 1000000) (hc9:c.list.length ≤ 100000) :
 C E.P 200 [.ptr 0 0,lv (rowsI l)] [some (.box [iv c.many,.acc 1,lv (rowsAtom atoms),.acc 2]),some (.acc 39 (rowsII c.list)),some (.acc 112 (rowsForm fs))] (Eq2 (.tup []) [some (.box [iv (addC c l).many,.acc 3,lv (rowsAtom atoms),.acc 2]),some .dead,some (.acc 112 (rowsForm fs)),some (.acc 39 (rowsII (addC c l).list))]):=by
 have hLB:=LB_eq
 refine C_goS (nt:=24) (rs:=[]) hm Tryz.func200 rfl rfl rfl rfl rfl (fun hl he=>?_)
 simp -implicitDefEqProofs only [go_sem] at hl ⊢
 refine atCall [] (c_impl_ClauseOf l hne hl9 hb9) ?_ ?_ <;> simp -implicitDefEqProofs only [go_sem]
 cases h:clauseOf l with
 | none=>
   have e:=addC_noneI (c:=c) h
   simp -implicitDefEqProofs only [go_sem,Option.isSome_none,Option.getD_none]
   refine finM' [some 0,some 1,some 2,some 1] ?_ rfl rfl
   simp -implicitDefEqProofs only [go_sem]
   rw [e]
   exact ⟨rfl,rfl⟩
 | some o=>
   have e:=addC_someI (c:=c) h
   simp -implicitDefEqProofs only [go_sem,Option.isSome_some,Option.getD_some]
   repeat (with_reducible apply And.intro; case left=>omega)
   refine finM' [some 0,some 1,some 2,some 3] ?_ rfl rfl
   simp -implicitDefEqProofs only [go_sem]
   rw [e]
   exact ⟨rfl,rowsII_appI c.list [o]⟩
theorem rowsForm_put (fs:List Mod.Form) (t:Mod.Form) (z:List D) (r:List D) (hr:r = cForm t):(rowsForm fs ++ [z]).set fs.length r = rowsForm (fs ++ [t]):=by
 rw [← rowsForm_app,List.set_append_right _ _ (by rw [rowsForm_len]; exact Nat.le_refl _),rowsForm_len,Nat.sub_self,hr,rowsForm_cons,rowsForm_nil]
 rfl
theorem rowsForm_fill (gs:List Mod.Form) (t:Mod.Form):(rowsForm gs ++ [[D.val (Value.int .i64 0),D.val (Value.int .i64 0),D.str [],D.lst [],D.str [],D.lst [],D.lst [],D.lst [],D.val (Value.int .i64 0),D.val (Value.bool false),D.val (Value.bool false),D.lst []]]).set gs.length (spl (row (rowsForm gs ++ [[D.val (Value.int .i64 0),D.val (Value.int .i64 0),D.str [],D.lst [],D.str [],D.lst [],D.lst [],D.lst [],D.val (Value.int .i64 0),D.val (Value.bool false),D.val (Value.bool false),D.lst []]]) gs.length) 0 [D.val (Value.int .i64 t.kind),D.val (Value.int .i64 t.lit.atom.kind),D.str t.lit.atom.A.name,D.lst (rowsT t.lit.atom.A.kids),D.str t.lit.atom.B.name,D.lst (rowsT t.lit.atom.B.kids),D.lst (rowsT t.lit.atom.nums),D.lst (rowsI t.lit.atom.times),D.val (Value.int .i64 t.lit.atom.bound),D.val (Value.bool t.lit.atom.strict),D.val (Value.bool t.lit.no),D.lst (rowsForm t.kids)]) = rowsForm (gs ++ [t]):=by
 have e:row (rowsForm gs ++ [[D.val (Value.int .i64 0),D.val (Value.int .i64 0),D.str [],D.lst [],D.str [],D.lst [],D.lst [],D.lst [],D.val (Value.int .i64 0),D.val (Value.bool false),D.val (Value.bool false),D.lst []]]) gs.length = [D.val (Value.int .i64 0),D.val (Value.int .i64 0),D.str [],D.lst [],D.str [],D.lst [],D.lst [],D.lst [],D.val (Value.int .i64 0),D.val (Value.bool false),D.val (Value.bool false),D.lst []]:=by
  unfold row
  rw [List.getD,List.getElem?_append_right (by rw [rowsForm_len]; exact Nat.le_refl _),rowsForm_len,Nat.sub_self]
  rfl
 rw [e]
 exact rowsForm_put gs t _ _ (by cases t; rfl)
theorem c_impl_literal1 (atoms:List Atom) (hat:atoms.length ≤ 1000) (t:Mod.Form) (ih:∀ k ∈ t.kids,∀ (d:Nat) (c:Mod.Cnf) (fs:List Mod.Form),formShape k d = true → inside atoms k → (atoms.length:Int) ≤ c.many → c.many + 2 ^ d ≤ 10000 → c.list.length + 4 * 2 ^ d ≤ 80000 → fs.length + 2 ^ d ≤ 80000 → C E.P 236 [.ptr 0 0,av (cForm k)] [some (.box [iv c.many,.acc 1,lv (rowsAtom atoms),.acc 2]),some (.acc 39 (rowsII c.list)),some (.acc 112 (rowsForm fs))] (Eq2 (iv (formC atoms k c).2) [some (.box [iv (formC atoms k c).1.many,.acc 3,lv (rowsAtom atoms),.acc 4]),some .dead,some .dead,some (.acc 39 (rowsII (formC atoms k c).1.list)),some (.acc 112 (rowsForm (fs ++ nodesF k)))]))
 (d:Nat) (c:Mod.Cnf) (fs:List Mod.Form) (hsh:formShape t d = true) (hin:inside atoms t) (hmm:(atoms.length:Int) ≤ c.many) (hb1:c.many + 2 ^ d ≤ 10000) (hb2:c.list.length + 4 * 2 ^ d ≤ 80000) (hb3:fs.length + 2 ^ d ≤ 80000) :
 C E.P 236 [.ptr 0 0,av (cForm t)] [some (.box [iv c.many,.acc 1,lv (rowsAtom atoms),.acc 2]),some (.acc 39 (rowsII c.list)),some (.acc 112 (rowsForm fs))] (Eq2 (iv (formC atoms t c).2) [some (.box [iv (formC atoms t c).1.many,.acc 3,lv (rowsAtom atoms),.acc 4]),some .dead,some .dead,some (.acc 39 (rowsII (formC atoms t c).1.list)),some (.acc 112 (rowsForm (fs ++ nodesF t)))]):=by
 cases d with
 | zero=>cases t; simp [formShape] at hsh
 | succ d=>
 have hk:=formShape_kids hsh
 have hp1:(1:Nat) ≤ 2 ^ d:=Nat.one_le_two_pow
 have hp2:(2:Nat) ^ (d + 1) = 2 * 2 ^ d:=by rw [Nat.pow_succ]; omega
 have hp3:(2:Int) ^ (d + 1) = 2 * ((2 ^ d:Nat):Int):=by rw [Int.pow_succ,Int.mul_comm]; simp
 have hp4:(2:Int) ^ d = ((2 ^ d:Nat):Int):=by simp
 rw [hp2] at hb2 hb3
 rw [hp3] at hb1
 rcases formHead_arms hk.1 with ⟨k1,hl0⟩ | ⟨k2,hl1⟩ | ⟨k3,hl2⟩
 ·have e:=formC_lit (atoms:=atoms) (c:=c) k1
  have en:=nodesF_lit k1
  have hmem:=inside_lit hin k1
  have b1:=atomIdx_nn.2 hmem
  have b2:=atomIdx_lt hmem
  have kk:=eq_true k1
  have hLB:=LB_eq
  refine C_goS (nt:=166) (rs:=[.tmp 4]) hm Tryz.func236 rfl rfl rfl rfl rfl (fun hl he=>?_)
  simp -implicitDefEqProofs only [go_sem] at hl ⊢
  simp -implicitDefEqProofs only [go_sem,kk]
  refine atCall [] (c_impl_atomIndex atoms t.lit.atom) ?_ ?_ <;> simp -implicitDefEqProofs only [go_sem]
  repeat (first | with_reducible refine ind_andM (by kernel_rfl) ?_ | (with_reducible apply And.intro; case left=>omega))
  cases hno:t.lit.no
  ·simp -implicitDefEqProofs only [go_sem]
   refine finM' [some 0,some 1,some 2,some 1,some 2] ?_ rfl rfl
   simp -implicitDefEqProofs only [go_sem]
   rw [e,en,hno,List.append_nil]
   exact ⟨rfl,rfl,rfl,rfl⟩
  ·simp -implicitDefEqProofs only [go_sem]
   repeat (with_reducible apply And.intro; case left=>omega)
   refine finM' [some 0,some 1,some 2,some 1,some 2] ?_ rfl rfl
   simp -implicitDefEqProofs only [go_sem]
   rw [e,en,hno,List.append_nil]
   exact ⟨rfl,rfl,rfl,rfl⟩
 ·have e:=formC_not (atoms:=atoms) (c:=c) k2 hl1
  have en:=nodesF_not k2 hl1
  have h0:0 < t.kids.length:=by omega
  have hk0:=List.getElem_mem h0
  have hs0:=formShapes_mem hk.2.2 _ hk0
  have hi0:=inside_kids hin (by omega) _ hk0
  have c0:=ih t.kids[0] hk0 d c fs hs0 hi0 hmm (by omega) (by omega) (by omega)
  have g0:=formC_grow t.kids[0] d atoms c hs0
  have m0:=formMany_le t.kids[0] d hs0
  have q0:=formC_mark t.kids[0] d atoms c hs0 hi0 hmm (by omega)
  have n1:¬ t.kind = 1:=by omega
  have kk:=eq_true k2
  have hLB:=LB_eq
  refine C_goS (nt:=166) (rs:=[.tmp 4]) hm Tryz.func236 rfl rfl rfl rfl rfl (fun hl he=>?_)
  simp -implicitDefEqProofs only [go_sem] at hl ⊢
  simp -implicitDefEqProofs only [go_sem,n1,h0]
  refine atOwn [] [0,1,2,4,5] c0 ?_ ?_
  ·simp -implicitDefEqProofs only [go_sem]
   first | rfl | ((repeat' apply And.intro) <;> rfl)
  simp -implicitDefEqProofs only [go_sem]
  simp -implicitDefEqProofs only [go_sem,kk]
  repeat (with_reducible apply And.intro; case left=>omega)
  refine finM' [some 0,some 1,some 2,some 4,some 5] ?_ rfl rfl
  simp -implicitDefEqProofs only [go_sem]
  rw [e,en]
  exact ⟨rfl,rfl,rfl,rfl⟩
 ·have n1:¬ t.kind = 1:=by omega
  have n2:¬ t.kind = 2:=by omega
  have e:=formC_two (atoms:=atoms) (c:=c) n1 n2 hl2
  have en:=nodesF_two n1 n2 hl2
  have h0:0 < t.kids.length:=by omega
  have h1:1 < t.kids.length:=by omega
  have hk0:=List.getElem_mem h0
  have hs0:=formShapes_mem hk.2.2 _ hk0
  have hi0:=inside_kids hin (by omega) _ hk0
  have c0:=ih t.kids[0] hk0 d c fs hs0 hi0 hmm (by omega) (by omega) (by omega)
  have g0:=formC_grow t.kids[0] d atoms c hs0
  have m0:=formMany_le t.kids[0] d hs0
  have f0:=nodesF_len t.kids[0] d hs0
  have q0:=formC_mark t.kids[0] d atoms c hs0 hi0 hmm (by omega)
  generalize hc1:formC atoms t.kids[0] c = r1 at *
  have hk1:=List.getElem_mem h1
  have hs1:=formShapes_mem hk.2.2 _ hk1
  have hi1:=inside_kids hin (by omega) _ hk1
  have c1:=ih t.kids[1] hk1 d r1.1 (fs ++ nodesF t.kids[0]) hs1 hi1 (by omega) (by omega) (by omega) (by rw [List.length_append]; omega)
  have g1:=formC_grow t.kids[1] d atoms r1.1 hs1
  have m1:=formMany_le t.kids[1] d hs1
  have f1:=nodesF_len t.kids[1] d hs1
  have q1:=formC_mark t.kids[1] d atoms r1.1 hs1 hi1 (by omega) (by omega)
  generalize hc2:formC atoms t.kids[1] r1.1 = r2 at *
  have ha:fs ++ (nodesF t.kids[0] ++ nodesF t.kids[1] ++ [t]) = fs ++ nodesF t.kids[0] ++ nodesF t.kids[1] ++ [t]:=by simp
  rw [e,en,ha]
  generalize hfs:fs ++ nodesF t.kids[0] ++ nodesF t.kids[1] = gs at *
  have hgl:gs.length ≤ 80000:=by rw [← hfs,List.length_append,List.length_append]; omega
  rcases k3 with kx | kx | kx | kx
  ·have z:((⟨r2.1.many + 1,r2.1.list⟩:Mod.Cnf)).list.length ≤ 80000:=by simp only; omega
   have z0:=addC_len ((⟨r2.1.many + 1,r2.1.list⟩:Mod.Cnf)) [-(r2.1.many + 1),r1.2]
   have u0:=c_impl_add ((⟨r2.1.many + 1,r2.1.list⟩:Mod.Cnf)) atoms (gs ++ [t]) [-(r2.1.many + 1),r1.2] (by simp) (by simp) (by simp; omega) (by omega)
   simp only [rowsI_cons,rowsI_nil] at u0
   have z1:=addC_len (addC ((⟨r2.1.many + 1,r2.1.list⟩:Mod.Cnf)) [-(r2.1.many + 1),r1.2]) [-(r2.1.many + 1),r2.2]
   have u1:=c_impl_add (addC ((⟨r2.1.many + 1,r2.1.list⟩:Mod.Cnf)) [-(r2.1.many + 1),r1.2]) atoms (gs ++ [t]) [-(r2.1.many + 1),r2.2] (by simp) (by simp) (by simp; omega) (by omega)
   simp only [rowsI_cons,rowsI_nil] at u1
   have z2:=addC_len (addC (addC ((⟨r2.1.many + 1,r2.1.list⟩:Mod.Cnf)) [-(r2.1.many + 1),r1.2]) [-(r2.1.many + 1),r2.2]) [(r2.1.many + 1),-r1.2,-r2.2]
   have u2:=c_impl_add (addC (addC ((⟨r2.1.many + 1,r2.1.list⟩:Mod.Cnf)) [-(r2.1.many + 1),r1.2]) [-(r2.1.many + 1),r2.2]) atoms (gs ++ [t]) [(r2.1.many + 1),-r1.2,-r2.2] (by simp) (by simp) (by simp; omega) (by omega)
   simp only [rowsI_cons,rowsI_nil] at u2
   have en:nodeC t.kind ⟨r2.1.many + 1,r2.1.list⟩ (r2.1.many + 1) r1.2 r2.2 = addC (addC (addC ((⟨r2.1.many + 1,r2.1.list⟩:Mod.Cnf)) [-(r2.1.many + 1),r1.2]) [-(r2.1.many + 1),r2.2]) [(r2.1.many + 1),-r1.2,-r2.2]:=by rw [nodeC,if_pos kx]; simp only [orC,Int.neg_neg]
   rw [en]
   have kk:=eq_true kx
   have hLB:=LB_eq
   refine C_goS (nt:=166) (rs:=[.tmp 4]) hm Tryz.func236 rfl rfl rfl rfl rfl (fun hl he=>?_)
   simp -implicitDefEqProofs only [go_sem] at hl ⊢
   simp -implicitDefEqProofs only [go_sem,n1,h0]
   refine atOwn [] [0,1,2,4,5] c0 ?_ ?_
   ·simp -implicitDefEqProofs only [go_sem]
    first | rfl | ((repeat' apply And.intro) <;> rfl)
   simp -implicitDefEqProofs only [go_sem]
   simp -implicitDefEqProofs only [go_sem,Z3,Z4,n2,h1]
   refine atOwn [] [0,4,5,6,7] c1 ?_ ?_
   ·simp -implicitDefEqProofs only [go_sem]
    first | rfl | ((repeat' apply And.intro) <;> rfl)
   simp -implicitDefEqProofs only [go_sem]
   repeat (with_reducible apply And.intro; case left=>omega)
   refine And.intro (by rw [List.length_append,rowsForm_len]; simp) ?_
   refine And.intro (by rw [List.length_append,rowsForm_len]; simp) ?_
   with_reducible refine ind_andM (by kernel_rfl) ?_
   rw [rowsForm_fill gs t]
   simp -implicitDefEqProofs only [go_sem,kk]
   repeat (with_reducible apply And.intro; case left=>omega)
   refine atOwn [] [0,6,8,9] u0 ?_ ?_
   ·simp -implicitDefEqProofs only [go_sem]
    first | rfl | ((repeat' apply And.intro) <;> rfl)
   simp -implicitDefEqProofs only [go_sem]
   repeat (with_reducible apply And.intro; case left=>omega)
   refine atOwn [] [0,9,8,10] u1 ?_ ?_
   ·simp -implicitDefEqProofs only [go_sem]
    first | rfl | ((repeat' apply And.intro) <;> rfl)
   simp -implicitDefEqProofs only [go_sem]
   repeat (with_reducible apply And.intro; case left=>omega)
   refine atOwn [] [0,10,8,11] u2 ?_ ?_
   ·simp -implicitDefEqProofs only [go_sem]
    first | rfl | ((repeat' apply And.intro) <;> rfl)
   simp -implicitDefEqProofs only [go_sem]
   refine finM' [some 0,some 1,some 2,some 11,some 8] ?_ rfl rfl
   simp -implicitDefEqProofs only [go_sem]
  ·have n3:¬ t.kind = 3:=by omega
   have z:((⟨r2.1.many + 1,r2.1.list⟩:Mod.Cnf)).list.length ≤ 80000:=by simp only; omega
   have z0:=addC_len ((⟨r2.1.many + 1,r2.1.list⟩:Mod.Cnf)) [(r2.1.many + 1),-r1.2]
   have u0:=c_impl_add ((⟨r2.1.many + 1,r2.1.list⟩:Mod.Cnf)) atoms (gs ++ [t]) [(r2.1.many + 1),-r1.2] (by simp) (by simp) (by simp; omega) (by omega)
   simp only [rowsI_cons,rowsI_nil] at u0
   have z1:=addC_len (addC ((⟨r2.1.many + 1,r2.1.list⟩:Mod.Cnf)) [(r2.1.many + 1),-r1.2]) [(r2.1.many + 1),-r2.2]
   have u1:=c_impl_add (addC ((⟨r2.1.many + 1,r2.1.list⟩:Mod.Cnf)) [(r2.1.many + 1),-r1.2]) atoms (gs ++ [t]) [(r2.1.many + 1),-r2.2] (by simp) (by simp) (by simp; omega) (by omega)
   simp only [rowsI_cons,rowsI_nil] at u1
   have z2:=addC_len (addC (addC ((⟨r2.1.many + 1,r2.1.list⟩:Mod.Cnf)) [(r2.1.many + 1),-r1.2]) [(r2.1.many + 1),-r2.2]) [-(r2.1.many + 1),r1.2,r2.2]
   have u2:=c_impl_add (addC (addC ((⟨r2.1.many + 1,r2.1.list⟩:Mod.Cnf)) [(r2.1.many + 1),-r1.2]) [(r2.1.many + 1),-r2.2]) atoms (gs ++ [t]) [-(r2.1.many + 1),r1.2,r2.2] (by simp) (by simp) (by simp; omega) (by omega)
   simp only [rowsI_cons,rowsI_nil] at u2
   have en:nodeC t.kind ⟨r2.1.many + 1,r2.1.list⟩ (r2.1.many + 1) r1.2 r2.2 = addC (addC (addC ((⟨r2.1.many + 1,r2.1.list⟩:Mod.Cnf)) [(r2.1.many + 1),-r1.2]) [(r2.1.many + 1),-r2.2]) [-(r2.1.many + 1),r1.2,r2.2]:=by rw [nodeC,if_neg n3,if_pos kx]; simp only [orC]
   rw [en]
   have kk:=eq_true kx
   have hLB:=LB_eq
   refine C_goS (nt:=166) (rs:=[.tmp 4]) hm Tryz.func236 rfl rfl rfl rfl rfl (fun hl he=>?_)
   simp -implicitDefEqProofs only [go_sem] at hl ⊢
   simp -implicitDefEqProofs only [go_sem,n1,h0]
   refine atOwn [] [0,1,2,4,5] c0 ?_ ?_
   ·simp -implicitDefEqProofs only [go_sem]
    first | rfl | ((repeat' apply And.intro) <;> rfl)
   simp -implicitDefEqProofs only [go_sem]
   simp -implicitDefEqProofs only [go_sem,Z3,Z4,n2,h1]
   refine atOwn [] [0,4,5,6,7] c1 ?_ ?_
   ·simp -implicitDefEqProofs only [go_sem]
    first | rfl | ((repeat' apply And.intro) <;> rfl)
   simp -implicitDefEqProofs only [go_sem]
   repeat (with_reducible apply And.intro; case left=>omega)
   refine And.intro (by rw [List.length_append,rowsForm_len]; simp) ?_
   refine And.intro (by rw [List.length_append,rowsForm_len]; simp) ?_
   with_reducible refine ind_andM (by kernel_rfl) ?_
   rw [rowsForm_fill gs t]
   simp -implicitDefEqProofs only [go_sem,n3,kk]
   repeat (with_reducible apply And.intro; case left=>omega)
   refine atOwn [] [0,6,8,9] u0 ?_ ?_
   ·simp -implicitDefEqProofs only [go_sem]
    first | rfl | ((repeat' apply And.intro) <;> rfl)
   simp -implicitDefEqProofs only [go_sem]
   repeat (with_reducible apply And.intro; case left=>omega)
   refine atOwn [] [0,9,8,10] u1 ?_ ?_
   ·simp -implicitDefEqProofs only [go_sem]
    first | rfl | ((repeat' apply And.intro) <;> rfl)
   simp -implicitDefEqProofs only [go_sem]
   repeat (with_reducible apply And.intro; case left=>omega)
   refine atOwn [] [0,10,8,11] u2 ?_ ?_
   ·simp -implicitDefEqProofs only [go_sem]
    first | rfl | ((repeat' apply And.intro) <;> rfl)
   simp -implicitDefEqProofs only [go_sem]
   refine finM' [some 0,some 1,some 2,some 11,some 8] ?_ rfl rfl
   simp -implicitDefEqProofs only [go_sem]
  ·have n3:¬ t.kind = 3:=by omega
   have n4:¬ t.kind = 4:=by omega
   have z:((⟨r2.1.many + 1,r2.1.list⟩:Mod.Cnf)).list.length ≤ 80000:=by simp only; omega
   have z0:=addC_len ((⟨r2.1.many + 1,r2.1.list⟩:Mod.Cnf)) [(r2.1.many + 1),r1.2]
   have u0:=c_impl_add ((⟨r2.1.many + 1,r2.1.list⟩:Mod.Cnf)) atoms (gs ++ [t]) [(r2.1.many + 1),r1.2] (by simp) (by simp) (by simp; omega) (by omega)
   simp only [rowsI_cons,rowsI_nil] at u0
   have z1:=addC_len (addC ((⟨r2.1.many + 1,r2.1.list⟩:Mod.Cnf)) [(r2.1.many + 1),r1.2]) [(r2.1.many + 1),-r2.2]
   have u1:=c_impl_add (addC ((⟨r2.1.many + 1,r2.1.list⟩:Mod.Cnf)) [(r2.1.many + 1),r1.2]) atoms (gs ++ [t]) [(r2.1.many + 1),-r2.2] (by simp) (by simp) (by simp; omega) (by omega)
   simp only [rowsI_cons,rowsI_nil] at u1
   have z2:=addC_len (addC (addC ((⟨r2.1.many + 1,r2.1.list⟩:Mod.Cnf)) [(r2.1.many + 1),r1.2]) [(r2.1.many + 1),-r2.2]) [-(r2.1.many + 1),-r1.2,r2.2]
   have u2:=c_impl_add (addC (addC ((⟨r2.1.many + 1,r2.1.list⟩:Mod.Cnf)) [(r2.1.many + 1),r1.2]) [(r2.1.many + 1),-r2.2]) atoms (gs ++ [t]) [-(r2.1.many + 1),-r1.2,r2.2] (by simp) (by simp) (by simp; omega) (by omega)
   simp only [rowsI_cons,rowsI_nil] at u2
   have en:nodeC t.kind ⟨r2.1.many + 1,r2.1.list⟩ (r2.1.many + 1) r1.2 r2.2 = addC (addC (addC ((⟨r2.1.many + 1,r2.1.list⟩:Mod.Cnf)) [(r2.1.many + 1),r1.2]) [(r2.1.many + 1),-r2.2]) [-(r2.1.many + 1),-r1.2,r2.2]:=by rw [nodeC,if_neg n3,if_neg n4,if_pos kx]; simp only [orC,Int.neg_neg]
   rw [en]
   have kk:=eq_true kx
   have hLB:=LB_eq
   refine C_goS (nt:=166) (rs:=[.tmp 4]) hm Tryz.func236 rfl rfl rfl rfl rfl (fun hl he=>?_)
   simp -implicitDefEqProofs only [go_sem] at hl ⊢
   simp -implicitDefEqProofs only [go_sem,n1,h0]
   refine atOwn [] [0,1,2,4,5] c0 ?_ ?_
   ·simp -implicitDefEqProofs only [go_sem]
    first | rfl | ((repeat' apply And.intro) <;> rfl)
   simp -implicitDefEqProofs only [go_sem]
   simp -implicitDefEqProofs only [go_sem,Z3,Z4,n2,h1]
   refine atOwn [] [0,4,5,6,7] c1 ?_ ?_
   ·simp -implicitDefEqProofs only [go_sem]
    first | rfl | ((repeat' apply And.intro) <;> rfl)
   simp -implicitDefEqProofs only [go_sem]
   repeat (with_reducible apply And.intro; case left=>omega)
   refine And.intro (by rw [List.length_append,rowsForm_len]; simp) ?_
   refine And.intro (by rw [List.length_append,rowsForm_len]; simp) ?_
   with_reducible refine ind_andM (by kernel_rfl) ?_
   rw [rowsForm_fill gs t]
   simp -implicitDefEqProofs only [go_sem,n3,n4,kk]
   refine atOwn [] [0,6,8,9] u0 ?_ ?_
   ·simp -implicitDefEqProofs only [go_sem]
    first | rfl | ((repeat' apply And.intro) <;> rfl)
   simp -implicitDefEqProofs only [go_sem]
   repeat (with_reducible apply And.intro; case left=>omega)
   refine atOwn [] [0,9,8,10] u1 ?_ ?_
   ·simp -implicitDefEqProofs only [go_sem]
    first | rfl | ((repeat' apply And.intro) <;> rfl)
   simp -implicitDefEqProofs only [go_sem]
   repeat (with_reducible apply And.intro; case left=>omega)
   refine atOwn [] [0,10,8,11] u2 ?_ ?_
   ·simp -implicitDefEqProofs only [go_sem]
    first | rfl | ((repeat' apply And.intro) <;> rfl)
   simp -implicitDefEqProofs only [go_sem]
   refine finM' [some 0,some 1,some 2,some 11,some 8] ?_ rfl rfl
   simp -implicitDefEqProofs only [go_sem]
  ·have n3:¬ t.kind = 3:=by omega
   have n4:¬ t.kind = 4:=by omega
   have n5:¬ t.kind = 5:=by omega
   have z:((⟨r2.1.many + 1,r2.1.list⟩:Mod.Cnf)).list.length ≤ 80000:=by simp only; omega
   have z0:=addC_len ((⟨r2.1.many + 1,r2.1.list⟩:Mod.Cnf)) [-(r2.1.many + 1),-r1.2,r2.2]
   have u0:=c_impl_add ((⟨r2.1.many + 1,r2.1.list⟩:Mod.Cnf)) atoms (gs ++ [t]) [-(r2.1.many + 1),-r1.2,r2.2] (by simp) (by simp) (by simp; omega) (by omega)
   simp only [rowsI_cons,rowsI_nil] at u0
   have z1:=addC_len (addC ((⟨r2.1.many + 1,r2.1.list⟩:Mod.Cnf)) [-(r2.1.many + 1),-r1.2,r2.2]) [-(r2.1.many + 1),r1.2,-r2.2]
   have u1:=c_impl_add (addC ((⟨r2.1.many + 1,r2.1.list⟩:Mod.Cnf)) [-(r2.1.many + 1),-r1.2,r2.2]) atoms (gs ++ [t]) [-(r2.1.many + 1),r1.2,-r2.2] (by simp) (by simp) (by simp; omega) (by omega)
   simp only [rowsI_cons,rowsI_nil] at u1
   have z2:=addC_len (addC (addC ((⟨r2.1.many + 1,r2.1.list⟩:Mod.Cnf)) [-(r2.1.many + 1),-r1.2,r2.2]) [-(r2.1.many + 1),r1.2,-r2.2]) [(r2.1.many + 1),r1.2,r2.2]
   have u2:=c_impl_add (addC (addC ((⟨r2.1.many + 1,r2.1.list⟩:Mod.Cnf)) [-(r2.1.many + 1),-r1.2,r2.2]) [-(r2.1.many + 1),r1.2,-r2.2]) atoms (gs ++ [t]) [(r2.1.many + 1),r1.2,r2.2] (by simp) (by simp) (by simp; omega) (by omega)
   simp only [rowsI_cons,rowsI_nil] at u2
   have z3:=addC_len (addC (addC (addC ((⟨r2.1.many + 1,r2.1.list⟩:Mod.Cnf)) [-(r2.1.many + 1),-r1.2,r2.2]) [-(r2.1.many + 1),r1.2,-r2.2]) [(r2.1.many + 1),r1.2,r2.2]) [(r2.1.many + 1),-r1.2,-r2.2]
   have u3:=c_impl_add (addC (addC (addC ((⟨r2.1.many + 1,r2.1.list⟩:Mod.Cnf)) [-(r2.1.many + 1),-r1.2,r2.2]) [-(r2.1.many + 1),r1.2,-r2.2]) [(r2.1.many + 1),r1.2,r2.2]) atoms (gs ++ [t]) [(r2.1.many + 1),-r1.2,-r2.2] (by simp) (by simp) (by simp; omega) (by omega)
   simp only [rowsI_cons,rowsI_nil] at u3
   have en:nodeC t.kind ⟨r2.1.many + 1,r2.1.list⟩ (r2.1.many + 1) r1.2 r2.2 = addC (addC (addC (addC ((⟨r2.1.many + 1,r2.1.list⟩:Mod.Cnf)) [-(r2.1.many + 1),-r1.2,r2.2]) [-(r2.1.many + 1),r1.2,-r2.2]) [(r2.1.many + 1),r1.2,r2.2]) [(r2.1.many + 1),-r1.2,-r2.2]:=by rw [nodeC,if_neg n3,if_neg n4,if_neg n5]; simp only [iffC]
   rw [en]
   have hLB:=LB_eq
   refine C_goS (nt:=166) (rs:=[.tmp 4]) hm Tryz.func236 rfl rfl rfl rfl rfl (fun hl he=>?_)
   simp -implicitDefEqProofs only [go_sem] at hl ⊢
   simp -implicitDefEqProofs only [go_sem,n1,h0]
   refine atOwn [] [0,1,2,4,5] c0 ?_ ?_
   ·simp -implicitDefEqProofs only [go_sem]
    first | rfl | ((repeat' apply And.intro) <;> rfl)
   simp -implicitDefEqProofs only [go_sem]
   simp -implicitDefEqProofs only [go_sem,Z3,Z4,n2,h1]
   refine atOwn [] [0,4,5,6,7] c1 ?_ ?_
   ·simp -implicitDefEqProofs only [go_sem]
    first | rfl | ((repeat' apply And.intro) <;> rfl)
   simp -implicitDefEqProofs only [go_sem]
   repeat (with_reducible apply And.intro; case left=>omega)
   refine And.intro (by rw [List.length_append,rowsForm_len]; simp) ?_
   refine And.intro (by rw [List.length_append,rowsForm_len]; simp) ?_
   with_reducible refine ind_andM (by kernel_rfl) ?_
   rw [rowsForm_fill gs t]
   simp -implicitDefEqProofs only [go_sem,n3,n4,n5]
   repeat (with_reducible apply And.intro; case left=>omega)
   refine atOwn [] [0,6,8,9] u0 ?_ ?_
   ·simp -implicitDefEqProofs only [go_sem]
    first | rfl | ((repeat' apply And.intro) <;> rfl)
   simp -implicitDefEqProofs only [go_sem]
   repeat (with_reducible apply And.intro; case left=>omega)
   refine atOwn [] [0,9,8,10] u1 ?_ ?_
   ·simp -implicitDefEqProofs only [go_sem]
    first | rfl | ((repeat' apply And.intro) <;> rfl)
   simp -implicitDefEqProofs only [go_sem]
   refine atOwn [] [0,10,8,11] u2 ?_ ?_
   ·simp -implicitDefEqProofs only [go_sem]
    first | rfl | ((repeat' apply And.intro) <;> rfl)
   simp -implicitDefEqProofs only [go_sem]
   repeat (with_reducible apply And.intro; case left=>omega)
   refine atOwn [] [0,11,8,12] u3 ?_ ?_
   ·simp -implicitDefEqProofs only [go_sem]
    first | rfl | ((repeat' apply And.intro) <;> rfl)
   simp -implicitDefEqProofs only [go_sem]
   refine finM' [some 0,some 1,some 2,some 12,some 8] ?_ rfl rfl
   simp -implicitDefEqProofs only [go_sem]
end Go.Proofs.YtpidddienjoleaaGreat
namespace Go.Proofs.YtpidddienjoleaaGreat
open Go.Eng Go.Mod
open Int renaming reduceEq → Z1,reduceLT → Z2,reduceLE → Z3,reduceToNat → Z4
set_option maxRecDepth 100000
set_option maxHeartbeats 400000
theorem c_impl_literal (atoms:List Atom) (hat:atoms.length ≤ 1000):∀ (t:Mod.Form) (d:Nat) (c:Mod.Cnf) (fs:List Mod.Form),formShape t d = true → inside atoms t → (atoms.length:Int) ≤ c.many → c.many + 2 ^ d ≤ 10000 → c.list.length + 4 * 2 ^ d ≤ 80000 → fs.length + 2 ^ d ≤ 80000 →
 C E.P 236 [.ptr 0 0,av (cForm t)] [some (.box [iv c.many,.acc 1,lv (rowsAtom atoms),.acc 2]),some (.acc 39 (rowsII c.list)),some (.acc 112 (rowsForm fs))] (Eq2 (iv (formC atoms t c).2) [some (.box [iv (formC atoms t c).1.many,.acc 3,lv (rowsAtom atoms),.acc 4]),some .dead,some .dead,some (.acc 39 (rowsII (formC atoms t c).1.list)),some (.acc 112 (rowsForm (fs ++ nodesF t)))]):=
 Form.ind fun k x ks ih d c fs h1 h2 h3 h4 h5 h6=>c_impl_literal1 atoms hat (.mk k x ks) ih d c fs h1 h2 h3 h4 h5 h6
theorem nodesFs_drop {list:List Mod.Form} {i:Nat} (h:i < list.length):nodesFs (list.drop i) = nodesF list[i] ++ nodesFs (list.drop (i + 1)):=by
 rw [List.drop_eq_getElem_cons h,nodesFs]
theorem c_impl_translated (list:List Mod.Form) (atoms:List Atom) (h:formsAtoms list = some atoms):C E.P 198 [lv (rowsForm list)] [] (Eq2 (.tup [.ptr 0 0,bv true]) [some (.box [iv (cnfOf list).many,.acc 1,lv (rowsAtom atoms),.acc 2]),some (.acc 39 (rowsII (cnfOf list).list)),some (.acc 112 (rowsForm (nodesFs list)))]):=by
 obtain ⟨p1,p2,p3,p4⟩:=formsAtoms_parts h
 have e:=cnfOf_some h
 rw [e]
 have hLB:=LB_eq
 refine C_goS (nt:=36) (rs:=[.tmp 2,.tmp 3]) hm Tryz.func198 rfl rfl rfl rfl rfl (fun hl he=>?_)
 simp -implicitDefEqProofs only [go_sem] at hl ⊢
 have hc:=c_impl_formsAtoms list
 rw [h] at hc
 simp only [Option.getD_some,Option.isSome_some] at hc
 refine atCall [] hc ?_ ?_ <;> simp -implicitDefEqProofs only [go_sem]
 refine loop_go3 hm (fun (i:Nat) (c:Mod.Cnf) (fs:List Mod.Form)=> i ≤ list.length ∧ (atoms.length:Int) ≤ c.many ∧ c.many ≤ 6 + 31 * i ∧ c.list.length ≤ 125 * i ∧ cnfGo atoms list ⟨atoms.length,[]⟩ = cnfGo atoms (list.drop i) c ∧ fs.length ≤ 31 * i ∧ nodesFs list = fs ++ nodesFs (list.drop i)) (fun (i:Nat) (c:Mod.Cnf) (fs:List Mod.Form)=> ⟨mkS 36 .any [(6,.ptr 0 0),(22,lv (rowsForm list)),(23,iv list.length),(24,iv i)],[some (.box [iv c.many,.acc 1,lv (rowsAtom atoms),.acc 2]),some (.acc 39 (rowsII c.list)),some (.acc 112 (rowsForm fs))]⟩) (fun (i:Nat) (c:Mod.Cnf) (fs:List Mod.Form)=> list.length - i) (0) (⟨atoms.length,[]⟩) ([]) ?_ (weakS [some 0,none,none] ?_ ?_ rfl rfl) ?_
 rotate_left
 ·simp -implicitDefEqProofs only [go_sem]
 ·simp -implicitDefEqProofs only [go_sem]
 rotate_left
 ·exact ⟨by omega,by simp only; omega,by simp only; omega,by simp,rfl,by simp,rfl⟩
 ·rintro i c fs ⟨hi,b1,b2,b3,hg,b4,hn⟩
  rcases Classical.em (i < list.length) with h1 | h1
  ·obtain ⟨q0,q1,q2,q3,q4,q5,q6,q7,q8⟩:=form_step h h1 b1 b2 b3
   have q9:=nodesF_len list[i] 5 q3
   have q10:=formMany_le list[i] 5 q3
   rw [cnfGo_drop h1] at hg
   rw [nodesFs_drop h1,← List.append_assoc] at hn
   have cf:=c_impl_literal atoms (by omega) list[i] 5 c fs q3 q4 b1 (by omega) (by omega) (by omega)
   have ca:=c_impl_add (formC atoms list[i] c).1 atoms (fs ++ nodesF list[i]) [(formC atoms list[i] c).2] (by simp) (by simp) (by simp; omega) (by omega)
   simp only [rowsI_cons,rowsI_nil] at ca
   simp -implicitDefEqProofs only [go_sem,h1]
   refine atOwn [] [0,1,2,4,5] cf ?_ ?_
   ·simp -implicitDefEqProofs only [go_sem]
    first | rfl | ((repeat' apply And.intro) <;> rfl)
   simp -implicitDefEqProofs only [go_sem]
   refine atOwn [] [0,4,5,6] ca ?_ ?_
   ·simp -implicitDefEqProofs only [go_sem]
    first | rfl | ((repeat' apply And.intro) <;> rfl)
   simp -implicitDefEqProofs only [go_sem]
   repeat (with_reducible apply And.intro; case left=>omega)
   refine ⟨i + 1,addC (formC atoms list[i] c).1 [(formC atoms list[i] c).2],fs ++ nodesF list[i],?_,?_,weakS [some 0,some 6,some 5] ?_ ?_ rfl rfl⟩
   rotate_left
   ·show _ < _
    omega
   ·simp -implicitDefEqProofs only [go_sem]
   ·simp -implicitDefEqProofs only [go_sem]
   exact ⟨by omega,q6,q7,q8,hg,by rw [List.length_append]; omega,hn⟩
  ·rw [List.drop_of_length_le (by omega),cnfGo] at hg
   rw [List.drop_of_length_le (by omega),nodesFs,List.append_nil] at hn
   rw [hg,hn]
   simp -implicitDefEqProofs only [go_sem,h1]
   refine finM' [some 0,some 1,some 2] ?_ rfl rfl
   simp -implicitDefEqProofs only [go_sem]
theorem c_impl_paperCnf (list:List Mod.Form) (atoms:List Atom) (h:formsAtoms list = some atoms) (ls:List Mod.Lemma) (hl9:ls.length ≤ 64) (hs9:∀ l ∈ ls,isSelection l.marks atoms.length = true ∧ l.marks ≠ []):C E.P 142 [lv (rowsForm list),lv (rowsLemma ls)] [] (Eq2 (.tup [av (cCnf (lemsGo (cnfOf list) ls)),bv true]) []):=by
 obtain ⟨p1,p2,p3,p4⟩:=formsAtoms_parts h
 have hn:¬ (64:Int) < (ls.length:Int):=by omega
 have hlen:=cnfOf_len list
 have hLB:=LB_eq
 refine C_goS (nt:=48) (rs:=[.cell 4 198,.tmp 5]) hm Tryz.func142 rfl rfl rfl rfl rfl (fun hl he=>?_)
 simp -implicitDefEqProofs only [go_sem] at hl ⊢
 refine atOwn [] [1,2,3] (c_impl_translated list atoms h) ?_ ?_ <;> simp -implicitDefEqProofs only [go_sem]
 simp -implicitDefEqProofs only [go_sem,hn]
 refine loop_go2 hm (fun (i:Nat) (b:Mod.Cnf)=> i ≤ ls.length ∧ b.list.length ≤ 1000 + i ∧ lemsGo (cnfOf list) ls = lemsGo b (ls.drop i)) (fun (i:Nat) (b:Mod.Cnf)=> ⟨mkS 48 .any [(4,.ptr 0 0),(6,.ptr 1 0),(23,lv (rowsLemma ls)),(24,iv ls.length),(25,iv i)],[some (.box [iv 0,.nilS]),some (.box [iv b.many,.acc 2,lv (rowsAtom atoms),.acc 3]),some (.acc 39 (rowsII b.list)),some (.acc 112 (rowsForm (nodesFs list)))]⟩) (fun (i:Nat) (b:Mod.Cnf)=> ls.length - i) (0) (cnfOf list) ?_ (weakS [some 0,some 1,some 2,some 3] ?_ ?_ rfl rfl) ?_
 rotate_left
 ·simp -implicitDefEqProofs only [go_sem]
 ·simp -implicitDefEqProofs only [go_sem]
 rotate_left
 ·exact ⟨by omega,by omega,rfl⟩
 ·rintro i b ⟨hi,b1,hg⟩
  rcases Classical.em (i < ls.length) with h1 | h1
  ·obtain ⟨q1,q2⟩:=hs9 ls[i] (List.getElem_mem h1)
   have q3:=sel_len6 q1 p3
   have q4:=isSelection_mem q1
   have a1:=addC_len b (ls[i].marks.map fun m=>-m)
   rw [lemsGo_drop h1] at hg
   have hc:=c_impl_isSelection ls[i].marks atoms (by omega)
   rw [q1] at hc
   simp -implicitDefEqProofs only [go_sem,h1]
   refine atCall [] hc ?_ ?_ <;> simp -implicitDefEqProofs only [go_sem]
   with_reducible refine ind_andM (by kernel_rfl) ?_
   refine atCall [] (c_impl_negated ls[i].marks (by omega) (fun x hx=>by have:=q4 x hx; omega)) ?_ ?_ <;> simp -implicitDefEqProofs only [go_sem]
   refine atOwn [] [1,2,3,5] (c_impl_add b atoms (nodesFs list) (ls[i].marks.map fun m=>-m) (by simpa using q2) (by rw [List.length_map]; omega) (fun x hx=>by obtain ⟨m,hm1,hm2⟩:=List.mem_map.1 hx; have:=q4 m hm1; omega) (by omega)) ?_ ?_
   ·simp -implicitDefEqProofs only [go_sem]
    first | rfl | ((repeat' apply And.intro) <;> rfl)
   simp -implicitDefEqProofs only [go_sem]
   repeat (with_reducible apply And.intro; case left=>omega)
   refine ⟨i + 1,addC b (ls[i].marks.map fun m=>-m),?_,?_,weakS [some 0,some 1,some 5,some 3] ?_ ?_ rfl rfl⟩
   rotate_left
   ·show _ < _
    omega
   ·simp -implicitDefEqProofs only [go_sem]
   ·simp -implicitDefEqProofs only [go_sem]
   exact ⟨by omega,by omega,hg⟩
  ·rw [List.drop_of_length_le (by omega),lemsGo] at hg
   rw [hg]
   simp -implicitDefEqProofs only [go_sem,h1]
   refine fin1' ?_
   simp -implicitDefEqProofs only [go_sem]
end Go.Proofs.YtpidddienjoleaaGreat
