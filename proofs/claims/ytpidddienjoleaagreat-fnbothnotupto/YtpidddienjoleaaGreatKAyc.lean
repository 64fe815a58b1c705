/-
  The reference: the walks of what is drawn: forms, one in sixteen bent; lists of forms; what is so. A step towards the laws.
-/
import Derived.Test.YtpidddienjoleaaGreatKAya
import Derived.Test.YtpidddienjoleaaGreatKAP
import Derived.Test.YtpidddienjoleaaGreatKAI
import Derived.Test.YtpidddienjoleaaGreatKAE
import Derived.Test.YtpidddienjoleaaGreatKAD
import Derived.Test.YtpidddienjoleaaGreatKAyb
set_option linter.unusedVariables false
set_option linter.unusedSimpArgs false
namespace Go.Proofs.YtpidddienjoleaaGreat
open Go.Eng Go.Mod
open Int renaming reduceEq → Z1,reduceLT → Z2,reduceLE → Z3,reduceToNat → Z4
set_option maxRecDepth 100000
set_option maxHeartbeats 400000
def SigSmall (s:Sig):Prop:=s.syms.length ≤ 100 ∧ ∀ x ∈ s.syms,x.args.length ≤ 1000
theorem fair_small {s:Sig} (h:SigFair s):SigSmall s:=⟨by have:=h.1; omega,fun x hx=>by have:=(h.2 x hx).1; omega⟩
theorem fillS_args (b:List Int):∀ (n:Nat) (l:List Sym) (p:Int),(∀ x ∈ l,x.args.length ≤ 1000) → ∀ x ∈ (fillS b n l p).1,x.args.length ≤ 1000
 | 0,_,_,h=>h
 | n + 1,l,p,h=>fillS_args b n _ _ fun x hx=>by
   rcases List.mem_append.1 hx with hx | hx
   ·exact h x hx
   ·rw [List.mem_singleton.1 hx]; simp
theorem bentS_small {b:List Int} {s:Sig} (h:SigFair s) (p:Int):SigSmall (bentS b s p).1:=by
 have h0:=fair_small h
 obtain ⟨h1,h2⟩:=h
 have hx:∀ k,(s.syms.getD k ⟨[],[],0⟩).args.length ≤ 2:=by
  intro k
  rw [List.getD_eq_getElem?_getD]
  cases hk:s.syms[k]? with
  | none=>simp
  | some x=>exact (h2 x (List.mem_of_getElem? hk)).1
 have hset:∀ (k:Nat) (x:Sym),x.args.length ≤ 1000 → SigSmall ⟨s.syms.set k x⟩:=fun k x hx=>⟨by simp; omega,fun y hy=>by
  rcases List.mem_or_eq_of_mem_set hy with hy | rfl
  ·exact h0.2 y hy
  ·exact hx⟩
 unfold bentS
 simp only
 split
 ·exact h0
 ·split
  ·exact h0
  ·generalize hk:(pickV b (p + 1) s.syms.length).toNat = k
   have hxk:=hx k
   split
   ·exact hset _ _ (by simp only; omega)
   ·split
    ·exact hset _ _ (by simp only [List.length_append,List.length_singleton]; omega)
    ·split
     ·exact hset _ _ (by simp only; omega)
     ·split
      ·refine ⟨by simp; omega,fun y hy=>?_⟩
       rcases List.mem_append.1 hy with hy | hy
       ·exact h0.2 y hy
       ·rw [List.mem_singleton.1 hy]; omega
      ·refine ⟨by have:=(fillS_b b (8 - s.syms.length) s.syms (p + 3)).2; simp only; omega,fillS_args b _ _ _ h0.2⟩
theorem c_spec_l6Some (b:List Int) (hb:OkB b) (s:Sig) (hs:SigFair s) (p:Int) (h1:0 ≤ p) (h2:p ≤ 800000000) :
 C E.P 148 [.ptr 0 0,av (cSig s)] [some (rdE b p)] (Eq2 (av (cAtom (someA b s p).1)) [some (rdE b (someA b s p).2)]):=by
 have hO:=c_spec_l6Any_O b hb s hs p h1 (by omega)
 obtain ⟨z1,z2,z3⟩:=anyA_b hb hs h1
 obtain ⟨y,e0⟩:∃ y,someA b s p = y:=⟨_,rfl⟩
 have ee:=e0
 unfold someA at ee
 simp only at ee
 obtain ⟨r,hr⟩:∃ r,anyA b s p = r:=⟨_,rfl⟩
 rw [hr] at ee hO z1 z2 z3
 have hfew:=z3.few
 have qr:r.2 + 1 + 1 = r.2 + 2:=by omega
 have hlen:=z3.len
 rw [e0,← ee]
 have hLB:=LB_eq
 refine C_goS (nt:=52) (rs:=[.cell 4 46]) hm Tryz.func148 rfl rfl rfl rfl rfl (fun hl he=>?_)
 simp -implicitDefEqProofs only [go_sem,Z1,Z2,Z3,Z4] at hl ⊢
 refine atOwn [] [0,3,4] hO ?_ ?_ <;> simp -implicitDefEqProofs only [go_sem,Z1,Z2,Z3,Z4]
 try (with_reducible refine ind_andM (by kernel_rfl) ?_)
 repeat (first | with_reducible refine ind_andM (by kernel_rfl) ?_ | (with_reducible apply And.intro; case left=>first | omega | assumption | exact ⟨rowsT_all _,by omega⟩ | exact ⟨rowsI_all _,by omega⟩ | exact ⟨rowsLit_all _,by omega⟩ | exact ⟨rowsLin_all _,by omega⟩ | exact ⟨rowsEq_all _,by omega⟩ | rfl | (simp [*]; done) | (simp; omega) | exact ⟨rowsRat_all _,by omega⟩ | exact ⟨rowsAtom_all _,by omega⟩ | exact ⟨rowsB_all _,by omega⟩ | exact ⟨rowsForm_all _,by omega⟩ | exact ⟨rowsII_all _,by omega⟩))
 refine atOwn [] [0] (c_pick b r.2 80 hb (by omega) (by omega)) ?_ ?_ <;> simp -implicitDefEqProofs only [go_sem,Z1,Z2,Z3,Z4]
 try (with_reducible refine ind_andM (by kernel_rfl) ?_)
 rcases Classical.em (pickV b r.2 80 = 0) with c0 | c0
 ·have k0:=eq_true c0
  rw [if_pos c0]
  try simp -implicitDefEqProofs only [go_sem,Z1,Z2,Z3,Z4,k0]
  try (with_reducible refine ind_andM (by kernel_rfl) ?_)
  refine atOwn [] [0] (c_num b (r.2 + 1) [0,3,1,2] hb (by omega) (by omega) (by simp) (by simp)) ?_ ?_ <;> simp -implicitDefEqProofs only [go_sem,Z1,Z2,Z3,Z4,qr]
  try (with_reducible refine ind_andM (by kernel_rfl) ?_)
  refine finM' [some 0] ?_ rfl rfl
  simp -implicitDefEqProofs only [go_sem,Z1,Z2,Z3,Z4]
  repeat' apply And.intro
  all_goals rfl
 rw [if_neg c0]
 rcases Classical.em (pickV b r.2 80 = 1) with c1 | c1
 ·have k1:=eq_true c1
  rw [if_pos c1]
  try simp -implicitDefEqProofs only [go_sem,Z1,Z2,Z3,Z4,c0,k1]
  try (with_reducible refine ind_andM (by kernel_rfl) ?_)
  refine atOwn [] [0] (c_num b (r.2 + 1) [1001,-9223372036854775808,5] hb (by omega) (by omega) (by simp) (by simp)) ?_ ?_ <;> simp -implicitDefEqProofs only [go_sem,Z1,Z2,Z3,Z4,qr]
  try (with_reducible refine ind_andM (by kernel_rfl) ?_)
  refine finM' [some 0] ?_ rfl rfl
  simp -implicitDefEqProofs only [go_sem,Z1,Z2,Z3,Z4]
  repeat' apply And.intro
  all_goals rfl
 rw [if_neg c1]
 rcases Classical.em (pickV b r.2 80 = 2) with c2 | c2
 ·have k2:=eq_true c2
  rw [if_pos c2]
  try simp -implicitDefEqProofs only [go_sem,Z1,Z2,Z3,Z4,c0,c1,k2]
  try (with_reducible refine ind_andM (by kernel_rfl) ?_)
  refine atOwn [] [0] (c_spec_l4Some b hb s hs (r.2 + 1) (by omega) (by omega)) ?_ ?_ <;> simp -implicitDefEqProofs only [go_sem,Z1,Z2,Z3,Z4]
  try (with_reducible refine ind_andM (by kernel_rfl) ?_)
  refine finM' [some 0] ?_ rfl rfl
  simp -implicitDefEqProofs only [go_sem,Z1,Z2,Z3,Z4]
  repeat' apply And.intro
  all_goals rfl
 rw [if_neg c2]
 rcases Classical.em (pickV b r.2 80 = 3) with c3 | c3
 ·have k3:=eq_true c3
  rw [if_pos c3]
  rcases Classical.em ((0:Int) < (r.1.times.length:Int)) with h5 | h5
  ·have h5n:0 < r.1.times.length:=by omega
   rw [if_pos h5n]
   try simp -implicitDefEqProofs only [go_sem,Z1,Z2,Z3,Z4,c0,c1,c2,k3,h5]
   try (with_reducible refine ind_andM (by kernel_rfl) ?_)
   refine atOwn [] [0] (c_num b (r.2 + 1) [0,51,-9223372036854775808] hb (by omega) (by omega) (by simp) (by simp)) ?_ ?_ <;> simp -implicitDefEqProofs only [go_sem,Z1,Z2,Z3,Z4,h5n,qr]
   try (with_reducible refine ind_andM (by kernel_rfl) ?_)
   repeat (first | with_reducible refine ind_andM (by kernel_rfl) ?_ | (with_reducible apply And.intro; case left=>first | omega | assumption | exact ⟨rowsT_all _,by omega⟩ | exact ⟨rowsI_all _,by omega⟩ | exact ⟨rowsLit_all _,by omega⟩ | exact ⟨rowsLin_all _,by omega⟩ | exact ⟨rowsEq_all _,by omega⟩ | rfl | (simp [*]; done) | (simp; omega) | exact ⟨rowsRat_all _,by omega⟩ | exact ⟨rowsAtom_all _,by omega⟩ | exact ⟨rowsB_all _,by omega⟩ | exact ⟨rowsForm_all _,by omega⟩ | exact ⟨rowsII_all _,by omega⟩))
   refine finM' [some 0] ?_ rfl rfl
   simp -implicitDefEqProofs only [go_sem,Z1,Z2,Z3,Z4]
   repeat' apply And.intro
   all_goals first | rfl | exact (rowsI_set h5n).symm
  ·have h5n:¬ 0 < r.1.times.length:=by omega
   rw [if_neg h5n]
   try simp -implicitDefEqProofs only [go_sem,Z1,Z2,Z3,Z4,c0,c1,c2,k3,h5]
   try (with_reducible refine ind_andM (by kernel_rfl) ?_)
   refine finM' [some 0] ?_ rfl rfl
   simp -implicitDefEqProofs only [go_sem,Z1,Z2,Z3,Z4]
   repeat' apply And.intro
   all_goals rfl
 rw [if_neg c3]
 rcases Classical.em (pickV b r.2 80 = 4) with c4 | c4
 ·have k4:=eq_true c4
  rw [if_pos c4]
  try simp -implicitDefEqProofs only [go_sem,Z1,Z2,Z3,Z4,c0,c1,c2,c3,k4]
  try (with_reducible refine ind_andM (by kernel_rfl) ?_)
  refine atOwn [] [0] (c_spec_l4Any b hb s hs 1 1 (r.2 + 1) (by omega) (by omega) (by omega)) ?_ ?_ <;> simp -implicitDefEqProofs only [go_sem,Z1,Z2,Z3,Z4]
  try (with_reducible refine ind_andM (by kernel_rfl) ?_)
  repeat (first | with_reducible refine ind_andM (by kernel_rfl) ?_ | (with_reducible apply And.intro; case left=>first | omega | assumption | exact ⟨rowsT_all _,by omega⟩ | exact ⟨rowsI_all _,by omega⟩ | exact ⟨rowsLit_all _,by omega⟩ | exact ⟨rowsLin_all _,by omega⟩ | exact ⟨rowsEq_all _,by omega⟩ | rfl | (simp [*]; done) | (simp; omega) | exact ⟨rowsRat_all _,by omega⟩ | exact ⟨rowsAtom_all _,by omega⟩ | exact ⟨rowsB_all _,by omega⟩ | exact ⟨rowsForm_all _,by omega⟩ | exact ⟨rowsII_all _,by omega⟩))
  refine finM' [some 0] ?_ rfl rfl
  simp -implicitDefEqProofs only [go_sem,Z1,Z2,Z3,Z4]
  repeat' apply And.intro
  all_goals first | rfl | exact (rowsT_put1 _ _).symm
 ·rw [if_neg c4]
  try simp -implicitDefEqProofs only [go_sem,Z1,Z2,Z3,Z4,c0,c1,c2,c3,c4]
  try (with_reducible refine ind_andM (by kernel_rfl) ?_)
  refine finM' [some 0] ?_ rfl rfl
  simp -implicitDefEqProofs only [go_sem,Z1,Z2,Z3,Z4]
  repeat' apply And.intro
  all_goals rfl
end Go.Proofs.YtpidddienjoleaaGreat
