/-
  The reference: the walks of stacks that are drawn. A step towards the laws. The reference: the walk of what FnStackNew draws. A step towards the laws.
-/
import Derived.Test.YtpidddienjoleaaGreatKAyc
import Derived.Test.YtpidddienjoleaaGreatKAs
import Derived.Test.YtpidddienjoleaaGreatKAt
import Derived.Test.YtpidddienjoleaaGreatKADa
import Derived.Test.YtpidddienjoleaaGreatKAEi
set_option linter.unusedVariables false
set_option linter.unusedSimpArgs false
namespace Go.Proofs.YtpidddienjoleaaGreat
open Go.Eng Go.Mod
open Int renaming reduceEq → Z1,reduceLT → Z2,reduceLE → Z3,reduceToNat → Z4
set_option maxRecDepth 100000
set_option maxHeartbeats 400000
theorem c_spec_StackNew (s:Sig) (hb9:ctL ctSym s.syms ≤ 8000000):C E.P 28 [av (cSig s)] [] (Eq2 (av (cStack (stackNew s))) []):=by
 have hLB:=LB_eq
 refine C_goW (nt:=12) (rs:=[.cell 2 72]) Tryz.func28 rfl rfl rfl rfl rfl (fun hl he=>?_)
 simp -implicitDefEqProofs only [go_sem,Z1,Z2,Z3,Z4] at hl ⊢
 refine W_of hm ?_
 try simp -implicitDefEqProofs only [go_sem,Z1,Z2,Z3,Z4]
 try (with_reducible refine ind_andM (by kernel_rfl) ?_)
 refine atCall [] (c_spec_SigOk s) ?_ ?_ <;> simp -implicitDefEqProofs only [go_sem,Z1,Z2,Z3,Z4]
 try (with_reducible refine ind_andM (by kernel_rfl) ?_)
 cases hok:sigOk s
 ·have e:stackNew s = ⟨⟨[]⟩,[]⟩:=by simp [stackNew,hok]
  try simp -implicitDefEqProofs only [go_sem,Z1,Z2,Z3,Z4]
  try (with_reducible refine ind_andM (by kernel_rfl) ?_)
  refine FinW_of ?_
  refine fin1' ?_
  simp -implicitDefEqProofs only [go_sem,Z1,Z2,Z3,Z4]
  rw [e]
  exact ⟨rfl,rfl⟩
 ·have e:stackNew s = ⟨s,[[]]⟩:=by simp [stackNew,hok]
  try simp -implicitDefEqProofs only [go_sem,Z1,Z2,Z3,Z4]
  try (with_reducible refine ind_andM (by kernel_rfl) ?_)
  refine atCall [] (c_spec_l14Sig s hb9) ?_ ?_ <;> simp -implicitDefEqProofs only [go_sem,Z1,Z2,Z3,Z4]
  try (with_reducible refine ind_andM (by kernel_rfl) ?_)
  repeat (first | with_reducible refine ind_andM (by kernel_rfl) ?_ | (with_reducible apply And.intro; case left=>first | omega | assumption | exact ⟨rowsT_all _,by omega⟩ | exact ⟨rowsI_all _,by omega⟩ | exact ⟨rowsLit_all _,by omega⟩ | exact ⟨rowsLin_all _,by omega⟩ | exact ⟨rowsEq_all _,by omega⟩ | rfl | (simp [*]; done) | (simp; omega) | exact ⟨rowsRat_all _,by omega⟩ | exact ⟨rowsAtom_all _,by omega⟩ | exact ⟨rowsB_all _,by omega⟩ | exact ⟨rowsForm_all _,by omega⟩ | exact ⟨rowsII_all _,by omega⟩))
  refine ⟨_,Wk0.weak (put_row 3 0 _ rfl (by decide) (show rwT _ 0 = [T.ref (1 + 1)] from rfl)),?_⟩
  simp -implicitDefEqProofs only [go_sem,Z1,Z2,Z3,Z4]
  refine finM' [] ?_ rfl rfl
  simp -implicitDefEqProofs only [go_sem,Z1,Z2,Z3,Z4]
  rw [e]
  exact ⟨rfl,_,rfl,rfl⟩
end Go.Proofs.YtpidddienjoleaaGreat
namespace Go.Proofs.YtpidddienjoleaaGreat
open Go.Eng Go.Mod
open Int renaming reduceEq → Z1,reduceLT → Z2,reduceLE → Z3,reduceToNat → Z4
set_option maxRecDepth 100000
set_option maxHeartbeats 400000
def drawSig (c:List Int):Sig:=(bentS c (sigS c 0).1 (sigS c 0).2).1
theorem drawSig_ct (c:List Int):ctL ctSym (drawSig c).syms ≤ 8000000:=by
 have h:=bentS_small (b:=c) (baseS_fair _:SigFair (sigS c 0).1) (sigS c 0).2
 have key:∀ l:List Sym,(∀ x ∈ l,x.args.length ≤ 1000) → ctL ctSym l ≤ l.length * 1002:=by
  intro l
  induction l with
  | nil=>intro _; simp [ctL]
  | cons x l ih=>
    intro hx
    have a1:=ih fun y hy=>hx y (by simp [hy])
    have a2:=hx x (by simp)
    simp only [ctL,ctSym,List.length_cons]
    omega
 have h1:=key (drawSig c).syms h.2
 have h2:=h.1
 have h3:(drawSig c).syms.length ≤ 100:=h2
 omega
theorem c_spec_DrawSigOk (b:List Int) (hb:∀ x ∈ b,0 ≤ x ∧ x ≤ 255) (hl9:b.length ≤ 2000000):C E.P 60 [lv (byD b)] [] (Eq2 (av (cSig (drawSig (b.take 2000)))) []):=by
 have hO:=openOk hb
 obtain ⟨c,hc⟩:∃ c,b.take 2000 = c:=⟨_,rfl⟩
 have c1:=c_spec_l16Open b hb hl9
 rw [hc] at hO c1 ⊢
 have c2:=c_spec_l4Sig c 0 hO (by omega) (by omega)
 have hs:SigFair (sigS c 0).1:=baseS_fair _
 have hsp:(sigS c 0).2 = 0 + 1:=rfl
 have e:drawSig c = (bentS c (sigS c 0).1 (0 + 1)).1:=rfl
 have c3:=c_spec_l4Bent c hO (sigS c 0).1 (fair_small hs).1 (fair_small hs).2 (0 + 1) (by omega) (by omega)
 rw [hsp] at c2
 rw [e]
 have hLB:=LB_eq
 refine C_goS (nt:=10) (rs:=[.cell 2 25]) hm Tryz.func60 rfl rfl rfl rfl rfl (fun hl he=>?_)
 simp -implicitDefEqProofs only [go_sem,Z1,Z2,Z3,Z4] at hl ⊢
 refine atOwn [] [1] c1 ?_ ?_ <;> simp -implicitDefEqProofs only [go_sem,Z1,Z2,Z3,Z4]
 try (with_reducible refine ind_andM (by kernel_rfl) ?_)
 refine atOwn [] [1] c2 ?_ ?_ <;> simp -implicitDefEqProofs only [go_sem,Z1,Z2,Z3,Z4]
 try (with_reducible refine ind_andM (by kernel_rfl) ?_)
 refine atOwn [] [1] c3 ?_ ?_ <;> simp -implicitDefEqProofs only [go_sem,Z1,Z2,Z3,Z4]
 try (with_reducible refine ind_andM (by kernel_rfl) ?_)
 refine fin1' ?_
 simp -implicitDefEqProofs only [go_sem,Z1,Z2,Z3,Z4]
theorem c_spec_DrawStackNew (b:List Int) (hb:∀ x ∈ b,0 ≤ x ∧ x ≤ 255) (hl9:b.length ≤ 2000000):C E.P 25 [lv (byD b)] [] (Eq2 (av (cSig (drawSig (b.take 2000)))) []):=by
 have hLB:=LB_eq
 refine C_goS (nt:=5) (rs:=[.cell 2 25]) hm Tryz.func25 rfl rfl rfl rfl rfl (fun hl he=>?_)
 simp -implicitDefEqProofs only [go_sem,Z1,Z2,Z3,Z4] at hl ⊢
 refine atCall [] (c_spec_DrawSigOk b hb hl9) ?_ ?_ <;> simp -implicitDefEqProofs only [go_sem,Z1,Z2,Z3,Z4]
 try (with_reducible refine ind_andM (by kernel_rfl) ?_)
 refine fin1' ?_
 simp -implicitDefEqProofs only [go_sem,Z1,Z2,Z3,Z4]
end Go.Proofs.YtpidddienjoleaaGreat
