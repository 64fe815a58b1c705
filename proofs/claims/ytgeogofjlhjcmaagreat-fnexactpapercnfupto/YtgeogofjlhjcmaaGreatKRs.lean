/-
  Marks found again: the walks. A step towards the exact laws.
-/
import Derived.Test.YtgeogofjlhjcmaaGreatKRr
set_option linter.unusedVariables false
set_option linter.unusedSimpArgs false
namespace Go.Proofs.YtgeogofjlhjcmaaGreat
open Go.Eng Go.Mod
open Int renaming reduceEq → Z1,reduceLT → Z2,reduceLE → Z3,reduceToNat → Z4
set_option maxRecDepth 100000
set_option maxHeartbeats 400000
theorem c_laws_heldIntS (ts:List Int) (k:Int) (h0:0 ≤ k) (h1:k + ts.length ≤ 4398046511104):C E.P 108 [lv (rowsI (mkL mkI ts k).1),iv k] [] (Eq2 (iv (mkL mkI ts k).2) []):=by
 have hz:=Hd.zero mkI ts k
 obtain ⟨zs,hzs⟩:∃ zs,(mkL mkI ts k).1 = zs:=⟨_,rfl⟩
 rw [hzs] at hz ⊢
 have hLB:=LB_eq
 refine C_goS (nt:=21) (rs:=[.tmp 4]) hm Tryz.func108 rfl rfl rfl rfl rfl (fun hl he=>?_)
 simp -implicitDefEqProofs only [go_sem,Z1,Z2,Z3,Z4] at hl ⊢
 refine loop_go2 hm (fun (i:Nat) (q:Int)=> Hd mkI ts zs k i q) (fun (i:Nat) (q:Int)=> ⟨mkS 21 .any [(0,lv (rowsI zs)),(1,iv q),(5,iv i)],[]⟩) (fun (i:Nat) (q:Int)=> ts.length - i) (0) (k) ?_ (weakS [] ?_ ?_ rfl rfl) ?_
 rotate_left
 ·simp -implicitDefEqProofs only [go_sem,Z1,Z2,Z3,Z4]
 ·simp -implicitDefEqProofs only [go_sem,Z1,Z2,Z3,Z4]
 rotate_left
 ·exact hz
 ·rintro i q hI
  have hl9:=hI.1
  have hct:=hI.ct (c:=fun _=>1) (fun x k=>rfl)
  rw [ctL_one,ctL_one,List.length_drop] at hct
  rcases Classical.em (i < ts.length) with h2 | h2
  ·have h2':i < zs.length:=by omega
   have e1:zs[i] = q:=hI.at h2
   simp -implicitDefEqProofs only [go_sem,Z1,Z2,Z3,Z4,h2',e1]
   repeat (with_reducible apply And.intro; case left=>omega)
   refine ⟨i + 1,q + 1,?_,?_,weakS [] ?_ ?_ rfl rfl⟩
   rotate_left
   ·show _ < _
    omega
   ·simp -implicitDefEqProofs only [go_sem,Z1,Z2,Z3,Z4]
   ·simp -implicitDefEqProofs only [go_sem,Z1,Z2,Z3,Z4]
   exact hI.step h2
  ·have h2':¬ i < zs.length:=by omega
   simp -implicitDefEqProofs only [go_sem,Z1,Z2,Z3,Z4,h2']
   refine fin1' ?_
   simp -implicitDefEqProofs only [go_sem,Z1,Z2,Z3,Z4]
   rw [hI.all (by omega)]
end Go.Proofs.YtgeogofjlhjcmaaGreat
