/-
  The law FnSolveNot, walked: whatever it is given, it answers yes. A step towards the law.
-/
import Derived.Test.YtgpjhjalfakpoaaGreatKAzk
set_option linter.unusedVariables false
set_option linter.unusedSimpArgs false
open Classical renaming em→aa
namespace Go.Proofs.YtgpjhjalfakpoaaGreat
open Go.Eng Go.Mod
open Int renaming reduceEq→Z1,reduceLT→Z2,reduceLE→Z3,reduceToNat→Z4
set_option maxRecDepth 100000
set_option maxHeartbeats 3200000
theorem zQ(w:Atom→Bool)(f:Mod.Form):holds w (Ay f)= !holds w f:=y7 rfl rfl
theorem Al(f:Mod.Form):df (Ay f)=[.val (.int .i64 2),.val (.int .i64 0),.str [],.bX [],.str [],.bX [],.bX [],.bX [],.val (.int .i64 0),.val (.bool false),.val (.bool false),.bX [df f]]:=by
 show([.val (.int .i64 2),.val (.int .i64 0),.str [],.bX [],.str [],.bX [],.bX [],.bX [],.val (.int .i64 0),.val (.bool false),.val (.bool false),.bX (a7 [f])]:List D)=_
 rw[gE,jl]
theorem wB(b:List Int)(hb:∀x∈b,0≤x∧x≤255):C E.P 3 [lv (Gx b)] [] (bB (bv true) []):=by
 refine gS (nt:=47) (rs:=[.tmp 2]) hm Tryz.func3 fun hl he cx=>?_
 rcases aa ((1048576:Int)<(b.length:Int)) with h0|h0
 ·simp -implicitDefEqProofs only[go_sem,h0]
  refine al ?_
  exact sC
 have cD:=sa b hb (by omega)
 generalize pK (b.take 2000) 0=g at cD
 obtain⟨s,f,q⟩:=g
 simp only at cD
 have c1:=yc s f
 have c2:=yg s f
 obtain⟨p,code,n9,cr⟩:=qh s [f,Ay f] (fun w=>by simp only[List.all_cons,List.all_nil,zQ];cases holds w f<;>rfl)
 rw[gE,gE,jl,Al] at cr
 simp -implicitDefEqProofs only[go_sem,h0]
 refine aC [] cD ?_
 refine aC [] c1 ?_
 refine aC [] c2 ?_
 cases kG:kC s f
 ·refine sA ?_
  refine aC [] c2 ?_
  refine al ?_
  refine sA ?_
  all_goals(simp;omega)
 ·refine sA ?_
  refine aC [] cr ?_
  simp -implicitDefEqProofs only[go_sem,n9]
  refine al ?_
  exact sC
end Go.Proofs.YtgpjhjalfakpoaaGreat
