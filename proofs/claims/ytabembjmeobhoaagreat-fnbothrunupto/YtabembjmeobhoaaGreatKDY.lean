/-
  The law FnBothRun, walked: whatever it is given, it answers yes. A step towards the law.
-/
import Derived.Test.YtabembjmeobhoaaGreatKDze
import Derived.Test.YtabembjmeobhoaaGreatKDzd
import Derived.Test.YtabembjmeobhoaaGreatKDzj
import Derived.Test.YtabembjmeobhoaaGreatKDEn
set_option linter.unusedVariables false
set_option linter.unusedSimpArgs false
open Classical renaming em→aa
namespace Go.Proofs.YtabembjmeobhoaaGreat
open Go.Eng Go.Mod
open Int renaming reduceEq→Z1,reduceLT→Z2,reduceLE→Z3,reduceToNat→Z4
set_option maxRecDepth 100000
set_option maxHeartbeats 3200000
theorem DE:gH ng=[.val (.int .i64 0),.val (.int .i64 0),.val (.int .i64 0),.val (.int .i64 0),.str [],.dt [],.dt [],.dt [],.str [],.dt [],.str [],.dt [],.dt []]:=rfl
theorem Ll:ez jo=[.dt []]:=rfl
theorem Ik(b:List Int)(hb:∀x∈b,0≤x∧x≤255):C E.P 6 [lv (Sl b)] [] (bz (bv true) []):=by
 refine gS (nt:=88) (rs:=[.tmp 2]) hm Tryz.func6 fun hl he cq=>?_
 rcases aa ((1048576:Int)<(b.length:Int)) with h0|h0
 ·simp -implicitDefEqProofs only[go_sem,h0]
  refine an ?_
  exact sC
 have cD:=Am b hb (by omega)
 generalize No (b.take 2000)=g at cD
 obtain⟨s,ab⟩:=g
 simp only at cD
 have c1:=Gr Un s ab
 have c2:=Gs s ab
 obtain⟨hm0,hc1⟩:=SB s ab
 have hform:=Tb (s:=s) (ab:=ab)
 have hyes:=fun h=>U4 (s:=s) (ab:=ab) h
 have hcert:=fun h=>SN (s:=s) (ab:=ab) h
 have kG:=Tp s ab
 generalize dL s ab=r at *
 have mS:=uz r.model r.model
 have cS:=qW r.case r.case
 rw[decide_eq_true rfl] at mS cS
 simp -implicitDefEqProofs only[go_sem,h0]
 refine aC [] cD ?_
 refine aC [] c1 ?_
 refine aC [] c2 ?_
 refine aC [] mS ?_
 refine aC [] cS ?_
 rcases aa (r.code=0) with k0|k0
 ·have k0':=eq_true k0
  have hma:=hyes k0
  have dy:ab.length≤1000:=by
   have h6:=(xk (Decidable.byContradiction fun h=>by rw[Bool.not_eq_true] at h;have:=hform.2 h;omega)).2.2.2.1
   omega
  have cm:=wA s r.model ab (by omega)
  rw[hma] at cm
  have e:r.case=ng:=by
   rcases hc1 with h|h
   ·omega
   ·exact h
  have cz:=qW r.case ng
  rw[decide_eq_true e,DE] at cz
  simp -implicitDefEqProofs only[go_sem,k0']
  refine aC [] cm ?_
  refine aC [] cz ?_
  refine an ?_
  exact sC
 have e0:r.model=jo:=by
  rcases hm0 with h|h
  ·exact absurd h k0
  ·exact h
 have mz:=uz r.model jo
 rw[decide_eq_true e0,Ll] at mz
 rcases aa (r.code=1) with k1|k1
 ·have k1':=eq_true k1
  have co:=H0 s ab r.case
  rw[hcert k1] at co
  simp -implicitDefEqProofs only[go_sem,k0,k1']
  refine aC [] co ?_
  refine aC [] mz ?_
  refine an ?_
  exact sC
 have e1:r.case=ng:=by
  rcases hc1 with h|h
  ·exact absurd h k1
  ·exact h
 have cz:=qW r.case ng
 rw[decide_eq_true e1,DE] at cz
 have bo:=tQ s ab
 simp -implicitDefEqProofs only[go_sem,k0,k1]
 refine aC [] mz ?_
 refine aC [] cz ?_
 rcases aa (r.code=3) with k3|k3
 ·have k3':=eq_true k3
  rw[hform.1 k3] at bo
  simp -implicitDefEqProofs only[go_sem,k3']
  refine aC [] bo ?_
  refine an ?_
  exact sC
 ·have hb:fe s ab=true:=by
   cases hq:fe s ab with
   | true=>rfl
   | false=>exact absurd (hform.2 hq) k3
  rw[hb] at bo
  simp -implicitDefEqProofs only[go_sem,k3]
  refine aC [] bo ?_
  refine an ?_
  exact sC
end Go.Proofs.YtabembjmeobhoaaGreat
