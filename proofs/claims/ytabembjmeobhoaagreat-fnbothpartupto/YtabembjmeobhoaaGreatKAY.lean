/-
  The laws FnBothPart and FnBothTwice, walked: whatever they are given, they answer yes. A step towards the laws.
-/
import Derived.Test.YtabembjmeobhoaaGreatKAze
import Derived.Test.YtabembjmeobhoaaGreatKAzd
import Derived.Test.YtabembjmeobhoaaGreatKAzj
import Derived.Test.YtabembjmeobhoaaGreatKAEn
set_option linter.unusedVariables false
set_option linter.unusedSimpArgs false
open Classical renaming em→aa
open List renaming length_take→bI,drop_zero→jK
namespace Go.Proofs.YtabembjmeobhoaaGreat
open Go.Eng Go.Mod
open Int renaming reduceEq→Z1,reduceLT→Z2,reduceLE→Z3,reduceToNat→Z4
set_option maxRecDepth 100000
set_option maxHeartbeats 3200000
theorem GR(b:List Int)(hb:∀x∈b,0≤x∧x≤255)(c:List Int)(hc:∀x∈c,0≤x∧x≤255):C E.P 3 [lv (Qu b),lv (Qu c)] [] (bN (bv true) []):=by
 refine gS (nt:=87) (rs:=[.tmp 4]) hm Tryz.func3 fun hl he cI=>?_
 rcases aa ((1048576:Int)<(b.length:Int)) with h0|h0
 ·simp -implicitDefEqProofs only[go_sem,h0]
  refine an ?_
  exact sC
 rcases aa ((1048576:Int)<(c.length:Int)) with h1|h1
 ·simp -implicitDefEqProofs only[go_sem,h0,h1]
  refine an ?_
  exact sC
 have cD:=zB b hb (by omega)
 generalize Nc (b.take 2000)=g at cD
 obtain⟨s,ab⟩:=g
 simp only at cD
 have c1:=wB Nn s ab
 have c2:=EI s ab
 have hform:=Jv (s:=s) (ab:=ab)
 have hyes:=fun h=>Nf (s:=s) (ab:=ab) h
 have hap:=fun(x:List bp) h=>PB (s:=s) (a:=ab) (b:=x) h
 generalize fk s ab=r at *
 simp -implicitDefEqProofs only[go_sem,h0,h1]
 refine aC [] cD ?_
 refine aC [] c1 ?_
 refine aC [] c2 ?_
 rcases aa (r.code=3) with h3|h3
 ·have k3:=eq_true h3
  simp -implicitDefEqProofs only[go_sem,k3]
  refine an ?_
  exact sC
 have eK:fa s ab=true:=by
  cases hq:fa s ab with
  | true=>rfl
  | false=>exact absurd (hform.2 hq) h3
 have h6:=(xf eK).2.2.2.1
 obtain⟨k,hk⟩:∃k:Nat,k=c.length % (ab.length+1):=⟨_,rfl⟩
 have hk2:k≤ab.length:=by
  have:=Nat.mod_lt c.length (show 0<ab.length+1 by omega)
  omega
 have hrem:((c.length:Int)).tmod ((ab.length:Int)+1)=(k:Int):=by
  rw[hk]
  exact(Int.ofNat_tmod c.length (ab.length+1)).symm
 have oM:(aZ ab).take k=aZ (ab.take k):=by rw[aZ,aZ,List.map_take]
 have lg:∀l∈ab.take k,l∈ab:=fun l hl=>List.mem_of_mem_take hl
 have hside:k≤ab.length∧∀y∈aZ ab,y.length=10:=⟨hk2,fL _⟩
 have hok2:=Ph eK lg (by rw[bI];omega)
 have e3:(fk s (ab.take k)).code≠3:=fun e=>by rw[Jv.1 e] at hok2;cases hok2
 have hap2:=fun h=>hap (ab.take k) h lg
 have cr:=wB Nn s (ab.take k)
 have cm:=vx s r.model (ab.take k) (by rw[bI];omega)
 have hma:r.code=0→eE s r.model (ab.take k)=true:=fun h=>AN (hyes h) lg
 generalize fk s (ab.take k)=q at *
 simp -implicitDefEqProofs only[go_sem,h3,hrem]
 refine sQ ?_
 simp -implicitDefEqProofs only[go_sem,Nat.sub_zero,jK,oM]
 refine aC [] cr ?_
 refine iK ?_
 rcases aa (r.code=0) with h4|h4
 ·have k4:=eq_true h4
  have e1:=hap2 h4
  rw[hma h4] at cm
  simp -implicitDefEqProofs only[go_sem,k4]
  refine sQ ?_
  simp -implicitDefEqProofs only[go_sem,Nat.sub_zero,jK,oM]
  refine aC [] cm ?_
  simp -implicitDefEqProofs only[go_sem,e1,e3]
  refine iK ?_
  refine an ?_
  exact sC
 ·simp -implicitDefEqProofs only[go_sem,h4,e3]
  refine an ?_
  exact sC
end Go.Proofs.YtabembjmeobhoaaGreat
