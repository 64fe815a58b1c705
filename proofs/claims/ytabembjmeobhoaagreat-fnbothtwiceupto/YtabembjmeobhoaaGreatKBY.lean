/-
  The laws FnBothPart and FnBothTwice, walked: whatever they are given, they answer yes. A step towards the laws.
-/
import Derived.Test.YtabembjmeobhoaaGreatKBze
import Derived.Test.YtabembjmeobhoaaGreatKBzd
import Derived.Test.YtabembjmeobhoaaGreatKBzj
import Derived.Test.YtabembjmeobhoaaGreatKBEn
set_option linter.unusedVariables false
set_option linter.unusedSimpArgs false
open Classical renaming em→aa
namespace Go.Proofs.YtabembjmeobhoaaGreat
open Go.Eng Go.Mod
open Int renaming reduceEq→Z1,reduceLT→Z2,reduceLE→Z3,reduceToNat→Z4
set_option maxRecDepth 100000
set_option maxHeartbeats 3200000
theorem D0(b:List Int)(hb:∀x∈b,0≤x∧x≤255):C E.P 4 [lv (RS b)] [] (bM (bv true) []):=by
 refine gS (nt:=77) (rs:=[.tmp 2]) hm Tryz.func4 fun hl he cI=>?_
 rcases aa ((1048576:Int)<(b.length:Int)) with h0|h0
 ·simp -implicitDefEqProofs only[go_sem,h0]
  refine an ?_
  exact sC
 have cD:=y8 b hb (by omega)
 generalize LN (b.take 2000)=g at cD
 obtain⟨s,ab⟩:=g
 simp only at cD
 have c1:=xh NP s ab
 have c2:=E0 s ab
 obtain⟨r,hr⟩:∃r,dS s ab=r:=⟨_,rfl⟩
 rw[hr] at c1 c2
 simp -implicitDefEqProofs only[go_sem,h0]
 refine aC [] cD ?_
 refine aC [] c1 ?_
 refine aC [] c2 ?_
 rcases aa ((ab.length:Int)=0) with hz|hz
 ·have kz:=eq_true hz
  simp -implicitDefEqProofs only[go_sem,kz]
  refine an ?_
  exact sC
 rcases aa ((6:Int)≤(ab.length:Int)) with h5|h5
 ·simp -implicitDefEqProofs only[go_sem,hz,h5]
  refine an ?_
  exact sC
 have hpos:0<ab.length:=by omega
 obtain⟨l,hl⟩:∃l,ab[0]=l:=⟨_,rfl⟩
 have hlm:l∈ab:=by rw[←hl];exact List.getElem_mem hpos
 have cr:=xh NP s (ab++[l])
 have hs:a6 (ab++[l])=a6 ab++[np l]:=by rw[a6,List.map_append];rfl
 rw[hs] at cr
 have s1:∀x∈ab++[l],x∈ab:=fun x hx=>by
  rcases List.mem_append.1 hx with hx|hx
  ·exact hx
  ·rw[List.mem_singleton.1 hx];exact hlm
 have s2:∀x∈ab,x∈ab++[l]:=fun x hx=>List.mem_append_left _ hx
 obtain⟨q,hq⟩:∃q,dS s (ab++[l])=q:=⟨_,rfl⟩
 rw[hq] at cr
 have ki:r.code=0∨r.code=1∨r.code=2∨r.code=3:=by rw[←hr];exact Jg s ab
 have hin2:q.code=0∨q.code=1∨q.code=2∨q.code=3:=by rw[←hq];exact Jg s (ab++[l])
 have hf:r.code=3↔q.code=3:=by
  rw[←hr,←hq,IZ,IZ]
  constructor
  ·intro h
   cases hb2:eZ s (ab++[l]) with
   | false=>rfl
   | true=>rw[Fb hb2 s2 (by omega)] at h;cases h
  ·intro h
   cases hb2:eZ s ab with
   | false=>rfl
   | true=>rw[Fb hb2 s1 (by simp;omega)] at h;cases h
 have ha1:r.code=0→q.code≠1:=by rw[←hr,←hq];exact fun h=>G7 h s1
 have ha2:q.code=0→r.code≠1:=by rw[←hr,←hq];exact fun h=>G7 h s2
 have key:r.code=2∨q.code=2∨r.code=q.code:=by
  rcases ki with h|h|h|h
  ·have:=ha1 h
   omega
  ·have:=ha2
   omega
  ·exact .inl h
  ·have:=hf.1 h
   omega
 simp -implicitDefEqProofs only[go_sem,hz,h5,hpos,hl]
 refine sQ ?_
 refine oC [] [7] (tH (e:=49) (args:=[av (dZ s),.acc 0]) (ik.cons (Vw.same rfl) (ik.cons (Vw.acc rfl rfl) ik.nil)) rfl cr) ?_
 refine iK ?_
 rcases aa (r.code=2) with g1|g1
 ·have g1':=eq_true g1
  simp -implicitDefEqProofs only[go_sem,g1']
  refine an ?_
  exact sC
 rcases aa (q.code=2) with g2|g2
 ·have g2':=eq_true g2
  simp -implicitDefEqProofs only[go_sem,g1,g2']
  refine an ?_
  exact sC
 have g3:r.code=q.code:=by omega
 have g3':=eq_true g3
 simp -implicitDefEqProofs only[go_sem,g1,g2,g3']
 refine an ?_
 exact sC
end Go.Proofs.YtabembjmeobhoaaGreat
