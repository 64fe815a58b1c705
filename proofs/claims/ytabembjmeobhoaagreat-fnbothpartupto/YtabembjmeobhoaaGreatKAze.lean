/-
  The reference: draws of literals to be decided. A step towards the laws.
-/
import Derived.Test.YtabembjmeobhoaaGreatKAyc
import Derived.Test.YtabembjmeobhoaaGreatKAEl
set_option linter.unusedVariables false
set_option linter.unusedSimpArgs false
open And renaming intro→ar
open Classical renaming em→aa
open List renaming map_append→cW
namespace Go.Proofs.YtabembjmeobhoaaGreat
open Go.Eng Go.Mod
open Int renaming reduceEq→Z1,reduceLT→Z2,reduceLE→Z3,reduceToNat→Z4
set_option maxRecDepth 100000
set_option maxHeartbeats 3200000
theorem As(b:List Int)(hb:x7 b)(s:dG)(hs:fE s)(p:Int)(h1:0≤p)(h2:p≤900000000):C E.P 92 [.ptr 0 0,av (dX s)] [some (tR b p)] (bN (av (nO (u5 b s p).1)) [some (tR b (u5 b s p).2)]):=by
 have ca:=J0 b hb s hs p h1 h2
 have z:=Qf hb hs h1
 have e1:(u5 b s p).1=⟨(nN b s p).1,decide (da b (nN b s p).2 3=0)⟩:=rfl
 have e2:(u5 b s p).2=(nN b s p).2+1:=rfl
 rw[e1,e2]
 generalize nN b s p=r at *
 refine gS (nt:=12) (rs:=[.cell 4 49]) hm Tryz.func92 fun hl he cI=>?_
 refine oC [] [0] ca ?_
 refine oC [] [0] (na b r.2 3 hb (by omega) (by omega)) ?_
 refine bX [some 0] ?_ rfl rfl
 simp -implicitDefEqProofs only[go_sem]
 all_goals((repeat' apply ar)<;>rfl)
theorem DQ(ab:List bp)(l:bp)(hl1:ab.length≤100):C E.P 67 [.acc 0,av (nO l)] [some (.acc 49 (aZ ab))] (bN (lv (aZ (ab++[l]))) [some (.acc 49 (aZ ab))]):=by
 have hs:aZ (ab++[l])=aZ ab++[nO l]:=by rw[aZ,cW];rfl
 rw[hs]
 refine gS (nt:=11) (rs:=[.tmp 4]) hm Tryz.func67 fun hl he cI=>?_
 refine sQ ?_
 refine bX [some 0] ?_ rfl rfl
 refine sA ?_
 all_goals((repeat' apply ar)<;>rfl)
theorem HZ(b:List Int)(hb:x7 b)(s:dG)(hs:fE s)(p:Int)(h1:0≤p)(h2:p≤800000000):C E.P 89 [.ptr 0 0,av (dX s)] [some (tR b p)] (bN (.acc 1) [some (tR b (wF b s p).2),some (.acc 49 (aZ (wF b s p).1))]):=by
 have hmem:=wM hb (p:=p) (l:=[3,4,5,2,6,1,0]) h1 (by simp)
 simp only[List.mem_cons,List.not_mem_nil,or_false] at hmem
 obtain⟨n,hn⟩:∃n:Nat,jS b p [3,4,5,2,6,1,0]=n:=⟨(jS b p [3,4,5,2,6,1,0]).toNat,by omega⟩
 have hn6:n≤6:=by omega
 have cn:=sr b p [3,4,5,2,6,1,0] hb h1 (by omega) (by simp) (by simp)
 have e:wF b s p=vZ b s n [] (p+1):=by rw[wF,hn];rfl
 rw[hn] at cn
 obtain⟨R,hR⟩:∃R,wF b s p=R:=⟨_,rfl⟩
 rw[hR] at e⊢
 refine gS (nt:=29) (rs:=[.tmp 4]) hm Tryz.func89 fun hl he cI=>?_
 refine oC [] [0] cn ?_
 refine kO hm (fun(k:Nat) (out:List bp) (q:Int)=> k≤n∧out.length+k≤n∧0≤q∧q+k*61≤800001000∧R=vZ b s k out q) (fun(k:Nat) (out:List bp) (q:Int)=> ⟨dB 29 .any [(0,.ptr 0 0),(3,.ptr 1 0),(5,.acc 2),(6,iv k)],[some (tR b q),some (.box (cF (dX s))),some (.acc 49 (aZ out))]⟩) (fun(k:Nat) (out:List bp) (q:Int)=> k) (n) ([]) (p+1) ?_ (aw [some 0,some 1,some 2] ?_ ?_ rfl rfl) ?_
 rotate_left
 ·exact sC
 ·exact sC
 rotate_left
 ·exact⟨Nat.le_refl _,by simp,by omega,by omega,e⟩
 ·rintro k out q ⟨hk,ho,hq0,hq1,hg⟩
  cases k with
  | zero=>
    have k0:¬ (0:Int)<((0:Nat):Int):=by omega
    rw[vZ] at hg
    simp -implicitDefEqProofs only[go_sem,Z2]
    refine bX [some 0,some 2] ?_ rfl rfl
    refine sA ?_
    rw[hg]
    all_goals((repeat' apply ar)<;>rfl)
  | succ k=>
    have k0:(0:Int)<((k+1:Nat):Int):=by omega
    have hl:=As b hb s hs q hq0 (by omega)
    have hlb:=Ou hb hs hq0
    rw[vZ] at hg
    generalize u5 b s q=r at *
    have hw:=DQ out r.1 (by omega)
    have hbo:=yx s (out++[r.1])
    have k1:(0:Int)<(k:Int)+1:=by omega
    have hs1:aZ out++[nO r.1]=aZ (out++[r.1]):=by rw[aZ,aZ,cW];rfl
    simp -implicitDefEqProofs only[go_sem,k1]
    refine oC [] [0] hl ?_
    refine oC [] [2] hw ?_
    refine aC [] hbo ?_
    refine iK ?_
    cases h3:fa s (out++[r.1])
    ·rw[h3,if_neg (by simp)] at hg
     refine sA ?_
     refine sQ ?_
     refine⟨k,out,r.2,?_,sL,aw [some 0,some 1,some 2] ?_ ?_ rfl rfl⟩
     rotate_left
     ·refine sA ?_
      all_goals(simp[*];done)
     ·exact sC
     exact⟨by omega,by omega,by omega,by omega,hg⟩
    ·rw[h3,if_pos rfl] at hg
     refine sA ?_
     refine sQ ?_
     refine⟨k,out++[r.1],r.2,?_,sL,aw [some 0,some 1,some 4] ?_ ?_ rfl rfl⟩
     rotate_left
     ·refine sA ?_
      all_goals(simp[*];done)
     ·refine sA ?_
      all_goals(exact hs1)
     exact⟨by omega,by simp;omega,by omega,by omega,hg⟩
theorem tq(ab:List bp)(l:bp):aZ (ab++[l])=aZ ab++[nO l]:=by rw[aZ,cW];rfl
theorem Hj(b:List Int)(hb:x7 b)(p:Int)(h1:0≤p)(h2:p≤600000000):C E.P 34 [.ptr 0 0] [some (tR b p)] (bN (.ja [av (dX (F4 b p).1),lv (aZ (F4 b p).2.1)]) [some (tR b (F4 b p).2.2)]):=by
 have cs:=Ka b p hb h1 (by omega)
 have hs:fE (NB b p).1:=PD _
 have hsp:(NB b p).2=p+1:=rfl
 obtain⟨R,eR⟩:∃R,F4 b p=R:=⟨_,rfl⟩
 have hR:=eR
 unfold F4 at hR
 rw[eR]
 generalize NB b p=g at *
 obtain⟨s,q⟩:=g
 simp only at hs hsp hR cs
 subst hsp
 have cl:=HZ b hb s hs (p+1) (by omega) (by omega)
 have zl:=XU hb hs (p:=p+1) (by omega)
 generalize wF b s (p+1)=r at *
 obtain⟨ab,q⟩:=r
 simp only at zl hR cl
 have cp:=na b q 48 hb (by omega) (by omega)
 generalize da b q 48=k at *
 refine gT (nt:=48) (rs:=[.cell 2 25,.tmp 3]) hm Tryz.func34 fun hl he cI=>?_
 try simp -implicitDefEqProofs only[go_sem,Z1,Z2,Z3,Z4]
 refine sI ?_
 refine oD [] [0] cs ?_
 refine sI ?_
 try simp -implicitDefEqProofs only[go_sem,Z1,Z2,Z3,Z4]
 refine sI ?_
 refine oD [] [0,3] cl ?_
 refine sI ?_
 try simp -implicitDefEqProofs only[go_sem,Z1,Z2,Z3,Z4]
 refine sI ?_
 refine oD [] [0] cp ?_
 refine sI ?_
 rcases aa (k=0) with k0|k0
 ·have kk0:=eq_true k0
  rw[if_pos k0] at hR
  have ca:=HJ b hb s hs (q+1) (by omega) (by omega)
  try simp -implicitDefEqProofs only[go_sem,Z1,Z2,Z3,Z4,kk0]
  refine sI ?_
  refine oD [] [0] ca ?_
  refine sI ?_
  try simp -implicitDefEqProofs only[go_sem,Z1,Z2,Z3,Z4]
  refine sJ ?_
  refine bX [some 0] ?_ rfl rfl
  refine sB ?_
  rw[←hR]
  exact⟨⟨rfl,tq _ _,rfl⟩,rfl⟩
 rw[if_neg k0] at hR
 rcases aa (k=1) with k1|k1
 ·have kk1:=eq_true k1
  rw[if_pos k1] at hR
  try simp -implicitDefEqProofs only[go_sem,Z1,Z2,Z3,Z4,k0,kk1]
  refine sI ?_
  refine kO hm (fun(n:Nat) (out:List bp) (q2:Int)=> out.length+n=7∧0≤q2∧q2+n*61≤700000000∧R=(s,(E2 b s n out q2).1,(E2 b s n out q2).2)) (fun(n:Nat) (out:List bp) (q2:Int)=> ⟨dB 48 .any [(0,.ptr 0 0),(2,.ptr 1 0),(4,.ptr 2 0),(5,.acc 3)],[some (tR b q2),some (.box [lv []]),some (.box (cF (dX s))),some (.acc 49 (aZ out))]⟩) (fun(n:Nat) (out:List bp) (q2:Int)=> n) (7-ab.length) (ab) (q+1) ?_ (aw [some 0,some 1,some 2,some 3] ?_ ?_ rfl rfl) ?_
  rotate_left
  ·refine sB ?_
   all_goals(first|done|(simp[aq, *];done)|(simp[aq];done)|(simp;omega)|skip)
  ·refine sB ?_
   all_goals(first|done|(simp[aq, *];done)|(simp[aq];done)|(simp;omega)|skip)
  rotate_left
  ·exact⟨by omega,by omega,by omega,hR.symm⟩
  ·rintro n out q2 ⟨hn,hq0,hq1,hg⟩
   cases n with
   | zero=>
     have h7:¬ (out.length:Int)≤6:=by omega
     rw[E2] at hg
     try simp -implicitDefEqProofs only[go_sem,Z1,Z2,Z3,Z4,h7]
     refine sI ?_
     refine bX [some 0] ?_ rfl rfl
     refine sB ?_
     rw[hg]
     all_goals((repeat' apply ar)<;>rfl)
   | succ n=>
     have h7:(out.length:Int)≤6:=by omega
     have hl:=As b hb s hs q2 hq0 (by omega)
     have hlb:=Ou hb hs hq0
     rw[E2] at hg
     generalize u5 b s q2=x at *
     have hs1:aZ out++[nO x.1]=aZ (out++[x.1]):=(tq _ _).symm
     try simp -implicitDefEqProofs only[go_sem,Z1,Z2,Z3,Z4,h7]
     refine sI ?_
     refine oD [] [0] hl ?_
     refine sI ?_
     try simp -implicitDefEqProofs only[go_sem,Z1,Z2,Z3,Z4]
     refine sJ ?_
     refine⟨n,out++[x.1],x.2,?_,sL,aw [some 0,some 1,some 2,some 4] ?_ ?_ rfl rfl⟩
     rotate_left
     ·refine sB ?_
      all_goals(first|done|(exact hs1)|(simp[aq, *];done)|(simp[aq];done)|(simp;omega)|skip)
     ·refine sB ?_
      all_goals(first|done|(exact hs1)|(simp[aq, *];done)|(simp[aq];done)|(simp;omega)|skip)
     exact⟨by simp;omega,by omega,by omega,hg⟩
 rw[if_neg k1] at hR
 rcases aa (k=2) with k2|k2
 ·have kk2:=eq_true k2
  rw[if_pos k2] at hR
  have ca:=yh b hb s (zr hs).1 (zr hs).2 (q+1) (by omega) (by omega)
  have hsm:=Mu (b:=b) hs (q+1)
  have zb:=Wq b s (q+1)
  have cb:=yh b hb (ji b s (q+1)).1 hsm.1 hsm.2 (ji b s (q+1)).2 (by omega) (by omega)
  try simp -implicitDefEqProofs only[go_sem,Z1,Z2,Z3,Z4,k0,k1,kk2]
  refine sI ?_
  refine oD [] [0] ca ?_
  refine sI ?_
  try simp -implicitDefEqProofs only[go_sem,Z1,Z2,Z3,Z4]
  refine sI ?_
  refine oD [] [0] cb ?_
  refine sI ?_
  try simp -implicitDefEqProofs only[go_sem,Z1,Z2,Z3,Z4]
  refine sI ?_
  refine bX [some 0] ?_ rfl rfl
  refine sB ?_
  rw[←hR]
  all_goals((repeat' apply ar)<;>rfl)
 rw[if_neg k2] at hR
 rcases aa (k=3) with k3|k3
 ·have kk3:=eq_true k3
  rw[if_pos k3] at hR
  try simp -implicitDefEqProofs only[go_sem,Z1,Z2,Z3,Z4,k0,k1,k2,kk3]
  refine sJ ?_
  refine bX [some 0] ?_ rfl rfl
  refine sB ?_
  rw[←hR]
  exact⟨⟨rfl,tq _ _,rfl⟩,rfl⟩
 ·rw[if_neg k3] at hR
  try simp -implicitDefEqProofs only[go_sem,Z1,Z2,Z3,Z4,k0,k1,k2,k3]
  refine sI ?_
  refine bX [some 0] ?_ rfl rfl
  refine sB ?_
  rw[←hR]
  all_goals((repeat' apply ar)<;>rfl)
theorem Hk(b:List Int)(hb:∀x∈b,0≤x∧x≤255)(oU:b.length≤2000000):C E.P 15 [lv (Qu b)] [] (bN (.ja [av (dX (Nc (b.take 2000)).1),lv (aZ (Nc (b.take 2000)).2)]) []):=by
 have hO:=Zw hb
 obtain⟨c,hc⟩:∃c,b.take 2000=c:=⟨_,rfl⟩
 have c1:=FD b hb oU
 rw[hc] at hO c1⊢
 have c2:=Hj c hO 0 (by omega) (by omega)
 refine gT (nt:=9) (rs:=[.cell 2 25,.tmp 3]) hm Tryz.func15 fun hl he cI=>?_
 refine oD [] [1] c1 ?_
 refine sI ?_
 refine oD [] [1] c2 ?_
 refine sI ?_
 try simp -implicitDefEqProofs only[go_sem,Z1,Z2,Z3,Z4]
 refine sI ?_
 refine an ?_
 refine sB ?_
 all_goals((repeat' apply ar)<;>rfl)
theorem zB(b:List Int)(hb:∀x∈b,0≤x∧x≤255)(oU:b.length≤2000000):C E.P 7 [lv (Qu b)] [] (bN (.ja [av (dX (Nc (b.take 2000)).1),lv (aZ (Nc (b.take 2000)).2)]) []):=by
 refine gT (nt:=8) (rs:=[.cell 2 25,.tmp 3]) hm Tryz.func7 fun hl he cI=>?_
 refine aD [] (Hk b hb oU) ?_
 refine sI ?_
 try simp -implicitDefEqProofs only[go_sem,Z1,Z2,Z3,Z4]
 refine sI ?_
 refine an ?_
 simp -implicitDefEqProofs only[go_sem,Z1,Z2,Z3,Z4]
 all_goals((repeat' apply ar)<;>rfl)
end Go.Proofs.YtabembjmeobhoaaGreat
