/-
  The reference: draws of literals to be decided. A step towards the laws.
-/
import Derived.Test.YtabembjmeobhoaaGreatKByc
import Derived.Test.YtabembjmeobhoaaGreatKBEl
set_option linter.unusedVariables false
set_option linter.unusedSimpArgs false
open And renaming intro→ar
open Classical renaming em→aa
open List renaming map_append→cP
namespace Go.Proofs.YtabembjmeobhoaaGreat
open Go.Eng Go.Mod
open Int renaming reduceEq→Z1,reduceLT→Z2,reduceLE→Z3,reduceToNat→Z4
set_option maxRecDepth 100000
set_option maxHeartbeats 3200000
theorem Bj(b:List Int)(hb:x6 b)(s:dE)(hs:fC s)(p:Int)(h1:0≤p)(h2:p≤900000000):C E.P 92 [.ptr 0 0,av (dZ s)] [some (uo b p)] (bM (av (np (vn b s p).1)) [some (uo b (vn b s p).2)]):=by
 have ca:=KE b hb s hs p h1 h2
 have z:=OH hb hs h1
 have e1:(vn b s p).1=⟨(nM b s p).1,decide (de b (nM b s p).2 3=0)⟩:=rfl
 have e2:(vn b s p).2=(nM b s p).2+1:=rfl
 rw[e1,e2]
 generalize nM b s p=r at *
 refine gS (nt:=12) (rs:=[.cell 4 49]) hm Tryz.func92 fun hl he cI=>?_
 refine oC [] [0] ca ?_
 refine oC [] [0] (nb b r.2 3 hb (by omega) (by omega)) ?_
 refine bX [some 0] ?_ rfl rfl
 simp -implicitDefEqProofs only[go_sem]
 all_goals((repeat' apply ar)<;>rfl)
theorem DW(ab:List bp)(l:bp)(hl1:ab.length≤100):C E.P 67 [.acc 0,av (np l)] [some (.acc 49 (a6 ab))] (bM (lv (a6 (ab++[l]))) [some (.acc 49 (a6 ab))]):=by
 have hs:a6 (ab++[l])=a6 ab++[np l]:=by rw[a6,cP];rfl
 rw[hs]
 refine gS (nt:=11) (rs:=[.tmp 4]) hm Tryz.func67 fun hl he cI=>?_
 refine sQ ?_
 refine bX [some 0] ?_ rfl rfl
 refine sA ?_
 all_goals((repeat' apply ar)<;>rfl)
theorem H6(b:List Int)(hb:x6 b)(s:dE)(hs:fC s)(p:Int)(h1:0≤p)(h2:p≤800000000):C E.P 89 [.ptr 0 0,av (dZ s)] [some (uo b p)] (bM (.acc 1) [some (uo b (xl b s p).2),some (.acc 49 (a6 (xl b s p).1))]):=by
 have hmem:=wU hb (p:=p) (l:=[3,4,5,2,6,1,0]) h1 (by simp)
 simp only[List.mem_cons,List.not_mem_nil,or_false] at hmem
 obtain⟨n,hn⟩:∃n:Nat,jR b p [3,4,5,2,6,1,0]=n:=⟨(jR b p [3,4,5,2,6,1,0]).toNat,by omega⟩
 have hn6:n≤6:=by omega
 have cn:=sE b p [3,4,5,2,6,1,0] hb h1 (by omega) (by simp) (by simp)
 have e:xl b s p=vZ b s n [] (p+1):=by rw[xl,hn];rfl
 rw[hn] at cn
 obtain⟨R,hR⟩:∃R,xl b s p=R:=⟨_,rfl⟩
 rw[hR] at e⊢
 refine gS (nt:=29) (rs:=[.tmp 4]) hm Tryz.func89 fun hl he cI=>?_
 refine oC [] [0] cn ?_
 refine kS hm (fun(k:Nat) (out:List bp) (q:Int)=> k≤n∧out.length+k≤n∧0≤q∧q+k*61≤800001000∧R=vZ b s k out q) (fun(k:Nat) (out:List bp) (q:Int)=> ⟨dB 29 .any [(0,.ptr 0 0),(3,.ptr 1 0),(5,.acc 2),(6,iv k)],[some (uo b q),some (.box (cF (dZ s))),some (.acc 49 (a6 out))]⟩) (fun(k:Nat) (out:List bp) (q:Int)=> k) (n) ([]) (p+1) ?_ (aw [some 0,some 1,some 2] ?_ ?_ rfl rfl) ?_
 rotate_left
 ·exact sC
 ·exact sC
 rotate_left
 ·exact⟨Nat.le_refl _,by simp,by omega,by omega,e⟩
 ·rintro k out q ⟨hk,ho,hq0,hq1,hg⟩
  cases k with
  | zero=>
    have k0:¬ (0:Int)<((0:Nat):Int):=by omega
    rw[vZ] at hg
    simp -implicitDefEqProofs only[go_sem,Z2]
    refine bX [some 0,some 2] ?_ rfl rfl
    refine sA ?_
    rw[hg]
    all_goals((repeat' apply ar)<;>rfl)
  | succ k=>
    have k0:(0:Int)<((k+1:Nat):Int):=by omega
    have hl:=Bj b hb s hs q hq0 (by omega)
    have hlb:=P8 hb hs hq0
    rw[vZ] at hg
    generalize vn b s q=r at *
    have hw:=DW out r.1 (by omega)
    have hbo:=yp s (out++[r.1])
    have k1:(0:Int)<(k:Int)+1:=by omega
    have hs1:a6 out++[np r.1]=a6 (out++[r.1]):=by rw[a6,a6,cP];rfl
    simp -implicitDefEqProofs only[go_sem,k1]
    refine oC [] [0] hl ?_
    refine oC [] [2] hw ?_
    refine aC [] hbo ?_
    refine iK ?_
    cases h3:eZ s (out++[r.1])
    ·rw[h3,if_neg (by simp)] at hg
     refine sA ?_
     refine sQ ?_
     refine⟨k,out,r.2,?_,sL,aw [some 0,some 1,some 2] ?_ ?_ rfl rfl⟩
     rotate_left
     ·refine sA ?_
      all_goals(simp[*];done)
     ·exact sC
     exact⟨by omega,by omega,by omega,by omega,hg⟩
    ·rw[h3,if_pos rfl] at hg
     refine sA ?_
     refine sQ ?_
     refine⟨k,out++[r.1],r.2,?_,sL,aw [some 0,some 1,some 4] ?_ ?_ rfl rfl⟩
     rotate_left
     ·refine sA ?_
      all_goals(simp[*];done)
     ·refine sA ?_
      all_goals(exact hs1)
     exact⟨by omega,by simp;omega,by omega,by omega,hg⟩
theorem tv(ab:List bp)(l:bp):a6 (ab++[l])=a6 ab++[np l]:=by rw[a6,cP];rfl
theorem H2(b:List Int)(hb:x6 b)(p:Int)(h1:0≤p)(h2:p≤600000000):C E.P 34 [.ptr 0 0] [some (uo b p)] (bM (.jd [av (dZ (FE b p).1),lv (a6 (FE b p).2.1)]) [some (uo b (FE b p).2.2)]):=by
 have cs:=K4 b p hb h1 (by omega)
 have hs:fC (Ms b p).1:=O9 _
 have hsp:(Ms b p).2=p+1:=rfl
 obtain⟨R,eR⟩:∃R,FE b p=R:=⟨_,rfl⟩
 have hR:=eR
 unfold FE at hR
 rw[eR]
 generalize Ms b p=g at *
 obtain⟨s,q⟩:=g
 simp only at hs hsp hR cs
 subst hsp
 have cl:=H6 b hb s hs (p+1) (by omega) (by omega)
 have zl:=W8 hb hs (p:=p+1) (by omega)
 generalize xl b s (p+1)=r at *
 obtain⟨ab,q⟩:=r
 simp only at zl hR cl
 have cp:=nb b q 48 hb (by omega) (by omega)
 generalize de b q 48=k at *
 refine gT (nt:=48) (rs:=[.cell 2 25,.tmp 3]) hm Tryz.func34 fun hl he cI=>?_
 try simp -implicitDefEqProofs only[go_sem,Z1,Z2,Z3,Z4]
 refine sI ?_
 refine oD [] [0] cs ?_
 refine sI ?_
 try simp -implicitDefEqProofs only[go_sem,Z1,Z2,Z3,Z4]
 refine sI ?_
 refine oD [] [0,3] cl ?_
 refine sI ?_
 try simp -implicitDefEqProofs only[go_sem,Z1,Z2,Z3,Z4]
 refine sI ?_
 refine oD [] [0] cp ?_
 refine sI ?_
 rcases aa (k=0) with k0|k0
 ·have kk0:=eq_true k0
  rw[if_pos k0] at hR
  have ca:=Hz b hb s hs (q+1) (by omega) (by omega)
  try simp -implicitDefEqProofs only[go_sem,Z1,Z2,Z3,Z4,kk0]
  refine sI ?_
  refine oD [] [0] ca ?_
  refine sI ?_
  try simp -implicitDefEqProofs only[go_sem,Z1,Z2,Z3,Z4]
  refine sJ ?_
  refine bX [some 0] ?_ rfl rfl
  refine sB ?_
  rw[←hR]
  exact⟨⟨rfl,tv _ _,rfl⟩,rfl⟩
 rw[if_neg k0] at hR
 rcases aa (k=1) with k1|k1
 ·have kk1:=eq_true k1
  rw[if_pos k1] at hR
  try simp -implicitDefEqProofs only[go_sem,Z1,Z2,Z3,Z4,k0,kk1]
  refine sI ?_
  refine kS hm (fun(n:Nat) (out:List bp) (q2:Int)=> out.length+n=7∧0≤q2∧q2+n*61≤700000000∧R=(s,(FO b s n out q2).1,(FO b s n out q2).2)) (fun(n:Nat) (out:List bp) (q2:Int)=> ⟨dB 48 .any [(0,.ptr 0 0),(2,.ptr 1 0),(4,.ptr 2 0),(5,.acc 3)],[some (uo b q2),some (.box [lv []]),some (.box (cF (dZ s))),some (.acc 49 (a6 out))]⟩) (fun(n:Nat) (out:List bp) (q2:Int)=> n) (7-ab.length) (ab) (q+1) ?_ (aw [some 0,some 1,some 2,some 3] ?_ ?_ rfl rfl) ?_
  rotate_left
  ·refine sB ?_
   all_goals(first|done|(simp[aq, *];done)|(simp[aq];done)|(simp;omega)|skip)
  ·refine sB ?_
   all_goals(first|done|(simp[aq, *];done)|(simp[aq];done)|(simp;omega)|skip)
  rotate_left
  ·exact⟨by omega,by omega,by omega,hR.symm⟩
  ·rintro n out q2 ⟨hn,hq0,hq1,hg⟩
   cases n with
   | zero=>
     have h7:¬ (out.length:Int)≤6:=by omega
     rw[FO] at hg
     try simp -implicitDefEqProofs only[go_sem,Z1,Z2,Z3,Z4,h7]
     refine sI ?_
     refine bX [some 0] ?_ rfl rfl
     refine sB ?_
     rw[hg]
     all_goals((repeat' apply ar)<;>rfl)
   | succ n=>
     have h7:(out.length:Int)≤6:=by omega
     have hl:=Bj b hb s hs q2 hq0 (by omega)
     have hlb:=P8 hb hs hq0
     rw[FO] at hg
     generalize vn b s q2=x at *
     have hs1:a6 out++[np x.1]=a6 (out++[x.1]):=(tv _ _).symm
     try simp -implicitDefEqProofs only[go_sem,Z1,Z2,Z3,Z4,h7]
     refine sI ?_
     refine oD [] [0] hl ?_
     refine sI ?_
     try simp -implicitDefEqProofs only[go_sem,Z1,Z2,Z3,Z4]
     refine sJ ?_
     refine⟨n,out++[x.1],x.2,?_,sL,aw [some 0,some 1,some 2,some 4] ?_ ?_ rfl rfl⟩
     rotate_left
     ·refine sB ?_
      all_goals(first|done|(exact hs1)|(simp[aq, *];done)|(simp[aq];done)|(simp;omega)|skip)
     ·refine sB ?_
      all_goals(first|done|(exact hs1)|(simp[aq, *];done)|(simp[aq];done)|(simp;omega)|skip)
     exact⟨by simp;omega,by omega,by omega,hg⟩
 rw[if_neg k1] at hR
 rcases aa (k=2) with k2|k2
 ·have kk2:=eq_true k2
  rw[if_pos k2] at hR
  have ca:=yA b hb s (zE hs).1 (zE hs).2 (q+1) (by omega) (by omega)
  have hsm:=ME (b:=b) hs (q+1)
  have zb:=Wq b s (q+1)
  have cb:=yA b hb (jj b s (q+1)).1 hsm.1 hsm.2 (jj b s (q+1)).2 (by omega) (by omega)
  try simp -implicitDefEqProofs only[go_sem,Z1,Z2,Z3,Z4,k0,k1,kk2]
  refine sI ?_
  refine oD [] [0] ca ?_
  refine sI ?_
  try simp -implicitDefEqProofs only[go_sem,Z1,Z2,Z3,Z4]
  refine sI ?_
  refine oD [] [0] cb ?_
  refine sI ?_
  try simp -implicitDefEqProofs only[go_sem,Z1,Z2,Z3,Z4]
  refine sI ?_
  refine bX [some 0] ?_ rfl rfl
  refine sB ?_
  rw[←hR]
  all_goals((repeat' apply ar)<;>rfl)
 rw[if_neg k2] at hR
 rcases aa (k=3) with k3|k3
 ·have kk3:=eq_true k3
  rw[if_pos k3] at hR
  try simp -implicitDefEqProofs only[go_sem,Z1,Z2,Z3,Z4,k0,k1,k2,kk3]
  refine sJ ?_
  refine bX [some 0] ?_ rfl rfl
  refine sB ?_
  rw[←hR]
  exact⟨⟨rfl,tv _ _,rfl⟩,rfl⟩
 ·rw[if_neg k3] at hR
  try simp -implicitDefEqProofs only[go_sem,Z1,Z2,Z3,Z4,k0,k1,k2,k3]
  refine sI ?_
  refine bX [some 0] ?_ rfl rfl
  refine sB ?_
  rw[←hR]
  all_goals((repeat' apply ar)<;>rfl)
theorem Hb(b:List Int)(hb:∀x∈b,0≤x∧x≤255)(oW:b.length≤2000000):C E.P 15 [lv (RS b)] [] (bM (.jd [av (dZ (LN (b.take 2000)).1),lv (a6 (LN (b.take 2000)).2)]) []):=by
 have hO:=ZJ hb
 obtain⟨c,hc⟩:∃c,b.take 2000=c:=⟨_,rfl⟩
 have c1:=Fi b hb oW
 rw[hc] at hO c1⊢
 have c2:=H2 c hO 0 (by omega) (by omega)
 refine gT (nt:=9) (rs:=[.cell 2 25,.tmp 3]) hm Tryz.func15 fun hl he cI=>?_
 refine oD [] [1] c1 ?_
 refine sI ?_
 refine oD [] [1] c2 ?_
 refine sI ?_
 try simp -implicitDefEqProofs only[go_sem,Z1,Z2,Z3,Z4]
 refine sI ?_
 refine an ?_
 refine sB ?_
 all_goals((repeat' apply ar)<;>rfl)
theorem y8(b:List Int)(hb:∀x∈b,0≤x∧x≤255)(oW:b.length≤2000000):C E.P 7 [lv (RS b)] [] (bM (.jd [av (dZ (LN (b.take 2000)).1),lv (a6 (LN (b.take 2000)).2)]) []):=by
 refine gT (nt:=8) (rs:=[.cell 2 25,.tmp 3]) hm Tryz.func7 fun hl he cI=>?_
 refine aD [] (Hb b hb oW) ?_
 refine sI ?_
 try simp -implicitDefEqProofs only[go_sem,Z1,Z2,Z3,Z4]
 refine sI ?_
 refine an ?_
 simp -implicitDefEqProofs only[go_sem,Z1,Z2,Z3,Z4]
 all_goals((repeat' apply ar)<;>rfl)
end Go.Proofs.YtabembjmeobhoaaGreat
