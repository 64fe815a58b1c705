/-
  The reference: draws of literals to be decided. A step towards the laws.
-/
import Derived.Test.YtabembjmeobhoaaGreatKDyc
import Derived.Test.YtabembjmeobhoaaGreatKDEl
set_option linter.unusedVariables false
set_option linter.unusedSimpArgs false
open And renaming intro→au
open Classical renaming em→aa
open List renaming map_append→cL
namespace Go.Proofs.YtabembjmeobhoaaGreat
open Go.Eng Go.Mod
open Int renaming reduceEq→Z1,reduceLT→Z2,reduceLE→Z3,reduceToNat→Z4
set_option maxRecDepth 100000
set_option maxHeartbeats 3200000
theorem B7(b:List Int)(hb:yU b)(s:dK)(hs:fM s)(p:Int)(h1:0≤p)(h2:p≤900000000):C E.P 92 [.ptr 0 0,av (dV s)] [some (uj b p)] (bz (av (nW (vx b s p).1)) [some (uj b (vx b s p).2)]):=by
 have ca:=KS b hb s hs p h1 h2
 have z:=Pm hb hs h1
 have e1:(vx b s p).1=⟨(nV b s p).1,decide (dk b (nV b s p).2 3=0)⟩:=rfl
 have e2:(vx b s p).2=(nV b s p).2+1:=rfl
 rw[e1,e2]
 generalize nV b s p=r at *
 refine gS (nt:=12) (rs:=[.cell 4 49]) hm Tryz.func92 fun hl he cq=>?_
 refine oC [] [0] ca ?_
 refine oC [] [0] (nk b r.2 3 hb (by omega) (by omega)) ?_
 refine bZ [some 0] ?_ rfl rfl
 simp -implicitDefEqProofs only[go_sem]
 all_goals((repeat' apply au)<;>rfl)
theorem EO(ab:List bm)(l:bm)(hl1:ab.length≤100):C E.P 67 [.acc 0,av (nW l)] [some (.acc 49 (aV ab))] (bz (lv (aV (ab++[l]))) [some (.acc 49 (aV ab))]):=by
 have hs:aV (ab++[l])=aV ab++[nW l]:=by rw[aV,cL];rfl
 rw[hs]
 refine gS (nt:=11) (rs:=[.tmp 4]) hm Tryz.func67 fun hl he cq=>?_
 refine sQ ?_
 refine bZ [some 0] ?_ rfl rfl
 refine sA ?_
 all_goals((repeat' apply au)<;>rfl)
theorem Iw(b:List Int)(hb:yU b)(s:dK)(hs:fM s)(p:Int)(h1:0≤p)(h2:p≤800000000):C E.P 89 [.ptr 0 0,av (dV s)] [some (uj b p)] (bz (.acc 1) [some (uj b (xt b s p).2),some (.acc 49 (aV (xt b s p).1))]):=by
 have hmem:=xK hb (p:=p) (l:=[3,4,5,2,6,1,0]) h1 (by simp)
 simp only[List.mem_cons,List.not_mem_nil,or_false] at hmem
 obtain⟨n,hn⟩:∃n:Nat,jV b p [3,4,5,2,6,1,0]=n:=⟨(jV b p [3,4,5,2,6,1,0]).toNat,by omega⟩
 have hn6:n≤6:=by omega
 have cn:=tj b p [3,4,5,2,6,1,0] hb h1 (by omega) (by simp) (by simp)
 have e:xt b s p=xD b s n [] (p+1):=by rw[xt,hn];rfl
 rw[hn] at cn
 obtain⟨R,hR⟩:∃R,xt b s p=R:=⟨_,rfl⟩
 rw[hR] at e⊢
 refine gS (nt:=29) (rs:=[.tmp 4]) hm Tryz.func89 fun hl he cq=>?_
 refine oC [] [0] cn ?_
 refine kS hm (fun(k:Nat) (out:List bm) (q:Int)=> k≤n∧out.length+k≤n∧0≤q∧q+k*61≤800001000∧R=xD b s k out q) (fun(k:Nat) (out:List bm) (q:Int)=> ⟨dx 29 .any [(0,.ptr 0 0),(3,.ptr 1 0),(5,.acc 2),(6,iv k)],[some (uj b q),some (.box (cE (dV s))),some (.acc 49 (aV out))]⟩) (fun(k:Nat) (out:List bm) (q:Int)=> k) (n) ([]) (p+1) ?_ (ar [some 0,some 1,some 2] ?_ ?_ rfl rfl) ?_
 rotate_left
 ·exact sC
 ·exact sC
 rotate_left
 ·exact⟨Nat.le_refl _,by simp,by omega,by omega,e⟩
 ·rintro k out q ⟨hk,ho,hq0,hq1,hg⟩
  cases k with
  | zero=>
    have k0:¬ (0:Int)<((0:Nat):Int):=by omega
    rw[xD] at hg
    simp -implicitDefEqProofs only[go_sem,Z2]
    refine bZ [some 0,some 2] ?_ rfl rfl
    refine sA ?_
    rw[hg]
    all_goals((repeat' apply au)<;>rfl)
  | succ k=>
    have k0:(0:Int)<((k+1:Nat):Int):=by omega
    have hl:=B7 b hb s hs q hq0 (by omega)
    have hlb:=PH hb hs hq0
    rw[xD] at hg
    generalize vx b s q=r at *
    have hw:=EO out r.1 (by omega)
    have hbo:=yZ s (out++[r.1])
    have k1:(0:Int)<(k:Int)+1:=by omega
    have hs1:aV out++[nW r.1]=aV (out++[r.1]):=by rw[aV,aV,cL];rfl
    simp -implicitDefEqProofs only[go_sem,k1]
    refine oC [] [0] hl ?_
    refine oC [] [2] hw ?_
    refine aC [] hbo ?_
    refine iK ?_
    cases h3:fe s (out++[r.1])
    ·rw[h3,if_neg (by simp)] at hg
     refine sA ?_
     refine sQ ?_
     refine⟨k,out,r.2,?_,sL,ar [some 0,some 1,some 2] ?_ ?_ rfl rfl⟩
     rotate_left
     ·refine sA ?_
      all_goals(simp[*];done)
     ·exact sC
     exact⟨by omega,by omega,by omega,by omega,hg⟩
    ·rw[h3,if_pos rfl] at hg
     refine sA ?_
     refine sQ ?_
     refine⟨k,out++[r.1],r.2,?_,sL,ar [some 0,some 1,some 4] ?_ ?_ rfl rfl⟩
     rotate_left
     ·refine sA ?_
      all_goals(simp[*];done)
     ·refine sA ?_
      all_goals(exact hs1)
     exact⟨by omega,by simp;omega,by omega,by omega,hg⟩
theorem tX(ab:List bm)(l:bm):aV (ab++[l])=aV ab++[nW l]:=by rw[aV,cL];rfl
theorem IG(b:List Int)(hb:yU b)(p:Int)(h1:0≤p)(h2:p≤600000000):C E.P 34 [.ptr 0 0] [some (uj b p)] (bz (.gV [av (dV (HD b p).1),lv (aV (HD b p).2.1)]) [some (uj b (HD b p).2.2)]):=by
 have cs:=L2 b p hb h1 (by omega)
 have hs:fM (NZ b p).1:=P1 _
 have hsp:(NZ b p).2=p+1:=rfl
 obtain⟨R,eR⟩:∃R,HD b p=R:=⟨_,rfl⟩
 have hR:=eR
 unfold HD at hR
 rw[eR]
 generalize NZ b p=g at *
 obtain⟨s,q⟩:=g
 simp only at hs hsp hR cs
 subst hsp
 have cl:=Iw b hb s hs (p+1) (by omega) (by omega)
 have zl:=XG hb hs (p:=p+1) (by omega)
 generalize xt b s (p+1)=r at *
 obtain⟨ab,q⟩:=r
 simp only at zl hR cl
 have cp:=nk b q 48 hb (by omega) (by omega)
 generalize dk b q 48=k at *
 refine gT (nt:=48) (rs:=[.cell 2 25,.tmp 3]) hm Tryz.func34 fun hl he cq=>?_
 try simp -implicitDefEqProofs only[go_sem,Z1,Z2,Z3,Z4]
 refine sI ?_
 refine oD [] [0] cs ?_
 refine sI ?_
 try simp -implicitDefEqProofs only[go_sem,Z1,Z2,Z3,Z4]
 refine sI ?_
 refine oD [] [0,3] cl ?_
 refine sI ?_
 try simp -implicitDefEqProofs only[go_sem,Z1,Z2,Z3,Z4]
 refine sI ?_
 refine oD [] [0] cp ?_
 refine sI ?_
 rcases aa (k=0) with k0|k0
 ·have kk0:=eq_true k0
  rw[if_pos k0] at hR
  have ca:=Iq b hb s hs (q+1) (by omega) (by omega)
  try simp -implicitDefEqProofs only[go_sem,Z1,Z2,Z3,Z4,kk0]
  refine sI ?_
  refine oD [] [0] ca ?_
  refine sI ?_
  try simp -implicitDefEqProofs only[go_sem,Z1,Z2,Z3,Z4]
  refine sJ ?_
  refine bZ [some 0] ?_ rfl rfl
  refine sB ?_
  rw[←hR]
  exact⟨⟨rfl,tX _ _,rfl⟩,rfl⟩
 rw[if_neg k0] at hR
 rcases aa (k=1) with k1|k1
 ·have kk1:=eq_true k1
  rw[if_pos k1] at hR
  try simp -implicitDefEqProofs only[go_sem,Z1,Z2,Z3,Z4,k0,kk1]
  refine sI ?_
  refine kS hm (fun(n:Nat) (out:List bm) (q2:Int)=> out.length+n=7∧0≤q2∧q2+n*61≤700000000∧R=(s,(HR b s n out q2).1,(HR b s n out q2).2)) (fun(n:Nat) (out:List bm) (q2:Int)=> ⟨dx 48 .any [(0,.ptr 0 0),(2,.ptr 1 0),(4,.ptr 2 0),(5,.acc 3)],[some (uj b q2),some (.box [lv []]),some (.box (cE (dV s))),some (.acc 49 (aV out))]⟩) (fun(n:Nat) (out:List bm) (q2:Int)=> n) (7-ab.length) (ab) (q+1) ?_ (ar [some 0,some 1,some 2,some 3] ?_ ?_ rfl rfl) ?_
  rotate_left
  ·refine sB ?_
   all_goals(try exact sM)
  ·refine sB ?_
   all_goals(try exact sM)
  rotate_left
  ·exact⟨by omega,by omega,by omega,hR.symm⟩
  ·rintro n out q2 ⟨hn,hq0,hq1,hg⟩
   cases n with
   | zero=>
     have h7:¬ (out.length:Int)≤6:=by omega
     rw[HR] at hg
     try simp -implicitDefEqProofs only[go_sem,Z1,Z2,Z3,Z4,h7]
     refine sI ?_
     refine bZ [some 0] ?_ rfl rfl
     refine sB ?_
     rw[hg]
     all_goals((repeat' apply au)<;>rfl)
   | succ n=>
     have h7:(out.length:Int)≤6:=by omega
     have hl:=B7 b hb s hs q2 hq0 (by omega)
     have hlb:=PH hb hs hq0
     rw[HR] at hg
     generalize vx b s q2=x at *
     have hs1:aV out++[nW x.1]=aV (out++[x.1]):=(tX _ _).symm
     try simp -implicitDefEqProofs only[go_sem,Z1,Z2,Z3,Z4,h7]
     refine sI ?_
     refine oD [] [0] hl ?_
     refine sI ?_
     try simp -implicitDefEqProofs only[go_sem,Z1,Z2,Z3,Z4]
     refine sJ ?_
     refine⟨n,out++[x.1],x.2,?_,sL,ar [some 0,some 1,some 2,some 4] ?_ ?_ rfl rfl⟩
     rotate_left
     ·refine sB ?_
      all_goals(first|done|(exact hs1)|(simp[aI, *];done)|(simp[aI];done)|(simp;omega)|skip)
     ·refine sB ?_
      all_goals(first|done|(exact hs1)|(simp[aI, *];done)|(simp[aI];done)|(simp;omega)|skip)
     exact⟨by simp;omega,by omega,by omega,hg⟩
 rw[if_neg k1] at hR
 rcases aa (k=2) with k2|k2
 ·have kk2:=eq_true k2
  rw[if_pos k2] at hR
  have ca:=yY b hb s (AA hs).1 (AA hs).2 (q+1) (by omega) (by omega)
  have hsm:=M6 (b:=b) hs (q+1)
  have zb:=Yf b s (q+1)
  have cb:=yY b hb (ji b s (q+1)).1 hsm.1 hsm.2 (ji b s (q+1)).2 (by omega) (by omega)
  try simp -implicitDefEqProofs only[go_sem,Z1,Z2,Z3,Z4,k0,k1,kk2]
  refine sI ?_
  refine oD [] [0] ca ?_
  refine sI ?_
  try simp -implicitDefEqProofs only[go_sem,Z1,Z2,Z3,Z4]
  refine sI ?_
  refine oD [] [0] cb ?_
  refine sI ?_
  try simp -implicitDefEqProofs only[go_sem,Z1,Z2,Z3,Z4]
  refine sI ?_
  refine bZ [some 0] ?_ rfl rfl
  refine sB ?_
  rw[←hR]
  all_goals((repeat' apply au)<;>rfl)
 rw[if_neg k2] at hR
 rcases aa (k=3) with k3|k3
 ·have kk3:=eq_true k3
  rw[if_pos k3] at hR
  try simp -implicitDefEqProofs only[go_sem,Z1,Z2,Z3,Z4,k0,k1,k2,kk3]
  refine sJ ?_
  refine bZ [some 0] ?_ rfl rfl
  refine sB ?_
  rw[←hR]
  exact⟨⟨rfl,tX _ _,rfl⟩,rfl⟩
 ·rw[if_neg k3] at hR
  try simp -implicitDefEqProofs only[go_sem,Z1,Z2,Z3,Z4,k0,k1,k2,k3]
  refine sI ?_
  refine bZ [some 0] ?_ rfl rfl
  refine sB ?_
  rw[←hR]
  all_goals((repeat' apply au)<;>rfl)
theorem IQ(b:List Int)(hb:∀x∈b,0≤x∧x≤255)(o5:b.length≤2000000):C E.P 15 [lv (Sl b)] [] (bz (.gV [av (dV (No (b.take 2000)).1),lv (aV (No (b.take 2000)).2)]) []):=by
 have hO:=aaa hb
 obtain⟨c,hc⟩:∃c,b.take 2000=c:=⟨_,rfl⟩
 have c1:=Fx b hb o5
 rw[hc] at hO c1⊢
 have c2:=IG c hO 0 (by omega) (by omega)
 refine gT (nt:=9) (rs:=[.cell 2 25,.tmp 3]) hm Tryz.func15 fun hl he cq=>?_
 refine oD [] [1] c1 ?_
 refine sI ?_
 refine oD [] [1] c2 ?_
 refine sI ?_
 try simp -implicitDefEqProofs only[go_sem,Z1,Z2,Z3,Z4]
 refine sI ?_
 refine an ?_
 refine sB ?_
 all_goals((repeat' apply au)<;>rfl)
theorem Am(b:List Int)(hb:∀x∈b,0≤x∧x≤255)(o5:b.length≤2000000):C E.P 7 [lv (Sl b)] [] (bz (.gV [av (dV (No (b.take 2000)).1),lv (aV (No (b.take 2000)).2)]) []):=by
 refine gT (nt:=8) (rs:=[.cell 2 25,.tmp 3]) hm Tryz.func7 fun hl he cq=>?_
 refine aD [] (IQ b hb o5) ?_
 refine sI ?_
 try simp -implicitDefEqProofs only[go_sem,Z1,Z2,Z3,Z4]
 refine sI ?_
 refine an ?_
 simp -implicitDefEqProofs only[go_sem,Z1,Z2,Z3,Z4]
 all_goals((repeat' apply au)<;>rfl)
end Go.Proofs.YtabembjmeobhoaaGreat
