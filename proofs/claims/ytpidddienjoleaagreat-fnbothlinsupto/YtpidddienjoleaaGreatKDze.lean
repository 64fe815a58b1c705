/-
  The reference: draws of literals to be decided. A step towards the laws.
-/
import Derived.Test.YtpidddienjoleaaGreatKDyc
import Derived.Test.YtpidddienjoleaaGreatKDP
import Derived.Test.YtpidddienjoleaaGreatKDEl
import Derived.Test.YtpidddienjoleaaGreatKDyb
import Derived.Test.YtpidddienjoleaaGreatKDT
set_option linter.unusedVariables false
set_option linter.unusedSimpArgs false
namespace Go.Proofs.YtpidddienjoleaaGreat
open Go.Eng Go.Mod
open Int renaming reduceEq→Z1,reduceLT→Z2,reduceLE→Z3,reduceToNat→Z4
set_option maxRecDepth 100000
set_option maxHeartbeats 3200000
theorem sN(b:List Int)(hb:qz b)(s:bA)(hs:bP s)(p:Int)(h1:0≤p)(h2:p≤900000000):C E.P 149 [.ptr 0 0,av (bF s)] [some (mU b p)] (aO (av (kh (nS b s p).1)) [some (mU b (nS b s p).2)]):=by
 have ca:=CV b hb s hs p h1 h2
 have z:=F3 hb hs h1
 have e1:(nS b s p).1=⟨(gI b s p).1,decide (a6 b (gI b s p).2 3=0)⟩:=rfl
 have e2:(nS b s p).2=(gI b s p).2+1:=rfl
 rw[e1,e2]
 generalize gI b s p=r at *
 refine gS (nt:=12) (rs:=[.cell 4 48]) hm Tryz.func149 fun hl he hLB=>?_
 refine oC [] [0] ca ?_
 refine oC [] [0] (gn b r.2 3 hb (by omega) (by omega)) ?_
 refine aG [some 0] ?_ rfl rfl
 simp -implicitDefEqProofs only[go_sem]
 all_goals((repeat' apply And.intro)<;>rfl)
theorem wC(lits:List aE)(l:aE)(hl1:lits.length≤100):C E.P 207 [.acc 0,av (kh l)] [some (.acc 48 (ay lits))] (aO (lv (ay (lits++[l]))) [some (.acc 48 (ay lits))]):=by
 have hs:ay (lits++[l])=ay lits++[kh l]:=by rw[ay,List.map_append];rfl
 rw[hs]
 refine gS (nt:=11) (rs:=[.tmp 4]) hm Tryz.func207 fun hl he hLB=>?_
 repeat(with_reducible apply And.intro;exact sO)
 refine aG [some 0] ?_ rfl rfl
 refine sA ?_
 all_goals((repeat' apply And.intro)<;>rfl)
theorem Ax(b:List Int)(hb:qz b)(s:bA)(hs:bP s)(p:Int)(h1:0≤p)(h2:p≤800000000):C E.P 146 [.ptr 0 0,av (bF s)] [some (mU b p)] (aO (.acc 1) [some (mU b (o3 b s p).2),some (.acc 48 (ay (o3 b s p).1))]):=by
 have hmem:=pa hb (p:=p) (l:=[3,4,5,2,6,1,0]) h1 (by simp)
 simp only[List.mem_cons,List.not_mem_nil,or_false] at hmem
 obtain⟨n,hn⟩:∃n:Nat,dI b p [3,4,5,2,6,1,0]=n:=⟨(dI b p [3,4,5,2,6,1,0]).toNat,by omega⟩
 have hn6:n≤6:=by omega
 have cn:=lL b p [3,4,5,2,6,1,0] hb h1 (by omega) (by simp) (by simp)
 have e:o3 b s p=pE b s n [] (p+1):=by rw[o3,hn];rfl
 rw[hn] at cn
 obtain⟨R,hR⟩:∃R,o3 b s p=R:=⟨_,rfl⟩
 rw[hR] at e⊢
 refine gS (nt:=29) (rs:=[.tmp 4]) hm Tryz.func146 fun hl he hLB=>?_
 refine oC [] [0] cn ?_
 refine ie hm (fun(k:Nat) (out:List aE) (q:Int)=> k≤n∧out.length+k≤n∧0≤q∧q+k*61≤800001000∧R=pE b s k out q) (fun(k:Nat) (out:List aE) (q:Int)=> ⟨b9 29 .any [(0,.ptr 0 0),(3,.ptr 1 0),(5,.acc 2),(6,iv k)],[some (mU b q),some (.box (bn (bF s))),some (.acc 48 (ay out))]⟩) (fun(k:Nat) (out:List aE) (q:Int)=> k) (n) ([]) (p+1) ?_ (ah [some 0,some 1,some 2] ?_ ?_ rfl rfl) ?_
 rotate_left
 ·exact sC
 ·exact sC
 rotate_left
 ·exact⟨Nat.le_refl _,by simp,by omega,by omega,e⟩
 ·rintro k out q ⟨hk,ho,hq0,hq1,hg⟩
  cases k with
  | zero=>
    have k0:¬ (0:Int)<((0:Nat):Int):=by omega
    rw[pE] at hg
    simp -implicitDefEqProofs only[go_sem,Z2]
    refine aG [some 0,some 2] ?_ rfl rfl
    refine sA ?_
    rw[hg]
    all_goals((repeat' apply And.intro)<;>rfl)
  | succ k=>
    have k0:(0:Int)<((k+1:Nat):Int):=by omega
    have hl:=sN b hb s hs q hq0 (by omega)
    have hlb:=H2 hb hs hq0
    rw[pE] at hg
    generalize nS b s q=r at *
    have hw:=wC out r.1 (by omega)
    have hbo:=mw s (out++[r.1])
    have k1:(0:Int)<(k:Int)+1:=by omega
    have hs1:ay out++[kh r.1]=ay (out++[r.1]):=by rw[ay,ay,List.map_append];rfl
    simp -implicitDefEqProofs only[go_sem,k1]
    refine oC [] [0] hl ?_
    refine oC [] [2] hw ?_
    refine aC [] hbo ?_
    refine iK ?_
    cases h3:bG s (out++[r.1])
    ·rw[h3,if_neg (by simp)] at hg
     refine sA ?_
     repeat(with_reducible apply And.intro;exact sO)
     refine⟨k,out,r.2,?_,?_,ah [some 0,some 1,some 2] ?_ ?_ rfl rfl⟩
     rotate_left
     ·show _ < _
      omega
     ·refine sA ?_
      all_goals(simp[*];done)
     ·exact sC
     exact⟨by omega,by omega,by omega,by omega,hg⟩
    ·rw[h3,if_pos rfl] at hg
     refine sA ?_
     repeat(with_reducible apply And.intro;exact sO)
     refine⟨k,out++[r.1],r.2,?_,?_,ah [some 0,some 1,some 4] ?_ ?_ rfl rfl⟩
     rotate_left
     ·show _ < _
      omega
     ·refine sA ?_
      all_goals(simp[*];done)
     ·refine sA ?_
      all_goals(exact hs1)
     exact⟨by omega,by simp;omega,by omega,by omega,hg⟩
end Go.Proofs.YtpidddienjoleaaGreat
namespace Go.Proofs.YtpidddienjoleaaGreat
open Go.Eng Go.Mod
open Int renaming reduceEq→Z1,reduceLT→Z2,reduceLE→Z3,reduceToNat→Z4
set_option maxRecDepth 100000
set_option maxHeartbeats 3200000
theorem mv(lits:List aE)(l:aE):ay (lits++[l])=ay lits++[kh l]:=by rw[ay,List.map_append];rfl
theorem Ae(b:List Int)(hb:qz b)(p:Int)(h1:0≤p)(h2:p≤600000000):C E.P 77 [.ptr 0 0] [some (mU b p)] (aO (.eZ [av (bF (zI b p).1),lv (ay (zI b p).2.1)]) [some (mU b (zI b p).2.2)]):=by
 have cs:=CM b p hb h1 (by omega)
 have hs:bP (FN b p).1:=GG _
 have hsp:(FN b p).2=p+1:=rfl
 obtain⟨R,eR⟩:∃R,zI b p=R:=⟨_,rfl⟩
 have hR:=eR
 unfold zI at hR
 rw[eR]
 generalize FN b p=g at *
 obtain⟨s,q⟩:=g
 simp only at hs hsp hR cs
 subst hsp
 have cl:=Ax b hb s hs (p+1) (by omega) (by omega)
 have zl:=Ow hb hs (p:=p+1) (by omega)
 generalize o3 b s (p+1)=r at *
 obtain⟨lits,q⟩:=r
 simp only at zl hR cl
 have cp:=gn b q 48 hb (by omega) (by omega)
 generalize a6 b q 48=k at *
 refine gS (nt:=48) (rs:=[.cell 2 25,.tmp 3]) hm Tryz.func77 fun hl he hLB=>?_
 refine oC [] [0] cs ?_
 refine oC [] [0,3] cl ?_
 refine oC [] [0] cp ?_
 rcases Classical.em (k=0) with k0|k0
 ·have kk0:=eq_true k0
  rw[if_pos k0] at hR
  have ca:=AA b hb s hs (q+1) (by omega) (by omega)
  simp -implicitDefEqProofs only[go_sem,kk0]
  refine oC [] [0] ca ?_
  repeat(with_reducible apply And.intro;exact sO)
  refine aG [some 0] ?_ rfl rfl
  refine sA ?_
  rw[←hR]
  exact⟨⟨rfl,mv _ _,rfl⟩,rfl⟩
 rw[if_neg k0] at hR
 rcases Classical.em (k=1) with k1|k1
 ·have kk1:=eq_true k1
  rw[if_pos k1] at hR
  simp -implicitDefEqProofs only[go_sem,k0,kk1]
  refine ie hm (fun(n:Nat) (out:List aE) (q2:Int)=> out.length+n=7∧0≤q2∧q2+n*61≤700000000∧R=(s,(yB b s n out q2).1,(yB b s n out q2).2)) (fun(n:Nat) (out:List aE) (q2:Int)=> ⟨b9 48 .any [(0,.ptr 0 0),(2,.ptr 1 0),(4,.ptr 2 0),(5,.acc 3)],[some (mU b q2),some (.box [lv []]),some (.box (bn (bF s))),some (.acc 48 (ay out))]⟩) (fun(n:Nat) (out:List aE) (q2:Int)=> n) (7-lits.length) (lits) (q+1) ?_ (ah [some 0,some 1,some 2,some 3] ?_ ?_ rfl rfl) ?_
  rotate_left
  ·exact sC
  ·exact sC
  rotate_left
  ·exact⟨by omega,by omega,by omega,hR.symm⟩
  ·rintro n out q2 ⟨hn,hq0,hq1,hg⟩
   cases n with
   | zero=>
     have h7:¬ (out.length:Int)≤6:=by omega
     rw[yB] at hg
     simp -implicitDefEqProofs only[go_sem,h7]
     refine aG [some 0] ?_ rfl rfl
     refine sA ?_
     rw[hg]
     all_goals((repeat' apply And.intro)<;>rfl)
   | succ n=>
     have h7:(out.length:Int)≤6:=by omega
     have hl:=sN b hb s hs q2 hq0 (by omega)
     have hlb:=H2 hb hs hq0
     rw[yB] at hg
     generalize nS b s q2=x at *
     have hs1:ay out++[kh x.1]=ay (out++[x.1]):=(mv _ _).symm
     simp -implicitDefEqProofs only[go_sem,h7]
     refine oC [] [0] hl ?_
     repeat(with_reducible apply And.intro;exact sO)
     refine⟨n,out++[x.1],x.2,?_,?_,ah [some 0,some 1,some 2,some 4] ?_ ?_ rfl rfl⟩
     rotate_left
     ·show _ < _
      omega
     ·exact sC
     ·refine sA ?_
      all_goals(exact hs1)
     exact⟨by simp;omega,by omega,by omega,hg⟩
 rw[if_neg k1] at hR
 rcases Classical.em (k=2) with k2|k2
 ·have kk2:=eq_true k2
  rw[if_pos k2] at hR
  have ca:=qJ b hb s (rv hs).1 (rv hs).2 (q+1) (by omega) (by omega)
  have hsm:=EI (b:=b) hs (q+1)
  have zb:=Pp b s (q+1)
  have cb:=qJ b hb (di b s (q+1)).1 hsm.1 hsm.2 (di b s (q+1)).2 (by omega) (by omega)
  simp -implicitDefEqProofs only[go_sem,k0,k1,kk2]
  refine oC [] [0] ca ?_
  refine oC [] [0] cb ?_
  refine aG [some 0] ?_ rfl rfl
  refine sA ?_
  rw[←hR]
  all_goals((repeat' apply And.intro)<;>rfl)
 rw[if_neg k2] at hR
 rcases Classical.em (k=3) with k3|k3
 ·have kk3:=eq_true k3
  rw[if_pos k3] at hR
  simp -implicitDefEqProofs only[go_sem,k0,k1,k2,kk3]
  repeat(with_reducible apply And.intro;exact sO)
  refine aG [some 0] ?_ rfl rfl
  refine sA ?_
  rw[←hR]
  exact⟨⟨rfl,mv _ _,rfl⟩,rfl⟩
 ·rw[if_neg k3] at hR
  simp -implicitDefEqProofs only[go_sem,k0,k1,k2,k3]
  refine aG [some 0] ?_ rfl rfl
  refine sA ?_
  rw[←hR]
  all_goals((repeat' apply And.intro)<;>rfl)
theorem Aq(b:List Int)(hb:∀x∈b,0≤x∧x≤255)(hl9:b.length≤2000000):C E.P 35 [lv (JG b)] [] (aO (.eZ [av (bF (FM (b.take 2000)).1),lv (ay (FM (b.take 2000)).2)]) []):=by
 have hO:=Qj hb
 obtain⟨c,hc⟩:∃c,b.take 2000=c:=⟨_,rfl⟩
 have c1:=xX b hb hl9
 rw[hc] at hO c1⊢
 have c2:=Ae c hO 0 (by omega) (by omega)
 refine gS (nt:=9) (rs:=[.cell 2 25,.tmp 3]) hm Tryz.func35 fun hl he hLB=>?_
 refine oC [] [1] c1 ?_
 refine oC [] [1] c2 ?_
 refine ab ?_
 refine sA ?_
 all_goals((repeat' apply And.intro)<;>rfl)
theorem qy(b:List Int)(hb:∀x∈b,0≤x∧x≤255)(hl9:b.length≤2000000):C E.P 18 [lv (JG b)] [] (aO (.eZ [av (bF (FM (b.take 2000)).1),lv (ay (FM (b.take 2000)).2)]) []):=by
 refine gS (nt:=8) (rs:=[.cell 2 25,.tmp 3]) hm Tryz.func18 fun hl he hLB=>?_
 refine aC [] (Aq b hb hl9) ?_
 refine ab ?_
 simp -implicitDefEqProofs only[go_sem]
 all_goals((repeat' apply And.intro)<;>rfl)
end Go.Proofs.YtpidddienjoleaaGreat
namespace Go.Proofs.YtpidddienjoleaaGreat
open Go.Eng Go.Mod
open Int renaming reduceEq→Z1,reduceLT→Z2,reduceLE→Z3,reduceToNat→Z4
set_option maxRecDepth 100000
set_option maxHeartbeats 3200000
theorem wL(s:bA)(lits:List aE):C E.P 22 [av (bF s),lv (ay lits)] [] (aO (lv (aj (eC s lits))) []):=by
 refine gS (nt:=14) (rs:=[.tmp 4]) hm Tryz.func22 fun hl he hLB=>?_
 refine aC [] (mw s lits) ?_
 cases hok:bG s lits
 ·refine sA ?_
  refine ab ?_
  refine sA ?_
  all_goals(simp[eC,hok];done)
 ·have hf:=ju hok
  have hn:=(lj hok).n24
  have hgt:=(lj hok).term
  have e:(ai lits).filter (aY s)=numsOf s lits:=rfl
  refine sA ?_
  refine aC [] (lk lits (by omega) hf.2.2.2.2.2.1) ?_
  refine aC [] (mo s (ai lits) hf.2.2.2.2.1 hgt (by omega)) ?_
  refine iK ?_
  simp -implicitDefEqProofs only[go_sem,e]
  refine ab ?_
  refine sA ?_
  all_goals(simp[eC,hok];done)
theorem wV(s:bA)(lits:List aE):C E.P 20 [av (bF s),lv (ay lits)] [] (aO (lv (bh (fV s lits))) []):=by
 refine gS (nt:=16) (rs:=[.tmp 4]) hm Tryz.func20 fun hl he hLB=>?_
 refine aC [] (mw s lits) ?_
 cases hok:bG s lits
 ·refine sA ?_
  refine ab ?_
  refine sA ?_
  all_goals(simp[fV,hok,bh];done)
 ·have hf:=ju hok
  have hn:=(lj hok).n24
  have hgt:=(lj hok).term
  have e:(ai lits).filter (aY s)=numsOf s lits:=rfl
  refine sA ?_
  refine aC [] (lk lits (by omega) hf.2.2.2.2.2.1) ?_
  refine aC [] (mo s (ai lits) hf.2.2.2.2.1 hgt (by omega)) ?_
  simp -implicitDefEqProofs only[go_sem,e]
  refine aC [] (Ak (numsOf s lits) lits hf.2.2.1 (by omega) hf.1) ?_
  refine iK ?_
  refine ab ?_
  refine sA ?_
  all_goals(simp[fV,hok];done)
end Go.Proofs.YtpidddienjoleaaGreat
