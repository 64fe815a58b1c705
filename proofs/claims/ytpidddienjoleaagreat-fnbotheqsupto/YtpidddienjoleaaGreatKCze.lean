/-
  The reference: draws of literals to be decided. A step towards the laws.
-/
import Derived.Test.YtpidddienjoleaaGreatKCyc
import Derived.Test.YtpidddienjoleaaGreatKCP
import Derived.Test.YtpidddienjoleaaGreatKCEl
import Derived.Test.YtpidddienjoleaaGreatKCyb
import Derived.Test.YtpidddienjoleaaGreatKCT
set_option linter.unusedVariables false
set_option linter.unusedSimpArgs false
namespace Go.Proofs.YtpidddienjoleaaGreat
open Go.Eng Go.Mod
open Int renaming reduceEq→Z1,reduceLT→Z2,reduceLE→Z3,reduceToNat→Z4
set_option maxRecDepth 100000
set_option maxHeartbeats 3200000
theorem td(b:List Int)(hb:pZ b)(s:bJ)(hs:bQ s)(p:Int)(h1:0≤p)(h2:p≤900000000):C E.P 149 [.ptr 0 0,av (bw s)] [some (mo b p)] (aM (av (kO (nF b s p).1)) [some (mo b (nF b s p).2)]):=by
 have ca:=CD b hb s hs p h1 h2
 have z:=FB hb hs h1
 have e1:(nF b s p).1=⟨(gw b s p).1,decide (aZ b (gw b s p).2 3=0)⟩:=rfl
 have e2:(nF b s p).2=(gw b s p).2+1:=rfl
 rw[e1,e2]
 generalize gw b s p=r at *
 refine gS (nt:=12) (rs:=[.cell 4 48]) hm Tryz.func149 fun hl he hLB=>?_
 refine oC [] [0] ca ?_
 refine oC [] [0] (fU b r.2 3 hb (by omega) (by omega)) ?_
 refine aF [some 0] ?_ rfl rfl
 simp -implicitDefEqProofs only[go_sem]
 all_goals((repeat' apply And.intro)<;>rfl)
theorem vQ(lits:List aG)(l:aG)(hl1:lits.length≤100):C E.P 207 [.acc 0,av (kO l)] [some (.acc 48 (ax lits))] (aM (lv (ax (lits++[l]))) [some (.acc 48 (ax lits))]):=by
 have hs:ax (lits++[l])=ax lits++[kO l]:=by rw[ax,List.map_append];rfl
 rw[hs]
 refine gS (nt:=11) (rs:=[.tmp 4]) hm Tryz.func207 fun hl he hLB=>?_
 repeat(with_reducible apply And.intro;exact sO)
 refine aF [some 0] ?_ rfl rfl
 refine sA ?_
 all_goals((repeat' apply And.intro)<;>rfl)
theorem zF(b:List Int)(hb:pZ b)(s:bJ)(hs:bQ s)(p:Int)(h1:0≤p)(h2:p≤800000000):C E.P 146 [.ptr 0 0,av (bw s)] [some (mo b p)] (aM (.acc 1) [some (mo b (oy b s p).2),some (.acc 48 (ax (oy b s p).1))]):=by
 have hmem:=oO hb (p:=p) (l:=[3,4,5,2,6,1,0]) h1 (by simp)
 simp only[List.mem_cons,List.not_mem_nil,or_false] at hmem
 obtain⟨n,hn⟩:∃n:Nat,dF b p [3,4,5,2,6,1,0]=n:=⟨(dF b p [3,4,5,2,6,1,0]).toNat,by omega⟩
 have hn6:n≤6:=by omega
 have cn:=kQ b p [3,4,5,2,6,1,0] hb h1 (by omega) (by simp) (by simp)
 have e:oy b s p=oL b s n [] (p+1):=by rw[oy,hn];rfl
 rw[hn] at cn
 obtain⟨R,hR⟩:∃R,oy b s p=R:=⟨_,rfl⟩
 rw[hR] at e⊢
 refine gS (nt:=29) (rs:=[.tmp 4]) hm Tryz.func146 fun hl he hLB=>?_
 refine oC [] [0] cn ?_
 refine gX hm (fun(k:Nat) (out:List aG) (q:Int)=> k≤n∧out.length+k≤n∧0≤q∧q+k*61≤800001000∧R=oL b s k out q) (fun(k:Nat) (out:List aG) (q:Int)=> ⟨bW 29 .any [(0,.ptr 0 0),(3,.ptr 1 0),(5,.acc 2),(6,iv k)],[some (mo b q),some (.box (bn (bw s))),some (.acc 48 (ax out))]⟩) (fun(k:Nat) (out:List aG) (q:Int)=> k) (n) ([]) (p+1) ?_ (ah [some 0,some 1,some 2] ?_ ?_ rfl rfl) ?_
 rotate_left
 ·exact sC
 ·exact sC
 rotate_left
 ·exact⟨Nat.le_refl _,by simp,by omega,by omega,e⟩
 ·rintro k out q ⟨hk,ho,hq0,hq1,hg⟩
  cases k with
  | zero=>
    have k0:¬ (0:Int)<((0:Nat):Int):=by omega
    rw[oL] at hg
    simp -implicitDefEqProofs only[go_sem,Z2]
    refine aF [some 0,some 2] ?_ rfl rfl
    refine sA ?_
    rw[hg]
    all_goals((repeat' apply And.intro)<;>rfl)
  | succ k=>
    have k0:(0:Int)<((k+1:Nat):Int):=by omega
    have hl:=td b hb s hs q hq0 (by omega)
    have hlb:=FV hb hs hq0
    rw[oL] at hg
    generalize nF b s q=r at *
    have hw:=vQ out r.1 (by omega)
    have hbo:=qd s (out++[r.1])
    have k1:(0:Int)<(k:Int)+1:=by omega
    have hs1:ax out++[kO r.1]=ax (out++[r.1]):=by rw[ax,ax,List.map_append];rfl
    simp -implicitDefEqProofs only[go_sem,k1]
    refine oC [] [0] hl ?_
    refine oC [] [2] hw ?_
    refine aC [] hbo ?_
    refine iK ?_
    cases h3:bO s (out++[r.1])
    ·rw[h3,if_neg (by simp)] at hg
     refine sA ?_
     repeat(with_reducible apply And.intro;exact sO)
     refine⟨k,out,r.2,?_,?_,ah [some 0,some 1,some 2] ?_ ?_ rfl rfl⟩
     rotate_left
     ·show _ < _
      omega
     ·refine sA ?_
      all_goals(simp[*];done)
     ·exact sC
     exact⟨by omega,by omega,by omega,by omega,hg⟩
    ·rw[h3,if_pos rfl] at hg
     refine sA ?_
     repeat(with_reducible apply And.intro;exact sO)
     refine⟨k,out++[r.1],r.2,?_,?_,ah [some 0,some 1,some 4] ?_ ?_ rfl rfl⟩
     rotate_left
     ·show _ < _
      omega
     ·refine sA ?_
      all_goals(simp[*];done)
     ·refine sA ?_
      all_goals(exact hs1)
     exact⟨by omega,by simp;omega,by omega,by omega,hg⟩
end Go.Proofs.YtpidddienjoleaaGreat
namespace Go.Proofs.YtpidddienjoleaaGreat
open Go.Eng Go.Mod
open Int renaming reduceEq→Z1,reduceLT→Z2,reduceLE→Z3,reduceToNat→Z4
set_option maxRecDepth 100000
set_option maxHeartbeats 3200000
theorem lQ(lits:List aG)(l:aG):ax (lits++[l])=ax lits++[kO l]:=by rw[ax,List.map_append];rfl
theorem zD(b:List Int)(hb:pZ b)(p:Int)(h1:0≤p)(h2:p≤600000000):C E.P 77 [.ptr 0 0] [some (mo b p)] (aM (.eL [av (bw (x6 b p).1),lv (ax (x6 b p).2.1)]) [some (mo b (x6 b p).2.2)]):=by
 have cs:=Bx b p hb h1 (by omega)
 have hs:bQ (EP b p).1:=FW _
 have hsp:(EP b p).2=p+1:=rfl
 obtain⟨R,eR⟩:∃R,x6 b p=R:=⟨_,rfl⟩
 have hR:=eR
 unfold x6 at hR
 rw[eR]
 generalize EP b p=g at *
 obtain⟨s,q⟩:=g
 simp only at hs hsp hR cs
 subst hsp
 have cl:=zF b hb s hs (p+1) (by omega) (by omega)
 have zl:=M9 hb hs (p:=p+1) (by omega)
 generalize oy b s (p+1)=r at *
 obtain⟨lits,q⟩:=r
 simp only at zl hR cl
 have cp:=fU b q 48 hb (by omega) (by omega)
 generalize aZ b q 48=k at *
 refine gS (nt:=48) (rs:=[.cell 2 25,.tmp 3]) hm Tryz.func77 fun hl he hLB=>?_
 refine oC [] [0] cs ?_
 refine oC [] [0,3] cl ?_
 refine oC [] [0] cp ?_
 rcases Classical.em (k=0) with k0|k0
 ·have kk0:=eq_true k0
  rw[if_pos k0] at hR
  have ca:=zw b hb s hs (q+1) (by omega) (by omega)
  simp -implicitDefEqProofs only[go_sem,kk0]
  refine oC [] [0] ca ?_
  repeat(with_reducible apply And.intro;exact sO)
  refine aF [some 0] ?_ rfl rfl
  refine sA ?_
  rw[←hR]
  exact⟨⟨rfl,lQ _ _,rfl⟩,rfl⟩
 rw[if_neg k0] at hR
 rcases Classical.em (k=1) with k1|k1
 ·have kk1:=eq_true k1
  rw[if_pos k1] at hR
  simp -implicitDefEqProofs only[go_sem,k0,kk1]
  refine gX hm (fun(n:Nat) (out:List aG) (q2:Int)=> out.length+n=7∧0≤q2∧q2+n*61≤700000000∧R=(s,(xP b s n out q2).1,(xP b s n out q2).2)) (fun(n:Nat) (out:List aG) (q2:Int)=> ⟨bW 48 .any [(0,.ptr 0 0),(2,.ptr 1 0),(4,.ptr 2 0),(5,.acc 3)],[some (mo b q2),some (.box [lv []]),some (.box (bn (bw s))),some (.acc 48 (ax out))]⟩) (fun(n:Nat) (out:List aG) (q2:Int)=> n) (7-lits.length) (lits) (q+1) ?_ (ah [some 0,some 1,some 2,some 3] ?_ ?_ rfl rfl) ?_
  rotate_left
  ·exact sC
  ·exact sC
  rotate_left
  ·exact⟨by omega,by omega,by omega,hR.symm⟩
  ·rintro n out q2 ⟨hn,hq0,hq1,hg⟩
   cases n with
   | zero=>
     have h7:¬ (out.length:Int)≤6:=by omega
     rw[xP] at hg
     simp -implicitDefEqProofs only[go_sem,h7]
     refine aF [some 0] ?_ rfl rfl
     refine sA ?_
     rw[hg]
     all_goals((repeat' apply And.intro)<;>rfl)
   | succ n=>
     have h7:(out.length:Int)≤6:=by omega
     have hl:=td b hb s hs q2 hq0 (by omega)
     have hlb:=FV hb hs hq0
     rw[xP] at hg
     generalize nF b s q2=x at *
     have hs1:ax out++[kO x.1]=ax (out++[x.1]):=(lQ _ _).symm
     simp -implicitDefEqProofs only[go_sem,h7]
     refine oC [] [0] hl ?_
     repeat(with_reducible apply And.intro;exact sO)
     refine⟨n,out++[x.1],x.2,?_,?_,ah [some 0,some 1,some 2,some 4] ?_ ?_ rfl rfl⟩
     rotate_left
     ·show _ < _
      omega
     ·exact sC
     ·refine sA ?_
      all_goals(exact hs1)
     exact⟨by simp;omega,by omega,by omega,hg⟩
 rw[if_neg k1] at hR
 rcases Classical.em (k=2) with k2|k2
 ·have kk2:=eq_true k2
  rw[if_pos k2] at hR
  have ca:=qD b hb s (qN hs).1 (qN hs).2 (q+1) (by omega) (by omega)
  have hsm:=DU (b:=b) hs (q+1)
  have zb:=Ob b s (q+1)
  have cb:=qD b hb (dh b s (q+1)).1 hsm.1 hsm.2 (dh b s (q+1)).2 (by omega) (by omega)
  simp -implicitDefEqProofs only[go_sem,k0,k1,kk2]
  refine oC [] [0] ca ?_
  refine oC [] [0] cb ?_
  refine aF [some 0] ?_ rfl rfl
  refine sA ?_
  rw[←hR]
  all_goals((repeat' apply And.intro)<;>rfl)
 rw[if_neg k2] at hR
 rcases Classical.em (k=3) with k3|k3
 ·have kk3:=eq_true k3
  rw[if_pos k3] at hR
  simp -implicitDefEqProofs only[go_sem,k0,k1,k2,kk3]
  repeat(with_reducible apply And.intro;exact sO)
  refine aF [some 0] ?_ rfl rfl
  refine sA ?_
  rw[←hR]
  exact⟨⟨rfl,lQ _ _,rfl⟩,rfl⟩
 ·rw[if_neg k3] at hR
  simp -implicitDefEqProofs only[go_sem,k0,k1,k2,k3]
  refine aF [some 0] ?_ rfl rfl
  refine sA ?_
  rw[←hR]
  all_goals((repeat' apply And.intro)<;>rfl)
theorem zz(b:List Int)(hb:∀x∈b,0≤x∧x≤255)(hl9:b.length≤2000000):C E.P 35 [lv (IU b)] [] (aM (.eL [av (bw (CT (b.take 2000)).1),lv (ax (CT (b.take 2000)).2)]) []):=by
 have hO:=OE hb
 obtain⟨c,hc⟩:∃c,b.take 2000=c:=⟨_,rfl⟩
 have c1:=xr b hb hl9
 rw[hc] at hO c1⊢
 have c2:=zD c hO 0 (by omega) (by omega)
 refine gS (nt:=9) (rs:=[.cell 2 25,.tmp 3]) hm Tryz.func35 fun hl he hLB=>?_
 refine oC [] [1] c1 ?_
 refine oC [] [1] c2 ?_
 refine ab ?_
 refine sA ?_
 all_goals((repeat' apply And.intro)<;>rfl)
theorem qV(b:List Int)(hb:∀x∈b,0≤x∧x≤255)(hl9:b.length≤2000000):C E.P 12 [lv (IU b)] [] (aM (.eL [av (bw (CT (b.take 2000)).1),lv (ax (CT (b.take 2000)).2)]) []):=by
 refine gS (nt:=8) (rs:=[.cell 2 25,.tmp 3]) hm Tryz.func12 fun hl he hLB=>?_
 refine aC [] (zz b hb hl9) ?_
 refine ab ?_
 simp -implicitDefEqProofs only[go_sem]
 all_goals((repeat' apply And.intro)<;>rfl)
end Go.Proofs.YtpidddienjoleaaGreat
namespace Go.Proofs.YtpidddienjoleaaGreat
open Go.Eng Go.Mod
open Int renaming reduceEq→Z1,reduceLT→Z2,reduceLE→Z3,reduceToNat→Z4
set_option maxRecDepth 100000
set_option maxHeartbeats 3200000
theorem xG(s:bJ)(lits:List aG):C E.P 14 [av (bw s),lv (ax lits)] [] (aM (lv (bj (jK s lits))) []):=by
 refine gS (nt:=39) (rs:=[.tmp 4]) hm Tryz.func14 fun hl he hLB=>?_
 refine aC [] (qd s lits) ?_
 cases hok:bO s lits
 ·refine sA ?_
  refine ab ?_
  refine sA ?_
  all_goals(simp[jK,hok,bj];done)
 ·have h6:=(nT hok).2.2.2.1
  have hl:=pr lits
  refine sA ?_
  refine aC [] (CG lits (by omega)) ?_
  refine al hm (fun(i:Nat)=> i≤(aB lits).length) (fun(i:Nat)=> ⟨bW 39 .any [(5,.acc 1),(6,lv (bj (aB lits))),(7,iv i)],[some (.box (bn (bw s))),some (.acc 55 (bj ((aB lits).take i)))]⟩) (fun(i:Nat)=> (aB lits).length-i) (0) ?_ (ah [some 0,some 1] ?_ ?_ rfl rfl) ?_
  rotate_left
  ·exact sC
  ·exact sC
  rotate_left
  ·omega
  ·rintro i hi
   rcases Classical.em (i<(aB lits).length) with h1|h1
   ·have hs:bj ((aB lits).take (i+1))=bj ((aB lits).take i)++[Qf (aB lits)[i]]:=by
     rw[gz h1,←nG]
     rfl
    simp -implicitDefEqProofs only[go_sem,h1]
    refine ck [] (fg (aB lits)[i].A) ?_ ?_<;>simp -implicitDefEqProofs only[go_sem,h1]
    refine aC [] (fg (aB lits)[i].B) ?_
    repeat(with_reducible apply And.intro;exact sO)
    refine⟨i+1,?_,?_,ah [some 0,some 2] ?_ ?_ rfl rfl⟩
    rotate_left
    ·show _ < _
     omega
    ·exact sC
    ·refine sA ?_
     all_goals((rw[hs];rfl))
    exact h1
   ·simp -implicitDefEqProofs only[go_sem,h1]
    refine ab ?_
    refine sA ?_
    rw[List.take_of_length_le (by omega)]
    simp[jK,hok]
end Go.Proofs.YtpidddienjoleaaGreat
