/-
  The program: the walks of clause form, whose clauses share nothing. A step towards the exact laws.
-/
import Derived.Test.YtnhdminpjihbnaaGreatKAu
set_option linter.unusedVariables false
set_option linter.unusedSimpArgs false
open Int renaming reduceEq→Z1,reduceLT→Z2,reduceLE→Z3,reduceToNat→Z4
open And renaming intro→aq
open Bool renaming true_and→aN,false_and→aZ
open Classical renaming em→aa
open List renaming getElem_mem→ah,drop_eq_getElem_cons→ai,drop_of_length_le→al,length_append→ay,append_nil→bV,all_cons→cY,all_nil→fW
open Option renaming getD_some→dG,isSome_some→gw,getD_none→lK
namespace Go.Proofs.YtnhdminpjihbnaaGreat
open Go.Eng Go.Mod
set_option maxRecDepth 100000
set_option maxHeartbeats 800000
theorem Hu:C E.P 58 [.bE] [] (gR (.aW 0) [some (.aW 3 (bj []))]):=by refine gS 8 [.tmp 2] hm Tryz.func58 fun hl he cV=>?_;refine wW 3 _ true rfl rfl (by simp -implicitDefEqProofs only[go_sem]) vl ?_;refine sA ?_;refine bM [none] ?_ rfl rfl;exact sC
theorem Ow(ns:List Int)(hl1:ns.length≤1000):C E.P 58 [lv (bj ns)] [] (gR (.aW 0) [some (.aW 3 (bj ns))]):=by
 cases ns with
 | nil=>exact ES Hu sn
 | cons x xs=>exact tU (x::xs) (by simp) hl1
theorem Fb(l:List Int)(rP:l.length≤12)(hb9:∀x∈l,-1000000≤x∧x≤1000000):C E.P 92 [lv (bj l)] [] (gR (.ko [.aW 0,bv (hQ l).isSome]) [some (.e9 3 (rE ((hQ l).getD [])))]):=by have e:=rL l;refine gS 29 [.tmp 2,.tmp 3] hm Tryz.func92 fun hl he cV=>?_;refine lZ hm l.length (fun(i:Nat)=>(∀x∈l.take i,-60≤x∧x≤60)∧EH l=(l.drop i).all fun x=>iq x 60&& !l.contains (-x)) (fun i=>⟨fk 29 .any [(0,lv (bj l)),(7,lv (bj l)),(8,iv l.length),(9,iv i)],[]⟩) ?_ (c9 []) ?_;exact⟨oM,by simp,rfl⟩;rintro i ⟨hi,ht,hg⟩;rcases aa (i<l.length) with h1|h1;have hb:=hb9 l[i] (ah h1);rw[ai h1,cY] at hg;have hc:CN 90 [iv l[i],iv 60] (bv (iq l[i] 60)):=sZ l[i] 60 oM;refine uA ?_;refine aC [] hc ?_;cases h2:iq l[i] 60;rw[h2,aZ,aZ] at hg;rw[hg,if_neg (by simp)] at e;refine sA ?_;refine Et [none] ?_;rw[e];exact⟨rfl,rfl⟩;have hm:=mN.1 h2;rw[h2,aN] at hg;refine bI ?_;refine aC [] (kI l (-l[i])) ?_;cases h3:l.contains (-l[i]);rw[h3,Bool.not_false,aN] at hg;refine bI ?_;refine⟨i+1,?_,sL,c9 []⟩;refine⟨oM,fun x hx=>?_,hg⟩;rw[jN h1] at hx;rcases List.mem_append.1 hx with hx|hx;exact ht x hx;rw[List.mem_singleton.1 hx];omega;rw[h3,Bool.not_true,aZ] at hg;rw[hg,if_neg (by simp)] at e;refine sA ?_;refine Et [none] ?_;rw[e];exact⟨rfl,rfl⟩;rw[al oM,fW] at hg;rw[List.take_of_length_le oM] at ht;rw[hg,if_pos rfl] at e;refine bS h1 ?_;refine oC [] [0] (Ow l oM) ?_;refine oC [] [0] (Em l rP ht) ?_;refine oC [] [0,1] (xR (ik l) (by rw[GR];omega)) ?_;refine Et [some 1] ?_;rw[e];exact⟨rfl,rfl⟩
theorem gn(c:Mod.gI)(atoms:List bz)(fs:List Mod.aU)(l:List Int)(rP:l.length≤12)(hb9:∀x∈l,-1000000≤x∧x≤1000000)(hc9:c.au.length≤100000) :
 C E.P 67 [.bK 0 0,lv (bj l)] [some (.box [iv c.aP,.aW 1,lv (bC atoms),.aW 2]),some (.e9 32 (Je c.au)),some (.aW 39 (bc fs))] (gR (.ko []) [some (.box [iv (fF c l).aP,.aW 3,lv (bC atoms),.aW 2]),some .dead,some (.aW 39 (bc fs)),some (.e9 32 (Je (fF c l).au))]):=by
 have cV:=oc
 refine rF (nt:=24) (rs:=[]) Tryz.func67 rfl rfl rfl rfl rfl (fun hl he=>?_)
 simp -implicitDefEqProofs only[go_sem] at hl⊢
 refine fh hm ?_
 refine sA ?_
 refine oC [] [3] (Fb l rP hb9) ?_
 cases h:hQ l with
 | none=>have e:=W8 (c:=c) h;simp -implicitDefEqProofs only[go_sem,Option.isSome_none,lK,bO];refine dw ?_;refine Et [some 0,some 1,some 2,some 1] ?_;rw[e];exact⟨rfl,rfl⟩
 | some o=>have e:=Xe (c:=c) h;have hp:(Je c.au).length=c.au.length:=YO c.au;simp -implicitDefEqProofs only[go_sem,gw,dG,bO];refine sQ ?_;refine⟨_,wQ.wF (nc 5 c.au.length _ rfl (by rw[ay,hp];simp) (ll hp)),?_⟩;refine sA ?_;refine Et [some 0,some 1,some 2,some 5] ?_;rw[e];refine⟨rfl,?_⟩;rw[je hp];exact⟨X8 c.au o,(congrArg (fun z=>(bA z).isSome) (X8 c.au o)).trans (ah8 _)⟩
theorem F5(atoms:List bz)(mf:atoms.length≤1000)(t:Mod.aU)(ih:∀k∈t.ar,∀(d:Nat)(c:Mod.gI)(fs:List Mod.aU),bH k d=true→inside atoms k→(atoms.length:Int)≤c.aP→c.aP+2 ^ d≤10000→c.au.length+4*2 ^ d≤80000→fs.length+2 ^ d≤80000→C E.P 89 [.bK 0 0,av (eE k)] [some (.box [iv c.aP,.aW 1,lv (bC atoms),.aW 2]),some (.e9 32 (Je c.au)),some (.aW 39 (bc fs))] (gR (iv (cF atoms k c).2) [some (.box [iv (cF atoms k c).1.aP,.aW 3,lv (bC atoms),.aW 4]),some .dead,some .dead,some (.e9 32 (Je (cF atoms k c).1.au)),some (.aW 39 (bc (fs++fb k)))]))
 (d:Nat) (c:Mod.gI) (fs:List Mod.aU) (hsh:bH t d=true) (jY:inside atoms t) (hmm:(atoms.length:Int)≤c.aP) (hb1:c.aP+2 ^ d≤10000) (hb2:c.au.length+4*2 ^ d≤80000) (hb3:fs.length+2 ^ d≤80000) :
 C E.P 89 [.bK 0 0,av (eE t)] [some (.box [iv c.aP,.aW 1,lv (bC atoms),.aW 2]),some (.e9 32 (Je c.au)),some (.aW 39 (bc fs))] (gR (iv (cF atoms t c).2) [some (.box [iv (cF atoms t c).1.aP,.aW 3,lv (bC atoms),.aW 4]),some .dead,some .dead,some (.e9 32 (Je (cF atoms t c).1.au)),some (.aW 39 (bc (fs++fb t)))]):=by
 cases d with
 | zero=>cases t;simp[bH] at hsh
 | succ d=>
 have hk:=fY hsh
 have hp1:(1:Nat)≤2 ^ d:=Nat.one_le_two_pow
 have hp2:(2:Nat) ^ (d+1)=2*2 ^ d:=by rw[Nat.pow_succ];omega
 have hp3:(2:Int) ^ (d+1)=2*((2 ^ d:Nat):Int):=by rw[Int.pow_succ,Int.mul_comm];simp
 have hp4:(2:Int) ^ d=((2 ^ d:Nat):Int):=by simp
 rw[hp2] at hb2 hb3
 rw[hp3] at hb1
 rcases sR hk.1 with⟨k1,hl0⟩|⟨k2,hl1⟩|⟨k3,hl2⟩
 ·have e:=Cj (atoms:=atoms) (c:=c) k1
  have en:=Kx k1
  have hmem:=zD jY k1
  have b1:=oN.2 hmem
  have b2:=LQ hmem
  have kk:=eq_true k1
  refine gS 166 [.tmp 4] hm Tryz.func89 fun hl he cV=>?_
  refine bS kk ?_
  refine oL [] (r6 atoms t.lit.aY) ?_
  cases hno:t.lit.no
  ·refine sA ?_
   refine Et [some 0,some 1,some 2,some 1,some 2] ?_
   rw[e,en,hno,bV]
   exact⟨rfl,rfl,rfl,rfl⟩
  ·refine bI ?_
   refine Et [some 0,some 1,some 2,some 1,some 2] ?_
   rw[e,en,hno,bV]
   exact⟨rfl,rfl,rfl,rfl⟩
 ·have e:=Cb (atoms:=atoms) (c:=c) k2 hl1
  have en:=Nt k2 hl1
  have h0:0<t.ar.length:=oM
  have hk0:=ah h0
  have hs0:=dF hk.2.2 _ hk0
  have hi0:=gH jY oM _ hk0
  have c0:=ih t.ar[0] hk0 d c fs hs0 hi0 hmm oM oM oM
  have g0:=ja t.ar[0] d atoms c hs0
  have m0:=nJ t.ar[0] d hs0
  have q0:=kZ t.ar[0] d atoms c hs0 hi0 hmm oM
  have n1:¬t.kind=1:=oM
  have kk:=eq_true k2
  refine gS 166 [.tmp 4] hm Tryz.func89 fun hl he cV=>?_
  simp -implicitDefEqProofs only[go_sem,n1,h0]
  refine ff [] [0,1,2,4,5] c0 ?_ ?_
  ·refine sA ?_
   first|rfl|((repeat' apply aq)<;>rfl)
  refine dB kk ?_
  refine Et [some 0,some 1,some 2,some 4,some 5] ?_
  rw[e,en]
  exact⟨rfl,rfl,rfl,rfl⟩
 ·have n1:¬t.kind=1:=oM
  have n2:¬t.kind=2:=oM
  have e:=Ca (atoms:=atoms) (c:=c) n1 n2 hl2
  have en:=Lo n1 n2 hl2
  have h0:0<t.ar.length:=oM
  have h1:1<t.ar.length:=oM
  have hk0:=ah h0
  have hs0:=dF hk.2.2 _ hk0
  have hi0:=gH jY oM _ hk0
  have c0:=ih t.ar[0] hk0 d c fs hs0 hi0 hmm oM oM oM
  have g0:=ja t.ar[0] d atoms c hs0
  have m0:=nJ t.ar[0] d hs0
  have f0:=y9 t.ar[0] d hs0
  have q0:=kZ t.ar[0] d atoms c hs0 hi0 hmm oM
  generalize hc1:cF atoms t.ar[0] c=r1 at *
  have hk1:=ah h1
  have hs1:=dF hk.2.2 _ hk1
  have hi1:=gH jY oM _ hk1
  have c1:=ih t.ar[1] hk1 d r1.1 (fs++fb t.ar[0]) hs1 hi1 oM oM oM (by rw[ay];omega)
  have g1:=ja t.ar[1] d atoms r1.1 hs1
  have m1:=nJ t.ar[1] d hs1
  have f1:=y9 t.ar[1] d hs1
  have q1:=kZ t.ar[1] d atoms r1.1 hs1 hi1 oM oM
  generalize hc2:cF atoms t.ar[1] r1.1=r2 at *
  have ha:fs++(fb t.ar[0]++fb t.ar[1]++[t])=fs++fb t.ar[0]++fb t.ar[1]++[t]:=by simp
  rw[e,en,ha]
  generalize hfs:fs++fb t.ar[0]++fb t.ar[1]=gs at *
  have hgl:gs.length≤80000:=by rw[←hfs,ay,ay];omega
  rcases k3 with kx|kx|kx|kx
  ·have z:((⟨r2.1.aP+1,r2.1.au⟩:Mod.gI)).au.length≤80000:=by simp only;omega
   have z0:=hH ((⟨r2.1.aP+1,r2.1.au⟩:Mod.gI)) [-(r2.1.aP+1),r1.2]
   have u0:=gn ((⟨r2.1.aP+1,r2.1.au⟩:Mod.gI)) atoms (gs++[t]) [-(r2.1.aP+1),r1.2] (by simp) (by simp;omega) oM
   simp only[dP,iG] at u0
   have z1:=hH (fF ((⟨r2.1.aP+1,r2.1.au⟩:Mod.gI)) [-(r2.1.aP+1),r1.2]) [-(r2.1.aP+1),r2.2]
   have u1:=gn (fF ((⟨r2.1.aP+1,r2.1.au⟩:Mod.gI)) [-(r2.1.aP+1),r1.2]) atoms (gs++[t]) [-(r2.1.aP+1),r2.2] (by simp) (by simp;omega) oM
   simp only[dP,iG] at u1
   have z2:=hH (fF (fF ((⟨r2.1.aP+1,r2.1.au⟩:Mod.gI)) [-(r2.1.aP+1),r1.2]) [-(r2.1.aP+1),r2.2]) [(r2.1.aP+1),-r1.2,-r2.2]
   have u2:=gn (fF (fF ((⟨r2.1.aP+1,r2.1.au⟩:Mod.gI)) [-(r2.1.aP+1),r1.2]) [-(r2.1.aP+1),r2.2]) atoms (gs++[t]) [(r2.1.aP+1),-r1.2,-r2.2] (by simp) (by simp;omega) oM
   simp only[dP,iG] at u2
   have en:pM t.kind ⟨r2.1.aP+1,r2.1.au⟩ (r2.1.aP+1) r1.2 r2.2=fF (fF (fF ((⟨r2.1.aP+1,r2.1.au⟩:Mod.gI)) [-(r2.1.aP+1),r1.2]) [-(r2.1.aP+1),r2.2]) [(r2.1.aP+1),-r1.2,-r2.2]:=by rw[pM,if_pos kx];simp only[XI,Int.neg_neg]
   rw[en]
   have kk:=eq_true kx
   refine gS 166 [.tmp 4] hm Tryz.func89 fun hl he cV=>?_
   simp -implicitDefEqProofs only[go_sem,n1,h0]
   refine ff [] [0,1,2,4,5] c0 ?_ ?_
   ·refine sA ?_
    first|rfl|((repeat' apply aq)<;>rfl)
   refine sA ?_
   simp -implicitDefEqProofs only[go_sem,Z3,Z4,n2,h1]
   refine ff [] [0,4,5,6,7] c1 ?_ ?_
   ·refine sA ?_
    first|rfl|((repeat' apply aq)<;>rfl)
   refine bI ?_
   refine aq (by rw[ay,eL];simp) ?_
   refine aq (by rw[ay,eL];simp) ?_
   refine iK ?_
   rw[sF gs t]
   refine dB kk ?_
   refine ff [] [0,6,8,9] u0 ?_ ?_
   ·refine sA ?_
    first|rfl|((repeat' apply aq)<;>rfl)
   refine bI ?_
   refine ff [] [0,9,8,10] u1 ?_ ?_
   ·refine sA ?_
    first|rfl|((repeat' apply aq)<;>rfl)
   refine bI ?_
   refine ff [] [0,10,8,11] u2 ?_ ?_
   ·refine sA ?_
    first|rfl|((repeat' apply aq)<;>rfl)
   refine sA ?_
   refine bM [some 0,some 1,some 2,some 11,some 8] ?_ rfl rfl
   exact sC
  ·have n3:¬t.kind=3:=oM
   have z:((⟨r2.1.aP+1,r2.1.au⟩:Mod.gI)).au.length≤80000:=by simp only;omega
   have z0:=hH ((⟨r2.1.aP+1,r2.1.au⟩:Mod.gI)) [(r2.1.aP+1),-r1.2]
   have u0:=gn ((⟨r2.1.aP+1,r2.1.au⟩:Mod.gI)) atoms (gs++[t]) [(r2.1.aP+1),-r1.2] (by simp) (by simp;omega) oM
   simp only[dP,iG] at u0
   have z1:=hH (fF ((⟨r2.1.aP+1,r2.1.au⟩:Mod.gI)) [(r2.1.aP+1),-r1.2]) [(r2.1.aP+1),-r2.2]
   have u1:=gn (fF ((⟨r2.1.aP+1,r2.1.au⟩:Mod.gI)) [(r2.1.aP+1),-r1.2]) atoms (gs++[t]) [(r2.1.aP+1),-r2.2] (by simp) (by simp;omega) oM
   simp only[dP,iG] at u1
   have z2:=hH (fF (fF ((⟨r2.1.aP+1,r2.1.au⟩:Mod.gI)) [(r2.1.aP+1),-r1.2]) [(r2.1.aP+1),-r2.2]) [-(r2.1.aP+1),r1.2,r2.2]
   have u2:=gn (fF (fF ((⟨r2.1.aP+1,r2.1.au⟩:Mod.gI)) [(r2.1.aP+1),-r1.2]) [(r2.1.aP+1),-r2.2]) atoms (gs++[t]) [-(r2.1.aP+1),r1.2,r2.2] (by simp) (by simp;omega) oM
   simp only[dP,iG] at u2
   have en:pM t.kind ⟨r2.1.aP+1,r2.1.au⟩ (r2.1.aP+1) r1.2 r2.2=fF (fF (fF ((⟨r2.1.aP+1,r2.1.au⟩:Mod.gI)) [(r2.1.aP+1),-r1.2]) [(r2.1.aP+1),-r2.2]) [-(r2.1.aP+1),r1.2,r2.2]:=by rw[pM,if_neg n3,if_pos kx];simp only[XI]
   rw[en]
   have kk:=eq_true kx
   refine gS 166 [.tmp 4] hm Tryz.func89 fun hl he cV=>?_
   simp -implicitDefEqProofs only[go_sem,n1,h0]
   refine ff [] [0,1,2,4,5] c0 ?_ ?_
   ·refine sA ?_
    first|rfl|((repeat' apply aq)<;>rfl)
   refine sA ?_
   simp -implicitDefEqProofs only[go_sem,Z3,Z4,n2,h1]
   refine ff [] [0,4,5,6,7] c1 ?_ ?_
   ·refine sA ?_
    first|rfl|((repeat' apply aq)<;>rfl)
   refine bI ?_
   refine aq (by rw[ay,eL];simp) ?_
   refine aq (by rw[ay,eL];simp) ?_
   refine iK ?_
   rw[sF gs t]
   refine pV n3 kk ?_
   refine ff [] [0,6,8,9] u0 ?_ ?_
   ·refine sA ?_
    first|rfl|((repeat' apply aq)<;>rfl)
   refine bI ?_
   refine ff [] [0,9,8,10] u1 ?_ ?_
   ·refine sA ?_
    first|rfl|((repeat' apply aq)<;>rfl)
   refine bI ?_
   refine ff [] [0,10,8,11] u2 ?_ ?_
   ·refine sA ?_
    first|rfl|((repeat' apply aq)<;>rfl)
   refine sA ?_
   refine bM [some 0,some 1,some 2,some 11,some 8] ?_ rfl rfl
   exact sC
  ·have n3:¬t.kind=3:=oM
   have n4:¬t.kind=4:=oM
   have z:((⟨r2.1.aP+1,r2.1.au⟩:Mod.gI)).au.length≤80000:=by simp only;omega
   have z0:=hH ((⟨r2.1.aP+1,r2.1.au⟩:Mod.gI)) [(r2.1.aP+1),r1.2]
   have u0:=gn ((⟨r2.1.aP+1,r2.1.au⟩:Mod.gI)) atoms (gs++[t]) [(r2.1.aP+1),r1.2] (by simp) (by simp;omega) oM
   simp only[dP,iG] at u0
   have z1:=hH (fF ((⟨r2.1.aP+1,r2.1.au⟩:Mod.gI)) [(r2.1.aP+1),r1.2]) [(r2.1.aP+1),-r2.2]
   have u1:=gn (fF ((⟨r2.1.aP+1,r2.1.au⟩:Mod.gI)) [(r2.1.aP+1),r1.2]) atoms (gs++[t]) [(r2.1.aP+1),-r2.2] (by simp) (by simp;omega) oM
   simp only[dP,iG] at u1
   have z2:=hH (fF (fF ((⟨r2.1.aP+1,r2.1.au⟩:Mod.gI)) [(r2.1.aP+1),r1.2]) [(r2.1.aP+1),-r2.2]) [-(r2.1.aP+1),-r1.2,r2.2]
   have u2:=gn (fF (fF ((⟨r2.1.aP+1,r2.1.au⟩:Mod.gI)) [(r2.1.aP+1),r1.2]) [(r2.1.aP+1),-r2.2]) atoms (gs++[t]) [-(r2.1.aP+1),-r1.2,r2.2] (by simp) (by simp;omega) oM
   simp only[dP,iG] at u2
   have en:pM t.kind ⟨r2.1.aP+1,r2.1.au⟩ (r2.1.aP+1) r1.2 r2.2=fF (fF (fF ((⟨r2.1.aP+1,r2.1.au⟩:Mod.gI)) [(r2.1.aP+1),r1.2]) [(r2.1.aP+1),-r2.2]) [-(r2.1.aP+1),-r1.2,r2.2]:=by rw[pM,if_neg n3,if_neg n4,if_pos kx];simp only[XI,Int.neg_neg]
   rw[en]
   have kk:=eq_true kx
   refine gS 166 [.tmp 4] hm Tryz.func89 fun hl he cV=>?_
   simp -implicitDefEqProofs only[go_sem,n1,h0]
   refine ff [] [0,1,2,4,5] c0 ?_ ?_
   ·refine sA ?_
    first|rfl|((repeat' apply aq)<;>rfl)
   refine sA ?_
   simp -implicitDefEqProofs only[go_sem,Z3,Z4,n2,h1]
   refine ff [] [0,4,5,6,7] c1 ?_ ?_
   ·refine sA ?_
    first|rfl|((repeat' apply aq)<;>rfl)
   refine bI ?_
   refine aq (by rw[ay,eL];simp) ?_
   refine aq (by rw[ay,eL];simp) ?_
   refine iK ?_
   rw[sF gs t]
   refine xE n3 n4 kk ?_
   refine ff [] [0,6,8,9] u0 ?_ ?_
   ·refine sA ?_
    first|rfl|((repeat' apply aq)<;>rfl)
   refine bI ?_
   refine ff [] [0,9,8,10] u1 ?_ ?_
   ·refine sA ?_
    first|rfl|((repeat' apply aq)<;>rfl)
   refine bI ?_
   refine ff [] [0,10,8,11] u2 ?_ ?_
   ·refine sA ?_
    first|rfl|((repeat' apply aq)<;>rfl)
   refine sA ?_
   refine bM [some 0,some 1,some 2,some 11,some 8] ?_ rfl rfl
   exact sC
  ·have n3:¬t.kind=3:=oM
   have n4:¬t.kind=4:=oM
   have n5:¬t.kind=5:=oM
   have z:((⟨r2.1.aP+1,r2.1.au⟩:Mod.gI)).au.length≤80000:=by simp only;omega
   have z0:=hH ((⟨r2.1.aP+1,r2.1.au⟩:Mod.gI)) [-(r2.1.aP+1),-r1.2,r2.2]
   have u0:=gn ((⟨r2.1.aP+1,r2.1.au⟩:Mod.gI)) atoms (gs++[t]) [-(r2.1.aP+1),-r1.2,r2.2] (by simp) (by simp;omega) oM
   simp only[dP,iG] at u0
   have z1:=hH (fF ((⟨r2.1.aP+1,r2.1.au⟩:Mod.gI)) [-(r2.1.aP+1),-r1.2,r2.2]) [-(r2.1.aP+1),r1.2,-r2.2]
   have u1:=gn (fF ((⟨r2.1.aP+1,r2.1.au⟩:Mod.gI)) [-(r2.1.aP+1),-r1.2,r2.2]) atoms (gs++[t]) [-(r2.1.aP+1),r1.2,-r2.2] (by simp) (by simp;omega) oM
   simp only[dP,iG] at u1
   have z2:=hH (fF (fF ((⟨r2.1.aP+1,r2.1.au⟩:Mod.gI)) [-(r2.1.aP+1),-r1.2,r2.2]) [-(r2.1.aP+1),r1.2,-r2.2]) [(r2.1.aP+1),r1.2,r2.2]
   have u2:=gn (fF (fF ((⟨r2.1.aP+1,r2.1.au⟩:Mod.gI)) [-(r2.1.aP+1),-r1.2,r2.2]) [-(r2.1.aP+1),r1.2,-r2.2]) atoms (gs++[t]) [(r2.1.aP+1),r1.2,r2.2] (by simp) (by simp;omega) oM
   simp only[dP,iG] at u2
   have z3:=hH (fF (fF (fF ((⟨r2.1.aP+1,r2.1.au⟩:Mod.gI)) [-(r2.1.aP+1),-r1.2,r2.2]) [-(r2.1.aP+1),r1.2,-r2.2]) [(r2.1.aP+1),r1.2,r2.2]) [(r2.1.aP+1),-r1.2,-r2.2]
   have u3:=gn (fF (fF (fF ((⟨r2.1.aP+1,r2.1.au⟩:Mod.gI)) [-(r2.1.aP+1),-r1.2,r2.2]) [-(r2.1.aP+1),r1.2,-r2.2]) [(r2.1.aP+1),r1.2,r2.2]) atoms (gs++[t]) [(r2.1.aP+1),-r1.2,-r2.2] (by simp) (by simp;omega) oM
   simp only[dP,iG] at u3
   have en:pM t.kind ⟨r2.1.aP+1,r2.1.au⟩ (r2.1.aP+1) r1.2 r2.2=fF (fF (fF (fF ((⟨r2.1.aP+1,r2.1.au⟩:Mod.gI)) [-(r2.1.aP+1),-r1.2,r2.2]) [-(r2.1.aP+1),r1.2,-r2.2]) [(r2.1.aP+1),r1.2,r2.2]) [(r2.1.aP+1),-r1.2,-r2.2]:=by rw[pM,if_neg n3,if_neg n4,if_neg n5];simp only[M6]
   rw[en]
   refine gS 166 [.tmp 4] hm Tryz.func89 fun hl he cV=>?_
   simp -implicitDefEqProofs only[go_sem,n1,h0]
   refine ff [] [0,1,2,4,5] c0 ?_ ?_
   ·refine sA ?_
    first|rfl|((repeat' apply aq)<;>rfl)
   refine sA ?_
   simp -implicitDefEqProofs only[go_sem,Z3,Z4,n2,h1]
   refine ff [] [0,4,5,6,7] c1 ?_ ?_
   ·refine sA ?_
    first|rfl|((repeat' apply aq)<;>rfl)
   refine bI ?_
   refine aq (by rw[ay,eL];simp) ?_
   refine aq (by rw[ay,eL];simp) ?_
   refine iK ?_
   rw[sF gs t]
   refine kY n3 n4 n5 ?_
   refine ff [] [0,6,8,9] u0 ?_ ?_
   ·refine sA ?_
    first|rfl|((repeat' apply aq)<;>rfl)
   refine bI ?_
   refine ff [] [0,9,8,10] u1 ?_ ?_
   ·refine sA ?_
    first|rfl|((repeat' apply aq)<;>rfl)
   refine sA ?_
   refine ff [] [0,10,8,11] u2 ?_ ?_
   ·refine sA ?_
    first|rfl|((repeat' apply aq)<;>rfl)
   refine bI ?_
   refine ff [] [0,11,8,12] u3 ?_ ?_
   ·refine sA ?_
    first|rfl|((repeat' apply aq)<;>rfl)
   refine sA ?_
   refine bM [some 0,some 1,some 2,some 12,some 8] ?_ rfl rfl
   exact sC
theorem Ho(atoms:List bz)(mf:atoms.length≤1000):∀(t:Mod.aU)(d:Nat)(c:Mod.gI)(fs:List Mod.aU),bH t d=true→inside atoms t→(atoms.length:Int)≤c.aP→c.aP+2 ^ d≤10000→c.au.length+4*2 ^ d≤80000→fs.length+2 ^ d≤80000 →
 C E.P 89 [.bK 0 0,av (eE t)] [some (.box [iv c.aP,.aW 1,lv (bC atoms),.aW 2]),some (.e9 32 (Je c.au)),some (.aW 39 (bc fs))] (gR (iv (cF atoms t c).2) [some (.box [iv (cF atoms t c).1.aP,.aW 3,lv (bC atoms),.aW 4]),some .dead,some .dead,some (.e9 32 (Je (cF atoms t c).1.au)),some (.aW 39 (bc (fs++fb t)))]):=
 aU.ind fun k x ks ih d c fs h1 h2 h3 h4 h5 h6=>F5 atoms mf (.mk k x ks) ih d c fs h1 h2 h3 h4 h5 h6
theorem yL(au:List Mod.aU)(h:cR au=none):CN 65 [lv (bc au)] (.ko [.d (.val (.pointer none)),bv false]):=by
 refine gS 36 [.tmp 2,.tmp 3] hm Tryz.func65 fun hl he cV=>?_;have hc:=oB au;rw[h] at hc;simp only[lK,Option.isSome_none] at hc;refine aC [] hc ?_;refine sI ?_;try simp -implicitDefEqProofs only[go_sem,Z1,Z2,Z3,Z4]
 refine sI ?_;refine fv ?_;exact sC
theorem CO(au:List Mod.aU)(atoms:List bz)(h:cR au=some atoms):C E.P 65 [lv (bc au)] [] (gR (.ko [.bK 0 0,bv true]) [some (.box [iv (gU au).aP,.aW 1,lv (bC atoms),.aW 2]),some (.e9 32 (Je (gU au).au)),some (.aW 39 (bc (jD au)))]):=by
 obtain⟨p1,p2,p3,p4⟩:=fZ h;have e:=zM h;rw[e];refine gS 36 [.tmp 2,.tmp 3] hm Tryz.func65 fun hl he cV=>?_;have hc:=oB au;rw[h] at hc;simp only[dG,gw] at hc;refine aC [] hc ?_;refine bI ?_;refine aeg hm au.length (fun(i:Nat) (c:Mod.gI) (fs:List Mod.aU)=>(atoms.length:Int)≤c.aP∧c.aP≤6+31*i∧c.au.length≤125*i∧rU atoms au ⟨atoms.length,[]⟩=rU atoms (au.drop i) c∧fs.length≤31*i∧jD au=fs++jD (au.drop i)) (fun i c fs=>⟨fk 36 .any [(6,.bK 0 0),(22,lv (bc au)),(23,iv au.length),(24,iv i)],[some (.box [iv c.aP,.aW 1,lv (bC atoms),.aW 2]),some (.e9 32 (Je c.au)),some (.aW 39 (bc fs))]⟩) (⟨atoms.length,[]⟩) ([]) ?_ (c9 [some 0,none,none]) ?_;exact⟨oM,by simp only;omega,by simp only;omega,by simp,rfl,by simp,rfl⟩;rintro i c fs ⟨hi,b1,b2,b3,hg,b4,hn⟩;rcases aa (i<au.length) with h1|h1
 ·obtain⟨q0,q1,q2,q3,q4,q5,q6,q7,q8⟩:=Zp h h1 b1 b2 b3;have q9:=y9 au[i] 5 q3;have q10:=nJ au[i] 5 q3;rw[Xm h1] at hg;rw[QA h1,←List.append_assoc] at hn;have cf:=Ho atoms oM au[i] 5 c fs q3 q4 b1 oM oM oM;have ca:=gn (cF atoms au[i] c).1 atoms (fs++fb au[i]) [(cF atoms au[i] c).2] (by simp) (by simp;omega) oM;simp only[dP,iG] at ca;try simp -implicitDefEqProofs only[go_sem,h1]
  refine sI ?_;refine ff [] [0,1,2,4,5] cf ?_ ?_
  ·refine sA ?_;first|rfl|((repeat' apply aq)<;>rfl)
  refine bI ?_;refine ff [] [0,4,5,6] ca ?_ ?_
  ·refine sA ?_;first|rfl|((repeat' apply aq)<;>rfl)
  refine bI ?_;exact⟨i+1,fF (cF atoms au[i] c).1 [(cF atoms au[i] c).2],fs++fb au[i],⟨oM,q6,q7,q8,hg,by rw[ay];omega,hn⟩,sL,c9 [some 0,some 6,some 5]⟩
 rw[al oM,rU] at hg;rw[al oM,jD,bV] at hn;rw[hg,hn];refine bS h1 ?_;refine sI ?_;refine bM sa ?_ rfl rfl;exact sC
theorem Fh(au:List Mod.aU)(p:Mod.F8):C E.P 41 [lv (bc au),lv (kS p.ke)] [] (gR (.ko [.agg [iv (yr au p).aP,.aW 0],bv (pw au p.ke)]) [some (.e9 32 (Je (yr au p).au))]):=by
 rw[Dz];refine gS 48 [.cell 4 89,.tmp 5] hm Tryz.func41 fun hl he cV=>?_;cases h:cR au with
 | none=>rw[MY h,if_neg (by simp)];refine aC [] (yL au h) ?_;refine bI ?_;refine Et [none] ?_;exact⟨rfl,rfl⟩
 | some atoms=>
  obtain⟨p1,p2,p3,p4⟩:=fZ h;have fj:=aaJ au;rw[Nb h];refine xN [] [1,2,3] (CO au atoms h) ?_;rcases aa ((64:Int)<(p.ke.length:Int)) with hn|hn;have hn':¬p.ke.length≤64:=oM;rw[decide_eq_false hn',aZ,if_neg (by simp)];refine dB hn ?_;refine Et [none] ?_;exact⟨rfl,rfl⟩;have hn':p.ke.length≤64:=oM;rw[decide_eq_true hn',aN];refine dB hn ?_;refine Ag hm p.ke.length (fun(i:Nat) (b:Mod.gI)=>b.au.length≤1000+i∧gx (gU au) p.ke=gx b (p.ke.drop i)∧(p.ke.all fun l=>iz l.marks atoms.length)=((p.ke.drop i).all fun l=>iz l.marks atoms.length)) (fun i b=>⟨fk 48 .any [(4,.bK 0 0),(6,.bK 1 0),(23,lv (kS p.ke)),(24,iv p.ke.length),(25,iv i)],[some (.box [iv 0,.bE]),some (.box [iv b.aP,.aW 2,lv (bC atoms),.aW 3]),some (.e9 32 (Je b.au)),some (.aW 39 (bc (jD au)))]⟩) (gU au) ?_ (c9 Aj) ?_;exact⟨oM,oM,rfl,by simp⟩;rintro i b ⟨hi,b1,hg,ha⟩;rcases aa (i<p.ke.length) with h1|h1
  ·rw[ai h1,cY] at ha;have hc:=D1 p.ke[i].marks atoms oM;cases q1:iz p.ke[i].marks atoms.length;rw[q1] at hc ha;rw[aZ] at ha;rw[ha,if_neg (by simp)];try simp -implicitDefEqProofs only[go_sem,h1]
   refine sI ?_;refine aC [] hc ?_;refine sJ ?_;refine Et [none] ?_;exact⟨rfl,rfl⟩;rw[q1] at hc ha;rw[aN] at ha;have q3:=acP q1 p3;have q4:=zZ q1;have a1:=hH b (p.ke[i].marks.map fun m=>-m);rw[Tp h1] at hg;try simp -implicitDefEqProofs only[go_sem,h1]
   refine sI ?_;refine aC [] hc ?_;refine sJ ?_;refine oL [] (vq p.ke[i].marks oM (fun x hx=>by have:=q4 x hx;omega)) ?_;refine ff [] [1,2,3,5] (gn b atoms (jD au) (p.ke[i].marks.map fun m=>-m) (by rw[List.length_map];omega) (fun x hx=>by obtain⟨m,hm1,hm2⟩:=List.mem_map.1 hx;have:=q4 m hm1;omega) oM) ?_ ?_
   ·refine sA ?_;first|rfl|((repeat' apply aq)<;>rfl)
   refine bI ?_;exact⟨i+1,fF b (p.ke[i].marks.map fun m=>-m),⟨oM,oM,hg,ha⟩,sL,c9 [some 0,some 1,some 5,some 3]⟩
  rw[al oM,gx] at hg;rw[al oM,fW] at ha;rw[hg,ha,if_pos rfl];refine bS h1 ?_;refine sI ?_;refine bM [some 2] ?_ rfl rfl;exact sC
end Go.Proofs.YtnhdminpjihbnaaGreat
