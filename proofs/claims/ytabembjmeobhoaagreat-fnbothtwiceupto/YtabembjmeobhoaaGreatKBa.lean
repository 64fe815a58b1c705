/-
  The program: the walks of numbers. A step towards the exact laws.
-/
import Derived.Test.YtabembjmeobhoaaGreatKBI
set_option linter.unusedVariables false
set_option linter.unusedSimpArgs false
open Bool renaming and_eq_true→ai
open Classical renaming em→aa
open Int renaming gcd→bJ
namespace Go.Proofs.YtabembjmeobhoaaGreat
open Go.Eng Go.Mod
open Int renaming reduceEq→Z1,reduceLT→Z2,reduceLE→Z3,reduceToNat→Z4
set_option maxRecDepth 100000
set_option maxHeartbeats 800000
theorem uP(a b:Int)(ha:-4000000000000000000≤a∧a≤4000000000000000000)(hb:-4000000000000000000≤b∧b≤4000000000000000000):C E.P 232 [iv a,iv b] [] (bM (iv (bJ a b:Int)) []):=by
 refine gT (nt:=20) (rs:=[.tmp 4]) hm Tryz.func232 fun hl he cI=>?_
 refine sQ ?_
 refine X9 a (-a) (a.natAbs:Int) LI (by simp -implicitDefEqProofs only[go_sem,Z1,Z2,Z3,Z4]) (by simp -implicitDefEqProofs only[go_sem,Z1,Z2,Z3,Z4]) ?_
 try simp -implicitDefEqProofs only[go_sem,Z1,Z2,Z3,Z4]
 refine sJ ?_
 refine X9 b (-b) (b.natAbs:Int) LI (by simp -implicitDefEqProofs only[go_sem,Z1,Z2,Z3,Z4]) (by simp -implicitDefEqProofs only[go_sem,Z1,Z2,Z3,Z4]) ?_
 try simp -implicitDefEqProofs only[go_sem,Z1,Z2,Z3,Z4]
 refine sI ?_
 refine dm hm (fun(p:Int) (q:Int)=> 0≤p∧0≤q∧bJ p q=bJ a b) (fun(p:Int) (q:Int)=> ⟨dB 20 .any [(0,iv p),(1,iv q)],[]⟩) (fun(p:Int) (q:Int)=> q.toNat) ((a.natAbs:Int)) ((b.natAbs:Int)) ?_ (aw [] ?_ ?_ rfl rfl) ?_
 rotate_left
 ·refine sB ?_
  all_goals(first|done|(simp[aq, *];done)|(simp[aq];done)|(simp;omega)|skip)
 ·refine sB ?_
  all_goals(first|done|(simp[aq, *];done)|(simp[aq];done)|(simp;omega)|skip)
 rotate_left
 ·exact⟨by omega,by omega,by simp only[bJ,Int.natAbs_natCast]⟩
 ·rintro p q ⟨hp,hq,hg⟩
  rcases aa (0<q) with h1|h1
  ·have hs:=MC hp h1
   try simp -implicitDefEqProofs only[go_sem,Z1,Z2,Z3,Z4,h1]
   refine sJ ?_
   refine⟨q,p.tmod q,?_,sL,aw [] ?_ ?_ rfl rfl⟩
   rotate_left
   ·refine sB ?_
    all_goals(first|done|(simp[aq, *];done)|(simp[aq];done)|(simp;omega)|skip)
   ·refine sB ?_
    all_goals(first|done|(simp[aq, *];done)|(simp[aq];done)|(simp;omega)|skip)
   exact⟨hq,hs.1,by rw[hs.2.2,hg]⟩
  ·have e:q=0:=by omega
   subst e
   try simp -implicitDefEqProofs only[go_sem,Z1,Z2,Z3,Z4,h1]
   refine sI ?_
   refine an ?_
   refine sB ?_
   rw[←hg,gcd_zero hp]
theorem gI(a:Mod.Rat):C E.P 221 [av (eO a)] [] (bM (bv (bV a)) []):=by
 refine gT (nt:=19) (rs:=[.tmp 2]) hm Tryz.func221 fun hl he cI=>?_
 refine aD [] (fU a.N (-1000000000) 1000000000) ?_
 refine sI ?_
 cases h1:within a.N (-1000000000) 1000000000
 ·try simp -implicitDefEqProofs only[go_sem,Z1,Z2,Z3,Z4]
  refine sI ?_
  refine an ?_
  refine sB ?_
  all_goals(first|done|(simp[bV,h1];done)|(simp[bV,h1];omega)|skip)
 ·try simp -implicitDefEqProofs only[go_sem,Z1,Z2,Z3,Z4]
  refine sI ?_
  refine aD [] (fU a.D 1 1000000000) ?_
  refine sI ?_
  cases h2:within a.D 1 1000000000
  ·try simp -implicitDefEqProofs only[go_sem,Z1,Z2,Z3,Z4]
   refine sI ?_
   refine an ?_
   refine sB ?_
   all_goals(first|done|(simp[bV,h1,h2];done)|(simp[bV,h1,h2];omega)|skip)
  ·have k1:=dx.1 h1
   have k2:=dx.1 h2
   try simp -implicitDefEqProofs only[go_sem,Z1,Z2,Z3,Z4]
   refine sI ?_
   refine aD [] (uP a.N a.D (by omega) (by omega)) ?_
   refine sI ?_
   refine an ?_
   refine sB ?_
   all_goals(first|done|(simp[bV,h1,h2];done)|(simp[bV,h1,h2];omega)|skip)
theorem vq(n d:Int)(hn:-2000000000000000000≤n∧n≤2000000000000000000)(hd:1≤d∧d≤1000000000000000000):C E.P 235 [iv n,iv d] [] (bM (.jd [av (eO (ig n d).1),bv (ig n d).2]) []):=by
 have e:=zz (n:=n) hd.1
 have hg:=J8 (n:=n) (d:=d) (by omega)
 have b1:=pC hg hn
 have b2:=pC (n:=d) (k:=1000000000000000000) hg (by omega)
 have jv:¬ (bJ n d:Int)=0:=by omega
 have h0:¬d=0:=by omega
 have h1:¬d<0:=by omega
 refine gT (nt:=32) (rs:=[.cell 4 71,.tmp 5]) hm Tryz.func235 fun hl he cI=>?_
 try simp -implicitDefEqProofs only[go_sem,Z1,Z2,Z3,Z4,h0,h1]
 refine sI ?_
 refine aD [] (uP n d (by omega) (by omega)) ?_
 refine sJ ?_
 refine aD [] (gI ⟨n.tdiv (bJ n d),d.tdiv (bJ n d)⟩) ?_
 refine sI ?_
 cases h2:bV ⟨n.tdiv (bJ n d),d.tdiv (bJ n d)⟩
 ·try simp -implicitDefEqProofs only[go_sem,Z1,Z2,Z3,Z4]
  refine sI ?_
  refine an ?_
  refine sB ?_
  all_goals(first|done|(simp[e,h2];done)|(simp[e,h2];omega)|skip)
 ·try simp -implicitDefEqProofs only[go_sem,Z1,Z2,Z3,Z4]
  refine sI ?_
  refine an ?_
  refine sB ?_
  all_goals(first|done|(simp[e,h2];done)|(simp[e,h2];omega)|skip)
theorem F3{a b:Mod.Rat}(ha:bV a=true)(hb:bV b=true):(-1000000000000000000≤a.N*b.D∧a.N*b.D≤1000000000000000000)∧(-1000000000000000000≤b.N*a.D∧b.N*a.D≤1000000000000000000)∧(1≤a.D*b.D∧a.D*b.D≤1000000000000000000)∧(-1000000000000000000≤a.N*b.N∧a.N*b.N≤1000000000000000000):=by
 rw[oc] at ha hb
 exact⟨rF ha.1 (by omega),rF hb.1 (by omega),Q8 ha.2.1 hb.2.1,rF ha.1 hb.1⟩
theorem pS(a b:Mod.Rat):C E.P 177 [av (eO a),av (eO b)] [] (bM (.jd [av (eO (c8 a b).1),bv (c8 a b).2]) []):=by
 refine gT (nt:=34) (rs:=[.cell 4 71,.tmp 5]) hm Tryz.func177 fun hl he cI=>?_
 refine aD [] (gI a) ?_
 refine sI ?_
 cases h1:bV a
 ·try simp -implicitDefEqProofs only[go_sem,Z1,Z2,Z3,Z4]
  refine sI ?_
  refine an ?_
  refine sB ?_
  all_goals(first|done|(simp[c8,h1];done)|(simp[c8,h1];omega)|skip)
 ·try simp -implicitDefEqProofs only[go_sem,Z1,Z2,Z3,Z4]
  refine sI ?_
  refine aD [] (gI b) ?_
  refine sI ?_
  cases h2:bV b
  ·try simp -implicitDefEqProofs only[go_sem,Z1,Z2,Z3,Z4]
   refine sI ?_
   refine an ?_
   refine sB ?_
   all_goals(first|done|(simp[c8,h1,h2];done)|(simp[c8,h1,h2];omega)|skip)
  ·obtain⟨q1,q2,q3,q4⟩:=F3 h1 h2
   try simp -implicitDefEqProofs only[go_sem,Z1,Z2,Z3,Z4]
   refine sJ ?_
   refine aD [] (vq (a.N*b.D+b.N*a.D) (a.D*b.D) (by omega) (by omega)) ?_
   refine sI ?_
   refine an ?_
   refine sB ?_
   all_goals(first|done|(simp[c8,h1,h2];done)|(simp[c8,h1,h2];omega)|skip)
theorem tr(a b:Mod.Rat):C E.P 224 [av (eO a),av (eO b)] [] (bM (.jd [av (eO (cq a b).1),bv (cq a b).2]) []):=by
 refine gT (nt:=28) (rs:=[.cell 4 71,.tmp 5]) hm Tryz.func224 fun hl he cI=>?_
 refine aD [] (gI a) ?_
 refine sI ?_
 cases h1:bV a
 ·try simp -implicitDefEqProofs only[go_sem,Z1,Z2,Z3,Z4]
  refine sI ?_
  refine an ?_
  refine sB ?_
  all_goals(first|done|(simp[cq,h1];done)|(simp[cq,h1];omega)|skip)
 ·try simp -implicitDefEqProofs only[go_sem,Z1,Z2,Z3,Z4]
  refine sI ?_
  refine aD [] (gI b) ?_
  refine sI ?_
  cases h2:bV b
  ·try simp -implicitDefEqProofs only[go_sem,Z1,Z2,Z3,Z4]
   refine sI ?_
   refine an ?_
   refine sB ?_
   all_goals(first|done|(simp[cq,h1,h2];done)|(simp[cq,h1,h2];omega)|skip)
  ·obtain⟨q1,q2,q3,q4⟩:=F3 h1 h2
   try simp -implicitDefEqProofs only[go_sem,Z1,Z2,Z3,Z4]
   refine sJ ?_
   refine aD [] (vq (a.N*b.N) (a.D*b.D) (by omega) (by omega)) ?_
   refine sI ?_
   refine an ?_
   refine sB ?_
   all_goals(first|done|(simp[cq,h1,h2];done)|(simp[cq,h1,h2];omega)|skip)
theorem kR(a b:Mod.Rat):C E.P 175 [av (eO a),av (eO b)] [] (bM (bv (cS a b)) []):=by
 refine gT (nt:=24) (rs:=[.tmp 4]) hm Tryz.func175 fun hl he cI=>?_
 refine aD [] (gI a) ?_
 refine sI ?_
 cases h1:bV a
 ·try simp -implicitDefEqProofs only[go_sem,Z1,Z2,Z3,Z4]
  refine sI ?_
  refine an ?_
  refine sB ?_
  all_goals(first|done|(simp[cS,h1];done)|(simp[cS,h1];omega)|skip)
 ·try simp -implicitDefEqProofs only[go_sem,Z1,Z2,Z3,Z4]
  refine sI ?_
  refine aD [] (gI b) ?_
  refine sI ?_
  cases h2:bV b
  ·try simp -implicitDefEqProofs only[go_sem,Z1,Z2,Z3,Z4]
   refine sI ?_
   refine an ?_
   refine sB ?_
   all_goals(first|done|(simp[cS,h1,h2];done)|(simp[cS,h1,h2];omega)|skip)
  ·obtain⟨q1,q2,q3,q4⟩:=F3 h1 h2
   try simp -implicitDefEqProofs only[go_sem,Z1,Z2,Z3,Z4]
   refine sJ ?_
   refine an ?_
   refine sB ?_
   all_goals(first|done|(simp[cS,h1,h2];done)|(simp[cS,h1,h2];omega)|skip)
theorem e9(n:Int):C E.P 105 [iv n] [] (bM (av (eO (whole n))) []):=by
 refine gT (nt:=5) (rs:=[.cell 2 71]) hm Tryz.func105 fun hl he cI=>?_
 refine an ?_
 refine sB ?_
 all_goals(first|done|(simp[whole];done)|(simp[whole];omega)|skip)
theorem wR(sum:Mod.Rat)(c:Int)(v:Mod.Rat):C E.P 149 [av (eO sum),iv c,av (eO v)] [] (bM (.jd [av (eO (plus sum c v).1),bv (plus sum c v).2]) []):=by
 refine gT (nt:=25) (rs:=[.cell 6 71,.tmp 7]) hm Tryz.func149 fun hl he cI=>?_
 refine aD [] (e9 c) ?_
 refine sI ?_
 refine aD [] (tr (whole c) v) ?_
 refine sI ?_
 cases h1:(cq (whole c) v).2
 ·try simp -implicitDefEqProofs only[go_sem,Z1,Z2,Z3,Z4]
  refine sI ?_
  refine an ?_
  refine sB ?_
  all_goals(first|done|(simp[plus,h1];done)|(simp[plus,h1];omega)|skip)
 ·try simp -implicitDefEqProofs only[go_sem,Z1,Z2,Z3,Z4]
  refine sI ?_
  refine aD [] (pS sum (cq (whole c) v).1) ?_
  refine sI ?_
  refine an ?_
  refine sB ?_
  all_goals(first|done|(simp[plus,h1];done)|(simp[plus,h1];omega)|skip)
theorem AY(a:Mod.Rat)(bound:Int)(strict:Bool):C E.P 150 [av (eO a),iv bound,bv strict] [] (bM (bv (below a bound strict)) []):=by
 refine gT (nt:=17) (rs:=[.tmp 6]) hm Tryz.func150 fun hl he cI=>?_
 cases strict
 ·try simp -implicitDefEqProofs only[go_sem,Z1,Z2,Z3,Z4]
  refine sI ?_
  refine aD [] (e9 bound) ?_
  refine sI ?_
  refine aD [] (kR (whole bound) a) ?_
  refine sI ?_
  refine an ?_
  refine sB ?_
  all_goals(first|done|(simp[below];done)|(simp[below];omega)|skip)
 ·try simp -implicitDefEqProofs only[go_sem,Z1,Z2,Z3,Z4]
  refine sI ?_
  refine aD [] (e9 bound) ?_
  refine sI ?_
  refine aD [] (kR a (whole bound)) ?_
  refine sI ?_
  refine an ?_
  refine sB ?_
  all_goals(first|done|(simp[below];done)|(simp[below];omega)|skip)
theorem rk(n:Int):C E.P 270 [iv n] [] (bM (iv (ri n)) []):=by
 refine gT (nt:=14) (rs:=[.tmp 2]) hm Tryz.func270 fun hl he cI=>?_
 rcases aa (n < -1000000000) with h1|h1
 ·simp -implicitDefEqProofs only[go_sem,Z1,Z2,Z3,Z4,h1]
  refine an ?_
  refine sB ?_
  all_goals(simp[ri,h1];done)
 ·rcases aa (1000000000<n) with h2|h2
  ·simp -implicitDefEqProofs only[go_sem,Z1,Z2,Z3,Z4,h1,h2]
   refine an ?_
   refine sB ?_
   all_goals(simp[ri,h1,h2];done)
  ·rcases aa (n<0) with h3|h3
   ·simp -implicitDefEqProofs only[go_sem,Z1,Z2,Z3,Z4,h1,h2,h3]
    refine sQ ?_
    refine an ?_
    refine sB ?_
    all_goals(simp[ri,h1,h2,h3];done)
   ·simp -implicitDefEqProofs only[go_sem,Z1,Z2,Z3,Z4,h1,h2,h3]
    refine an ?_
    refine sB ?_
    all_goals(simp[ri,h1,h2,h3];done)
theorem qZ(a b:Int)(ha:0≤a)(hb:0≤b):C E.P 247 [iv a,iv b] [] (bM (iv (bJ a b:Int)) []):=by
 refine gT (nt:=12) (rs:=[.tmp 4]) hm Tryz.func247 fun hl he cI=>?_
 refine dm hm (fun(p:Int) (q:Int)=> 0≤p∧0≤q∧bJ p q=bJ a b) (fun(p:Int) (q:Int)=> ⟨dB 12 .any [(0,iv p),(1,iv q)],[]⟩) (fun(p:Int) (q:Int)=> q.toNat) (a) (b) ?_ (aw [] ?_ ?_ rfl rfl) ?_
 rotate_left
 ·exact sD
 ·exact sD
 rotate_left
 ·exact⟨ha,hb,rfl⟩
 ·rintro p q ⟨hp,hq,hg⟩
  rcases aa (0<q) with h1|h1
  ·have hs:=MC hp h1
   simp -implicitDefEqProofs only[go_sem,Z1,Z2,Z3,Z4,h1]
   refine sQ ?_
   refine⟨q,p.tmod q,?_,sL,aw [] ?_ ?_ rfl rfl⟩
   rotate_left
   ·exact sD
   ·exact sD
   exact⟨hq,hs.1,by rw[hs.2.2,hg]⟩
  ·have e:q=0:=by omega
   subst e
   simp -implicitDefEqProofs only[go_sem,Z1,Z2,Z3,Z4,h1]
   refine an ?_
   refine sB ?_
   rw[←hg,gcd_zero hp]
theorem RA(a:Mod.Rat):bV a=(decide (ri a.N≤1000000000)&&(decide (1≤a.D)&&(decide (a.D≤1000000000)&&decide ((bJ (ri a.N) a.D:Int)=1)))):=by
 cases h:bV a
 ·symm
  rw[Bool.eq_false_iff] at h⊢
  intro hh
  apply h
  simp only[ai,decide_eq_true_eq,sM] at hh
  rw[oc]
  refine⟨hh.1,⟨hh.2.1,hh.2.2.1⟩,?_⟩
  have:=Ni hh.1 a.D
  omega
 ·symm
  rw[oc] at h
  simp only[ai,decide_eq_true_eq,sM]
  refine⟨h.1,h.2.1.1,h.2.1.2,?_⟩
  rw[Ni h.1,h.2.2]
  rfl
theorem gh(a:Mod.Rat):C E.P 255 [av (eO a)] [] (bM (bv (bV a)) []):=by
 have e:=RA a
 refine gT (nt:=26) (rs:=[.tmp 2]) hm Tryz.func255 fun hl he cI=>?_
 refine aD [] (rk a.N) ?_
 rcases aa (ri a.N≤1000000000) with h1|h1
 ·simp -implicitDefEqProofs only[go_sem,Z1,Z2,Z3,Z4,h1]
  rcases aa ((1:Int)≤a.D) with h2|h2
  ·simp -implicitDefEqProofs only[go_sem,Z1,Z2,Z3,Z4,h2]
   rcases aa (a.D≤1000000000) with h3|h3
   ·simp -implicitDefEqProofs only[go_sem,Z1,Z2,Z3,Z4,h3]
    refine aD [] (rk a.N) ?_
    refine aD [] (qZ (ri a.N) a.D (X6 _) (by omega)) ?_
    refine iK ?_
    refine an ?_
    refine sB ?_
    all_goals(simp[e,h1,h2,h3];done)
   ·simp -implicitDefEqProofs only[go_sem,Z1,Z2,Z3,Z4,h3]
    refine iK ?_
    refine an ?_
    refine sB ?_
    all_goals(simp[e,h3];done)
  ·simp -implicitDefEqProofs only[go_sem,Z1,Z2,Z3,Z4,h2]
   refine iK ?_
   refine an ?_
   refine sB ?_
   all_goals(simp[e,h2];done)
 ·simp -implicitDefEqProofs only[go_sem,Z1,Z2,Z3,Z4,h1]
  refine iK ?_
  refine an ?_
  refine sB ?_
  all_goals(simp[e,h1];done)
theorem om(n d:Int)(hn:-2000000000000000000≤n∧n≤2000000000000000000)(hd:1≤d∧d≤1000000000000000000):C E.P 269 [iv n,iv d] [] (bM (.jd [av (eO (ig n d).1),bv (ig n d).2]) []):=by
 have e:=zz (n:=n) hd.1
 have hg:=J8 (n:=n) (d:=d) (by omega)
 have b1:=pC hg hn
 have b2:=pC (n:=d) (k:=1000000000000000000) hg (by omega)
 have jv:¬ (bJ n d:Int)=0:=by omega
 refine gT (nt:=29) (rs:=[.cell 4 71,.tmp 5]) hm Tryz.func269 fun hl he cI=>?_
 rcases aa (n<0) with h1|h1
 ·have eg:(bJ (-n) d:Int)=bJ n d:=by rw[JZ]
  simp -implicitDefEqProofs only[go_sem,Z1,Z2,Z3,Z4,h1]
  refine sQ ?_
  refine bQ [] (qZ (-n) d (by omega) (by omega)) ?_ ?_<;>simp -implicitDefEqProofs only[go_sem,Z1,Z2,Z3,Z4,eg]
  refine sQ ?_
  refine aD [] (gh ⟨n.tdiv (bJ n d),d.tdiv (bJ n d)⟩) ?_
  cases h2:bV ⟨n.tdiv (bJ n d),d.tdiv (bJ n d)⟩
  ·refine sB ?_
   refine an ?_
   refine sB ?_
   all_goals(simp[e,h2];done)
  ·refine sB ?_
   refine an ?_
   refine sB ?_
   all_goals(simp[e,h2];done)
 ·simp -implicitDefEqProofs only[go_sem,Z1,Z2,Z3,Z4,h1]
  refine aD [] (qZ n d (by omega) (by omega)) ?_
  refine sQ ?_
  refine aD [] (gh ⟨n.tdiv (bJ n d),d.tdiv (bJ n d)⟩) ?_
  cases h2:bV ⟨n.tdiv (bJ n d),d.tdiv (bJ n d)⟩
  ·refine sB ?_
   refine an ?_
   refine sB ?_
   all_goals(simp[e,h2];done)
  ·refine sB ?_
   refine an ?_
   refine sB ?_
   all_goals(simp[e,h2];done)
theorem KV{a b:Mod.Rat}(ha:bV a=true)(hb:bV b=true):(-1000000000000000000≤a.N*b.D∧a.N*b.D≤1000000000000000000)∧(-1000000000000000000≤b.N*a.D∧b.N*a.D≤1000000000000000000)∧(1≤a.D*b.D∧a.D*b.D≤1000000000000000000)∧(-1000000000000000000≤a.N*b.N∧a.N*b.N≤1000000000000000000):=by
 rw[oc] at ha hb
 exact⟨rF ha.1 (by omega),rF hb.1 (by omega),Q8 ha.2.1 hb.2.1,rF ha.1 hb.1⟩
theorem lR(a b:Mod.Rat):C E.P 253 [av (eO a),av (eO b)] [] (bM (.jd [av (eO (c8 a b).1),bv (c8 a b).2]) []):=by
 refine gT (nt:=34) (rs:=[.cell 4 71,.tmp 5]) hm Tryz.func253 fun hl he cI=>?_
 refine aD [] (gh a) ?_
 cases h1:bV a
 ·refine sB ?_
  refine an ?_
  refine sB ?_
  all_goals(simp[c8,h1];done)
 ·refine sB ?_
  refine aD [] (gh b) ?_
  cases h2:bV b
  ·refine sB ?_
   refine an ?_
   refine sB ?_
   all_goals(simp[c8,h1,h2];done)
  ·obtain⟨q1,q2,q3,q4⟩:=KV h1 h2
   refine sB ?_
   refine sQ ?_
   refine aD [] (om (a.N*b.D+b.N*a.D) (a.D*b.D) (by omega) (by omega)) ?_
   refine an ?_
   refine sB ?_
   all_goals(simp[c8,h1,h2];done)
theorem nv(a b:Mod.Rat):C E.P 258 [av (eO a),av (eO b)] [] (bM (.jd [av (eO (cq a b).1),bv (cq a b).2]) []):=by
 refine gT (nt:=28) (rs:=[.cell 4 71,.tmp 5]) hm Tryz.func258 fun hl he cI=>?_
 refine aD [] (gh a) ?_
 cases h1:bV a
 ·refine sB ?_
  refine an ?_
  refine sB ?_
  all_goals(simp[cq,h1];done)
 ·refine sB ?_
  refine aD [] (gh b) ?_
  cases h2:bV b
  ·refine sB ?_
   refine an ?_
   refine sB ?_
   all_goals(simp[cq,h1,h2];done)
  ·obtain⟨q1,q2,q3,q4⟩:=KV h1 h2
   refine sB ?_
   refine sQ ?_
   refine aD [] (om (a.N*b.N) (a.D*b.D) (by omega) (by omega)) ?_
   refine an ?_
   refine sB ?_
   all_goals(simp[cq,h1,h2];done)
theorem mK(a b:Mod.Rat):C E.P 217 [av (eO a),av (eO b)] [] (bM (bv (cS a b)) []):=by
 refine gT (nt:=24) (rs:=[.tmp 4]) hm Tryz.func217 fun hl he cI=>?_
 refine aD [] (gh a) ?_
 cases h1:bV a
 ·simp -implicitDefEqProofs only[go_sem,Z1,Z2,Z3,Z4]
  refine an ?_
  refine sB ?_
  all_goals(simp[cS,h1];done)
 ·refine sB ?_
  refine aD [] (gh b) ?_
  cases h2:bV b
  ·refine sB ?_
   refine an ?_
   refine sB ?_
   all_goals(simp[cS,h1,h2];done)
  ·obtain⟨q1,q2,q3,q4⟩:=KV h1 h2
   refine sB ?_
   refine sQ ?_
   refine an ?_
   refine sB ?_
   all_goals(simp[cS,h1,h2];done)
end Go.Proofs.YtabembjmeobhoaaGreat
