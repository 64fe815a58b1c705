/-
  The program: the walks of numbers. A step towards the exact laws.
-/
import Derived.Test.YtabembjmeobhoaaGreatKDI
set_option linter.unusedVariables false
set_option linter.unusedSimpArgs false
open Bool renaming and_eq_true→al
open Classical renaming em→aa
open Int renaming gcd→bN
namespace Go.Proofs.YtabembjmeobhoaaGreat
open Go.Eng Go.Mod
open Int renaming reduceEq→Z1,reduceLT→Z2,reduceLE→Z3,reduceToNat→Z4
set_option maxRecDepth 100000
set_option maxHeartbeats 800000
theorem vk(a b:Int)(ha:-4000000000000000000≤a∧a≤4000000000000000000)(hb:-4000000000000000000≤b∧b≤4000000000000000000):C E.P 232 [iv a,iv b] [] (bz (iv (bN a b:Int)) []):=by
 refine gT (nt:=20) (rs:=[.tmp 4]) hm Tryz.func232 fun hl he cq=>?_
 refine sQ ?_
 refine YS a (-a) (a.natAbs:Int) Nk (by simp -implicitDefEqProofs only[go_sem,Z1,Z2,Z3,Z4]) (by simp -implicitDefEqProofs only[go_sem,Z1,Z2,Z3,Z4]) ?_
 try simp -implicitDefEqProofs only[go_sem,Z1,Z2,Z3,Z4]
 refine sJ ?_
 refine YS b (-b) (b.natAbs:Int) Nk (by simp -implicitDefEqProofs only[go_sem,Z1,Z2,Z3,Z4]) (by simp -implicitDefEqProofs only[go_sem,Z1,Z2,Z3,Z4]) ?_
 try simp -implicitDefEqProofs only[go_sem,Z1,Z2,Z3,Z4]
 refine sI ?_
 refine cM hm (fun(p:Int) (q:Int)=> 0≤p∧0≤q∧bN p q=bN a b) (fun(p:Int) (q:Int)=> ⟨dx 20 .any [(0,iv p),(1,iv q)],[]⟩) (fun(p:Int) (q:Int)=> q.toNat) ((a.natAbs:Int)) ((b.natAbs:Int)) ?_ (ar [] ?_ ?_ rfl rfl) ?_
 rotate_left
 ·refine sB ?_
  all_goals(try exact sM)
 ·refine sB ?_
  all_goals(try exact sM)
 rotate_left
 ·exact⟨by omega,by omega,by simp only[bN,Int.natAbs_natCast]⟩
 ·rintro p q ⟨hp,hq,hg⟩
  rcases aa (0<q) with h1|h1
  ·have hs:=M8 hp h1
   try simp -implicitDefEqProofs only[go_sem,Z1,Z2,Z3,Z4,h1]
   refine sJ ?_
   refine⟨q,p.tmod q,?_,sL,ar [] ?_ ?_ rfl rfl⟩
   rotate_left
   ·refine sB ?_
    all_goals(try exact sM)
   ·refine sB ?_
    all_goals(try exact sM)
   exact⟨hq,hs.1,by rw[hs.2.2,hg]⟩
  ·have e:q=0:=by omega
   subst e
   try simp -implicitDefEqProofs only[go_sem,Z1,Z2,Z3,Z4,h1]
   refine sI ?_
   refine an ?_
   refine sB ?_
   rw[←hg,gcd_zero hp]
theorem gP(a:Mod.Rat):C E.P 221 [av (eU a)] [] (bz (bv (bX a)) []):=by
 refine gT (nt:=19) (rs:=[.tmp 2]) hm Tryz.func221 fun hl he cq=>?_
 refine aD [] (fj a.N (-1000000000) 1000000000) ?_
 refine sI ?_
 cases h1:within a.N (-1000000000) 1000000000
 ·try simp -implicitDefEqProofs only[go_sem,Z1,Z2,Z3,Z4]
  refine sI ?_
  refine an ?_
  refine sB ?_
  all_goals(first|done|(simp[bX,h1];done)|(simp[bX,h1];omega)|skip)
 ·try simp -implicitDefEqProofs only[go_sem,Z1,Z2,Z3,Z4]
  refine sI ?_
  refine aD [] (fj a.D 1 1000000000) ?_
  refine sI ?_
  cases h2:within a.D 1 1000000000
  ·try simp -implicitDefEqProofs only[go_sem,Z1,Z2,Z3,Z4]
   refine sI ?_
   refine an ?_
   refine sB ?_
   all_goals(first|done|(simp[bX,h1,h2];done)|(simp[bX,h1,h2];omega)|skip)
  ·have k1:=dj.1 h1
   have k2:=dj.1 h2
   try simp -implicitDefEqProofs only[go_sem,Z1,Z2,Z3,Z4]
   refine sI ?_
   refine aD [] (vk a.N a.D (by omega) (by omega)) ?_
   refine sI ?_
   refine an ?_
   refine sB ?_
   all_goals(first|done|(simp[bX,h1,h2];done)|(simp[bX,h1,h2];omega)|skip)
theorem vH(n d:Int)(hn:-2000000000000000000≤n∧n≤2000000000000000000)(hd:1≤d∧d≤1000000000000000000):C E.P 235 [iv n,iv d] [] (bz (.gV [av (eU (il n d).1),bv (il n d).2]) []):=by
 have e:=Al (n:=n) hd.1
 have hg:=L8 (n:=n) (d:=d) (by omega)
 have b1:=pP hg hn
 have b2:=pP (n:=d) (k:=1000000000000000000) hg (by omega)
 have jJ:¬ (bN n d:Int)=0:=by omega
 have h0:¬d=0:=by omega
 have h1:¬d<0:=by omega
 refine gT (nt:=32) (rs:=[.cell 4 71,.tmp 5]) hm Tryz.func235 fun hl he cq=>?_
 try simp -implicitDefEqProofs only[go_sem,Z1,Z2,Z3,Z4,h0,h1]
 refine sI ?_
 refine aD [] (vk n d (by omega) (by omega)) ?_
 refine sJ ?_
 refine aD [] (gP ⟨n.tdiv (bN n d),d.tdiv (bN n d)⟩) ?_
 refine sI ?_
 cases h2:bX ⟨n.tdiv (bN n d),d.tdiv (bN n d)⟩
 ·try simp -implicitDefEqProofs only[go_sem,Z1,Z2,Z3,Z4]
  refine sI ?_
  refine an ?_
  refine sB ?_
  all_goals(first|done|(simp[e,h2];done)|(simp[e,h2];omega)|skip)
 ·try simp -implicitDefEqProofs only[go_sem,Z1,Z2,Z3,Z4]
  refine sI ?_
  refine an ?_
  refine sB ?_
  all_goals(first|done|(simp[e,h2];done)|(simp[e,h2];omega)|skip)
theorem F7{a b:Mod.Rat}(ha:bX a=true)(hb:bX b=true):(-1000000000000000000≤a.N*b.D∧a.N*b.D≤1000000000000000000)∧(-1000000000000000000≤b.N*a.D∧b.N*a.D≤1000000000000000000)∧(1≤a.D*b.D∧a.D*b.D≤1000000000000000000)∧(-1000000000000000000≤a.N*b.N∧a.N*b.N≤1000000000000000000):=by
 rw[n6] at ha hb
 exact⟨sq ha.1 (by omega),sq hb.1 (by omega),R4 ha.2.1 hb.2.1,sq ha.1 hb.1⟩
theorem p8(a b:Mod.Rat):C E.P 177 [av (eU a),av (eU b)] [] (bz (.gV [av (eU (db a b).1),bv (db a b).2]) []):=by
 refine gT (nt:=34) (rs:=[.cell 4 71,.tmp 5]) hm Tryz.func177 fun hl he cq=>?_
 refine aD [] (gP a) ?_
 refine sI ?_
 cases h1:bX a
 ·try simp -implicitDefEqProofs only[go_sem,Z1,Z2,Z3,Z4]
  refine sI ?_
  refine an ?_
  refine sB ?_
  all_goals(first|done|(simp[db,h1];done)|(simp[db,h1];omega)|skip)
 ·try simp -implicitDefEqProofs only[go_sem,Z1,Z2,Z3,Z4]
  refine sI ?_
  refine aD [] (gP b) ?_
  refine sI ?_
  cases h2:bX b
  ·try simp -implicitDefEqProofs only[go_sem,Z1,Z2,Z3,Z4]
   refine sI ?_
   refine an ?_
   refine sB ?_
   all_goals(first|done|(simp[db,h1,h2];done)|(simp[db,h1,h2];omega)|skip)
  ·obtain⟨q1,q2,q3,q4⟩:=F7 h1 h2
   try simp -implicitDefEqProofs only[go_sem,Z1,Z2,Z3,Z4]
   refine sJ ?_
   refine aD [] (vH (a.N*b.D+b.N*a.D) (a.D*b.D) (by omega) (by omega)) ?_
   refine sI ?_
   refine an ?_
   refine sB ?_
   all_goals(first|done|(simp[db,h1,h2];done)|(simp[db,h1,h2];omega)|skip)
theorem tP(a b:Mod.Rat):C E.P 224 [av (eU a),av (eU b)] [] (bz (.gV [av (eU (cC a b).1),bv (cC a b).2]) []):=by
 refine gT (nt:=28) (rs:=[.cell 4 71,.tmp 5]) hm Tryz.func224 fun hl he cq=>?_
 refine aD [] (gP a) ?_
 refine sI ?_
 cases h1:bX a
 ·try simp -implicitDefEqProofs only[go_sem,Z1,Z2,Z3,Z4]
  refine sI ?_
  refine an ?_
  refine sB ?_
  all_goals(first|done|(simp[cC,h1];done)|(simp[cC,h1];omega)|skip)
 ·try simp -implicitDefEqProofs only[go_sem,Z1,Z2,Z3,Z4]
  refine sI ?_
  refine aD [] (gP b) ?_
  refine sI ?_
  cases h2:bX b
  ·try simp -implicitDefEqProofs only[go_sem,Z1,Z2,Z3,Z4]
   refine sI ?_
   refine an ?_
   refine sB ?_
   all_goals(first|done|(simp[cC,h1,h2];done)|(simp[cC,h1,h2];omega)|skip)
  ·obtain⟨q1,q2,q3,q4⟩:=F7 h1 h2
   try simp -implicitDefEqProofs only[go_sem,Z1,Z2,Z3,Z4]
   refine sJ ?_
   refine aD [] (vH (a.N*b.N) (a.D*b.D) (by omega) (by omega)) ?_
   refine sI ?_
   refine an ?_
   refine sB ?_
   all_goals(first|done|(simp[cC,h1,h2];done)|(simp[cC,h1,h2];omega)|skip)
theorem kT(a b:Mod.Rat):C E.P 175 [av (eU a),av (eU b)] [] (bz (bv (cY a b)) []):=by
 refine gT (nt:=24) (rs:=[.tmp 4]) hm Tryz.func175 fun hl he cq=>?_
 refine aD [] (gP a) ?_
 refine sI ?_
 cases h1:bX a
 ·try simp -implicitDefEqProofs only[go_sem,Z1,Z2,Z3,Z4]
  refine sI ?_
  refine an ?_
  refine sB ?_
  all_goals(first|done|(simp[cY,h1];done)|(simp[cY,h1];omega)|skip)
 ·try simp -implicitDefEqProofs only[go_sem,Z1,Z2,Z3,Z4]
  refine sI ?_
  refine aD [] (gP b) ?_
  refine sI ?_
  cases h2:bX b
  ·try simp -implicitDefEqProofs only[go_sem,Z1,Z2,Z3,Z4]
   refine sI ?_
   refine an ?_
   refine sB ?_
   all_goals(first|done|(simp[cY,h1,h2];done)|(simp[cY,h1,h2];omega)|skip)
  ·obtain⟨q1,q2,q3,q4⟩:=F7 h1 h2
   try simp -implicitDefEqProofs only[go_sem,Z1,Z2,Z3,Z4]
   refine sJ ?_
   refine an ?_
   refine sB ?_
   all_goals(first|done|(simp[cY,h1,h2];done)|(simp[cY,h1,h2];omega)|skip)
theorem fa(n:Int):C E.P 105 [iv n] [] (bz (av (eU (whole n))) []):=by
 refine gT (nt:=5) (rs:=[.cell 2 71]) hm Tryz.func105 fun hl he cq=>?_
 refine an ?_
 refine sB ?_
 all_goals(first|done|(simp[whole];done)|(simp[whole];omega)|skip)
theorem wT(sum:Mod.Rat)(c:Int)(v:Mod.Rat):C E.P 149 [av (eU sum),iv c,av (eU v)] [] (bz (.gV [av (eU (plus sum c v).1),bv (plus sum c v).2]) []):=by
 refine gT (nt:=25) (rs:=[.cell 6 71,.tmp 7]) hm Tryz.func149 fun hl he cq=>?_
 refine aD [] (fa c) ?_
 refine sI ?_
 refine aD [] (tP (whole c) v) ?_
 refine sI ?_
 cases h1:(cC (whole c) v).2
 ·try simp -implicitDefEqProofs only[go_sem,Z1,Z2,Z3,Z4]
  refine sI ?_
  refine an ?_
  refine sB ?_
  all_goals(first|done|(simp[plus,h1];done)|(simp[plus,h1];omega)|skip)
 ·try simp -implicitDefEqProofs only[go_sem,Z1,Z2,Z3,Z4]
  refine sI ?_
  refine aD [] (p8 sum (cC (whole c) v).1) ?_
  refine sI ?_
  refine an ?_
  refine sB ?_
  all_goals(first|done|(simp[plus,h1];done)|(simp[plus,h1];omega)|skip)
theorem Bs(a:Mod.Rat)(bound:Int)(strict:Bool):C E.P 150 [av (eU a),iv bound,bv strict] [] (bz (bv (below a bound strict)) []):=by
 refine gT (nt:=17) (rs:=[.tmp 6]) hm Tryz.func150 fun hl he cq=>?_
 cases strict
 ·try simp -implicitDefEqProofs only[go_sem,Z1,Z2,Z3,Z4]
  refine sI ?_
  refine aD [] (fa bound) ?_
  refine sI ?_
  refine aD [] (kT (whole bound) a) ?_
  refine sI ?_
  refine an ?_
  refine sB ?_
  all_goals(first|done|(simp[below];done)|(simp[below];omega)|skip)
 ·try simp -implicitDefEqProofs only[go_sem,Z1,Z2,Z3,Z4]
  refine sI ?_
  refine aD [] (fa bound) ?_
  refine sI ?_
  refine aD [] (kT a (whole bound)) ?_
  refine sI ?_
  refine an ?_
  refine sB ?_
  all_goals(first|done|(simp[below];done)|(simp[below];omega)|skip)
theorem rn(n:Int):C E.P 270 [iv n] [] (bz (iv (rj n)) []):=by
 refine gT (nt:=14) (rs:=[.tmp 2]) hm Tryz.func270 fun hl he cq=>?_
 rcases aa (n < -1000000000) with h1|h1
 ·refine yA ?_
  refine an ?_
  refine sB ?_
  all_goals(simp[rj,h1];done)
 ·rcases aa (1000000000<n) with h2|h2
  ·refine yJ ?_
   refine an ?_
   refine sB ?_
   all_goals(simp[rj,h1,h2];done)
  ·rcases aa (n<0) with h3|h3
   ·simp -implicitDefEqProofs only[go_sem,Z1,Z2,Z3,Z4,h1,h2,h3]
    refine sQ ?_
    refine an ?_
    refine sB ?_
    all_goals(simp[rj,h1,h2,h3];done)
   ·simp -implicitDefEqProofs only[go_sem,Z1,Z2,Z3,Z4,h1,h2,h3]
    refine an ?_
    refine sB ?_
    all_goals(simp[rj,h1,h2,h3];done)
theorem rf(a b:Int)(ha:0≤a)(hb:0≤b):C E.P 247 [iv a,iv b] [] (bz (iv (bN a b:Int)) []):=by
 refine gT (nt:=12) (rs:=[.tmp 4]) hm Tryz.func247 fun hl he cq=>?_
 refine cM hm (fun(p:Int) (q:Int)=> 0≤p∧0≤q∧bN p q=bN a b) (fun(p:Int) (q:Int)=> ⟨dx 12 .any [(0,iv p),(1,iv q)],[]⟩) (fun(p:Int) (q:Int)=> q.toNat) (a) (b) ?_ (ar [] ?_ ?_ rfl rfl) ?_
 rotate_left
 ·exact sD
 ·exact sD
 rotate_left
 ·exact⟨ha,hb,rfl⟩
 ·rintro p q ⟨hp,hq,hg⟩
  rcases aa (0<q) with h1|h1
  ·have hs:=M8 hp h1
   refine yA ?_
   refine sQ ?_
   refine⟨q,p.tmod q,?_,sL,ar [] ?_ ?_ rfl rfl⟩
   rotate_left
   ·exact sD
   ·exact sD
   exact⟨hq,hs.1,by rw[hs.2.2,hg]⟩
  ·have e:q=0:=by omega
   subst e
   refine yA ?_
   refine an ?_
   refine sB ?_
   rw[←hg,gcd_zero hp]
theorem S3(a:Mod.Rat):bX a=(decide (rj a.N≤1000000000)&&(decide (1≤a.D)&&(decide (a.D≤1000000000)&&decide ((bN (rj a.N) a.D:Int)=1)))):=by
 cases h:bX a
 ·symm
  rw[Bool.eq_false_iff] at h⊢
  intro hh
  apply h
  simp only[al,decide_eq_true_eq,th] at hh
  rw[n6]
  refine⟨hh.1,⟨hh.2.1,hh.2.2.1⟩,?_⟩
  have:=Oz hh.1 a.D
  omega
 ·symm
  rw[n6] at h
  simp only[al,decide_eq_true_eq,th]
  refine⟨h.1,h.2.1.1,h.2.1.2,?_⟩
  rw[Oz h.1,h.2.2]
  rfl
theorem gm(a:Mod.Rat):C E.P 255 [av (eU a)] [] (bz (bv (bX a)) []):=by
 have e:=S3 a
 refine gT (nt:=26) (rs:=[.tmp 2]) hm Tryz.func255 fun hl he cq=>?_
 refine aD [] (rn a.N) ?_
 rcases aa (rj a.N≤1000000000) with h1|h1
 ·refine yA ?_
  rcases aa ((1:Int)≤a.D) with h2|h2
  ·refine yB ?_
   rcases aa (a.D≤1000000000) with h3|h3
   ·refine yC ?_
    refine aD [] (rn a.N) ?_
    refine aD [] (rf (rj a.N) a.D (Yp _) (by omega)) ?_
    refine iK ?_
    refine an ?_
    refine sB ?_
    all_goals(simp[e,h1,h2,h3];done)
   ·refine yC ?_
    refine iK ?_
    refine an ?_
    refine sB ?_
    all_goals(simp[e,h3];done)
  ·refine yB ?_
   refine iK ?_
   refine an ?_
   refine sB ?_
   all_goals(simp[e,h2];done)
 ·refine yA ?_
  refine iK ?_
  refine an ?_
  refine sB ?_
  all_goals(simp[e,h1];done)
theorem ow(n d:Int)(hn:-2000000000000000000≤n∧n≤2000000000000000000)(hd:1≤d∧d≤1000000000000000000):C E.P 269 [iv n,iv d] [] (bz (.gV [av (eU (il n d).1),bv (il n d).2]) []):=by
 have e:=Al (n:=n) hd.1
 have hg:=L8 (n:=n) (d:=d) (by omega)
 have b1:=pP hg hn
 have b2:=pP (n:=d) (k:=1000000000000000000) hg (by omega)
 have jJ:¬ (bN n d:Int)=0:=by omega
 refine gT (nt:=29) (rs:=[.cell 4 71,.tmp 5]) hm Tryz.func269 fun hl he cq=>?_
 rcases aa (n<0) with h1|h1
 ·have eg:(bN (-n) d:Int)=bN n d:=by rw[Lk]
  refine yA ?_
  refine sQ ?_
  refine bw [] (rf (-n) d (by omega) (by omega)) ?_ ?_<;>simp -implicitDefEqProofs only[go_sem,Z1,Z2,Z3,Z4,eg]
  refine sQ ?_
  refine aD [] (gm ⟨n.tdiv (bN n d),d.tdiv (bN n d)⟩) ?_
  cases h2:bX ⟨n.tdiv (bN n d),d.tdiv (bN n d)⟩
  ·refine sB ?_
   refine an ?_
   refine sB ?_
   all_goals(simp[e,h2];done)
  ·refine sB ?_
   refine an ?_
   refine sB ?_
   all_goals(simp[e,h2];done)
 ·refine yA ?_
  refine aD [] (rf n d (by omega) (by omega)) ?_
  refine sQ ?_
  refine aD [] (gm ⟨n.tdiv (bN n d),d.tdiv (bN n d)⟩) ?_
  cases h2:bX ⟨n.tdiv (bN n d),d.tdiv (bN n d)⟩
  ·refine sB ?_
   refine an ?_
   refine sB ?_
   all_goals(simp[e,h2];done)
  ·refine sB ?_
   refine an ?_
   refine sB ?_
   all_goals(simp[e,h2];done)
theorem Kx{a b:Mod.Rat}(ha:bX a=true)(hb:bX b=true):(-1000000000000000000≤a.N*b.D∧a.N*b.D≤1000000000000000000)∧(-1000000000000000000≤b.N*a.D∧b.N*a.D≤1000000000000000000)∧(1≤a.D*b.D∧a.D*b.D≤1000000000000000000)∧(-1000000000000000000≤a.N*b.N∧a.N*b.N≤1000000000000000000):=by
 rw[n6] at ha hb
 exact⟨sq ha.1 (by omega),sq hb.1 (by omega),R4 ha.2.1 hb.2.1,sq ha.1 hb.1⟩
theorem lX(a b:Mod.Rat):C E.P 253 [av (eU a),av (eU b)] [] (bz (.gV [av (eU (db a b).1),bv (db a b).2]) []):=by
 refine gT (nt:=34) (rs:=[.cell 4 71,.tmp 5]) hm Tryz.func253 fun hl he cq=>?_
 refine aD [] (gm a) ?_
 cases h1:bX a
 ·refine sB ?_
  refine an ?_
  refine sB ?_
  all_goals(simp[db,h1];done)
 ·refine sB ?_
  refine aD [] (gm b) ?_
  cases h2:bX b
  ·refine sB ?_
   refine an ?_
   refine sB ?_
   all_goals(simp[db,h1,h2];done)
  ·obtain⟨q1,q2,q3,q4⟩:=Kx h1 h2
   refine sB ?_
   refine sQ ?_
   refine aD [] (ow (a.N*b.D+b.N*a.D) (a.D*b.D) (by omega) (by omega)) ?_
   refine an ?_
   refine sB ?_
   all_goals(simp[db,h1,h2];done)
theorem nG(a b:Mod.Rat):C E.P 258 [av (eU a),av (eU b)] [] (bz (.gV [av (eU (cC a b).1),bv (cC a b).2]) []):=by
 refine gT (nt:=28) (rs:=[.cell 4 71,.tmp 5]) hm Tryz.func258 fun hl he cq=>?_
 refine aD [] (gm a) ?_
 cases h1:bX a
 ·refine sB ?_
  refine an ?_
  refine sB ?_
  all_goals(simp[cC,h1];done)
 ·refine sB ?_
  refine aD [] (gm b) ?_
  cases h2:bX b
  ·refine sB ?_
   refine an ?_
   refine sB ?_
   all_goals(simp[cC,h1,h2];done)
  ·obtain⟨q1,q2,q3,q4⟩:=Kx h1 h2
   refine sB ?_
   refine sQ ?_
   refine aD [] (ow (a.N*b.N) (a.D*b.D) (by omega) (by omega)) ?_
   refine an ?_
   refine sB ?_
   all_goals(simp[cC,h1,h2];done)
theorem mP(a b:Mod.Rat):C E.P 217 [av (eU a),av (eU b)] [] (bz (bv (cY a b)) []):=by
 refine gT (nt:=24) (rs:=[.tmp 4]) hm Tryz.func217 fun hl he cq=>?_
 refine aD [] (gm a) ?_
 cases h1:bX a
 ·simp -implicitDefEqProofs only[go_sem,Z1,Z2,Z3,Z4]
  refine an ?_
  refine sB ?_
  all_goals(simp[cY,h1];done)
 ·refine sB ?_
  refine aD [] (gm b) ?_
  cases h2:bX b
  ·refine sB ?_
   refine an ?_
   refine sB ?_
   all_goals(simp[cY,h1,h2];done)
  ·obtain⟨q1,q2,q3,q4⟩:=Kx h1 h2
   refine sB ?_
   refine sQ ?_
   refine an ?_
   refine sB ?_
   all_goals(simp[cY,h1,h2];done)
end Go.Proofs.YtabembjmeobhoaaGreat
