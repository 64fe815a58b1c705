/-
  The program: the walks of numbers. A step towards the exact laws.
-/
import Derived.Test.YtabembjmeobhoaaGreatKCI
set_option linter.unusedVariables false
set_option linter.unusedSimpArgs false
open Bool renaming and_eq_true→ai
open Classical renaming em→aa
open Int renaming gcd→bM
namespace Go.Proofs.YtabembjmeobhoaaGreat
open Go.Eng Go.Mod
open Int renaming reduceEq→Z1,reduceLT→Z2,reduceLE→Z3,reduceToNat→Z4
set_option maxRecDepth 100000
set_option maxHeartbeats 800000
theorem wg(a b:Int)(ha:-4000000000000000000≤a∧a≤4000000000000000000)(hb:-4000000000000000000≤b∧b≤4000000000000000000):C E.P 232 [iv a,iv b] [] (bD (iv (bM a b:Int)) []):=by
 refine gT (nt:=20) (rs:=[.tmp 4]) hm Tryz.func232 fun hl he cq=>?_
 refine sQ ?_
 refine Zq a (-a) (a.natAbs:Int) MO (by simp -implicitDefEqProofs only[go_sem,Z1,Z2,Z3,Z4]) (by simp -implicitDefEqProofs only[go_sem,Z1,Z2,Z3,Z4]) ?_
 try simp -implicitDefEqProofs only[go_sem,Z1,Z2,Z3,Z4]
 refine sJ ?_
 refine Zq b (-b) (b.natAbs:Int) MO (by simp -implicitDefEqProofs only[go_sem,Z1,Z2,Z3,Z4]) (by simp -implicitDefEqProofs only[go_sem,Z1,Z2,Z3,Z4]) ?_
 try simp -implicitDefEqProofs only[go_sem,Z1,Z2,Z3,Z4]
 refine sI ?_
 refine cQ hm (fun(p:Int) (q:Int)=> 0≤p∧0≤q∧bM p q=bM a b) (fun(p:Int) (q:Int)=> ⟨dH 20 .any [(0,iv p),(1,iv q)],[]⟩) (fun(p:Int) (q:Int)=> q.toNat) ((a.natAbs:Int)) ((b.natAbs:Int)) ?_ (ar [] ?_ ?_ rfl rfl) ?_
 rotate_left
 ·refine sB ?_
  all_goals(try exact sM)
 ·refine sB ?_
  all_goals(try exact sM)
 rotate_left
 ·exact⟨by omega,by omega,by simp only[bM,Int.natAbs_natCast]⟩
 ·rintro p q ⟨hp,hq,hg⟩
  rcases aa (0<q) with h1|h1
  ·have hs:=OT hp h1
   try simp -implicitDefEqProofs only[go_sem,Z1,Z2,Z3,Z4,h1]
   refine sJ ?_
   refine⟨q,p.tmod q,?_,sL,ar [] ?_ ?_ rfl rfl⟩
   rotate_left
   ·refine sB ?_
    all_goals(try exact sM)
   ·refine sB ?_
    all_goals(try exact sM)
   exact⟨hq,hs.1,by rw[hs.2.2,hg]⟩
  ·have e:q=0:=by omega
   subst e
   try simp -implicitDefEqProofs only[go_sem,Z1,Z2,Z3,Z4,h1]
   refine sI ?_
   refine an ?_
   refine sB ?_
   rw[←hg,gcd_zero hp]
theorem hH(a:Mod.Rat):C E.P 221 [av (eY a)] [] (bD (bv (bW a)) []):=by
 refine gT (nt:=19) (rs:=[.tmp 2]) hm Tryz.func221 fun hl he cq=>?_
 refine aD [] (fv a.N (-1000000000) 1000000000) ?_
 refine sI ?_
 cases h1:within a.N (-1000000000) 1000000000
 ·try simp -implicitDefEqProofs only[go_sem,Z1,Z2,Z3,Z4]
  refine sI ?_
  refine an ?_
  refine sB ?_
  all_goals(first|done|(simp[bW,h1];done)|(simp[bW,h1];omega)|skip)
 ·try simp -implicitDefEqProofs only[go_sem,Z1,Z2,Z3,Z4]
  refine sI ?_
  refine aD [] (fv a.D 1 1000000000) ?_
  refine sI ?_
  cases h2:within a.D 1 1000000000
  ·try simp -implicitDefEqProofs only[go_sem,Z1,Z2,Z3,Z4]
   refine sI ?_
   refine an ?_
   refine sB ?_
   all_goals(first|done|(simp[bW,h1,h2];done)|(simp[bW,h1,h2];omega)|skip)
  ·have k1:=dk.1 h1
   have k2:=dk.1 h2
   try simp -implicitDefEqProofs only[go_sem,Z1,Z2,Z3,Z4]
   refine sI ?_
   refine aD [] (wg a.N a.D (by omega) (by omega)) ?_
   refine sI ?_
   refine an ?_
   refine sB ?_
   all_goals(first|done|(simp[bW,h1,h2];done)|(simp[bW,h1,h2];omega)|skip)
theorem vI(n d:Int)(hn:-2000000000000000000≤n∧n≤2000000000000000000)(hd:1≤d∧d≤1000000000000000000):C E.P 235 [iv n,iv d] [] (bD (.gV [av (eY (iw n d).1),bv (iw n d).2]) []):=by
 have e:=AB (n:=n) hd.1
 have hg:=Md (n:=n) (d:=d) (by omega)
 have b1:=pH hg hn
 have b2:=pH (n:=d) (k:=1000000000000000000) hg (by omega)
 have jD:¬ (bM n d:Int)=0:=by omega
 have h0:¬d=0:=by omega
 have h1:¬d<0:=by omega
 refine gT (nt:=32) (rs:=[.cell 4 71,.tmp 5]) hm Tryz.func235 fun hl he cq=>?_
 try simp -implicitDefEqProofs only[go_sem,Z1,Z2,Z3,Z4,h0,h1]
 refine sI ?_
 refine aD [] (wg n d (by omega) (by omega)) ?_
 refine sJ ?_
 refine aD [] (hH ⟨n.tdiv (bM n d),d.tdiv (bM n d)⟩) ?_
 refine sI ?_
 cases h2:bW ⟨n.tdiv (bM n d),d.tdiv (bM n d)⟩
 ·try simp -implicitDefEqProofs only[go_sem,Z1,Z2,Z3,Z4]
  refine sI ?_
  refine an ?_
  refine sB ?_
  all_goals(first|done|(simp[e,h2];done)|(simp[e,h2];omega)|skip)
 ·try simp -implicitDefEqProofs only[go_sem,Z1,Z2,Z3,Z4]
  refine sI ?_
  refine an ?_
  refine sB ?_
  all_goals(first|done|(simp[e,h2];done)|(simp[e,h2];omega)|skip)
theorem GB{a b:Mod.Rat}(ha:bW a=true)(hb:bW b=true):(-1000000000000000000≤a.N*b.D∧a.N*b.D≤1000000000000000000)∧(-1000000000000000000≤b.N*a.D∧b.N*a.D≤1000000000000000000)∧(1≤a.D*b.D∧a.D*b.D≤1000000000000000000)∧(-1000000000000000000≤a.N*b.N∧a.N*b.N≤1000000000000000000):=by
 rw[om] at ha hb
 exact⟨rR ha.1 (by omega),rR hb.1 (by omega),Sx ha.2.1 hb.2.1,rR ha.1 hb.1⟩
theorem pZ(a b:Mod.Rat):C E.P 177 [av (eY a),av (eY b)] [] (bD (.gV [av (eY (df a b).1),bv (df a b).2]) []):=by
 refine gT (nt:=34) (rs:=[.cell 4 71,.tmp 5]) hm Tryz.func177 fun hl he cq=>?_
 refine aD [] (hH a) ?_
 refine sI ?_
 cases h1:bW a
 ·try simp -implicitDefEqProofs only[go_sem,Z1,Z2,Z3,Z4]
  refine sI ?_
  refine an ?_
  refine sB ?_
  all_goals(first|done|(simp[df,h1];done)|(simp[df,h1];omega)|skip)
 ·try simp -implicitDefEqProofs only[go_sem,Z1,Z2,Z3,Z4]
  refine sI ?_
  refine aD [] (hH b) ?_
  refine sI ?_
  cases h2:bW b
  ·try simp -implicitDefEqProofs only[go_sem,Z1,Z2,Z3,Z4]
   refine sI ?_
   refine an ?_
   refine sB ?_
   all_goals(first|done|(simp[df,h1,h2];done)|(simp[df,h1,h2];omega)|skip)
  ·obtain⟨q1,q2,q3,q4⟩:=GB h1 h2
   try simp -implicitDefEqProofs only[go_sem,Z1,Z2,Z3,Z4]
   refine sJ ?_
   refine aD [] (vI (a.N*b.D+b.N*a.D) (a.D*b.D) (by omega) (by omega)) ?_
   refine sI ?_
   refine an ?_
   refine sB ?_
   all_goals(first|done|(simp[df,h1,h2];done)|(simp[df,h1,h2];omega)|skip)
theorem tQ(a b:Mod.Rat):C E.P 224 [av (eY a),av (eY b)] [] (bD (.gV [av (eY (cE a b).1),bv (cE a b).2]) []):=by
 refine gT (nt:=28) (rs:=[.cell 4 71,.tmp 5]) hm Tryz.func224 fun hl he cq=>?_
 refine aD [] (hH a) ?_
 refine sI ?_
 cases h1:bW a
 ·try simp -implicitDefEqProofs only[go_sem,Z1,Z2,Z3,Z4]
  refine sI ?_
  refine an ?_
  refine sB ?_
  all_goals(first|done|(simp[cE,h1];done)|(simp[cE,h1];omega)|skip)
 ·try simp -implicitDefEqProofs only[go_sem,Z1,Z2,Z3,Z4]
  refine sI ?_
  refine aD [] (hH b) ?_
  refine sI ?_
  cases h2:bW b
  ·try simp -implicitDefEqProofs only[go_sem,Z1,Z2,Z3,Z4]
   refine sI ?_
   refine an ?_
   refine sB ?_
   all_goals(first|done|(simp[cE,h1,h2];done)|(simp[cE,h1,h2];omega)|skip)
  ·obtain⟨q1,q2,q3,q4⟩:=GB h1 h2
   try simp -implicitDefEqProofs only[go_sem,Z1,Z2,Z3,Z4]
   refine sJ ?_
   refine aD [] (vI (a.N*b.N) (a.D*b.D) (by omega) (by omega)) ?_
   refine sI ?_
   refine an ?_
   refine sB ?_
   all_goals(first|done|(simp[cE,h1,h2];done)|(simp[cE,h1,h2];omega)|skip)
theorem lk(a b:Mod.Rat):C E.P 175 [av (eY a),av (eY b)] [] (bD (bv (c8 a b)) []):=by
 refine gT (nt:=24) (rs:=[.tmp 4]) hm Tryz.func175 fun hl he cq=>?_
 refine aD [] (hH a) ?_
 refine sI ?_
 cases h1:bW a
 ·try simp -implicitDefEqProofs only[go_sem,Z1,Z2,Z3,Z4]
  refine sI ?_
  refine an ?_
  refine sB ?_
  all_goals(first|done|(simp[c8,h1];done)|(simp[c8,h1];omega)|skip)
 ·try simp -implicitDefEqProofs only[go_sem,Z1,Z2,Z3,Z4]
  refine sI ?_
  refine aD [] (hH b) ?_
  refine sI ?_
  cases h2:bW b
  ·try simp -implicitDefEqProofs only[go_sem,Z1,Z2,Z3,Z4]
   refine sI ?_
   refine an ?_
   refine sB ?_
   all_goals(first|done|(simp[c8,h1,h2];done)|(simp[c8,h1,h2];omega)|skip)
  ·obtain⟨q1,q2,q3,q4⟩:=GB h1 h2
   try simp -implicitDefEqProofs only[go_sem,Z1,Z2,Z3,Z4]
   refine sJ ?_
   refine an ?_
   refine sB ?_
   all_goals(first|done|(simp[c8,h1,h2];done)|(simp[c8,h1,h2];omega)|skip)
theorem fj(n:Int):C E.P 105 [iv n] [] (bD (av (eY (whole n))) []):=by
 refine gT (nt:=5) (rs:=[.cell 2 71]) hm Tryz.func105 fun hl he cq=>?_
 refine an ?_
 refine sB ?_
 all_goals(first|done|(simp[whole];done)|(simp[whole];omega)|skip)
theorem wW(sum:Mod.Rat)(c:Int)(v:Mod.Rat):C E.P 149 [av (eY sum),iv c,av (eY v)] [] (bD (.gV [av (eY (plus sum c v).1),bv (plus sum c v).2]) []):=by
 refine gT (nt:=25) (rs:=[.cell 6 71,.tmp 7]) hm Tryz.func149 fun hl he cq=>?_
 refine aD [] (fj c) ?_
 refine sI ?_
 refine aD [] (tQ (whole c) v) ?_
 refine sI ?_
 cases h1:(cE (whole c) v).2
 ·try simp -implicitDefEqProofs only[go_sem,Z1,Z2,Z3,Z4]
  refine sI ?_
  refine an ?_
  refine sB ?_
  all_goals(first|done|(simp[plus,h1];done)|(simp[plus,h1];omega)|skip)
 ·try simp -implicitDefEqProofs only[go_sem,Z1,Z2,Z3,Z4]
  refine sI ?_
  refine aD [] (pZ sum (cE (whole c) v).1) ?_
  refine sI ?_
  refine an ?_
  refine sB ?_
  all_goals(first|done|(simp[plus,h1];done)|(simp[plus,h1];omega)|skip)
theorem A7(a:Mod.Rat)(bound:Int)(strict:Bool):C E.P 150 [av (eY a),iv bound,bv strict] [] (bD (bv (below a bound strict)) []):=by
 refine gT (nt:=17) (rs:=[.tmp 6]) hm Tryz.func150 fun hl he cq=>?_
 cases strict
 ·try simp -implicitDefEqProofs only[go_sem,Z1,Z2,Z3,Z4]
  refine sI ?_
  refine aD [] (fj bound) ?_
  refine sI ?_
  refine aD [] (lk (whole bound) a) ?_
  refine sI ?_
  refine an ?_
  refine sB ?_
  all_goals(first|done|(simp[below];done)|(simp[below];omega)|skip)
 ·try simp -implicitDefEqProofs only[go_sem,Z1,Z2,Z3,Z4]
  refine sI ?_
  refine aD [] (fj bound) ?_
  refine sI ?_
  refine aD [] (lk a (whole bound)) ?_
  refine sI ?_
  refine an ?_
  refine sB ?_
  all_goals(first|done|(simp[below];done)|(simp[below];omega)|skip)
theorem rv(n:Int):C E.P 270 [iv n] [] (bD (iv (rz n)) []):=by
 refine gT (nt:=14) (rs:=[.tmp 2]) hm Tryz.func270 fun hl he cq=>?_
 rcases aa (n < -1000000000) with h1|h1
 ·refine yA ?_
  refine an ?_
  refine sB ?_
  all_goals(simp[rz,h1];done)
 ·rcases aa (1000000000<n) with h2|h2
  ·refine yJ ?_
   refine an ?_
   refine sB ?_
   all_goals(simp[rz,h1,h2];done)
  ·rcases aa (n<0) with h3|h3
   ·simp -implicitDefEqProofs only[go_sem,Z1,Z2,Z3,Z4,h1,h2,h3]
    refine sQ ?_
    refine an ?_
    refine sB ?_
    all_goals(simp[rz,h1,h2,h3];done)
   ·simp -implicitDefEqProofs only[go_sem,Z1,Z2,Z3,Z4,h1,h2,h3]
    refine an ?_
    refine sB ?_
    all_goals(simp[rz,h1,h2,h3];done)
theorem ry(a b:Int)(ha:0≤a)(hb:0≤b):C E.P 247 [iv a,iv b] [] (bD (iv (bM a b:Int)) []):=by
 refine gT (nt:=12) (rs:=[.tmp 4]) hm Tryz.func247 fun hl he cq=>?_
 refine cQ hm (fun(p:Int) (q:Int)=> 0≤p∧0≤q∧bM p q=bM a b) (fun(p:Int) (q:Int)=> ⟨dH 12 .any [(0,iv p),(1,iv q)],[]⟩) (fun(p:Int) (q:Int)=> q.toNat) (a) (b) ?_ (ar [] ?_ ?_ rfl rfl) ?_
 rotate_left
 ·exact sD
 ·exact sD
 rotate_left
 ·exact⟨ha,hb,rfl⟩
 ·rintro p q ⟨hp,hq,hg⟩
  rcases aa (0<q) with h1|h1
  ·have hs:=OT hp h1
   refine yA ?_
   refine sQ ?_
   refine⟨q,p.tmod q,?_,sL,ar [] ?_ ?_ rfl rfl⟩
   rotate_left
   ·exact sD
   ·exact sD
   exact⟨hq,hs.1,by rw[hs.2.2,hg]⟩
  ·have e:q=0:=by omega
   subst e
   refine yA ?_
   refine an ?_
   refine sB ?_
   rw[←hg,gcd_zero hp]
theorem Tz(a:Mod.Rat):bW a=(decide (rz a.N≤1000000000)&&(decide (1≤a.D)&&(decide (a.D≤1000000000)&&decide ((bM (rz a.N) a.D:Int)=1)))):=by
 cases h:bW a
 ·symm
  rw[Bool.eq_false_iff] at h⊢
  intro hh
  apply h
  simp only[ai,decide_eq_true_eq,tz] at hh
  rw[om]
  refine⟨hh.1,⟨hh.2.1,hh.2.2.1⟩,?_⟩
  have:=N1 hh.1 a.D
  omega
 ·symm
  rw[om] at h
  simp only[ai,decide_eq_true_eq,tz]
  refine⟨h.1,h.2.1.1,h.2.1.2,?_⟩
  rw[N1 h.1,h.2.2]
  rfl
theorem gp(a:Mod.Rat):C E.P 255 [av (eY a)] [] (bD (bv (bW a)) []):=by
 have e:=Tz a
 refine gT (nt:=26) (rs:=[.tmp 2]) hm Tryz.func255 fun hl he cq=>?_
 refine aD [] (rv a.N) ?_
 rcases aa (rz a.N≤1000000000) with h1|h1
 ·refine yA ?_
  rcases aa ((1:Int)≤a.D) with h2|h2
  ·refine yB ?_
   rcases aa (a.D≤1000000000) with h3|h3
   ·refine yC ?_
    refine aD [] (rv a.N) ?_
    refine aD [] (ry (rz a.N) a.D (XH _) (by omega)) ?_
    refine iK ?_
    refine an ?_
    refine sB ?_
    all_goals(simp[e,h1,h2,h3];done)
   ·refine yC ?_
    refine iK ?_
    refine an ?_
    refine sB ?_
    all_goals(simp[e,h3];done)
  ·refine yB ?_
   refine iK ?_
   refine an ?_
   refine sB ?_
   all_goals(simp[e,h2];done)
 ·refine yA ?_
  refine iK ?_
  refine an ?_
  refine sB ?_
  all_goals(simp[e,h1];done)
theorem oY(n d:Int)(hn:-2000000000000000000≤n∧n≤2000000000000000000)(hd:1≤d∧d≤1000000000000000000):C E.P 269 [iv n,iv d] [] (bD (.gV [av (eY (iw n d).1),bv (iw n d).2]) []):=by
 have e:=AB (n:=n) hd.1
 have hg:=Md (n:=n) (d:=d) (by omega)
 have b1:=pH hg hn
 have b2:=pH (n:=d) (k:=1000000000000000000) hg (by omega)
 have jD:¬ (bM n d:Int)=0:=by omega
 refine gT (nt:=29) (rs:=[.cell 4 71,.tmp 5]) hm Tryz.func269 fun hl he cq=>?_
 rcases aa (n<0) with h1|h1
 ·have eg:(bM (-n) d:Int)=bM n d:=by rw[Lr]
  refine yA ?_
  refine sQ ?_
  refine bp [] (ry (-n) d (by omega) (by omega)) ?_ ?_<;>simp -implicitDefEqProofs only[go_sem,Z1,Z2,Z3,Z4,eg]
  refine sQ ?_
  refine aD [] (gp ⟨n.tdiv (bM n d),d.tdiv (bM n d)⟩) ?_
  cases h2:bW ⟨n.tdiv (bM n d),d.tdiv (bM n d)⟩
  ·refine sB ?_
   refine an ?_
   refine sB ?_
   all_goals(simp[e,h2];done)
  ·refine sB ?_
   refine an ?_
   refine sB ?_
   all_goals(simp[e,h2];done)
 ·refine yA ?_
  refine aD [] (ry n d (by omega) (by omega)) ?_
  refine sQ ?_
  refine aD [] (gp ⟨n.tdiv (bM n d),d.tdiv (bM n d)⟩) ?_
  cases h2:bW ⟨n.tdiv (bM n d),d.tdiv (bM n d)⟩
  ·refine sB ?_
   refine an ?_
   refine sB ?_
   all_goals(simp[e,h2];done)
  ·refine sB ?_
   refine an ?_
   refine sB ?_
   all_goals(simp[e,h2];done)
theorem KI{a b:Mod.Rat}(ha:bW a=true)(hb:bW b=true):(-1000000000000000000≤a.N*b.D∧a.N*b.D≤1000000000000000000)∧(-1000000000000000000≤b.N*a.D∧b.N*a.D≤1000000000000000000)∧(1≤a.D*b.D∧a.D*b.D≤1000000000000000000)∧(-1000000000000000000≤a.N*b.N∧a.N*b.N≤1000000000000000000):=by
 rw[om] at ha hb
 exact⟨rR ha.1 (by omega),rR hb.1 (by omega),Sx ha.2.1 hb.2.1,rR ha.1 hb.1⟩
theorem me(a b:Mod.Rat):C E.P 253 [av (eY a),av (eY b)] [] (bD (.gV [av (eY (df a b).1),bv (df a b).2]) []):=by
 refine gT (nt:=34) (rs:=[.cell 4 71,.tmp 5]) hm Tryz.func253 fun hl he cq=>?_
 refine aD [] (gp a) ?_
 cases h1:bW a
 ·refine sB ?_
  refine an ?_
  refine sB ?_
  all_goals(simp[df,h1];done)
 ·refine sB ?_
  refine aD [] (gp b) ?_
  cases h2:bW b
  ·refine sB ?_
   refine an ?_
   refine sB ?_
   all_goals(simp[df,h1,h2];done)
  ·obtain⟨q1,q2,q3,q4⟩:=KI h1 h2
   refine sB ?_
   refine sQ ?_
   refine aD [] (oY (a.N*b.D+b.N*a.D) (a.D*b.D) (by omega) (by omega)) ?_
   refine an ?_
   refine sB ?_
   all_goals(simp[df,h1,h2];done)
theorem nJ(a b:Mod.Rat):C E.P 258 [av (eY a),av (eY b)] [] (bD (.gV [av (eY (cE a b).1),bv (cE a b).2]) []):=by
 refine gT (nt:=28) (rs:=[.cell 4 71,.tmp 5]) hm Tryz.func258 fun hl he cq=>?_
 refine aD [] (gp a) ?_
 cases h1:bW a
 ·refine sB ?_
  refine an ?_
  refine sB ?_
  all_goals(simp[cE,h1];done)
 ·refine sB ?_
  refine aD [] (gp b) ?_
  cases h2:bW b
  ·refine sB ?_
   refine an ?_
   refine sB ?_
   all_goals(simp[cE,h1,h2];done)
  ·obtain⟨q1,q2,q3,q4⟩:=KI h1 h2
   refine sB ?_
   refine sQ ?_
   refine aD [] (oY (a.N*b.N) (a.D*b.D) (by omega) (by omega)) ?_
   refine an ?_
   refine sB ?_
   all_goals(simp[cE,h1,h2];done)
theorem mN(a b:Mod.Rat):C E.P 217 [av (eY a),av (eY b)] [] (bD (bv (c8 a b)) []):=by
 refine gT (nt:=24) (rs:=[.tmp 4]) hm Tryz.func217 fun hl he cq=>?_
 refine aD [] (gp a) ?_
 cases h1:bW a
 ·simp -implicitDefEqProofs only[go_sem,Z1,Z2,Z3,Z4]
  refine an ?_
  refine sB ?_
  all_goals(simp[c8,h1];done)
 ·refine sB ?_
  refine aD [] (gp b) ?_
  cases h2:bW b
  ·refine sB ?_
   refine an ?_
   refine sB ?_
   all_goals(simp[c8,h1,h2];done)
  ·obtain⟨q1,q2,q3,q4⟩:=KI h1 h2
   refine sB ?_
   refine sQ ?_
   refine an ?_
   refine sB ?_
   all_goals(simp[c8,h1,h2];done)
end Go.Proofs.YtabembjmeobhoaaGreat
