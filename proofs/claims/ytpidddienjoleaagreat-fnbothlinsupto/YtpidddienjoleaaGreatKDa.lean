/-
  The program: the walks of numbers. A step towards the exact laws.
-/
import Derived.Test.YtpidddienjoleaaGreatKDH
import Derived.Test.YtpidddienjoleaaGreatKDE
set_option linter.unusedVariables false
set_option linter.unusedSimpArgs false
namespace Go.Proofs.YtpidddienjoleaaGreat
open Go.Eng Go.Mod
open Int renaming reduceEq→Z1,reduceLT→Z2,reduceLE→Z3,reduceToNat→Z4
set_option maxRecDepth 100000
set_option maxHeartbeats 800000
theorem nf(a b:Int)(ha:-4000000000000000000≤a∧a≤4000000000000000000)(hb:-4000000000000000000≤b∧b≤4000000000000000000):C E.P 189 [iv a,iv b] [] (aO (iv (Int.gcd a b:Int)) []):=by
 refine gT (nt:=20) (rs:=[.tmp 4]) hm Tryz.func189 fun hl he hLB=>?_
 repeat(with_reducible apply And.intro;exact sO)
 refine PR a (-a) (a.natAbs:Int) Eu (by simp -implicitDefEqProofs only[go_sem,Z1,Z2,Z3,Z4]) (by simp -implicitDefEqProofs only[go_sem,Z1,Z2,Z3,Z4]) ?_
 try simp -implicitDefEqProofs only[go_sem,Z1,Z2,Z3,Z4]
 try with_reducible refine iK ?_
 repeat(with_reducible apply And.intro;exact sO)
 refine PR b (-b) (b.natAbs:Int) Eu (by simp -implicitDefEqProofs only[go_sem,Z1,Z2,Z3,Z4]) (by simp -implicitDefEqProofs only[go_sem,Z1,Z2,Z3,Z4]) ?_
 try simp -implicitDefEqProofs only[go_sem,Z1,Z2,Z3,Z4]
 try with_reducible refine iK ?_
 refine bQ hm (fun(p:Int) (q:Int)=> 0≤p∧0≤q∧Int.gcd p q=Int.gcd a b) (fun(p:Int) (q:Int)=> ⟨b9 20 .any [(0,iv p),(1,iv q)],[]⟩) (fun(p:Int) (q:Int)=> q.toNat) ((a.natAbs:Int)) ((b.natAbs:Int)) ?_ (ah [] ?_ ?_ rfl rfl) ?_
 rotate_left
 ·refine sB ?_
  all_goals(first|done|(simp[aa, *];done)|(simp[aa];done)|(simp;omega)|skip)
 ·refine sB ?_
  all_goals(first|done|(simp[aa, *];done)|(simp[aa];done)|(simp;omega)|skip)
 rotate_left
 ·exact⟨by omega,by omega,by simp only[Int.gcd,Int.natAbs_natCast]⟩
 ·rintro p q ⟨hp,hq,hg⟩
  rcases Classical.em (0<q) with h1|h1
  ·have hs:=KJ hp h1
   try simp -implicitDefEqProofs only[go_sem,Z1,Z2,Z3,Z4,h1]
   try with_reducible refine iK ?_
   repeat(with_reducible apply And.intro;exact sO)
   refine⟨q,p.tmod q,?_,?_,ah [] ?_ ?_ rfl rfl⟩
   rotate_left
   ·show _ < _
    omega
   ·refine sB ?_
    all_goals(first|done|(simp[aa, *];done)|(simp[aa];done)|(simp;omega)|skip)
   ·refine sB ?_
    all_goals(first|done|(simp[aa, *];done)|(simp[aa];done)|(simp;omega)|skip)
   exact⟨hq,hs.1,by rw[hs.2.2,hg]⟩
  ·have e:q=0:=by omega
   subst e
   try simp -implicitDefEqProofs only[go_sem,Z1,Z2,Z3,Z4,h1]
   try with_reducible refine iK ?_
   refine ab ?_
   refine sB ?_
   rw[←hg,gcd_zero hp]
theorem cE(a:Mod.Rat):C E.P 133 [av (dp a)] [] (aO (bv (aS a)) []):=by
 refine gT (nt:=19) (rs:=[.tmp 2]) hm Tryz.func133 fun hl he hLB=>?_
 refine aD [] (b6 a.N (-1000000000) 1000000000) ?_
 try with_reducible refine iK ?_
 cases h1:within a.N (-1000000000) 1000000000
 ·try simp -implicitDefEqProofs only[go_sem,Z1,Z2,Z3,Z4]
  try with_reducible refine iK ?_
  refine ab ?_
  refine sB ?_
  all_goals(first|done|(simp[aS,h1];done)|(simp[aS,h1];omega)|skip)
 ·try simp -implicitDefEqProofs only[go_sem,Z1,Z2,Z3,Z4]
  try with_reducible refine iK ?_
  refine aD [] (b6 a.D 1 1000000000) ?_
  try with_reducible refine iK ?_
  cases h2:within a.D 1 1000000000
  ·try simp -implicitDefEqProofs only[go_sem,Z1,Z2,Z3,Z4]
   try with_reducible refine iK ?_
   refine ab ?_
   refine sB ?_
   all_goals(first|done|(simp[aS,h1,h2];done)|(simp[aS,h1,h2];omega)|skip)
  ·have k1:=bu.1 h1
   have k2:=bu.1 h2
   try simp -implicitDefEqProofs only[go_sem,Z1,Z2,Z3,Z4]
   try with_reducible refine iK ?_
   refine aD [] (nf a.N a.D (by omega) (by omega)) ?_
   try with_reducible refine iK ?_
   refine ab ?_
   refine sB ?_
   all_goals(first|done|(simp[aS,h1,h2];done)|(simp[aS,h1,h2];omega)|skip)
theorem nF(n d:Int)(hn:-2000000000000000000≤n∧n≤2000000000000000000)(hd:1≤d∧d≤1000000000000000000):C E.P 233 [iv n,iv d] [] (aO (.eZ [av (dp (eh n d).1),bv (eh n d).2]) []):=by
 have e:=r5 (n:=n) hd.1
 have hg:=IT (n:=n) (d:=d) (by omega)
 have b1:=nK hg hn
 have b2:=nK (n:=d) (k:=1000000000000000000) hg (by omega)
 have hne:¬ (Int.gcd n d:Int)=0:=by omega
 have h0:¬d=0:=by omega
 have h1:¬d<0:=by omega
 refine gT (nt:=32) (rs:=[.cell 4 57,.tmp 5]) hm Tryz.func233 fun hl he hLB=>?_
 try simp -implicitDefEqProofs only[go_sem,Z1,Z2,Z3,Z4,h0,h1]
 try with_reducible refine iK ?_
 refine aD [] (nf n d (by omega) (by omega)) ?_
 try with_reducible refine iK ?_
 repeat(with_reducible apply And.intro;exact sO)
 refine aD [] (cE ⟨n.tdiv (Int.gcd n d),d.tdiv (Int.gcd n d)⟩) ?_
 try with_reducible refine iK ?_
 cases h2:aS ⟨n.tdiv (Int.gcd n d),d.tdiv (Int.gcd n d)⟩
 ·try simp -implicitDefEqProofs only[go_sem,Z1,Z2,Z3,Z4]
  try with_reducible refine iK ?_
  refine ab ?_
  refine sB ?_
  all_goals(first|done|(simp[e,h2];done)|(simp[e,h2];omega)|skip)
 ·try simp -implicitDefEqProofs only[go_sem,Z1,Z2,Z3,Z4]
  try with_reducible refine iK ?_
  refine ab ?_
  refine sB ?_
  all_goals(first|done|(simp[e,h2];done)|(simp[e,h2];omega)|skip)
theorem x9{a b:Mod.Rat}(ha:aS a=true)(hb:aS b=true):(-1000000000000000000≤a.N*b.D∧a.N*b.D≤1000000000000000000)∧(-1000000000000000000≤b.N*a.D∧b.N*a.D≤1000000000000000000)∧(1≤a.D*b.D∧a.D*b.D≤1000000000000000000)∧(-1000000000000000000≤a.N*b.N∧a.N*b.N≤1000000000000000000):=by
 rw[mR] at ha hb
 exact⟨sU ha.1 (by omega),sU hb.1 (by omega),N1 ha.2.1 hb.2.1,sU ha.1 hb.1⟩
theorem jf(a b:Mod.Rat):C E.P 191 [av (dp a),av (dp b)] [] (aO (.eZ [av (dp (c7 a b).1),bv (c7 a b).2]) []):=by
 refine gT (nt:=34) (rs:=[.cell 4 57,.tmp 5]) hm Tryz.func191 fun hl he hLB=>?_
 refine aD [] (cE a) ?_
 try with_reducible refine iK ?_
 cases h1:aS a
 ·try simp -implicitDefEqProofs only[go_sem,Z1,Z2,Z3,Z4]
  try with_reducible refine iK ?_
  refine ab ?_
  refine sB ?_
  all_goals(first|done|(simp[c7,h1];done)|(simp[c7,h1];omega)|skip)
 ·try simp -implicitDefEqProofs only[go_sem,Z1,Z2,Z3,Z4]
  try with_reducible refine iK ?_
  refine aD [] (cE b) ?_
  try with_reducible refine iK ?_
  cases h2:aS b
  ·try simp -implicitDefEqProofs only[go_sem,Z1,Z2,Z3,Z4]
   try with_reducible refine iK ?_
   refine ab ?_
   refine sB ?_
   all_goals(first|done|(simp[c7,h1,h2];done)|(simp[c7,h1,h2];omega)|skip)
  ·obtain⟨q1,q2,q3,q4⟩:=x9 h1 h2
   try simp -implicitDefEqProofs only[go_sem,Z1,Z2,Z3,Z4]
   try with_reducible refine iK ?_
   repeat(with_reducible apply And.intro;exact sO)
   refine aD [] (nF (a.N*b.D+b.N*a.D) (a.D*b.D) (by omega) (by omega)) ?_
   try with_reducible refine iK ?_
   refine ab ?_
   refine sB ?_
   all_goals(first|done|(simp[c7,h1,h2];done)|(simp[c7,h1,h2];omega)|skip)
theorem mr(a b:Mod.Rat):C E.P 190 [av (dp a),av (dp b)] [] (aO (.eZ [av (dp (dh a b).1),bv (dh a b).2]) []):=by
 refine gT (nt:=28) (rs:=[.cell 4 57,.tmp 5]) hm Tryz.func190 fun hl he hLB=>?_
 refine aD [] (cE a) ?_
 try with_reducible refine iK ?_
 cases h1:aS a
 ·try simp -implicitDefEqProofs only[go_sem,Z1,Z2,Z3,Z4]
  try with_reducible refine iK ?_
  refine ab ?_
  refine sB ?_
  all_goals(first|done|(simp[dh,h1];done)|(simp[dh,h1];omega)|skip)
 ·try simp -implicitDefEqProofs only[go_sem,Z1,Z2,Z3,Z4]
  try with_reducible refine iK ?_
  refine aD [] (cE b) ?_
  try with_reducible refine iK ?_
  cases h2:aS b
  ·try simp -implicitDefEqProofs only[go_sem,Z1,Z2,Z3,Z4]
   try with_reducible refine iK ?_
   refine ab ?_
   refine sB ?_
   all_goals(first|done|(simp[dh,h1,h2];done)|(simp[dh,h1,h2];omega)|skip)
  ·obtain⟨q1,q2,q3,q4⟩:=x9 h1 h2
   try simp -implicitDefEqProofs only[go_sem,Z1,Z2,Z3,Z4]
   try with_reducible refine iK ?_
   repeat(with_reducible apply And.intro;exact sO)
   refine aD [] (nF (a.N*b.N) (a.D*b.D) (by omega) (by omega)) ?_
   try with_reducible refine iK ?_
   refine ab ?_
   refine sB ?_
   all_goals(first|done|(simp[dh,h1,h2];done)|(simp[dh,h1,h2];omega)|skip)
theorem eS(a b:Mod.Rat):C E.P 192 [av (dp a),av (dp b)] [] (aO (bv (bD a b)) []):=by
 refine gT (nt:=24) (rs:=[.tmp 4]) hm Tryz.func192 fun hl he hLB=>?_
 refine aD [] (cE a) ?_
 try with_reducible refine iK ?_
 cases h1:aS a
 ·try simp -implicitDefEqProofs only[go_sem,Z1,Z2,Z3,Z4]
  try with_reducible refine iK ?_
  refine ab ?_
  refine sB ?_
  all_goals(first|done|(simp[bD,h1];done)|(simp[bD,h1];omega)|skip)
 ·try simp -implicitDefEqProofs only[go_sem,Z1,Z2,Z3,Z4]
  try with_reducible refine iK ?_
  refine aD [] (cE b) ?_
  try with_reducible refine iK ?_
  cases h2:aS b
  ·try simp -implicitDefEqProofs only[go_sem,Z1,Z2,Z3,Z4]
   try with_reducible refine iK ?_
   refine ab ?_
   refine sB ?_
   all_goals(first|done|(simp[bD,h1,h2];done)|(simp[bD,h1,h2];omega)|skip)
  ·obtain⟨q1,q2,q3,q4⟩:=x9 h1 h2
   try simp -implicitDefEqProofs only[go_sem,Z1,Z2,Z3,Z4]
   try with_reducible refine iK ?_
   repeat(with_reducible apply And.intro;exact sO)
   refine ab ?_
   refine sB ?_
   all_goals(first|done|(simp[bD,h1,h2];done)|(simp[bD,h1,h2];omega)|skip)
theorem bE(n:Int):C E.P 117 [iv n] [] (aO (av (dp (whole n))) []):=by
 refine gT (nt:=5) (rs:=[.cell 2 57]) hm Tryz.func117 fun hl he hLB=>?_
 refine ab ?_
 refine sB ?_
 all_goals(first|done|(simp[whole];done)|(simp[whole];omega)|skip)
theorem pD(sum:Mod.Rat)(c:Int)(v:Mod.Rat):C E.P 134 [av (dp sum),iv c,av (dp v)] [] (aO (.eZ [av (dp (plus sum c v).1),bv (plus sum c v).2]) []):=by
 refine gT (nt:=25) (rs:=[.cell 6 57,.tmp 7]) hm Tryz.func134 fun hl he hLB=>?_
 refine aD [] (bE c) ?_
 try with_reducible refine iK ?_
 refine aD [] (mr (whole c) v) ?_
 try with_reducible refine iK ?_
 cases h1:(dh (whole c) v).2
 ·try simp -implicitDefEqProofs only[go_sem,Z1,Z2,Z3,Z4]
  try with_reducible refine iK ?_
  refine ab ?_
  refine sB ?_
  all_goals(first|done|(simp[plus,h1];done)|(simp[plus,h1];omega)|skip)
 ·try simp -implicitDefEqProofs only[go_sem,Z1,Z2,Z3,Z4]
  try with_reducible refine iK ?_
  refine aD [] (jf sum (dh (whole c) v).1) ?_
  try with_reducible refine iK ?_
  refine ab ?_
  refine sB ?_
  all_goals(first|done|(simp[plus,h1];done)|(simp[plus,h1];omega)|skip)
theorem sF(a:Mod.Rat)(bound:Int)(strict:Bool):C E.P 135 [av (dp a),iv bound,bv strict] [] (aO (bv (below a bound strict)) []):=by
 refine gT (nt:=17) (rs:=[.tmp 6]) hm Tryz.func135 fun hl he hLB=>?_
 cases strict
 ·try simp -implicitDefEqProofs only[go_sem,Z1,Z2,Z3,Z4]
  try with_reducible refine iK ?_
  refine aD [] (bE bound) ?_
  try with_reducible refine iK ?_
  refine aD [] (eS (whole bound) a) ?_
  try with_reducible refine iK ?_
  refine ab ?_
  refine sB ?_
  all_goals(first|done|(simp[below];done)|(simp[below];omega)|skip)
 ·try simp -implicitDefEqProofs only[go_sem,Z1,Z2,Z3,Z4]
  try with_reducible refine iK ?_
  refine aD [] (bE bound) ?_
  try with_reducible refine iK ?_
  refine aD [] (eS a (whole bound)) ?_
  try with_reducible refine iK ?_
  refine ab ?_
  refine sB ?_
  all_goals(first|done|(simp[below];done)|(simp[below];omega)|skip)
end Go.Proofs.YtpidddienjoleaaGreat
