/-
  The program: the walks of numbers. A step towards the exact laws.
-/
import Derived.Test.YtnhdminpjihbnaaGreatKAH
set_option linter.unusedVariables false
set_option linter.unusedSimpArgs false
open Int renaming reduceEq→Z1,reduceLT→Z2,reduceLE→Z3,reduceToNat→Z4
open Classical renaming em→aa
open Int renaming gcd→dK
namespace Go.Proofs.YtnhdminpjihbnaaGreat
open Go.Eng Go.Mod
set_option maxRecDepth 100000
set_option maxHeartbeats 800000
theorem yX(a b:Int)(ha:-4000000000000000000≤a∧a≤4000000000000000000)(hb:-4000000000000000000≤b∧b≤4000000000000000000):CN 239 [iv a,iv b] (iv (dK a b:Int)):=by refine gS 20 [.tmp 4] hm Tryz.func239 fun hl he cV=>?_;refine sQ ?_;refine aej a (-a) (a.natAbs:Int) L9 (by simp -implicitDefEqProofs only[go_sem]) (by simp -implicitDefEqProofs only[go_sem]) ?_;refine bI ?_;refine aej b (-b) (b.natAbs:Int) L9 (by simp -implicitDefEqProofs only[go_sem]) (by simp -implicitDefEqProofs only[go_sem]) ?_;refine bI ?_;refine pY hm (fun(p:Int) (q:Int)=> 0≤p∧0≤q∧dK p q=dK a b) (fun p q=> ⟨fk 20 .any [(0,iv p),(1,iv q)],[]⟩) (fun p q=> q.toNat) ((a.natAbs:Int)) ((b.natAbs:Int)) ?_ (c9 []) ?_;exact⟨oM,oM,by simp only[dK,Int.natAbs_natCast]⟩;rintro p q ⟨hp,hq,hg⟩;rcases aa (0<q) with h1|h1;have hs:=acR hp h1;refine dB h1 ?_;exact⟨q,p.tmod q,⟨hq,hs.1,by rw[hs.2.2,hg]⟩,sL,c9 []⟩;have e:q=0:=oM;subst e;refine dB h1 ?_;rw[←hg,gcd_zero hp]
theorem jw(a:Mod.Rat):CN 245 [av (lM a)] (bv (eC a)):=by refine gS 19 [.tmp 2] hm Tryz.func245 fun hl he cV=>?_;refine oL [] (fw a.N (-1000000000) 1000000000) ?_;cases h1:c8 a.N (-1000000000) 1000000000;refine bI ?_;simp[eC,h1];refine bI ?_;refine oL [] (fw a.D 1 1000000000) ?_;cases h2:c8 a.D 1 1000000000;refine bI ?_;simp[eC,h1,h2];have k1:=dM.1 h1;have k2:=dM.1 h2;refine bI ?_;refine aC [] (yX a.N a.D oM oM) ?_;refine bI ?_;simp[eC,h1,h2]
theorem y7(n d:Int)(hn:-2000000000000000000≤n∧n≤2000000000000000000)(hd:1≤d∧d≤1000000000000000000):CN 246 [iv n,iv d] (.ko [av (lM (nw n d).1),bv (nw n d).2]):=by have e:=L3 (n:=n) hd.1;have hg:=X2 (n:=n) (d:=d) oM;have b1:=yN hg hn;have b2:=yN (n:=d) (k:=1000000000000000000) hg oM;have nI:¬ (dK n d:Int)=0:=oM;have h0:¬d=0:=oM;have h1:¬d<0:=oM;refine gS 32 [.cell 4 229,.tmp 5] hm Tryz.func246 fun hl he cV=>?_;refine pV h0 h1 ?_;refine oL [] (yX n d oM oM) ?_;refine oL [] (jw ⟨n.tdiv (dK n d),d.tdiv (dK n d)⟩) ?_;cases h2:eC ⟨n.tdiv (dK n d),d.tdiv (dK n d)⟩;exact lJ e h2;exact lJ e h2
theorem Ly{a b:Mod.Rat}(ha:eC a=true)(hb:eC b=true):(-1000000000000000000≤a.N*b.D∧a.N*b.D≤1000000000000000000)∧(-1000000000000000000≤b.N*a.D∧b.N*a.D≤1000000000000000000)∧(1≤a.D*b.D∧a.D*b.D≤1000000000000000000)∧(-1000000000000000000≤a.N*b.N∧a.N*b.N≤1000000000000000000):=by rw[xW] at ha hb;exact⟨Fj ha.1 oM,Fj hb.1 oM,aga ha.2.1 hb.2.1,Fj ha.1 hb.1⟩
theorem sS(a b:Mod.Rat):CN 204 [av (lM a),av (lM b)] (.ko [av (lM (ml a b).1),bv (ml a b).2]):=by refine gS 34 [.cell 4 229,.tmp 5] hm Tryz.func204 fun hl he cV=>?_;refine oL [] (jw a) ?_;cases h1:eC a;refine bI ?_;simp[ml,h1];refine bI ?_;refine oL [] (jw b) ?_;cases h2:eC b;refine bI ?_;simp[ml,h1,h2];obtain⟨q1,q2,q3,q4⟩:=Ly h1 h2;refine bI ?_;refine aC [] (y7 (a.N*b.D+b.N*a.D) (a.D*b.D) oM oM) ?_;refine bI ?_;simp[ml,h1,h2]
theorem xO(a b:Mod.Rat):CN 244 [av (lM a),av (lM b)] (.ko [av (lM (nz a b).1),bv (nz a b).2]):=by refine gS 28 [.cell 4 229,.tmp 5] hm Tryz.func244 fun hl he cV=>?_;refine oL [] (jw a) ?_;cases h1:eC a;refine bI ?_;simp[nz,h1];refine bI ?_;refine oL [] (jw b) ?_;cases h2:eC b;refine bI ?_;simp[nz,h1,h2];obtain⟨q1,q2,q3,q4⟩:=Ly h1 h2;refine bI ?_;refine aC [] (y7 (a.N*b.N) (a.D*b.D) oM oM) ?_;refine bI ?_;simp[nz,h1,h2]
theorem ni(a b:Mod.Rat):CN 202 [av (lM a),av (lM b)] (bv (gW a b)):=by
 refine gS 24 [.tmp 4] hm Tryz.func202 fun hl he cV=>?_;refine oL [] (jw a) ?_;cases h1:eC a;try simp -implicitDefEqProofs only[go_sem]
 refine sI ?_;refine An ?_;simp[gW,h1];refine bI ?_;refine oL [] (jw b) ?_;cases h2:eC b;refine bI ?_;simp[gW,h1,h2];obtain⟨q1,q2,q3,q4⟩:=Ly h1 h2;try simp -implicitDefEqProofs only[go_sem]
 refine sJ ?_;refine An ?_;simp[gW,h1,h2]
theorem gp(n:Int):CN 161 [iv n] (av (lM (whole n))):=by refine gS 5 [.cell 2 229] hm Tryz.func161 fun hl he cV=>?_;refine bI ?_;simp[whole]
theorem Ba(sum:Mod.Rat)(c:Int)(v:Mod.Rat):CN 242 [av (lM sum),iv c,av (lM v)] (.ko [av (lM (plus sum c v).1),bv (plus sum c v).2]):=by refine gS 25 [.cell 6 229,.tmp 7] hm Tryz.func242 fun hl he cV=>?_;refine oL [] (gp c) ?_;refine oL [] (xO (whole c) v) ?_;cases h1:(nz (whole c) v).2;refine bI ?_;simp[plus,h1];refine bI ?_;refine aC [] (sS sum (nz (whole c) v).1) ?_;refine bI ?_;simp[plus,h1]
theorem E2(a:Mod.Rat)(bJ:Int)(cz:Bool):CN 249 [av (lM a),iv bJ,bv cz] (bv (below a bJ cz)):=by refine gS 17 [.tmp 6] hm Tryz.func249 fun hl he cV=>?_;cases cz;refine bI ?_;refine oL [] (gp bJ) ?_;refine aC [] (ni (whole bJ) a) ?_;refine bI ?_;simp[below];refine bI ?_;refine oL [] (gp bJ) ?_;refine aC [] (ni a (whole bJ)) ?_;refine bI ?_;simp[below]
end Go.Proofs.YtnhdminpjihbnaaGreat
