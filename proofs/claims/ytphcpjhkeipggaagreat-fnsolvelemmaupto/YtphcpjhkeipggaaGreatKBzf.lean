/-
  The program: the walks of elimination and of systems. A step towards the laws.
-/
import Derived.Test.YtphcpjhkeipggaaGreatKBc
import Derived.Test.YtphcpjhkeipggaaGreatKBd
import Derived.Test.YtphcpjhkeipggaaGreatKBq
import Derived.Test.YtphcpjhkeipggaaGreatKBEk
set_option linter.unusedVariables false
set_option linter.unusedSimpArgs false
open Int renaming reduceEq→Z1,reduceLT→Z2,reduceLE→Z3,reduceToNat→Z4
open And renaming intro→an
open Bool renaming and_eq_true→ah,false_eq_true→au
open Classical renaming em→aa
open Int renaming gcd→b9
open List renaming drop_eq_getElem_cons→ae,getElem_mem→aj,drop_of_length_le→ak,take_of_length_le→aq,replicate→aE,range→bK,nil_append→bS
open Nat renaming zero_le→bo
open Option renaming getD_some→cg,isSome_some→dw
namespace Go.Proofs.YtphcpjhkeipggaaGreat
open Go.Eng Go.Mod
set_option maxRecDepth 100000
set_option maxHeartbeats 3200000
theorem F4(n d:Int)(hn:-1000000000≤n∧n≤1000000000)(hd:-1000000000≤d∧d≤1000000000):CN 335 [iv n,iv d] (.iZ [av (fZ (jO n d).1),bv (jO n d).2]):=by
 rcases aa (d=0) with h0|h0;have k0:=eq_true h0;refine gS 32 [.cell 4 151,.tmp 5] hm Tryz.func335 fun hl he cf=>?_;refine du k0 ?_;simp[jO,h0];rcases aa (d<0) with h1|h1;have e:jO n d=if cP ⟨(-n).tdiv (b9 (-n) (-d)),(-d).tdiv (b9 (-n) (-d))⟩ then(⟨(-n).tdiv (b9 (-n) (-d)),(-d).tdiv (b9 (-n) (-d))⟩,true) else(lW,false):=by unfold jO;rw[if_neg h0];simp only[if_pos h1]
 have hg:=Po (n:=-n) (d:=-d) oM;have b1:=rR (n:=-n) (k:=1000000000) hg oM;have b2:=rR (n:=-d) (k:=1000000000) hg oM;have lj:¬ (b9 (-n) (-d):Int)=0:=oM;refine gS 32 [.cell 4 151,.tmp 5] hm Tryz.func335 fun hl he cf=>?_;refine oH h0 h1 ?_;refine sa [] (zm (-n) (-d) oM oM) ?_;refine aC [] (ju ⟨(-n).tdiv (b9 (-n) (-d)),(-d).tdiv (b9 (-n) (-d))⟩) ?_;cases h2:cP ⟨(-n).tdiv (b9 (-n) (-d)),(-d).tdiv (b9 (-n) (-d))⟩;refine bt ?_;rw[e,if_neg (by rw[h2];simp)];exact⟨⟨rfl,rfl⟩,rfl⟩;refine bt ?_;rw[e,if_pos h2];exact⟨⟨rfl,rfl⟩,rfl⟩;exact zd n d oM oM
theorem Qp(n d:Int):CN 334 [iv n,iv d] (.iZ [av (fZ (ny n d).1),bv (ny n d).2]):=by refine gS 20 [.cell 4 151,.tmp 5] hm Tryz.func334 fun hl he cf=>?_;refine aC [] (fQ n (-1000000000) 1000000000) ?_;cases g1:cK n (-1000000000) 1000000000;refine bt ?_;simp[ny,g1];refine sA ?_;refine aC [] (fQ d (-1000000000) 1000000000) ?_;cases g2:cK d (-1000000000) 1000000000;refine bt ?_;simp[ny,g1,g2];have h1:=dB.1 g1;have h2:=dB.1 g2;refine sA ?_;refine aC [] (F4 n d h1 h2) ?_;refine bt ?_;simp[ny,g1,g2]
theorem MR(a b:Mod.Rat):CN 280 [av (fZ a),av (fZ b)] (.iZ [av (fZ (tF a b).1),bv (tF a b).2]):=by refine gS 22 [.cell 4 151,.tmp 5] hm Tryz.func280 fun hl he cf=>?_;refine aC [] (sG a b) ?_;cases g1:(eL a b).2;refine bt ?_;simp[tF,g1];refine sA ?_;refine aC [] (xw (eL a b).1 ⟨1,2⟩) ?_;refine bt ?_;simp[tF,g1]
theorem zW(n:Mod.Rat):CN 336 [av (fZ n)] (bv (!cP n)):=by refine gS 6 [.tmp 2] hm Tryz.func336 fun hl he cf=>?_;refine aC [] (ju n) ?_;refine fD ?_;exact sC
theorem tZ(aF:List Mod.Rat):CN 282 [lv (bQ aF)] (bv (tz aF)):=by refine gS 11 [.tmp 2] hm Tryz.func282 fun hl he cf=>?_;rcases aa ((aF.length:Int)=4) with h|h;have h':aF.length=4:=oM;have k:=eq_true h;refine bH k ?_;refine aC [] (vM 336 [] rfl (fun n=>!cP n) aF (fun n _=>zW n)) ?_;refine bt ?_;simp[tz,h',List.all_eq_not_any_not];have h':¬aF.length=4:=oM;refine du h ?_;simp[tz,h']
theorem X2{aF:List Mod.Rat}(h:tz aF=true):aF.length=4:=by simp only[tz,ah,decide_eq_true_eq] at h;exact h.1
theorem Qe(l:j8)(aF:List Mod.Rat):CN 283 [av (gY l),lv (bQ aF)] (.iZ [bv ((oA l aF).getD false),bv (oA l aF).isSome]):=by
 refine gS 48 [.tmp 4,.tmp 5] hm Tryz.func283 fun hl he cf=>?_;refine aC [] (nP l) ?_;cases g1:fF l;refine bt ?_;simp[oA,g1];refine sA ?_;refine aC [] (tZ aF) ?_;cases g2:tz aF;refine bt ?_;simp[oA,g1,g2];obtain⟨hn1,hc1,hb1⟩:=iM.1 g1;have hv:=X2 g2;have e:oA l aF=(mY l.aW aF (whole 0)).map fun x=>below x l.bj l.bJ:=by simp[oA,g1,g2]
 refine sA ?_;refine aC [] (gk 0) ?_;refine ry hm l.aW.length (fun(i:Nat) (sum:Mod.Rat)=>mY l.aW aF (whole 0)=mY (l.aW.drop i) (aF.drop i) sum) (fun i sum=>⟨dN 48 .any [(1,lv (bQ aF)),(2,.bA 0 0),(6,.bA 1 0),(21,lv (bm l.aW)),(22,iv l.aW.length),(23,iv i)],[some (.box (dm (gY l))),some (.box (dm (fZ sum)))]⟩) (whole 0) ?_ (cM kR) ?_;simp;rintro i sum ⟨hi,hg⟩;rcases aa (i<l.aW.length) with h1|h1;have h2:i<aF.length:=oM;rw[Sy h1 h2] at hg;refine uJ ?_;refine aC [] (Ac sum l.aW[i] aF[i]) ?_;refine bt ?_;cases h3:(plus sum l.aW[i] aF[i]).2;rw[h3] at hg;simp only[au,if_false] at hg;rw[hg] at e;exact dD e;rw[h3] at hg;simp only[if_true] at hg;refine bt ?_;exact⟨i+1,(plus sum l.aW[i] aF[i]).1,⟨oM,hg⟩,sL,cM kR⟩;rw[ak oM,J4] at hg;rw[hg] at e;refine bH h1 ?_;refine aC [] (Eh sum l.bj l.bJ) ?_;exact dD e
theorem M6(ls:List j8)(aF:List Mod.Rat):CN 201 [lv (eE ls),lv (bQ aF)] (bv (na ls aF)):=by
 refine gS 36 [.tmp 4] hm Tryz.func201 fun hl he cf=>?_;refine aC [] (qb ls) ?_;cases g1:iU ls;refine bt ?_;simp[na,g1];refine sA ?_;refine aC [] (tZ aF) ?_;cases g2:tz aF;refine bt ?_;simp[na,g1,g2];have e:na ls aF=ls.all fun l=>decide (oA l aF=some true):=by simp[na,g1,g2]
 refine sA ?_;refine kC hm ls.length (fun(i:Nat)=>na ls aF=(ls.drop i).all fun l=>decide (oA l aF=some true)) (fun i=>⟨dN 36 .any [(1,lv (bQ aF)),(17,lv (eE ls)),(18,iv ls.length),(19,iv i)],[]⟩) ?_ (cM []) ?_;simp[e];rintro i ⟨hi,hg⟩;rcases aa (i<ls.length) with h1|h1
 ·rw[ae h1,List.all_cons] at hg;refine uA ?_;refine aC [] (Qe ls[i] aF) ?_;cases h2:oA ls[i] aF with
  | none=>rw[h2] at hg;exact dD hg
  | some b=>rw[h2] at hg;cases b;exact dD hg;refine bt ?_;refine⟨i+1,?_,sL,cM []⟩;refine⟨oM,?_⟩;rw[hg];simp
 rw[ak oM,List.all_nil] at hg;exact gG h1 hg
def cUT(r:dK):List T:=[.fM (.eC (bm r.lG.aW)),.fM (.val (.int .i64 r.lG.bj)),.fM (.val (.bool r.lG.bJ)),.own 3 (Aa r.ie)]
def uT(l:List dK):List (List T):=l.map cUT
theorem Vr:∀(l:List dK),dP (uT l)=some (fm l)
 | []=>rfl
 | s::l=>by have:=Vr l;simp only[uT,List.map_cons] at this⊢;simp[dP,iz,T.Kj,cUT,Lh,this,fm,cU]
theorem Ux(l:List dK):(uT l).length=l.length:=by simp[uT]
theorem agm(l:List dK)(t:dK):uT l++[cUT t]=uT (l++[t]):=by simp[uT]
theorem aeG(l:List dK):(dP (uT l)).isSome=true:=by rw[Vr];rfl
attribute [go_sem] Vr Ux
theorem Wb{n i:Nat}(h:i<n):(bm (aE n 0)).set i [.val (.int .i64 1)]=bm (wX n i):=by rw[wX,←Hk (by simpa using h)]
theorem JQ{n i:Nat}(h:i<n):lift ((bm (aE n 0)).set i (wm (row (bm (aE n 0)) i) 0 [.val (.int .i64 1)]))=Aa (wX n i):=by
 have e:wm (row (bm (aE n 0)) i) 0 [.val (.int .i64 1)]=[D.val (.int .i64 1)]:=by rw[Ga (by simpa using h)];simp[wm]
 rw[e,Wb h,Db]
theorem Jt{ls:List j8}{i:Nat}(h:i<ls.length):uT ((bK i).map fun i=>⟨ls.getD i qo,wX ls.length i⟩)++[[.fM (.eC (bm ls[i].aW)),.fM (.val (.int .i64 ls[i].bj)),.fM (.val (.bool ls[i].bJ)),.own 3 (Aa (wX ls.length i))]]=uT ((bK i++[i]).map fun i=>⟨ls.getD i qo,wX ls.length i⟩):=by rw[List.map_append,List.map_singleton,getD_at h,←agm];rfl
theorem IH(ls:List j8)(hl:ls.length≤100):CN 196 [lv (eE ls)] (lv (fm (b6 ls))):=by
 refine gS 28 [.tmp 2] hm Tryz.func196 fun hl he cf=>?_;refine jr hm ls.length (fun i=>⟨dN 28 .any [(0,lv (eE ls)),(3,.aX 0),(7,lv (eE ls)),(8,iv ls.length),(9,iv i)],[some (.gD 258 (uT ((bK i).map fun i=>⟨ls.getD i qo,wX ls.length i⟩)))]⟩) (cM [none]) ?_;rintro i hi;have hp:(uT ((bK i).map fun i=>(⟨ls.getD i qo,wX ls.length i⟩:dK))).length=i:=by rw[Ux];simp
 rcases aa (i<ls.length) with h1|h1
 ·have hz:aE ls.length ([D.val (Value.int .i64 0)]:List D)=bm (aE ls.length 0):=(by simp[bm]);refine uA ?_;refine sQ ?_;simp -implicitDefEqProofs only[go_sem,hz];refine⟨i+1,?_,?_,E7 4 i _ rfl (by rw[List.length_append,hp];simp) (A0 hp) ?_⟩;rotate_left;show _ < _;omega
  ·refine sA ?_;refine aZ [some 4] ?_ ?_ rfl rfl;exact sC;refine sA ?_;all_goals(rw[AJ hp,JQ h1];exact⟨Jt h1,(congrArg (fun z=>(dP z).isSome) (Jt h1)).trans (aeG _)⟩)
  exact h1
 refine du h1 ?_;obtain rfl:i=ls.length:=oM;exact⟨_,rfl,rfl⟩
theorem Ni(n v:Nat)(a b:dK)(ha:Mx n a)(hb:Mx n b)(hn:n≤100)(hv:v<4)(h1:0<cq a v)(h2:cq b v<0):CN 276 [av (cU a),av (cU b),iv v] (.iZ [av (cU (D5 a b v)),bv (xC a b v)]):=by
 have ca:=ha.X1 v;have cb:=hb.X1 v;obtain⟨⟨hg1,hg2⟩,⟨hp1,hp2⟩,⟨hq1,hq2⟩⟩:=Jm ha hb h1 h2;have la:v<a.lG.aW.length:=by rw[(iM.1 ha.lG).1];exact hv
 have lb:v<b.lG.aW.length:=by rw[(iM.1 hb.lG).1];exact hv
 have ea:a.lG.aW[v]=cq a v:=(getD_at la).symm;have eb:b.lG.aW[v]=cq b v:=(getD_at lb).symm;have hal:=ha.len;have hbl:=hb.len;have eg:(b9 (cq a v) (-(cq b v)):Int)=xZ a b v:=rfl;have ep:(cq a v).tdiv (xZ a b v)=rE a b v:=rfl;have eq:(-(cq b v)).tdiv (xZ a b v)=rB a b v:=rfl;have e1:D5 a b v=⟨(fL a.lG (rB a b v) b.lG (rE a b v)).1,tj a b v⟩:=rfl;have e2:xC a b v=((fL a.lG (rB a b v) b.lG (rE a b v)).2&&(tj a b v).all fun n=>decide (n≤1000000)):=rfl;have e3:tj a b v=iC (rB a b v) (rE a b v) a.ie b.ie:=rfl;generalize xZ a b v=g at *;generalize rE a b v=p at *;generalize rB a b v=q at *;refine gS 85 [.cell 6 258,.tmp 7] hm Tryz.func276 fun hl he cf=>?_;refine gL la lb (an ea eb) ?_;refine aC [] (zm (cq a v) (-(cq b v)) oM oM) ?_;refine bH eg ?_;refine oH ep eq ?_;refine aC [] (CU a.lG q b.lG p) ?_;obtain⟨l,hl⟩:∃l,(fL a.lG q b.lG p).1=l:=⟨_,rfl⟩;obtain⟨ok,fy⟩:∃l,(fL a.lG q b.lG p).2=l:=⟨_,rfl⟩;rw[hl] at e1;rw[fy] at e2;refine iI hl fy ?_;refine ry hm n (fun(i:Nat) (o:Bool)=>o=(ok&&(iC q p (a.ie.take i) (b.ie.take i)).all fun n=>decide (n≤1000000))) (fun i o=>⟨dN 85 .any [(3,.bA 0 0),(4,.bA 1 0),(6,.bA 2 0),(8,iv p),(9,iv q),(12,bv o),(13,.bA 3 0),(52,iv n),(53,iv i)],[some (.box (dm (cU a))),some (.box (dm (cU b))),some (.box (dm (cU ⟨qo,[]⟩))),some (.box [lv (bm l.aW),iv l.bj,bv l.bJ,.aX 4]),some (.aX 3 (bm (iC q p (a.ie.take i) (b.ie.take i))))]⟩) (ok) ?_ (cM [some 0,some 1,some 2,some 4,none]) ?_;simp[iC];rintro i o ⟨hi,ho⟩;rcases aa (i<n) with h3|h3;have h4:i<a.ie.length:=oM;have h5:i<b.ie.length:=oM;have b1:=ha.bd a.ie[i] (aj h4);have b2:=hb.bd b.ie[i] (aj h5);have m1:=gh (m:=q) (b:=a.ie[i]) oM hq2 oM;have m2:=gh (m:=p) (b:=b.ie[i]) oM hp2 oM;have eO:(iC q p (a.ie.take i) (b.ie.take i)).length≤100:=by rw[pW (by simp;omega)];simp;omega
 have ho2:(ok&&(iC q p (a.ie.take (i+1)) (b.ie.take (i+1))).all fun n=>decide (n≤1000000))=(o&&decide (q*a.ie[i]+p*b.ie[i]≤1000000)):=by rw[ho,lB h4 h5,List.all_append,←Bool.and_assoc];simp
 cases o;simp -implicitDefEqProofs only[go_sem,h3,h4,h5];refine sQ ?_;exact⟨i+1,false,⟨h3,by rw[ho2];rfl⟩,sL,aZ [some 0,some 1,some 2,some 3,some 5] sC (by refine sA ?_;(rw[lB h4 h5,←iO];rfl)) rfl rfl⟩;simp -implicitDefEqProofs only[go_sem,h3,h4,h5];refine sQ ?_;exact⟨i+1,(decide (q*a.ie[i]+p*b.ie[i]≤1000000)),⟨h3,by rw[ho2];simp⟩,sL,aZ [some 0,some 1,some 2,some 3,some 5] sC (by refine sA ?_;(rw[lB h4 h5,←iO];rfl)) rfl rfl⟩;have ta:a.ie.take i=a.ie:=aq oM;have tb:b.ie.take i=b.ie:=aq oM;rw[ta,tb,←e3] at ho⊢;rw[←e2] at ho;refine bH h3 ?_;refine gZ ?_;rw[e1,ho];repeat' apply an
 all_goals rfl
theorem EI{n v:Nat}{r:dK}(h:Mx n r)(hv:v<4):∃h:v<r.lG.aW.length,r.lG.aW[v]=cq r v:=by
 have la:v<r.lG.aW.length:=by rw[(iM.1 h.lG).1];exact hv
 exact⟨la,(getD_at la).symm⟩
theorem w9(n v:Nat)(aw:List dK)(hr:Ar n aw)(hn:n≤100)(hv:v<4):CN 197 [lv (fm aw),iv v] (.iZ [lv (fm ((jo aw v).getD [])),bv (jo aw v).isSome]):=by
 obtain⟨eO,nq⟩:=hr;refine gS 85 [.tmp 4,.tmp 5] hm Tryz.func197 fun hl he cf=>?_;refine jr hm aw.length (fun i=>⟨dN 85 .any [(0,lv (fm aw)),(1,iv v),(6,.aX 0),(15,lv (fm aw)),(16,iv aw.length),(17,iv i)],[some (.aX 258 (fm ((aw.take i).filter fun r=>decide (cq r v=0))))]⟩) (cM [none]) ?_;rintro i hi;have hfl:((aw.take i).filter fun r=>decide (cq r v=0)).length≤200:=by have:=List.length_filter_le (fun r:dK=>decide (cq r v=0)) (aw.take i);rw[List.length_take] at this;omega
 rcases aa (i<aw.length) with h1|h1;obtain⟨la,ea⟩:=EI (nq aw[i] (aj h1)) hv;have hs:=Hr (p:=fun r:dK=>decide (cq r v=0)) h1;rcases aa (cq aw[i] v=0) with h2|h2;have k2:=eq_true h2;rw[if_pos (by simpa using h2)] at hs;simp -implicitDefEqProofs only[go_sem,h1,la,ea,k2];refine sQ ?_;exact⟨i+1,h1,sL,aZ [some 2] sC (by refine sA ?_;(rw[hs,←BV,zD,ye];rfl)) rfl rfl⟩;rw[if_neg (by simpa using h2),List.append_nil] at hs;simp -implicitDefEqProofs only[go_sem,h1,la,ea,h2];refine sQ ?_;exact⟨i+1,h1,sL,cM fe⟩;have et:aw.take i=aw:=aq oM;rw[et] at hfl⊢;obtain⟨out0,ho0⟩:∃o,(aw.filter fun r=>decide (cq r v=0))=o:=⟨_,rfl⟩;have hL:jo aw v=oV v (rS aw aw v) out0:=by rw[←ho0];rfl
 rw[ho0] at hfl⊢;refine bH h1 ?_;clear hi h1;refine ry hm aw.length (fun(i:Nat) (out:List dK)=>out.length≤200∧jo aw v=oV v (rS aw (aw.drop i) v) out) (fun i out=>⟨dN 85 .any [(0,lv (fm aw)),(1,iv v),(6,.aX 0),(33,lv (fm aw)),(34,iv aw.length),(35,iv i)],[some (.aX 258 (fm out))]⟩) (out0) ?_ (cM fe) ?_;exact⟨bo _,hfl,hL⟩;rintro i out ⟨hi,ho,hg⟩;rcases aa (i<aw.length) with h1|h1;have ua:=nq aw[i] (aj h1);rw[HH h1] at hg;obtain⟨a,ha⟩:∃a,aw[i]=a:=⟨_,rfl⟩;rw[ha] at ua hg;obtain⟨la,ea⟩:=EI ua hv;refine iI h1 ha ?_;refine ry hm aw.length (fun(j:Nat) (out:List dK)=>out.length≤200∧jo aw v=oV v (rI a v (aw.drop j)++rS aw (aw.drop (i+1)) v) out) (fun j out=>⟨dN 85 .any [(0,lv (fm aw)),(1,iv v),(6,.aX 0),(10,.bA 1 0),(33,lv (fm aw)),(34,iv aw.length),(35,iv i),(39,lv (fm aw)),(40,iv aw.length),(41,iv j)],[some (.aX 258 (fm out)),some (.box (dm (cU a)))]⟩) (out) ?_ (cM kR) ?_;exact⟨bo _,ho,hg⟩;rintro j out ⟨hj,ho,hg⟩;rcases aa (j<aw.length) with h3|h3;have ub:=nq aw[j] (aj h3);rw[HS h3] at hg;obtain⟨b,hb⟩:∃b,aw[j]=b:=⟨_,rfl⟩;rw[hb] at ub hg;obtain⟨lb,eb⟩:=EI ub hv;rcases aa (cq a v≤0) with h4|h4;rw[if_neg oM,bS] at hg;refine gL h3 la (an ea (an h4 hb)) ?_;exact⟨j+1,out,⟨oM,ho,hg⟩,sL,cM kR⟩;rcases aa (0≤cq b v) with h5|h5;rw[if_neg oM,bS] at hg;refine gL h3 la (an ea (an h4 (an hb (an lb (an eb h5))))) ?_;exact⟨j+1,out,⟨oM,ho,hg⟩,sL,cM kR⟩;rw[if_pos oM] at hg;simp only[List.cons_append,bS,oV] at hg;refine ot h3 la (an ea (an h4 (an hb (an lb (an eb h5))))) ?_;refine aC [] (Ni n v a b ua ub hn hv oM oM) ?_;cases h6:xC a b v;rw[if_neg (by rw[h6];simp)] at hg;exact dD hg;rcases aa ((out.length:Int)=200) with h7|h7;have k7:=eq_true h7;rw[if_neg oM] at hg;exact gG k7 hg;rw[if_pos ⟨h6,oM⟩] at hg;refine du h7 ?_;exact⟨j+1,out++[D5 a b v],⟨oM,by simp;omega,hg⟩,sL,aZ [some 4,some 1] sC (by refine sA ?_;(rw[←BV,zD,ye];rfl)) rfl rfl⟩;rw[ak (by omega:aw.length≤j)] at hg;refine du h3 ?_;exact⟨i+1,out,⟨oM,ho,by simpa[rI] using hg⟩,sL,cM fe⟩;rw[ak oM] at hg;have ho':(out.length:Int)≤200:=oM;exact mH h1 ho' hg
theorem JU(v:Nat)(l:j8)(aF:List Mod.Rat)(hl:fF l=true)(h4:aF.length=4)(hv:v<4):CN 278 [av (gY l),iv v,lv (bQ aF)] (.iZ [av (fZ ((pd l v aF).getD lW)),bv (pd l v aF).isSome]):=by
 obtain⟨hn1,hc1,hb1⟩:=iM.1 hl;have lv1:v<l.aW.length:=oM;have ev:l.aW.getD v 0=l.aW[v]:=getD_at lv1;refine gS 62 [.cell 6 151,.tmp 7] hm Tryz.func278 fun hl he cf=>?_;refine aC [] (gk l.bj) ?_;refine ry hm l.aW.length (fun(i:Nat) (sum:Mod.Rat)=>tL v 0 l.aW aF (whole l.bj)=tL v i (l.aW.drop i) (aF.drop i) sum) (fun i sum=>⟨dN 62 .any [(1,iv v),(2,lv (bQ aF)),(3,.bA 0 0),(6,.bA 1 0),(8,.bA 2 0),(19,lv (bm l.aW)),(20,iv l.aW.length),(21,iv i)],[some (.box (dm (gY l))),some (.box (dm (fZ lW))),some (.box (dm (fZ sum)))]⟩) (whole l.bj) ?_ (cM rC) ?_;simp;rintro i sum ⟨hi,hg⟩;rcases aa (i<l.aW.length) with h1|h1;have h2:i<aF.length:=oM;rw[Tx h1 h2] at hg;rcases aa (i=v) with h3|h3;have k3:((i:Int)=(v:Int))=True:=eq_true oM;rw[if_pos h3] at hg;simp -implicitDefEqProofs only[go_sem,h1,k3];refine sQ ?_;exact⟨i+1,sum,⟨oM,hg⟩,sL,cM rC⟩;have k3:¬ (i:Int)=(v:Int):=oM;have cb:=hc1 l.aW[i] (aj h1);rw[if_neg h3] at hg;simp -implicitDefEqProofs only[go_sem,h1,h2,k3];refine sQ ?_;refine aC [] (Ac sum (-l.aW[i]) aF[i]) ?_;refine iK ?_;cases h5:(plus sum (-l.aW[i]) aF[i]).2;rw[h5] at hg;simp only[au,if_false] at hg;have e:pd l v aF=none:=by simp[pd,hg]
 exact dD e;rw[h5] at hg;simp only[if_true] at hg;refine bt ?_;exact⟨i+1,(plus sum (-l.aW[i]) aF[i]).1,⟨oM,hg⟩,sL,cM rC⟩;rw[ak oM,T7] at hg;simp -implicitDefEqProofs only[go_sem,h1,lv1];refine aC [] (Qp 1 l.aW[v]) ?_;cases h5:(ny 1 l.aW[v]).2;have e:pd l v aF=none:=by simp[pd,hg,h5,lv1]
 exact dD e;have e:pd l v aF=Dv (dt sum (ny 1 l.aW[v]).1):=by simp[pd,hg,h5,lv1]
 refine sA ?_;refine aC [] (xw sum (ny 1 l.aW[v]).1) ?_;obtain⟨o1,o2⟩:=O5 (x:=dt sum (ny 1 l.aW[v]).1) Hs;exact mH e o1 o2
theorem rf(n v:Nat)(aw:List dK)(aF:List Mod.Rat)(hr:Ar n aw)(h4:aF.length=4)(hv:v<4):CN 200 [lv (fm aw),iv v,lv (bQ aF)] (.iZ [av (fZ ((valueOf aw v aF).getD lW)),bv (valueOf aw v aF).isSome]):=by
 obtain⟨eO,nq⟩:=hr;refine gS 95 [.cell 6 151,.tmp 7] hm Tryz.func200 fun hl he cf=>?_;refine aaR hm aw.length (fun(i:Nat) (lo:Option Mod.Rat) (hi:Option Mod.Rat)=>qW v aF aw none none=qW v aF (aw.drop i) lo hi) (fun i lo hi=>⟨dN 95 .any [(1,iv v),(2,lv (bQ aF)),(6,.bA 0 0),(8,.bA 1 0),(9,.bA 2 0),(10,bv lo.isSome),(11,bv hi.isSome),(17,lv (fm aw)),(18,iv aw.length),(19,iv i)],[some (.box (dm (fZ lW))),some (.box (dm (fZ (lo.getD lW)))),some (.box (dm (fZ (hi.getD lW))))]⟩) (none) (none) ?_ (cM rC) ?_;simp;rintro i lo hi ⟨hi1,hg⟩;rcases aa (i<aw.length) with h1|h1
 ·have ua:=nq aw[i] (aj h1);obtain⟨la,ea⟩:=EI ua hv;rw[SW h1] at hg;rcases aa (cq aw[i] v=0) with h2|h2;have k2:=eq_true h2;rw[if_pos h2] at hg;simp -implicitDefEqProofs only[go_sem,h1,la,ea,k2];refine sQ ?_;exact⟨i+1,lo,hi,⟨oM,hg⟩,sL,cM rC⟩;rw[if_neg h2] at hg;simp -implicitDefEqProofs only[go_sem,h1,la,ea,h2];refine aC [] (JU v aw[i].lG aF ua.lG h4 hv) ?_;cases hb:pd aw[i].lG v aF with
  | none=>rw[hb] at hg;simp only at hg;have e:valueOf aw v aF=none:=(by simp[valueOf,hg]);exact dD e
  | some b=>
   rw[hb] at hg;simp only at hg;rcases aa (0<cq aw[i] v) with h3|h3
   ·rw[if_pos h3] at hg;have h3':¬cq aw[i] v<0:=oM;cases hi with
    | none=>rw[show lower b none=true from rfl,if_pos rfl] at hg;refine du h3 ?_;exact⟨i+1,lo,some b,⟨oM,hg⟩,sL,cM rC⟩
    | some h=>rw[show lower b (some h)=eF b h from rfl] at hg;refine bH h3 ?_;refine aC [] (mV b h) ?_;cases h5:eF b h;rw[h5,if_neg (by simp)] at hg;refine du h3' ?_;exact⟨i+1,lo,some h,⟨oM,hg⟩,sL,cM rC⟩;rw[h5,if_pos rfl] at hg;refine bt ?_;exact⟨i+1,lo,some b,⟨oM,hg⟩,sL,cM rC⟩
   rw[if_neg h3] at hg;have h3':cq aw[i] v<0:=oM;cases lo with
   | none=>rw[show upper b none=true from rfl,if_pos rfl] at hg;refine oH h3 h3' ?_;exact⟨i+1,some b,hi,⟨oM,hg⟩,sL,cM rC⟩
   | some l=>rw[show upper b (some l)=eF l b from rfl] at hg;refine iI h3 h3' ?_;refine aC [] (mV l b) ?_;cases h5:eF l b;rw[h5,if_neg (by simp)] at hg;refine bt ?_;exact⟨i+1,some l,hi,⟨oM,hg⟩,sL,cM rC⟩;rw[h5,if_pos rfl] at hg;refine bt ?_;exact⟨i+1,some b,hi,⟨oM,hg⟩,sL,cM rC⟩
 rw[ak oM,qW] at hg;have e:valueOf aw v aF=Dv (mN lo hi):=by simp[valueOf,hg]
 obtain⟨o1,o2⟩:=O5 (x:=mN lo hi) PF;rw[e,o1,o2];cases lo with
 | none=>
  cases hi with
  | none=>refine bH h1 ?_;refine aC [] (gk 0) ?_;exact tY
  | some h=>refine bH h1 ?_;refine aC [] (gk (-1)) ?_;refine aC [] (sG h (whole (-1))) ?_;exact tY
 | some l=>
  cases hi with
  | none=>refine bH h1 ?_;refine aC [] (gk 1) ?_;refine aC [] (sG l (whole 1)) ?_;exact tY
  | some h=>refine bH h1 ?_;refine aC [] (MR l h) ?_;exact tY
structure St4 where
 aw:List dK
 s0:List dK
 s1:List dK
 s2:List dK
 s3:List dK
def ahN(ls:List j8)(z:Int)(t:St4):Prop:=
 (z=3∧t=⟨b6 ls,[],[],[],[]⟩)∨(z=2∧∃r2,jo (b6 ls) 3=some r2∧t=⟨r2,[],[],[],b6 ls⟩) ∨
 (z=1∧∃r2 r1,jo (b6 ls) 3=some r2∧jo r2 2=some r1∧t=⟨r1,[],[],r2,b6 ls⟩) ∨
 (z=0∧∃r2 r1 r0,jo (b6 ls) 3=some r2∧jo r2 2=some r1∧jo r1 1=some r0∧t=⟨r0,[],r1,r2,b6 ls⟩) ∨
 (z = -1∧∃r2 r1 r0 r,jo (b6 ls) 3=some r2∧jo r2 2=some r1∧jo r1 1=some r0∧jo r0 0=some r∧t=⟨r,r0,r1,r2,b6 ls⟩)
theorem MF(ls:List j8):CN 113 [lv (eE ls)] (.iZ [lv (bQ (cE ls).aF),lv (bm (cE ls).a8),iv (cE ls).code]):=by
 cases hsys:iU ls;have e:cE ls=⟨[],[],3⟩:=by simp[cE,hsys]
 refine gS 86 [.tmp 2,.tmp 3,.tmp 4] hm Tryz.func113 fun hl he cf=>?_;refine aC [] (qb ls) ?_;exact gG hsys e;have h20:ls.length≤20:=by simp only[iU,ah,decide_eq_true_eq] at hsys;exact hsys.1
 have u3:=Hv hsys;have cf:=qq;refine Ic (nt:=86) (rs:=[.tmp 2,.tmp 3,.tmp 4]) Tryz.func113 rfl rfl rfl rfl rfl (fun hl he=>?_);simp -implicitDefEqProofs only[go_sem] at hl he⊢;refine fE (jm hm ?_);simp -implicitDefEqProofs only[go_sem,e6,eX];refine fE (jm hm ?_);refine sA ?_;refine aC [] (qb ls) ?_;refine bH hsys ?_;refine fE (jm hm ?_);refine sA ?_;refine aC [] (IH ls oM) ?_;refine fE (jm hm ?_);refine sA ?_;refine fE (jm hm ?_);refine sA ?_;refine jI hm (fun(z:Int) (t:St4)=> ahN ls z t) (fun z t=> ⟨dN 86 .any [(0,lv (eE ls)),(5,lv (fm t.aw)),(6,.bA 0 0),(7,iv z)],[some (.box [lv (fm t.s0),lv (fm t.s1),lv (fm t.s2),lv (fm t.s3)])]⟩) (fun z t=> (z+1).toNat) (3) (⟨b6 ls,[],[],[],[]⟩) ?_ (cM fe) ?_;exact .inl ⟨rfl,rfl⟩;rintro z t hz;rcases hz with⟨rfl,rfl⟩|⟨rfl,r2,g3,rfl⟩|⟨rfl,r2,r1,g3,g2,rfl⟩|⟨rfl,r2,r1,r0,g3,g2,g1,rfl⟩|⟨rfl,r2,r1,r0,aw,g3,g2,g1,g0,rfl⟩
 ·simp only;have hu:=u3;have cl:=w9 ls.length 3 (b6 ls) hu oM oM;simp -implicitDefEqProofs only[go_sem,Z3,Z4];refine sQ ?_;refine aC [] cl ?_;cases hl:jo (b6 ls) 3 with
  | none=>have e:cE ls=⟨[],[],2⟩:=(by simp[cE, *]);refine zx ?_;refine fI ?_;exact dD e
  | some r=>refine bt ?_;exact⟨(2:Int),⟨r,[],[],[],b6 ls⟩,.inr (.inl ⟨rfl,r,hl,rfl⟩),sL,cM fe⟩
 ·simp only;have hu:=mj u3 g3;have cl:=w9 ls.length 2 r2 hu oM oM;simp -implicitDefEqProofs only[go_sem,Z3,Z4];refine sQ ?_;refine aC [] cl ?_;cases hl:jo r2 2 with
  | none=>have e:cE ls=⟨[],[],2⟩:=(by simp[cE, *]);refine zx ?_;refine fI ?_;exact dD e
  | some r=>refine bt ?_;exact⟨(1:Int),⟨r,[],[],r2,b6 ls⟩,.inr (.inr (.inl ⟨rfl,r2,r,g3,hl,rfl⟩)),sL,cM fe⟩
 ·simp only;have hu:=mj (mj u3 g3) g2;have cl:=w9 ls.length 1 r1 hu oM oM;simp -implicitDefEqProofs only[go_sem,Z3,Z4];refine sQ ?_;refine aC [] cl ?_;cases hl:jo r1 1 with
  | none=>have e:cE ls=⟨[],[],2⟩:=(by simp[cE, *]);refine zx ?_;refine fI ?_;exact dD e
  | some r=>refine bt ?_;exact⟨(0:Int),⟨r,[],r1,r2,b6 ls⟩,.inr (.inr (.inr (.inl ⟨rfl,r2,r1,r,g3,g2,hl,rfl⟩))),sL,cM fe⟩
 ·simp only;have hu:=mj (mj (mj u3 g3) g2) g1;have cl:=w9 ls.length 0 r0 hu oM oM;refine sA ?_;refine aC [] cl ?_;cases hl:jo r0 0 with
  | none=>have e:cE ls=⟨[],[],2⟩:=(by simp[cE, *]);refine zx ?_;refine fI ?_;exact dD e
  | some r=>refine bt ?_;exact⟨(-1:Int),⟨r,r0,r1,r2,b6 ls⟩,.inr (.inr (.inr (.inr ⟨rfl,r2,r1,r0,r,g3,g2,g1,hl,rfl⟩))),sL,cM fe⟩
 simp only;have u2:=mj u3 g3;have u1:=mj u2 g2;have u0:=mj u1 g1;have ur:=mj u0 g0;have hrl:=ur.1;have hF:cE ls=jS ls r0 r1 r2 (b6 ls) aw:=by simp[cE,hsys,g3,g2,g1,g0]
 clear g3 g2 g1 g0;simp -implicitDefEqProofs only[go_sem,Z3];refine fE (jm hm ?_);refine sA ?_;refine kC hm aw.length (fun(i:Nat)=>(aw.find? fun r=>lM r.lG)=(aw.drop i).find? fun r=>lM r.lG) (fun i=>⟨dN 86 .any [(0,lv (eE ls)),(6,.bA 0 0),(37,lv (fm aw)),(38,iv aw.length),(39,iv i)],[some (.box [lv (fm r0),lv (fm r1),lv (fm r2),lv (fm (b6 ls))])]⟩) ?_ (cM fe) ?_;simp;rintro i ⟨hi,o5⟩;rcases aa (i<aw.length) with h1|h1;have ua:=ur.2 aw[i] (aj h1);rw[ae h1,List.find?_cons] at o5;refine uA ?_;refine aC [] (CG aw[i].lG) ?_;cases hb:lM aw[i].lG;rw[hb] at o5;refine bt ?_;exact⟨i+1,⟨oM,o5⟩,sL,cM fe⟩;rw[hb] at o5;simp only at o5;have hal:=ua.len;refine sA ?_;refine aC [] (Fb ls aw[i].ie) ?_;cases hf:vY ls aw[i].ie;have e:cE ls=⟨[],[],2⟩:=by rw[hF,jS,o5];simp[hf]
 refine sA ?_;refine fI ?_;exact dD e;have e:cE ls=⟨[],aw[i].ie,1⟩:=by rw[hF,jS,o5];simp[hf]
 refine sA ?_;refine aC [] (Bd aw[i].ie oM) ?_;refine fI ?_;exact dD e;rw[ak oM,List.find?_nil] at o5;refine bH h1 ?_;refine fE (pR ?_);refine kJ rfl ?_;refine aC [] (gk 0) ?_;refine kJ rfl ?_;refine aC [] (gk 0) ?_;refine kJ rfl ?_;refine aC [] (gk 0) ?_;refine kJ rfl ?_;refine aC [] (gk 0) ?_;refine kJ rfl (gm (rQ 149 151 4 1 _ _ _ (bQ qk) rfl rfl rfl rfl rfl (by simp -implicitDefEqProofs only[go_sem];rfl) (by decide) (by decide) rfl) ?_);refine sA ?_;refine kJ rfl (gJ ?_);refine sA ?_;refine xp ?_;refine sA ?_;refine fE (jm hm ?_);refine sA ?_;refine jI hm (fun(z:Int) (aF:List Mod.Rat)=> aF.length=4∧((z=0∧oq [r0,r1,r2,b6 ls] 0 qk=oq [r0,r1,r2,b6 ls] 0 aF)∨(z=1∧oq [r0,r1,r2,b6 ls] 0 qk=oq [r1,r2,b6 ls] 1 aF)∨(z=2∧oq [r0,r1,r2,b6 ls] 0 qk=oq [r2,b6 ls] 2 aF)∨(z=3∧oq [r0,r1,r2,b6 ls] 0 qk=oq [b6 ls] 3 aF)∨(z=4∧oq [r0,r1,r2,b6 ls] 0 qk=some aF))) (fun z aF=> ⟨dN 86 .any [(0,lv (eE ls)),(6,.bA 0 0),(12,.aX 1),(61,iv 4),(62,iv z)],[some (.box [lv (fm r0),lv (fm r1),lv (fm r2),lv (fm (b6 ls))]),some (.aX 151 (bQ aF))]⟩) (fun z aF=> (4-z).toNat) (0) (qk) ?_ (cM kR) ?_;exact⟨rfl,.inl ⟨rfl,rfl⟩⟩;rintro z aF ⟨hv4,hg⟩;have hLv:(bQ aF).length=4:=by rw[AI];exact hv4
 rcases hg with⟨rfl,hg⟩|⟨rfl,hg⟩|⟨rfl,hg⟩|⟨rfl,hg⟩|⟨rfl,hg⟩
 ·have cv:=rf ls.length 0 r0 aF (by assumption) hv4 oM;simp -implicitDefEqProofs only[go_sem,Z2];refine AQ [] [1] cv ?_;cases hx:valueOf r0 0 aF with
  | none=>rw[wG (st:=[r1,r2,b6 ls]) hx] at hg;have e:cE ls=⟨[],[],2⟩:=(by rw[hF,jS,o5];simp only[hg]);refine zx ?_;refine fI ?_;exact dD e
  | some x=>rw[wz (st:=[r1,r2,b6 ls]) hx] at hg;refine bt ?_;exact⟨(1:Int),aF.set 0 x,⟨by simpa using hv4,.inr (.inl ⟨rfl,hg⟩)⟩,sL,aZ kR (by refine sA ?_;simp[*];done) (by refine sA ?_;exact tr oM) rfl rfl⟩
 ·have cv:=rf ls.length 1 r1 aF (by assumption) hv4 oM;simp -implicitDefEqProofs only[go_sem,Z2,Z3,Z4];refine sQ ?_;refine AQ [] [1] cv ?_;cases hx:valueOf r1 1 aF with
  | none=>rw[wG (st:=[r2,b6 ls]) hx] at hg;have e:cE ls=⟨[],[],2⟩:=(by rw[hF,jS,o5];simp only[hg]);refine zx ?_;refine fI ?_;exact dD e
  | some x=>rw[wz (st:=[r2,b6 ls]) hx] at hg;simp -implicitDefEqProofs only[go_sem,Z3,Z4,dw,cg];refine sQ ?_;exact⟨(2:Int),aF.set 1 x,⟨by simpa using hv4,.inr (.inr (.inl ⟨rfl,hg⟩))⟩,sL,aZ kR (by refine sA ?_;simp[*];done) (by refine sA ?_;exact tr oM) rfl rfl⟩
 ·have cv:=rf ls.length 2 r2 aF (by assumption) hv4 oM;simp -implicitDefEqProofs only[go_sem,Z2,Z3,Z4];refine sQ ?_;refine AQ [] [1] cv ?_;cases hx:valueOf r2 2 aF with
  | none=>rw[wG (st:=[b6 ls]) hx] at hg;have e:cE ls=⟨[],[],2⟩:=(by rw[hF,jS,o5];simp only[hg]);refine zx ?_;refine fI ?_;exact dD e
  | some x=>rw[wz (st:=[b6 ls]) hx] at hg;simp -implicitDefEqProofs only[go_sem,Z3,Z4,dw,cg];refine sQ ?_;exact⟨(3:Int),aF.set 2 x,⟨by simpa using hv4,.inr (.inr (.inr (.inl ⟨rfl,hg⟩)))⟩,sL,aZ kR (by refine sA ?_;simp[*];done) (by refine sA ?_;exact tr oM) rfl rfl⟩
 ·have cv:=rf ls.length 3 (b6 ls) aF (by assumption) hv4 oM;simp -implicitDefEqProofs only[go_sem,Z2,Z3,Z4];refine sQ ?_;refine AQ [] [1] cv ?_;cases hx:valueOf (b6 ls) 3 aF with
  | none=>rw[wG (st:=[]) hx] at hg;have e:cE ls=⟨[],[],2⟩:=(by rw[hF,jS,o5];simp only[hg]);refine zx ?_;refine fI ?_;exact dD e
  | some x=>rw[wz (st:=[]) hx] at hg;simp -implicitDefEqProofs only[go_sem,Z3,Z4,dw,cg];refine sQ ?_;exact⟨(4:Int),aF.set 3 x,⟨by simpa using hv4,.inr (.inr (.inr (.inr ⟨rfl,hg⟩)))⟩,sL,aZ kR (by refine sA ?_;simp[*];done) (by refine sA ?_;exact tr oM) rfl rfl⟩
 simp -implicitDefEqProofs only[go_sem,Z2];refine fE (jm hm ?_);refine sA ?_;refine AQ [] [1] (M6 ls aF) ?_;cases hf:na ls aF;have e:cE ls=⟨[],[],2⟩:=by rw[hF,jS,o5];simp[hg,hf]
 refine sA ?_;refine fI ?_;exact dD e;have e:cE ls=⟨aF,[],0⟩:=by rw[hF,jS,o5];simp[hg,hf]
 refine sA ?_;refine jm hm ?_;refine sA ?_;refine fI ?_;exact dD e
end Go.Proofs.YtphcpjhkeipggaaGreat
