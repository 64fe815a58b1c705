/-
  The walks of literals: their terms, equations and sums. A step towards the exact laws.
-/
import Derived.Test.YtnhdminpjihbnaaGreatKAM
import Derived.Test.YtnhdminpjihbnaaGreatKAI
set_option linter.unusedVariables false
set_option linter.unusedSimpArgs false
open Int renaming reduceEq→Z1,reduceLT→Z2,reduceLE→Z3,reduceToNat→Z4
open And renaming intro→aq
open Bool renaming false_eq_true→aw
open Classical renaming em→aa
open List renaming getElem_mem→ah,take_of_length_le→ak,drop_of_length_le→al,take_add_one→bn,append_nil→bV,take_succ_cons→dE,filter_cons→fB,mem_of_mem_take→gk,drop_drop→l7,drop→pC
namespace Go.Proofs.YtnhdminpjihbnaaGreat
open Go.Eng Go.Mod
set_option maxRecDepth 100000
set_option maxHeartbeats 800000
theorem tJ(xs:List az)(hx:xs.length≤1000)(l6:∀t∈xs,bR t=true):C E.P 98 [lv (ba xs)] [] (gR (.aW 0) [some (.aW 31 (ba (ov xs)))]):=by refine gS 20 [.tmp 2] hm Tryz.func98 fun hl he cV=>?_;refine Ag hm xs.length (fun(i:Nat) (out:List az)=>ov xs=s8 (xs.drop i) out∧out.length≤15*i) (fun i out=>⟨fk 20 .any [(3,.aW 0),(6,lv (ba xs)),(7,iv xs.length),(8,iv i)],[some (.aW 31 (ba out))]⟩) ([]) ?_ (c9 [none]) ?_;simp[ov];rintro i out ⟨hi,hg,ho⟩;rcases aa (i<xs.length) with h1|h1;have h2:=l6 xs[i] (ah h1);rw[Qb h1 h2] at hg;have hs:=jt h2;have hle:=E4 (l:=out) hs oM;refine uA ?_;refine aC [] (pR xs[i]) ?_;refine bS h2 ?_;refine xN [] [0,2] (GL xs[i] 4 out oM hs oM) ?_;exact⟨i+1,eF out xs[i],⟨oM,hg,oM⟩,sL,c9 [some 2]⟩;rw[al oM,s8] at hg;refine bS h1 ?_;refine bM gE ?_ rfl rfl;exact fA hg
theorem BU(af:List cC)(hl1:af.length≤100)(hw:∀l∈af,dh l.aY=true):C E.P 71 [lv (cO af)] [] (gR (.aW 0) [some (.aW 31 (ba (aQ af)))]):=by
 obtain⟨hle,dL⟩:=kC hw;refine gS 20 [.tmp 2] hm Tryz.func71 fun hl he cV=>?_;refine jf hm af.length (fun i=>⟨fk 20 .any [(3,.aW 0),(6,lv (cO af)),(7,iv af.length),(8,iv i)],[some (.aW 31 (ba (fC (af.take i))))]⟩) (c9 [none]) ?_;rintro i hi;rcases aa (i<af.length) with h1|h1;have h2:=kC (af:=af.take i) fun l hl=>hw l (gk hl);have h3:=nX (hw af[i] (ah h1));have h4:(af.take i).length≤100:=by simp;omega
 refine uA ?_;refine aC [] (wX af[i].aY) ?_;refine bI ?_;exact⟨i+1,h1,sL,bW [some 2] sC (by refine sA ?_;(rw[xF h1,←oq])) rfl rfl⟩;have e:af.take i=af:=ak oM;refine lf h1 e ?_;refine oC [] [0,1] (acp (e:=31) (rest:=[]) rfl (tJ (fC af) oM dL)) ?_;refine Et [some 1] ?_;rfl
theorem P6(af:List cC)(hl1:af.length≤100):CN 102 [lv (cO af)] (lv (lU (cG af))):=by
 refine gS 35 [.tmp 2] hm Tryz.func102 fun hl he cV=>?_;refine jf hm af.length (fun i=>⟨fk 35 .any [(3,.aW 0),(6,lv (cO af)),(7,iv af.length),(8,iv i)],[some (.aW 199 (lU (cG (af.take i))))]⟩) (c9 [none]) ?_;rintro i hi;rcases aa (i<af.length) with h1|h1;have h2:=aaR (af.take i);have h4:(af.take i).length≤100:=by simp;omega
 have hs:=VL h1;rcases aa (af[i].aY.kind=1) with h5|h5;have k5:=eq_true h5;cases h6:af[i].no;rw[if_pos ⟨h5,h6⟩] at hs;simp -implicitDefEqProofs only[go_sem,h1,k5,h6];refine aC [] (iU af[i].aY.A) ?_;refine oL [] (iU af[i].aY.B) ?_;exact⟨i+1,h1,sL,bW [some 2] sC (by refine sA ?_;(rw[hs,←XW,UD,Eg];rfl)) rfl rfl⟩;rw[if_neg (by simp[h6]),bV] at hs;simp -implicitDefEqProofs only[go_sem,h1,k5,h6];refine sQ ?_;exact⟨i+1,h1,sL,c9 gE⟩;rw[if_neg (by simp[h5]),bV] at hs;simp -implicitDefEqProofs only[go_sem,h1,h5];refine sQ ?_;exact⟨i+1,h1,sL,c9 gE⟩;refine dB h1 ?_;rw[ak oM]
theorem zy(an ts:List az)(ns:List Int)(b:Int)(st:Bool)(h4:an.length≤4)(jY:∀t∈ts,t∈an)(hn:ns.length=ts.length)(hb:∀n∈ns,-50≤n∧n≤50)(hl4:ts.length≤4) :
 CN 164 [lv (ba an),lv (ba ts),lv (bj ns),iv b,bv st] (av (mY (vI an ts ns b st))):=by
 have cV:=oc
 refine tI (nt:=40) (rs:=[.cell 10 223]) hm Tryz.func164 rfl rfl rfl rfl rfl (fun hl he=>?_)
 simp -implicitDefEqProofs only[go_sem,Z3,Z4] at hl⊢
 refine sQ ?_
 refine jf hm ts.length (fun i=>⟨fk 40 .any [(0,lv (ba an)),(2,lv (bj ns)),(10,.bK 0 0),(11,.bK 1 0),(18,lv (ba ts)),(19,iv ts.length),(20,iv i)],[some (.box (fy (mY uZ))),some (.box [.aW 2,.d (.val (.int .i64 b)),.d (.val (.bool st))]),some (.aW 3 (bj (o0 an (ts.take i) (ns.take i) [0,0,0,0])))]⟩) (c9 [some 0,some 2,some 1]) ?_
 ·rintro i hi
  rcases aa (i<ts.length) with h1|h1
  ·have h2:i<ns.length:=oM
   have jY:=jY ts[i] (ah h1)
   have x1:=gm.2 jY
   have x2:=zj jY
   have hL:(o0 an (ts.take i) (ns.take i) [0,0,0,0]).length=4:=PZ
   have x3:(dN an ts[i]).toNat<(o0 an (ts.take i) (ns.take i) [0,0,0,0]).length:=oM
   have hB:=I5 (an:=an) (ts:=ts.take i) (ns:=ns.take i) (cs:=[0,0,0,0]) (m:=0) (by simp) (fun n hn=>hb n (gk hn)) oM _ (ah x3)
   have hB2:((ts.take i).length:Int)≤4:=by simp;omega
   have hB3:=hb ns[i] (ah h2)
   refine uA ?_
   refine eh [] (fX an ts[i]) ?_ ?_<;>simp -implicitDefEqProofs only[go_sem,x3,h2]
   refine sQ ?_
   exact⟨i+1,h1,sL,bW sa sC (by refine sA ?_;(rw[Me h1 h2,OX _ x1,←yg x3,Gl x3];simp[vz])) rfl rfl⟩
  ·have e1:ts.take i=ts:=ak oM
   have e2:ns.take i=ns:=ak oM
   refine kY h1 e1 e2 ?_
   simp[vI]
theorem NK(an:List az)(af:List cC)(h4:an.length≤4)(hl1:af.length≤100)(hf:∀l∈af,Fit an l):CN 106 [lv (ba an),lv (cO af)] (lv (gq (iL an af))):=by
 refine gS 70 [.tmp 4] hm Tryz.func106 fun hl he cV=>?_;refine jf hm af.length (fun i=>⟨fk 70 .any [(0,lv (ba an)),(5,.aW 0),(11,lv (cO af)),(12,iv af.length),(13,iv i)],[some (.aW 223 (gq (iL an (af.take i))))]⟩) (c9 [none]) ?_;rintro i hi;rcases aa (i<af.length) with h1|h1;have h2:=MQ an (af.take i);have h3:(af.take i).length≤100:=by simp;omega
 have hs:=TF (an:=an) h1;have hF:=hf af[i] (ah h1);rcases aa (af[i].aY.kind=2) with k2|k2;have k:=eq_true k2;have hw:=qC hF.wf k2;have hc:=zy an af[i].aY.an af[i].aY.bt af[i].aY.bJ af[i].aY.cz h4 (hF.sum k2) hw.2.2.2.1 (zc hw.2.2.2.2.2 hw.2.2.2.1).2 hw.2.2.1;simp -implicitDefEqProofs only[go_sem,h1,k];refine aC [] hc ?_;cases h6:af[i].no;rw[nd,if_pos k2,h6] at hs;simp only[aw,if_false] at hs;refine bI ?_;exact⟨i+1,h1,sL,bW [some 4] sC (by refine sA ?_;(rw[hs,←Au,u6,wN];rfl)) rfl rfl⟩;rw[nd,if_pos k2,h6] at hs;simp only[if_true] at hs;refine sA ?_;refine oL [] (Oo (vI an af[i].aY.an af[i].aY.bt af[i].aY.bJ af[i].aY.cz)) ?_;exact⟨i+1,h1,sL,bW [some 4] sC (by refine sA ?_;(rw[hs,←Au,u6,wN];rfl)) rfl rfl⟩;have k1:af[i].aY.kind=1:=(nM hF.wf).resolve_right k2;cases h6:af[i].no;simp -implicitDefEqProofs only[go_sem,h1,k2,h6];refine aC [] (fX an af[i].aY.A) ?_;rcases aa (0≤dN an af[i].aY.A) with h7|h7;rw[nd,if_neg k2,if_pos ⟨h6,h7⟩] at hs;have hA:=gm.1 h7;have hB:=(hF.eq k1).1 hA;have hm:∀t∈[af[i].aY.A,af[i].aY.B],t∈an:=by intro t ht;simp only[List.mem_cons,List.not_mem_nil,or_false] at ht;rcases ht with rfl|rfl;exact hA;exact hB
 have c1:=zy an [af[i].aY.A,af[i].aY.B] [1,-1] 0 false h4 hm rfl (by intro n hn;simp at hn;omega) (by simp);have c2:=zy an [af[i].aY.A,af[i].aY.B] [-1,1] 0 false h4 hm rfl (by intro n hn;simp at hn;omega) (by simp);clear hm;refine bS h7 ?_;refine eh [] c1 ?_ ?_<;>simp -implicitDefEqProofs only[go_sem,iu,dP];refine eh [] c2 ?_ ?_<;>simp -implicitDefEqProofs only[go_sem,iu,dP];refine sQ ?_;exact⟨i+1,h1,sL,bW [some 3] sC (by refine sA ?_;(rw[hs,←Au,u6,u6,wN];rfl)) rfl rfl⟩;rw[nd,if_neg k2,if_neg (by simp[h6,h7]),bV] at hs;refine dB h7 ?_;exact⟨i+1,h1,sL,c9 gE⟩;rw[nd,if_neg k2,if_neg (by simp[h6]),bV] at hs;simp -implicitDefEqProofs only[go_sem,h1,k2,h6];refine sQ ?_;exact⟨i+1,h1,sL,c9 gE⟩;refine dB h1 ?_;rw[ak oM]
theorem EF(a b:az):CN 113 [av (cT a),av (cT b)] (av (Af (kQ a b))):=by refine gS 9 [.cell 4 36] hm Tryz.func113 fun hl he cV=>?_;refine bI ?_;simp[kQ,HG]
theorem wo(a b:az)(ha:bR a=true)(hb:bR b=true):CN 169 [av (cT a),av (cT b)] (av (Af (gC a b))):=by refine gS 24 [.cell 4 36] hm Tryz.func169 fun hl he cV=>?_;refine aC [] (pq a ha) ?_;refine eh [] (pq b hb) ?_ ?_<;>simp -implicitDefEqProofs only[go_sem,J2];refine iK ?_;cases q:kn (a7 b) (a7 a);have h5:Op.bytesLess (a7 b) (a7 a)=false:=q;refine dB h5 ?_;simp[gC,q,iu,dP,cT];have h5:Op.bytesLess (a7 b) (a7 a)=true:=q;refine dB h5 ?_;simp[gC,q,iu,dP,cT]
theorem JO:C E.P 167 [.bE] [] (gR (.aW 0) [some (.aW 36 [])]):=by refine gT 8 [.tmp 2] hm Tryz.func167 fun hl he cV=>?_;refine wW 36 _ true rfl rfl (by simp -implicitDefEqProofs only[go_sem,Z1,Z2,Z3,Z4]) vl ?_;refine me ?_;refine bM [none] ?_ rfl rfl;exact sD
theorem Ji(a:Addr)(c:Nat):C E.P 167 [.d (.val (.slice (some a) 0 c))] [] (gR (.aW 0) [some (.aW 36 [])]):=by refine gT 8 [.tmp 2] hm Tryz.func167 fun hl he cV=>?_;refine wW 36 _ false rfl rfl (p:=.d (.val (.slice (some a) 0 c))) (by simp -implicitDefEqProofs only[go_sem,Z1,Z2,Z3,Z4]) (B6 _ _ _) ?_;refine me ?_;refine bM [some 1] ?_ rfl rfl;exact sD
theorem HP(r:List D)(rs:List (List D))(hl1:rs.length≤1000)(h1:∀y∈r::rs,y.length=10):C E.P 167 [.d (.eP (r::rs))] [] (gR (.aW 0) [some (.aW 36 (r::rs))]):=by refine gT 8 [.tmp 2] hm Tryz.func167 fun hl he cV=>?_;refine wW 36 _ false rfl rfl (p:=.d (.eP (r::rs))) (by simp -implicitDefEqProofs only[go_sem,Z1,Z2,Z3,Z4]) CB ?_;refine me ?_;refine aq ⟨?_,oM,oM⟩ ?_;simpa using h1;refine bM [some 1] ?_ rfl rfl;exact sD
theorem UQ(af:List cC)(hl1:af.length≤1000):C E.P 167 [lv (cO af)] [] (gR (.aW 0) [some (.aW 36 (cO af))]):=by
 cases af with
 | nil=>exact ES JO Ji
 | cons x xs=>have h1:=I8 (x::xs);rw[rq] at h1⊢;exact HP (Af x) (cO xs) (by rw[IZ];simp at hl1;omega) h1
theorem LR(af:List cC)(l:cC)(hl1:af.length≤100):CN 112 [lv (cO af),av (Af l)] (lv (cO (af++[l]))):=by refine gT 10 [.tmp 4] hm Tryz.func112 fun hl he cV=>?_;refine xN [] [1] (UQ af oM) ?_;rw[←qK,rq,Bi];rfl
theorem Oe(a b:az)(ta:bR a=true)(tb:bR b=true):CN 118 [av (cT a),av (cT b)] (lv (cO (lr a b))):=by refine gT 15 [.tmp 4] hm Tryz.func118 fun hl he cV=>?_;refine oL [] (EF a b) ?_;refine oL [] (wo a b ta tb) ?_;refine oL [] (wo b a tb ta) ?_;rw[lr,rq,rq,rq,Bi];rfl
theorem Ac(s:eV)(t:az):CN 100 [av (cT t),.gQ [gi s] 0 0] (bv (!eQ s t)):=by refine gS 8 [.tmp 3] hm Tryz.func100 fun hl he cV=>?_;refine aC [] (zQ s t) ?_;refine fv ?_;exact sC
theorem aaz{a:List az}{i:Nat}(h:i<a.length)(v:az):(ba a).set i (vz (row (ba a) i) 0 (cT v))=ba (a.set i v):=by
 have e:vz (row (ba a) i) 0 (cT v)=cT v:=by rw[G7 h];simp[vz,cT]
 rw[e,ph,ph,List.map_set]
theorem LK{p:az→Bool}:∀{xs:List az}{i:Int},0≤i→(eM p xs i = -1∧xs.filter (fun t=>!p t)=xs)∨∃j:Nat,eM p xs i=i+j∧j<xs.length∧(xs.take (j+1)).filter (fun t=>!p t)=xs.take j
 | [],i,_=>.inl (by simp[eM])
 | x::xs,i,h=>by
  simp only[eM];cases hx:p x with
  | true=>refine .inr ⟨0,?_,by simp,by simp[hx]⟩;simp
  | false=>simp only[aw,if_false];rcases LK (p:=p) (xs:=xs) (i:=i+1) oM with⟨h1,h2⟩|⟨j,h1,h2,h3⟩;exact .inl ⟨h1,by simp[hx,h2]⟩;refine .inr ⟨j+1,by rw[h1];omega,by simp;omega,?_⟩;rw[dE,fB,dE,h3];simp[hx]
theorem ER(s:eV)(xs:List az)(hl1:xs.length≤10000):C E.P 99 [.aW 0,.fn 100 [.bK 1 0]] [some (.aW 31 (ba xs)),some (.box (fy (gi s)))] (gR (lv (ba (xs.filter (eQ s)))) [some .dead,some (.box (fy (gi s)))]):=by
 have cV:LB=1099511627776:=rfl;refine rF (nt:=42) (rs:=[.tmp 4]) Tryz.func99 rfl rfl rfl rfl rfl (fun hl he=>?_);simp -implicitDefEqProofs only[go_sem] at hl he⊢;refine dD (fh hm ?_);simp -implicitDefEqProofs only[go_sem,bO,ck];refine dD (fh hm ?_);refine sA ?_;refine CM [] [0,1] (r7 100 [.gQ [gi s] 0 0] rfl (fun t=>!eQ s t) xs (fun t _=>Ac s t)) ?_;simp -implicitDefEqProofs only[go_sem,bO,ck];rcases LK (p:=fun t=>!eQ s t) (xs:=xs) (i:=0) oM with⟨h1,h2⟩|⟨j0,h1,h2,h3⟩
 ·have e:idxOf (fun t=>!eQ s t) xs = -1:=h1;rw[e];refine dD (fh hm ?_);simp -implicitDefEqProofs only[go_sem,bO,ma];refine⟨_,vj 4 0 31 (ba xs) rfl rfl,?_⟩;have e2:xs.filter (eQ s)=xs:=(by simpa using h2);rw[e2];refine bM qR ?_ rfl rfl;refine sA ?_;all_goals simp
 have e:idxOf (fun t=>!eQ s t) xs=(j0:Int):=by rw[idxOf,h1];omega
 rw[e];have n1:¬ (j0:Int) = -1:=oM;refine dD (fh hm ?_);simp -implicitDefEqProofs only[go_sem,bO,ck,n1];refine dD (fh hm ?_);refine bI ?_;refine tG hm (fun(i:Nat) (j:Nat) (a:List az)=> i≤j∧j≤xs.length∧a.length=xs.length∧a.take i=(xs.take j).filter (eQ s)∧a.drop j=xs.drop j) (fun i j a=> ⟨fk 42 .any [(0,.aW 0),(1,.fn 100 [.bK 1 0]),(5,iv i),(6,iv j)],[some (.aW 31 (ba a)),some (.box (fy (gi s)))]⟩) (fun i j a=> xs.length-j) (j0) (j0+1) (xs) ?_ (c9 qR) ?_;exact⟨oM,oM,rfl,by simpa using h3.symm,rfl⟩;rintro i j a ⟨hij,hj,hal,ht,hd⟩;rcases aa (j<xs.length) with h1|h1
 ·have h1a:j<a.length:=oM;have hia:i<a.length:=oM;have hx:a[j]=xs[j]:=(by have h4:(a.drop j)[0]?=(xs.drop j)[0]?:=(by rw[hd]);simpa[h1,h1a] using h4);have hf:(xs.take (j+1)).filter (eQ s)=(xs.take j).filter (eQ s)++(if eQ s xs[j] then [xs[j]] else []):=(by rw[bn,List.getElem?_eq_getElem h1,List.filter_append];congr 1;simp[fB]);simp -implicitDefEqProofs only[go_sem,h1a];refine ox [.bK 1 0] [1] (Ac s a[j]) rfl ?_ ?_ ?_;exact sV;all_goals simp -implicitDefEqProofs only[go_sem]
  rw[hx];cases h4:eQ s xs[j];rw[h4] at hf;refine sA ?_;refine aq oM ?_;refine⟨i,j+1,a,?_,sL,c9 qR⟩;refine⟨oM,oM,hal,by rw[hf,ht];simp,?_⟩;have h5:=congrArg (pC 1) hd;simpa[l7] using h5;rw[h4] at hf;simp -implicitDefEqProofs only[go_sem,hia];have hset:(ba a).set i (vz [D.str a[i].name,D.eP (ba a[i].ar)] 0 [D.str xs[j].name,D.eP (ba xs[j].ar)])=ba (a.set i xs[j]):=(by have h5:=aaz hia xs[j];rw[G7 hia] at h5;exact h5);refine aq oM (aq oM ?_);refine⟨i+1,j+1,a.set i xs[j],?_,sL,c9 qR⟩;refine⟨oM,oM,by simp[hal],?_,?_⟩;rw[hf,←ht,bn];simp[hia,List.take_set_of_le];have h5:=congrArg (pC 1) hd;rw[List.drop_set_of_lt oM];simpa[l7] using h5
 refine lf h1 hal ?_;simp only[bO,ck];have hjn:j=xs.length:=oM;refine dD (wh ?_);refine w5 (D2.plain rfl (Ga _)) (w5 (D2.plain rfl (Ga _)) ?_);refine sA ?_;refine acW (t:=29) (e:=31) (k:=0) (m:=(i:Int)) (xs:=ba a) [.str [],.eP []] _ _ rfl rfl rfl rfl ?_ ?_ ?_ oM (by rw[vm];omega) ?_ ?_;exact sC;exact sC;exact sC;simp only[vg];omega;refine D6 ?_;simp -implicitDefEqProofs only[go_sem,ck];refine fh hm ?_;refine sA ?_;refine hY (Yu (.tmp 39) (.tmp 40) 29 31 0 _ _ (Sl [.str [],.eP []] (ba a) i) (i:Int) rfl rfl rfl ?_ ?_ ?_ oM (by rw[Yg _ _ _ (by rw[vm];omega),vm];omega)) ?_;exact sC;exact sC;exact sC;simp -implicitDefEqProofs only[go_sem,bO];refine dw ?_;refine bM qR ?_ rfl rfl;refine sA ?_;rw[TL _ _ _ (by rw[vm];omega),VR,ht,hjn,List.take_length]
theorem Dv(s:eV)(af:List cC)(hl1:af.length≤100)(hw:∀l∈af,dh l.aY=true):CN 72 [av (gi s),lv (cO af)] (lv (ba (aO s af))):=by
 have hn:(aQ af).length≤10000:=by obtain⟨hle,dL⟩:=kC hw;have h1:=uj (fC af) [] dL;rw[lW,kp dL];simp only[List.length_nil] at h1;omega
 have e:(aQ af).filter (eQ s)=aO s af:=rfl;refine gS 9 [.tmp 4] hm Tryz.func72 fun hl he cV=>?_;refine oC [] [1] (BU af hl1 hw) ?_;have hcall:=ER s (aQ af) hn;rw[e] at hcall;refine ff [] [1,0] hcall ?_ ?_;refine sA ?_;rfl;refine sA ?_;refine fv ?_;exact sC
theorem De(s:eV)(af:List cC):CN 56 [av (gi s),lv (cO af)] (bv (gO s af)):=by
 refine gT 38 [.tmp 4] hm Tryz.func56 fun hl he cV=>?_;refine oL [] (rI s) ?_;cases h1:gy s;refine me ?_;simp[gO,h1];refine me ?_;rcases aa ((6:Int)<(af.length:Int)) with h2|h2;have h2':¬af.length≤6:=oM;refine kD h2 ?_;simp[gO,h2'];have h2':af.length≤6:=oM;refine kD h2 ?_;refine lZ hm af.length (fun(i:Nat)=>af.all (fun l=>hU s l.aY)=(af.drop i).all (fun l=>hU s l.aY)) (fun i=>⟨fk 38 .any [(1,lv (cO af)),(2,.bK 0 0),(15,lv (cO af)),(16,iv af.length),(17,iv i)],[some (.box (fy (gi s)))]⟩) ?_ (c9 gE) ?_;simp;rintro i ⟨hi,hg⟩;rcases aa (i<af.length) with h3|h3;rw[List.drop_eq_getElem_cons h3,List.all_cons] at hg;try simp -implicitDefEqProofs only[go_sem,Z1,Z2,Z3,Z4,h3]
 refine sI ?_;refine aD [] (Dn s af[i].aY) ?_;refine sI ?_;cases h4:hU s af[i].aY;rw[h4,Bool.false_and] at hg;refine me ?_;simp[gO,hg];rw[h4,Bool.true_and] at hg;refine me ?_;exact⟨i+1,⟨oM,hg⟩,sL,c9 gE⟩;rw[al oM,List.all_nil] at hg;have hw:∀l∈af,dh l.aY=true:=by intro l hl;have:=List.all_eq_true.1 hg l hl;simp only[hU,Bool.and_eq_true] at this;exact this.2.1
 refine kD h3 ?_;refine xN [] [1] (BU af oM hw) ?_;rcases aa (((aQ af).length:Int)≤24) with h5|h5;have h5':(aQ af).length≤24:=oM;refine kD h5 ?_;refine oL [] (Dv s af oM hw) ?_;have e:decide (((aO s af).length:Int)≤4)=decide ((aO s af).length≤4):=decide_eq_decide.2 oM;simp[gO,h1,h2',hg,h5',e];have h5':¬ (aQ af).length≤24:=oM;refine kD h5 ?_;simp[gO,h5']
end Go.Proofs.YtnhdminpjihbnaaGreat
