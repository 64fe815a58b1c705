/-
  The walks of literals: their terms, equations and sums. A step towards the exact laws.
-/
import Derived.Test.YtphcpjhkeipggaaGreatKBM
import Derived.Test.YtphcpjhkeipggaaGreatKBI
set_option linter.unusedVariables false
set_option linter.unusedSimpArgs false
open Int renaming reduceEq→Z1,reduceLT→Z2,reduceLE→Z3,reduceToNat→Z4
open And renaming intro→an
open Bool renaming and_eq_true→ah,false_eq_true→au,true_and→aA,false_and→aI
open Classical renaming em→aa
open List renaming drop_eq_getElem_cons→ae,getElem?_eq_getElem→af,getElem_mem→aj,drop_of_length_le→ak,take_of_length_le→aq,mem_cons→az,mem_append→aO,not_mem_nil→bf,take_add_one→bz,append_nil→bE,take_succ_cons→dv,length_eq_zero_iff→dZ,mem_of_mem_take→e7,drop→fB,filter_cons→fP,drop_drop→kH
open Option renaming isSome_none→lR
namespace Go.Proofs.YtphcpjhkeipggaaGreat
open Go.Eng Go.Mod
set_option maxRecDepth 100000
set_option maxHeartbeats 3200000
theorem tt(xs:List ax)(hx:xs.length≤1000)(nq:∀t∈xs,bG t=true):C E.P 106 [lv (aU xs)] [] (jF (.aX 0) [some (.aX 32 (aU (kL xs)))]):=by refine gS 20 [.tmp 2] hm Tryz.func106 fun hl he cf=>?_;refine ry hm xs.length (fun(i:Nat) (out:List ax)=>kL xs=oB (xs.drop i) out∧out.length≤15*i) (fun i out=>⟨dN 20 .any [(3,.aX 0),(6,lv (aU xs)),(7,iv xs.length),(8,iv i)],[some (.aX 32 (aU out))]⟩) ([]) ?_ (cM [none]) ?_;simp[kL];rintro i out ⟨hi,hg,ho⟩;rcases aa (i<xs.length) with h1|h1;have h2:=nq xs[i] (aj h1);rw[Fu h1 h2] at hg;have hs:=jh h2;have hle:=yr (l:=out) hs oM;refine uA ?_;refine aC [] (kd xs[i]) ?_;refine bH h2 ?_;refine Mw [] [0,2] (xQ xs[i] 4 out oM hs oM) ?_;exact⟨i+1,dY out xs[i],⟨oM,hg,oM⟩,sL,cM [some 2]⟩;rw[ak oM,oB] at hg;refine bH h1 ?_;refine bX fe ?_ rfl rfl;exact dD hg
theorem Bs(ab:List bL)(hl1:ab.length≤100)(hw:∀l∈ab,dq l.aN=true):C E.P 56 [lv (bh ab)] [] (jF (.aX 0) [some (.aX 32 (aU (aL ab)))]):=by
 obtain⟨hle,fy⟩:=kp hw;refine gS 20 [.tmp 2] hm Tryz.func56 fun hl he cf=>?_;refine jr hm ab.length (fun i=>⟨dN 20 .any [(3,.aX 0),(6,lv (bh ab)),(7,iv ab.length),(8,iv i)],[some (.aX 32 (aU (fO (ab.take i))))]⟩) (cM [none]) ?_;rintro i hi;rcases aa (i<ab.length) with h1|h1;have h2:=kp (ab:=ab.take i) fun l hl=>hw l (e7 hl);have h3:=pr (hw ab[i] (aj h1));have h4:(ab.take i).length≤100:=by simp;omega
 refine uA ?_;refine aC [] (wH ab[i].aN) ?_;refine bt ?_;exact⟨i+1,h1,sL,aZ [some 2] sC (by refine sA ?_;(rw[xu h1,←ng])) rfl rfl⟩;have e:ab.take i=ab:=aq oM;refine iI h1 e ?_;refine oC [] [0,1] (Zx (e:=32) (rest:=[]) rfl (tt (fO ab) oM fy)) ?_;refine gA_ [some 1] ?_;rfl
theorem zC(ab:List bL)(hl1:ab.length≤100):CN 110 [lv (bh ab)] (lv (dF (br ab))):=by
 refine gS 35 [.tmp 2] hm Tryz.func110 fun hl he cf=>?_;refine jr hm ab.length (fun i=>⟨dN 35 .any [(3,.aX 0),(6,lv (bh ab)),(7,iv ab.length),(8,iv i)],[some (.aX 217 (dF (br (ab.take i))))]⟩) (cM [none]) ?_;rintro i hi;rcases aa (i<ab.length) with h1|h1;have h2:=O6 (ab.take i);have h4:(ab.take i).length≤100:=by simp;omega
 have hs:=Lj h1;rcases aa (ab[i].aN.kind=1) with h5|h5;have k5:=eq_true h5;cases h6:ab[i].no;rw[if_pos ⟨h5,h6⟩] at hs;simp -implicitDefEqProofs only[go_sem,h1,k5,h6];refine aC [] (gq ab[i].aN.A) ?_;refine sa [] (gq ab[i].aN.B) ?_;exact⟨i+1,h1,sL,aZ [some 2] sC (by refine sA ?_;(rw[hs,←nK,lr,lJ];rfl)) rfl rfl⟩;rw[if_neg (by simp[h6]),bE] at hs;simp -implicitDefEqProofs only[go_sem,h1,k5,h6];refine sQ ?_;exact⟨i+1,h1,sL,cM fe⟩;rw[if_neg (by simp[h5]),bE] at hs;simp -implicitDefEqProofs only[go_sem,h1,h5];refine sQ ?_;exact⟨i+1,h1,sL,cM fe⟩;refine du h1 ?_;rw[aq oM]
theorem zf(ai ts:List ax)(ns:List Int)(b:Int)(st:Bool)(h4:ai.length≤4)(kI:∀t∈ts,t∈ai)(hn:ns.length=ts.length)(hb:∀n∈ns,-50≤n∧n≤50)(hl4:ts.length≤4) :
 CN 202 [lv (aU ai),lv (aU ts),lv (bm ns),iv b,bv st] (av (gY (nX ai ts ns b st))):=by
 have cf:=qq
 refine vE (nt:=40) (rs:=[.cell 10 256]) hm Tryz.func202 rfl rfl rfl rfl rfl (fun hl he=>?_)
 simp -implicitDefEqProofs only[go_sem,Z3,Z4] at hl⊢
 refine sQ ?_
 refine jr hm ts.length (fun i=>⟨dN 40 .any [(0,lv (aU ai)),(2,lv (bm ns)),(10,.bA 0 0),(11,.bA 1 0),(18,lv (aU ts)),(19,iv ts.length),(20,iv i)],[some (.box (dm (gY qo))),some (.box [.aX 2,.d (.val (.int .i64 b)),.d (.val (.bool st))]),some (.aX 3 (bm (l9 ai (ts.take i) (ns.take i) [0,0,0,0])))]⟩) (cM [some 0,some 2,some 1]) ?_
 ·rintro i hi
  rcases aa (i<ts.length) with h1|h1
  ·have h2:i<ns.length:=oM
   have kI:=kI ts[i] (aj h1)
   have x1:=dE.2 kI
   have x2:=qf kI
   have hL:(l9 ai (ts.take i) (ns.take i) [0,0,0,0]).length=4:=NS
   have x3:(b8 ai ts[i]).toNat<(l9 ai (ts.take i) (ns.take i) [0,0,0,0]).length:=oM
   have hB:=Ho (ai:=ai) (ts:=ts.take i) (ns:=ns.take i) (cs:=[0,0,0,0]) (m:=0) (by simp) (fun n hn=>hb n (e7 hn)) oM _ (aj x3)
   have hB2:((ts.take i).length:Int)≤4:=by simp;omega
   have hB3:=hb ns[i] (aj h2)
   refine uA ?_
   refine dy [] (e9 ai ts[i]) ?_ ?_<;>simp -implicitDefEqProofs only[go_sem,x3,h2]
   refine sQ ?_
   exact⟨i+1,h1,sL,aZ rC sC (by refine sA ?_;(rw[J5 h1 h2,x7 _ x1,←Hk x3,pn x3];simp[wm])) rfl rfl⟩
  ·have e1:ts.take i=ts:=aq oM
   have e2:ns.take i=ns:=aq oM
   refine gL h1 e1 e2 ?_
   simp[nX]
theorem C3(ai:List ax)(ab:List bL)(h4:ai.length≤4)(hl1:ab.length≤100)(hf:∀l∈ab,Fit ai l):CN 114 [lv (aU ai),lv (bh ab)] (lv (eE (fN ai ab))):=by
 refine gS 70 [.tmp 4] hm Tryz.func114 fun hl he cf=>?_;refine jr hm ab.length (fun i=>⟨dN 70 .any [(0,lv (aU ai)),(5,.aX 0),(11,lv (bh ab)),(12,iv ab.length),(13,iv i)],[some (.aX 256 (eE (fN ai (ab.take i))))]⟩) (cM [none]) ?_;rintro i hi;rcases aa (i<ab.length) with h1|h1;have h2:=Dx ai (ab.take i);have h3:(ab.take i).length≤100:=by simp;omega
 have hs:=HM (ai:=ai) h1;have hF:=hf ab[i] (aj h1);rcases aa (ab[i].aN.kind=2) with k2|k2;have k:=eq_true k2;have hw:=oX hF.wf k2;have hc:=zf ai ab[i].aN.ai ab[i].aN.a8 ab[i].aN.bj ab[i].aN.bJ h4 (hF.sum k2) hw.2.2.2.1 (yn hw.2.2.2.2.2 hw.2.2.2.1).2 hw.2.2.1;simp -implicitDefEqProofs only[go_sem,h1,k];refine aC [] hc ?_;cases h6:ab[i].no;rw[kK,if_pos k2,h6] at hs;simp only[au,if_false] at hs;refine bt ?_;exact⟨i+1,h1,sL,aZ [some 4] sC (by refine sA ?_;(rw[hs,←oN,kg,nr];rfl)) rfl rfl⟩;rw[kK,if_pos k2,h6] at hs;simp only[if_true] at hs;refine sA ?_;refine sa [] (MH (nX ai ab[i].aN.ai ab[i].aN.a8 ab[i].aN.bj ab[i].aN.bJ)) ?_;exact⟨i+1,h1,sL,aZ [some 4] sC (by refine sA ?_;(rw[hs,←oN,kg,nr];rfl)) rfl rfl⟩;have k1:ab[i].aN.kind=1:=(ml hF.wf).resolve_right k2;cases h6:ab[i].no;simp -implicitDefEqProofs only[go_sem,h1,k2,h6];refine aC [] (e9 ai ab[i].aN.A) ?_;rcases aa (0≤b8 ai ab[i].aN.A) with h7|h7;rw[kK,if_neg k2,if_pos ⟨h6,h7⟩] at hs;have hA:=dE.1 h7;have hB:=(hF.eq k1).1 hA;have hm:∀t∈[ab[i].aN.A,ab[i].aN.B],t∈ai:=by intro t ht;simp only[az,bf,or_false] at ht;rcases ht with rfl|rfl;exact hA;exact hB
 have c1:=zf ai [ab[i].aN.A,ab[i].aN.B] [1,-1] 0 false h4 hm rfl (by intro n hn;simp at hn;omega) (by simp);have c2:=zf ai [ab[i].aN.A,ab[i].aN.B] [-1,1] 0 false h4 hm rfl (by intro n hn;simp at hn;omega) (by simp);clear hm;refine bH h7 ?_;refine dy [] c1 ?_ ?_<;>simp -implicitDefEqProofs only[go_sem,eZ,kQ];refine dy [] c2 ?_ ?_<;>simp -implicitDefEqProofs only[go_sem,eZ,kQ];refine sQ ?_;exact⟨i+1,h1,sL,aZ [some 3] sC (by refine sA ?_;(rw[hs,←oN,kg,kg,nr];rfl)) rfl rfl⟩;rw[kK,if_neg k2,if_neg (by simp[h6,h7]),bE] at hs;refine du h7 ?_;exact⟨i+1,h1,sL,cM fe⟩;rw[kK,if_neg k2,if_neg (by simp[h6]),bE] at hs;simp -implicitDefEqProofs only[go_sem,h1,k2,h6];refine sQ ?_;exact⟨i+1,h1,sL,cM fe⟩;refine du h1 ?_;rw[aq oM]
theorem yV(a b:ax):CN 121 [av (cT a),av (cT b)] (av (r9 (jf a b))):=by refine gS 9 [.cell 4 61] hm Tryz.func121 fun hl he cf=>?_;refine bt ?_;simp[jf,Bp]
theorem vN(a b:ax)(ha:bG a=true)(hb:bG b=true):CN 207 [av (cT a),av (cT b)] (av (r9 (fa a b))):=by refine gS 24 [.cell 4 61] hm Tryz.func207 fun hl he cf=>?_;refine aC [] (ph a ha) ?_;refine dy [] (ph b hb) ?_ ?_<;>simp -implicitDefEqProofs only[go_sem,JL];refine iK ?_;cases q:iQ (aR b) (aR a);have h5:Op.bytesLess (aR b) (aR a)=false:=q;refine du h5 ?_;simp[fa,q,eZ,kQ,cT];have h5:Op.bytesLess (aR b) (aR a)=true:=q;refine du h5 ?_;simp[fa,q,eZ,kQ,cT]
theorem I5:C E.P 205 [.bW] [] (jF (.aX 0) [some (.aX 61 [])]):=by refine gS 8 [.tmp 2] hm Tryz.func205 fun hl he cf=>?_;refine D9 61 _ true rfl rfl (by simp -implicitDefEqProofs only[go_sem]) F5 ?_;refine sA ?_;refine bX [none] ?_ rfl rfl;exact sC
theorem IM(a:Addr)(c:Nat):C E.P 205 [.d (.val (.slice (some a) 0 c))] [] (jF (.aX 0) [some (.aX 61 [])]):=by refine gS 8 [.tmp 2] hm Tryz.func205 fun hl he cf=>?_;refine D9 61 _ false rfl rfl (p:=.d (.val (.slice (some a) 0 c))) (by simp -implicitDefEqProofs only[go_sem]) (Gt _ _ _) ?_;refine sA ?_;refine sQ ?_;refine bX [some 1] ?_ rfl rfl;exact sC
theorem Hg(r:List D)(rs:List (List D))(hl1:rs.length≤1000)(h1:∀y∈r::rs,y.length=10):C E.P 205 [.d (.eC (r::rs))] [] (jF (.aX 0) [some (.aX 61 (r::rs))]):=by refine gS 8 [.tmp 2] hm Tryz.func205 fun hl he cf=>?_;refine D9 61 _ false rfl rfl (p:=.d (.eC (r::rs))) (by simp -implicitDefEqProofs only[go_sem]) G0 ?_;refine sA ?_;refine an ⟨?_,oM,oM⟩ ?_;simpa using h1;refine bX [some 1] ?_ rfl rfl;exact sC
theorem RA(ab:List bL)(hl1:ab.length≤1000):C E.P 205 [lv (bh ab)] [] (jF (.aX 0) [some (.aX 61 (bh ab))]):=by
 cases ab with
 | nil=>exact Qf I5 IM
 | cons x xs=>have h1:=Ij (x::xs);rw[pg] at h1⊢;exact Hg (r9 x) (bh xs) (by rw[Hy];simp at hl1;omega) h1
theorem zA(ab:List bL)(l:bL)(hl1:ab.length≤100):CN 120 [lv (bh ab),av (r9 l)] (lv (bh (ab++[l]))):=by refine gS 10 [.tmp 4] hm Tryz.func120 fun hl he cf=>?_;refine oC [] [1] (RA ab oM) ?_;refine sQ ?_;refine gZ ?_;rw[←lu,pg,wT];rfl
theorem CH(a b:ax)(ta:bG a=true)(tb:bG b=true):CN 126 [av (cT a),av (cT b)] (lv (bh (gv a b))):=by refine gS 15 [.tmp 4] hm Tryz.func126 fun hl he cf=>?_;refine aC [] (yV a b) ?_;refine aC [] (vN a b ta tb) ?_;refine aC [] (vN b a tb ta) ?_;refine iK ?_;refine gZ ?_;rw[gv,pg,pg,pg,wT];rfl
theorem CS(s:eM)(ai:List ax)(a b:ax):CN 148 [.agg [.d (.eC (fq s.cQ)),.d (.eC (aU ai))],av (cT a),av (cT b)] (bv (Mod.differ ai a b)):=by
 refine gS 28 [.tmp 6] hm Tryz.func148 fun hl he cf=>?_;refine aC [] (e9 ai a) ?_;refine aC [] (e9 ai b) ?_;refine iK ?_;rcases aa (0≤b8 ai a) with h1|h1
 ·rcases aa (0≤b8 ai b) with h2|h2;refine uJ ?_;refine gZ ?_;simp only[Mod.differ,h1,h2,decide_true,aA];simp;refine uJ ?_;refine gZ ?_;all_goals(simp[Mod.differ,h1,h2];done)
 refine uA ?_;refine gZ ?_;all_goals(simp[Mod.differ,h1];done)
theorem MU(c:eJ):CN 145 [av (iL c),bv true,bv true,bv false,bv false,iv 0] (bv (bare c true true false false 0)):=by
 refine gS 57 [.tmp 12] hm Tryz.func145 fun hl he cf=>?_;rcases aa ((c.a8.length:Int)=0) with t0|t0;rotate_left
 ·have t1:¬c.a8=[]:=fun e=>t0 (by rw[e];rfl);simp -implicitDefEqProofs only[go_sem,t0];refine gZ ?_;all_goals(simp[bare,t1];done)
 have t1:c.a8=[]:=dZ.1 oM;have kt:=eq_true t0;simp -implicitDefEqProofs only[go_sem,kt];refine aC [] (gW c.A) ?_;cases pA:isNone c.A
 ·refine sA ?_;refine gZ ?_;all_goals(simp[bare,pA];done)
 refine sA ?_;refine aC [] (gW c.B) ?_;cases pB:isNone c.B
 ·refine sA ?_;refine gZ ?_;all_goals(simp[bare,pB];done)
 refine sA ?_;have e:decide ((c.ar.length:Int)=0)=decide (c.ar.length=0):=decide_eq_decide.2 oM;refine gZ ?_;have eb:bare c true true false false 0=decide (c.ar.length=0):=by simp[bare,t1,pA,pB]
 rw[eb,←e]
theorem M4(c:eJ):CN 145 [av (iL c),bv false,bv false,bv true,bv false,iv 0] (bv (bare c false false true false 0)):=by
 refine gS 57 [.tmp 12] hm Tryz.func145 fun hl he cf=>?_;rcases aa (c.n=0) with n0|n0;rotate_left
 ·simp -implicitDefEqProofs only[go_sem,n0];refine gZ ?_;all_goals(simp[bare,n0];done)
 have kn:=eq_true n0;simp -implicitDefEqProofs only[go_sem,kn];refine aC [] (vd c.tq wv) ?_;rcases aa (c.tq=wv) with hw|hw;rotate_left
 ·simp -implicitDefEqProofs only[go_sem,hw];refine gZ ?_;all_goals(simp[bare,hw];done)
 have kw:=eq_true hw;simp -implicitDefEqProofs only[go_sem,kw];refine aC [] (gW c.A) ?_;cases pA:isNone c.A
 ·refine sA ?_;refine gZ ?_;all_goals(simp[bare,pA];done)
 refine sA ?_;refine aC [] (gW c.B) ?_;cases pB:isNone c.B
 ·refine sA ?_;refine gZ ?_;all_goals(simp[bare,pB];done)
 refine sA ?_;have e:decide ((c.ar.length:Int)=0)=decide (c.ar.length=0):=decide_eq_decide.2 oM;refine gZ ?_;have eb:bare c false false true false 0=decide (c.ar.length=0):=by simp[bare,n0,hw,pA,pB]
 rw[eb,←e]
theorem Nn(c:eJ):CN 145 [av (iL c),bv false,bv true,bv false,bv false,iv 1] (bv (bare c false true false false 1)):=by
 refine gS 57 [.tmp 12] hm Tryz.func145 fun hl he cf=>?_;rcases aa (c.n=0) with n0|n0;rotate_left
 ·simp -implicitDefEqProofs only[go_sem,n0];refine gZ ?_;all_goals(simp[bare,n0];done)
 have kn:=eq_true n0;simp -implicitDefEqProofs only[go_sem,kn];rcases aa ((c.a8.length:Int)=0) with t0|t0;rotate_left
 ·have t1:¬c.a8=[]:=fun e=>t0 (by rw[e];rfl);simp -implicitDefEqProofs only[go_sem,t0];refine gZ ?_;all_goals(simp[bare,t1];done)
 have t1:c.a8=[]:=dZ.1 oM;have kt:=eq_true t0;simp -implicitDefEqProofs only[go_sem,kt];refine aC [] (gW c.A) ?_;cases pA:isNone c.A
 ·refine sA ?_;refine gZ ?_;all_goals(simp[bare,pA];done)
 refine sA ?_;refine aC [] (gW c.B) ?_;cases pB:isNone c.B
 ·refine sA ?_;refine gZ ?_;all_goals(simp[bare,pB];done)
 refine sA ?_;have e:decide ((c.ar.length:Int)=1)=decide (c.ar.length=1):=decide_eq_decide.2 oM;refine gZ ?_;have eb:bare c false true false false 1=decide (c.ar.length=1):=by simp[bare,n0,t1,pA,pB]
 rw[eb,←e]
theorem MW(c:eJ):CN 145 [av (iL c),bv false,bv false,bv false,bv true,iv 3] (bv (bare c false false false true 3)):=by
 refine gS 57 [.tmp 12] hm Tryz.func145 fun hl he cf=>?_;rcases aa (c.n=0) with n0|n0;rotate_left
 ·simp -implicitDefEqProofs only[go_sem,n0];refine gZ ?_;all_goals(simp[bare,n0];done)
 have kn:=eq_true n0;simp -implicitDefEqProofs only[go_sem,kn];refine aC [] (vd c.tq wv) ?_;rcases aa (c.tq=wv) with hw|hw;rotate_left
 ·simp -implicitDefEqProofs only[go_sem,hw];refine gZ ?_;all_goals(simp[bare,hw];done)
 have kw:=eq_true hw;simp -implicitDefEqProofs only[go_sem,kw];rcases aa ((c.a8.length:Int)=0) with t0|t0;rotate_left
 ·have t1:¬c.a8=[]:=fun e=>t0 (by rw[e];rfl);simp -implicitDefEqProofs only[go_sem,t0];refine gZ ?_;all_goals(simp[bare,t1];done)
 have t1:c.a8=[]:=dZ.1 oM;have kt:=eq_true t0;simp -implicitDefEqProofs only[go_sem,kt];have e:decide ((c.ar.length:Int)=3)=decide (c.ar.length=3):=decide_eq_decide.2 oM;refine gZ ?_;have eb:bare c false false false true 3=decide (c.ar.length=3):=by simp[bare,n0,hw,t1]
 rw[eb,←e]
theorem zR(s:eM)(t:ax):CN 108 [av (cT t),.ib [eP s] 0 0] (bv (!eQ s t)):=by refine gS 8 [.tmp 3] hm Tryz.func108 fun hl he cf=>?_;refine aC [] (zG s t) ?_;refine fD ?_;exact sC
theorem X8{a:List ax}{i:Nat}(h:i<a.length)(v:ax):(aU a).set i (wm (row (aU a) i) 0 (cT v))=aU (a.set i v):=by
 have e:wm (row (aU a) i) 0 (cT v)=cT v:=by rw[Gi h];simp[wm,cT]
 rw[e,nb,nb,List.map_set]
theorem LP{p:ax→Bool}:∀{xs:List ax}{i:Int},0≤i→(fj p xs i = -1∧xs.filter (fun t=>!p t)=xs)∨∃j:Nat,fj p xs i=i+j∧j<xs.length∧(xs.take (j+1)).filter (fun t=>!p t)=xs.take j
 | [],i,_=>.inl (by simp[fj])
 | x::xs,i,h=>by
  simp only[fj];cases hx:p x with
  | true=>refine .inr ⟨0,?_,by simp,by simp[hx]⟩;simp
  | false=>simp only[au,if_false];rcases LP (p:=p) (xs:=xs) (i:=i+1) oM with⟨h1,h2⟩|⟨j,h1,h2,h3⟩;exact .inl ⟨h1,by simp[hx,h2]⟩;refine .inr ⟨j+1,by rw[h1];omega,by simp;omega,?_⟩;rw[dv,fP,dv,h3];simp[hx]
theorem Ed(s:eM)(xs:List ax)(hl1:xs.length≤10000):C E.P 107 [.aX 0,.fn 108 [.bA 1 0]] [some (.aX 32 (aU xs)),some (.box (dm (eP s)))] (jF (lv (aU (xs.filter (eQ s)))) [some .dead,some (.box (dm (eP s)))]):=by
 have cf:LB=1099511627776:=rfl;refine Ic (nt:=42) (rs:=[.tmp 4]) Tryz.func107 rfl rfl rfl rfl rfl (fun hl he=>?_);simp -implicitDefEqProofs only[go_sem] at hl he⊢;refine fE (jm hm ?_);simp -implicitDefEqProofs only[go_sem,e6,eX];refine fE (jm hm ?_);refine sA ?_;refine AQ [] [0,1] (rH 108 [.ib [eP s] 0 0] rfl (fun t=>!eQ s t) xs (fun t _=>zR s t)) ?_;simp -implicitDefEqProofs only[go_sem,e6,eX];rcases LP (p:=fun t=>!eQ s t) (xs:=xs) (i:=0) oM with⟨h1,h2⟩|⟨j0,h1,h2,h3⟩
 ·have e:idxOf (fun t=>!eQ s t) xs = -1:=h1;rw[e];refine fE (jm hm ?_);simp -implicitDefEqProofs only[go_sem,e6,zu];refine⟨_,GG 4 0 32 (aU xs) rfl rfl,?_⟩;have e2:xs.filter (eQ s)=xs:=(by simpa using h2);rw[e2];refine bX kR ?_ rfl rfl;refine sA ?_;all_goals simp
 have e:idxOf (fun t=>!eQ s t) xs=(j0:Int):=by rw[idxOf,h1];omega
 rw[e];have n1:¬ (j0:Int) = -1:=oM;refine fE (jm hm ?_);simp -implicitDefEqProofs only[go_sem,e6,eX,n1];refine fE (jm hm ?_);refine bt ?_;refine n6 hm (fun(i:Nat) (j:Nat) (a:List ax)=> i≤j∧j≤xs.length∧a.length=xs.length∧a.take i=(xs.take j).filter (eQ s)∧a.drop j=xs.drop j) (fun i j a=> ⟨dN 42 .any [(0,.aX 0),(1,.fn 108 [.bA 1 0]),(5,iv i),(6,iv j)],[some (.aX 32 (aU a)),some (.box (dm (eP s)))]⟩) (fun i j a=> xs.length-j) (j0) (j0+1) (xs) ?_ (cM kR) ?_;exact⟨oM,oM,rfl,by simpa using h3.symm,rfl⟩;rintro i j a ⟨hij,hj,hal,ht,hd⟩;rcases aa (j<xs.length) with h1|h1
 ·have h1a:j<a.length:=oM;have hia:i<a.length:=oM;have hx:a[j]=xs[j]:=(by have h4:(a.drop j)[0]?=(xs.drop j)[0]?:=(by rw[hd]);simpa[h1,h1a] using h4);have hf:(xs.take (j+1)).filter (eQ s)=(xs.take j).filter (eQ s)++(if eQ s xs[j] then [xs[j]] else []):=(by rw[bz,af h1,List.filter_append];congr 1;simp[fP]);simp -implicitDefEqProofs only[go_sem,h1a];refine qj [.bA 1 0] [1] (zR s a[j]) rfl ?_ ?_ ?_;exact sV;all_goals simp -implicitDefEqProofs only[go_sem]
  rw[hx];cases h4:eQ s xs[j];rw[h4] at hf;refine sA ?_;refine an oM ?_;refine⟨i,j+1,a,?_,sL,cM kR⟩;refine⟨oM,oM,hal,by rw[hf,ht];simp,?_⟩;have h5:=congrArg (fB 1) hd;simpa[kH] using h5;rw[h4] at hf;simp -implicitDefEqProofs only[go_sem,hia];have hset:(aU a).set i (wm [D.str a[i].name,D.eC (aU a[i].ar)] 0 [D.str xs[j].name,D.eC (aU xs[j].ar)])=aU (a.set i xs[j]):=(by have h5:=X8 hia xs[j];rw[Gi hia] at h5;exact h5);refine an oM (an oM ?_);refine⟨i+1,j+1,a.set i xs[j],?_,sL,cM kR⟩;refine⟨oM,oM,by simp[hal],?_,?_⟩;rw[hf,←ht,bz];simp[hia,List.take_set_of_le];have h5:=congrArg (fB 1) hd;rw[List.drop_set_of_lt oM];simpa[kH] using h5
 refine iI h1 hal ?_;simp only[e6,eX];have hjn:j=xs.length:=oM;refine fE (pR ?_);refine wR (IJ.plain rfl (ET _)) (wR (IJ.plain rfl (ET _)) ?_);refine sA ?_;refine abj (t:=30) (e:=32) (k:=0) (m:=(i:Int)) (xs:=aU a) [.str [],.eC []] _ _ rfl rfl rfl rfl ?_ ?_ ?_ oM (by rw[uZ];omega) ?_ ?_;exact sC;exact sC;exact sC;simp only[B3];omega;refine xp ?_;simp -implicitDefEqProofs only[go_sem,eX];refine jm hm ?_;refine sA ?_;refine gm (WN (.tmp 39) (.tmp 40) 30 32 0 _ _ (Rv [.str [],.eC []] (aU a) i) (i:Int) rfl rfl rfl ?_ ?_ ?_ oM (by rw[Xg _ _ _ (by rw[uZ];omega),uZ];omega)) ?_;exact sC;exact sC;exact sC;simp -implicitDefEqProofs only[go_sem,e6];refine fI ?_;refine bX kR ?_ rfl rfl;refine sA ?_;rw[S4 _ _ _ (by rw[uZ];omega),Uk,ht,hjn,List.take_length]
theorem xl(s:eM)(ab:List bL)(hl1:ab.length≤100)(hw:∀l∈ab,dq l.aN=true):CN 57 [av (eP s),lv (bh ab)] (lv (aU (aG s ab))):=by
 have hn:(aL ab).length≤10000:=by obtain⟨hle,fy⟩:=kp hw;have h1:=tJ (fO ab) [] fy;rw[nI,mC fy];simp only[List.length_nil] at h1;omega
 have e:(aL ab).filter (eQ s)=aG s ab:=rfl;refine gS 9 [.tmp 4] hm Tryz.func57 fun hl he cf=>?_;refine oC [] [1] (Bs ab hl1 hw) ?_;have hcall:=Ed s (aL ab) hn;rw[e] at hcall;refine lx [] [1,0] hcall ?_ ?_;refine sA ?_;rfl;refine sA ?_;refine fD ?_;exact sC
theorem xx(s:eM)(ab:List bL):CN 52 [av (eP s),lv (bh ab)] (bv (gn s ab)):=by
 refine gS 38 [.tmp 4] hm Tryz.func52 fun hl he cf=>?_;refine aC [] (pj s) ?_;cases h1:gC s
 ·refine sA ?_;refine gZ ?_;all_goals(simp[gn,h1];done)
 refine sA ?_;rcases aa ((6:Int)<(ab.length:Int)) with h2|h2
 ·have h2':¬ab.length≤6:=oM;refine uB ?_;refine gZ ?_;all_goals(simp[gn,h2'];done)
 have h2':ab.length≤6:=oM;refine uB ?_;refine cS hm (fun(i:Nat)=> i≤ab.length∧ab.all (fun l=>gr s l.aN)=(ab.drop i).all (fun l=>gr s l.aN)) (fun(i:Nat)=> ⟨dN 38 .any [(1,lv (bh ab)),(2,.bA 0 0),(15,lv (bh ab)),(16,iv ab.length),(17,iv i)],[some (.box (dm (eP s)))]⟩) (fun(i:Nat)=> ab.length-i) (0) ?_ (aZ fe ?_ ?_ rfl rfl) ?_;rotate_left;exact sC;exact sC;rotate_left;simp;rintro i ⟨hi,hg⟩;rcases aa (i<ab.length) with h3|h3
 ·rw[ae h3,List.all_cons] at hg;refine uC ?_;refine aC [] (Cs s ab[i].aN) ?_;cases h4:gr s ab[i].aN
  ·rw[h4,aI] at hg;refine sA ?_;refine gZ ?_;all_goals(simp[gn,hg];done)
  rw[h4,aA] at hg;refine sA ?_;refine sQ ?_;refine⟨i+1,?_,sL,aZ fe ?_ ?_ rfl rfl⟩;rotate_left;exact sC;exact sC;exact⟨oM,hg⟩
 rw[ak oM,List.all_nil] at hg;have hw:∀l∈ab,dq l.aN=true:=by intro l hl;have:=List.all_eq_true.1 hg l hl;simp only[gr,ah] at this;exact this.2.1
 refine uC ?_;refine oC [] [1] (Bs ab oM hw) ?_;rcases aa (((aL ab).length:Int)≤24) with h5|h5;have h5':(aL ab).length≤24:=oM;refine uE ?_;refine aC [] (xl s ab oM hw) ?_;refine gZ ?_;have e:decide (((aG s ab).length:Int)≤4)=decide ((aG s ab).length≤4):=decide_eq_decide.2 oM;simp[gn,h1,h2',hg,h5',e];have h5':¬ (aL ab).length≤24:=oM;refine uE ?_;refine gZ ?_;all_goals(simp[gn,h5'];done)
theorem Nh(s:eM)(ai:List ax)(hn4:ai.length≤4)(hnt:∀t∈ai,bG t=true)(c:eJ)(ih:∀k∈c.ar,∀(ab:List bL)(bn:Nat),1≤bn→bn≤15→ab.length+(15-bn)≤30→(∀l∈ab,Fit ai l)→CN 73 [.agg [.d (.eC (fq s.cQ)),.d (.eC (aU ai))],lv (bh ab),av (iL k),iv bn] (bv (jA s ai k ab bn)))
 (ab:List bL) (bn:Nat) (Kp:1≤bn) (hd:bn≤14) (hll:ab.length+(15-bn)≤30) (hf:∀l∈ab,Fit ai l) (k:c.kind=1) :
 CN 73 [.agg [.d (.eC (fq s.cQ)),.d (.eC (aU ai))],lv (bh ab),av (iL c),iv bn] (bv (jA s ai c ab bn)):=by
 have hx:=u6 s ai c ab bn
 rw[if_neg oM] at hx
 have x1:¬ (14:Int)<(bn:Int):=oM
 refine gS 169 [.tmp 8] hm Tryz.func73 fun hl he cf=>?_
 rw[if_pos k] at hx
 simp -implicitDefEqProofs only[go_sem,x1,k]
 refine dy [] (MU c) ?_ ?_<;>simp -implicitDefEqProofs only[go_sem,k]
 cases hb:bare c true true false false 0
 ·rw[hb,aI] at hx
  refine sA ?_
  refine gZ ?_
  all_goals(simp[hx];done)
 ·rw[hb,aA] at hx
  refine sA ?_
  refine sQ ?_
  refine aC [] (fQ c.n 0 ((ab.length:Int)-1)) ?_
  cases hw:cK c.n 0 (ab.length-1)
  ·rw[hw,aI] at hx
   refine sA ?_
   refine gZ ?_
   all_goals(simp[hx];done)
  ·have hw':=dB.1 hw
   have n0:0≤c.n:=hw'.1
   have nS:c.n.toNat<ab.length:=oM
   rw[hw,aA,af nS] at hx
   simp -implicitDefEqProofs only[go_sem,n0,nS]
   refine aC [] (zC ab oM) ?_
   refine aC [] (zQ s (br ab) c.tq) ?_
   refine iK ?_
   cases hq:mc s (br ab) c.tq with
   | none=>rw[hq] at hx;simp only at hx;simp -implicitDefEqProofs only[go_sem,lR];refine fD ?_;simp -implicitDefEqProofs only[go_sem];all_goals(simp[hx];done)
   | some q=>
    rw[hq] at hx;simp only at hx;refine uL ?_;cases h6:ab[c.n.toNat].no
    ·rw[h6,aI] at hx;simp -implicitDefEqProofs only[go_sem];refine gZ ?_;all_goals(simp[hx];done)
    rw[h6,aA] at hx;rcases aa (ab[c.n.toNat].aN.kind=1) with h7|h7
    ·have k7:=eq_true h7;have hc1:=gV q.A ab[c.n.toNat].aN.A;have hc2:=gV q.B ab[c.n.toNat].aN.B;simp only[k7,decide_true,aA] at hx;simp -implicitDefEqProofs only[go_sem,k7];refine aC [] hc1 ?_;rcases aa (q.A=ab[c.n.toNat].aN.A) with h8|h8
     ·have k8:=eq_true h8;simp only[k8,decide_true,aA] at hx;simp -implicitDefEqProofs only[go_sem,k8];refine aC [] hc2 ?_;refine gZ ?_;all_goals(simp[hx];done)
     have k8:=eq_false h8;simp only[k8,decide_false,aI] at hx;simp -implicitDefEqProofs only[go_sem,k8];refine gZ ?_;all_goals(simp[hx];done)
    have k7:=eq_false h7;simp only[k7,decide_false,aI] at hx;simp -implicitDefEqProofs only[go_sem,k7];refine gZ ?_;all_goals(simp[hx];done)
theorem MS(s:eM)(ai:List ax)(hn4:ai.length≤4)(hnt:∀t∈ai,bG t=true)(c:eJ)(ih:∀k∈c.ar,∀(ab:List bL)(bn:Nat),1≤bn→bn≤15→ab.length+(15-bn)≤30→(∀l∈ab,Fit ai l)→CN 73 [.agg [.d (.eC (fq s.cQ)),.d (.eC (aU ai))],lv (bh ab),av (iL k),iv bn] (bv (jA s ai k ab bn)))
 (ab:List bL) (bn:Nat) (Kp:1≤bn) (hd:bn≤14) (hll:ab.length+(15-bn)≤30) (hf:∀l∈ab,Fit ai l) (k:c.kind=2) :
 CN 73 [.agg [.d (.eC (fq s.cQ)),.d (.eC (aU ai))],lv (bh ab),av (iL c),iv bn] (bv (jA s ai c ab bn)):=by
 have hx:=u6 s ai c ab bn
 rw[if_neg oM] at hx
 have x1:¬ (14:Int)<(bn:Int):=oM
 refine gS 169 [.tmp 8] hm Tryz.func73 fun hl he cf=>?_
 rw[if_neg oM,if_pos k] at hx
 simp -implicitDefEqProofs only[go_sem,Z1,x1,k]
 refine dy [] (M4 c) ?_ ?_<;>simp -implicitDefEqProofs only[go_sem,k]
 cases hb:bare c false false true false 0
 ·rw[hb,aI] at hx
  refine sA ?_
  refine iK ?_
  refine gZ ?_
  all_goals(simp[hx];done)
 ·rw[hb,aA] at hx
  refine sA ?_
  refine aC [] (C3 ai ab hn4 oM hf) ?_
  refine aC [] (Fb (fN ai ab) c.a8) ?_
  refine iK ?_
  refine gZ ?_
  all_goals(simp[hx];done)
theorem IK(s:eM)(ai:List ax)(hn4:ai.length≤4)(hnt:∀t∈ai,bG t=true)(c:eJ)(ih:∀k∈c.ar,∀(ab:List bL)(bn:Nat),1≤bn→bn≤15→ab.length+(15-bn)≤30→(∀l∈ab,Fit ai l)→CN 73 [.agg [.d (.eC (fq s.cQ)),.d (.eC (aU ai))],lv (bh ab),av (iL k),iv bn] (bv (jA s ai k ab bn)))
 (ab:List bL) (bn:Nat) (Kp:1≤bn) (hd:bn≤14) (hll:ab.length+(15-bn)≤30) (hf:∀l∈ab,Fit ai l) (k:c.kind=3) :
 CN 73 [.agg [.d (.eC (fq s.cQ)),.d (.eC (aU ai))],lv (bh ab),av (iL c),iv bn] (bv (jA s ai c ab bn)):=by
 have hx:=u6 s ai c ab bn
 rw[if_neg oM] at hx
 have x1:¬ (14:Int)<(bn:Int):=oM
 refine gS 169 [.tmp 8] hm Tryz.func73 fun hl he cf=>?_
 rw[if_neg oM,if_neg oM,if_pos k] at hx
 simp -implicitDefEqProofs only[go_sem,Z1,x1,k]
 refine dy [] (Nn c) ?_ ?_<;>simp -implicitDefEqProofs only[go_sem,k]
 cases hb:bare c false true false false 1
 ·rw[hb,aI] at hx
  refine sA ?_
  refine gZ ?_
  all_goals(simp[hx];done)
 ·have z':c.ar.length=1:=by
   simp only[bare,ah,decide_eq_true_eq] at hb
   exact hb.2.2.2.2
  have z0:0<c.ar.length:=oM
  rw[hb,aA] at hx
  refine sA ?_
  refine aC [] (zC ab oM) ?_
  refine aC [] (zQ s (br ab) c.tq) ?_
  refine iK ?_
  cases hq:mc s (br ab) c.tq with
  | none=>rw[hq] at hx;simp only at hx;simp -implicitDefEqProofs only[go_sem,lR];refine iK ?_;refine fD ?_;simp -implicitDefEqProofs only[go_sem];all_goals(simp[hx];done)
  | some q=>
   rw[hq] at hx;simp only at hx;refine uL ?_;refine aC [] (CS s ai q.A q.B) ?_;cases h8:Mod.differ ai q.A q.B
   ·rw[h8,aI] at hx;simp -implicitDefEqProofs only[go_sem];refine iK ?_;refine gZ ?_;all_goals(simp[hx];done)
   have hdf:=rJ.1 h8;have hi:=ih c.ar[0] (aj z0) (ab++[jf q.A q.B]) (bn+1) oM oM (by simp;omega) (fun l hl=>by
    rcases aO.1 hl with hl|hl
    ·exact hf l hl
    ·simp only[az,bf,or_false] at hl
     rw[hl]
     exact K6 hdf.1 hdf.2.1 (hnt _ hdf.1) (hnt _ hdf.2.1))
   rw[h8,aA,Zi s ai c.ar[0] c.ar _ _ (af2 z' z0)] at hx;refine sA ?_;refine aC [] (yV q.A q.B) ?_;refine dy [] (zA ab (jf q.A q.B) oM) ?_ ?_<;>simp -implicitDefEqProofs only[go_sem,z0];refine sQ ?_;refine aC [] hi ?_;refine iK ?_;refine gZ ?_;all_goals(simp[hx];done)
theorem Qs{s:eM}{ai:List ax}{cs:List eJ}{ls:List (List bL)}{i:Nat}(h:i<cs.length)(h':i<ls.length)(d:Nat):kh s ai (cs.drop i) (ls.drop i) d=(jA s ai cs[i] ls[i] d&&kh s ai (cs.drop (i+1)) (ls.drop (i+1)) d):=by rw[ae h,ae h',kh]
theorem J0(s:eM)(ai:List ax)(hn4:ai.length≤4)(hnt:∀t∈ai,bG t=true)(c:eJ)(ih:∀k∈c.ar,∀(ab:List bL)(bn:Nat),1≤bn→bn≤15→ab.length+(15-bn)≤30→(∀l∈ab,Fit ai l)→CN 73 [.agg [.d (.eC (fq s.cQ)),.d (.eC (aU ai))],lv (bh ab),av (iL k),iv bn] (bv (jA s ai k ab bn)))
 (ab:List bL) (bn:Nat) (Kp:1≤bn) (hd:bn≤14) (hll:ab.length+(15-bn)≤30) (hf:∀l∈ab,Fit ai l) (k:c.kind=4) :
 CN 73 [.agg [.d (.eC (fq s.cQ)),.d (.eC (aU ai))],lv (bh ab),av (iL c),iv bn] (bv (jA s ai c ab bn)):=by
 have hx:=u6 s ai c ab bn
 rw[if_neg oM] at hx
 have x1:¬ (14:Int)<(bn:Int):=oM
 refine gS 169 [.tmp 8] hm Tryz.func73 fun hl he cf=>?_
 rw[if_neg oM,if_neg oM,if_neg oM,if_pos k] at hx
 simp -implicitDefEqProofs only[go_sem,Z1,x1,k]
 refine dy [] (MW c) ?_ ?_<;>simp -implicitDefEqProofs only[go_sem,k]
 cases hb:bare c false false false true 3
 ·rw[hb,aI] at hx
  refine sA ?_
  refine gZ ?_
  all_goals(simp[hx];done)
 ·have z':c.ar.length=3:=by
   simp only[bare,ah,decide_eq_true_eq] at hb
   exact hb.2.2.2.2
  rw[hb,aA] at hx
  refine sA ?_
  refine aC [] (CS s ai c.A c.B) ?_
  cases h8:Mod.differ ai c.A c.B
  ·rw[h8,aI] at hx
   refine sA ?_
   refine gZ ?_
   all_goals(simp[hx];done)
  ·have hdf:=rJ.1 h8
   have tA:=hnt _ hdf.1
   have tB:=hnt _ hdf.2.1
   rw[h8,aA] at hx
   have hfp:∀x∈gv c.A c.B,Fit ai x:=by intro x hx;simp only[gv,az,bf,or_false] at hx;rcases hx with rfl|rfl|rfl;exact K6 hdf.1 hdf.2.1 tA tB;exact AX hdf.1 hdf.2.1 tA tB hdf.2.2;exact AX hdf.2.1 hdf.1 tB tA (Ne.symm hdf.2.2)
   have hc:=CH c.A c.B tA tB
   have hp3:(gv c.A c.B).length=3:=rfl
   generalize gv c.A c.B=ps at *
   refine sA ?_
   refine aC [] hc ?_
   refine cS hm (fun(i:Nat)=> i≤ps.length∧jA s ai c ab bn=kh s ai (c.ar.drop i) ((ps.map fun l=>ab++[l]).drop i) (bn+1)) (fun(i:Nat)=> ⟨dN 169 .any [(1,lv (bh ab)),(3,iv bn),(4,.bA 0 0),(6,.bA 1 0),(148,lv (bh ps)),(149,iv ps.length),(150,iv i)],[some (.box [.d (.eC (fq s.cQ)),.d (.eC (aU ai))]),some (.box (dm (iL c)))]⟩) (fun(i:Nat)=> ps.length-i) (0) ?_ (aZ kR ?_ ?_ rfl rfl) ?_
   rotate_left
   ·exact sC
   ·refine sA ?_
    all_goals(simp[*];done)
   rotate_left
   ·simp[hx]
   ·rintro i ⟨hi,hg⟩
    rcases aa (i<ps.length) with g1|g1
    ·have g2:i<c.ar.length:=oM
     have g3:i<(ps.map fun l=>ab++[l]).length:=by simp;omega
     rw[Qs g2 g3] at hg
     simp only[List.getElem_map] at hg
     have hi1:=ih c.ar[i] (aj g2) (ab++[ps[i]]) (bn+1) oM oM (by simp;omega) (fun l hl=>by rcases aO.1 hl with hl|hl;exact hf l hl;simp only[az,bf,or_false] at hl;rw[hl];exact hfp _ (aj g1))
     refine uI ?_
     refine dy [] (zA ab ps[i] oM) ?_ ?_<;>simp -implicitDefEqProofs only[go_sem,g2]
     refine sQ ?_
     refine aC [] hi1 ?_
     refine iK ?_
     cases q1:jA s ai c.ar[i] (ab++[ps[i]]) (bn+1)
     ·rw[q1,aI] at hg
      refine sA ?_
      refine gZ ?_
      all_goals(simp[hg];done)
     ·rw[q1,aA] at hg
      refine sA ?_
      refine sQ ?_
      refine⟨i+1,?_,sL,aZ kR ?_ ?_ rfl rfl⟩
      rotate_left
      ·exact sC
      ·exact sC
      exact⟨oM,hg⟩
    ·have e0:c.ar.drop i=[]:=ak oM
     have hg:jA s ai c ab bn=true:=by rw[hg,e0];simp[kh]
     refine uI ?_
     refine gZ ?_
     all_goals(simp[hg];done)
theorem Vj(s:eM)(ai:List ax)(hn4:ai.length≤4)(hnt:∀t∈ai,bG t=true)(c:eJ)(ih:∀k∈c.ar,∀(ab:List bL)(bn:Nat),1≤bn→bn≤15→ab.length+(15-bn)≤30→(∀l∈ab,Fit ai l)→CN 73 [.agg [.d (.eC (fq s.cQ)),.d (.eC (aU ai))],lv (bh ab),av (iL k),iv bn] (bv (jA s ai k ab bn)))
 (ab:List bL) (bn:Nat) (Kp:1≤bn) (hd:bn≤15) (hll:ab.length+(15-bn)≤30) (hf:∀l∈ab,Fit ai l) :
 CN 73 [.agg [.d (.eC (fq s.cQ)),.d (.eC (aU ai))],lv (bh ab),av (iL c),iv bn] (bv (jA s ai c ab bn)):=by
 rcases aa (bn=15) with h15|h15
 ·have hx:=u6 s ai c ab bn
  rw[if_pos oM] at hx
  have x1:(14:Int)<(bn:Int):=oM
  refine gS 169 [.tmp 8] hm Tryz.func73 fun hl he cf=>?_
  simp -implicitDefEqProofs only[go_sem,x1]
  refine gZ ?_
  all_goals(simp[hx];done)
 ·have hd':bn≤14:=oM
  rcases aa (c.kind=1) with k1|k1
  ·exact Nh s ai hn4 hnt c ih ab bn Kp hd' hll hf k1
  rcases aa (c.kind=2) with k2|k2
  ·exact MS s ai hn4 hnt c ih ab bn Kp hd' hll hf k2
  rcases aa (c.kind=3) with k3|k3
  ·exact IK s ai hn4 hnt c ih ab bn Kp hd' hll hf k3
  rcases aa (c.kind=4) with k4|k4
  ·exact J0 s ai hn4 hnt c ih ab bn Kp hd' hll hf k4
  ·have hx:=u6 s ai c ab bn
   rw[if_neg oM,if_neg k1,if_neg k2,if_neg k3,if_neg k4] at hx
   have x1:¬ (14:Int)<(bn:Int):=oM
   refine gS 169 [.tmp 8] hm Tryz.func73 fun hl he cf=>?_
   simp -implicitDefEqProofs only[go_sem,x1,k1,k2,k3,k4]
   refine gZ ?_
   all_goals(simp[hx];done)
theorem Zj(s:eM)(ai:List ax)(hn4:ai.length≤4)(hnt:∀t∈ai,bG t=true):∀(c:eJ)(ab:List bL)(bn:Nat),1≤bn→bn≤15→ab.length+(15-bn)≤30→(∀l∈ab,Fit ai l)→CN 73 [.agg [.d (.eC (fq s.cQ)),.d (.eC (aU ai))],lv (bh ab),av (iL c),iv bn] (bv (jA s ai c ab bn)):=
 eJ.ind fun k n w ts a b ks ih ab bn h1 h2 h3 h4=>Vj s ai hn4 hnt (.mk k n w ts a b ks) ih ab bn h1 h2 h3 h4
theorem Np(s:eM)(ab:List bL)(c:eJ):CN 38 [av (eP s),lv (bh ab),av (iL c)] (bv (xk s ab c)):=by
 refine gS 20 [.tmp 6] hm Tryz.func38 fun hl he cf=>?_;refine aC [] (xx s ab) ?_;cases h:gn s ab
 ·refine sA ?_;refine iK ?_;refine gZ ?_;all_goals(simp[xk,h];done)
 obtain⟨hf,ht,h4,h6,hs,hw,htt,h24⟩:=xS h;have hc:=Zj s (aG s ab) h4 ht c ab 1 oM oM oM hf;refine sA ?_;refine aC [] (xl s ab oM hw) ?_;refine dy [] hc ?_ ?_<;>simp -implicitDefEqProofs only[go_sem,Ab];refine iK ?_;refine gZ ?_;rw[xk,h];simp
end Go.Proofs.YtphcpjhkeipggaaGreat
