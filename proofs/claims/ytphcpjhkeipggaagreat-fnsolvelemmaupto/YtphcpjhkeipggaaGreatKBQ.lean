/-
  The reference: the walks of constraints and their certificates. A step towards the exact laws.
-/
import Derived.Test.YtphcpjhkeipggaaGreatKBI
set_option linter.unusedVariables false
set_option linter.unusedSimpArgs false
open Int renaming reduceEq→Z1,reduceLT→Z2,reduceLE→Z3,reduceToNat→Z4
open And renaming intro→an
open Bool renaming true_and→aA,false_and→aI
open Classical renaming em→aa
open List renaming drop_eq_getElem_cons→ae,getElem_mem→aj,drop_of_length_le→ak,take_of_length_le→aq,all_cons→cC,all_nil→eU
namespace Go.Proofs.YtphcpjhkeipggaaGreat
open Go.Eng Go.Mod
set_option maxRecDepth 100000
set_option maxHeartbeats 3200000
theorem Bk(n:Int):CN 342 [iv n] (bv (ql n)):=by have cf:=qq;refine vE (nt:=9) (rs:=[.tmp 2]) hm Tryz.func342 rfl rfl rfl rfl rfl (fun hl he=>?_);simp -implicitDefEqProofs only[go_sem] at hl⊢;rcases aa (-1000000≤n) with h|h;refine du h ?_;simp[ql,cK,h];refine du h ?_;simp[ql,cK,h]
theorem jq(l:j8):CN 299 [av (gY l)] (bv (fF l)):=by
 have cf:=qq;refine vE (nt:=27) (rs:=[.tmp 2]) hm Tryz.func299 rfl rfl rfl rfl rfl (fun hl he=>?_);simp -implicitDefEqProofs only[go_sem] at hl⊢;refine kC hm l.aW.length (fun(i:Nat)=>l.aW.all ql=(l.aW.drop i).all ql) (fun i=>⟨dN 27 .any [(1,.bA 0 0),(3,iv i)],[some (.box (dm (gY l)))]⟩) ?_ (cM fe) ?_;simp;rintro i ⟨hi,hg⟩;rcases aa (i<l.aW.length) with h1|h1
 ·rw[ae h1,cC] at hg;refine bH h1 ?_;refine dy [] (Bk l.aW[i]) ?_ ?_<;>simp -implicitDefEqProofs only[go_sem];cases h2:ql l.aW[i];rw[h2,aI] at hg;have e:fF l=false:=(by simp[fF,hg]);exact dD e;rw[h2,aA] at hg;simp -implicitDefEqProofs only[go_sem];repeat(with_reducible apply an;case left=>omega)
  exact⟨i+1,⟨oM,hg⟩,sL,cM fe⟩
 rw[ak oM,eU] at hg;rcases aa ((l.aW.length:Int)=4) with h3|h3;have h3':l.aW.length=4:=oM;have k3:=eq_true h3;refine iI h1 k3 ?_;refine dy [] (Bk l.bj) ?_ ?_<;>simp -implicitDefEqProofs only[go_sem];refine bt ?_;simp[fF,hg,h3'];have h3':¬l.aW.length=4:=oM;refine oH h1 h3 ?_;simp[fF,hg,h3']
theorem NC(l:j8):CN 298 [av (gY l)] (av (gY (tV l))):=by
 have cf:=qq;refine vE (nt:=35) (rs:=[.cell 2 256]) hm Tryz.func298 rfl rfl rfl rfl rfl (fun hl he=>?_);simp -implicitDefEqProofs only[go_sem] at hl⊢;refine dy [] (jq l) ?_ ?_<;>simp -implicitDefEqProofs only[go_sem];cases h:fF l;refine bt ?_;simp[tV,h];obtain⟨h4,hc,hb⟩:=iM.1 h;have e:tV l=⟨l.aW.map fun c=>-c,-l.bj,!l.bJ⟩:=by simp[tV,h]
 simp -implicitDefEqProofs only[go_sem];repeat(with_reducible apply an;case left=>omega)
 refine jr hm l.aW.length (fun i=>⟨dN 35 .any [(1,.bA 0 0),(2,.bA 1 0),(3,.bA 2 0),(4,iv i)],[some (.box (dm (gY l))),some (.box (dm (gY qo))),some (.box [.aX 3,.d (.val (.int .i64 (-l.bj))),.d (.val (.bool (!l.bJ)))]),some (.aX 3 (bm ((l.aW.take i).map fun c=>-c)))]⟩) (cM [some 0,some 1,some 2,none]) ?_;rintro i hi;rcases aa (i<l.aW.length) with h1|h1;have hn:=hc l.aW[i] (aj h1);refine du h1 ?_;exact⟨i+1,h1,sL,aZ [some 0,some 1,some 2,some 4] (by simp -implicitDefEqProofs only[go_sem]) (by simp -implicitDefEqProofs only[go_sem];(rw[List.take_add_one,List.getElem?_eq_getElem h1,List.map_append,←iO];rfl)) rfl rfl⟩;refine du h1 ?_;rw[aq oM,e];simp[]
theorem LV(l:j8):CN 345 [av (gY l)] (bv (flat l)):=by
 have cf:=qq;refine vE (nt:=17) (rs:=[.tmp 2]) hm Tryz.func345 rfl rfl rfl rfl rfl (fun hl he=>?_);simp -implicitDefEqProofs only[go_sem] at hl⊢;refine kC hm l.aW.length (fun(i:Nat)=>flat l=(l.aW.drop i).all (fun c=>decide (c=0))) (fun i=>⟨dN 17 .any [(1,.bA 0 0),(3,iv i)],[some (.box (dm (gY l)))]⟩) ?_ (cM fe) ?_;simp[flat];rintro i ⟨hi,hg⟩;rcases aa (i<l.aW.length) with h1|h1
 ·rw[ae h1,cC] at hg;refine bH h1 ?_;rcases aa (l.aW[i]=0) with h2|h2
  ·have k:=eq_true h2;simp only[k,decide_true,aA] at hg;refine bH k ?_;repeat(with_reducible apply an;case left=>omega)
   exact⟨i+1,⟨oM,hg⟩,sL,cM fe⟩
  have k:=eq_false h2;simp only[k,decide_false,aI] at hg;exact gG k hg
 rw[ak oM,eU] at hg;exact gG h1 hg
theorem Cp(l:j8):CN 301 [av (gY l)] (bv (lM l)):=by have cf:=qq;refine vE (nt:=23) (rs:=[.tmp 2]) hm Tryz.func301 rfl rfl rfl rfl rfl (fun hl he=>?_);simp -implicitDefEqProofs only[go_sem] at hl⊢;refine dy [] (jq l) ?_ ?_<;>simp -implicitDefEqProofs only[go_sem];cases h:fF l;simp -implicitDefEqProofs only[go_sem];refine fD ?_;simp -implicitDefEqProofs only[go_sem];simp[lM,h];simp -implicitDefEqProofs only[go_sem];refine dy [] (LV l) ?_ ?_<;>simp -implicitDefEqProofs only[go_sem];cases h0:flat l;refine bt ?_;simp[lM,h,h0];simp -implicitDefEqProofs only[go_sem];rcases aa (l.bj<0) with h1|h1;refine du h1 ?_;simp[lM,h,h0,h1];rcases aa (l.bj=0) with h2|h2;have k:=eq_true h2;refine oH h1 k ?_;simp[lM,h,h0,h2];refine iI h1 h2 ?_;refine fD ?_;simp -implicitDefEqProofs only[go_sem];simp[lM,h,h0,h1,h2]
theorem Fx(a:j8)(m:Int)(b:j8)(n:Int)(g1:fF a=true)(g2:fF b=true)(h5:0≤m∧m≤1000000)(h6:0≤n∧n≤1000000):CN 344 [av (gY a),iv m,av (gY b),iv n] (.iZ [av (gY (nO a m b n).1),bv (nO a m b n).2]):=by
 obtain⟨hn1,hc1,hb1⟩:=iM.1 g1;obtain⟨hn2,hc2,hb2⟩:=iM.1 g2;have p1:=gh h5.1 h5.2 hb1;have p2:=gh h6.1 h6.2 hb2;have cf:=qq;refine vE (nt:=65) (rs:=[.cell 8 256,.tmp 9]) hm Tryz.func344 rfl rfl rfl rfl rfl (fun hl he=>?_);simp -implicitDefEqProofs only[go_sem] at hl⊢;rcases aa (0<m) with t1|t1
 ·cases t2:a.bJ
  ·rcases aa (0<n) with t3|t3
   ·refine iI t1 t3 ?_;repeat(with_reducible apply an;case left=>omega)
    refine jr hm a.aW.length (fun i=>⟨dN 65 .any [(1,iv m),(3,iv n),(4,.bA 0 0),(6,.bA 1 0),(8,.bA 2 0),(10,.bA 3 0),(11,iv i)],[some (.box (dm (gY a))),some (.box (dm (gY b))),some (.box (dm (gY qo))),some (.box [.aX 4,.d (.val (.int .i64 (m*a.bj+n*b.bj))),.d (.val (.bool b.bJ))]),some (.aX 3 (bm (iC m n (a.aW.take i) (b.aW.take i))))]⟩) (aZ [some 0,some 1,some 2,some 3,none] (by simp -implicitDefEqProofs only[go_sem]) (by simp -implicitDefEqProofs only[go_sem];simp[iC, *]) rfl rfl) ?_;rintro i hi;rcases aa (i<a.aW.length) with h1|h1;have h2:i<b.aW.length:=oM;have h3:(i:Int)<4:=oM;have q1:=gh h5.1 h5.2 (hc1 a.aW[i] (aj h1));have q2:=gh h6.1 h6.2 (hc2 b.aW[i] (aj h2));have eO:(iC m n (a.aW.take i) (b.aW.take i)).length≤4:=(by rw[pW (by simp;omega)];simp;omega);refine gL h3 h1 h2 ?_;exact⟨i+1,h1,sL,aZ [some 0,some 1,some 2,some 3,some 5] (by simp -implicitDefEqProofs only[go_sem]) (by simp -implicitDefEqProofs only[go_sem];(rw[lB h1 h2,←iO];rfl)) rfl rfl⟩;have h3:¬ (i:Int)<4:=oM;rw[aq oM,aq oM];have e2:mG a m b n=⟨iC m n a.aW b.aW,m*a.bj+n*b.bj,b.bJ⟩:=(by simp[mG, *]);refine bH h3 ?_;refine qj [] [4] (jq ⟨iC m n a.aW b.aW,m*a.bj+n*b.bj,b.bJ⟩) rfl ?_ ?_ ?_
    ·(simp -implicitDefEqProofs only[go_sem];repeat'(first|exact wq.nil|apply wq.cons|exact Vw.same (by first|rfl|simp -implicitDefEqProofs only[go_sem,Z1,Z2,Z3,Z4])|exact Vw.aX rfl rfl|exact Vw.gD rfl rfl (by simp -implicitDefEqProofs only[go_sem,Z1,Z2,Z3,Z4])|exact Vw.nil|apply Vw.agg|apply Vw.fn|refine Vw.box rfl rfl ?_))
    (all_goals simp -implicitDefEqProofs only[go_sem]);rw[nO,e2];cases h7:fF ⟨iC m n a.aW b.aW,m*a.bj+n*b.bj,b.bJ⟩
    ·refine bt ?_;all_goals(simp;done)
    simp -implicitDefEqProofs only[go_sem];refine fD ?_;simp -implicitDefEqProofs only[go_sem]
   refine iI t1 t3 ?_;repeat(with_reducible apply an;case left=>omega)
   refine jr hm a.aW.length (fun i=>⟨dN 65 .any [(1,iv m),(3,iv n),(4,.bA 0 0),(6,.bA 1 0),(8,.bA 2 0),(10,.bA 3 0),(11,iv i)],[some (.box (dm (gY a))),some (.box (dm (gY b))),some (.box (dm (gY qo))),some (.box [.aX 4,.d (.val (.int .i64 (m*a.bj+n*b.bj))),.d (.val (.bool false))]),some (.aX 3 (bm (iC m n (a.aW.take i) (b.aW.take i))))]⟩) (aZ [some 0,some 1,some 2,some 3,none] (by simp -implicitDefEqProofs only[go_sem]) (by simp -implicitDefEqProofs only[go_sem];simp[iC, *]) rfl rfl) ?_;rintro i hi;rcases aa (i<a.aW.length) with h1|h1;have h2:i<b.aW.length:=oM;have h3:(i:Int)<4:=oM;have q1:=gh h5.1 h5.2 (hc1 a.aW[i] (aj h1));have q2:=gh h6.1 h6.2 (hc2 b.aW[i] (aj h2));have eO:(iC m n (a.aW.take i) (b.aW.take i)).length≤4:=(by rw[pW (by simp;omega)];simp;omega);refine gL h3 h1 h2 ?_;exact⟨i+1,h1,sL,aZ [some 0,some 1,some 2,some 3,some 5] (by simp -implicitDefEqProofs only[go_sem]) (by simp -implicitDefEqProofs only[go_sem];(rw[lB h1 h2,←iO];rfl)) rfl rfl⟩;have h3:¬ (i:Int)<4:=oM;rw[aq oM,aq oM];have e2:mG a m b n=⟨iC m n a.aW b.aW,m*a.bj+n*b.bj,false⟩:=(by simp[mG, *]);refine bH h3 ?_;refine qj [] [4] (jq ⟨iC m n a.aW b.aW,m*a.bj+n*b.bj,false⟩) rfl ?_ ?_ ?_
   ·(simp -implicitDefEqProofs only[go_sem];repeat'(first|exact wq.nil|apply wq.cons|exact Vw.same (by first|rfl|simp -implicitDefEqProofs only[go_sem,Z1,Z2,Z3,Z4])|exact Vw.aX rfl rfl|exact Vw.gD rfl rfl (by simp -implicitDefEqProofs only[go_sem,Z1,Z2,Z3,Z4])|exact Vw.nil|apply Vw.agg|apply Vw.fn|refine Vw.box rfl rfl ?_))
   (all_goals simp -implicitDefEqProofs only[go_sem]);rw[nO,e2];cases h7:fF ⟨iC m n a.aW b.aW,m*a.bj+n*b.bj,false⟩
   ·refine bt ?_;all_goals(simp;done)
   simp -implicitDefEqProofs only[go_sem];refine fD ?_;simp -implicitDefEqProofs only[go_sem]
  refine bH t1 ?_;repeat(with_reducible apply an;case left=>omega)
  refine jr hm a.aW.length (fun i=>⟨dN 65 .any [(1,iv m),(3,iv n),(4,.bA 0 0),(6,.bA 1 0),(8,.bA 2 0),(10,.bA 3 0),(11,iv i)],[some (.box (dm (gY a))),some (.box (dm (gY b))),some (.box (dm (gY qo))),some (.box [.aX 4,.d (.val (.int .i64 (m*a.bj+n*b.bj))),.d (.val (.bool true))]),some (.aX 3 (bm (iC m n (a.aW.take i) (b.aW.take i))))]⟩) (aZ [some 0,some 1,some 2,some 3,none] (by simp -implicitDefEqProofs only[go_sem]) (by simp -implicitDefEqProofs only[go_sem];simp[iC, *]) rfl rfl) ?_;rintro i hi;rcases aa (i<a.aW.length) with h1|h1;have h2:i<b.aW.length:=oM;have h3:(i:Int)<4:=oM;have q1:=gh h5.1 h5.2 (hc1 a.aW[i] (aj h1));have q2:=gh h6.1 h6.2 (hc2 b.aW[i] (aj h2));have eO:(iC m n (a.aW.take i) (b.aW.take i)).length≤4:=(by rw[pW (by simp;omega)];simp;omega);refine gL h3 h1 h2 ?_;exact⟨i+1,h1,sL,aZ [some 0,some 1,some 2,some 3,some 5] (by simp -implicitDefEqProofs only[go_sem]) (by simp -implicitDefEqProofs only[go_sem];(rw[lB h1 h2,←iO];rfl)) rfl rfl⟩;have h3:¬ (i:Int)<4:=oM;rw[aq oM,aq oM];have e2:mG a m b n=⟨iC m n a.aW b.aW,m*a.bj+n*b.bj,true⟩:=(by simp[mG, *]);refine bH h3 ?_;refine qj [] [4] (jq ⟨iC m n a.aW b.aW,m*a.bj+n*b.bj,true⟩) rfl ?_ ?_ ?_
  ·(simp -implicitDefEqProofs only[go_sem];repeat'(first|exact wq.nil|apply wq.cons|exact Vw.same (by first|rfl|simp -implicitDefEqProofs only[go_sem,Z1,Z2,Z3,Z4])|exact Vw.aX rfl rfl|exact Vw.gD rfl rfl (by simp -implicitDefEqProofs only[go_sem,Z1,Z2,Z3,Z4])|exact Vw.nil|apply Vw.agg|apply Vw.fn|refine Vw.box rfl rfl ?_))
  (all_goals simp -implicitDefEqProofs only[go_sem]);rw[nO,e2];cases h7:fF ⟨iC m n a.aW b.aW,m*a.bj+n*b.bj,true⟩
  ·refine bt ?_;all_goals(simp;done)
  simp -implicitDefEqProofs only[go_sem];refine fD ?_;simp -implicitDefEqProofs only[go_sem]
 rcases aa (0<n) with t3|t3
 ·refine iI t1 t3 ?_;repeat(with_reducible apply an;case left=>omega)
  refine jr hm a.aW.length (fun i=>⟨dN 65 .any [(1,iv m),(3,iv n),(4,.bA 0 0),(6,.bA 1 0),(8,.bA 2 0),(10,.bA 3 0),(11,iv i)],[some (.box (dm (gY a))),some (.box (dm (gY b))),some (.box (dm (gY qo))),some (.box [.aX 4,.d (.val (.int .i64 (m*a.bj+n*b.bj))),.d (.val (.bool b.bJ))]),some (.aX 3 (bm (iC m n (a.aW.take i) (b.aW.take i))))]⟩) (cM [some 0,some 1,some 2,some 3,none]) ?_;rintro i hi;rcases aa (i<a.aW.length) with h1|h1;have h2:i<b.aW.length:=oM;have h3:(i:Int)<4:=oM;have q1:=gh h5.1 h5.2 (hc1 a.aW[i] (aj h1));have q2:=gh h6.1 h6.2 (hc2 b.aW[i] (aj h2));have eO:(iC m n (a.aW.take i) (b.aW.take i)).length≤4:=(by rw[pW (by simp;omega)];simp;omega);refine gL h3 h1 h2 ?_;exact⟨i+1,h1,sL,aZ [some 0,some 1,some 2,some 3,some 5] (by simp -implicitDefEqProofs only[go_sem]) (by simp -implicitDefEqProofs only[go_sem];(rw[lB h1 h2,←iO];rfl)) rfl rfl⟩;have h3:¬ (i:Int)<4:=oM;rw[aq oM,aq oM];have e2:mG a m b n=⟨iC m n a.aW b.aW,m*a.bj+n*b.bj,b.bJ⟩:=(by simp[mG, *]);refine bH h3 ?_;refine qj [] [4] (jq ⟨iC m n a.aW b.aW,m*a.bj+n*b.bj,b.bJ⟩) rfl ?_ ?_ ?_
  ·(simp -implicitDefEqProofs only[go_sem];repeat'(first|exact wq.nil|apply wq.cons|exact Vw.same (by first|rfl|simp -implicitDefEqProofs only[go_sem,Z1,Z2,Z3,Z4])|exact Vw.aX rfl rfl|exact Vw.gD rfl rfl (by simp -implicitDefEqProofs only[go_sem,Z1,Z2,Z3,Z4])|exact Vw.nil|apply Vw.agg|apply Vw.fn|refine Vw.box rfl rfl ?_))
  (all_goals simp -implicitDefEqProofs only[go_sem]);rw[nO,e2];cases h7:fF ⟨iC m n a.aW b.aW,m*a.bj+n*b.bj,b.bJ⟩
  ·refine bt ?_;all_goals(simp;done)
  simp -implicitDefEqProofs only[go_sem];refine fD ?_;simp -implicitDefEqProofs only[go_sem]
 refine iI t1 t3 ?_;repeat(with_reducible apply an;case left=>omega)
 refine jr hm a.aW.length (fun i=>⟨dN 65 .any [(1,iv m),(3,iv n),(4,.bA 0 0),(6,.bA 1 0),(8,.bA 2 0),(10,.bA 3 0),(11,iv i)],[some (.box (dm (gY a))),some (.box (dm (gY b))),some (.box (dm (gY qo))),some (.box [.aX 4,.d (.val (.int .i64 (m*a.bj+n*b.bj))),.d (.val (.bool false))]),some (.aX 3 (bm (iC m n (a.aW.take i) (b.aW.take i))))]⟩) (cM [some 0,some 1,some 2,some 3,none]) ?_;rintro i hi;rcases aa (i<a.aW.length) with h1|h1;have h2:i<b.aW.length:=oM;have h3:(i:Int)<4:=oM;have q1:=gh h5.1 h5.2 (hc1 a.aW[i] (aj h1));have q2:=gh h6.1 h6.2 (hc2 b.aW[i] (aj h2));have eO:(iC m n (a.aW.take i) (b.aW.take i)).length≤4:=by rw[pW (by simp;omega)];simp;omega
 refine gL h3 h1 h2 ?_;exact⟨i+1,h1,sL,aZ [some 0,some 1,some 2,some 3,some 5] (by simp -implicitDefEqProofs only[go_sem]) (by simp -implicitDefEqProofs only[go_sem];(rw[lB h1 h2,←iO];rfl)) rfl rfl⟩;have h3:¬ (i:Int)<4:=oM;rw[aq oM,aq oM];have e2:mG a m b n=⟨iC m n a.aW b.aW,m*a.bj+n*b.bj,false⟩:=by simp[mG, *]
 refine bH h3 ?_;refine qj [] [4] (jq ⟨iC m n a.aW b.aW,m*a.bj+n*b.bj,false⟩) rfl ?_ ?_ ?_
 ·(simp -implicitDefEqProofs only[go_sem];repeat'(first|exact wq.nil|apply wq.cons|exact Vw.same (by first|rfl|simp -implicitDefEqProofs only[go_sem,Z1,Z2,Z3,Z4])|exact Vw.aX rfl rfl|exact Vw.gD rfl rfl (by simp -implicitDefEqProofs only[go_sem,Z1,Z2,Z3,Z4])|exact Vw.nil|apply Vw.agg|apply Vw.fn|refine Vw.box rfl rfl ?_))
 all_goals simp -implicitDefEqProofs only[go_sem]
 rw[nO,e2];cases h7:fF ⟨iC m n a.aW b.aW,m*a.bj+n*b.bj,false⟩
 ·refine bt ?_;all_goals(simp;done)
 simp -implicitDefEqProofs only[go_sem];refine fD ?_;simp -implicitDefEqProofs only[go_sem]
theorem Nb(a:j8)(m:Int)(b:j8)(n:Int):CN 346 [av (gY a),iv m,av (gY b),iv n] (.iZ [av (gY (fL a m b n).1),bv (fL a m b n).2]):=by
 have cf:=qq;refine vE (nt:=42) (rs:=[.cell 8 256,.tmp 9]) hm Tryz.func346 rfl rfl rfl rfl rfl (fun hl he=>?_);simp -implicitDefEqProofs only[go_sem] at hl⊢;refine dy [] (jq a) ?_ ?_<;>simp -implicitDefEqProofs only[go_sem];cases g1:fF a
 ·simp -implicitDefEqProofs only[go_sem];refine fD ?_;simp -implicitDefEqProofs only[go_sem];all_goals(simp[fL,g1];done)
 simp -implicitDefEqProofs only[go_sem];refine dy [] (jq b) ?_ ?_<;>simp -implicitDefEqProofs only[go_sem];cases g2:fF b;simp -implicitDefEqProofs only[go_sem];refine fD ?_;simp -implicitDefEqProofs only[go_sem];simp[fL,g1,g2];simp -implicitDefEqProofs only[go_sem];rcases aa (m<0) with t1|t1;have e:cK m 0 1000000=false:=by simp[cK];omega
 refine du t1 ?_;simp[fL,g1,g2,e];rcases aa (n<0) with t2|t2;have e:cK n 0 1000000=false:=by simp[cK];omega
 refine oH t1 t2 ?_;simp[fL,g1,g2,e];rcases aa (1000000<m) with t3|t3;have e:cK m 0 1000000=false:=by simp[cK];omega
 refine gL t1 t2 t3 ?_;simp[fL,g1,g2,e];rcases aa (1000000<n) with t4|t4;have e:cK n 0 1000000=false:=by simp[cK];omega
 refine gL t1 t2 (an t3 t4) ?_;simp[fL,g1,g2,e];have e1:cK m 0 1000000=true:=by simp[cK];omega
 have e2:cK n 0 1000000=true:=by simp[cK];omega
 have e:=Gl g1 g2 e1 e2;refine ot t1 t2 (an t3 t4) ?_;refine dy [] (Fx a m b n g1 g2 oM oM) ?_ ?_<;>simp -implicitDefEqProofs only[go_sem];refine bt ?_;simp[e]
theorem A4(ls:List j8):CN 223 [lv (eE ls)] (bv (iU ls)):=by
 have cf:=qq;refine vE (nt:=19) (rs:=[.tmp 2]) hm Tryz.func223 rfl rfl rfl rfl rfl (fun hl he=>?_);simp -implicitDefEqProofs only[go_sem] at hl⊢;refine kC hm ls.length (fun(i:Nat)=>ls.all fF=(ls.drop i).all fF) (fun i=>⟨dN 19 .any [(0,lv (eE ls)),(3,iv i)],[]⟩) ?_ (cM []) ?_;simp;rintro i ⟨hi,hg⟩;rcases aa (i<ls.length) with h1|h1
 ·rw[ae h1,cC] at hg;refine bH h1 ?_;refine dy [] (jq ls[i]) ?_ ?_<;>simp -implicitDefEqProofs only[go_sem];cases h2:fF ls[i];rw[h2,aI] at hg;refine bt ?_;simp[iU,hg];rw[h2,aA] at hg;simp -implicitDefEqProofs only[go_sem];repeat(with_reducible apply an;case left=>omega)
  exact⟨i+1,⟨oM,hg⟩,sL,cM []⟩
 rw[ak oM,eU] at hg;have e:iU ls=decide ((ls.length:Int)≤20):=by simp[iU,hg];omega
 exact gG h1 e
theorem ND(ls:List j8)(ts:List Int):CN 302 [lv (eE ls),lv (bm ts)] (.iZ [av (gY (mv ls ts).1),bv (mv ls ts).2]):=by
 have cf:=qq;refine vE (nt:=45) (rs:=[.cell 4 256,.tmp 5]) hm Tryz.func302 rfl rfl rfl rfl rfl (fun hl he=>?_);simp -implicitDefEqProofs only[go_sem,Z3,Z4] at hl⊢;repeat(with_reducible apply an;case left=>omega)
 refine dy [] (A4 ls) ?_ ?_<;>simp -implicitDefEqProofs only[go_sem];cases g1:iU ls;refine bt ?_;simp[mv,g1];rcases aa (ts.length=ls.length) with g2|g2
 ·have e:mv ls ts=rD ls ts ⟨[0,0,0,0],0,false⟩:=(by simp[mv,g1,g2]);have k2:=eq_true g2;refine bH k2 ?_;refine ry hm ls.length (fun(i:Nat) (out:j8)=>mv ls ts=rD (ls.drop i) (ts.drop i) out) (fun i out=>⟨dN 45 .any [(0,lv (eE ls)),(1,lv (bm ts)),(4,.bA 0 0),(6,.bA 1 0),(7,iv i)],[some (.box (dm (gY qo))),some (.box (dm (gY out)))]⟩) (⟨[0,0,0,0],0,false⟩) ?_ (cM [some 0,some 2]) ?_;simp[e];rintro i out ⟨hi,hg⟩;rcases aa (i<ls.length) with h1|h1
  ·have h2:i<ts.length:=oM;rw[Lo h1 h2] at hg;refine iI h1 h2 ?_;refine dy [] (Nb out 1 ls[i] ts[i]) ?_ ?_<;>simp -implicitDefEqProofs only[go_sem]
   with_reducible refine L7 (by kernel_rfl) ?_;cases h3:(fL out 1 ls[i] ts[i]).2;rw[h3] at hg;simp only[Bool.false_eq_true,if_false] at hg;exact dD hg;rw[h3] at hg;simp only[if_true] at hg;simp -implicitDefEqProofs only[go_sem];repeat(with_reducible apply an;case left=>omega)
   exact⟨i+1,(fL out 1 ls[i] ts[i]).1,⟨oM,hg⟩,sL,cM kR⟩
  rw[ak oM,ak oM,rD] at hg;refine du h1 ?_;all_goals(simp[hg];done)
 refine du g2 ?_;simp[mv,g1,g2]
theorem QL(ls:List j8)(ts:List Int):CN 227 [lv (eE ls),lv (bm ts)] (bv (vY ls ts)):=by have cf:=qq;refine vE (nt:=18) (rs:=[.tmp 4]) hm Tryz.func227 rfl rfl rfl rfl rfl (fun hl he=>?_);simp -implicitDefEqProofs only[go_sem] at hl⊢;refine dy [] (ND ls ts) ?_ ?_<;>simp -implicitDefEqProofs only[go_sem];cases h:(mv ls ts).2;refine bt ?_;simp[vY,h];simp -implicitDefEqProofs only[go_sem];refine dy [] (Cp (mv ls ts).1) ?_ ?_<;>simp -implicitDefEqProofs only[go_sem];refine bt ?_;simp[vY,h]
end Go.Proofs.YtphcpjhkeipggaaGreat
