/-
  The walks of constraints and their certificates. A step towards the exact laws.
-/
import Derived.Test.YtphcpjhkeipggaaGreatKBH
set_option linter.unusedVariables false
set_option linter.unusedSimpArgs false
open Int renaming reduceEq→Z1,reduceLT→Z2,reduceLE→Z3,reduceToNat→Z4
open Classical renaming em→aa
open List renaming getElem_mem→aj,drop_of_length_le→ak,take_of_length_le→aq,all_eq_not_any_not→iX
namespace Go.Proofs.YtphcpjhkeipggaaGreat
open Go.Eng Go.Mod
set_option maxRecDepth 100000
set_option maxHeartbeats 3200000
theorem CL(n:Int):CN 332 [iv n] (bv (ql n)):=by refine gS 5 [.tmp 2] hm Tryz.func332 fun hl he cf=>?_;refine aC [] (fQ n (-1000000) 1000000) ?_;refine bt ?_;simp[ql]
theorem nP(l:j8):CN 275 [av (gY l)] (bv (fF l)):=by
 refine gS 25 [.tmp 2] hm Tryz.func275 fun hl he cf=>?_;refine kC hm l.aW.length (fun(i:Nat)=>l.aW.all ql=(l.aW.drop i).all ql) (fun i=>⟨dN 25 .any [(1,.bA 0 0),(6,lv (bm l.aW)),(7,iv l.aW.length),(8,iv i)],[some (.box (dm (gY l)))]⟩) ?_ (cM fe) ?_;simp;rintro i ⟨hi,hg⟩;rcases aa (i<l.aW.length) with h1|h1;rw[List.drop_eq_getElem_cons h1,List.all_cons] at hg;refine uA ?_;refine aC [] (CL l.aW[i]) ?_;cases h2:ql l.aW[i];rw[h2,Bool.false_and] at hg;have e:fF l=false:=by simp[fF,hg]
 exact dD e;rw[h2,Bool.true_and] at hg;refine sA ?_;refine⟨oM,?_⟩;exact⟨i+1,⟨oM,hg⟩,sL,cM fe⟩;rw[ak oM,List.all_nil] at hg;rcases aa ((l.aW.length:Int)=4) with h3|h3;have h3':l.aW.length=4:=oM;have k3:=eq_true h3;refine iI h1 k3 ?_;refine aC [] (CL l.bj) ?_;refine bt ?_;simp[fF,hg,h3'];have h3':¬l.aW.length=4:=oM;refine oH h1 h3 ?_;simp[fF,hg,h3']
theorem MH(l:j8):CN 203 [av (gY l)] (av (gY (tV l))):=by
 refine gS 33 [.cell 2 256] hm Tryz.func203 fun hl he cf=>?_;refine aC [] (nP l) ?_;cases h:fF l;refine bt ?_;simp[tV,h];obtain⟨h4,hc,hb⟩:=iM.1 h;have e:tV l=⟨l.aW.map fun c=>-c,-l.bj,!l.bJ⟩:=by simp[tV,h]
 refine sA ?_;refine⟨oM,?_⟩;refine jr hm l.aW.length (fun i=>⟨dN 33 .any [(2,.bA 0 0),(3,.bA 1 0),(18,lv (bm l.aW)),(19,iv l.aW.length),(20,iv i)],[some (.box (dm (gY qo))),some (.box [.aX 2,.d (.val (.int .i64 (-l.bj))),.d (.val (.bool (!l.bJ)))]),some (.aX 3 (bm ((l.aW.take i).map fun c=>-c)))]⟩) (cM [some 1,some 2,none]) ?_;rintro i hi;rcases aa (i<l.aW.length) with h1|h1;have hn:=hc l.aW[i] (aj h1);refine uA ?_;refine⟨oM,oM,oM,?_⟩;exact⟨i+1,h1,sL,aZ [some 0,some 1,some 3] sC (by refine sA ?_;(rw[List.take_add_one,List.getElem?_eq_getElem h1,List.map_append,←iO];rfl)) rfl rfl⟩;refine du h1 ?_;rw[aq oM,e];simp[]
theorem Ix(c:Int):CN 333 [iv c] (bv (decide (c≠0))):=by refine gS 5 [.tmp 2] hm Tryz.func333 fun hl he cf=>?_;refine bt ?_;all_goals(simp;done)
theorem aaP(l:j8):l.aW.any (fun c=>decide (c≠0))= !flat l:=by simp[flat,iX]
theorem MM(l:j8):CN 277 [av (gY l)] (bv (fF l&&flat l)):=by refine gS 11 [.tmp 2] hm Tryz.func277 fun hl he cf=>?_;refine aC [] (nP l) ?_;cases h:fF l;refine bt ?_;exact sC;refine sA ?_;refine aC [] (vH 333 [] rfl (fun c=>decide (c≠0)) l.aW (fun c _=>Ix c)) ?_;refine bt ?_;rw[aaP];simp
theorem CG(l:j8):CN 198 [av (gY l)] (bv (lM l)):=by
 refine gS 19 [.tmp 2] hm Tryz.func198 fun hl he cf=>?_;refine aC [] (MM l) ?_;cases h:fF l&&flat l;have e:lM l=false:=by simp only[lM];rw[←Bool.and_assoc,h];rfl
 exact dD e;have e:lM l=(decide (l.bj<0)||(decide (l.bj=0)&&l.bJ)):=by simp only[lM];rw[←Bool.and_assoc,h];rfl
 rcases aa (l.bj<0) with h1|h1;exact gG h1 e;rcases aa (l.bj=0) with h2|h2;simp -implicitDefEqProofs only[go_sem,Z2,h2];exact gG e h2;exact mH h1 h2 e
theorem Fh(l:j8):CN 274 [av (gY l)] (bv (!fF l)):=by refine gS 6 [.tmp 2] hm Tryz.func274 fun hl he cf=>?_;refine sa [] (nP l) ?_;exact sC
theorem qb(ls:List j8):CN 195 [lv (eE ls)] (bv (iU ls)):=by refine gS 11 [.tmp 2] hm Tryz.func195 fun hl he cf=>?_;rcases aa ((ls.length:Int)≤20) with h|h;have h':ls.length≤20:=oM;refine bH h ?_;refine aC [] (Dq 274 [] rfl (fun l=>!fF l) ls (fun l _=>Fh l)) ?_;refine bt ?_;simp[iU,h',iX];have h':¬ls.length≤20:=oM;refine du h ?_;simp[iU,h']
theorem CU(a:j8)(m:Int)(b:j8)(n:Int):CN 316 [av (gY a),iv m,av (gY b),iv n] (.iZ [av (gY (fL a m b n).1),bv (fL a m b n).2]):=by
 refine gS 87 [.cell 8 256,.tmp 9] hm Tryz.func316 fun hl he cf=>?_;refine aC [] (nP a) ?_;cases g1:fF a;simp -implicitDefEqProofs only[go_sem];refine gZ ?_;simp[fL,g1];refine sA ?_;refine aC [] (nP b) ?_;cases g2:fF b;refine bt ?_;simp[fL,g1,g2];refine sA ?_;refine aC [] (fQ m 0 1000000) ?_;cases g3:cK m 0 1000000;refine bt ?_;simp[fL,g1,g2,g3];refine sA ?_;refine aC [] (fQ n 0 1000000) ?_;cases g4:cK n 0 1000000;refine bt ?_;simp[fL,g1,g2,g3,g4];obtain⟨hn1,hc1,hb1⟩:=iM.1 g1;obtain⟨hn2,hc2,hb2⟩:=iM.1 g2;have h5:=dB.1 g3;have h6:=dB.1 g4;have p1:=gh h5.1 h5.2 hb1;have p2:=gh h6.1 h6.2 hb2;have hc:(0<m∧a.bJ=true)∨(0<m∧a.bJ=false∧0<n)∨(0<m∧a.bJ=false∧¬0<n)∨(¬0<m∧0<n)∨(¬0<m∧¬0<n):=by cases a.bJ<;>simp<;>omega
 rcases hc with t|t|t|t|t<;>(
  refine du t ?_
  refine jr hm a.aW.length (fun i=>⟨dN 87 .any [(1,iv m),(3,iv n),(4,.bA 0 0),(6,.bA 1 0),(8,.bA 2 0),(10,.bA 3 0),(57,iv a.aW.length),(58,iv i)],[some (.box (dm (gY a))),some (.box (dm (gY b))),some (.box (dm (gY qo))),some (.box [.aX 4,.d (.val (.int .i64 (m*a.bj+n*b.bj))),.d (.val (.bool (mG a m b n).bJ))]),some (.aX 3 (bm (iC m n (a.aW.take i) (b.aW.take i))))]⟩) (aZ [some 0,some 1,some 2,some 3,none] sC (by refine sA ?_;simp[iC,mG,t]) rfl rfl) ?_
  ·rintro i hi
   rcases aa (i<a.aW.length) with h1|h1
   ·have h2:i<b.aW.length:=oM
    have q1:=gh h5.1 h5.2 (hc1 a.aW[i] (aj h1))
    have q2:=gh h6.1 h6.2 (hc2 b.aW[i] (aj h2))
    have eO:(iC m n (a.aW.take i) (b.aW.take i)).length≤4:=by rw[pW (by simp;omega)];simp;omega
    refine uJ ?_
    refine sQ ?_
    refine⟨i+1,?_,sL,aZ [some 0,some 1,some 2,some 3,some 5] ?_ ?_ rfl rfl⟩
    rotate_left
    ·exact sC
    ·refine sA ?_
     all_goals((rw[lB h1 h2,←iO];rfl))
    exact h1
   ·rw[aq oM,aq oM]
    have e2:mG a m b n=⟨iC m n a.aW b.aW,m*a.bj+n*b.bj,(mG a m b n).bJ⟩:=rfl
    refine bH h1 ?_
    refine AQ [] [4] (nP ⟨iC m n a.aW b.aW,m*a.bj+n*b.bj,(mG a m b n).bJ⟩) ?_
    rw[Gl g1 g2 g3 g4,nO,←e2]
    cases h7:fF (mG a m b n)
    ·refine bt ?_
     all_goals(simp;done)
    ·refine sA ?_
     refine gZ ?_
     simp[mG]
 )
theorem Nq(ls:List j8)(ts:List Int):CN 240 [lv (eE ls),lv (bm ts)] (.iZ [av (gY (mv ls ts).1),bv (mv ls ts).2]):=by
 refine gS 47 [.cell 4 256,.tmp 5] hm Tryz.func240 fun hl he cf=>?_;refine aC [] (qb ls) ?_;cases g1:iU ls;refine bt ?_;simp[mv,g1];rcases aa (ts.length=ls.length) with g2|g2
 ·have e:mv ls ts=rD ls ts ⟨[0,0,0,0],0,false⟩:=(by simp[mv,g1,g2]);simp -implicitDefEqProofs only[go_sem,Z3,Z4,g2];refine sQ ?_;refine ry hm ls.length (fun(i:Nat) (out:j8)=>mv ls ts=rD (ls.drop i) (ts.drop i) out) (fun i out=>⟨dN 47 .any [(1,lv (bm ts)),(4,.bA 0 0),(6,.bA 1 0),(24,lv (eE ls)),(25,iv ls.length),(26,iv i)],[some (.box (dm (gY qo))),some (.box (dm (gY out)))]⟩) (⟨[0,0,0,0],0,false⟩) ?_ (cM [some 0,some 2]) ?_;simp[e];rintro i out ⟨hi,hg⟩;rcases aa (i<ls.length) with h1|h1;have h2:i<ts.length:=oM;rw[Lo h1 h2] at hg;refine uJ ?_;refine aC [] (CU out 1 ls[i] ts[i]) ?_;refine iK ?_;cases h3:(fL out 1 ls[i] ts[i]).2;rw[h3] at hg;simp only[Bool.false_eq_true,if_false] at hg;exact dD hg;rw[h3] at hg;simp only[if_true] at hg;refine sA ?_;refine⟨oM,?_⟩;exact⟨i+1,(fL out 1 ls[i] ts[i]).1,⟨oM,hg⟩,sL,cM kR⟩;rw[ak oM,ak oM,rD] at hg;refine du h1 ?_;all_goals(simp[hg];done)
 have g2':¬ (ts.length:Int)=ls.length:=oM;refine du g2' ?_;simp[mv,g1,g2]
theorem Fb(ls:List j8)(ts:List Int):CN 147 [lv (eE ls),lv (bm ts)] (bv (vY ls ts)):=by refine gS 18 [.tmp 4] hm Tryz.func147 fun hl he cf=>?_;refine aC [] (Nq ls ts) ?_;cases h:(mv ls ts).2;refine bt ?_;simp[vY,h];refine sA ?_;refine aC [] (CG (mv ls ts).1) ?_;refine bt ?_;simp[vY,h]
end Go.Proofs.YtphcpjhkeipggaaGreat
