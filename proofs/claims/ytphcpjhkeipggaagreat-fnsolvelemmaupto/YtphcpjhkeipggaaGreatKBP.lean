/-
  The reference: the walks of atoms and literals. A step towards the exact laws.
-/
import Derived.Test.YtphcpjhkeipggaaGreatKBI
set_option linter.unusedVariables false
set_option linter.unusedSimpArgs false
open Int renaming reduceEq→Z1,reduceLT→Z2,reduceLE→Z3,reduceToNat→Z4
open And renaming intro→an
open Bool renaming true_and→aA,false_and→aI
open Classical renaming em→aa
open List renaming drop_eq_getElem_cons→ae,getElem_mem→aj,drop_of_length_le→ak,take_of_length_le→aq,all_cons→cC,all_nil→eU,mem_of_mem_take→e7,filter_append→j6
open Nat renaming le_trans→fv
namespace Go.Proofs.YtphcpjhkeipggaaGreat
open Go.Eng Go.Mod
set_option maxRecDepth 100000
set_option maxHeartbeats 3200000
theorem F8{n lo hi:Int}(h:cK n lo hi=false):n<lo∨hi<n:=by simp only[cK,Bool.and_eq_false_iff,decide_eq_false_iff_not] at h;omega
theorem RJ{a:cR}(k2:a.kind=2):dq a=(isNone a.A&&(isNone a.B&&(cK a.ai.length 1 4&&(decide (a.a8.length=a.ai.length)&&(cK a.bj (-1000) 1000&&mU none a.ai a.a8))))):=by simp[dq,k2]
theorem Ge(a:cR)(e:dq a=mU none a.ai a.a8)(h1:isNone a.A=true)(h2:isNone a.B=true)(h4:a.ai.length=a.a8.length)(h5:¬ (a.ai.length:Int)<1)(h6:¬ (4:Int)<(a.ai.length:Int))(h8:¬a.bj < -1000)(h9:¬1000<a.bj):CN 267 [av (fC a)] (bv (dq a)):=by
 have k4:=eq_true h4;refine gS 97 [.tmp 2] hm Tryz.func267 fun hl he cf=>?_;refine aC [] (sw a.A) ?_;refine bH h1 ?_;refine aC [] (sw a.B) ?_;refine ot h2 k4 (an h5 (an h6 (an h8 h9))) ?_;refine cS hm (fun(i:Nat)=> i≤a.ai.length∧dq a=mU (pX a.ai i) (a.ai.drop i) (a.a8.drop i)∧∀q,pX a.ai i=some q→bG q=true) (fun(i:Nat)=> ⟨dN 97 .any [(1,.bA 0 0),(3,iv i)],[some (.box (dm (fC a)))]⟩) (fun(i:Nat)=> a.ai.length-i) (0) ?_ (aZ fe ?_ ?_ rfl rfl) ?_;rotate_left;exact sC;simp -implicitDefEqProofs only[go_sem];rotate_left;exact⟨oM,e,fun q h=>by cases h⟩;rintro i ⟨hi,hg,hp⟩;rcases aa (i<a.ai.length) with g1|g1
 ·have g2:i<a.a8.length:=oM;rw[HG g1 g2] at hg;simp -implicitDefEqProofs only[go_sem,g1,g2];refine aC [] (vX a.ai[i]) ?_;cases q1:bG a.ai[i];rw[q1,aI] at hg;simp -implicitDefEqProofs only[go_sem];refine iK ?_;refine gZ ?_;simp[hg];rw[q1,aA] at hg;refine sA ?_;rcases aa (a.a8[i]=0) with q3|q3;have k3:=eq_true q3;have hg:dq a=false:=(by rw[hg];simp[q3]);exact gG k3 hg;refine bH q3 ?_;cases q2:cK a.a8[i] (-50) 50;have hg:dq a=false:=(by rw[hg,q2];rfl);rcases aa (a.a8[i] < -50) with q5|q5;exact gG q5 hg;have q6:50<a.a8[i]:=(by have:=F8 q2;omega);exact mH q5 q6 hg;have q2':=dB.1 q2;have q5:¬a.a8[i] < -50:=oM;have q6:¬50<a.a8[i]:=oM;rw[q2,aA] at hg;simp only[q3,not_false_eq_true,ne_eq,decide_true,aA] at hg;cases i with
  | zero=>simp only[pX,aA] at hg;simp -implicitDefEqProofs only[go_sem,q5,q6,Int.lt_irrefl];refine bt ?_;refine⟨0+1,?_,sL,cM fe⟩;refine⟨oM,?_,?_⟩;rw[hg,lZ g1];intro q hq;rw[lZ g1] at hq;cases hq;exact q1
  | succ j=>have hj:j<a.ai.length:=oM;have e1:((j:Int)+1-1)=(j:Int):=oM;have e2:(0:Int)<(j:Int)+1:=oM;have et:((j:Int)+1).toNat=j+1:=oM;have tp:=hp _ (lZ hj);rw[lZ hj] at hg;simp only at hg;simp -implicitDefEqProofs only[go_sem,q5,q6,e1,e2,hj];refine sQ ?_;refine dy [] (kv a.ai[j] tp) ?_ ?_<;>simp -implicitDefEqProofs only[go_sem,et,g1];refine sQ ?_;refine sa [] (kv a.ai[j+1] q1) ?_;cases q4:iQ (aR a.ai[j]) (aR a.ai[j+1]);rw[q4,aI] at hg;have h5:Op.bytesLess (aR a.ai[j]) (aR a.ai[j+1])=false:=q4;exact gG h5 hg;rw[q4,aA] at hg;have h5:Op.bytesLess (aR a.ai[j]) (aR a.ai[j+1])=true:=q4;refine du h5 ?_;refine⟨j+1+1,?_,sL,cM fe⟩;refine⟨oM,?_,?_⟩;rw[hg,lZ g1];intro q hq;rw[lZ g1] at hq;cases hq;exact q1
 rw[ak oM,ak oM] at hg;have hg:dq a=true:=by rw[hg];cases pX a.ai i<;>rfl
 exact gG g1 hg
theorem Ip(a:cR)(k2:a.kind=2)(hno:¬ (isNone a.A=true∧isNone a.B=true∧a.ai.length=a.a8.length∧cK a.ai.length 1 4=true∧cK a.bj (-1000) 1000=true)):CN 267 [av (fC a)] (bv (dq a)):=by
 have e:=RJ k2;refine gS 97 [.tmp 2] hm Tryz.func267 fun hl he cf=>?_;refine aC [] (sw a.A) ?_;cases h1:isNone a.A
 ·simp -implicitDefEqProofs only[go_sem];refine gZ ?_;all_goals(simp[e,h1];done)
 simp -implicitDefEqProofs only[go_sem];refine aC [] (sw a.B) ?_;cases h2:isNone a.B;simp -implicitDefEqProofs only[go_sem];refine gZ ?_;simp[e,h1,h2];refine sA ?_;rcases aa (a.ai.length=a.a8.length) with h4|h4;have h4':a.a8.length=a.ai.length:=h4.symm;have k4:=eq_true h4;refine bH k4 ?_;cases h3:cK a.ai.length 1 4;have e0:dq a=false:=by simp[e,h3]
 rcases aa ((a.ai.length:Int)<1) with h5|h5;exact gG h5 e0;have h6:(4:Int)<(a.ai.length:Int):=by have:=F8 h3;omega
 exact mH h5 h6 e0;have h3':=dB.1 h3;have h5:¬ (a.ai.length:Int)<1:=oM;have h6:¬ (4:Int)<(a.ai.length:Int):=oM;refine iI h5 h6 ?_;cases h7:cK a.bj (-1000) 1000;have e0:dq a=false:=by simp[e,h7]
 rcases aa (a.bj < -1000) with h8|h8;exact gG h8 e0;have h9:1000<a.bj:=by have:=F8 h7;omega
 exact mH h8 h9 e0;exact absurd ⟨h1,h2,h4,h3,h7⟩ hno;have h4':¬a.a8.length=a.ai.length:=fun h=>h4 h.symm;refine bH h4 ?_;refine gZ ?_;simp[e,h4']
theorem PH(a:cR)(k2:a.kind=2):CN 267 [av (fC a)] (bv (dq a)):=by rcases aa (isNone a.A=true∧isNone a.B=true∧a.ai.length=a.a8.length∧cK a.ai.length 1 4=true∧cK a.bj (-1000) 1000=true) with h|h;obtain⟨h1,h2,h4,h3,h7⟩:=h;have h3':=dB.1 h3;have h7':=dB.1 h7;have h4':=h4.symm;exact Ge a (by simp[RJ k2,h1,h2,h3,h4',h7]) h1 h2 h4 oM oM oM oM;exact Ip a k2 h
theorem vD(a:cR):CN 173 [av (fC a)] (bv (dq a)):=by
 refine gS 43 [.tmp 2] hm Tryz.func173 fun hl he cf=>?_;rcases aa (a.kind=2) with k2|k2;have k:=eq_true k2;refine uG ?_;refine dy [] (PH a k2) ?_ ?_<;>simp -implicitDefEqProofs only[go_sem];refine fD ?_;simp -implicitDefEqProofs only[go_sem];simp -implicitDefEqProofs only[go_sem,k2];rcases aa (a.kind=1) with k1|k1
 ·have e:dq a=(bG a.A&&(bG a.B&&(decide (a.ai.length=0)&&(decide (a.a8.length=0)&&(decide (a.bj=0)&& !a.bJ))))):=(by simp[dq,k1]);have k:=eq_true k1;refine uG ?_;refine aC [] (vX a.A) ?_;cases h1:bG a.A
  ·simp -implicitDefEqProofs only[go_sem];refine gZ ?_;all_goals(simp[e,h1];done)
  simp -implicitDefEqProofs only[go_sem];refine aC [] (vX a.B) ?_;cases h2:bG a.B;simp -implicitDefEqProofs only[go_sem];refine gZ ?_;simp[e,h1,h2];refine sA ?_;rcases aa ((a.ai.length:Int)=0) with h3|h3;have h3':a.ai.length=0:=oM;have k3:=eq_true h3;refine bH k3 ?_;rcases aa ((a.a8.length:Int)=0) with h4|h4;have h4':a.a8.length=0:=oM;have k4:=eq_true h4;refine bH k4 ?_;rcases aa (a.bj=0) with h5|h5;have k5:=eq_true h5;exact mH k5 e (an h1 (an h2 (an h3' (an h4' h5))));exact mH h5 e (an h1 (an h2 (an h3' h4')));have h4':¬a.a8.length=0:=oM;exact mH h4 e (an h1 (an h2 (an h3' h4')));have h3':¬a.ai.length=0:=oM;exact mH h3 e (an h1 (an h2 h3'))
 refine du k1 ?_;simp[dq,k1,k2]
theorem SV{s:eM}{t:ax}(hs:gC s=true)(ht:bG t=true):eQ s t=decide ((ic s t).getD (-1)=1):=by simp only[eQ,gK,hs,ht,Bool.and_self,if_true];cases ic s t<;>simp
theorem Cu(s:eM)(a:cR):CN 213 [av (eP s),av (fC a)] (bv (gr s a)):=by
 refine gS 47 [.tmp 4] hm Tryz.func213 fun hl he cf=>?_;refine aC [] (uh s) ?_;cases h1:gC s;refine bt ?_;simp[gr,h1];refine sA ?_;refine aC [] (vD a) ?_;cases h2:dq a;refine bt ?_;simp[gr,h1,h2];refine sA ?_;rcases aa (a.kind=1) with k1|k1
 ·have hAB:=N6 h2 k1;have k:=eq_true k1;have tA:gK s a.A=ic s a.A:=(by simp[gK,h1,hAB.1]);have tB:gK s a.B=ic s a.B:=(by simp[gK,h1,hAB.2]);have cA:=wN s h1 a.A;have cB:=wN s h1 a.B;refine bH k ?_;refine aC [] cA ?_;cases qA:ic s a.A with
  | none=>simp -implicitDefEqProofs only[go_sem,Z3,Option.getD_none];refine bt ?_;simp[gr,h1,h2,k1,iP,tA,qA]
  | some n=>
   have hn:=Ki.1 (RU h1 qA);have hn2:0≤n:=oM;refine bH hn2 ?_;refine aC [] cB ?_;cases qB:ic s a.B with
   | none=>have hn3:¬n = -1:=oM;refine bt ?_;simp[gr,h1,h2,k1,iP,tA,tB,qA,qB,hn3]
   | some m=>refine bt ?_;simp[gr,h1,h2,k1,iP,tA,tB,qA,qB]
 have k2:a.kind=2:=(ml h2).resolve_left k1;have hw:=oX h2 k2;have hT:=(yn hw.2.2.2.2.2 hw.2.2.2.1).1;refine bH k1 ?_;refine kC hm a.ai.length (fun(i:Nat)=>a.ai.all (eQ s)=(a.ai.drop i).all (eQ s)) (fun i=>⟨dN 47 .any [(2,.bA 0 0),(3,.bA 1 0),(6,iv i)],[some (.box (dm (eP s))),some (.box (dm (fC a)))]⟩) ?_ (cM kR) ?_;simp;rintro i ⟨hi,hg⟩;rcases aa (i<a.ai.length) with g1|g1;rw[ae g1,cC,SV h1 (hT _ (aj g1))] at hg;have cT:=wN s h1 a.ai[i];refine uI ?_;refine aC [] cT ?_;refine bt ?_;rcases aa ((ic s a.ai[i]).getD (-1)=1) with q|q;have k:=eq_true q;simp only[k,decide_true,aA] at hg;refine du k ?_;exact⟨i+1,⟨oM,hg⟩,sL,cM kR⟩;have k:=eq_false q;simp only[k,decide_false,aI] at hg;refine du k ?_;simp[gr,h1,h2,k1,hg];rw[ak oM,eU] at hg;refine du g1 ?_;simp[gr,h1,h2,k1,hg]
theorem IG(l:bL)(h:dq l.aN=true):CN 291 [av (r9 l)] (lv (aU (cY l.aN))):=by
 have hle:=(pr h).1;refine gS 43 [.tmp 2] hm Tryz.func291 fun hl he cf=>?_;refine aC [] (vD l.aN) ?_;refine bH h ?_;rcases aa (l.aN.kind=1) with k1|k1;have k:=eq_true k1;refine bH k ?_;refine aC [] (ji l.aN.A) ?_;refine aC [] (ji l.aN.B) ?_;refine bt ?_;simp[cY,k1,eZ,il,cT];have e:cY l.aN=l.aN.ai:=by simp[cY,k1]
 rw[e] at hle;refine bH k1 ?_;refine jr hm l.aN.ai.length (fun i=>⟨dN 43 .any [(1,.bA 0 0),(3,.aX 1),(4,iv i)],[some (.box (dm (r9 l))),some (.aX 32 (aU (l.aN.ai.take i)))]⟩) (cM kR) ?_;rintro i hi;rcases aa (i<l.aN.ai.length) with h1|h1;refine uA ?_;refine aC [] (ji l.aN.ai[i]) ?_;refine bt ?_;exact⟨i+1,h1,sL,aZ [some 0,some 2] sC (by refine sA ?_;exact rV h1) rfl rfl⟩;refine du h1 ?_;rw[aq oM,e]
theorem A8(ab:List bL)(hl1:ab.length≤100)(hw:∀l∈ab,dq l.aN=true):CN 214 [lv (bh ab)] (lv (aU (aL ab))):=by
 obtain⟨hle,fy⟩:=kp hw;have e:aL ab=bp [] (fO ab):=by rw[nI,mC fy]
 refine gS 32 [.tmp 2] hm Tryz.func214 fun hl he cf=>?_;refine jr hm ab.length (fun i=>⟨dN 32 .any [(0,lv (bh ab)),(3,.aX 0),(4,iv i)],[some (.aX 32 (aU (bp [] (fO (ab.take i)))))]⟩) (cM fe) ?_;rintro i hi;rcases aa (i<ab.length) with h1|h1;have hwi:=hw ab[i] (aj h1);have h3:=pr hwi;have h2:=kp (ab:=ab.take i) fun l hl=>hw l (e7 hl);have h4:(ab.take i).length≤100:=by simp;omega
 refine uA ?_;refine aC [] (IG ab[i] hwi) ?_;refine jr hm ((cY ab[i].aN).length) (fun j=>⟨dN 32 .any [(0,lv (bh ab)),(3,.aX 0),(4,iv i),(5,lv (aU (cY ab[i].aN))),(6,iv j)],[some (.aX 32 (aU (bp [] (fO (ab.take i)++(cY ab[i].aN).take j))))]⟩) (cM fe) ?_;rintro j hj;rcases aa (j<(cY ab[i].aN).length) with g1|g1;have ht:=h3.2 (cY ab[i].aN)[j] (aj g1);have o4:∀t∈fO (ab.take i)++(cY ab[i].aN).take j,bG t=true:=by intro t ht;rcases List.mem_append.1 ht with ht|ht;exact h2.2 t ht;exact h3.2 t (e7 ht)
 have b1:=tJ _ [] o4;have b2:(fO (ab.take i)++(cY ab[i].aN).take j).length≤410:=by rw[List.length_append,List.length_take];omega
 simp only[List.length_nil] at b1;refine uI ?_;refine oC [] [0,1] (Lp (cY ab[i].aN)[j] 4 _ oM (jh ht) (fv b1 oM)) ?_;refine bt ?_;exact⟨j+1,g1,sL,aZ [some 1] sC (by refine sA ?_;(simp only[od g1,←List.append_assoc,JV,bp])) rfl rfl⟩;have ej:(cY ab[i].aN).take j=cY ab[i].aN:=aq oM;refine du g1 ?_;exact⟨i+1,h1,sL,aZ fe sC (by refine sA ?_;(rw[xu h1,ej])) rfl rfl⟩;have et:ab.take i=ab:=aq oM;exact mH h1 et e
theorem Cy(s:eM)(ts:List ax)(hs:gC s=true)(ht:∀t∈ts,bG t=true)(hl1:ts.length≤10000):CN 215 [av (eP s),lv (aU ts)] (lv (aU (ts.filter (eQ s)))):=by
 refine gS 29 [.tmp 4] hm Tryz.func215 fun hl he cf=>?_;refine jr hm ts.length (fun i=>⟨dN 29 .any [(1,lv (aU ts)),(2,.bA 0 0),(5,.aX 1),(6,iv i)],[some (.box (dm (eP s))),some (.aX 32 (aU ((ts.take i).filter (eQ s))))]⟩) (cM kR) ?_;rintro i hi;rcases aa (i<ts.length) with h1|h1;have hc:=wN s hs ts[i];have hn:=SV hs (ht ts[i] (aj h1));have hb:((ts.take i).filter (eQ s)).length≤10000:=fv (List.length_filter_le _ _) (by simp;omega);refine uA ?_;refine aC [] hc ?_;refine bt ?_;rcases aa ((ic s ts[i]).getD (-1)=1) with q|q;have k:=eq_true q;have hn:eQ s ts[i]=true:=by rw[hn];exact decide_eq_true q
 simp -implicitDefEqProofs only[go_sem,k,h1];refine sQ ?_;exact⟨i+1,h1,sL,aZ [some 0,some 2] sC (by refine sA ?_;(rw[od h1,j6,←ng];simp[hn,eZ,cT])) rfl rfl⟩;have k:=eq_false q;have hn:eQ s ts[i]=false:=by rw[hn];exact decide_eq_false q
 refine du k ?_;exact⟨i+1,h1,sL,aZ kR sC (by refine sA ?_;(rw[od h1,j6];simp[hn])) rfl rfl⟩;refine du h1 ?_;rw[aq oM]
theorem J8(s:eM)(ab:List bL)(hl1:ab.length≤100):CN 132 [av (eP s),lv (bh ab)] (bv (gC s&&(ab.all (fun l=>gr s l.aN)&&(decide ((aL ab).length≤24)&&decide ((aG s ab).length≤4))))):=by
 refine gS 37 [.tmp 4] hm Tryz.func132 fun hl he cf=>?_;refine kC hm ab.length (fun(i:Nat)=>ab.all (fun l=>gr s l.aN)=(ab.drop i).all (fun l=>gr s l.aN)) (fun i=>⟨dN 37 .any [(1,lv (bh ab)),(2,.bA 0 0),(5,iv i)],[some (.box (dm (eP s)))]⟩) ?_ (cM fe) ?_;simp;rintro i ⟨hi,hg⟩;rcases aa (i<ab.length) with h1|h1;rw[ae h1,cC] at hg;refine uA ?_;refine aC [] (Cu s ab[i].aN) ?_;refine bt ?_;cases h2:gr s ab[i].aN;rw[h2,aI] at hg;exact dD hg;rw[h2,aA] at hg;refine bt ?_;exact⟨i+1,⟨oM,hg⟩,sL,cM fe⟩;rw[ak oM,eU] at hg;have hw:∀l∈ab,dq l.aN=true:=by intro l hl;have:=List.all_eq_true.1 hg l hl;simp only[gr,Bool.and_eq_true] at this;exact this.2.1
 have fy:=(kp hw).2;have htt:∀t∈aL ab,bG t=true:=by rw[nI];exact tI fy
 refine bH h1 ?_;refine aC [] (A8 ab hl1 hw) ?_;refine aC [] (uh s) ?_;cases h2:gC s;refine sA ?_;refine fD ?_;exact sC;refine sA ?_;rcases aa (((aL ab).length:Int)≤24) with h3|h3;have h3':(aL ab).length≤24:=oM;have e:aG s ab=(aL ab).filter (eQ s):=rfl;refine bH h3 ?_;refine sa [] (Cy s (aL ab) h2 htt oM) ?_;simp only[hg,h3',e,decide_true,aA];congr 2;exact decide_eq_decide.2 oM;have h3':¬ (aL ab).length≤24:=oM;exact gG h3 h3'
theorem xi(s:eM)(ab:List bL):CN 65 [av (eP s),lv (bh ab)] (bv (gn s ab)):=by refine gS 13 [.tmp 4] hm Tryz.func65 fun hl he cf=>?_;rcases aa ((ab.length:Int)≤6) with h|h;have h':ab.length≤6:=oM;refine bH h ?_;refine sa [] (J8 s ab oM) ?_;simp only[gn,h',decide_true,Bool.and_true,Bool.and_assoc];have h':¬ab.length≤6:=oM;refine du h ?_;simp[gn,h']
end Go.Proofs.YtphcpjhkeipggaaGreat
