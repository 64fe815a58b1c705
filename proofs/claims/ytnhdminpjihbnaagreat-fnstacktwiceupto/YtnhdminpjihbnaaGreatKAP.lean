/-
  The reference: the walks of atoms and literals. A step towards the exact laws.
-/
import Derived.Test.YtnhdminpjihbnaaGreatKAI
set_option linter.unusedVariables false
set_option linter.unusedSimpArgs false
open Int renaming reduceEq→Z1,reduceLT→Z2,reduceLE→Z3,reduceToNat→Z4
open And renaming intro→aq
open Bool renaming true_and→aN,false_and→aZ
open Classical renaming em→aa
open List renaming getElem_mem→ah,drop_eq_getElem_cons→ai,take_of_length_le→ak,drop_of_length_le→al,all_cons→cY,all_nil→fW,mem_of_mem_take→gk,filter_append→jd
open Nat renaming le_trans→gr
namespace Go.Proofs.YtnhdminpjihbnaaGreat
open Go.Eng Go.Mod
set_option maxRecDepth 100000
set_option maxHeartbeats 800000
theorem GG{n lo hi:Int}(h:c8 n lo hi=false):n<lo∨hi<n:=by simp only[c8,Bool.and_eq_false_iff,decide_eq_false_iff_not] at h;omega
theorem Tj{a:bz}(k2:a.kind=2):dh a=(isNone a.A&&(isNone a.B&&(c8 a.an.length 1 4&&(decide (a.bt.length=a.an.length)&&(c8 a.bJ (-1000) 1000&&oP none a.an a.bt))))):=by simp[dh,k2]
theorem HR(a:bz)(e:dh a=oP none a.an a.bt)(h1:isNone a.A=true)(h2:isNone a.B=true)(h4:a.an.length=a.bt.length)(h5:¬ (a.an.length:Int)<1)(h6:¬ (4:Int)<(a.an.length:Int))(h8:¬a.bJ < -1000)(h9:¬1000<a.bJ):CN 221 [av (iA a)] (bv (dh a)):=by
 have k4:=eq_true h4;refine gS 97 [.tmp 2] hm Tryz.func221 fun hl he cV=>?_;refine aC [] (s9 a.A) ?_;refine bS h1 ?_;refine aC [] (s9 a.B) ?_;refine xE h2 k4 (aq h5 (aq h6 (aq h8 h9))) ?_;refine hJ hm (fun(i:Nat)=> i≤a.an.length∧dh a=oP (qb a.an i) (a.an.drop i) (a.bt.drop i)∧∀q,qb a.an i=some q→bR q=true) (fun(i:Nat)=> ⟨fk 97 .any [(1,.bK 0 0),(3,iv i)],[some (.box (fy (iA a)))]⟩) (fun(i:Nat)=> a.an.length-i) (0) ?_ (bW gE ?_ ?_ rfl rfl) ?_;rotate_left;exact sC;simp -implicitDefEqProofs only[go_sem];rotate_left;exact⟨oM,e,fun q h=>by cases h⟩;rintro i ⟨hi,hg,hp⟩;rcases aa (i<a.an.length) with g1|g1
 ·have g2:i<a.bt.length:=oM;rw[I3 g1 g2] at hg;simp -implicitDefEqProofs only[go_sem,g1,g2];refine aC [] (wg a.an[i]) ?_;cases q1:bR a.an[i];rw[q1,aZ] at hg;simp -implicitDefEqProofs only[go_sem];refine iK ?_;refine An ?_;simp[hg];rw[q1,aN] at hg;refine sA ?_;rcases aa (a.bt[i]=0) with q3|q3;have k3:=eq_true q3;have hg:dh a=false:=(by rw[hg];simp[q3]);exact lJ k3 hg;refine bS q3 ?_;cases q2:c8 a.bt[i] (-50) 50;have hg:dh a=false:=(by rw[hg,q2];rfl);rcases aa (a.bt[i] < -50) with q5|q5;exact lJ q5 hg;have q6:50<a.bt[i]:=(by have:=GG q2;omega);exact p9 q5 q6 hg;have q2':=dM.1 q2;have q5:¬a.bt[i] < -50:=oM;have q6:¬50<a.bt[i]:=oM;rw[q2,aN] at hg;simp only[q3,not_false_eq_true,ne_eq,decide_true,aN] at hg;cases i with
  | zero=>simp only[qb,aN] at hg;simp -implicitDefEqProofs only[go_sem,q5,q6,Int.lt_irrefl];refine bI ?_;refine⟨0+1,?_,sL,c9 gE⟩;refine⟨oM,?_,?_⟩;rw[hg,mq g1];intro q hq;rw[mq g1] at hq;cases hq;exact q1
  | succ j=>have hj:j<a.an.length:=oM;have e1:((j:Int)+1-1)=(j:Int):=oM;have e2:(0:Int)<(j:Int)+1:=oM;have et:((j:Int)+1).toNat=j+1:=oM;have tp:=hp _ (mq hj);rw[mq hj] at hg;simp only at hg;simp -implicitDefEqProofs only[go_sem,q5,q6,e1,e2,hj];refine sQ ?_;refine eh [] (AK a.an[j] tp) ?_ ?_<;>simp -implicitDefEqProofs only[go_sem,et,g1];refine sQ ?_;refine oL [] (AK a.an[j+1] q1) ?_;cases q4:kn (a7 a.an[j]) (a7 a.an[j+1]);rw[q4,aZ] at hg;have h5:Op.bytesLess (a7 a.an[j]) (a7 a.an[j+1])=false:=q4;exact lJ h5 hg;rw[q4,aN] at hg;have h5:Op.bytesLess (a7 a.an[j]) (a7 a.an[j+1])=true:=q4;refine dB h5 ?_;refine⟨j+1+1,?_,sL,c9 gE⟩;refine⟨oM,?_,?_⟩;rw[hg,mq g1];intro q hq;rw[mq g1] at hq;cases hq;exact q1
 rw[al oM,al oM] at hg;have hg:dh a=true:=by rw[hg];cases qb a.an i<;>rfl
 exact lJ g1 hg
theorem JA(a:bz)(k2:a.kind=2)(hno:¬ (isNone a.A=true∧isNone a.B=true∧a.an.length=a.bt.length∧c8 a.an.length 1 4=true∧c8 a.bJ (-1000) 1000=true)):CN 221 [av (iA a)] (bv (dh a)):=by
 have e:=Tj k2;refine gS 97 [.tmp 2] hm Tryz.func221 fun hl he cV=>?_;refine aC [] (s9 a.A) ?_;cases h1:isNone a.A
 ·simp -implicitDefEqProofs only[go_sem];refine An ?_;all_goals(simp[e,h1];done)
 simp -implicitDefEqProofs only[go_sem];refine aC [] (s9 a.B) ?_;cases h2:isNone a.B;simp -implicitDefEqProofs only[go_sem];refine An ?_;simp[e,h1,h2];refine sA ?_;rcases aa (a.an.length=a.bt.length) with h4|h4;have h4':a.bt.length=a.an.length:=h4.symm;have k4:=eq_true h4;refine bS k4 ?_;cases h3:c8 a.an.length 1 4;have e0:dh a=false:=by simp[e,h3]
 rcases aa ((a.an.length:Int)<1) with h5|h5;exact lJ h5 e0;have h6:(4:Int)<(a.an.length:Int):=by have:=GG h3;omega
 exact p9 h5 h6 e0;have h3':=dM.1 h3;have h5:¬ (a.an.length:Int)<1:=oM;have h6:¬ (4:Int)<(a.an.length:Int):=oM;refine lf h5 h6 ?_;cases h7:c8 a.bJ (-1000) 1000;have e0:dh a=false:=by simp[e,h7]
 rcases aa (a.bJ < -1000) with h8|h8;exact lJ h8 e0;have h9:1000<a.bJ:=by have:=GG h7;omega
 exact p9 h8 h9 e0;exact absurd ⟨h1,h2,h4,h3,h7⟩ hno;have h4':¬a.bt.length=a.an.length:=fun h=>h4 h.symm;refine bS h4 ?_;refine An ?_;simp[e,h4']
theorem Qo(a:bz)(k2:a.kind=2):CN 221 [av (iA a)] (bv (dh a)):=by rcases aa (isNone a.A=true∧isNone a.B=true∧a.an.length=a.bt.length∧c8 a.an.length 1 4=true∧c8 a.bJ (-1000) 1000=true) with h|h;obtain⟨h1,h2,h4,h3,h7⟩:=h;have h3':=dM.1 h3;have h7':=dM.1 h7;have h4':=h4.symm;exact HR a (by simp[Tj k2,h1,h2,h3,h4',h7]) h1 h2 h4 oM oM oM oM;exact JA a k2 h
theorem vK(a:bz):CN 178 [av (iA a)] (bv (dh a)):=by
 refine gS 43 [.tmp 2] hm Tryz.func178 fun hl he cV=>?_;rcases aa (a.kind=2) with k2|k2;have k:=eq_true k2;refine uG ?_;refine eh [] (Qo a k2) ?_ ?_<;>simp -implicitDefEqProofs only[go_sem];refine fv ?_;simp -implicitDefEqProofs only[go_sem];simp -implicitDefEqProofs only[go_sem,k2];rcases aa (a.kind=1) with k1|k1
 ·have e:dh a=(bR a.A&&(bR a.B&&(decide (a.an.length=0)&&(decide (a.bt.length=0)&&(decide (a.bJ=0)&& !a.cz))))):=(by simp[dh,k1]);have k:=eq_true k1;refine uG ?_;refine aC [] (wg a.A) ?_;cases h1:bR a.A
  ·simp -implicitDefEqProofs only[go_sem];refine An ?_;all_goals(simp[e,h1];done)
  simp -implicitDefEqProofs only[go_sem];refine aC [] (wg a.B) ?_;cases h2:bR a.B;simp -implicitDefEqProofs only[go_sem];refine An ?_;simp[e,h1,h2];refine sA ?_;rcases aa ((a.an.length:Int)=0) with h3|h3;have h3':a.an.length=0:=oM;have k3:=eq_true h3;refine bS k3 ?_;rcases aa ((a.bt.length:Int)=0) with h4|h4;have h4':a.bt.length=0:=oM;have k4:=eq_true h4;refine bS k4 ?_;rcases aa (a.bJ=0) with h5|h5;have k5:=eq_true h5;exact p9 k5 e (aq h1 (aq h2 (aq h3' (aq h4' h5))));exact p9 h5 e (aq h1 (aq h2 (aq h3' h4')));have h4':¬a.bt.length=0:=oM;exact p9 h4 e (aq h1 (aq h2 (aq h3' h4')));have h3':¬a.an.length=0:=oM;exact p9 h3 e (aq h1 (aq h2 h3'))
 refine dB k1 ?_;simp[dh,k1,k2]
theorem SL{s:eV}{t:az}(hs:gy s=true)(ht:bR t=true):eQ s t=decide ((ir s t).getD (-1)=1):=by simp only[eQ,gJ,hs,ht,Bool.and_self,if_true];cases ir s t<;>simp
theorem N9(s:eV)(a:bz):CN 123 [av (gi s),av (iA a)] (bv (hU s a)):=by
 refine gS 47 [.tmp 4] hm Tryz.func123 fun hl he cV=>?_;refine aC [] (uV s) ?_;cases h1:gy s;refine bI ?_;simp[hU,h1];refine sA ?_;refine aC [] (vK a) ?_;cases h2:dh a;refine bI ?_;simp[hU,h1,h2];refine sA ?_;rcases aa (a.kind=1) with k1|k1
 ·have hAB:=GI h2 k1;have k:=eq_true k1;have tA:gJ s a.A=ir s a.A:=(by simp[gJ,h1,hAB.1]);have tB:gJ s a.B=ir s a.B:=(by simp[gJ,h1,hAB.2]);have cA:=xq s h1 a.A;have cB:=xq s h1 a.B;refine bS k ?_;refine aC [] cA ?_;cases qA:ir s a.A with
  | none=>simp -implicitDefEqProofs only[go_sem,Z3,Option.getD_none];refine bI ?_;simp[hU,h1,h2,k1,kG,tA,qA]
  | some n=>
   have hn:=K4.1 (TN h1 qA);have hn2:0≤n:=oM;refine bS hn2 ?_;refine aC [] cB ?_;cases qB:ir s a.B with
   | none=>have hn3:¬n = -1:=oM;refine bI ?_;simp[hU,h1,h2,k1,kG,tA,tB,qA,qB,hn3]
   | some m=>refine bI ?_;simp[hU,h1,h2,k1,kG,tA,tB,qA,qB]
 have k2:a.kind=2:=(nM h2).resolve_left k1;have hw:=qC h2 k2;have hT:=(zc hw.2.2.2.2.2 hw.2.2.2.1).1;refine bS k1 ?_;refine lZ hm a.an.length (fun(i:Nat)=>a.an.all (eQ s)=(a.an.drop i).all (eQ s)) (fun i=>⟨fk 47 .any [(2,.bK 0 0),(3,.bK 1 0),(6,iv i)],[some (.box (fy (gi s))),some (.box (fy (iA a)))]⟩) ?_ (c9 qR) ?_;simp;rintro i ⟨hi,hg⟩;rcases aa (i<a.an.length) with g1|g1;rw[ai g1,cY,SL h1 (hT _ (ah g1))] at hg;have cT:=xq s h1 a.an[i];refine uI ?_;refine aC [] cT ?_;refine bI ?_;rcases aa ((ir s a.an[i]).getD (-1)=1) with q|q;have k:=eq_true q;simp only[k,decide_true,aN] at hg;refine dB k ?_;exact⟨i+1,⟨oM,hg⟩,sL,c9 qR⟩;have k:=eq_false q;simp only[k,decide_false,aZ] at hg;refine dB k ?_;simp[hU,h1,h2,k1,hg];rw[al oM,fW] at hg;refine dB g1 ?_;simp[hU,h1,h2,k1,hg]
theorem Jy(l:cC)(h:dh l.aY=true):CN 180 [av (Af l)] (lv (ba (cZ l.aY))):=by
 have hle:=(nX h).1;refine gS 43 [.tmp 2] hm Tryz.func180 fun hl he cV=>?_;refine aC [] (vK l.aY) ?_;refine bS h ?_;rcases aa (l.aY.kind=1) with k1|k1;have k:=eq_true k1;refine bS k ?_;refine aC [] (mK l.aY.A) ?_;refine aC [] (mK l.aY.B) ?_;refine bI ?_;simp[cZ,k1,iu,om,cT];have e:cZ l.aY=l.aY.an:=by simp[cZ,k1]
 rw[e] at hle;refine bS k1 ?_;refine jf hm l.aY.an.length (fun i=>⟨fk 43 .any [(1,.bK 0 0),(3,.aW 1),(4,iv i)],[some (.box (fy (Af l))),some (.aW 31 (ba (l.aY.an.take i)))]⟩) (c9 qR) ?_;rintro i hi;rcases aa (i<l.aY.an.length) with h1|h1;refine uA ?_;refine aC [] (mK l.aY.an[i]) ?_;refine bI ?_;exact⟨i+1,h1,sL,bW [some 0,some 2] sC (by refine sA ?_;exact r8 h1) rfl rfl⟩;refine dB h1 ?_;rw[ak oM,e]
theorem LC(af:List cC)(hl1:af.length≤100)(hw:∀l∈af,dh l.aY=true):CN 124 [lv (cO af)] (lv (ba (aQ af))):=by
 obtain⟨hle,dL⟩:=kC hw;have e:aQ af=bp [] (fC af):=by rw[lW,kp dL]
 refine gS 32 [.tmp 2] hm Tryz.func124 fun hl he cV=>?_;refine jf hm af.length (fun i=>⟨fk 32 .any [(0,lv (cO af)),(3,.aW 0),(4,iv i)],[some (.aW 31 (ba (bp [] (fC (af.take i)))))]⟩) (c9 gE) ?_;rintro i hi;rcases aa (i<af.length) with h1|h1;have hwi:=hw af[i] (ah h1);have h3:=nX hwi;have h2:=kC (af:=af.take i) fun l hl=>hw l (gk hl);have h4:(af.take i).length≤100:=by simp;omega
 refine uA ?_;refine aC [] (Jy af[i] hwi) ?_;refine jf hm ((cZ af[i].aY).length) (fun j=>⟨fk 32 .any [(0,lv (cO af)),(3,.aW 0),(4,iv i),(5,lv (ba (cZ af[i].aY))),(6,iv j)],[some (.aW 31 (ba (bp [] (fC (af.take i)++(cZ af[i].aY).take j))))]⟩) (c9 gE) ?_;rintro j hj;rcases aa (j<(cZ af[i].aY).length) with g1|g1;have ht:=h3.2 (cZ af[i].aY)[j] (ah g1);have vi:∀t∈fC (af.take i)++(cZ af[i].aY).take j,bR t=true:=by intro t ht;rcases List.mem_append.1 ht with ht|ht;exact h2.2 t ht;exact h3.2 t (gk ht)
 have b1:=uj _ [] vi;have b2:(fC (af.take i)++(cZ af[i].aY).take j).length≤410:=by rw[List.length_append,List.length_take];omega
 simp only[List.length_nil] at b1;refine uI ?_;refine oC [] [0,1] (M4 (cZ af[i].aY)[j] 4 _ oM (jt ht) (gr b1 oM)) ?_;refine bI ?_;exact⟨j+1,g1,sL,bW [some 1] sC (by refine sA ?_;(simp only[jN g1,←List.append_assoc,K1,bp])) rfl rfl⟩;have ej:(cZ af[i].aY).take j=cZ af[i].aY:=ak oM;refine dB g1 ?_;exact⟨i+1,h1,sL,bW gE sC (by refine sA ?_;(rw[xF h1,ej])) rfl rfl⟩;have et:af.take i=af:=ak oM;exact p9 h1 et e
theorem N4(s:eV)(ts:List az)(hs:gy s=true)(ht:∀t∈ts,bR t=true)(hl1:ts.length≤10000):CN 125 [av (gi s),lv (ba ts)] (lv (ba (ts.filter (eQ s)))):=by
 refine gS 29 [.tmp 4] hm Tryz.func125 fun hl he cV=>?_;refine jf hm ts.length (fun i=>⟨fk 29 .any [(1,lv (ba ts)),(2,.bK 0 0),(5,.aW 1),(6,iv i)],[some (.box (fy (gi s))),some (.aW 31 (ba ((ts.take i).filter (eQ s))))]⟩) (c9 qR) ?_;rintro i hi;rcases aa (i<ts.length) with h1|h1;have hc:=xq s hs ts[i];have hn:=SL hs (ht ts[i] (ah h1));have hb:((ts.take i).filter (eQ s)).length≤10000:=gr (List.length_filter_le _ _) (by simp;omega);refine uA ?_;refine aC [] hc ?_;refine bI ?_;rcases aa ((ir s ts[i]).getD (-1)=1) with q|q;have k:=eq_true q;have hn:eQ s ts[i]=true:=by rw[hn];exact decide_eq_true q
 simp -implicitDefEqProofs only[go_sem,k,h1];refine sQ ?_;exact⟨i+1,h1,sL,bW [some 0,some 2] sC (by refine sA ?_;(rw[jN h1,jd,←oq];simp[hn,iu,cT])) rfl rfl⟩;have k:=eq_false q;have hn:eQ s ts[i]=false:=by rw[hn];exact decide_eq_false q
 refine dB k ?_;exact⟨i+1,h1,sL,bW qR sC (by refine sA ?_;(rw[jN h1,jd];simp[hn])) rfl rfl⟩;refine dB h1 ?_;rw[ak oM]
theorem KV(s:eV)(af:List cC)(hl1:af.length≤100):CN 78 [av (gi s),lv (cO af)] (bv (gy s&&(af.all (fun l=>hU s l.aY)&&(decide ((aQ af).length≤24)&&decide ((aO s af).length≤4))))):=by
 refine gS 37 [.tmp 4] hm Tryz.func78 fun hl he cV=>?_;refine lZ hm af.length (fun(i:Nat)=>af.all (fun l=>hU s l.aY)=(af.drop i).all (fun l=>hU s l.aY)) (fun i=>⟨fk 37 .any [(1,lv (cO af)),(2,.bK 0 0),(5,iv i)],[some (.box (fy (gi s)))]⟩) ?_ (c9 gE) ?_;simp;rintro i ⟨hi,hg⟩;rcases aa (i<af.length) with h1|h1;rw[ai h1,cY] at hg;refine uA ?_;refine aC [] (N9 s af[i].aY) ?_;refine bI ?_;cases h2:hU s af[i].aY;rw[h2,aZ] at hg;exact fA hg;rw[h2,aN] at hg;refine bI ?_;exact⟨i+1,⟨oM,hg⟩,sL,c9 gE⟩;rw[al oM,fW] at hg;have hw:∀l∈af,dh l.aY=true:=by intro l hl;have:=List.all_eq_true.1 hg l hl;simp only[hU,Bool.and_eq_true] at this;exact this.2.1
 have dL:=(kC hw).2;have htt:∀t∈aQ af,bR t=true:=by rw[lW];exact tR dL
 refine bS h1 ?_;refine aC [] (LC af hl1 hw) ?_;refine aC [] (uV s) ?_;cases h2:gy s;refine sA ?_;refine fv ?_;exact sC;refine sA ?_;rcases aa (((aQ af).length:Int)≤24) with h3|h3;have h3':(aQ af).length≤24:=oM;have e:aO s af=(aQ af).filter (eQ s):=rfl;refine bS h3 ?_;refine oL [] (N4 s (aQ af) h2 htt oM) ?_;simp only[hg,h3',e,decide_true,aN];congr 2;exact decide_eq_decide.2 oM;have h3':¬ (aQ af).length≤24:=oM;exact lJ h3 h3'
theorem Dt(s:eV)(af:List cC):CN 48 [av (gi s),lv (cO af)] (bv (gO s af)):=by refine gS 13 [.tmp 4] hm Tryz.func48 fun hl he cV=>?_;rcases aa ((af.length:Int)≤6) with h|h;have h':af.length≤6:=oM;refine bS h ?_;refine oL [] (KV s af oM) ?_;simp only[gO,h',decide_true,Bool.and_true,Bool.and_assoc];have h':¬af.length≤6:=oM;refine dB h ?_;simp[gO,h']
end Go.Proofs.YtnhdminpjihbnaaGreat
