/-
  The program: the walks of elimination and of systems. A step towards the laws.
-/
import Derived.Test.YtnhdminpjihbnaaGreatKAc
import Derived.Test.YtnhdminpjihbnaaGreatKAu
import Derived.Test.YtnhdminpjihbnaaGreatKAEk
set_option linter.unusedVariables false
set_option linter.unusedSimpArgs false
open Int renaming reduceEq→Z1,reduceLT→Z2,reduceLE→Z3,reduceToNat→Z4
open And renaming intro→aq
open Bool renaming and_eq_true→ab,false_eq_true→aw
open Classical renaming em→aa
open Int renaming gcd→dK
open List renaming getElem_mem→ah,drop_eq_getElem_cons→ai,take_of_length_le→ak,drop_of_length_le→al,replicate→aL,nil_append→bQ,range→cK
open Nat renaming zero_le→bT
open Option renaming getD_some→dG,isSome_some→gw
namespace Go.Proofs.YtnhdminpjihbnaaGreat
open Go.Eng Go.Mod
set_option maxRecDepth 100000
set_option maxHeartbeats 800000
theorem HL(n d:Int)(hn:-1000000000≤n∧n≤1000000000)(hd:-1000000000≤d∧d≤1000000000):CN 246 [iv n,iv d] (.ko [av (lM (nw n d).1),bv (nw n d).2]):=by
 rcases aa (d=0) with h0|h0;have k0:=eq_true h0;refine gS 32 [.cell 4 229,.tmp 5] hm Tryz.func246 fun hl he cV=>?_;refine dB k0 ?_;simp[nw,h0];rcases aa (d<0) with h1|h1;have e:nw n d=if eC ⟨(-n).tdiv (dK (-n) (-d)),(-d).tdiv (dK (-n) (-d))⟩ then(⟨(-n).tdiv (dK (-n) (-d)),(-d).tdiv (dK (-n) (-d))⟩,true) else(ue,false):=by unfold nw;rw[if_neg h0];simp only[if_pos h1]
 have hg:=X2 (n:=-n) (d:=-d) oM;have b1:=yN (n:=-n) (k:=1000000000) hg oM;have b2:=yN (n:=-d) (k:=1000000000) hg oM;have nI:¬ (dK (-n) (-d):Int)=0:=oM;refine gS 32 [.cell 4 229,.tmp 5] hm Tryz.func246 fun hl he cV=>?_;refine pV h0 h1 ?_;refine oL [] (yX (-n) (-d) oM oM) ?_;refine aC [] (jw ⟨(-n).tdiv (dK (-n) (-d)),(-d).tdiv (dK (-n) (-d))⟩) ?_;cases h2:eC ⟨(-n).tdiv (dK (-n) (-d)),(-d).tdiv (dK (-n) (-d))⟩;refine bI ?_;rw[e,if_neg (by rw[h2];simp)];exact⟨⟨rfl,rfl⟩,rfl⟩;refine bI ?_;rw[e,if_pos h2];exact⟨⟨rfl,rfl⟩,rfl⟩;exact y7 n d oM oM
theorem Q6(n d:Int):CN 243 [iv n,iv d] (.ko [av (lM (BD n d).1),bv (BD n d).2]):=by refine gS 20 [.cell 4 229,.tmp 5] hm Tryz.func243 fun hl he cV=>?_;refine aC [] (fw n (-1000000000) 1000000000) ?_;cases g1:c8 n (-1000000000) 1000000000;refine bI ?_;simp[BD,g1];refine sA ?_;refine aC [] (fw d (-1000000000) 1000000000) ?_;cases g2:c8 d (-1000000000) 1000000000;refine bI ?_;simp[BD,g1,g2];have h1:=dM.1 g1;have h2:=dM.1 g2;refine sA ?_;refine aC [] (HL n d h1 h2) ?_;refine bI ?_;simp[BD,g1,g2]
theorem NX(a b:Mod.Rat):CN 203 [av (lM a),av (lM b)] (.ko [av (lM (Bu a b).1),bv (Bu a b).2]):=by refine gS 22 [.cell 4 229,.tmp 5] hm Tryz.func203 fun hl he cV=>?_;refine aC [] (sS a b) ?_;cases g1:(ml a b).2;refine bI ?_;simp[Bu,g1];refine sA ?_;refine aC [] (xO (ml a b).1 ⟨1,2⟩) ?_;refine bI ?_;simp[Bu,g1]
theorem Ai(n:Mod.Rat):CN 248 [av (lM n)] (bv (!eC n)):=by refine gS 6 [.tmp 2] hm Tryz.func248 fun hl he cV=>?_;refine aC [] (jw n) ?_;refine fv ?_;exact sC
theorem uq(aV:List Mod.Rat):CN 205 [lv (dC aV)] (bv (C0 aV)):=by refine gS 11 [.tmp 2] hm Tryz.func205 fun hl he cV=>?_;rcases aa ((aV.length:Int)=4) with h|h;have h':aV.length=4:=oM;have k:=eq_true h;refine bS k ?_;refine aC [] (wA 248 [] rfl (fun n=>!eC n) aV (fun n _=>Ai n)) ?_;refine bI ?_;simp[C0,h',List.all_eq_not_any_not];have h':¬aV.length=4:=oM;refine dB h ?_;simp[C0,h']
theorem Z6{aV:List Mod.Rat}(h:C0 aV=true):aV.length=4:=by simp only[C0,ab,decide_eq_true_eq] at h;exact h.1
theorem Sk(l:mM)(aV:List Mod.Rat):CN 206 [av (mY l),lv (dC aV)] (.ko [bv ((zW l aV).getD false),bv (zW l aV).isSome]):=by
 refine gS 48 [.tmp 4,.tmp 5] hm Tryz.func206 fun hl he cV=>?_;refine aC [] (jv l) ?_;cases g1:jz l;refine bI ?_;simp[zW,g1];refine sA ?_;refine aC [] (uq aV) ?_;cases g2:C0 aV;refine bI ?_;simp[zW,g1,g2];obtain⟨hn1,hc1,hb1⟩:=pn.1 g1;have hv:=Z6 g2;have e:zW l aV=(re l.bw aV (whole 0)).map fun x=>below x l.bJ l.cz:=by simp[zW,g1,g2]
 refine sA ?_;refine aC [] (gp 0) ?_;refine Ag hm l.bw.length (fun(i:Nat) (sum:Mod.Rat)=>re l.bw aV (whole 0)=re (l.bw.drop i) (aV.drop i) sum) (fun i sum=>⟨fk 48 .any [(1,lv (dC aV)),(2,.bK 0 0),(6,.bK 1 0),(21,lv (bj l.bw)),(22,iv l.bw.length),(23,iv i)],[some (.box (fy (mY l))),some (.box (fy (lM sum)))]⟩) (whole 0) ?_ (c9 qR) ?_;simp;rintro i sum ⟨hi,hg⟩;rcases aa (i<l.bw.length) with h1|h1;have h2:i<aV.length:=oM;rw[Tx h1 h2] at hg;refine uJ ?_;refine aC [] (Ba sum l.bw[i] aV[i]) ?_;refine bI ?_;cases h3:(plus sum l.bw[i] aV[i]).2;rw[h3] at hg;simp only[aw,if_false] at hg;rw[hg] at e;exact fA e;rw[h3] at hg;simp only[if_true] at hg;refine bI ?_;exact⟨i+1,(plus sum l.bw[i] aV[i]).1,⟨oM,hg⟩,sL,c9 qR⟩;rw[al oM,L0] at hg;rw[hg] at e;refine bS h1 ?_;refine aC [] (E2 sum l.bJ l.cz) ?_;exact fA e
theorem On(ls:List mM)(aV:List Mod.Rat):CN 163 [lv (gq ls),lv (dC aV)] (bv (rG ls aV)):=by
 refine gS 36 [.tmp 4] hm Tryz.func163 fun hl he cV=>?_;refine aC [] (ql ls) ?_;cases g1:oa ls;refine bI ?_;simp[rG,g1];refine sA ?_;refine aC [] (uq aV) ?_;cases g2:C0 aV;refine bI ?_;simp[rG,g1,g2];have e:rG ls aV=ls.all fun l=>decide (zW l aV=some true):=by simp[rG,g1,g2]
 refine sA ?_;refine lZ hm ls.length (fun(i:Nat)=>rG ls aV=(ls.drop i).all fun l=>decide (zW l aV=some true)) (fun i=>⟨fk 36 .any [(1,lv (dC aV)),(17,lv (gq ls)),(18,iv ls.length),(19,iv i)],[]⟩) ?_ (c9 []) ?_;simp[e];rintro i ⟨hi,hg⟩;rcases aa (i<ls.length) with h1|h1
 ·rw[ai h1,List.all_cons] at hg;refine uA ?_;refine aC [] (Sk ls[i] aV) ?_;cases h2:zW ls[i] aV with
  | none=>rw[h2] at hg;exact fA hg
  | some b=>rw[h2] at hg;cases b;exact fA hg;refine bI ?_;refine⟨i+1,?_,sL,c9 []⟩;refine⟨oM,?_⟩;rw[hg];simp
 rw[al oM,List.all_nil] at hg;exact lJ h1 hg
def cUT(r:gD):List T:=[.eK (.eP (bj r.wE.bw)),.eK (.val (.int .i64 r.wE.bJ)),.eK (.val (.bool r.wE.cz)),.own 3 (rE r.oI)]
def uT(l:List gD):List (List T):=l.map cUT
theorem Wp:∀(l:List gD),bA (uT l)=some (iZ l)
 | []=>rfl
 | s::l=>by have:=Wp l;simp only[uT,List.map_cons] at this⊢;simp[bA,dJ,T.Ah,cUT,yv,this,iZ,cU]
theorem abt(l:List gD):(uT l).length=l.length:=by simp[uT]
theorem ah1(l:List gD)(t:gD):uT l++[cUT t]=uT (l++[t]):=by simp[uT]
theorem ajn(l:List gD):(bA (uT l)).isSome=true:=by rw[Wp];rfl
attribute [go_sem] Wp abt
theorem Vc{n i:Nat}(h:i<n):(bj (aL n 0)).set i [.val (.int .i64 1)]=bj (zS n i):=by rw[zS,←yg (by simpa using h)]
theorem Vb{n i:Nat}(h:i<n):lift ((bj (aL n 0)).set i (vz (row (bj (aL n 0)) i) 0 [.val (.int .i64 1)]))=rE (zS n i):=by
 have e:vz (row (bj (aL n 0)) i) 0 [.val (.int .i64 1)]=[D.val (.int .i64 1)]:=by rw[Ce (by simpa using h)];simp[vz]
 rw[e,Vc h,zw]
theorem Y8{ls:List mM}{i:Nat}(h:i<ls.length):uT ((cK i).map fun i=>⟨ls.getD i uZ,zS ls.length i⟩)++[[.eK (.eP (bj ls[i].bw)),.eK (.val (.int .i64 ls[i].bJ)),.eK (.val (.bool ls[i].cz)),.own 3 (rE (zS ls.length i))]]=uT ((cK i++[i]).map fun i=>⟨ls.getD i uZ,zS ls.length i⟩):=by rw[List.map_append,List.map_singleton,ji h,←ah1];rfl
theorem Jk(ls:List mM)(hl:ls.length≤100):CN 157 [lv (gq ls)] (lv (iZ (dy ls))):=by
 refine gS 28 [.tmp 2] hm Tryz.func157 fun hl he cV=>?_;refine jf hm ls.length (fun i=>⟨fk 28 .any [(0,lv (gq ls)),(3,.aW 0),(7,lv (gq ls)),(8,iv ls.length),(9,iv i)],[some (.e9 225 (uT ((cK i).map fun i=>⟨ls.getD i uZ,zS ls.length i⟩)))]⟩) (c9 [none]) ?_;rintro i hi;have hp:(uT ((cK i).map fun i=>(⟨ls.getD i uZ,zS ls.length i⟩:gD))).length=i:=by rw[abt];simp
 rcases aa (i<ls.length) with h1|h1
 ·have hz:aL ls.length ([D.val (Value.int .i64 0)]:List D)=bj (aL ls.length 0):=(by simp[bj]);refine uA ?_;refine sQ ?_;simp -implicitDefEqProofs only[go_sem,hz];refine⟨i+1,?_,?_,pQ 4 i _ rfl (by rw[List.length_append,hp];simp) (ll hp) ?_⟩;rotate_left;show _ < _;omega
  ·refine sA ?_;refine bW [some 4] ?_ ?_ rfl rfl;exact sC;refine sA ?_;all_goals(rw[je hp,Vb h1];exact⟨Y8 h1,(congrArg (fun z=>(bA z).isSome) (Y8 h1)).trans (ajn _)⟩)
  exact h1
 refine dB h1 ?_;obtain rfl:i=ls.length:=oM;exact⟨_,rfl,rfl⟩
theorem Oc(n v:Nat)(a b:gD)(ha:TX n a)(hb:TX n b)(hn:n≤100)(hv:v<4)(h1:0<eU a v)(h2:eU b v<0):CN 198 [av (cU a),av (cU b),iv v] (.ko [av (cU (Tg a b v)),bv (HE a b v)]):=by
 have ca:=ha.aeN v;have cb:=hb.aeN v;obtain⟨⟨hg1,hg2⟩,⟨hp1,hp2⟩,⟨hq1,hq2⟩⟩:=YL ha hb h1 h2;have la:v<a.wE.bw.length:=by rw[(pn.1 ha.wE).1];exact hv
 have lb:v<b.wE.bw.length:=by rw[(pn.1 hb.wE).1];exact hv
 have ea:a.wE.bw[v]=eU a v:=(ji la).symm;have eb:b.wE.bw[v]=eU b v:=(ji lb).symm;have hal:=ha.len;have hbl:=hb.len;have eg:(dK (eU a v) (-(eU b v)):Int)=Gk a b v:=rfl;have ep:(eU a v).tdiv (Gk a b v)=AL a b v:=rfl;have eq:(-(eU b v)).tdiv (Gk a b v)=AB a b v:=rfl;have e1:Tg a b v=⟨(jP a.wE (AB a b v) b.wE (AL a b v)).1,AW a b v⟩:=rfl;have e2:HE a b v=((jP a.wE (AB a b v) b.wE (AL a b v)).2&&(AW a b v).all fun n=>decide (n≤1000000)):=rfl;have e3:AW a b v=jW (AB a b v) (AL a b v) a.oI b.oI:=rfl;generalize Gk a b v=g at *;generalize AL a b v=p at *;generalize AB a b v=q at *;refine gS 85 [.cell 6 225,.tmp 7] hm Tryz.func198 fun hl he cV=>?_;refine kY la lb (aq ea eb) ?_;refine aC [] (yX (eU a v) (-(eU b v)) oM oM) ?_;refine bS eg ?_;refine pV ep eq ?_;refine aC [] (CS a.wE q b.wE p) ?_;obtain⟨l,hl⟩:∃l,(jP a.wE q b.wE p).1=l:=⟨_,rfl⟩;obtain⟨ok,dL⟩:∃l,(jP a.wE q b.wE p).2=l:=⟨_,rfl⟩;rw[hl] at e1;rw[dL] at e2;refine lf hl dL ?_;refine Ag hm n (fun(i:Nat) (o:Bool)=>o=(ok&&(jW q p (a.oI.take i) (b.oI.take i)).all fun n=>decide (n≤1000000))) (fun i o=>⟨fk 85 .any [(3,.bK 0 0),(4,.bK 1 0),(6,.bK 2 0),(8,iv p),(9,iv q),(12,bv o),(13,.bK 3 0),(52,iv n),(53,iv i)],[some (.box (fy (cU a))),some (.box (fy (cU b))),some (.box (fy (cU ⟨uZ,[]⟩))),some (.box [lv (bj l.bw),iv l.bJ,bv l.cz,.aW 4]),some (.aW 3 (bj (jW q p (a.oI.take i) (b.oI.take i))))]⟩) (ok) ?_ (c9 [some 0,some 1,some 2,some 4,none]) ?_;simp[jW];rintro i o ⟨hi,ho⟩;rcases aa (i<n) with h3|h3;have h4:i<a.oI.length:=oM;have h5:i<b.oI.length:=oM;have b1:=ha.bd a.oI[i] (ah h4);have b2:=hb.bd b.oI[i] (ah h5);have m1:=jO (m:=q) (b:=a.oI[i]) oM hq2 oM;have m2:=jO (m:=p) (b:=b.oI[i]) oM hp2 oM;have fj:(jW q p (a.oI.take i) (b.oI.take i)).length≤100:=by rw[tF (by simp;omega)];simp;omega
 have ho2:(ok&&(jW q p (a.oI.take (i+1)) (b.oI.take (i+1))).all fun n=>decide (n≤1000000))=(o&&decide (q*a.oI[i]+p*b.oI[i]≤1000000)):=by rw[ho,kP h4 h5,List.all_append,←Bool.and_assoc];simp
 cases o;simp -implicitDefEqProofs only[go_sem,h3,h4,h5];refine sQ ?_;exact⟨i+1,false,⟨h3,by rw[ho2];rfl⟩,sL,bW [some 0,some 1,some 2,some 3,some 5] sC (by refine sA ?_;(rw[kP h4 h5,←fa];rfl)) rfl rfl⟩;simp -implicitDefEqProofs only[go_sem,h3,h4,h5];refine sQ ?_;exact⟨i+1,(decide (q*a.oI[i]+p*b.oI[i]≤1000000)),⟨h3,by rw[ho2];simp⟩,sL,bW [some 0,some 1,some 2,some 3,some 5] sC (by refine sA ?_;(rw[kP h4 h5,←fa];rfl)) rfl rfl⟩;have ta:a.oI.take i=a.oI:=ak oM;have tb:b.oI.take i=b.oI:=ak oM;rw[ta,tb,←e3] at ho⊢;rw[←e2] at ho;refine bS h3 ?_;refine An ?_;rw[e1,ho];repeat' apply aq
 all_goals rfl
theorem E9{n v:Nat}{r:gD}(h:TX n r)(hv:v<4):∃h:v<r.wE.bw.length,r.wE.bw[v]=eU r v:=by
 have la:v<r.wE.bw.length:=by rw[(pn.1 h.wE).1];exact hv
 exact⟨la,(ji la).symm⟩
theorem wS(n v:Nat)(aK:List gD)(hr:W7 n aK)(hn:n≤100)(hv:v<4):CN 158 [lv (iZ aK),iv v] (.ko [lv (iZ ((oz aK v).getD [])),bv (oz aK v).isSome]):=by
 obtain⟨fj,l6⟩:=hr;refine gS 85 [.tmp 4,.tmp 5] hm Tryz.func158 fun hl he cV=>?_;refine jf hm aK.length (fun i=>⟨fk 85 .any [(0,lv (iZ aK)),(1,iv v),(6,.aW 0),(15,lv (iZ aK)),(16,iv aK.length),(17,iv i)],[some (.aW 225 (iZ ((aK.take i).filter fun r=>decide (eU r v=0))))]⟩) (c9 [none]) ?_;rintro i hi;have hfl:((aK.take i).filter fun r=>decide (eU r v=0)).length≤200:=by have:=List.length_filter_le (fun r:gD=>decide (eU r v=0)) (aK.take i);rw[List.length_take] at this;omega
 rcases aa (i<aK.length) with h1|h1;obtain⟨la,ea⟩:=E9 (l6 aK[i] (ah h1)) hv;have hs:=Te (p:=fun r:gD=>decide (eU r v=0)) h1;rcases aa (eU aK[i] v=0) with h2|h2;have k2:=eq_true h2;rw[if_pos (by simpa using h2)] at hs;simp -implicitDefEqProofs only[go_sem,h1,la,ea,k2];refine sQ ?_;exact⟨i+1,h1,sL,bW [some 2] sC (by refine sA ?_;(rw[hs,←Ps,Mh,GM];rfl)) rfl rfl⟩;rw[if_neg (by simpa using h2),List.append_nil] at hs;simp -implicitDefEqProofs only[go_sem,h1,la,ea,h2];refine sQ ?_;exact⟨i+1,h1,sL,c9 gE⟩;have et:aK.take i=aK:=ak oM;rw[et] at hfl⊢;obtain⟨out0,ho0⟩:∃o,(aK.filter fun r=>decide (eU r v=0))=o:=⟨_,rfl⟩;have hL:oz aK v=qZ v (zA aK aK v) out0:=by rw[←ho0];rfl
 rw[ho0] at hfl⊢;refine bS h1 ?_;clear hi h1;refine Ag hm aK.length (fun(i:Nat) (out:List gD)=>out.length≤200∧oz aK v=qZ v (zA aK (aK.drop i) v) out) (fun i out=>⟨fk 85 .any [(0,lv (iZ aK)),(1,iv v),(6,.aW 0),(33,lv (iZ aK)),(34,iv aK.length),(35,iv i)],[some (.aW 225 (iZ out))]⟩) (out0) ?_ (c9 gE) ?_;exact⟨bT _,hfl,hL⟩;rintro i out ⟨hi,ho,hg⟩;rcases aa (i<aK.length) with h1|h1;have ua:=l6 aK[i] (ah h1);rw[SC h1] at hg;obtain⟨a,ha⟩:∃a,aK[i]=a:=⟨_,rfl⟩;rw[ha] at ua hg;obtain⟨la,ea⟩:=E9 ua hv;refine lf h1 ha ?_;refine Ag hm aK.length (fun(j:Nat) (out:List gD)=>out.length≤200∧oz aK v=qZ v (zK a v (aK.drop j)++zA aK (aK.drop (i+1)) v) out) (fun j out=>⟨fk 85 .any [(0,lv (iZ aK)),(1,iv v),(6,.aW 0),(10,.bK 1 0),(33,lv (iZ aK)),(34,iv aK.length),(35,iv i),(39,lv (iZ aK)),(40,iv aK.length),(41,iv j)],[some (.aW 225 (iZ out)),some (.box (fy (cU a)))]⟩) (out) ?_ (c9 qR) ?_;exact⟨bT _,ho,hg⟩;rintro j out ⟨hj,ho,hg⟩;rcases aa (j<aK.length) with h3|h3;have ub:=l6 aK[j] (ah h3);rw[Tb h3] at hg;obtain⟨b,hb⟩:∃b,aK[j]=b:=⟨_,rfl⟩;rw[hb] at ub hg;obtain⟨lb,eb⟩:=E9 ub hv;rcases aa (eU a v≤0) with h4|h4;rw[if_neg oM,bQ] at hg;refine kY h3 la (aq ea (aq h4 hb)) ?_;exact⟨j+1,out,⟨oM,ho,hg⟩,sL,c9 qR⟩;rcases aa (0≤eU b v) with h5|h5;rw[if_neg oM,bQ] at hg;refine kY h3 la (aq ea (aq h4 (aq hb (aq lb (aq eb h5))))) ?_;exact⟨j+1,out,⟨oM,ho,hg⟩,sL,c9 qR⟩;rw[if_pos oM] at hg;simp only[List.cons_append,bQ,qZ] at hg;refine xE h3 la (aq ea (aq h4 (aq hb (aq lb (aq eb h5))))) ?_;refine aC [] (Oc n v a b ua ub hn hv oM oM) ?_;cases h6:HE a b v;rw[if_neg (by rw[h6];simp)] at hg;exact fA hg;rcases aa ((out.length:Int)=200) with h7|h7;have k7:=eq_true h7;rw[if_neg oM] at hg;exact lJ k7 hg;rw[if_pos ⟨h6,oM⟩] at hg;refine dB h7 ?_;exact⟨j+1,out++[Tg a b v],⟨oM,by simp;omega,hg⟩,sL,bW [some 4,some 1] sC (by refine sA ?_;(rw[←Ps,Mh,GM];rfl)) rfl rfl⟩;rw[al (by omega:aK.length≤j)] at hg;refine dB h3 ?_;exact⟨i+1,out,⟨oM,ho,by simpa[zK] using hg⟩,sL,c9 gE⟩;rw[al oM] at hg;have ho':(out.length:Int)≤200:=oM;exact p9 h1 ho' hg
theorem Mi(v:Nat)(l:mM)(aV:List Mod.Rat)(hl:jz l=true)(h4:aV.length=4)(hv:v<4):CN 201 [av (mY l),iv v,lv (dC aV)] (.ko [av (lM ((rD l v aV).getD ue)),bv (rD l v aV).isSome]):=by
 obtain⟨hn1,hc1,hb1⟩:=pn.1 hl;have lv1:v<l.bw.length:=oM;have ev:l.bw.getD v 0=l.bw[v]:=ji lv1;refine gS 62 [.cell 6 229,.tmp 7] hm Tryz.func201 fun hl he cV=>?_;refine aC [] (gp l.bJ) ?_;refine Ag hm l.bw.length (fun(i:Nat) (sum:Mod.Rat)=>xy v 0 l.bw aV (whole l.bJ)=xy v i (l.bw.drop i) (aV.drop i) sum) (fun i sum=>⟨fk 62 .any [(1,iv v),(2,lv (dC aV)),(3,.bK 0 0),(6,.bK 1 0),(8,.bK 2 0),(19,lv (bj l.bw)),(20,iv l.bw.length),(21,iv i)],[some (.box (fy (mY l))),some (.box (fy (lM ue))),some (.box (fy (lM sum)))]⟩) (whole l.bJ) ?_ (c9 sa) ?_;simp;rintro i sum ⟨hi,hg⟩;rcases aa (i<l.bw.length) with h1|h1;have h2:i<aV.length:=oM;rw[Sw h1 h2] at hg;rcases aa (i=v) with h3|h3;have k3:((i:Int)=(v:Int))=True:=eq_true oM;rw[if_pos h3] at hg;simp -implicitDefEqProofs only[go_sem,h1,k3];refine sQ ?_;exact⟨i+1,sum,⟨oM,hg⟩,sL,c9 sa⟩;have k3:¬ (i:Int)=(v:Int):=oM;have cb:=hc1 l.bw[i] (ah h1);rw[if_neg h3] at hg;simp -implicitDefEqProofs only[go_sem,h1,h2,k3];refine sQ ?_;refine aC [] (Ba sum (-l.bw[i]) aV[i]) ?_;refine iK ?_;cases h5:(plus sum (-l.bw[i]) aV[i]).2;rw[h5] at hg;simp only[aw,if_false] at hg;have e:rD l v aV=none:=by simp[rD,hg]
 exact fA e;rw[h5] at hg;simp only[if_true] at hg;refine bI ?_;exact⟨i+1,(plus sum (-l.bw[i]) aV[i]).1,⟨oM,hg⟩,sL,c9 sa⟩;rw[al oM,Vp] at hg;simp -implicitDefEqProofs only[go_sem,h1,lv1];refine aC [] (Q6 1 l.bw[v]) ?_;cases h5:(BD 1 l.bw[v]).2;have e:rD l v aV=none:=by simp[rD,hg,h5,lv1]
 exact fA e;have e:rD l v aV=XC (nz sum (BD 1 l.bw[v]).1):=by simp[rD,hg,h5,lv1]
 refine sA ?_;refine aC [] (xO sum (BD 1 l.bw[v]).1) ?_;obtain⟨o1,o2⟩:=Py (x:=nz sum (BD 1 l.bw[v]).1) H9;exact p9 e o1 o2
theorem rr(n v:Nat)(aK:List gD)(aV:List Mod.Rat)(hr:W7 n aK)(h4:aV.length=4)(hv:v<4):CN 162 [lv (iZ aK),iv v,lv (dC aV)] (.ko [av (lM ((valueOf aK v aV).getD ue)),bv (valueOf aK v aV).isSome]):=by
 obtain⟨fj,l6⟩:=hr;refine gS 95 [.cell 6 229,.tmp 7] hm Tryz.func162 fun hl he cV=>?_;refine aeg hm aK.length (fun(i:Nat) (lo:Option Mod.Rat) (hi:Option Mod.Rat)=>ui v aV aK none none=ui v aV (aK.drop i) lo hi) (fun i lo hi=>⟨fk 95 .any [(1,iv v),(2,lv (dC aV)),(6,.bK 0 0),(8,.bK 1 0),(9,.bK 2 0),(10,bv lo.isSome),(11,bv hi.isSome),(17,lv (iZ aK)),(18,iv aK.length),(19,iv i)],[some (.box (fy (lM ue))),some (.box (fy (lM (lo.getD ue)))),some (.box (fy (lM (hi.getD ue))))]⟩) (none) (none) ?_ (c9 sa) ?_;simp;rintro i lo hi ⟨hi1,hg⟩;rcases aa (i<aK.length) with h1|h1
 ·have ua:=l6 aK[i] (ah h1);obtain⟨la,ea⟩:=E9 ua hv;rw[Ta h1] at hg;rcases aa (eU aK[i] v=0) with h2|h2;have k2:=eq_true h2;rw[if_pos h2] at hg;simp -implicitDefEqProofs only[go_sem,h1,la,ea,k2];refine sQ ?_;exact⟨i+1,lo,hi,⟨oM,hg⟩,sL,c9 sa⟩;rw[if_neg h2] at hg;simp -implicitDefEqProofs only[go_sem,h1,la,ea,h2];refine aC [] (Mi v aK[i].wE aV ua.wE h4 hv) ?_;cases hb:rD aK[i].wE v aV with
  | none=>rw[hb] at hg;simp only at hg;have e:valueOf aK v aV=none:=(by simp[valueOf,hg]);exact fA e
  | some b=>
   rw[hb] at hg;simp only at hg;rcases aa (0<eU aK[i] v) with h3|h3
   ·rw[if_pos h3] at hg;have h3':¬eU aK[i] v<0:=oM;cases hi with
    | none=>rw[show lower b none=true from rfl,if_pos rfl] at hg;refine dB h3 ?_;exact⟨i+1,lo,some b,⟨oM,hg⟩,sL,c9 sa⟩
    | some h=>rw[show lower b (some h)=gW b h from rfl] at hg;refine bS h3 ?_;refine aC [] (ni b h) ?_;cases h5:gW b h;rw[h5,if_neg (by simp)] at hg;refine dB h3' ?_;exact⟨i+1,lo,some h,⟨oM,hg⟩,sL,c9 sa⟩;rw[h5,if_pos rfl] at hg;refine bI ?_;exact⟨i+1,lo,some b,⟨oM,hg⟩,sL,c9 sa⟩
   rw[if_neg h3] at hg;have h3':eU aK[i] v<0:=oM;cases lo with
   | none=>rw[show upper b none=true from rfl,if_pos rfl] at hg;refine pV h3 h3' ?_;exact⟨i+1,some b,hi,⟨oM,hg⟩,sL,c9 sa⟩
   | some l=>rw[show upper b (some l)=gW l b from rfl] at hg;refine lf h3 h3' ?_;refine aC [] (ni l b) ?_;cases h5:gW l b;rw[h5,if_neg (by simp)] at hg;refine bI ?_;exact⟨i+1,some l,hi,⟨oM,hg⟩,sL,c9 sa⟩;rw[h5,if_pos rfl] at hg;refine bI ?_;exact⟨i+1,some b,hi,⟨oM,hg⟩,sL,c9 sa⟩
 rw[al oM,ui] at hg;have e:valueOf aK v aV=XC (E0 lo hi):=by simp[valueOf,hg]
 obtain⟨o1,o2⟩:=Py (x:=E0 lo hi) Qm;rw[e,o1,o2];cases lo with
 | none=>
  cases hi with
  | none=>refine bS h1 ?_;refine aC [] (gp 0) ?_;exact qE
  | some h=>refine bS h1 ?_;refine aC [] (gp (-1)) ?_;refine aC [] (sS h (whole (-1))) ?_;exact qE
 | some l=>
  cases hi with
  | none=>refine bS h1 ?_;refine aC [] (gp 1) ?_;refine aC [] (sS l (whole 1)) ?_;exact qE
  | some h=>refine bS h1 ?_;refine aC [] (NX l h) ?_;exact qE
structure St4 where
 aK:List gD
 s0:List gD
 s1:List gD
 s2:List gD
 s3:List gD
def aj2(ls:List mM)(z:Int)(t:St4):Prop:=
 (z=3∧t=⟨dy ls,[],[],[],[]⟩)∨(z=2∧∃r2,oz (dy ls) 3=some r2∧t=⟨r2,[],[],[],dy ls⟩) ∨
 (z=1∧∃r2 r1,oz (dy ls) 3=some r2∧oz r2 2=some r1∧t=⟨r1,[],[],r2,dy ls⟩) ∨
 (z=0∧∃r2 r1 r0,oz (dy ls) 3=some r2∧oz r2 2=some r1∧oz r1 1=some r0∧t=⟨r0,[],r1,r2,dy ls⟩) ∨
 (z = -1∧∃r2 r1 r0 r,oz (dy ls) 3=some r2∧oz r2 2=some r1∧oz r1 1=some r0∧oz r0 0=some r∧t=⟨r,r0,r1,r2,dy ls⟩)
theorem Ol(ls:List mM):CN 105 [lv (gq ls)] (.ko [lv (dC (dX ls).aV),lv (bj (dX ls).bt),iv (dX ls).code]):=by
 cases hsys:oa ls;have e:dX ls=⟨[],[],3⟩:=by simp[dX,hsys]
 refine gS 86 [.tmp 2,.tmp 3,.tmp 4] hm Tryz.func105 fun hl he cV=>?_;refine aC [] (ql ls) ?_;exact lJ hsys e;have h20:ls.length≤20:=by simp only[oa,ab,decide_eq_true_eq] at hsys;exact hsys.1
 have u3:=Sp hsys;have cV:=oc;refine rF (nt:=86) (rs:=[.tmp 2,.tmp 3,.tmp 4]) Tryz.func105 rfl rfl rfl rfl rfl (fun hl he=>?_);simp -implicitDefEqProofs only[go_sem] at hl he⊢;refine dD (fh hm ?_);simp -implicitDefEqProofs only[go_sem,bO,ck];refine dD (fh hm ?_);refine sA ?_;refine aC [] (ql ls) ?_;refine bS hsys ?_;refine dD (fh hm ?_);refine sA ?_;refine aC [] (Jk ls oM) ?_;refine dD (fh hm ?_);refine sA ?_;refine dD (fh hm ?_);refine sA ?_;refine pY hm (fun(z:Int) (t:St4)=> aj2 ls z t) (fun z t=> ⟨fk 86 .any [(0,lv (gq ls)),(5,lv (iZ t.aK)),(6,.bK 0 0),(7,iv z)],[some (.box [lv (iZ t.s0),lv (iZ t.s1),lv (iZ t.s2),lv (iZ t.s3)])]⟩) (fun z t=> (z+1).toNat) (3) (⟨dy ls,[],[],[],[]⟩) ?_ (c9 gE) ?_;exact .inl ⟨rfl,rfl⟩;rintro z t hz;rcases hz with⟨rfl,rfl⟩|⟨rfl,r2,g3,rfl⟩|⟨rfl,r2,r1,g3,g2,rfl⟩|⟨rfl,r2,r1,r0,g3,g2,g1,rfl⟩|⟨rfl,r2,r1,r0,aK,g3,g2,g1,g0,rfl⟩
 ·simp only;have hu:=u3;have cl:=wS ls.length 3 (dy ls) hu oM oM;simp -implicitDefEqProofs only[go_sem,Z3,Z4];refine sQ ?_;refine aC [] cl ?_;cases hl:oz (dy ls) 3 with
  | none=>have e:dX ls=⟨[],[],2⟩:=(by simp[dX, *]);refine CJ ?_;refine dw ?_;exact fA e
  | some r=>refine bI ?_;exact⟨(2:Int),⟨r,[],[],[],dy ls⟩,.inr (.inl ⟨rfl,r,hl,rfl⟩),sL,c9 gE⟩
 ·simp only;have hu:=pS u3 g3;have cl:=wS ls.length 2 r2 hu oM oM;simp -implicitDefEqProofs only[go_sem,Z3,Z4];refine sQ ?_;refine aC [] cl ?_;cases hl:oz r2 2 with
  | none=>have e:dX ls=⟨[],[],2⟩:=(by simp[dX, *]);refine CJ ?_;refine dw ?_;exact fA e
  | some r=>refine bI ?_;exact⟨(1:Int),⟨r,[],[],r2,dy ls⟩,.inr (.inr (.inl ⟨rfl,r2,r,g3,hl,rfl⟩)),sL,c9 gE⟩
 ·simp only;have hu:=pS (pS u3 g3) g2;have cl:=wS ls.length 1 r1 hu oM oM;simp -implicitDefEqProofs only[go_sem,Z3,Z4];refine sQ ?_;refine aC [] cl ?_;cases hl:oz r1 1 with
  | none=>have e:dX ls=⟨[],[],2⟩:=(by simp[dX, *]);refine CJ ?_;refine dw ?_;exact fA e
  | some r=>refine bI ?_;exact⟨(0:Int),⟨r,[],r1,r2,dy ls⟩,.inr (.inr (.inr (.inl ⟨rfl,r2,r1,r,g3,g2,hl,rfl⟩))),sL,c9 gE⟩
 ·simp only;have hu:=pS (pS (pS u3 g3) g2) g1;have cl:=wS ls.length 0 r0 hu oM oM;refine sA ?_;refine aC [] cl ?_;cases hl:oz r0 0 with
  | none=>have e:dX ls=⟨[],[],2⟩:=(by simp[dX, *]);refine CJ ?_;refine dw ?_;exact fA e
  | some r=>refine bI ?_;exact⟨(-1:Int),⟨r,r0,r1,r2,dy ls⟩,.inr (.inr (.inr (.inr ⟨rfl,r2,r1,r0,r,g3,g2,g1,hl,rfl⟩))),sL,c9 gE⟩
 simp only;have u2:=pS u3 g3;have u1:=pS u2 g2;have u0:=pS u1 g1;have ur:=pS u0 g0;have hrl:=ur.1;have hF:dX ls=mO ls r0 r1 r2 (dy ls) aK:=by simp[dX,hsys,g3,g2,g1,g0]
 clear g3 g2 g1 g0;simp -implicitDefEqProofs only[go_sem,Z3];refine dD (fh hm ?_);refine sA ?_;refine lZ hm aK.length (fun(i:Nat)=>(aK.find? fun r=>tN r.wE)=(aK.drop i).find? fun r=>tN r.wE) (fun i=>⟨fk 86 .any [(0,lv (gq ls)),(6,.bK 0 0),(37,lv (iZ aK)),(38,iv aK.length),(39,iv i)],[some (.box [lv (iZ r0),lv (iZ r1),lv (iZ r2),lv (iZ (dy ls))])]⟩) ?_ (c9 gE) ?_;simp;rintro i ⟨hi,xu⟩;rcases aa (i<aK.length) with h1|h1;have ua:=ur.2 aK[i] (ah h1);rw[ai h1,List.find?_cons] at xu;refine uA ?_;refine aC [] (CX aK[i].wE) ?_;cases hb:tN aK[i].wE;rw[hb] at xu;refine bI ?_;exact⟨i+1,⟨oM,xu⟩,sL,c9 gE⟩;rw[hb] at xu;simp only at xu;have hal:=ua.len;refine sA ?_;refine aC [] (RH ls aK[i].oI) ?_;cases hf:Dd ls aK[i].oI;have e:dX ls=⟨[],[],2⟩:=by rw[hF,mO,xu];simp[hf]
 refine sA ?_;refine dw ?_;exact fA e;have e:dX ls=⟨[],aK[i].oI,1⟩:=by rw[hF,mO,xu];simp[hf]
 refine sA ?_;refine aC [] (BN aK[i].oI oM) ?_;refine dw ?_;exact fA e;rw[al oM,List.find?_nil] at xu;refine bS h1 ?_;refine dD (wh ?_);refine uu rfl ?_;refine aC [] (gp 0) ?_;refine uu rfl ?_;refine aC [] (gp 0) ?_;refine uu rfl ?_;refine aC [] (gp 0) ?_;refine uu rfl ?_;refine aC [] (gp 0) ?_;refine uu rfl (hY (DD 173 229 4 1 _ _ _ (dC Bc) rfl rfl rfl rfl rfl (by simp -implicitDefEqProofs only[go_sem];rfl) (by decide) (by decide) rfl) ?_);refine sA ?_;refine uu rfl (rv ?_);refine sA ?_;refine D6 ?_;refine sA ?_;refine dD (fh hm ?_);refine sA ?_;refine pY hm (fun(z:Int) (aV:List Mod.Rat)=> aV.length=4∧((z=0∧pH [r0,r1,r2,dy ls] 0 Bc=pH [r0,r1,r2,dy ls] 0 aV)∨(z=1∧pH [r0,r1,r2,dy ls] 0 Bc=pH [r1,r2,dy ls] 1 aV)∨(z=2∧pH [r0,r1,r2,dy ls] 0 Bc=pH [r2,dy ls] 2 aV)∨(z=3∧pH [r0,r1,r2,dy ls] 0 Bc=pH [dy ls] 3 aV)∨(z=4∧pH [r0,r1,r2,dy ls] 0 Bc=some aV))) (fun z aV=> ⟨fk 86 .any [(0,lv (gq ls)),(6,.bK 0 0),(12,.aW 1),(61,iv 4),(62,iv z)],[some (.box [lv (iZ r0),lv (iZ r1),lv (iZ r2),lv (iZ (dy ls))]),some (.aW 229 (dC aV))]⟩) (fun z aV=> (4-z).toNat) (0) (Bc) ?_ (c9 qR) ?_;exact⟨rfl,.inl ⟨rfl,rfl⟩⟩;rintro z aV ⟨hv4,hg⟩;have hLv:(dC aV).length=4:=by rw[I7];exact hv4
 rcases hg with⟨rfl,hg⟩|⟨rfl,hg⟩|⟨rfl,hg⟩|⟨rfl,hg⟩|⟨rfl,hg⟩
 ·have cv:=rr ls.length 0 r0 aV (by assumption) hv4 oM;simp -implicitDefEqProofs only[go_sem,Z2];refine CM [] [1] cv ?_;cases hx:valueOf r0 0 aV with
  | none=>rw[xb (st:=[r1,r2,dy ls]) hx] at hg;have e:dX ls=⟨[],[],2⟩:=(by rw[hF,mO,xu];simp only[hg]);refine CJ ?_;refine dw ?_;exact fA e
  | some x=>rw[wT (st:=[r1,r2,dy ls]) hx] at hg;refine bI ?_;exact⟨(1:Int),aV.set 0 x,⟨by simpa using hv4,.inr (.inl ⟨rfl,hg⟩)⟩,sL,bW qR (by refine sA ?_;simp[*];done) (by refine sA ?_;exact wZ oM) rfl rfl⟩
 ·have cv:=rr ls.length 1 r1 aV (by assumption) hv4 oM;simp -implicitDefEqProofs only[go_sem,Z2,Z3,Z4];refine sQ ?_;refine CM [] [1] cv ?_;cases hx:valueOf r1 1 aV with
  | none=>rw[xb (st:=[r2,dy ls]) hx] at hg;have e:dX ls=⟨[],[],2⟩:=(by rw[hF,mO,xu];simp only[hg]);refine CJ ?_;refine dw ?_;exact fA e
  | some x=>rw[wT (st:=[r2,dy ls]) hx] at hg;simp -implicitDefEqProofs only[go_sem,Z3,Z4,gw,dG];refine sQ ?_;exact⟨(2:Int),aV.set 1 x,⟨by simpa using hv4,.inr (.inr (.inl ⟨rfl,hg⟩))⟩,sL,bW qR (by refine sA ?_;simp[*];done) (by refine sA ?_;exact wZ oM) rfl rfl⟩
 ·have cv:=rr ls.length 2 r2 aV (by assumption) hv4 oM;simp -implicitDefEqProofs only[go_sem,Z2,Z3,Z4];refine sQ ?_;refine CM [] [1] cv ?_;cases hx:valueOf r2 2 aV with
  | none=>rw[xb (st:=[dy ls]) hx] at hg;have e:dX ls=⟨[],[],2⟩:=(by rw[hF,mO,xu];simp only[hg]);refine CJ ?_;refine dw ?_;exact fA e
  | some x=>rw[wT (st:=[dy ls]) hx] at hg;simp -implicitDefEqProofs only[go_sem,Z3,Z4,gw,dG];refine sQ ?_;exact⟨(3:Int),aV.set 2 x,⟨by simpa using hv4,.inr (.inr (.inr (.inl ⟨rfl,hg⟩)))⟩,sL,bW qR (by refine sA ?_;simp[*];done) (by refine sA ?_;exact wZ oM) rfl rfl⟩
 ·have cv:=rr ls.length 3 (dy ls) aV (by assumption) hv4 oM;simp -implicitDefEqProofs only[go_sem,Z2,Z3,Z4];refine sQ ?_;refine CM [] [1] cv ?_;cases hx:valueOf (dy ls) 3 aV with
  | none=>rw[xb (st:=[]) hx] at hg;have e:dX ls=⟨[],[],2⟩:=(by rw[hF,mO,xu];simp only[hg]);refine CJ ?_;refine dw ?_;exact fA e
  | some x=>rw[wT (st:=[]) hx] at hg;simp -implicitDefEqProofs only[go_sem,Z3,Z4,gw,dG];refine sQ ?_;exact⟨(4:Int),aV.set 3 x,⟨by simpa using hv4,.inr (.inr (.inr (.inr ⟨rfl,hg⟩)))⟩,sL,bW qR (by refine sA ?_;simp[*];done) (by refine sA ?_;exact wZ oM) rfl rfl⟩
 simp -implicitDefEqProofs only[go_sem,Z2];refine dD (fh hm ?_);refine sA ?_;refine CM [] [1] (On ls aV) ?_;cases hf:rG ls aV;have e:dX ls=⟨[],[],2⟩:=by rw[hF,mO,xu];simp[hg,hf]
 refine sA ?_;refine dw ?_;exact fA e;have e:dX ls=⟨aV,[],0⟩:=by rw[hF,mO,xu];simp[hg,hf]
 refine sA ?_;refine fh hm ?_;refine sA ?_;refine dw ?_;exact fA e
end Go.Proofs.YtnhdminpjihbnaaGreat
