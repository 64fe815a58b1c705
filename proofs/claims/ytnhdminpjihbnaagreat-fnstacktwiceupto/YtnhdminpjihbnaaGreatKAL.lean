/-
  The walks of texts of terms and of atoms. A step towards the exact laws.
-/
import Derived.Test.YtnhdminpjihbnaaGreatKAH
import Derived.Test.YtnhdminpjihbnaaGreatKAG
set_option linter.unusedVariables false
set_option linter.unusedSimpArgs false
open Int renaming reduceEq→Z1,reduceLT→Z2,reduceLE→Z3,reduceToNat→Z4
open And renaming intro→aq
open Bool renaming true_and→aN,false_and→aZ
open Classical renaming em→aa
open List renaming getElem_mem→ah,drop_eq_getElem_cons→ai,drop_of_length_le→al,map_cons→aJ
namespace Go.Proofs.YtnhdminpjihbnaaGreat
open Go.Eng Go.Mod
set_option maxRecDepth 100000
set_option maxHeartbeats 800000
theorem Br(t:az)(h:t.ar≠[]):a7 t=t.name++(40::(Lib.join (t.ar.map a7) [44]++[41])):=by
 have key:∀ts,iE ts=ts.map a7:=by
  intro ts;induction ts with
  | nil=>rfl
  | cons t ts ih=>simp only[iE,aJ,ih]
 match t,h with
 | .mk n (k::ks),_=>simp only[a7,az.name,az.ar,aJ,←BQ,key]
theorem zu(t:az)(h:t.ar=[]):a7 t=t.name:=by
 match t,h with
 | .mk n [],_=>rfl
theorem adu{t:az}{d:Nat}(h:bX t d=true)(hd:d≤4)(hk:t.ar≠[]):(Lib.join (t.ar.map a7) [44]).length≤122:=by have h1:=zH h hd;rw[Br t hk] at h1;simp only[List.length_append,List.length_cons] at h1;omega
theorem Zq{xs:List az}{i:Nat}(h:i<xs.length)(f:az→p8):oE ((xs.take i).map f)++[[.str (f xs[i])]]=oE ((xs.take (i+1)).map f):=by
 have e:xs.take (i+1)=xs.take i++[xs[i]]:=by rw[List.take_add_one,List.getElem?_eq_getElem h];rfl
 rw[e,List.map_append,←Zk];rfl
theorem V4{n:p8}(h:ig n=true):n.length≤2:=by simp only[ig,Bool.and_eq_true] at h;have:=dM.1 h.1;omega
theorem GU(t:az)(ih:∀k∈t.ar,∀d:Nat,d≤4→bX k d=true→CN 184 [av (cT k)] (sv (a7 k)))(d:Nat)(hd:d≤4)(hsh:bX t d=true) :
 CN 184 [av (cT t)] (sv (a7 t)):=by
 cases d with
 | zero=>cases t;simp[bX] at hsh
 | succ d=>
 have hk:=qI hsh
 have hnm:=V4 hk.1
 refine gS 32 [.tmp 2] hm Tryz.func184 fun hl he cV=>?_
 rcases aa ((t.ar.length:Int)=0) with h0|h0
 ·have e:t.ar=[]:=List.length_eq_zero_iff.1 oM
  have k:=eq_true h0
  refine dB k ?_
  simp[zu t e]
 ·have e:t.ar≠[]:=fun h=>h0 (by rw[h];rfl)
  have hj:=adu hsh hd e
  refine bS h0 ?_
  refine jf hm t.ar.length (fun i=>⟨fk 32 .any [(1,.bK 0 0),(3,.aW 1),(13,lv (ba t.ar)),(14,iv t.ar.length),(15,iv i)],[some (.box (fy (cT t))),some (.aW 9 (oE ((t.ar.take i).map a7)))]⟩) (c9 [some 0,none]) ?_
  ·rintro i hi
   rcases aa (i<t.ar.length) with h1|h1
   ·refine uA ?_
    have hc:=ih t.ar[i] (ah h1) d oM (qG hk.2.2 _ (ah h1))
    refine aC [] hc ?_
    refine bI ?_
    exact⟨i+1,h1,sL,bW [some 0,some 3] sC (by refine sA ?_;exact Zq h1 _) rfl rfl⟩
   ·have et:t.ar.take i=t.ar:=List.take_of_length_le oM
    refine pV h1 et ?_
    refine CM [] [1] (Ml (t.ar.map a7) [44] (by simp;omega) oM) ?_
    refine bI ?_
    simp[Br t e]
theorem Jv:∀(t:az)(d:Nat),d≤4→bX t d=true→CN 184 [av (cT t)] (sv (a7 t)):=
 az.ind fun n ks ih d h1 h2=>GU (.mk n ks) ih d h1 h2
theorem CF(s:eV)(t:az):CN 134 [av (cT t),.gQ [gi s] 0 0] (bv (!eQ s t)):=by refine gS 8 [.tmp 3] hm Tryz.func134 fun hl he cV=>?_;refine aC [] (zQ s t) ?_;refine fv ?_;exact sC
def qb(l:List az):Nat→Option az
 | 0=>none
 | j+1=>l[j]?
theorem I3{p:Option az}{ts:List az}{ns:List Int}{i:Nat}(h:i<ts.length)(h':i<ns.length):oP p (ts.drop i) (ns.drop i)=(bR ts[i]&&(c8 ns[i] (-50) 50&&(decide (ns[i]≠0)&&((match p with|none=>true|some q=>kn (a7 q) (a7 ts[i]))&&oP (some ts[i]) (ts.drop (i+1)) (ns.drop (i+1)))))):=by rw[ai h,ai h'];rfl
theorem pq(t:az)(h:bR t=true):CN 184 [av (cT t)] (sv (a7 t)):=Jv t 4 oM (jt h)
theorem Fe(a:bz)(k1:a.kind=1):CN 131 [av (iA a)] (bv (dh a)):=by
 have e:dh a=(bR a.A&&(bR a.B&&(decide (a.an.length=0)&&(decide (a.bt.length=0)&&(decide (a.bJ=0)&& !a.cz))))):=by simp[dh,k1]
 refine gS 118 [.tmp 2] hm Tryz.func131 fun hl he cV=>?_;simp -implicitDefEqProofs only[go_sem,k1];refine aC [] (pR a.A) ?_;cases h1:bR a.A
 ·simp -implicitDefEqProofs only[go_sem];refine An ?_;all_goals(simp[e,h1];done)
 simp -implicitDefEqProofs only[go_sem];refine aC [] (pR a.B) ?_;cases h2:bR a.B;simp -implicitDefEqProofs only[go_sem];refine An ?_;simp[e,h1,h2];refine sA ?_;rcases aa ((a.an.length:Int)=0) with h3|h3;have h3':a.an.length=0:=oM;have k3:=eq_true h3;refine bS k3 ?_;rcases aa ((a.bt.length:Int)=0) with h4|h4;have h4':a.bt.length=0:=oM;have k4:=eq_true h4;refine bS k4 ?_;rcases aa (a.bJ=0) with h5|h5;have k5:=eq_true h5;exact p9 k5 e (aq h1 (aq h2 (aq h3' (aq h4' h5))));exact p9 h5 e (aq h1 (aq h2 (aq h3' h4')));have h4':¬a.bt.length=0:=oM;exact p9 h4 e (aq h1 (aq h2 (aq h3' h4')));have h3':¬a.an.length=0:=oM;refine bS h3 ?_;refine An ?_;simp[e,h1,h2,h3']
theorem mq{l:List az}{i:Nat}(h:i<l.length):qb l (i+1)=some l[i]:=by simp[qb,h]
theorem DS(a:bz)(k2:a.kind=2):CN 131 [av (iA a)] (bv (dh a)):=by
 have e:dh a=(isNone a.A&&(isNone a.B&&(c8 a.an.length 1 4&&(decide (a.bt.length=a.an.length)&&(c8 a.bJ (-1000) 1000&&oP none a.an a.bt))))):=by simp[dh,k2]
 refine gS 118 [.tmp 2] hm Tryz.func131 fun hl he cV=>?_;simp -implicitDefEqProofs only[go_sem,Z1,k2];refine aC [] (Da a.A) ?_;cases h1:isNone a.A
 ·simp -implicitDefEqProofs only[go_sem];refine An ?_;all_goals(simp[e,h1];done)
 simp -implicitDefEqProofs only[go_sem];refine aC [] (Da a.B) ?_;cases h2:isNone a.B
 ·simp -implicitDefEqProofs only[go_sem];refine An ?_;all_goals(simp[e,h1,h2];done)
 simp -implicitDefEqProofs only[go_sem];refine aC [] (fw a.an.length 1 4) ?_;cases h3:c8 a.an.length 1 4
 ·simp -implicitDefEqProofs only[go_sem];refine fv ?_;simp -implicitDefEqProofs only[go_sem];all_goals(simp[e,h1,h2,h3];done)
 simp -implicitDefEqProofs only[go_sem];rcases aa (a.bt.length=a.an.length) with h4|h4
 ·have k4:=eq_true h4;simp -implicitDefEqProofs only[go_sem,k4];refine aC [] (fw a.bJ (-1000) 1000) ?_;cases h5:c8 a.bJ (-1000) 1000
  ·refine sA ?_;refine An ?_;all_goals(simp[e,h1,h2,h3,h4,h5];done)
  have e:dh a=oP none a.an a.bt:=(by simp[e,h1,h2,h3,h4,h5]);refine sA ?_;refine hJ hm (fun(i:Nat)=> i≤a.an.length∧dh a=oP (qb a.an i) (a.an.drop i) (a.bt.drop i)∧∀q,qb a.an i=some q→bR q=true) (fun(i:Nat)=> ⟨fk 118 .any [(1,.bK 0 0),(74,lv (ba a.an)),(75,iv a.an.length),(76,iv i)],[some (.box (fy (iA a)))]⟩) (fun(i:Nat)=> a.an.length-i) (0) ?_ (bW gE ?_ ?_ rfl rfl) ?_;rotate_left;simp -implicitDefEqProofs only[go_sem]
  ·simp -implicitDefEqProofs only[go_sem];all_goals(simp[*];done)
  rotate_left;exact⟨oM,e,fun q h=>by cases h⟩;rintro i ⟨hi,hg,hp⟩;rcases aa (i<a.an.length) with g1|g1
  ·have g2:i<a.bt.length:=oM;rw[I3 g1 g2] at hg;refine uI ?_;refine aC [] (pR a.an[i]) ?_;cases q1:bR a.an[i]
   ·rw[q1,aZ] at hg;simp -implicitDefEqProofs only[go_sem];refine iK ?_;refine fv ?_;simp -implicitDefEqProofs only[go_sem];all_goals(simp[hg];done)
   rw[q1,aN] at hg;simp -implicitDefEqProofs only[go_sem,g2];refine aC [] (fw a.bt[i] (-50) 50) ?_;cases q2:c8 a.bt[i] (-50) 50
   ·rw[q2,aZ] at hg;simp -implicitDefEqProofs only[go_sem];refine iK ?_;refine An ?_;all_goals(simp[hg];done)
   rw[q2,aN] at hg;simp -implicitDefEqProofs only[go_sem,g2];rcases aa (a.bt[i]=0) with q3|q3
   ·have k3:=eq_true q3;simp only[k3,not_true,ne_eq,decide_false,aZ] at hg;simp -implicitDefEqProofs only[go_sem,k3];refine iK ?_;refine An ?_;all_goals(simp[hg];done)
   simp only[q3,not_false_eq_true,ne_eq,decide_true,aN] at hg;cases i with
   | zero=>
    simp only[qb,aN] at hg;simp -implicitDefEqProofs only[go_sem,q3,Int.lt_irrefl];refine iK ?_;refine sQ ?_;refine⟨0+1,?_,sL,bW gE ?_ ?_ rfl rfl⟩;rotate_left
    ·refine sA ?_;all_goals(simp[*];done)
    exact sC;refine⟨oM,?_,?_⟩;rw[hg,mq g1];intro q hq;rw[mq g1] at hq;cases hq;exact q1
   | succ j=>
    have hj:j<a.an.length:=oM;have e1:((j:Int)+1-1)=(j:Int):=oM;have e2:(0:Int)<(j:Int)+1:=oM;have tp:=hp _ (mq hj);rw[mq hj] at hg;simp only at hg;simp -implicitDefEqProofs only[go_sem,q3,e1,e2,hj];refine sQ ?_;refine aC [] (pq a.an[j] tp) ?_;refine aC [] (pq a.an[j+1] q1) ?_;refine iK ?_;cases q4:kn (a7 a.an[j]) (a7 a.an[j+1])
    ·rw[q4,aZ] at hg;have h5:Op.bytesLess (a7 a.an[j]) (a7 a.an[j+1])=false:=q4;refine uE ?_;refine An ?_;all_goals(simp[hg];done)
    rw[q4,aN] at hg;have h5:Op.bytesLess (a7 a.an[j]) (a7 a.an[j+1])=true:=q4;refine uE ?_;refine sQ ?_;refine⟨j+1+1,?_,sL,bW gE ?_ ?_ rfl rfl⟩;rotate_left;exact sC;exact sC;refine⟨oM,?_,?_⟩;rw[hg,mq g1];intro q hq;rw[mq g1] at hq;cases hq;exact q1
  rw[al oM,al oM] at hg;have hg:dh a=true:=(by rw[hg];cases qb a.an i<;>rfl);refine uI ?_;refine An ?_;all_goals(simp[hg];done)
 refine uD ?_;refine An ?_;all_goals(simp[e,h1,h2,h3,h4];done)
theorem AV(a:bz):CN 131 [av (iA a)] (bv (dh a)):=by rcases aa (a.kind=1) with k1|k1;exact Fe a k1;rcases aa (a.kind=2) with k2|k2;exact DS a k2;refine gS 118 [.tmp 2] hm Tryz.func131 fun hl he cV=>?_;refine pV k1 k2 ?_;simp[dh,k1,k2]
theorem Dn(s:eV)(a:bz):CN 83 [av (gi s),av (iA a)] (bv (hU s a)):=by refine gS 28 [.tmp 4] hm Tryz.func83 fun hl he cV=>?_;refine aC [] (rI s) ?_;cases h1:gy s;refine bI ?_;simp[hU,h1];refine sA ?_;refine aC [] (AV a) ?_;cases h2:dh a;refine bI ?_;simp[hU,h1,h2];refine sA ?_;rcases aa (a.kind=1) with k1|k1;have k:=eq_true k1;refine bS k ?_;refine aC [] (GK ⟨a.A,a.B⟩ s) ?_;refine bI ?_;simp[hU,h1,h2,k1];refine bS k1 ?_;refine CM [] [0] (CE 134 [.gQ [gi s] 0 0] rfl (fun t=>!eQ s t) a.an (fun t _=>CF s t)) ?_;refine bI ?_;simp[hU,h1,h2,k1,List.all_eq_not_any_not]
end Go.Proofs.YtnhdminpjihbnaaGreat
