/-
  The reference: the walks of lemmas. A step towards the exact laws.
-/
import Derived.Test.YtphcpjhkeipggaaGreatKBj
set_option linter.unusedVariables false
set_option linter.unusedSimpArgs false
open Int renaming reduceEq→Z1,reduceLT→Z2,reduceLE→Z3,reduceToNat→Z4
open And renaming intro→an
open Bool renaming and_eq_true→ah,true_and→aA,false_and→aI
open Classical renaming em→aa
namespace Go.Proofs.YtphcpjhkeipggaaGreat
open Go.Eng Go.Mod
set_option maxRecDepth 100000
set_option maxHeartbeats 3200000
def CX(n:Int):Int:=if n < -60 then 61 else if 60<n then 61 else if n<0 then -n else n
theorem SF{n:Int}{dL:Nat}(h:dL≤60):CX n≤dL ↔ -(dL:Int)≤n∧n≤dL:=by unfold CX;split;omega;split;omega;split<;>omega
theorem Oc{n:Int}(h:-60≤n∧n≤60):CX n=(n.natAbs:Int):=by unfold CX;rw[if_neg oM,if_neg oM];split<;>omega
theorem xh(n:Int):CN 67 [iv n] (iv (CX n)):=by refine gT 14 [.tmp 2] hm Tryz.func67 fun hl he cf=>?_;rcases aa (n < -60) with h1|h1;refine rM h1 ?_;simp[CX,h1];rcases aa (60<n) with h2|h2;refine RY h1 h2 ?_;simp[CX,h1,h2];rcases aa (n<0) with h3|h3;refine P6 h1 h2 h3 ?_;simp[CX,h1,h2,h3];refine P6 h1 h2 h3 ?_;simp[CX,h1,h2,h3]
theorem Qn(l:List Int)(n:Int)(hn:-60≤n∧n≤60):CN 68 [lv (bm l),iv n] (iv (Zc l n)):=by refine gT 25 [.tmp 4] hm Tryz.func68 fun hl he cf=>?_;refine kC hm l.length (fun(i:Nat)=>Zc l n=Zc (l.drop i) n) (fun i=>⟨dN 25 .any [(0,lv (bm l)),(1,iv n),(5,iv i)],[]⟩) ?_ (cM []) ?_;simp;rintro i ⟨hi,hg⟩;rcases aa (i<l.length) with h1|h1;rw[List.drop_eq_getElem_cons h1,Zc] at hg;rcases aa (l[i]=n) with h2|h2;rw[if_pos h2] at hg;have k2:=eq_true h2;exact Tf h1 k2 hg;rw[if_neg h2] at hg;rcases aa (l[i] = -n) with h3|h3;rw[if_pos h3] at hg;have k3:=eq_true h3;exact Tf h1 h2 (an k3 hg);rw[if_neg h3] at hg;refine P6 h1 h2 h3 ?_;exact⟨i+1,⟨oM,hg⟩,sL,cM []⟩;rw[List.drop_of_length_le oM,Zc] at hg;exact Cc h1 hg
theorem Im(marks:List Int)(dL:Nat)(hm1:dL≤60):CN 30 [lv (bm marks),iv dL] (bv (gf marks dL)):=by
 have e:gf marks dL=rq [] marks dL:=rfl;refine gT 37 [.tmp 4] hm Tryz.func30 fun hl he cf=>?_;refine kC hm marks.length (fun(i:Nat)=>rq [] marks dL=rq (marks.take i) (marks.drop i) dL) (fun i=>⟨dN 37 .any [(0,lv (bm marks)),(1,iv dL),(5,iv i)],[]⟩) ?_ (cM []) ?_;simp;rintro i ⟨hi,hg⟩;rcases aa (i<marks.length) with h1|h1;rw[Kk h1] at hg;rcases aa (marks[i]=0) with h2|h2;have k2:=eq_true h2;have e2:oY marks[i] dL=false:=by simp[oY,h2]
 rw[e2,aI] at hg;exact Tf h1 k2 (an e hg);refine RY h1 h2 ?_;refine aC [] (xh marks[i]) ?_;refine GZ h1 ?_;refine sI ?_;rcases aa ((dL:Int)<CX marks[i]) with h3|h3;have e2:oY marks[i] dL=false:=by cases hh:oY marks[i] dL;rfl;simp only[oY,ah,dB] at hh;have:=(SF hm1).2 hh.2;omega
 rw[e2,aI] at hg;exact Tf h3 e hg;have hb:=(SF (n:=marks[i]) hm1).1 oM;have e2:oY marks[i] dL=true:=by simp only[oY,ah,decide_eq_true_eq,dB];exact⟨h2,hb⟩
 rw[e2,aA] at hg;have hz:=Tb (l:=marks.take i) (n:=marks[i]);refine RY h3 h1 ?_;refine an ⟨oM,jN _⟩ ?_;try simp -implicitDefEqProofs only[go_sem,Z1,Z2,Z3,Z4,Nat.sub_zero,List.drop_zero,vr]
 refine sI ?_;refine sa [] (Qn (marks.take i) marks[i] oM) ?_;rcases aa (Zc (marks.take i) marks[i]=0) with h4|h4;have k4:=eq_true h4;obtain⟨z1,z2⟩:=hz.1 h4;rw[z1,z2] at hg;simp only[Bool.not_false,aA] at hg;refine rM k4 ?_;exact⟨i+1,⟨oM,hg⟩,sL,cM []⟩;have e3:gf marks dL=false:=by rw[e,hg];cases z1:(marks.take i).contains marks[i];cases z2:(marks.take i).contains (-marks[i]);exact absurd (hz.2 ⟨z1,z2⟩) h4;simp;simp
 exact Cc h4 e3;rw[OS oM] at hg;exact Tf h1 e hg
theorem JW(atoms:List cR)(marks:List Int)(eO:atoms.length≤60)(kI:∀m∈marks,m≠0 ∧ -(atoms.length:Int)≤m∧m≤atoms.length)(qF:marks.length≤900000):CN 32 [lv (bx atoms),lv (bm marks)] (lv (bh (cH marks atoms))):=by
 refine gT 33 [.tmp 4] hm Tryz.func32 fun hl he cf=>?_;refine jr hm marks.length (fun i=>⟨dN 33 .any [(0,lv (bx atoms)),(1,lv (bm marks)),(5,.aX 0),(6,iv i)],[some (.aX 61 (bh (cH (marks.take i) atoms)))]⟩) (cM fe) ?_;rintro i hi;have hv:(cH (marks.take i) atoms).length=i:=by simp only[cH,List.length_map,List.length_take];omega
 rcases aa (i<marks.length) with h1|h1
 ·obtain⟨q1,q2,q3⟩:=kI marks[i] (List.getElem_mem h1);have q4:=Oc (n:=marks[i]) oM;have q5:((marks[i].natAbs:Int)-1)=((marks[i].natAbs-1:Nat):Int):=oM;have q6:marks[i].natAbs-1<atoms.length:=oM;have q7:atoms.getD (marks[i].natAbs-1) rF=atoms[marks[i].natAbs-1]:=(by simp[List.getD,q6]);have hc:=xh marks[i];rw[q4] at hc;refine rM h1 ?_;refine sa [] hc ?_;refine P6 q5 q6 h1 ?_;exact⟨i+1,h1,sL,aZ [some 1] (by refine sB ?_;(first|done|((rw[pU h1,q7,←lu];rfl))|(simp[a7, *];done)|(simp[a7];done)|(simp;omega)|skip)) (by refine sB ?_;(first|done|((rw[pU h1,q7,←lu];rfl))|(simp[a7, *];done)|(simp[a7];done)|(simp;omega)|skip)) rfl rfl⟩
 have et:marks.take i=marks:=List.take_of_length_le oM;refine RY h1 et ?_;exact sD
theorem Qy{s:eM}{aS:List Mod.bU}(h:hH s aS=true):aS.length≤5∧(∀f∈aS,jB f=true)∧(ba [] aS).length≤6∧fc aS=some (ba [] aS):=by have e:=n9 aS;unfold hH at h;rcases aa (aS.length≤5∧aS.all jB=true∧(ba [] aS).length≤6) with hc|hc;rw[if_pos hc] at e;exact⟨hc.1,List.all_eq_true.1 hc.2.1,hc.2.2,e⟩;rw[if_neg hc] at e;rw[e] at h;cases h
end Go.Proofs.YtphcpjhkeipggaaGreat
