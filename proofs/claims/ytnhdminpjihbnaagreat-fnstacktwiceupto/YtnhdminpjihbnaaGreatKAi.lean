/-
  The program: the walks of lemmas. A step towards the exact laws.
-/
import Derived.Test.YtnhdminpjihbnaaGreatKAd
set_option linter.unusedVariables false
set_option linter.unusedSimpArgs false
open Int renaming reduceEq→Z1,reduceLT→Z2,reduceLE→Z3,reduceToNat→Z4
open And renaming intro→aq
open Bool renaming false_eq_true→aw,true_and→aN,false_and→aZ,not_false→iO,not_true→ju
open Classical renaming em→aa
open List renaming drop_zero→kK
namespace Go.Proofs.YtnhdminpjihbnaaGreat
open Go.Eng Go.Mod
set_option maxRecDepth 100000
set_option maxHeartbeats 800000
theorem oe(n:Int)(hn:-60≤n∧n≤60):CN 74 [iv n] (iv (n.natAbs:Int)):=by refine gT 7 [.tmp 2] hm Tryz.func74 fun hl he cV=>?_;refine sQ ?_;refine aej n (-n) (n.natAbs:Int) L9 (by simp -implicitDefEqProofs only[go_sem,Z1,Z2,Z3,Z4]) (by simp -implicitDefEqProofs only[go_sem,Z1,Z2,Z3,Z4]) ?_;exact CG
theorem sZ(l:Int)(aP:Nat)(hm1:aP≤60):CN 90 [iv l,iv aP] (bv (iq l aP)):=by refine gT 14 [.tmp 4] hm Tryz.func90 fun hl he cV=>?_;rcases aa (l=0) with h|h;have k:=eq_true h;refine kD k ?_;simp[iq,h];refine kD h ?_;refine aD [] (fw l (-(aP:Int)) aP) ?_;refine me ?_;simp[iq,h]
theorem SA(ns:List Int)(n:Int):CN 143 [lv (bj ns),iv n] (iv (idxOf (fun x=>decide (n=x)) ns)):=by
 refine gT 19 [.tmp 4] hm Tryz.func143 fun hl he cV=>?_;refine lZ hm ns.length (fun(i:Nat)=>idxOf (fun x=>decide (n=x)) ns=eM (fun x=>decide (n=x)) (ns.drop i) i) (fun i=>⟨fk 19 .any [(0,lv (bj ns)),(1,iv n),(7,iv ns.length),(8,iv i)],[]⟩) ?_ (c9 []) ?_;simp[idxOf];rintro i ⟨hi,hg⟩;rcases aa (i<ns.length) with h1|h1;rw[List.drop_eq_getElem_cons h1,eM] at hg;rcases aa (n=ns[i]) with h2|h2;have k2:=eq_true h2;simp only[←h2,decide_true,if_true] at hg;exact SV h1 k2 hg;simp only[h2,decide_false,aw,if_false] at hg;try simp -implicitDefEqProofs only[go_sem,Z1,Z2,Z3,Z4,h1,h2]
 refine sJ ?_;exact⟨i+1,⟨oM,by rw[hg];rfl⟩,sL,c9 []⟩;rw[List.drop_of_length_le oM,eM] at hg;exact EN h1 hg
theorem My(ns:List Int)(n:Int):decide (0≤idxOf (fun x=>decide (n=x)) ns)=ns.contains n:=by
 have key:∀{ns:List Int}{i:Int},0≤i→decide (0≤eM (fun x=>decide (n=x)) ns i)=ns.contains n:=by
  intro ns;induction ns with
  | nil=>intro i hi;simp[eM]
  | cons a ns ih=>intro i hi;simp only[eM,List.contains_cons];rcases aa (n=a) with h|h;simp[h,hi];have hb:(n == a)=false:=(by simpa using h);simp only[h,decide_false,aw,if_false,hb,Bool.false_or];exact ih oM
 exact key oM
theorem kI(ns:List Int)(n:Int):CN 91 [lv (bj ns),iv n] (bv (ns.contains n)):=by refine gT 9 [.tmp 4] hm Tryz.func91 fun hl he cV=>?_;refine aD [] (SA ns n) ?_;refine me ?_;rw[←My]
theorem D1(marks:List Int)(atoms:List bz)(hm1:atoms.length≤60):CN 66 [lv (bj marks),lv (bC atoms)] (bv (iz marks atoms.length)):=by
 have e:iz marks atoms.length=xp [] marks atoms.length:=rfl;refine gT 35 [.tmp 4] hm Tryz.func66 fun hl he cV=>?_;refine lZ hm marks.length (fun(i:Nat)=>xp [] marks atoms.length=xp (marks.take i) (marks.drop i) atoms.length) (fun i=>⟨fk 35 .any [(0,lv (bj marks)),(1,lv (bC atoms)),(7,lv (bj marks)),(8,iv marks.length),(9,iv i)],[]⟩) ?_ (bW [] (by refine sB ?_;(first|done|(simp[aR, *];done)|(simp[aR];done)|(simp;omega)|skip)) (by refine sB ?_;(first|done|(simp[aR, *];done)|(simp[aR];done)|(simp;omega)|skip)) rfl rfl) ?_;simp;rintro i ⟨hi,hg⟩;rcases aa (i<marks.length) with h1|h1;rw[Wr h1] at hg;try simp -implicitDefEqProofs only[go_sem,Z1,Z2,Z3,Z4,h1]
 refine sI ?_;refine aD [] (sZ marks[i] atoms.length hm1) ?_;refine sI ?_;cases h2:iq marks[i] atoms.length;rw[h2,aZ] at hg;try simp -implicitDefEqProofs only[go_sem,Z1,Z2,Z3,Z4]
 refine sI ?_;refine fB_ ?_;simp[e,hg];have hb:=h2;simp only[iq,Bool.and_eq_true,dM] at hb;rw[h2,aN] at hg;refine me ?_;refine aq ⟨oM,ny _⟩ ?_;try simp -implicitDefEqProofs only[go_sem,Z1,Z2,Z3,Z4,Nat.sub_zero,kK,Ed]
 refine sI ?_;refine oL [] (kI (marks.take i) marks[i]) ?_;cases h3:(marks.take i).contains marks[i];rw[h3] at hg;simp only[iO,aN] at hg;refine me ?_;refine aq ⟨oM,ny _⟩ ?_;try simp -implicitDefEqProofs only[go_sem,Z1,Z2,Z3,Z4,Nat.sub_zero,kK,Ed]
 refine bI ?_;refine oL [] (kI (marks.take i) (-marks[i])) ?_;cases h4:(marks.take i).contains (-marks[i]);rw[h4] at hg;simp only[iO,aN] at hg;refine me ?_;exact⟨i+1,⟨oM,hg⟩,sL,c9 []⟩;rw[h4] at hg;simp only[ju,aZ] at hg;exact EN e hg;rw[h3] at hg;simp only[ju,aZ] at hg;exact EN e hg;rw[aar oM] at hg;exact SV h1 e hg
theorem z8(marks:List Int)(atoms:List bz)(fj:atoms.length≤60)(jY:∀m∈marks,m≠0 ∧ -(atoms.length:Int)≤m∧m≤atoms.length)(rP:marks.length≤900000):CN 44 [lv (bj marks),lv (bC atoms)] (lv (cO (fl marks atoms))):=by
 refine gT 28 [.tmp 4] hm Tryz.func44 fun hl he cV=>?_;refine jf hm marks.length (fun i=>⟨fk 28 .any [(1,lv (bC atoms)),(5,.aW 0),(8,lv (bj marks)),(9,iv marks.length),(10,iv i)],[some (.aW 36 (cO (fl (marks.take i) atoms)))]⟩) (c9 [none]) ?_;rintro i hi;have hv:(fl (marks.take i) atoms).length=i:=by simp only[fl,List.length_map,List.length_take];omega
 rcases aa (i<marks.length) with h1|h1
 ·obtain⟨q1,q2,q3⟩:=jY marks[i] (List.getElem_mem h1);have q5:((marks[i].natAbs:Int)-1)=((marks[i].natAbs-1:Nat):Int):=oM;have q6:marks[i].natAbs-1<atoms.length:=oM;have q7:atoms.getD (marks[i].natAbs-1) tz=atoms[marks[i].natAbs-1]:=(by simp[List.getD,q6]);try simp -implicitDefEqProofs only[go_sem,Z1,Z2,Z3,Z4,h1]
  refine sI ?_;refine aD [] (oe marks[i] oM) ?_;refine sI ?_;try simp -implicitDefEqProofs only[go_sem,Z1,Z2,Z3,Z4,q5,q6,h1]
  refine sJ ?_;exact⟨i+1,h1,sL,bW [some 1] (by refine sB ?_;(first|done|((rw[C3 h1,q7,←qK];rfl))|(simp[aR, *];done)|(simp[aR];done)|(simp;omega)|skip)) (by refine sB ?_;(first|done|((rw[C3 h1,q7,←qK];rfl))|(simp[aR, *];done)|(simp[aR];done)|(simp;omega)|skip)) rfl rfl⟩
 have et:marks.take i=marks:=List.take_of_length_le oM;refine ajo h1 et ?_;refine sI ?_;refine fv ?_;exact sD
end Go.Proofs.YtnhdminpjihbnaaGreat
