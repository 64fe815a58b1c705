/-
  The program: the walks of lemmas. A step towards the exact laws.
-/
import Derived.Test.YtphcpjhkeipggaaGreatKBd
set_option linter.unusedVariables false
set_option linter.unusedSimpArgs false
open Int renaming reduceEq→Z1,reduceLT→Z2,reduceLE→Z3,reduceToNat→Z4
open And renaming intro→an
open Bool renaming false_eq_true→au,true_and→aA,false_and→aI,not_false→gU,not_true→kj
open Classical renaming em→aa
open List renaming drop_zero→jy
namespace Go.Proofs.YtphcpjhkeipggaaGreat
open Go.Eng Go.Mod
set_option maxRecDepth 100000
set_option maxHeartbeats 3200000
theorem IV(n:Int)(hn:-60≤n∧n≤60):CN 59 [iv n] (iv (n.natAbs:Int)):=by refine gS 7 [.tmp 2] hm Tryz.func59 fun hl he cf=>?_;refine sQ ?_;refine W9 n (-n) (n.natAbs:Int) Ku (by simp -implicitDefEqProofs only[go_sem]) (by simp -implicitDefEqProofs only[go_sem]) ?_;refine sA ?_;refine fD ?_;exact sC
theorem M7(l:Int)(dL:Nat)(hm1:dL≤60):CN 54 [iv l,iv dL] (bv (oY l dL)):=by
 refine gS 14 [.tmp 4] hm Tryz.func54 fun hl he cf=>?_;rcases aa (l=0) with h|h
 ·have k:=eq_true h;refine uG ?_;refine gZ ?_;all_goals(simp[oY,h];done)
 refine uF ?_;refine sQ ?_;refine aC [] (fQ l (-(dL:Int)) dL) ?_;refine gZ ?_;all_goals(simp[oY,h];done)
theorem Sa(ns:List Int)(n:Int):CN 104 [lv (bm ns),iv n] (iv (idxOf (fun x=>decide (n=x)) ns)):=by
 refine gS 19 [.tmp 4] hm Tryz.func104 fun hl he cf=>?_;refine cS hm (fun(i:Nat)=> i≤ns.length∧idxOf (fun x=>decide (n=x)) ns=fj (fun x=>decide (n=x)) (ns.drop i) i) (fun(i:Nat)=> ⟨dN 19 .any [(0,lv (bm ns)),(1,iv n),(7,iv ns.length),(8,iv i)],[]⟩) (fun(i:Nat)=> ns.length-i) (0) ?_ (aZ [] ?_ ?_ rfl rfl) ?_;rotate_left;exact sC;exact sC;rotate_left;simp[idxOf];rintro i ⟨hi,hg⟩;rcases aa (i<ns.length) with h1|h1
 ·rw[List.drop_eq_getElem_cons h1,fj] at hg;rcases aa (n=ns[i]) with h2|h2
  ·have k2:=eq_true h2;simp only[←h2,decide_true,if_true] at hg;simp -implicitDefEqProofs only[go_sem,h1,k2];refine gZ ?_;all_goals(simp[hg];done)
  simp only[h2,decide_false,au,if_false] at hg;refine uJ ?_;refine sQ ?_;refine⟨i+1,?_,sL,aZ [] ?_ ?_ rfl rfl⟩;rotate_left;exact sC;exact sC;exact⟨oM,by rw[hg];rfl⟩
 rw[List.drop_of_length_le oM,fj] at hg;refine uA ?_;refine gZ ?_;all_goals(simp[hg];done)
theorem Le(ns:List Int)(n:Int):decide (0≤idxOf (fun x=>decide (n=x)) ns)=ns.contains n:=by
 have key:∀{ns:List Int}{i:Int},0≤i→decide (0≤fj (fun x=>decide (n=x)) ns i)=ns.contains n:=by
  intro ns;induction ns with
  | nil=>intro i hi;simp[fj]
  | cons a ns ih=>intro i hi;simp only[fj,List.contains_cons];rcases aa (n=a) with h|h;simp[h,hi];have hb:(n == a)=false:=(by simpa using h);simp only[h,decide_false,au,if_false,hb,Bool.false_or];exact ih oM
 exact key oM
theorem Am(ns:List Int)(n:Int):CN 55 [lv (bm ns),iv n] (bv (ns.contains n)):=by refine gS 9 [.tmp 4] hm Tryz.func55 fun hl he cf=>?_;refine aC [] (Sa ns n) ?_;refine gZ ?_;rw[←Le]
theorem vP(marks:List Int)(atoms:List cR)(hm1:atoms.length≤60):CN 25 [lv (bm marks),lv (bx atoms)] (bv (gf marks atoms.length)):=by
 have e:gf marks atoms.length=rq [] marks atoms.length:=rfl;refine gS 35 [.tmp 4] hm Tryz.func25 fun hl he cf=>?_;refine cS hm (fun(i:Nat)=> i≤marks.length∧rq [] marks atoms.length=rq (marks.take i) (marks.drop i) atoms.length) (fun(i:Nat)=> ⟨dN 35 .any [(0,lv (bm marks)),(1,lv (bx atoms)),(7,lv (bm marks)),(8,iv marks.length),(9,iv i)],[]⟩) (fun(i:Nat)=> marks.length-i) (0) ?_ (aZ [] ?_ ?_ rfl rfl) ?_;rotate_left;exact sC;simp -implicitDefEqProofs only[go_sem];rotate_left;simp;rintro i ⟨hi,hg⟩;rcases aa (i<marks.length) with h1|h1
 ·rw[Kk h1] at hg;refine uA ?_;refine aC [] (M7 marks[i] atoms.length hm1) ?_;cases h2:oY marks[i] atoms.length
  ·rw[h2,aI] at hg;simp -implicitDefEqProofs only[go_sem];refine gZ ?_;all_goals(simp[e,hg];done)
  have hb:=h2;simp only[oY,Bool.and_eq_true,dB] at hb;rw[h2,aA] at hg;refine sA ?_;refine an ⟨oM,jN _⟩ ?_;simp -implicitDefEqProofs only[go_sem,Nat.sub_zero,jy,vr];refine aC [] (Am (marks.take i) marks[i]) ?_;cases h3:(marks.take i).contains marks[i]
  ·rw[h3] at hg;simp only[gU,aA] at hg;refine sA ?_;refine an ⟨oM,jN _⟩ ?_;simp -implicitDefEqProofs only[go_sem,Nat.sub_zero,jy,vr];refine sQ ?_;refine aC [] (Am (marks.take i) (-marks[i])) ?_;cases h4:(marks.take i).contains (-marks[i])
   ·rw[h4] at hg;simp only[gU,aA] at hg;refine sA ?_;refine sQ ?_;refine⟨i+1,?_,sL,aZ [] ?_ ?_ rfl rfl⟩;rotate_left;exact sC;exact sC;exact⟨oM,hg⟩
   rw[h4] at hg;simp only[kj,aI] at hg;refine sA ?_;refine gZ ?_;all_goals(simp[e,hg];done)
  rw[h3] at hg;simp only[kj,aI] at hg;refine sA ?_;refine gZ ?_;all_goals(simp[e,hg];done)
 rw[OS oM] at hg;refine uA ?_;refine gZ ?_;all_goals(simp[e,hg];done)
theorem tW(marks:List Int)(atoms:List cR)(eO:atoms.length≤60)(kI:∀m∈marks,m≠0 ∧ -(atoms.length:Int)≤m∧m≤atoms.length)(qF:marks.length≤900000):CN 27 [lv (bm marks),lv (bx atoms)] (lv (bh (cH marks atoms))):=by
 refine gS 28 [.tmp 4] hm Tryz.func27 fun hl he cf=>?_;refine cS hm (fun(i:Nat)=> i≤marks.length) (fun(i:Nat)=> ⟨dN 28 .any [(1,lv (bx atoms)),(5,.aX 0),(8,lv (bm marks)),(9,iv marks.length),(10,iv i)],[some (.aX 61 (bh (cH (marks.take i) atoms)))]⟩) (fun(i:Nat)=> marks.length-i) (0) ?_ (aZ [none] ?_ ?_ rfl rfl) ?_;rotate_left;exact sC
 ·refine sA ?_;all_goals(simp[cH,bh])
 rotate_left;omega;rintro i hi;have hv:(cH (marks.take i) atoms).length=i:=by simp only[cH,List.length_map,List.length_take];omega
 rcases aa (i<marks.length) with h1|h1
 ·obtain⟨q1,q2,q3⟩:=kI marks[i] (List.getElem_mem h1);have q5:((marks[i].natAbs:Int)-1)=((marks[i].natAbs-1:Nat):Int):=oM;have q6:marks[i].natAbs-1<atoms.length:=oM;have q7:atoms.getD (marks[i].natAbs-1) rF=atoms[marks[i].natAbs-1]:=(by simp[List.getD,q6]);refine uA ?_;refine aC [] (IV marks[i] oM) ?_;simp -implicitDefEqProofs only[go_sem,q5,q6];refine sQ ?_;refine⟨i+1,?_,sL,aZ [some 1] ?_ ?_ rfl rfl⟩;rotate_left;exact sC
  ·refine sA ?_;all_goals((rw[pU h1,q7,←lu];rfl))
  exact h1
 have et:marks.take i=marks:=List.take_of_length_le oM;simp -implicitDefEqProofs only[go_sem,h1,et];refine fD ?_;exact sC
theorem CT{s:eM}{aS:List Mod.bU}(h:hH s aS=true):(ba [] aS).length≤6∧fc aS=some (ba [] aS):=by have e:=n9 aS;unfold hH at h;rcases aa (aS.length≤5∧aS.all jB=true∧(ba [] aS).length≤6) with hc|hc;rw[if_pos hc] at e;exact⟨hc.2.2,e⟩;rw[if_neg hc] at e;rw[e] at h;cases h
theorem Mu(s:eM)(aS:List Mod.bU)(l:Mod.nY):CN 11 [av (eP s),lv (cG aS),av (qX l)] (bv (yT s aS l)):=by
 refine gS 39 [.tmp 6] hm Tryz.func11 fun hl he cf=>?_;refine aC [] (re aS) ?_;refine aC [] (Bw s aS) ?_;cases h1:hH s aS
 ·simp -implicitDefEqProofs only[go_sem];refine iK ?_;refine gZ ?_;all_goals(simp[yT,h1];done)
 obtain⟨f3,f4⟩:=CT h1;have e:yT s aS l=(decide (0<l.marks.length)&&(gf l.marks (ba [] aS).length&&xk s (cH l.marks (ba [] aS)) l.case)):=by unfold yT;rw[h1,f4];rfl
 rcases aa ((0:Int)<(l.marks.length:Int)) with h2|h2
 ·have h2':0<l.marks.length:=oM;simp -implicitDefEqProofs only[go_sem,h2,f4,Option.getD_some,Option.isSome_some];refine aC [] (vP l.marks (ba [] aS) oM) ?_;cases h3:gf l.marks (ba [] aS).length
  ·refine sA ?_;refine iK ?_;refine gZ ?_;all_goals(simp[e,h3];done)
  refine sA ?_;refine aC [] (tW l.marks (ba [] aS) oM (n5 h3) (adm h3 oM)) ?_;refine aC [] (Np s (cH l.marks (ba [] aS)) l.case) ?_;refine iK ?_;refine gZ ?_;all_goals(simp[e,h3,h2'];done)
 have h2':¬0<l.marks.length:=oM;refine uB ?_;refine iK ?_;refine gZ ?_;all_goals(simp[e,h2'];done)
end Go.Proofs.YtphcpjhkeipggaaGreat
