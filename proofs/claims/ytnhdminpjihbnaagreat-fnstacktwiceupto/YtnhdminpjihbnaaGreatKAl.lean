/-
  The program: the walks of clauses and of unit propagation. A step towards the exact laws.
-/
import Derived.Test.YtnhdminpjihbnaaGreatKAi
import Derived.Test.YtnhdminpjihbnaaGreatKAEa
import Derived.Shelf.Spec.SlicesGrow
set_option linter.unusedVariables false
set_option linter.unusedSimpArgs false
open Int renaming reduceEq→Z1,reduceLT→Z2,reduceLE→Z3,reduceToNat→Z4
open And renaming intro→aq
open Bool renaming false_eq_true→aw,true_and→aN,false_and→aZ
open Classical renaming em→aa
open List renaming getElem_mem→ah,drop_eq_getElem_cons→ai,take_of_length_le→ak,drop_of_length_le→al,length_append→ay,length_cons→aG,length_take→a6,getD→b9,length_map→cd,flatten_cons→dt,map_append→dA,length_eq_zero_iff→dI,length_set→eH,length_drop→eX,length_eq_one_iff→fE,length_singleton→fU,getElem?_map→gg
open Nat renaming le_refl→aH,sub_self→jI
namespace Go.Proofs.YtnhdminpjihbnaaGreat
open Go.Eng Go.Mod
set_option maxRecDepth 100000
set_option maxHeartbeats 800000
theorem Hl(f:Nat)(cap:List PV)(jX:wB 0 cap=true)(p:(List Int)→Bool)(xs:List (List Int))(hf:∀x∈xs,C E.P f (lv (bj x)::cap) [] (gR (bv (p x)) [])) :
 CN 148 [lv (dS xs),.fn f cap] (iv (idxOf p xs)):=by
 refine gT 19 [.tmp 4] hm Tryz.func148 fun hl he cV=>?_
 refine lZ hm xs.length (fun(i:Nat)=>idxOf p xs=eM p (xs.drop i) i) (fun i=>⟨fk 19 .any [(0,lv (dS xs)),(1,.fn f cap),(7,iv xs.length),(8,iv i)],[]⟩) ?_ (c9 []) ?_
 ·simp[idxOf]
 ·rintro i ⟨hi,hg⟩
  rcases aa (i<xs.length) with h1|h1
  ·rw[ai h1,eM] at hg
   try simp -implicitDefEqProofs only[go_sem,Z1,Z2,Z3,Z4,h1]
   refine sI ?_
   have hc:=hf xs[i] (ah h1)
   refine eh cap hc ?_ ?_<;>simp -implicitDefEqProofs only[go_sem,Z1,Z2,Z3,Z4,jX]
   refine sI ?_
   cases h2:p xs[i]
   ·rw[h2] at hg
    simp only[aw,if_false] at hg
    try simp -implicitDefEqProofs only[go_sem,Z1,Z2,Z3,Z4]
    refine sI ?_
    refine⟨oM,?_⟩
    refine⟨i+1,?_,sL,bW [] ?_ ?_ rfl rfl⟩
    rotate_left
    ·refine sB ?_
     all_goals(try exact sM)
    ·refine sB ?_
     all_goals(try exact sM)
    exact⟨oM,hg⟩
   ·rw[h2] at hg
    simp only[if_true] at hg
    exact Qr hg
  ·rw[al oM,eM] at hg
   exact EN h1 hg
theorem CI(f:Nat)(cap:List PV)(jX:wB 0 cap=true)(p:(List Int)→Bool)(xs:List (List Int))(hf:∀x∈xs,C E.P f (lv (bj x)::cap) [] (gR (bv (p x)) [])) :
 CN 93 [lv (dS xs),.fn f cap] (bv (xs.any p)):=by
 refine gT 9 [.tmp 4] hm Tryz.func93 fun hl he cV=>?_
 refine eh [] (Hl f cap jX p xs hf) ?_ ?_<;>simp -implicitDefEqProofs only[go_sem,Z1,Z2,Z3,Z4,jX]
 refine me ?_
 simp[BV]
theorem Jj(c:List Int)(aP:Int):CN 95 [lv (bj c),iv aP] (bv (mz c aP)):=by
 refine gT 37 [.tmp 4] hm Tryz.func95 fun hl he cV=>?_;refine oL [] (fw aP 0 60) ?_;cases hw:c8 aP 0 60;refine me ?_;simp[mz,hw];have hb:=dM.1 hw;obtain⟨m,rfl⟩:∃m:Nat,aP=(m:Int):=⟨aP.toNat,oM⟩;have e:mz c m=lY m (um c 0) (c.drop 0):=by simp[mz,hw,um]
 refine me ?_;refine hJ hm (fun(i:Nat)=> i≤c.length∧(∀q,um c i=some q → -60≤q∧q≤60)∧mz c m=lY m (um c i) (c.drop i)) (fun(i:Nat)=> ⟨fk 37 .any [(0,lv (bj c)),(1,iv m),(10,lv (bj c)),(11,iv c.length),(12,iv i)],[]⟩) (fun(i:Nat)=> c.length-i) (0) ?_ (bW [] ?_ ?_ rfl rfl) ?_;rotate_left
 ·refine sB ?_;all_goals(try exact sM)
 ·refine sB ?_;all_goals(try exact sM)
 rotate_left;exact⟨oM,by simp[um],e⟩;rintro i ⟨hi,hq,hg⟩;rcases aa (i<c.length) with h1|h1
 ·have hpq:∀q,um c (i+1)=some q→q=c[i]:=fun q h=>by rw[Ea h1] at h;exact(Option.some.inj h).symm
  (try simp -implicitDefEqProofs only[go_sem,Z1,Z2,Z3,Z4,h1]);refine sI ?_;refine aD [] (sZ c[i] m oM) ?_;refine sI ?_;rcases aa ((0:Int)<(i:Int)) with h0|h0
  ·have h1p:i-1<c.length:=oM;have q5:((i:Int)-1)=((i-1:Nat):Int):=oM;have hqb:=hq c[i-1] (by simp[um,h1p];omega);rw[NV h1 oM h1p] at hg;cases h2:iq c[i] m;rw[h2,aZ] at hg;try simp -implicitDefEqProofs only[go_sem,Z1,Z2,Z3,Z4]
   refine sI ?_;refine fB_ ?_;simp[hg];have hb2:=mN.1 h2;rw[h2,aN] at hg;try simp -implicitDefEqProofs only[go_sem,Z1,Z2,Z3,Z4,h0,q5,h1p]
   refine sJ ?_;refine aD [] (oe c[i-1] hqb) ?_;refine sI ?_;refine oL [] (oe c[i] oM) ?_;rcases aa ((c[i].natAbs:Int)≤(c[i-1].natAbs:Int)) with h3|h3;have h3':¬c[i-1].natAbs<c[i].natAbs:=oM;simp only[h3',decide_false,aZ] at hg;have h3n:c[i].natAbs≤c[i-1].natAbs:=oM;exact EN h3n hg;have h3':c[i-1].natAbs<c[i].natAbs:=oM;have h3n:¬c[i].natAbs≤c[i-1].natAbs:=oM;simp only[h3',decide_true,aN] at hg;refine kD h3n ?_;refine⟨i+1,?_,sL,bW [] (by refine sB ?_;(first|done|(simp[aR, *];done)|(simp[aR];done)|(simp;omega)|skip)) (by refine sB ?_;(first|done|(simp[aR, *];done)|(simp[aR];done)|(simp;omega)|skip)) rfl rfl⟩;exact⟨oM,fun q h=>by rw[hpq q h];omega,hg⟩
  rw[NC h1 oM] at hg;cases h2:iq c[i] m;rw[h2,aZ] at hg;try simp -implicitDefEqProofs only[go_sem,Z1,Z2,Z3,Z4]
  refine sI ?_;refine fB_ ?_;simp[hg];have hb2:=mN.1 h2;rw[h2,aN] at hg;refine kD h0 ?_;exact⟨i+1,⟨oM,fun q h=>by rw[hpq q h];omega,hg⟩,sL,c9 []⟩
 rw[al oM,lY] at hg;exact EN h1 hg
theorem Kw(c:Mod.gI)(x:List Int):CN 94 [lv (bj x),.gQ [acH c] 0 0] (bv (!mz x c.aP)):=by refine gT 9 [.tmp 3] hm Tryz.func94 fun hl he cV=>?_;refine aD [] (Jj x c.aP) ?_;exact CG
theorem Qj(c:Mod.gI):CN 69 [av (acH c)] (bv (qP c)):=by
 refine gT 18 [.tmp 2] hm Tryz.func69 fun hl he cV=>?_;refine oL [] (fw c.aP 0 60) ?_;cases h1:c8 c.aP 0 60;refine me ?_;simp[qP,h1];rcases aa ((400:Int)<(c.au.length:Int)) with h2|h2;have h2':¬c.au.length≤400:=oM;refine kD h2 ?_;simp[qP,h2'];have h2':c.au.length≤400:=oM;have e:qP c= !(c.au.any fun x=>!mz x c.aP):=by simp[qP,h1,h2',List.all_eq_not_any_not]
 refine kD h2 ?_;refine CM [] [0] (CI 94 [.gQ [acH c] 0 0] rfl (fun x=>!mz x c.aP) c.au (fun x _=>Kw c x)) ?_;exact Qr e
theorem BB(c put:List Int)(hc9:∀l∈c,l≠0∧l.natAbs≤60)(rP:c.length≤1000):CN 149 [lv (bj c),lv (bj put)] (.ko [iv (unit put c).1,bv (unit put c).2]):=by
 rw[U3];refine gT 35 [.tmp 4,.tmp 5] hm Tryz.func149 fun hl he cV=>?_;refine aeg hm c.length (fun(i:Nat) (f:Int) (n:Int)=>0≤n∧n≤i∧CW put c 0 0=CW put (c.drop i) f n) (fun i f n=>⟨fk 35 .any [(1,lv (bj put)),(6,iv f),(7,iv n),(10,lv (bj c)),(11,iv c.length),(12,iv i)],[]⟩) (0) (0) ?_ (c9 []) ?_;simp;rintro i f n ⟨hi,hn0,hn,hg⟩;rcases aa (i<c.length) with h1|h1;have hb:=hc9 c[i] (ah h1);rw[ai h1,CW] at hg;try simp -implicitDefEqProofs only[go_sem,Z1,Z2,Z3,Z4,h1]
 refine sI ?_;refine aD [] (kI put c[i]) ?_;refine sI ?_;cases h2:put.contains c[i];rw[h2] at hg;simp only[aw,if_false] at hg;refine me ?_;refine oL [] (kI put (-c[i])) ?_;cases h3:put.contains (-c[i]);rw[h3] at hg;simp only[aw,if_false] at hg;refine me ?_;exact⟨i+1,c[i],n+1,⟨oM,oM,oM,hg⟩,sL,c9 []⟩;rw[h3] at hg;simp only[if_true] at hg;refine me ?_;exact⟨i+1,f,n,⟨oM,oM,oM,hg⟩,sL,c9 []⟩;rw[h2] at hg;simp only[if_true] at hg;exact Qr hg;rw[al oM,CW] at hg;rcases aa (1<n) with h2|h2;have h3:¬n=0:=oM;exact SV h1 h2 (aq hg h3);exact SV h1 h2 hg
theorem GX:CN 58 [.bE] .bE:=by
 refine gT 8 [.tmp 2] hm Tryz.func58 fun hl he cV=>?_;refine wW 3 _ true rfl rfl (by simp -implicitDefEqProofs only[go_sem,Z1,Z2,Z3,Z4]) vl ?_;try simp -implicitDefEqProofs only[go_sem,Z1,Z2,Z3,Z4]
 refine sI ?_;refine fv ?_;exact sD
theorem sn(a:Addr)(c:Nat):C E.P 58 [.d (.val (.slice (some a) 0 c))] [] (gR (.aW 0) [some (.aW 3 (bj []))]):=by refine gT 8 [.tmp 2] hm Tryz.func58 fun hl he cV=>?_;refine wW 3 _ false rfl rfl (p:=.d (.val (.slice (some a) 0 c))) (by simp -implicitDefEqProofs only[go_sem,Z1,Z2,Z3,Z4]) (B6 _ _ _) ?_;refine me ?_;refine bM [some 1] ?_ rfl rfl;exact sD
theorem wI(r:List D)(rs:List (List D))(hl1:rs.length≤1000)(h1:∀y∈r::rs,y.length=1):C E.P 58 [.d (.eP (r::rs))] [] (gR (.aW 0) [some (.aW 3 (r::rs))]):=by refine gT 8 [.tmp 2] hm Tryz.func58 fun hl he cV=>?_;refine wW 3 _ false rfl rfl (p:=.d (.eP (r::rs))) (by simp -implicitDefEqProofs only[go_sem,Z1,Z2,Z3,Z4]) CB ?_;refine me ?_;refine aq ⟨?_,oM,oM⟩ ?_;simpa using h1;refine bM [some 1] ?_ rfl rfl;exact sD
theorem GJ(au:List (List Int))(hc9:∀x∈au,(∀l∈x,l≠0∧l.natAbs≤60)∧x.length≤1000):CN 96 [lv (dS au),.bE] (.ko [lv (bj (fQ au []).1),bv (fQ au []).2]):=by
 have hp9:oi []:=⟨List.Pairwise.nil,by simp⟩;generalize hput:([]:List Int)=put at hp9⊢;refine gT 39 [.tmp 4,.tmp 5] hm Tryz.func96 fun hl he cV=>?_;refine oL [] GX ?_;refine hJ hm (fun(p:List Int)=> oi p∧fQ au put=fQ au p) (fun p=> ⟨fk 39 .any [(0,lv (dS au)),(6,.aW 0)],[some (.aW 3 (bj p))]⟩) (fun p=> 61-p.length) (put) ?_ (bW [none] (by refine sB ?_;(first|done|((rw[←hput];rfl))|(simp[aR, *];done)|(simp[aR];done)|(simp;omega)|skip)) (by refine sB ?_;(first|done|((rw[←hput];rfl))|(simp[aR, *];done)|(simp[aR];done)|(simp;omega)|skip)) rfl rfl) ?_;exact⟨hp9,rfl⟩;rintro p ⟨hp,hu⟩;have hl:=uR hp;have gY:=DG (au:=au) hl;refine me ?_;refine lZ hm au.length (fun(i:Nat)=>scan p au=scan p (au.drop i)) (fun i=>⟨fk 39 .any [(0,lv (dS au)),(6,.aW 0),(7,iv 0),(14,lv (dS au)),(15,iv au.length),(16,iv i)],[some (.aW 3 (bj p))]⟩) ?_ (c9 gE) ?_;simp;rintro i ⟨hi,hs⟩;rcases aa (i<au.length) with h1|h1
 ·obtain⟨b1,b2⟩:=hc9 au[i] (ah h1);rw[He h1] at hs;try simp -implicitDefEqProofs only[go_sem,Z1,Z2,Z3,Z4,h1]
  refine sI ?_;refine ox [] [0] (BB au[i] p b1 b2) rfl ?_ ?_ ?_;exact sV;all_goals simp -implicitDefEqProofs only[go_sem,Z1,Z2,Z3,Z4,h1]
  refine sI ?_;cases u1:(unit p au[i]).2
  ·rw[u1] at hs;simp only[aw,if_false] at hs;rcases aa ((unit p au[i]).1=0) with u2|u2;have k2:=eq_true u2;rw[if_pos u2] at hs;refine kD k2 ?_;exact⟨i+1,⟨oM,hs⟩,sL,c9 gE⟩;rw[if_neg u2] at hs;have hsn:(scan p au).1≠0:=(by rw[hs];exact u2);have dL:=Rx hp (fun x hx l hl=>(hc9 x hx).1 l hl) hsn;have hl2:=uR dL;rw[hs] at gY dL hl2;simp only[aw,if_false,u2] at gY;simp only[ay,fU] at hl2;have hlx:(p++[(unit p au[i]).1]).length=p.length+1:=(by simp);refine kD u2 ?_;exact⟨p++[(unit p au[i]).1],⟨dL,by rw[hu,gY]⟩,sL,bW [some 1] (by refine sB ?_;(first|done|((rw[←fa];rfl))|(simp[aR, *];done)|(simp[aR];done)|(simp;omega)|skip)) (by refine sB ?_;(first|done|((rw[←fa];rfl))|(simp[aR, *];done)|(simp[aR];done)|(simp;omega)|skip)) rfl rfl⟩
  rw[u1] at hs;simp only[if_true] at hs;rw[hs] at gY;simp only[if_true] at gY;try simp -implicitDefEqProofs only[go_sem,Z1,Z2,Z3,Z4]
  refine sI ?_;refine fB_ ?_;rw[hu,gY];exact⟨rfl,rfl⟩
 rw[Nf oM] at hs;rw[hs] at gY;simp only[aw,if_false,if_true] at gY;refine ae0 h1 ?_;refine sI ?_;refine fB_ ?_;rw[hu,gY];exact⟨rfl,rfl⟩
theorem Gz(au:List (List Int))(a:Addr)(c:Nat)(hc9:∀x∈au,(∀l∈x,l≠0∧l.natAbs≤60)∧x.length≤1000):CN 96 [lv (dS au),.d (.val (.slice (some a) 0 c))] (.ko [lv (bj (fQ au []).1),bv (fQ au []).2]):=by
 have hp9:oi []:=⟨List.Pairwise.nil,by simp⟩;generalize hput:([]:List Int)=put at hp9⊢;refine gT 39 [.tmp 4,.tmp 5] hm Tryz.func96 fun hl he cV=>?_;refine xN [] [0] (sn a c) ?_;refine hJ hm (fun(p:List Int)=> oi p∧fQ au put=fQ au p) (fun p=> ⟨fk 39 .any [(0,lv (dS au)),(6,.aW 0)],[some (.aW 3 (bj p))]⟩) (fun p=> 61-p.length) (put) ?_ (bW gE (by refine sB ?_;(first|done|((rw[←hput];rfl))|(simp[aR, *];done)|(simp[aR];done)|(simp;omega)|skip)) (by refine sB ?_;(first|done|((rw[←hput];rfl))|(simp[aR, *];done)|(simp[aR];done)|(simp;omega)|skip)) rfl rfl) ?_;exact⟨hp9,rfl⟩;rintro p ⟨hp,hu⟩;have hl:=uR hp;have gY:=DG (au:=au) hl;refine me ?_;refine lZ hm au.length (fun(i:Nat)=>scan p au=scan p (au.drop i)) (fun i=>⟨fk 39 .any [(0,lv (dS au)),(6,.aW 0),(7,iv 0),(14,lv (dS au)),(15,iv au.length),(16,iv i)],[some (.aW 3 (bj p))]⟩) ?_ (c9 gE) ?_;simp;rintro i ⟨hi,hs⟩;rcases aa (i<au.length) with h1|h1
 ·obtain⟨b1,b2⟩:=hc9 au[i] (ah h1);rw[He h1] at hs;try simp -implicitDefEqProofs only[go_sem,Z1,Z2,Z3,Z4,h1]
  refine sI ?_;refine ox [] [0] (BB au[i] p b1 b2) rfl ?_ ?_ ?_;exact sV;all_goals simp -implicitDefEqProofs only[go_sem,Z1,Z2,Z3,Z4,h1]
  refine sI ?_;cases u1:(unit p au[i]).2
  ·rw[u1] at hs;simp only[aw,if_false] at hs;rcases aa ((unit p au[i]).1=0) with u2|u2;have k2:=eq_true u2;rw[if_pos u2] at hs;refine kD k2 ?_;exact⟨i+1,⟨oM,hs⟩,sL,c9 gE⟩;rw[if_neg u2] at hs;have hsn:(scan p au).1≠0:=(by rw[hs];exact u2);have dL:=Rx hp (fun x hx l hl=>(hc9 x hx).1 l hl) hsn;have hl2:=uR dL;rw[hs] at gY dL hl2;simp only[aw,if_false,u2] at gY;simp only[ay,fU] at hl2;have hlx:(p++[(unit p au[i]).1]).length=p.length+1:=(by simp);refine kD u2 ?_;exact⟨p++[(unit p au[i]).1],⟨dL,by rw[hu,gY]⟩,sL,bW [some 1] (by refine sB ?_;(first|done|((rw[←fa];rfl))|(simp[aR, *];done)|(simp[aR];done)|(simp;omega)|skip)) (by refine sB ?_;(first|done|((rw[←fa];rfl))|(simp[aR, *];done)|(simp[aR];done)|(simp;omega)|skip)) rfl rfl⟩
  rw[u1] at hs;simp only[if_true] at hs;rw[hs] at gY;simp only[if_true] at gY;try simp -implicitDefEqProofs only[go_sem,Z1,Z2,Z3,Z4]
  refine sI ?_;refine fB_ ?_;rw[hu,gY];exact⟨rfl,rfl⟩
 rw[Nf oM] at hs;rw[hs] at gY;simp only[aw,if_false,if_true] at gY;refine ae0 h1 ?_;refine sI ?_;refine fB_ ?_;rw[hu,gY];exact⟨rfl,rfl⟩
theorem Gb(au:List (List Int))(put:List Int)(r:List D)(rs:List (List D))(hr:bj put=r::rs)(hp9:oi put)(hc9:∀x∈au,(∀l∈x,l≠0∧l.natAbs≤60)∧x.length≤1000):CN 96 [lv (dS au),.d (.eP (r::rs))] (.ko [lv (bj (fQ au put).1),bv (fQ au put).2]):=by
 have h1:∀y∈r::rs,y.length=1:=by rw[←hr];exact ny put
 have hl1:rs.length≤1000:=by have:=congrArg List.length hr;rw[j6] at this;have h2:=uR hp9;simp only[aG] at this;omega
 refine gT 39 [.tmp 4,.tmp 5] hm Tryz.func96 fun hl he cV=>?_;refine xN [] [0] (wI r rs hl1 h1) ?_;refine hJ hm (fun(p:List Int)=> oi p∧fQ au put=fQ au p) (fun p=> ⟨fk 39 .any [(0,lv (dS au)),(6,.aW 0)],[some (.aW 3 (bj p))]⟩) (fun p=> 61-p.length) (put) ?_ (c9 gE) ?_;exact⟨hp9,rfl⟩;rintro p ⟨hp,hu⟩;have hl:=uR hp;have gY:=DG (au:=au) hl;refine me ?_;refine lZ hm au.length (fun(i:Nat)=>scan p au=scan p (au.drop i)) (fun i=>⟨fk 39 .any [(0,lv (dS au)),(6,.aW 0),(7,iv 0),(14,lv (dS au)),(15,iv au.length),(16,iv i)],[some (.aW 3 (bj p))]⟩) ?_ (c9 gE) ?_;simp;rintro i ⟨hi,hs⟩;rcases aa (i<au.length) with h1|h1
 ·obtain⟨b1,b2⟩:=hc9 au[i] (ah h1);rw[He h1] at hs;try simp -implicitDefEqProofs only[go_sem,Z1,Z2,Z3,Z4,h1]
  refine sI ?_;refine ox [] [0] (BB au[i] p b1 b2) rfl ?_ ?_ ?_;exact sV;all_goals simp -implicitDefEqProofs only[go_sem,Z1,Z2,Z3,Z4,h1]
  refine sI ?_;cases u1:(unit p au[i]).2
  ·rw[u1] at hs;simp only[aw,if_false] at hs;rcases aa ((unit p au[i]).1=0) with u2|u2;have k2:=eq_true u2;rw[if_pos u2] at hs;refine kD k2 ?_;exact⟨i+1,⟨oM,hs⟩,sL,c9 gE⟩;rw[if_neg u2] at hs;have hsn:(scan p au).1≠0:=(by rw[hs];exact u2);have dL:=Rx hp (fun x hx l hl=>(hc9 x hx).1 l hl) hsn;have hl2:=uR dL;rw[hs] at gY dL hl2;simp only[aw,if_false,u2] at gY;simp only[ay,fU] at hl2;have hlx:(p++[(unit p au[i]).1]).length=p.length+1:=(by simp);refine kD u2 ?_;exact⟨p++[(unit p au[i]).1],⟨dL,by rw[hu,gY]⟩,sL,bW [some 1] (by refine sB ?_;(first|done|((rw[←fa];rfl))|(simp[aR, *];done)|(simp[aR];done)|(simp;omega)|skip)) (by refine sB ?_;(first|done|((rw[←fa];rfl))|(simp[aR, *];done)|(simp[aR];done)|(simp;omega)|skip)) rfl rfl⟩
  rw[u1] at hs;simp only[if_true] at hs;rw[hs] at gY;simp only[if_true] at gY;try simp -implicitDefEqProofs only[go_sem,Z1,Z2,Z3,Z4]
  refine sI ?_;refine fB_ ?_;rw[hu,gY];exact⟨rfl,rfl⟩
 rw[Nf oM] at hs;rw[hs] at gY;simp only[aw,if_false,if_true] at gY;refine ae0 h1 ?_;refine sI ?_;refine fB_ ?_;rw[hu,gY];exact⟨rfl,rfl⟩
theorem R0(au:List (List Int))(put:List Int)(hp9:oi put)(hc9:∀x∈au,(∀l∈x,l≠0∧l.natAbs≤60)∧x.length≤1000):CN 96 [lv (dS au),lv (bj put)] (.ko [lv (bj (fQ au put).1),bv (fQ au put).2]):=by
 cases put with
 | nil=>exact acz (GJ au hc9) (fun a c=>Gz au a c hc9)
 | cons x xs=>have h:=Gb au (x::xs) _ _ (dP x xs) hp9 hc9;rw[dP];exact h
theorem vq(l:List Int)(rP:l.length≤1000)(hb9:∀x∈l,-1000000≤x∧x≤1000000):CN 68 [lv (bj l)] (lv (bj (l.map fun x=>-x))):=by
 refine gT 19 [.tmp 2] hm Tryz.func68 fun hl he cV=>?_;refine jf hm l.length (fun i=>⟨fk 19 .any [(3,.aW 0),(6,lv (bj l)),(7,iv l.length),(8,iv i)],[some (.aW 3 (bj ((l.take i).map fun x=>-x)))]⟩) (c9 [none]) ?_;rintro i hi;have hv:((l.take i).map fun x=>-x).length=i:=by rw[cd,a6];omega
 rcases aa (i<l.length) with h1|h1
 ·have hb:=hb9 l[i] (ah h1);try simp -implicitDefEqProofs only[go_sem,Z1,Z2,Z3,Z4,h1]
  refine sJ ?_;exact⟨i+1,h1,sL,bW [some 1] (by refine sB ?_;(first|done|((rw[jN h1,dA,←fa];rfl))|(simp[aR, *];done)|(simp[aR];done)|(simp;omega)|skip)) (by refine sB ?_;(first|done|((rw[jN h1,dA,←fa];rfl))|(simp[aR, *];done)|(simp[aR];done)|(simp;omega)|skip)) rfl rfl⟩
 have et:l.take i=l:=ak oM;refine ajo h1 et ?_;refine sI ?_;refine fv ?_;exact sD
theorem H2(a:Int):CN 191 [iv a] (bv false):=by refine gT 6 [.tmp 2] hm Tryz.func191 fun hl he cV=>?_;exact CG
theorem Og(a b:Int):CN 146 [iv a,iv b] (iv (RZ a b)):=by refine gT 20 [.tmp 4] hm Tryz.func146 fun hl he cV=>?_;refine oL [] (H2 a) ?_;refine oL [] (H2 b) ?_;rcases aa (a<b) with h1|h1;refine kD h1 ?_;simp[RZ,h1];rcases aa (b<a) with h2|h2;refine Rz h1 h2 ?_;simp[RZ,h1,h2];refine Rz h1 h2 ?_;simp[RZ,h1,h2]
theorem Fz(a b:Int)(ha:-60≤a∧a≤60)(hb:-60≤b∧b≤60):CN 145 [iv a,iv b] (iv (RZ (a.natAbs:Int) (b.natAbs:Int))):=by refine gT 10 [.tmp 4] hm Tryz.func145 fun hl he cV=>?_;refine oL [] (oe a ha) ?_;refine oL [] (oe b hb) ?_;refine aD [] (Og (a.natAbs:Int) (b.natAbs:Int)) ?_;exact CG
theorem PO(l:List Int):ik (l.take 1)++l.drop 1=l:=by cases l<;>rfl
theorem Ju(l:List Int)(rP:l.length≤1000)(hb9:∀x∈l,-60≤x∧x≤60):C E.P 226 [.aW 0,iv 0,iv l.length,.fn 145 []] [some (.aW 3 (bj l))] (gR (.ko []) [some (.aW 3 (bj (ik l)))]):=by
 have hbp:∀i,∀x∈ik (l.take i),-60≤x∧x≤60:=fun i x hx=>hb9 x (List.mem_of_mem_take ((vk _ _).1 hx));refine gT 53 [] hm Tryz.func226 fun hl he cV=>?_;refine sQ ?_;refine hJ hm (fun(i:Nat)=> 1≤i∧(i≤l.length∨l.length=0∧i=1)) (fun i=> ⟨fk 53 .any [(0,.aW 0),(1,iv 0),(2,iv l.length),(3,.fn 145 []),(8,iv i)],[some (.aW 3 (bj (ik (l.take i)++l.drop i)))]⟩) (fun i=> l.length-i) (1) ?_ (bW gE (by refine sB ?_;(first|done|((rw[PO]))|(simp[aR, *];done)|(simp[aR];done)|(simp;omega)|skip)) (by refine sB ?_;(first|done|((rw[PO]))|(simp[aR, *];done)|(simp[aR];done)|(simp;omega)|skip)) rfl rfl) ?_;omega;rintro i ⟨hi1,hi2⟩;rcases aa (i<l.length) with h1|h1
 ·refine kD h1 ?_;have hp:(ik (l.take i)).length=i:=(by rw[GR,a6];omega);have ed:l.drop i=l[i]::l.drop (i+1):=ai h1;have est:ik (l.take i)++l.drop i=sk (ik (l.take i)) l[i] (l.drop (i+1)) i:=(by rw[ahW _ _ oM,ed]);have hbx:=hb9 l[i] (ah h1);rw[est];refine hJ hm (fun(j:Nat)=> j≤i∧∀y∈(ik (l.take i)).drop j,l[i].natAbs<y.natAbs) (fun j=> ⟨fk 53 .any [(0,.aW 0),(1,iv 0),(2,iv l.length),(3,.fn 145 []),(8,iv i),(9,iv j)],[some (.aW 3 (bj (sk (ik (l.take i)) l[i] (l.drop (i+1)) j)))]⟩) (fun j=> j) (i) ?_ (c9 gE) ?_;exact⟨aH _,by rw[al oM];simp⟩;rintro j ⟨hj,hd⟩;have hsl:(sk (ik (l.take i)) l[i] (l.drop (i+1)) j).length=l.length:=(by rw[ahr _ _ oM,hp,eX];omega);have hjl:j<(sk (ik (l.take i)) l[i] (l.drop (i+1)) j).length:=oM;have e1:=ajv l[i] (l.drop (i+1)) (p:=ik (l.take i)) oM hjl;rcases aa ((0:Int)<(j:Int)) with h0|h0
  ·have hj1:j-1<(sk (ik (l.take i)) l[i] (l.drop (i+1)) j).length:=oM;have hjp:j-1<(ik (l.take i)).length:=oM;have e2:=aaV l[i] (l.drop (i+1)) (p:=ik (l.take i)) oM oM hjp hj1;have q:((j:Int)-1)=((j-1:Nat):Int):=oM;have hb2:=hbp i _ (ah hjp);have estep:((sk (ik (l.take i)) l[i] (l.drop (i+1)) j).set j (ik (l.take i))[j-1]).set (j-1) l[i]=sk (ik (l.take i)) l[i] (l.drop (i+1)) (j-1):=by
    have e3:=af2 (p:=ik (l.take i)) l[i] (l.drop (i+1)) hjp
    have e4:j-1+1=j:=oM
    rwa [e4] at e3
   generalize hs:sk (ik (l.take i)) l[i] (l.drop (i+1)) j=s at *;try simp -implicitDefEqProofs only[go_sem,Z1,Z2,Z3,Z4,h0,q,hjl,hj1]
   refine sJ ?_;refine eh [] (Fz s[j] s[j-1] (by rw[e1];exact hbx) (by rw[e2];exact hb2)) ?_ ?_<;>simp -implicitDefEqProofs only[go_sem,Z1,Z2,Z3,Z4,hjl,hj1];refine sI ?_;rw[e1,e2];rcases aa (l[i].natAbs<((ik (l.take i))[j-1]).natAbs) with h3|h3
   ·have k3:RZ (l[i].natAbs:Int) (((ik (l.take i))[j-1]).natAbs:Int)<0:=Tm.2 oM;try simp -implicitDefEqProofs only[go_sem,Z1,Z2,Z3,Z4,k3,q,hjl,hj1]
    refine sJ ?_;refine aq (by rw[eH,j6];exact hj1) ?_;refine aq (by rw[eH,j6];exact hj1) ?_;refine sQ ?_;have r1:(bj s).set j (vz [D.val (Value.int .i64 s[j])] 0 [D.val (Value.int .i64 s[j-1])])=bj (s.set j s[j-1]):=yg hjl;have r2:(bj (s.set j s[j-1])).set (j-1) (vz (row (bj (s.set j s[j-1])) (j-1)) 0 [D.val (Value.int .i64 s[j])])=bj ((s.set j s[j-1]).set (j-1) s[j]):=(by rw[Ce (by rw[eH];exact hj1)];exact yg (by rw[eH];exact hj1));have e5:(ik (l.take i)).drop (j-1)=(ik (l.take i))[j-1]::(ik (l.take i)).drop j:=(by rw[ai hjp];have e6:j-1+1=j:=oM;rw[e6]);refine⟨j-1,?_,sL,bW gE (by refine sB ?_;(first|done|((rw[r1,r2,e1,e2,estep]))|(simp[aR, *];done)|(simp[aR];done)|(simp;omega)|skip)) (by refine sB ?_;(first|done|((rw[r1,r2,e1,e2,estep]))|(simp[aR, *];done)|(simp[aR];done)|(simp;omega)|skip)) rfl rfl⟩;refine⟨oM,fun y hy=>?_⟩;rw[e5] at hy;rcases List.mem_cons.1 hy with hy|hy;rw[hy];exact h3;exact hd y hy
   have k3:¬RZ (l[i].natAbs:Int) (((ik (l.take i))[j-1]).natAbs:Int)<0:=fun hh=>h3 (by have:=Tm.1 hh;omega);have eend:s=ik (l.take (i+1))++l.drop (i+1):=(by rw[jN h1,KX,←hs];exact adB (CA _) hd (fun _ _=>by omega) oM);refine kD k3 ?_;rw[eend];refine⟨i+1,?_,sL,c9 gE⟩;omega
  have eend:sk (ik (l.take i)) l[i] (l.drop (i+1)) j=ik (l.take (i+1))++l.drop (i+1):=(by rw[jN h1,KX];exact adB (CA _) hd (fun _ _=>by omega) oM);refine kD h0 ?_;rw[eend];refine⟨i+1,?_,sL,c9 gE⟩;omega
 refine kD h1 ?_;have et:l.take i=l:=ak oM;have ed:l.drop i=[]:=al oM;rw[et,ed,List.append_nil];refine bM gE ?_ rfl rfl;exact sD
theorem aaP(n:Nat)(h:n≤1000):CN 190 [.d (.val (.int .u64 (n:Int)))] (iv (Lib.bitLen n)):=by refine agy (v:=.int .u64 (n:Int)) ⟨_,Tryz.func190,rfl,rfl⟩ (fun w ok ν st u hu=>?_) rfl fun w=>?_;simp only[aF] at hu;cases hu;rfl;have:=Tryz.bits_Len (n:Int) w oM oM;simp only[Int.toNat_natCast] at this;exact this
theorem aal(l:List Int)(rP:l.length≤12)(k:Int)(hb9:∀x∈l,-60≤x∧x≤60):C E.P 189 [.aW 0,iv 0,iv l.length,iv k,.fn 145 []] [some (.aW 3 (bj l))] (gR (.ko []) [some (.aW 3 (bj (ik l)))]):=by
 have h1:(l.length:Int)≤12:=oM;refine gT 148 [] hm Tryz.func189 fun hl he cV=>?_;refine hJ hm (fun(u:Nat)=> u=0) (fun u=> ⟨fk 148 .any [(0,.aW 0),(1,iv 0),(2,iv l.length),(3,iv k),(4,.fn 145 []),(10,bv true),(11,bv true)],[some (.aW 3 (bj l))]⟩) (fun u=> u) (0) ?_ (c9 gE) ?_;rfl;rintro u rfl;refine kD h1 ?_;try simp -implicitDefEqProofs only[go_sem,Z1,Z2,Z3,Z4,Int.sub_zero,h1]
 refine sI ?_;refine xN [] [0] (Ju l oM hb9) ?_;refine bM gE ?_ rfl rfl;exact sD
theorem Em(l:List Int)(rP:l.length≤12)(hb9:∀x∈l,-60≤x∧x≤60):C E.P 144 [.aW 0,.fn 145 []] [some (.aW 3 (bj l))] (gR (.ko []) [some (.aW 3 (bj (ik l)))]):=by have hw:=wrap_u64 (n:=(l.length:Int)) oM oM;refine gT 14 [] hm Tryz.func144 fun hl he cV=>?_;refine kD hw ?_;refine oL [] (aaP l.length oM) ?_;refine xN [] [0] (aal l rP (Lib.bitLen l.length) hb9) ?_;refine bM gE ?_ rfl rfl;exact sD
theorem Lh{w:World}{ok:Nat→Prop}:∀{zs:List Int}{us:List (List Value)},cW w ok 1 (bj zs) us→us.flatten=zs.map (Value.int .i64)
 | [],us,h=>by have e:us=[]:=dI.1 h.len;rw[e];rfl
 | z::zs,us,h=>by
  have hl:=h.len;cases us with
  | nil=>simp[dP] at hl
  | cons u us=>have hu:=h.hu 0 u rfl;obtain⟨v,rfl⟩:=fE.1 hu;have hr:=h.hr 0 0 _ _ _ _ (by rw[dP];rfl) rfl rfl rfl;have ih:=Lh (w:=w) (ok:=ok) (zs:=zs) (us:=us) ⟨by simpa[dP] using hl,fun i x hx=>h.hx (i+1) x (by rw[dP];exact hx),fun i x hx=>h.hu (i+1) x hx,fun i j x y d e h1 h2 h3 h4=>h.hr (i+1) j x y d e (by rw[dP];exact h1) h2 h3 h4⟩;cases hr;rw[dt,ih];rfl
theorem Zx(w:World)(ok:Nat→Prop)(zs:List Int):cW w ok 1 (bj zs) (zs.map fun z=>[Value.int .i64 z]):=by
 refine⟨by rw[cd,j6],fun i x hx=>ny zs x (List.mem_of_getElem? hx),fun i u hu=>?_,fun i j x u d v h1 h2 h3 h4=>?_⟩;obtain⟨z,_,rfl⟩:∃z,zs[i]?=some z∧[Value.int .i64 z]=u:=by simpa using hu
 rfl;obtain⟨z,hz,rfl⟩:∃z,zs[i]?=some z∧[Value.int .i64 z]=u:=by simpa using h2
 have hx:x=[.val (.int .i64 z)]:=by unfold bj at h1;rw[gg,hz] at h1;exact(Option.some.inj h1).symm
 subst hx;cases j with
 | zero=>cases h3;cases h4;exact .val _ rfl
 | succ j=>cases h3
theorem Ik:∀(l:List Int),(compact l).length≤l.length
 | []=>by simp[compact]
 | [x]=>by simp[compact]
 | x::y::l=>by have:=Ik (y::l);simp only[compact];split;simp only[aG] at this⊢;omega;simp only[aG] at this⊢;omega
theorem xR(zs:List Int)(rP:zs.length≤1000):C E.P 147 [.aW 0] [some (.aW 3 (bj zs))] (gR (.aW 1) [some .dead,some (.aW 3 (bj (compact zs)))]):=by
 refine⟨⟨_,Tryz.func147,rfl,rfl⟩,?_⟩;intro X vs gY hO hs;have hsz:=hs.size;obtain⟨v,rfl⟩:=fE.1 (show vs.length=1 by simpa using hsz);have hv0:=hs.sl 0;obtain⟨us,jG,k9,hB,hf0⟩:=hs.en 0 (.aW 3 (bj zs)) rfl;have hcell:E.P.cellsOf 3=1:=(E.ok 3 _ rfl).cells;rw[hcell] at jG k9;have hus:=Lh k9;rw[hus,j6] at jG;have hv:v=(X.ν0 0).v:=hv0.2;have hcl:=Ik zs;have old0:∀k,some 0=some k→∃e,G.at ⟨[PV.aW 0],[some (En.aW 3 (bj zs))]⟩ k=some e∧e.live=true:=fun k hk=>by cases hk;exact⟨_,rfl,rfl⟩
 rcases jG.2 with⟨hnil,h0⟩|⟨g,cap,cur,hvv,_,hg,hn,hcm,hcs,htk⟩;have hz:zs=[]:=dI.1 h0;subst hz;rw[hv,hnil];refine(Tryz.slices_Compact_int_empty none 0 X.w0).mono ?_;rintro e w' ⟨rfl,rfl⟩;refine⟨_,.aW 1,_,_,rfl,⟨rfl,rfl⟩,hs.move (some 0) old0 ((uO.refl _ _)) 1 rfl (.aW 3 (bj [])) ⟨.slice none 0 0,[]⟩ rfl (fun b hb=>by have:=(lx rfl).1 hb;simp[zR] at this) 0 (.aW 1) (.slice none 0 0) (fun ok st ν' hν _ _=>?_) (fun ok st ν' hν gY _ _=>?_)⟩;refine⟨[],?_,cW.nil _ _ _,by simp[bj],by rw[hν]⟩;rw[hν];exact⟨by simp,.inl ⟨rfl,rfl⟩⟩;simp only[aF];exact⟨by rw[gY];rfl,by rw[hν]⟩;have hcur:∀j,j<zs.length→cur[j]?=some (.int .i64 (zs.getD j 0)):=by intro j hj;have h1:=congrArg (fun l=>l[j]?) htk;simp only[Nat.mul_one,List.getElem?_take_of_lt hj,Array.getElem?_toList,gg] at h1;rw[h1,List.getElem?_eq_getElem hj];simp[b9,hj]
 have key:=Tryz.slices_Compact_int_cells g 0 zs.length cap zs X.w0 (aH _) oM hn (fun j hj=>by
  have:=cell_of_row X.w0 g (0+j) cur _ (0,0) hg
  rw[this,Nat.zero_add]
  exact hcur j hj) (fun j hj=>by simp[World.frozen?,hg])
 rw[List.take_length,IY _ zs rfl] at key;rw[hv,hvv];refine key.mono ?_;rintro e w' ⟨rfl,q,rfl⟩;generalize hvals:(compact zs++List.replicate (zs.length-(compact zs).length) 0).map (Value.int .i64)=aV;have hvl:aV.length=zs.length:=by rw[←hvals];simp;omega
 obtain⟨c1,c2,c3,c4,c5,c6⟩:=UO g aV 0 (X.w0.drewN q);have hsz2:cur.size=cap:=oM;have hlist:=PL aV 0 cur oM;have tK:uO (fun b=>∃k,some 0=some k∧(X.ν0 k).has b) X.w0 ((X.w0.drewN q).setCells g 0 aV):=by refine⟨c1,c2,c3,by rw[c4];exact aH _,fun k hk hnb=>?_⟩;rw[c5 k (fun hkg=>hnb ⟨0,rfl,.inl (by rw[hvv,hkg];rfl)⟩)];rfl
 refine⟨_,.aW 1,_,_,rfl,⟨rfl,rfl⟩,hs.move (some 0) old0 tK 1 rfl (.aW 3 (bj (compact zs))) ⟨.slice (some ⟨g,0,none⟩) (compact zs).length cap,[]⟩ rfl (fun b hb=>.inl ⟨0,rfl,.inl (by rw[hvv];exact(lx rfl).1 hb)⟩) 0 (.aW 1) (.slice (some ⟨g,0,none⟩) (compact zs).length cap) (fun ok st ν' hν _ _=>?_) (fun ok st ν' hν gY _ _=>?_)⟩;refine⟨(compact zs).map fun z=>[Value.int .i64 z],?_,by rw[hcell];exact Zx _ _ _,by rw[j6];unfold LB;omega,by rw[hν]⟩;have hfl:((compact zs).map fun z=>[Value.int .i64 z]).flatten=(compact zs).map (Value.int .i64):=by
  induction compact zs with
  | nil=>rfl
  | cons a l ih=>rw[List.map_cons,dt,ih];rfl
 rw[hν,hcell,j6,hfl];refine⟨by simp,.inr ⟨g,cap,aaT cur 0 aV,rfl,Nat.zero_le _,c6 _ _ _ hg,oM,hcm,?_,?_⟩⟩;have:=congrArg List.length hlist;simp only[Array.length_toList,ay,a6,eX] at this;omega;rw[hlist,←hvals];simp;simp only[aF];exact⟨by rw[gY];rfl,by rw[hν]⟩
theorem tU(l:List Int)(nI:l≠[])(rP:l.length≤1000):C E.P 58 [lv (bj l)] [] (gR (.aW 0) [some (.aW 3 (bj l))]):=by
 cases l with
 | nil=>exact absurd rfl nI
 | cons x xs=>have h1:=ny (x::xs);rw[dP] at h1⊢;exact wI _ (bj xs) (by rw[j6];simp at rP;omega) h1
theorem Jl(l:List Int)(nI:l≠[])(rP:l.length≤12)(hb9:∀x∈l,-1000000≤x∧x≤1000000):CN 92 [lv (bj l)] (.ko [lv (bj ((hQ l).getD [])),bv (hQ l).isSome]):=by
 have e:=rL l;refine gT 29 [.tmp 2,.tmp 3] hm Tryz.func92 fun hl he cV=>?_;refine lZ hm l.length (fun(i:Nat)=>(∀x∈l.take i,-60≤x∧x≤60)∧EH l=(l.drop i).all fun x=>iq x 60&& !l.contains (-x)) (fun i=>⟨fk 29 .any [(0,lv (bj l)),(7,lv (bj l)),(8,iv l.length),(9,iv i)],[]⟩) ?_ (c9 []) ?_;exact⟨oM,by simp,rfl⟩;rintro i ⟨hi,ht,hg⟩;rcases aa (i<l.length) with h1|h1;have hb:=hb9 l[i] (ah h1);rw[ai h1,List.all_cons] at hg;have hc:CN 90 [iv l[i],iv 60] (bv (iq l[i] 60)):=sZ l[i] 60 oM;try simp -implicitDefEqProofs only[go_sem,Z1,Z2,Z3,Z4,h1]
 refine sI ?_;refine aD [] hc ?_;refine sI ?_;cases h2:iq l[i] 60;rw[h2,aZ,aZ] at hg;rw[hg,if_neg (by simp)] at e;exact Qr e;have hm:=mN.1 h2;rw[h2,aN] at hg;refine me ?_;refine oL [] (kI l (-l[i])) ?_;cases h3:l.contains (-l[i]);rw[h3,Bool.not_false,aN] at hg;refine me ?_;refine⟨i+1,?_,sL,c9 []⟩;refine⟨oM,fun x hx=>?_,hg⟩;rw[jN h1] at hx;rcases List.mem_append.1 hx with hx|hx;exact ht x hx;rw[List.mem_singleton.1 hx];omega;rw[h3,Bool.not_true,aZ] at hg;rw[hg,if_neg (by simp)] at e;exact Qr e;rw[al oM,List.all_nil] at hg;rw[ak oM] at ht;rw[hg,if_pos rfl] at e;refine kD h1 ?_;refine xN [] [0] (tU l nI oM) ?_;refine xN [] [0] (Em l rP ht) ?_;refine oD [] [0,1] (xR (ik l) (by rw[GR];omega)) ?_;refine sI ?_;refine fB_ ?_;rw[e];exact⟨rfl,rfl⟩
theorem IX(a b:List (List Int)):dS a++dS b=dS (a++b):=by simp[dS]
theorem W8{c:Mod.gI}{l:List Int}(h:hQ l=none):fF c l=c:=by unfold fF;rw[h]
theorem Xe{c:Mod.gI}{l o:List Int}(h:hQ l=some o):fF c l=⟨c.aP,c.au++[o]⟩:=by unfold fF;rw[h]
theorem QF(fs:List Mod.aU)(t:Mod.aU)(z:List D)(r:List D)(hr:r=eE t):(bc fs++[z]).set fs.length r=bc (fs++[t]):=by rw[←lq,List.set_append_right _ _ (by rw[eL];exact aH _),eL,jI,hr,lC,nV];rfl
theorem sF(gs:List Mod.aU)(t:Mod.aU):(bc gs++[[D.val (Value.int .i64 0),D.val (Value.int .i64 0),D.str [],D.eP [],D.str [],D.eP [],D.eP [],D.eP [],D.val (Value.int .i64 0),D.val (Value.bool false),D.val (Value.bool false),D.eP []]]).set gs.length (vz (row (bc gs++[[D.val (Value.int .i64 0),D.val (Value.int .i64 0),D.str [],D.eP [],D.str [],D.eP [],D.eP [],D.eP [],D.val (Value.int .i64 0),D.val (Value.bool false),D.val (Value.bool false),D.eP []]]) gs.length) 0 [D.val (Value.int .i64 t.kind),D.val (Value.int .i64 t.lit.aY.kind),D.str t.lit.aY.A.name,D.eP (ba t.lit.aY.A.ar),D.str t.lit.aY.B.name,D.eP (ba t.lit.aY.B.ar),D.eP (ba t.lit.aY.an),D.eP (bj t.lit.aY.bt),D.val (Value.int .i64 t.lit.aY.bJ),D.val (Value.bool t.lit.aY.cz),D.val (Value.bool t.lit.no),D.eP (bc t.ar)])=bc (gs++[t]):=by
 have e:row (bc gs++[[D.val (Value.int .i64 0),D.val (Value.int .i64 0),D.str [],D.eP [],D.str [],D.eP [],D.eP [],D.eP [],D.val (Value.int .i64 0),D.val (Value.bool false),D.val (Value.bool false),D.eP []]]) gs.length=[D.val (Value.int .i64 0),D.val (Value.int .i64 0),D.str [],D.eP [],D.str [],D.eP [],D.eP [],D.eP [],D.val (Value.int .i64 0),D.val (Value.bool false),D.val (Value.bool false),D.eP []]:=by unfold row;rw[b9,List.getElem?_append_right (by rw[eL];exact aH _),eL,jI];rfl
 rw[e];exact QF gs t _ _ (by cases t;rfl)
theorem QA{au:List Mod.aU}{i:Nat}(h:i<au.length):jD (au.drop i)=fb au[i]++jD (au.drop (i+1)):=by rw[ai h,jD]
end Go.Proofs.YtnhdminpjihbnaaGreat
