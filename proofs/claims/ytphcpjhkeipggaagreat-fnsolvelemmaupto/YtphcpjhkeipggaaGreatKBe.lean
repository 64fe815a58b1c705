/-
  The reference: the walks of models. A step towards the exact laws.
-/
import Derived.Test.YtphcpjhkeipggaaGreatKBP
import Derived.Test.YtphcpjhkeipggaaGreatKBa
set_option linter.unusedVariables false
set_option linter.unusedSimpArgs false
open Int renaming reduceEq→Z1,reduceLT→Z2,reduceLE→Z3,reduceToNat→Z4
open Bool renaming and_eq_true→ah,false_eq_true→au,true_and→aA,false_and→aI
open Classical renaming em→aa
open List renaming drop_eq_getElem_cons→ae,getElem_mem→aj,drop_of_length_le→ak,all_cons→cC,all_nil→eU
open Option renaming getD_some→cg,isSome_some→dw
namespace Go.Proofs.YtphcpjhkeipggaaGreat
open Go.Eng Go.Mod
set_option maxRecDepth 100000
set_option maxHeartbeats 3200000
theorem CB(a b:List Mod.Rat):CN 308 [lv (bQ a),lv (bQ b)] (bv (decide (a=b))):=by
 refine gT 26 [.tmp 4] hm Tryz.func308 fun hl he cf=>?_;rcases aa (a.length=b.length) with h2|h2
 ·have k2:=eq_true h2;simp -implicitDefEqProofs only[go_sem,Z1,Z2,Z3,Z4,k2];refine cS hm (fun(i:Nat)=> i≤a.length∧(a=b↔a.drop i=b.drop i)) (fun(i:Nat)=> ⟨dN 26 .any [(0,lv (bQ a)),(1,lv (bQ b)),(5,iv i)],[]⟩) (fun(i:Nat)=> a.length-i) (0) ?_ (aZ [] ?_ ?_ rfl rfl) ?_;rotate_left;exact sD;exact sD;rotate_left;simp;rintro i ⟨hi,hg⟩;rcases aa (i<a.length) with h3|h3
  ·have h4:i<b.length:=oM;rw[drop_eq h3 h4] at hg;simp -implicitDefEqProofs only[go_sem,Z1,Z2,Z3,Z4,h3,h4];refine Wp (by kernel_rfl) (a:=a[i].N) (b:=a[i].D) (c:=b[i].N) (e:=b[i].D) (by simp -implicitDefEqProofs only[go_sem,Z1,Z2,Z3,Z4]) (by simp -implicitDefEqProofs only[go_sem,Z1,Z2,Z3,Z4]) ?_;rw[sj];rcases aa (a[i]=b[i]) with h5|h5
   ·have k5:=eq_true h5;simp -implicitDefEqProofs only[go_sem,Z1,Z2,Z3,Z4,k5];refine iK ?_;refine sQ ?_;refine⟨i+1,?_,sL,aZ [] ?_ ?_ rfl rfl⟩;rotate_left;exact sD;exact sD;refine⟨oM,?_⟩;rw[hg];simp[h5]
   have e:¬a=b:=fun hh=>h5 (hg.1 hh).1;refine yE ?_;refine iK ?_;refine oW ?_;all_goals(simp[e];done)
  rw[ak oM,ak oM] at hg;refine yC ?_;refine oW ?_;all_goals(simp[hg];done)
 have e:¬a=b:=fun hh=>h2 (by rw[hh]);refine yB ?_;refine oW ?_;all_goals(simp[e];done)
theorem EZ(x:Mod.Rat)(sort:Int):CN 314 [av (fZ x),iv sort] (bv (cP x&&ud x sort)):=by
 refine gT 16 [.tmp 4] hm Tryz.func314 fun hl he cf=>?_;refine aD [] (iB x) ?_;cases h1:cP x;refine sB ?_;refine fD ?_;exact sD;refine sB ?_;rcases aa (sort=1) with h2|h2
 ·have k:=eq_true h2;refine yG ?_;refine oW ?_;all_goals(simp[ud,h2];done)
 refine yB ?_;refine oW ?_;all_goals(simp[ud,h2];done)
theorem Pd(x:Mod.Row):CN 354 [av (tn x)] (bv (mW x)):=by
 refine gT 32 [.tmp 2] hm Tryz.func354 fun hl he cf=>?_;refine cS hm (fun(i:Nat)=> i≤x.args.length∧x.args.all cP=(x.args.drop i).all cP) (fun(i:Nat)=> ⟨dN 32 .any [(1,.bA 0 0),(3,iv i)],[some (.box (dm (tn x)))]⟩) (fun(i:Nat)=> x.args.length-i) (0) ?_ (aZ fe ?_ ?_ rfl rfl) ?_;rotate_left;exact sD;exact sD;rotate_left;simp;rintro i ⟨hi,hg⟩;rcases aa (i<x.args.length) with h1|h1
 ·rw[ae h1,cC] at hg;refine yA ?_;refine aD [] (iB x.args[i]) ?_;cases h2:cP x.args[i]
  ·rw[h2,aI] at hg;refine sB ?_;refine oW ?_;all_goals(simp[mW,hg];done)
  rw[h2,aA] at hg;refine sB ?_;refine sQ ?_;refine⟨i+1,?_,sL,aZ fe ?_ ?_ rfl rfl⟩;rotate_left;exact sD;exact sD;exact⟨oM,hg⟩
 rw[ak oM,eU] at hg;refine yA ?_;refine aD [] (xz x.name) ?_;cases h2:gO x.name
 ·refine sB ?_;refine oW ?_;all_goals(simp[mW,h2];done)
 refine sB ?_;rcases aa ((x.args.length:Int)≤2) with h3' | h3'
 ·have h3:x.args.length≤2:=oM;simp -implicitDefEqProofs only[go_sem,Z1,Z2,Z3,Z4,h3'];refine aD [] (iB x.val) ?_;refine oW ?_;all_goals(simp[mW,h2,h3,hg];done)
 have h3:¬x.args.length≤2:=oM;simp -implicitDefEqProofs only[go_sem,Z1,Z2,Z3,Z4,h3'];refine oW ?_;all_goals(simp[mW,h2,h3];done)
theorem NB{xs ys:List Mod.Rat}{i:Nat}(h:i<xs.length)(h':i<ys.length):iu (xs.drop i) (ys.drop i)=if xs[i]=ys[i] then iu (xs.drop (i+1)) (ys.drop (i+1)) else eF xs[i] ys[i]:=by rw[ae h,ae h',iu]
theorem CZ(a b:Mod.Row):CN 307 [av (tn a),av (tn b)] (bv (eS a b)):=by
 refine gT 59 [.tmp 4] hm Tryz.func307 fun hl he cf=>?_;rcases aa (a.name=b.name) with h1|h1
 ·have k1:=eq_true h1;simp -implicitDefEqProofs only[go_sem,Z1,Z2,Z3,Z4,k1];rcases aa (a.args.length=b.args.length) with h2|h2
  ·have k2:=eq_true h2;simp -implicitDefEqProofs only[go_sem,Z1,Z2,Z3,Z4,k2];refine cS hm (fun(i:Nat)=> i≤a.args.length∧iu a.args b.args=iu (a.args.drop i) (b.args.drop i)) (fun(i:Nat)=> ⟨dN 59 .any [(2,.bA 0 0),(3,.bA 1 0),(5,iv i)],[some (.box (dm (tn a))),some (.box (dm (tn b)))]⟩) (fun(i:Nat)=> a.args.length-i) (0) ?_ (aZ kR ?_ ?_ rfl rfl) ?_;rotate_left;exact sD;exact sD;rotate_left;simp;rintro i ⟨hi,hg⟩;rcases aa (i<a.args.length) with h3|h3
   ·have h4:i<b.args.length:=oM;rw[NB h3 h4] at hg;simp -implicitDefEqProofs only[go_sem,Z1,Z2,Z3,Z4,h3,h4];refine Wp (by kernel_rfl) (a:=a.args[i].N) (b:=a.args[i].D) (c:=b.args[i].N) (e:=b.args[i].D) (by simp -implicitDefEqProofs only[go_sem,Z1,Z2,Z3,Z4]) (by simp -implicitDefEqProofs only[go_sem,Z1,Z2,Z3,Z4]) ?_;rw[sj];rcases aa (a.args[i]=b.args[i]) with h5|h5
    ·have k5:=eq_true h5;rw[if_pos h5] at hg;simp -implicitDefEqProofs only[go_sem,Z1,Z2,Z3,Z4,k5];refine iK ?_;refine sQ ?_;refine⟨i+1,?_,sL,aZ kR ?_ ?_ rfl rfl⟩;rotate_left;exact sD;exact sD;exact⟨oM,hg⟩
    rw[if_neg h5] at hg;simp -implicitDefEqProofs only[go_sem,Z1,Z2,Z3,Z4,h5,h3,h4];refine iK ?_;refine aD [] (oQ a.args[i] b.args[i]) ?_;refine iK ?_;refine oW ?_;all_goals(simp[eS,h1,h2,hg];done)
   rw[ak oM,ak oM] at hg;simp only[iu] at hg;refine yC ?_;refine oW ?_;all_goals(simp[eS,h1,h2,hg];done)
  refine yB ?_;refine oW ?_;all_goals(simp[eS,h1,h2];done)
 refine yA ?_;refine oW ?_;all_goals(simp[eS,h1,iQ];done)
def y8(l:List Mod.Row):Nat→Option Mod.Row
 | 0=>none
 | j+1=>l[j]?
theorem Qh(m:Mod.dQ):fS m=(decide (m.aw.length≤40)&&mh none m.aw):=by unfold fS;rw[Gm _ none (by simp)]
theorem Mi(m:Mod.dQ):CN 312 [av (fX m)] (bv (fS m)):=by
 have hmo:=Qh m;refine gT 41 [.tmp 2] hm Tryz.func312 fun hl he cf=>?_;refine cS hm (fun(i:Nat)=> i≤m.aw.length∧mh none m.aw=mh (y8 m.aw i) (m.aw.drop i)) (fun(i:Nat)=> ⟨dN 41 .any [(1,.bA 0 0),(3,iv i)],[some (.box (dm (fX m)))]⟩) (fun(i:Nat)=> m.aw.length-i) (0) ?_ (aZ fe ?_ ?_ rfl rfl) ?_;rotate_left;exact sD;exact sD;rotate_left;simp[y8];rintro i ⟨hi,hg⟩;rcases aa (i<m.aw.length) with h1|h1
 ·rw[ae h1] at hg;simp only[mh] at hg;refine yA ?_;refine aD [] (Pd m.aw[i]) ?_;cases h2:mW m.aw[i]
  ·have e:fS m=false:=(by rw[hmo,hg,h2];simp);refine sB ?_;refine iK ?_;refine oW ?_;all_goals(simp[e];done)
  rw[h2,aA] at hg;cases i with
  | zero=>
   simp only[y8,aA] at hg;simp -implicitDefEqProofs only[go_sem,Z1,Z2,Z3,Z4,Int.lt_irrefl];refine iK ?_;refine sQ ?_;refine⟨0+1,?_,sL,aZ fe ?_ ?_ rfl rfl⟩;rotate_left
   ·refine sB ?_;all_goals(simp[a7, *];done)
   exact sD;refine⟨oM,?_⟩;rw[hg];simp[y8,h1]
  | succ j=>
   have hj:j<m.aw.length:=oM;have e1:((j:Int)+1-1)=(j:Int):=oM;have e2:(0:Int)<(j:Int)+1:=oM;have et:((j:Int)+1).toNat=j+1:=oM;have e3:y8 m.aw (j+1)=some m.aw[j]:=(by simp[y8,hj]);rw[e3] at hg;simp only at hg;simp -implicitDefEqProofs only[go_sem,Z1,Z2,Z3,Z4,e1,e2,et,hj,h1];refine sQ ?_;refine aD [] (CZ m.aw[j] m.aw[j+1]) ?_;refine iK ?_;cases q4:eS m.aw[j] m.aw[j+1]
   ·rw[q4,aI] at hg;have e:fS m=false:=(by rw[hmo,hg];simp);refine sB ?_;refine oW ?_;all_goals(simp[e];done)
   rw[q4,aA] at hg;refine sB ?_;refine sQ ?_;refine⟨j+1+1,?_,sL,aZ fe ?_ ?_ rfl rfl⟩;rotate_left;exact sD;exact sD;refine⟨oM,?_⟩;rw[hg];simp[y8,h1]
 rw[ak oM] at hg;simp only[mh] at hg;have e:fS m=decide ((m.aw.length:Int)≤40):=by rw[hmo,hg,Bool.and_true];exact decide_eq_decide.2 oM
 refine yA ?_;refine oW ?_;all_goals(simp[e];done)
theorem MT{xs:List Mod.Rat}{ns:List Int}{i:Nat}(h:i<xs.length)(h':i<ns.length):kZ (xs.drop i) (ns.drop i)=(ud xs[i] ns[i]&&kZ (xs.drop (i+1)) (ns.drop (i+1))):=by rw[ae h,ae h',kZ]
theorem Uf{xs:List Mod.Rat}(h:fg xs=true){i:Nat}(hi:i<xs.length):cP xs[i]=true:=List.all_eq_true.1 h _ (aj hi)
theorem YI{r:Mod.Row}(h:mW r=true):cP r.val=true:=by simp only[mW,ah] at h;exact h.2.2.1
theorem Yc{r:Mod.Row}(h:mW r=true):r.args.length≤2:=by simp only[mW,ah,decide_eq_true_eq] at h;exact h.2.1
theorem MV{s:eM}{r:Mod.Row}(h:symbol s r.name=none):lO s r=false:=by simp[lO,h]
theorem Nd{s:eM}{r:Mod.Row}{x:Sym}(h:symbol s r.name=some x):lO s r=(decide (x.args.length=r.args.length)&&(ud r.val x.sort&&kZ r.args x.args)):=by simp[lO,h]
theorem A7(s:eM)(m:Mod.dQ):CN 236 [av (eP s),av (fX m)] (bv (fR s m)):=by
 refine gT 85 [.tmp 4] hm Tryz.func236 fun hl he cf=>?_;refine aD [] (uh s) ?_;cases h1:gC s
 ·refine sB ?_;refine oW ?_;all_goals(simp[fR,h1];done)
 refine sB ?_;refine aD [] (Mi m) ?_;cases h2:fS m
 ·refine sB ?_;refine oW ?_;all_goals(simp[fR,h1,h2];done)
 have hwf:=(pf h2).2.1;have hmo:fR s m=m.aw.all (lO s):=by simp[fR,h1,h2]
 refine sB ?_;refine cS hm (fun(i:Nat)=> i≤m.aw.length∧m.aw.all (lO s)=(m.aw.drop i).all (lO s)) (fun(i:Nat)=> ⟨dN 85 .any [(2,.bA 0 0),(3,.bA 1 0),(5,iv i)],[some (.box (dm (eP s))),some (.box (dm (fX m)))]⟩) (fun(i:Nat)=> m.aw.length-i) (0) ?_ (aZ kR ?_ ?_ rfl rfl) ?_;rotate_left;exact sD;exact sD;rotate_left;simp;rintro i ⟨hi,hg⟩;rcases aa (i<m.aw.length) with h3|h3
 ·have hw:=hwf m.aw[i] (aj h3);have hra:=nG hw;have hrv:=YI hw;have hrl:=Yc hw;rw[ae h3,cC] at hg;refine yC ?_;refine dy [] (C7 s m.aw[i].name) ?_ ?_<;>simp -implicitDefEqProofs only[go_sem,Z1,Z2,Z3,Z4,h3];refine iK ?_;cases hx:symbol s m.aw[i].name with
  | none=>rw[MV hx,aI] at hg;have e:fR s m=false:=(by rw[hmo,hg]);simp -implicitDefEqProofs only[go_sem,Z1,Z2,Z3,Z4,Option.isSome_none,Option.getD_none,h3];refine iK ?_;refine oW ?_;all_goals(simp[e];done)
  | some x=>
   rw[Nd hx] at hg;rcases aa (x.args.length=m.aw[i].args.length) with h4|h4
   ·have k4:=eq_true h4;simp only[h4,decide_true,aA] at hg;simp -implicitDefEqProofs only[go_sem,Z1,Z2,Z3,Z4,dw,cg,k4,h3];refine aD [] (EZ m.aw[i].val x.sort) ?_;refine iK ?_;simp only[hrv,aA];cases h5:ud m.aw[i].val x.sort
    ·rw[h5,aI,aI] at hg;have e:fR s m=false:=(by rw[hmo,hg]);refine sB ?_;refine oW ?_;all_goals(simp[e];done)
    rw[h5,aA] at hg;refine sB ?_;refine cS hm (fun(k:Nat)=> k≤x.args.length∧kZ m.aw[i].args x.args=kZ (m.aw[i].args.drop k) (x.args.drop k)) (fun(k:Nat)=> ⟨dN 85 .any [(2,.bA 0 0),(3,.bA 1 0),(5,iv i),(6,.bA 2 0),(8,iv k)],[some (.box (dm (eP s))),some (.box (dm (fX m))),some (.box (dm (zT x)))]⟩) (fun(k:Nat)=> x.args.length-k) (0) ?_ (aZ rC ?_ ?_ rfl rfl) ?_;rotate_left;exact sD;exact sD;rotate_left;simp;rintro k ⟨hk,hj⟩;rcases aa (k<x.args.length) with h6|h6
    ·have h7:k<m.aw[i].args.length:=oM;rw[MT h7 h6] at hj;have hr:=Uf hra h7;simp -implicitDefEqProofs only[go_sem,Z1,Z2,Z3,Z4,h6,h3,h7];refine aD [] (EZ m.aw[i].args[k] x.args[k]) ?_;refine iK ?_;simp only[hr,aA];cases h8:ud m.aw[i].args[k] x.args[k]
     ·rw[h8,aI] at hj;rw[hj,aI] at hg;have e:fR s m=false:=(by rw[hmo,hg]);refine sB ?_;refine oW ?_;all_goals(simp[e];done)
     rw[h8,aA] at hj;refine sB ?_;refine sQ ?_;refine⟨k+1,?_,sL,aZ rC ?_ ?_ rfl rfl⟩;rotate_left;exact sD;exact sD;exact⟨oM,hj⟩
    rw[ak oM,ak oM] at hj;simp only[kZ] at hj;rw[hj,aA] at hg;simp -implicitDefEqProofs only[go_sem,Z1,Z2,Z3,Z4,h6];refine sQ ?_;refine⟨i+1,?_,sL,aZ kR ?_ ?_ rfl rfl⟩;rotate_left;exact sD;exact sD;exact⟨oM,hg⟩
   simp only[h4,decide_false,aI] at hg;have e:fR s m=false:=(by rw[hmo,hg]);simp -implicitDefEqProofs only[go_sem,Z1,Z2,Z3,Z4,dw,cg,h4,h3];refine iK ?_;refine oW ?_;all_goals(simp[e];done)
 rw[ak oM,eU] at hg;refine yC ?_;refine oW ?_;all_goals(simp[hmo,hg];done)
theorem RN{aw:List Mod.Row}{i:Nat}(h:i<aw.length)(n:pL)(xs:List Mod.Rat):lookup (aw.drop i) n xs=if aw[i].name=n∧aw[i].args=xs then aw[i].val else lookup (aw.drop (i+1)) n xs:=by rw[ae h];unfold lookup;rw[List.find?_cons];rcases aa (aw[i].name=n∧aw[i].args=xs) with hc|hc;simp[hc];simp[hc]
theorem MX(m:Mod.dQ)(n:pL)(xs:List Mod.Rat):CN 352 [av (fX m),sv n,lv (bQ xs)] (av (fZ (lookup m.aw n xs))):=by
 refine gT 40 [.cell 6 151] hm Tryz.func352 fun hl he cf=>?_;refine cS hm (fun(i:Nat)=> i≤m.aw.length∧lookup m.aw n xs=lookup (m.aw.drop i) n xs) (fun(i:Nat)=> ⟨dN 40 .any [(1,sv n),(2,lv (bQ xs)),(3,.bA 0 0),(6,.bA 1 0),(7,iv i)],[some (.box (dm (fX m))),some (.box (dm (fZ lW)))]⟩) (fun(i:Nat)=> m.aw.length-i) (0) ?_ (aZ kR ?_ ?_ rfl rfl) ?_;rotate_left;exact sD;exact sD;rotate_left;simp;rintro i ⟨hi,hg⟩;rcases aa (i<m.aw.length) with h1|h1
 ·rw[RN h1] at hg;rcases aa (m.aw[i].name=n) with h2|h2
  ·have k2:=eq_true h2;simp -implicitDefEqProofs only[go_sem,Z1,Z2,Z3,Z4,h1,k2];refine aD [] (CB m.aw[i].args xs) ?_;rcases aa (m.aw[i].args=xs) with h3|h3
   ·have k3:=eq_true h3;rw[if_pos ⟨h2,h3⟩] at hg;simp -implicitDefEqProofs only[go_sem,Z1,Z2,Z3,Z4,k3,h1];refine oW ?_;all_goals(simp[hg];done)
   rw[if_neg (fun hh=>h3 hh.2)] at hg;refine yC ?_;refine sQ ?_;refine⟨i+1,?_,sL,aZ kR ?_ ?_ rfl rfl⟩;rotate_left;exact sD;exact sD;exact⟨oM,hg⟩
  rw[if_neg (fun hh=>h2 hh.1)] at hg;refine yJ ?_;refine sQ ?_;refine⟨i+1,?_,sL,aZ kR ?_ ?_ rfl rfl⟩;rotate_left;exact sD;exact sD;exact⟨oM,hg⟩
 rw[ak oM] at hg;have e:lookup m.aw n xs=⟨0,1⟩:=by rw[hg];rfl
 refine yA ?_;refine oW ?_;all_goals(simp[e];done)
theorem Kz(m:Mod.dQ)(t:ax)(ih:∀k∈t.ar,CN 309 [av (fX m),av (cT k)] (av (fZ (value m k)))):CN 309 [av (fX m),av (cT t)] (av (fZ (value m t))):=by
 refine gT 30 [.cell 4 151] hm Tryz.func309 fun hl he cf=>?_;refine cS hm (fun(i:Nat)=> i≤t.ar.length) (fun(i:Nat)=> ⟨dN 30 .any [(2,.bA 0 0),(3,.bA 1 0),(4,.bA 2 0),(5,.aX 3),(6,iv i)],[some (.box (dm (fX m))),some (.box (dm (cT t))),some (.box (dm (fZ lW))),some (.aX 151 (bQ (values m (t.ar.take i))))]⟩) (fun(i:Nat)=> t.ar.length-i) (0) ?_ (aZ wM ?_ ?_ rfl rfl) ?_;rotate_left;exact sD
 ·refine sB ?_;all_goals(simp[lW,values,bQ])
 rotate_left;omega;rintro i hi;have hv:=KH m (t.ar.take i);have oI:(t.ar.take i).length=i:=by rw[List.length_take];omega
 rcases aa (i<t.ar.length) with h1|h1
 ·refine yA ?_;have hc:=ih t.ar[i] (aj h1);refine aD [] hc ?_;refine sQ ?_;refine⟨i+1,?_,sL,aZ [some 0,some 1,some 2,some 4] ?_ ?_ rfl rfl⟩;rotate_left;exact sD
  ·refine sB ?_;all_goals(exact Es h1)
  exact h1
 have et:t.ar.take i=t.ar:=List.take_of_length_le oM;simp -implicitDefEqProofs only[go_sem,Z1,Z2,Z3,Z4,h1,et];refine qj [] [3] (MX m t.name (values m t.ar)) rfl ?_ ?_ ?_;exact sV;all_goals simp -implicitDefEqProofs only[go_sem,Z1,Z2,Z3,Z4]
 refine oW ?_;all_goals(simp[JY];done)
theorem xo(m:Mod.dQ):∀t,CN 309 [av (fX m),av (cT t)] (av (fZ (value m t))):=
 ax.ind fun n ks ih=>Kz m (.mk n ks) ih
def Bo(m:Mod.dQ):List ax→List Int→Mod.Rat→Mod.Rat×Bool
 | t::ts,n::ns,sum=>if(dt (whole n) (value m t)).2 then(if(eL sum (dt (whole n) (value m t)).1).2 then Bo m ts ns (eL sum (dt (whole n) (value m t)).1).1 else((eL sum (dt (whole n) (value m t)).1).1,false)) else(sum,false)
 | _,_,sum=>(sum,true)
theorem Wq(m:Mod.dQ):∀(ts:List ax)(ns:List Int)(sum:Mod.Rat),ox m ts ns sum=if(Bo m ts ns sum).2 then some (Bo m ts ns sum).1 else none
 | [],_,sum=>by simp[ox,Bo]
 | _::_,[],sum=>by simp[ox,Bo]
 | t::ts,n::ns,sum=>by simp only[ox,Bo,plus];rcases aa ((dt (whole n) (value m t)).2=true) with h1|h1;simp only[h1,if_true];rcases aa ((eL sum (dt (whole n) (value m t)).1).2=true) with h2|h2;simp only[h2,if_true];exact Wq m ts ns _;simp only[h2,au,if_false];simp only[h1,au,if_false]
theorem Y0{m:Mod.dQ}{ts:List ax}{ns:List Int}{i:Nat}(h:i<ts.length)(h':i<ns.length)(sum:Mod.Rat) :
 Bo m (ts.drop i) (ns.drop i) sum=if(dt (whole ns[i]) (value m ts[i])).2 then(if(eL sum (dt (whole ns[i]) (value m ts[i])).1).2 then Bo m (ts.drop (i+1)) (ns.drop (i+1)) (eL sum (dt (whole ns[i]) (value m ts[i])).1).1 else((eL sum (dt (whole ns[i]) (value m ts[i])).1).1,false)) else(sum,false):=by
 rw[ae h,ae h',Bo]
theorem aaf{m:Mod.dQ}{ts:List ax}{ns:List Int}{i:Nat}(h:ts.length≤i)(sum:Mod.Rat):Bo m (ts.drop i) (ns.drop i) sum=(sum,true):=by rw[ak h,Bo];simp
theorem Rb(m:Mod.dQ)(a:cR)(hl1:a.a8.length=a.ai.length):CN 310 [av (fX m),av (fC a)] (.iZ [av (fZ (Bo m a.ai a.a8 (whole 0)).1),bv (Bo m a.ai a.a8 (whole 0)).2]):=by
 refine gT 48 [.cell 4 151,.tmp 5] hm Tryz.func310 fun hl he cf=>?_;refine jI hm (fun(i:Nat) (sum:Mod.Rat)=> i≤a.ai.length∧Bo m a.ai a.a8 (whole 0)=Bo m (a.ai.drop i) (a.a8.drop i) sum) (fun(i:Nat) (sum:Mod.Rat)=> ⟨dN 48 .any [(2,.bA 0 0),(3,.bA 1 0),(4,.bA 2 0),(6,.bA 3 0),(7,iv i)],[some (.box (dm (fX m))),some (.box (dm (fC a))),some (.box (dm (fZ lW))),some (.box (dm (fZ sum)))]⟩) (fun(i:Nat) (sum:Mod.Rat)=> a.ai.length-i) (0) (whole 0) ?_ (aZ wM ?_ ?_ rfl rfl) ?_;rotate_left;exact sD
 ·refine sB ?_;all_goals(simp[lW,whole])
 rotate_left;simp;rintro i sum ⟨hi,hg⟩;rcases aa (i<a.ai.length) with h1|h1
 ·have h2:i<a.a8.length:=oM;rw[Y0 h1 h2] at hg;refine yJ ?_;refine aD [] (xo m a.ai[i]) ?_;have hc:=pV (whole a.a8[i]) (value m a.ai[i]);simp only[whole] at hc;refine aD [] hc ?_;refine iK ?_;have ew:(⟨a.a8[i],1⟩:Mod.Rat)=whole a.a8[i]:=rfl;rw[ew];cases h3:(dt (whole a.a8[i]) (value m a.ai[i])).2
  ·rw[h3] at hg;simp only[au,if_false] at hg;refine sB ?_;refine oW ?_;all_goals(simp[hg];done)
  rw[h3] at hg;simp only[if_true] at hg;refine sB ?_;refine aD [] (oc sum (dt (whole a.a8[i]) (value m a.ai[i])).1) ?_;cases h4:(eL sum (dt (whole a.a8[i]) (value m a.ai[i])).1).2
  ·rw[h4] at hg;simp only[au,if_false] at hg;refine sB ?_;refine oW ?_;all_goals(simp[hg];done)
  rw[h4] at hg;simp only[if_true] at hg;refine sB ?_;refine sQ ?_;refine⟨i+1,(eL sum (dt (whole a.a8[i]) (value m a.ai[i])).1).1,?_,sL,aZ wM ?_ ?_ rfl rfl⟩;rotate_left;exact sD;exact sD;exact⟨oM,hg⟩
 rw[aaf oM] at hg;refine yA ?_;refine oW ?_;all_goals(simp[hg];done)
theorem Ih{s:eM}{m:Mod.dQ}{l:bL}(h:fR s m=false∨gr s l.aN=false):iy s m l=none:=by unfold iy;rcases h with h|h<;>simp[h]
theorem Qq{s:eM}{m:Mod.dQ}{l:bL}(h:fR s m=true)(h2:gr s l.aN=true):iy s m l=(qi m l.aN).map fun b=>b != l.no:=by unfold iy;simp[h,h2]
theorem Yp{s:eM}{a:cR}(h:gr s a=true):dq a=true:=by simp only[gr,ah] at h;exact h.2.1
theorem Jg(s:eM)(m:Mod.dQ)(l:bL):CN 235 [av (eP s),av (fX m),av (r9 l)] (.iZ [bv ((iy s m l).getD false),bv (iy s m l).isSome]):=by
 refine gT 70 [.tmp 6,.tmp 7] hm Tryz.func235 fun hl he cf=>?_;refine aD [] (A7 s m) ?_;cases h1:fR s m
 ·have e:=Ih (l:=l) (.inl h1);refine sB ?_;refine oW ?_;all_goals(simp[e];done)
 refine sB ?_;refine aD [] (Cu s l.aN) ?_;cases h2:gr s l.aN
 ·have e:=Ih (m:=m) (.inr h2);refine sB ?_;refine oW ?_;all_goals(simp[e];done)
 have e:=Qq h1 h2;have hwf:=Yp h2;rcases aa (l.aN.kind=1) with h3|h3;have k3:=eq_true h3;have e2:qi m l.aN=some (decide (value m l.aN.A=value m l.aN.B)):=by unfold qi;rw[if_pos h3]
 rw[e2] at e;simp -implicitDefEqProofs only[go_sem,Z1,Z2,Z3,Z4,k3];refine aD [] (xo m l.aN.A) ?_;refine aD [] (xo m l.aN.B) ?_;refine Qc (by kernel_rfl) (a:=(value m l.aN.A).N) (b:=(value m l.aN.A).D) (c:=(value m l.aN.B).N) (e:=(value m l.aN.B).D) (by simp -implicitDefEqProofs only[go_sem,Z1,Z2,Z3,Z4]) (by simp -implicitDefEqProofs only[go_sem,Z1,Z2,Z3,Z4]) ?_;rw[sj];refine sB ?_;refine iK ?_;refine oW ?_;rw[e];exact⟨rfl,rfl⟩;have k:l.aN.kind=2:=(ml hwf).resolve_left h3;obtain⟨_,_,_,eO,hb,_⟩:=oX hwf k;have e2:qi m l.aN=(ox m l.aN.ai l.aN.a8 (whole 0)).map fun x=>below x l.aN.bj l.aN.bJ:=by unfold qi;rw[if_neg h3]
 have e3:=Wq m l.aN.ai l.aN.a8 (whole 0);refine yC ?_;refine aD [] (Rb m l.aN eO) ?_;cases h4:(Bo m l.aN.ai l.aN.a8 (whole 0)).2
 ·rw[h4] at e3;simp only[au,if_false] at e3;rw[e2,e3] at e;refine sB ?_;refine oW ?_;all_goals(simp[e];done)
 rw[h4] at e3;simp only[if_true] at e3;have hs:=RS (s7 oM oM) e3;have e4:=TN hs (n:=l.aN.bj) oM oM l.aN.bJ;rw[e2,e3] at e;simp only[Option.map_some,e4] at e;generalize (Bo m l.aN.ai l.aN.a8 (whole 0)).1=sum at *;have hc:=oQ sum (whole l.aN.bj);simp only[whole] at hc;refine sB ?_;refine aD [] hc ?_;have ew:(⟨l.aN.bj,1⟩:Mod.Rat)=whole l.aN.bj:=rfl;rw[ew];cases h5:eF sum (whole l.aN.bj)
 ·cases h6:l.aN.bJ;simp -implicitDefEqProofs only[go_sem,Z1,Z2,Z3,Z4,h6];refine Qc (by kernel_rfl) (a:=sum.N) (b:=sum.D) (c:=l.aN.bj) (e:=1) (by simp -implicitDefEqProofs only[go_sem,Z1,Z2,Z3,Z4]) (by simp -implicitDefEqProofs only[go_sem,Z1,Z2,Z3,Z4]) ?_;have e5:rj sum.N sum.D l.aN.bj 1=decide (sum=whole l.aN.bj):=sj sum (whole l.aN.bj);rw[e5];refine sB ?_;refine iK ?_;refine oW ?_;rw[e,h5,h6];exact⟨rfl,rfl⟩;simp -implicitDefEqProofs only[go_sem,Z1,Z2,Z3,Z4,h6];refine iK ?_;refine oW ?_;all_goals(simp[e,h5,h6];done)
 refine sB ?_;refine iK ?_;refine oW ?_;all_goals(simp[e,h5];done)
end Go.Proofs.YtphcpjhkeipggaaGreat
