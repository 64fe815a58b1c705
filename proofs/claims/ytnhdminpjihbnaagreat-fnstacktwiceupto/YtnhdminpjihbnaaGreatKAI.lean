/-
  The reference: the walks of names, signatures, shapes and sorts. A step towards the exact laws.
-/
import Derived.Test.YtnhdminpjihbnaaGreatKAL
set_option linter.unusedVariables false
set_option linter.unusedSimpArgs false
open Int renaming reduceEq→Z1,reduceLT→Z2,reduceLE→Z3,reduceToNat→Z4
open Bool renaming false_eq_true→aw,true_and→aN,false_and→aZ
open Classical renaming em→aa
open List renaming getElem_mem→ah,drop_eq_getElem_cons→ai,take_of_length_le→ak,drop_of_length_le→al,length_append→ay,length_cons→aG,cons_append→bu,all_cons→cY,length_eq_zero_iff→dI,all_nil→fW,find?_cons→iX
open Nat renaming le_refl→aH
namespace Go.Proofs.YtnhdminpjihbnaaGreat
open Go.Eng Go.Mod
set_option maxRecDepth 100000
set_option maxHeartbeats 800000
theorem DC(s:p8):CN 80 [sv s] (bv (ig s)):=by
 refine gS 28 [.tmp 2] hm Tryz.func80 fun hl he cV=>?_;refine lZ hm s.length (fun(i:Nat)=>s.all kF=(s.drop i).all kF) (fun i=>⟨fk 28 .any [(0,sv s),(3,iv i)],[]⟩) ?_ (c9 []) ?_;simp;rintro i ⟨hi,hg⟩;rcases aa (i<s.length) with h1|h1;rw[ai h1,cY] at hg;refine bS h1 ?_;rw[Gl h1];rcases aa ((s[i].toNat:Int)<97) with h2|h2;have h3:kF s[i]=false:=by simp[kF];omega
 rw[h3,aZ] at hg;refine dB h2 ?_;simp[ig,hg];refine lf h2 h1 ?_;rw[Gl h1];rcases aa (122<(s[i].toNat:Int)) with h4|h4;have h3:kF s[i]=false:=by simp[kF];omega
 rw[h3,aZ] at hg;refine dB h4 ?_;simp[ig,hg];have h3:kF s[i]=true:=by simp[kF];omega
 rw[h3,aN] at hg;refine dB h4 ?_;exact⟨i+1,⟨oM,hg⟩,sL,c9 []⟩;rw[al oM,fW] at hg;have e:ig s=(decide ((1:Int)≤(s.length:Int))&&decide ((s.length:Int)≤2)):=by simp[ig,hg,c8]
 rcases aa ((1:Int)≤(s.length:Int)) with h2|h2;exact p9 h1 h2 e;exact p9 h1 h2 e
theorem xP(n:Int):CN 81 [iv n] (bv (isSort n)):=by refine gS 9 [.tmp 2] hm Tryz.func81 fun hl he cV=>?_;rcases aa (n=0) with h|h;have k:=eq_true h;refine dB k ?_;simp[isSort,h];refine dB h ?_;simp[isSort,h]
theorem uV(s:eV):CN 51 [av (gi s)] (bv (gy s)):=by
 refine gS 68 [.tmp 2] hm Tryz.func51 fun hl he cV=>?_;refine hJ hm (fun(i:Nat)=> i≤s.cq.length∧rH none s.cq=rH (mD s.cq i) (s.cq.drop i)) (fun(i:Nat)=> ⟨fk 68 .any [(1,.bK 0 0),(3,iv i)],[some (.box (fy (gi s)))]⟩) (fun(i:Nat)=> s.cq.length-i) (0) ?_ (bW gE ?_ ?_ rfl rfl) ?_;rotate_left;exact sC;exact sC;rotate_left;simp[mD];rintro i ⟨hi,hg⟩;rcases aa (i<s.cq.length) with h1|h1
 ·rw[ai h1] at hg;simp only[rH] at hg;refine uA ?_;refine aC [] (DC s.cq[i].name) ?_;cases h2:ig s.cq[i].name
  ·have e:gy s=false:=(by simp[gy,hg,qd,h2]);refine sA ?_;refine iK ?_;refine An ?_;all_goals(simp[e];done)
  refine sA ?_;rcases aa ((2:Int)<(s.cq[i].args.length:Int)) with h3' | h3';have h3:¬s.cq[i].args.length≤2:=oM;have e:gy s=false:=(by simp[gy,hg,qd,h3]);refine bS h3' ?_;refine iK ?_;refine An ?_;simp[e];have h3:s.cq[i].args.length≤2:=oM;refine bS h3' ?_;refine aC [] (xP s.cq[i].sort) ?_;cases h4:isSort s.cq[i].sort;have e:gy s=false:=(by simp[gy,hg,qd,h4]);refine sA ?_;refine iK ?_;refine An ?_;simp[e];cases i with
  | zero=>simp only[mD,aN] at hg;simp -implicitDefEqProofs only[go_sem,Int.lt_irrefl];refine iK ?_;refine lZ hm (s.cq[0].args.length) (fun(u:Nat)=>s.cq[0].args.all isSort=(s.cq[0].args.drop u).all isSort) (fun u=>⟨fk 68 .any [(1,.bK 0 0),(3,iv (0:Nat)),(4,.bK 1 0),(5,iv u)],[some (.box (fy (gi s))),some (.box (fy (Bt s.cq[0])))]⟩) ?_ (c9 qR) ?_;simp;rintro u ⟨hu,hk⟩;rcases aa (u<s.cq[0].args.length) with g1|g1;rw[ai g1,cY] at hk;refine uI ?_;refine aC [] (xP s.cq[0].args[u]) ?_;cases g2:isSort s.cq[0].args[u];rw[g2,aZ] at hk;have e:gy s=false:=(by simp[gy,hg,qd,hk]);exact fA e;rw[g2,aN] at hk;refine bI ?_;exact⟨u+1,⟨oM,hk⟩,sL,c9 qR⟩;rw[al oM,fW] at hk;have e:qd s.cq[0]=true:=(by simp[qd,h2,h3,h4,hk]);rw[e] at hg;refine dB g1 ?_;refine⟨0+1,?_,sL,c9 gE⟩;refine⟨oM,?_⟩;rw[hg];simp[mD,h1]
  | succ j=>have hj:j<s.cq.length:=oM;have e1:((j:Int)+1-1)=(j:Int):=oM;have e2:(0:Int)<(j:Int)+1:=oM;have e3:mD s.cq (j+1)=some s.cq[j].name:=(by simp[mD,hj]);rw[e3] at hg;simp only at hg;simp -implicitDefEqProofs only[go_sem,e1,e2,hj];refine sQ ?_;cases q4:kn s.cq[j].name s.cq[j+1].name;rw[q4,aZ,Bool.and_false] at hg;have e:gy s=false:=(by simp[gy,hg]);have h5:Op.bytesLess s.cq[j].name s.cq[j+1].name=false:=q4;refine dB h5 ?_;simp[e];rw[q4,aN] at hg;have h5:Op.bytesLess s.cq[j].name s.cq[j+1].name=true:=q4;refine bS h5 ?_;refine hJ hm (fun(u:Nat)=> u≤s.cq[j+1].args.length∧s.cq[j+1].args.all isSort=(s.cq[j+1].args.drop u).all isSort) (fun(u:Nat)=> ⟨fk 68 .any [(1,.bK 0 0),(3,iv (j+1:Nat)),(4,.bK 1 0),(5,iv u)],[some (.box (fy (gi s))),some (.box (fy (Bt s.cq[j+1])))]⟩) (fun(u:Nat)=> s.cq[j+1].args.length-u) (0) ?_ (c9 qR) ?_;simp;rintro u ⟨hu,hk⟩;rcases aa (u<s.cq[j+1].args.length) with g1|g1;rw[ai g1,cY] at hk;refine uI ?_;refine aC [] (xP s.cq[j+1].args[u]) ?_;cases g2:isSort s.cq[j+1].args[u];rw[g2,aZ] at hk;have e:gy s=false:=(by simp[gy,hg,qd,hk]);exact fA e;rw[g2,aN] at hk;refine bI ?_;exact⟨u+1,⟨oM,hk⟩,sL,c9 qR⟩;rw[al oM,fW] at hk;have e:qd s.cq[j+1]=true:=(by simp[qd,h2,h3,h4,hk]);rw[e] at hg;refine dB g1 ?_;refine⟨j+1+1,?_,sL,c9 gE⟩;refine⟨oM,?_⟩;rw[hg];simp[mD,h1]
 rw[al oM] at hg;simp only[rH] at hg;have e:gy s=decide ((s.cq.length:Int)≤7):=by simp[gy,hg];omega
 exact lJ h1 e
theorem aaO(t:az)(d:Nat):bX t (d+1)=(ig t.name&&(decide (t.ar.length≤2)&&dj t.ar d)):=by cases t;rfl
theorem RB{ts:List az}{i:Nat}(h:i<ts.length)(d:Nat):dj (ts.drop i) d=(bX ts[i] d&&dj (ts.drop (i+1)) d):=by rw[ai h,dj]
theorem JT(t:az)(ih:∀k∈t.ar,∀d:Nat,d≤4→CN 256 [av (cT k),iv d] (bv (bX k d)))(d:Nat)(hd:d≤4) :
 CN 256 [av (cT t),iv d] (bv (bX t d)):=by
 cases d with
 | zero=>have e:bX t 0=false:=(by cases t;rfl);have cV:=oc;refine tI (nt:=36) (rs:=[.tmp 4]) hm Tryz.func256 rfl rfl rfl rfl rfl (fun hl he=>?_);simp -implicitDefEqProofs only[go_sem,Z2] at hl⊢;exact fA e
 | succ d=>have e:=aaO t d;refine gS 36 [.tmp 4] hm Tryz.func256 fun hl he cV=>?_;have h0:¬ (d:Int)+1<1:=oM;refine bS h0 ?_;refine aC [] (DC t.name) ?_;cases h2:ig t.name;exact lJ e h2;refine sA ?_;rcases aa ((2:Int)<(t.ar.length:Int)) with h3' | h3';have h3:¬t.ar.length≤2:=oM;exact p9 h3' e h3;have h3:t.ar.length≤2:=oM;have e:bX t (d+1)=dj t.ar d:=(by simp[e,h2,h3]);refine bS h3' ?_;refine lZ hm t.ar.length (fun(i:Nat)=>dj t.ar d=dj (t.ar.drop i) d) (fun i=>⟨fk 36 .any [(1,iv ((d:Int)+1)),(2,.bK 0 0),(5,iv i)],[some (.box (fy (cT t)))]⟩) ?_ (c9 gE) ?_;simp;rintro i ⟨hi,hg⟩;rcases aa (i<t.ar.length) with h1|h1;rw[RB h1] at hg;have e2:(d:Int)+1-1=(d:Int):=oM;simp -implicitDefEqProofs only[go_sem,h1,e2];refine sQ ?_;have hc:=ih t.ar[i] (ah h1) d oM;refine aC [] hc ?_;cases h4:bX t.ar[i] d;rw[h4,aZ] at hg;exact lJ e hg;rw[h4,aN] at hg;refine bI ?_;exact⟨i+1,⟨oM,hg⟩,sL,c9 gE⟩;rw[al oM,dj] at hg;exact p9 h1 e hg
theorem Nk:∀(t:az)(d:Nat),d≤4→CN 256 [av (cT t),iv d] (bv (bX t d)):=
 az.ind fun n ks ih d hd=>JT (.mk n ks) ih d hd
theorem Xo{ts:List az}{i:Nat}(h:i<ts.length)(d:Nat):oA (ts.take (i+1)) d=oA (ts.take i) d+aP ts[i] d:=by
 have e:ts.take (i+1)=ts.take i++[ts[i]]:=by rw[List.take_add_one,List.getElem?_eq_getElem h];rfl
 have key:∀(xs:List az),oA (xs++[ts[i]]) d=oA xs d+aP ts[i] d:=by
  intro xs;induction xs with
  | nil=>simp[oA]
  | cons a xs ih=>simp only[bu,oA,ih];omega
 rw[e,key]
theorem KQ(t:az)(ih:∀k∈t.ar,∀d:Nat,d≤4→bX k d=true→CN 257 [av (cT k),iv d] (iv (aP k d)))(d:Nat)(hd:d≤4)(hs:bX t d=true) :
 CN 257 [av (cT t),iv d] (iv (aP t d)):=by
 cases d with
 | zero=>cases t;simp[bX] at hs
 | succ d=>have hk:=qI hs;have e:aP t (d+1)=1+oA t.ar d:=(by cases t;rfl);refine gS 29 [.tmp 4] hm Tryz.func257 fun hl he cV=>?_;refine jf hm t.ar.length (fun i=>⟨fk 29 .any [(1,iv ((d:Int)+1)),(2,.bK 0 0),(5,iv ((1+oA (t.ar.take i) d:Nat):Int)),(6,iv i)],[some (.box (fy (cT t)))]⟩) (c9 gE) ?_;rintro i hi;have b1:=FG (t.ar.take i) d (uS hk.2.2 i);have b2:(t.ar.take i).length≤2:=(by simp;omega);have b3:(2:Nat) ^ d≤2 ^ 4:=Nat.pow_le_pow_right oM oM;have b4:(t.ar.take i).length*(2 ^ d-1)≤2*(2 ^ d-1):=Nat.mul_le_mul_right _ b2;rcases aa (i<t.ar.length) with h1|h1;have hsk:=qG hk.2.2 _ (ah h1);have b5:=QD t.ar[i] d hsk;have e2:(d:Int)+1-1=(d:Int):=oM;have e3:(0:Int)<(d:Int)+1:=oM;simp -implicitDefEqProofs only[go_sem,h1,e3,e2];refine sQ ?_;have hc:=ih t.ar[i] (ah h1) d oM hsk;refine aC [] hc ?_;refine sQ ?_;exact⟨i+1,h1,sL,bW gE (by refine sA ?_;(simp only[Xo h1];simp;omega)) sC rfl rfl⟩;have et:t.ar.take i=t.ar:=ak oM;exact p9 h1 et e
theorem NB:∀(t:az)(d:Nat),d≤4→bX t d=true→CN 257 [av (cT t),iv d] (iv (aP t d)):=
 az.ind fun n ks ih d hd hs=>KQ (.mk n ks) ih d hd hs
theorem wg(t:az):CN 222 [av (cT t)] (bv (bR t)):=by have e:=FL t;unfold right at e;refine gS 10 [.tmp 2] hm Tryz.func222 fun hl he cV=>?_;have hc:=Nk t 4 oM;refine aC [] hc ?_;cases h:bX t 4;refine bI ?_;simp[←e,h];have hc:=NB t 4 oM h;refine sA ?_;refine oL [] hc ?_;rw[←e,h];simp;omega
theorem Ny(s:eV)(n:p8):CN 223 [av (gi s),sv n] (.ko [av (Bt ((symbol s n).getD zz)),bv (symbol s n).isSome]):=by
 refine gT 28 [.cell 4 116,.tmp 5] hm Tryz.func223 fun hl he cV=>?_;refine lZ hm s.cq.length (fun(i:Nat)=>symbol s n=(s.cq.drop i).find? (fun x=>decide (x.name=n))) (fun i=>⟨fk 28 .any [(1,sv n),(2,.bK 0 0),(4,.bK 1 0),(6,iv i)],[some (.box (fy (gi s))),some (.box (fy (Bt zz)))]⟩) ?_ (c9 qR) ?_;simp[symbol];rintro i ⟨hi,hg⟩;rcases aa (i<s.cq.length) with h1|h1;rw[ai h1] at hg;rcases aa (s.cq[i].name=n) with h2|h2;have e:symbol s n=some s.cq[i]:=by rw[hg];simp only[iX,h2,decide_true]
 exact SV h1 h2 e;have e:symbol s n=(s.cq.drop (i+1)).find? (fun x=>decide (x.name=n)):=by rw[hg];simp only[iX,h2,decide_false]
 try simp -implicitDefEqProofs only[go_sem,Z1,Z2,Z3,Z4,h1,h2]
 refine sJ ?_;exact⟨i+1,⟨oM,e⟩,sL,c9 qR⟩;have e:symbol s n=none:=by rw[hg,al oM];rfl
 refine kD h1 ?_;simp[e,zz,iG]
theorem QN(s:eV)(hs:gy s=true)(t:az)(ih:∀k∈t.ar,CN 179 [av (gi s),av (cT k)] (iv ((ir s k).getD (-1)))) :
 CN 179 [av (gi s),av (cT t)] (iv ((ir s t).getD (-1))):=by
 have ht:=PX s t
 refine gT 48 [.tmp 4] hm Tryz.func179 fun hl he cV=>?_
 refine oL [] (Ny s t.name) ?_
 cases hx:symbol s t.name with
 | none=>rw[hx] at ht;simp only at ht;exact Qr ht
 | some x=>
  rw[hx] at ht;simp only at ht;have hxo:=(KA (Po hs hx)).2;rcases aa (x.args.length=t.ar.length) with h1|h1;simp only[h1,decide_true,aN] at ht;refine kD h1 ?_;refine lZ hm t.ar.length (fun(i:Nat)=>jj s t.ar x.args=jj s (t.ar.drop i) (x.args.drop i)) (fun i=>⟨fk 48 .any [(2,.bK 0 0),(3,.bK 1 0),(5,.bK 2 0),(7,iv i)],[some (.box (fy (gi s))),some (.box (fy (cT t))),some (.box (fy (Bt x)))]⟩) ?_ (c9 sa) ?_;simp;rintro i ⟨hi,hg⟩;rcases aa (i<t.ar.length) with h2|h2;have h3:i<x.args.length:=oM;have hso:=K4.1 (hxo x.args[i] (ah h3));rw[Fc h2 h3] at hg;try simp -implicitDefEqProofs only[go_sem,Z1,Z2,Z3,Z4,h2,h3]
  refine sI ?_;have hc:=ih t.ar[i] (ah h2);refine eh [] hc ?_ ?_<;>simp -implicitDefEqProofs only[go_sem,Z1,Z2,Z3,Z4,h2,h3];refine bI ?_;rcases aa ((ir s t.ar[i]).getD (-1)=x.args[i]) with hn|hn;have hn2:ir s t.ar[i]=some x.args[i]:=by
   cases hk:ir s t.ar[i] with
   | none=>rw[hk] at hn;simp only[Option.getD_none] at hn;omega
   | some n=>rw[hk] at hn;simp only[Option.getD_some] at hn;rw[hn]
  have hz:jj s t.ar x.args=jj s (t.ar.drop (i+1)) (x.args.drop (i+1)):=(by rw[hg,hn2];simp);have k:=eq_true hn;refine kD k ?_;exact⟨i+1,⟨oM,hz⟩,sL,c9 sa⟩;have hn2:¬ir s t.ar[i]=some x.args[i]:=fun h=>hn (by rw[h];rfl);have hz:jj s t.ar x.args=false:=(by rw[hg];simp[hn2]);rw[hz] at ht;simp only[aw,if_false] at ht;exact EN hn ht;rw[al oM,al oM] at hg;rw[hg] at ht;simp only[jj,if_true] at ht;exact EN h2 ht;simp only[h1,decide_false,aZ,aw,if_false] at ht;exact EN h1 ht
theorem xq(s:eV)(hs:gy s=true):∀(t:az),CN 179 [av (gi s),av (cT t)] (iv ((ir s t).getD (-1))):=
 az.ind fun n ks ih=>QN s hs (.mk n ks) ih
theorem drop_eq{α:Type}{xs ys:List α}{i:Nat}(h:i<xs.length)(h':i<ys.length):(xs.drop i=ys.drop i)=(xs[i]=ys[i]∧xs.drop (i+1)=ys.drop (i+1)):=by rw[ai h,ai h',List.cons.injEq]
theorem G0(a b:az)(ih:∀k∈a.ar,∀y,CN 182 [av (cT k),av (cT y)] (bv (decide (k=y)))):CN 182 [av (cT a),av (cT b)] (bv (decide (a=b))):=by
 refine gT 39 [.tmp 4] hm Tryz.func182 fun hl he cV=>?_;rcases aa (a.name=b.name) with h|h;have k:=eq_true h;refine kD k ?_;rcases aa (a.ar.length=b.ar.length) with h2|h2;have k2:=eq_true h2;refine kD k2 ?_;refine lZ hm a.ar.length (fun(i:Nat)=>(a.ar=b.ar↔a.ar.drop i=b.ar.drop i)) (fun i=>⟨fk 39 .any [(2,.bK 0 0),(3,.bK 1 0),(5,iv i)],[some (.box (fy (cT a))),some (.box (fy (cT b)))]⟩) ?_ (c9 qR) ?_;simp;rintro i ⟨hi,hg⟩;rcases aa (i<a.ar.length) with h3|h3;have h4:i<b.ar.length:=oM;rw[drop_eq h3 h4] at hg;try simp -implicitDefEqProofs only[go_sem,Z1,Z2,Z3,Z4,h3,h4]
 refine sI ?_;have hc:=ih a.ar[i] (ah h3) b.ar[i];refine aD [] hc ?_;refine sI ?_;rcases aa (a.ar[i]=b.ar[i]) with h5|h5;have k5:=eq_true h5;refine kD k5 ?_;refine⟨i+1,?_,sL,c9 qR⟩;refine⟨oM,?_⟩;rw[hg];simp[h5];have e:¬a.ar=b.ar:=fun hh=>h5 (hg.1 hh).1;refine kD h5 ?_;simp[BX,e];rw[al oM,al oM] at hg;refine kD h3 ?_;simp[BX,h,hg];have e:¬a.ar=b.ar:=fun hh=>h2 (by rw[hh]);refine kD h2 ?_;simp[BX,e];refine kD h ?_;simp[BX,h]
theorem qi:∀a b,CN 182 [av (cT a),av (cT b)] (bv (decide (a=b))):=
 az.ind fun n ks ih b=>G0 (.mk n ks) b ih
theorem s9(t:az):CN 255 [av (cT t)] (bv (isNone t)):=by refine gT 12 [.tmp 2] hm Tryz.func255 fun hl he cV=>?_;rcases aa (t.name=[]) with h|h;have k:=eq_true h;refine kD k ?_;simp[isNone,h];refine kD h ?_;simp[isNone,h]
theorem MJ(t:az)(ih:∀k∈t.ar,CN 62 [av (cT k)] (av (cT k))):CN 62 [av (cT t)] (av (cT t)):=by
 refine gT 27 [.cell 2 31] hm Tryz.func62 fun hl he cV=>?_;refine jf hm t.ar.length (fun i=>⟨fk 27 .any [(1,.bK 0 0),(2,.bK 1 0),(3,.bK 2 0),(4,iv i)],[some (.box (fy (cT t))),some (.box (fy (cT aX))),some (.box [.d (.str t.name),.aW 3]),some (.aW 31 (ba (t.ar.take i)))]⟩) (c9 [some 0,some 1,some 2,none]) ?_;rintro i hi;rcases aa (i<t.ar.length) with h1|h1
 ·(try simp -implicitDefEqProofs only[go_sem,Z1,Z2,Z3,Z4,h1]);refine sI ?_;have hc:=ih t.ar[i] (ah h1);refine aD [] hc ?_;refine sJ ?_;exact⟨i+1,h1,sL,bW [some 0,some 1,some 2,some 4] (by refine sB ?_;(first|done|(exact r8 h1)|(simp[aR, *];done)|(simp[aR];done)|(simp;omega)|skip)) (by refine sB ?_;(first|done|(exact r8 h1)|(simp[aR, *];done)|(simp[aR];done)|(simp;omega)|skip)) rfl rfl⟩
 have et:t.ar.take i=t.ar:=ak oM;exact EN h1 et
theorem mK:∀t,CN 62 [av (cT t)] (av (cT t)):=
 az.ind fun n ks ih=>MJ (.mk n ks) ih
theorem Na(ts:List az)(t:az):CN 224 [lv (ba ts),av (cT t)] (iv (dN ts t)):=by
 refine gT 19 [.tmp 4] hm Tryz.func224 fun hl he cV=>?_;refine lZ hm ts.length (fun(i:Nat)=>dN ts t=eM (fun u=>decide (t=u)) (ts.drop i) i) (fun i=>⟨fk 19 .any [(0,lv (ba ts)),(3,.bK 0 0),(5,iv i)],[some (.box (fy (cT t)))]⟩) ?_ (c9 gE) ?_;simp[dN,idxOf];rintro i ⟨hi,hg⟩;rcases aa (i<ts.length) with h1|h1;rw[ai h1,eM] at hg;try simp -implicitDefEqProofs only[go_sem,Z1,Z2,Z3,Z4,h1]
 refine sI ?_;refine aD [] (qi ts[i] t) ?_;refine sI ?_;rcases aa (ts[i]=t) with h2|h2;have k:=eq_true h2;simp only[h2,decide_true,if_true] at hg;exact EN k hg;have h3:¬t=ts[i]:=fun h=>h2 h.symm;simp only[h3,decide_false,aw,if_false] at hg;refine kD h2 ?_;exact⟨i+1,⟨oM,by rw[hg];rfl⟩,sL,c9 gE⟩;rw[al oM,eM] at hg;exact EN h1 hg
theorem JD(t:az)(ih:∀k∈t.ar,∀(d:Nat)(l:List az),d≤4→bX k d=true→l.length≤999000+15*(4-d)→C E.P 181 [.aW 0,av (cT k)] [some (.aW 31 (ba l))] (gR (.aW 1) [some .dead,some (.aW 31 (ba (eF l k)))]))(d:Nat)(l:List az)
 (hd:d≤4) (hsh:bX t d=true) (hl1:l.length≤999000+15*(4-d)) :
 C E.P 181 [.aW 0,av (cT t)] [some (.aW 31 (ba l))] (gR (.aW 1) [some .dead,some (.aW 31 (ba (eF l t)))]):=by
 cases d with
 | zero=>cases t;simp[bX] at hsh
 | succ d=>
 have hk:=qI hsh
 have hle:=fun i=>Dg (l:=l) hsh oM i
 refine gT 30 [.tmp 4] hm Tryz.func181 fun hl he cV=>?_
 refine jf hm t.ar.length (fun i=>⟨fk 30 .any [(0,.aW 2),(3,.bK 1 0),(5,iv i)],[some .dead,some (.box (fy (cT t))),some (.aW 31 (ba (bp l (t.ar.take i))))]⟩) (c9 [some 0,some 1,some 0]) ?_
 ·rintro i hi
  rcases aa (i<t.ar.length) with h1|h1
  ·try simp -implicitDefEqProofs only[go_sem,Z1,Z2,Z3,Z4,h1]
   refine sI ?_
   have hc:=ih t.ar[i] (ah h1) d (bp l (t.ar.take i)) oM (qG hk.2.2 _ (ah h1)) (by have:=hle i;omega)
   refine oD [] [2,3] hc ?_
   refine sJ ?_
   exact⟨i+1,h1,sL,bW [some 0,some 1,some 3] (by refine sB ?_;(first|done|(simp only[tP h1])|(simp[aR, *];done)|(simp[aR];done)|(simp;omega)|skip)) (by refine sB ?_;(first|done|(simp only[tP h1])|(simp[aR, *];done)|(simp[aR];done)|(simp;omega)|skip)) rfl rfl⟩
  ·have e:t.ar.take i=t.ar:=ak oM
   have h2:=hle i
   rw[e] at h2
   refine Rz h1 e ?_
   refine CM [] [2] (Na (bp l t.ar) t) ?_
   refine sI ?_
   rcases aa (0≤dN (bp l t.ar) t) with hx|hx
   ·have hx':¬dN (bp l t.ar) t<0:=oM
    refine kD hx ?_
    refine bM [some 0,some 2] ?_ rfl rfl
    refine me ?_
    rw[uz,if_neg hx']
   ·have hx':dN (bp l t.ar) t<0:=oM
    refine kD hx ?_
    refine oL [] (mK t) ?_
    refine gB_ [some 0,some 3] ?_
    rw[uz,if_pos hx',←oq,iu,om]
    rfl
theorem M4:∀(t:az)(d:Nat)(l:List az),d≤4→bX t d=true→l.length≤999000+15*(4-d)→C E.P 181 [.aW 0,av (cT t)] [some (.aW 31 (ba l))] (gR (.aW 1) [some .dead,some (.aW 31 (ba (eF l t)))]):=
 az.ind fun n ks ih d l h1 h2 h3=>JD (.mk n ks) ih d l h1 h2 h3
theorem I0:∀(xs:List p8)(x:p8),mi (xs++[x])=if xs=[] then x else mi xs++(44::x)
 | [],x=>by simp[mi]
 | [a],x=>by simp[mi]
 | a::b::xs,x=>by have:=I0 (b::xs) x;simp only[bu] at this;simp[mi,this]
def ug(t:az)(i:Nat):p8:=match i with
 | 0=>t.name
 | i+1=>t.name++(40::mi ((t.ar.take (i+1)).map a7))
theorem H8{t:az}{i:Nat}(h:i<t.ar.length):ug t (i+1)=ug t i++((if i=0 then [40] else [44])++a7 t.ar[i]):=by
 have e:(t.ar.take (i+1)).map a7=(t.ar.take i).map a7++[a7 t.ar[i]]:=by rw[jN h,List.map_append];rfl
 cases i with
 | zero=>simp only[ug,e,List.take_zero,List.map_nil,List.nil_append,mi,if_true];rfl
 | succ i=>have nI:¬ (t.ar.take (i+1)).map a7=[]:=(by intro hh;have hz:t.ar.take (i+1)=[]:=(by simpa using hh);have hz2:(t.ar.take (i+1)).length=0:=(by rw[hz];rfl);rw[List.length_take] at hz2;omega);simp only[ug,e,I0,nI,if_false];simp
theorem Ll{t:az}(h:t.ar≠[]):a7 t=ug t t.ar.length++[41]:=by
 rw[Br t h,←BQ]
 match hk:t.ar.length,h with
 | 0,h=>exact absurd (dI.1 hk) h
 | n+1,_=>have hk':t.ar.take (n+1)=t.ar:=ak oM;simp only[ug,hk'];simp
theorem Vm{t:az}{d:Nat}(h:bX t d=true)(hd:d≤4)(i:Nat)(hi:i≤t.ar.length):(ug t i).length≤122:=by
 have key:∀k,i+k≤t.ar.length→(ug t i).length≤(ug t (i+k)).length:=by
  intro k;induction k with
  | zero=>intro _;exact aH _
  | succ k ih=>intro hk;have h1:=ih oM;rw[←Nat.add_assoc,H8 oM];simp only[ay];omega
 have h1:=key (t.ar.length-i) oM;rw[show i+(t.ar.length-i)=t.ar.length by omega] at h1;have h2:=zH h hd;rcases aa (t.ar=[]) with hk|hk;rw[zu t hk] at h2;have hi0:i=0:=by rw[hk] at hi;simpa using hi
 subst hi0;simp only[ug];omega;rw[Ll hk] at h2;simp only[ay,aG,List.length_nil] at h2;omega
theorem MT(t:az)(ih:∀k∈t.ar,∀d:Nat,d≤4→bX k d=true→CN 122 [av (cT k)] (sv (a7 k)))(d:Nat)(hd:d≤4)(hsh:bX t d=true) :
 CN 122 [av (cT t)] (sv (a7 t)):=by
 cases d with
 | zero=>cases t;simp[bX] at hsh
 | succ d=>
 have hk:=qI hsh
 have fj:=fun i hi=>Vm hsh hd i hi
 refine gT 34 [.tmp 2] hm Tryz.func122 fun hl he cV=>?_
 refine jf hm t.ar.length (fun i=>⟨fk 34 .any [(1,.bK 0 0),(3,sv (ug t i)),(4,iv i)],[some (.box (fy (cT t)))]⟩) (c9 gE) ?_
 ·rintro i hi
  rcases aa (i<t.ar.length) with h1|h1
  ·have hsk:=qG hk.2.2 _ (ah h1)
   have b1:=zH hsk oM
   have b2:=fj i hi
   have hc:=ih t.ar[i] (ah h1) d oM hsk
   have gY:=H8 h1
   refine kD h1 ?_
   cases i with
   | zero=>(try simp -implicitDefEqProofs only[go_sem,Z1,Z2,Z3,Z4,h1]);refine sJ ?_;refine aD [] hc ?_;refine sJ ?_;exact⟨0+1,h1,sL,c9 gE⟩
   | succ i=>
    have e1:¬ (i:Int)+1=0:=oM;have et:((i:Int)+1).toNat=i+1:=oM;try simp -implicitDefEqProofs only[go_sem,Z1,Z2,Z3,Z4,e1,et,h1]
    refine sJ ?_;refine aD [] hc ?_;refine sJ ?_;exact⟨i+1+1,h1,sL,c9 gE⟩
  ·have hi2:i=t.ar.length:=oM
   subst hi2
   have b2:=fj _ (aH _)
   rcases aa ((0:Int)<(t.ar.length:Int)) with h3|h3
   ·have nI:t.ar≠[]:=by
     intro hh
     rw[hh] at h3
     simp at h3
    refine Rz h1 h3 ?_
    simp[Ll nI]
   ·have nI:t.ar=[]:=dI.1 oM
    have e:ug t t.ar.length=a7 t:=by rw[zu t nI,nI];rfl
    exact SV h1 h3 e
theorem ot:∀(t:az)(d:Nat),d≤4→bX t d=true→CN 122 [av (cT t)] (sv (a7 t)):=
 az.ind fun n ks ih d h1 h2=>MT (.mk n ks) ih d h1 h2
theorem AK(t:az)(h:bR t=true):CN 122 [av (cT t)] (sv (a7 t)):=ot t 4 oM (jt h)
theorem K1(l:List az)(xs ys:List az):bp l (xs++ys)=bp (bp l xs) ys:=by rw[iR,iR,iR,List.foldl_append]
theorem uj:∀(ts l:List az),(∀t∈ts,bR t=true)→(bp l ts).length≤l.length+15*ts.length
 | [],l,_=>by simp[bp]
 | t::ts,l,h=>by have h1:=E4 (l:=l) (jt (h t (by simp))) oM;have h2:=uj ts (eF l t) fun x hx=>h x (by simp[hx]);simp only[bp,aG];omega
end Go.Proofs.YtnhdminpjihbnaaGreat
