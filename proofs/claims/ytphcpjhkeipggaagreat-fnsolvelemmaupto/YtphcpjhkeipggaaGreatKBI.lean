/-
  The reference: the walks of names, signatures, shapes and sorts. A step towards the exact laws.
-/
import Derived.Test.YtphcpjhkeipggaaGreatKBL
import Derived.Test.YtphcpjhkeipggaaGreatKBJa
set_option linter.unusedVariables false
set_option linter.unusedSimpArgs false
open Int renaming reduceEq→Z1,reduceLT→Z2,reduceLE→Z3,reduceToNat→Z4
open Bool renaming false_eq_true→au,true_and→aA,false_and→aI
open Classical renaming em→aa
open List renaming drop_eq_getElem_cons→ae,getElem_mem→aj,drop_of_length_le→ak,take_of_length_le→aq,length_append→aP,length_cons→aY,cons_append→bI,all_cons→cC,length_eq_zero_iff→dZ,all_nil→eU,find?_cons→fb
open Nat renaming le_refl→aK
namespace Go.Proofs.YtphcpjhkeipggaaGreat
open Go.Eng Go.Mod
set_option maxRecDepth 100000
set_option maxHeartbeats 3200000
theorem xz(s:pL):CN 130 [sv s] (bv (gO s)):=by
 refine gS 28 [.tmp 2] hm Tryz.func130 fun hl he cf=>?_;refine kC hm s.length (fun(i:Nat)=>s.all kE=(s.drop i).all kE) (fun i=>⟨dN 28 .any [(0,sv s),(3,iv i)],[]⟩) ?_ (cM []) ?_;simp;rintro i ⟨hi,hg⟩;rcases aa (i<s.length) with h1|h1;rw[ae h1,cC] at hg;refine bH h1 ?_;rw[pn h1];rcases aa ((s[i].toNat:Int)<97) with h2|h2;have h3:kE s[i]=false:=by simp[kE];omega
 rw[h3,aI] at hg;refine du h2 ?_;simp[gO,hg];refine iI h2 h1 ?_;rw[pn h1];rcases aa (122<(s[i].toNat:Int)) with h4|h4;have h3:kE s[i]=false:=by simp[kE];omega
 rw[h3,aI] at hg;refine du h4 ?_;simp[gO,hg];have h3:kE s[i]=true:=by simp[kE];omega
 rw[h3,aA] at hg;refine du h4 ?_;exact⟨i+1,⟨oM,hg⟩,sL,cM []⟩;rw[ak oM,eU] at hg;have e:gO s=(decide ((1:Int)≤(s.length:Int))&&decide ((s.length:Int)≤2)):=by simp[gO,hg,cK]
 rcases aa ((1:Int)≤(s.length:Int)) with h2|h2;exact mH h1 h2 e;exact mH h1 h2 e
theorem xe(n:Int):CN 131 [iv n] (bv (isSort n)):=by refine gS 9 [.tmp 2] hm Tryz.func131 fun hl he cf=>?_;rcases aa (n=0) with h|h;have k:=eq_true h;refine du k ?_;simp[isSort,h];refine du h ?_;simp[isSort,h]
theorem uh(s:eM):CN 63 [av (eP s)] (bv (gC s)):=by
 refine gS 68 [.tmp 2] hm Tryz.func63 fun hl he cf=>?_;refine cS hm (fun(i:Nat)=> i≤s.cQ.length∧tX none s.cQ=tX (l8 s.cQ i) (s.cQ.drop i)) (fun(i:Nat)=> ⟨dN 68 .any [(1,.bA 0 0),(3,iv i)],[some (.box (dm (eP s)))]⟩) (fun(i:Nat)=> s.cQ.length-i) (0) ?_ (aZ fe ?_ ?_ rfl rfl) ?_;rotate_left;exact sC;exact sC;rotate_left;simp[l8];rintro i ⟨hi,hg⟩;rcases aa (i<s.cQ.length) with h1|h1
 ·rw[ae h1] at hg;simp only[tX] at hg;refine uA ?_;refine aC [] (xz s.cQ[i].name) ?_;cases h2:gO s.cQ[i].name
  ·have e:gC s=false:=(by simp[gC,hg,qt,h2]);refine sA ?_;refine iK ?_;refine gZ ?_;all_goals(simp[e];done)
  refine sA ?_;rcases aa ((2:Int)<(s.cQ[i].args.length:Int)) with h3' | h3';have h3:¬s.cQ[i].args.length≤2:=oM;have e:gC s=false:=(by simp[gC,hg,qt,h3]);refine bH h3' ?_;refine iK ?_;refine gZ ?_;simp[e];have h3:s.cQ[i].args.length≤2:=oM;refine bH h3' ?_;refine aC [] (xe s.cQ[i].sort) ?_;cases h4:isSort s.cQ[i].sort;have e:gC s=false:=(by simp[gC,hg,qt,h4]);refine sA ?_;refine iK ?_;refine gZ ?_;simp[e];cases i with
  | zero=>simp only[l8,aA] at hg;simp -implicitDefEqProofs only[go_sem,Int.lt_irrefl];refine iK ?_;refine kC hm (s.cQ[0].args.length) (fun(u:Nat)=>s.cQ[0].args.all isSort=(s.cQ[0].args.drop u).all isSort) (fun u=>⟨dN 68 .any [(1,.bA 0 0),(3,iv (0:Nat)),(4,.bA 1 0),(5,iv u)],[some (.box (dm (eP s))),some (.box (dm (zT s.cQ[0])))]⟩) ?_ (cM kR) ?_;simp;rintro u ⟨hu,hk⟩;rcases aa (u<s.cQ[0].args.length) with g1|g1;rw[ae g1,cC] at hk;refine uI ?_;refine aC [] (xe s.cQ[0].args[u]) ?_;cases g2:isSort s.cQ[0].args[u];rw[g2,aI] at hk;have e:gC s=false:=(by simp[gC,hg,qt,hk]);exact dD e;rw[g2,aA] at hk;refine bt ?_;exact⟨u+1,⟨oM,hk⟩,sL,cM kR⟩;rw[ak oM,eU] at hk;have e:qt s.cQ[0]=true:=(by simp[qt,h2,h3,h4,hk]);rw[e] at hg;refine du g1 ?_;refine⟨0+1,?_,sL,cM fe⟩;refine⟨oM,?_⟩;rw[hg];simp[l8,h1]
  | succ j=>have hj:j<s.cQ.length:=oM;have e1:((j:Int)+1-1)=(j:Int):=oM;have e2:(0:Int)<(j:Int)+1:=oM;have e3:l8 s.cQ (j+1)=some s.cQ[j].name:=(by simp[l8,hj]);rw[e3] at hg;simp only at hg;simp -implicitDefEqProofs only[go_sem,e1,e2,hj];refine sQ ?_;cases q4:iQ s.cQ[j].name s.cQ[j+1].name;rw[q4,aI,Bool.and_false] at hg;have e:gC s=false:=(by simp[gC,hg]);have h5:Op.bytesLess s.cQ[j].name s.cQ[j+1].name=false:=q4;refine du h5 ?_;simp[e];rw[q4,aA] at hg;have h5:Op.bytesLess s.cQ[j].name s.cQ[j+1].name=true:=q4;refine bH h5 ?_;refine cS hm (fun(u:Nat)=> u≤s.cQ[j+1].args.length∧s.cQ[j+1].args.all isSort=(s.cQ[j+1].args.drop u).all isSort) (fun(u:Nat)=> ⟨dN 68 .any [(1,.bA 0 0),(3,iv (j+1:Nat)),(4,.bA 1 0),(5,iv u)],[some (.box (dm (eP s))),some (.box (dm (zT s.cQ[j+1])))]⟩) (fun(u:Nat)=> s.cQ[j+1].args.length-u) (0) ?_ (cM kR) ?_;simp;rintro u ⟨hu,hk⟩;rcases aa (u<s.cQ[j+1].args.length) with g1|g1;rw[ae g1,cC] at hk;refine uI ?_;refine aC [] (xe s.cQ[j+1].args[u]) ?_;cases g2:isSort s.cQ[j+1].args[u];rw[g2,aI] at hk;have e:gC s=false:=(by simp[gC,hg,qt,hk]);exact dD e;rw[g2,aA] at hk;refine bt ?_;exact⟨u+1,⟨oM,hk⟩,sL,cM kR⟩;rw[ak oM,eU] at hk;have e:qt s.cQ[j+1]=true:=(by simp[qt,h2,h3,h4,hk]);rw[e] at hg;refine du g1 ?_;refine⟨j+1+1,?_,sL,cM fe⟩;refine⟨oM,?_⟩;rw[hg];simp[l8,h1]
 rw[ak oM] at hg;simp only[tX] at hg;have e:gC s=decide ((s.cQ.length:Int)≤7):=by simp[gC,hg];omega
 exact gG h1 e
theorem Zk(t:ax)(d:Nat):cd t (d+1)=(gO t.name&&(decide (t.ar.length≤2)&&dz t.ar d)):=by cases t;rfl
theorem PB{ts:List ax}{i:Nat}(h:i<ts.length)(d:Nat):dz (ts.drop i) d=(cd ts[i] d&&dz (ts.drop (i+1)) d):=by rw[ae h,dz]
theorem IE(t:ax)(ih:∀k∈t.ar,∀d:Nat,d≤4→CN 327 [av (cT k),iv d] (bv (cd k d)))(d:Nat)(hd:d≤4) :
 CN 327 [av (cT t),iv d] (bv (cd t d)):=by
 cases d with
 | zero=>have e:cd t 0=false:=(by cases t;rfl);have cf:=qq;refine vE (nt:=36) (rs:=[.tmp 4]) hm Tryz.func327 rfl rfl rfl rfl rfl (fun hl he=>?_);simp -implicitDefEqProofs only[go_sem,Z2] at hl⊢;exact dD e
 | succ d=>have e:=Zk t d;refine gS 36 [.tmp 4] hm Tryz.func327 fun hl he cf=>?_;have h0:¬ (d:Int)+1<1:=oM;refine bH h0 ?_;refine aC [] (xz t.name) ?_;cases h2:gO t.name;exact gG e h2;refine sA ?_;rcases aa ((2:Int)<(t.ar.length:Int)) with h3' | h3';have h3:¬t.ar.length≤2:=oM;exact mH h3' e h3;have h3:t.ar.length≤2:=oM;have e:cd t (d+1)=dz t.ar d:=(by simp[e,h2,h3]);refine bH h3' ?_;refine kC hm t.ar.length (fun(i:Nat)=>dz t.ar d=dz (t.ar.drop i) d) (fun i=>⟨dN 36 .any [(1,iv ((d:Int)+1)),(2,.bA 0 0),(5,iv i)],[some (.box (dm (cT t)))]⟩) ?_ (cM fe) ?_;simp;rintro i ⟨hi,hg⟩;rcases aa (i<t.ar.length) with h1|h1;rw[PB h1] at hg;have e2:(d:Int)+1-1=(d:Int):=oM;simp -implicitDefEqProofs only[go_sem,h1,e2];refine sQ ?_;have hc:=ih t.ar[i] (aj h1) d oM;refine aC [] hc ?_;cases h4:cd t.ar[i] d;rw[h4,aI] at hg;exact gG e hg;rw[h4,aA] at hg;refine bt ?_;exact⟨i+1,⟨oM,hg⟩,sL,cM fe⟩;rw[ak oM,dz] at hg;exact mH h1 e hg
theorem LN:∀(t:ax)(d:Nat),d≤4→CN 327 [av (cT t),iv d] (bv (cd t d)):=
 ax.ind fun n ks ih d hd=>IE (.mk n ks) ih d hd
theorem V6{ts:List ax}{i:Nat}(h:i<ts.length)(d:Nat):ow (ts.take (i+1)) d=ow (ts.take i) d+dL ts[i] d:=by
 have e:ts.take (i+1)=ts.take i++[ts[i]]:=by rw[List.take_add_one,List.getElem?_eq_getElem h];rfl
 have key:∀(xs:List ax),ow (xs++[ts[i]]) d=ow xs d+dL ts[i] d:=by
  intro xs;induction xs with
  | nil=>simp[ow]
  | cons a xs ih=>simp only[bI,ow,ih];omega
 rw[e,key]
theorem L8(t:ax)(ih:∀k∈t.ar,∀d:Nat,d≤4→cd k d=true→CN 328 [av (cT k),iv d] (iv (dL k d)))(d:Nat)(hd:d≤4)(hs:cd t d=true) :
 CN 328 [av (cT t),iv d] (iv (dL t d)):=by
 cases d with
 | zero=>cases t;simp[cd] at hs
 | succ d=>have hk:=qp hs;have e:dL t (d+1)=1+ow t.ar d:=(by cases t;rfl);refine gS 29 [.tmp 4] hm Tryz.func328 fun hl he cf=>?_;refine jr hm t.ar.length (fun i=>⟨dN 29 .any [(1,iv ((d:Int)+1)),(2,.bA 0 0),(5,iv ((1+ow (t.ar.take i) d:Nat):Int)),(6,iv i)],[some (.box (dm (cT t)))]⟩) (cM fe) ?_;rintro i hi;have b1:=E6 (t.ar.take i) d (uv hk.2.2 i);have b2:(t.ar.take i).length≤2:=(by simp;omega);have b3:(2:Nat) ^ d≤2 ^ 4:=Nat.pow_le_pow_right oM oM;have b4:(t.ar.take i).length*(2 ^ d-1)≤2*(2 ^ d-1):=Nat.mul_le_mul_right _ b2;rcases aa (i<t.ar.length) with h1|h1;have hsk:=qy hk.2.2 _ (aj h1);have b5:=P3 t.ar[i] d hsk;have e2:(d:Int)+1-1=(d:Int):=oM;have e3:(0:Int)<(d:Int)+1:=oM;simp -implicitDefEqProofs only[go_sem,h1,e3,e2];refine sQ ?_;have hc:=ih t.ar[i] (aj h1) d oM hsk;refine aC [] hc ?_;refine sQ ?_;exact⟨i+1,h1,sL,aZ fe (by refine sA ?_;(simp only[V6 h1];simp;omega)) sC rfl rfl⟩;have et:t.ar.take i=t.ar:=aq oM;exact mH h1 et e
theorem NG:∀(t:ax)(d:Nat),d≤4→cd t d=true→CN 328 [av (cT t),iv d] (iv (dL t d)):=
 ax.ind fun n ks ih d hd hs=>L8 (.mk n ks) ih d hd hs
theorem vX(t:ax):CN 268 [av (cT t)] (bv (bG t)):=by have e:=Ef t;unfold right at e;refine gS 10 [.tmp 2] hm Tryz.func268 fun hl he cf=>?_;have hc:=LN t 4 oM;refine aC [] hc ?_;cases h:cd t 4;refine bt ?_;simp[←e,h];have hc:=NG t 4 oM h;refine sA ?_;refine sa [] hc ?_;rw[←e,h];simp;omega
theorem C7(s:eM)(n:pL):CN 313 [av (eP s),sv n] (.iZ [av (zT ((symbol s n).getD zw)),bv (symbol s n).isSome]):=by
 refine gT 28 [.cell 4 155,.tmp 5] hm Tryz.func313 fun hl he cf=>?_;refine kC hm s.cQ.length (fun(i:Nat)=>symbol s n=(s.cQ.drop i).find? (fun x=>decide (x.name=n))) (fun i=>⟨dN 28 .any [(1,sv n),(2,.bA 0 0),(4,.bA 1 0),(6,iv i)],[some (.box (dm (eP s))),some (.box (dm (zT zw)))]⟩) ?_ (cM kR) ?_;simp[symbol];rintro i ⟨hi,hg⟩;rcases aa (i<s.cQ.length) with h1|h1;rw[ae h1] at hg;rcases aa (s.cQ[i].name=n) with h2|h2;have e:symbol s n=some s.cQ[i]:=by rw[hg];simp only[fb,h2,decide_true]
 exact Tf h1 h2 e;have e:symbol s n=(s.cQ.drop (i+1)).find? (fun x=>decide (x.name=n)):=by rw[hg];simp only[fb,h2,decide_false]
 try simp -implicitDefEqProofs only[go_sem,Z1,Z2,Z3,Z4,h1,h2]
 refine sJ ?_;exact⟨i+1,⟨oM,e⟩,sL,cM kR⟩;have e:symbol s n=none:=by rw[hg,ak oM];rfl
 refine rM h1 ?_;simp[e,zw,BP]
theorem PM(s:eM)(hs:gC s=true)(t:ax)(ih:∀k∈t.ar,CN 290 [av (eP s),av (cT k)] (iv ((ic s k).getD (-1)))) :
 CN 290 [av (eP s),av (cT t)] (iv ((ic s t).getD (-1))):=by
 have ht:=O1 s t
 refine gT 48 [.tmp 4] hm Tryz.func290 fun hl he cf=>?_
 refine sa [] (C7 s t.name) ?_
 cases hx:symbol s t.name with
 | none=>rw[hx] at ht;simp only at ht;exact afE ht
 | some x=>
  rw[hx] at ht;simp only at ht;have hxo:=(L6 (Od hs hx)).2;rcases aa (x.args.length=t.ar.length) with h1|h1;simp only[h1,decide_true,aA] at ht;refine rM h1 ?_;refine kC hm t.ar.length (fun(i:Nat)=>ja s t.ar x.args=ja s (t.ar.drop i) (x.args.drop i)) (fun i=>⟨dN 48 .any [(2,.bA 0 0),(3,.bA 1 0),(5,.bA 2 0),(7,iv i)],[some (.box (dm (eP s))),some (.box (dm (cT t))),some (.box (dm (zT x)))]⟩) ?_ (cM rC) ?_;simp;rintro i ⟨hi,hg⟩;rcases aa (i<t.ar.length) with h2|h2;have h3:i<x.args.length:=oM;have hso:=Ki.1 (hxo x.args[i] (aj h3));rw[FC h2 h3] at hg;try simp -implicitDefEqProofs only[go_sem,Z1,Z2,Z3,Z4,h2,h3]
  refine sI ?_;have hc:=ih t.ar[i] (aj h2);refine dy [] hc ?_ ?_<;>simp -implicitDefEqProofs only[go_sem,Z1,Z2,Z3,Z4,h2,h3];refine bt ?_;rcases aa ((ic s t.ar[i]).getD (-1)=x.args[i]) with hn|hn;have hn2:ic s t.ar[i]=some x.args[i]:=by
   cases hk:ic s t.ar[i] with
   | none=>rw[hk] at hn;simp only[Option.getD_none] at hn;omega
   | some n=>rw[hk] at hn;simp only[Option.getD_some] at hn;rw[hn]
  have hz:ja s t.ar x.args=ja s (t.ar.drop (i+1)) (x.args.drop (i+1)):=(by rw[hg,hn2];simp);have k:=eq_true hn;refine rM k ?_;exact⟨i+1,⟨oM,hz⟩,sL,cM rC⟩;have hn2:¬ic s t.ar[i]=some x.args[i]:=fun h=>hn (by rw[h];rfl);have hz:ja s t.ar x.args=false:=(by rw[hg];simp[hn2]);rw[hz] at ht;simp only[au,if_false] at ht;exact Cc hn ht;rw[ak oM,ak oM] at hg;rw[hg] at ht;simp only[ja,if_true] at ht;exact Cc h2 ht;simp only[h1,decide_false,aI,au,if_false] at ht;exact Cc h1 ht
theorem wN(s:eM)(hs:gC s=true):∀(t:ax),CN 290 [av (eP s),av (cT t)] (iv ((ic s t).getD (-1))):=
 ax.ind fun n ks ih=>PM s hs (.mk n ks) ih
theorem drop_eq{α:Type}{xs ys:List α}{i:Nat}(h:i<xs.length)(h':i<ys.length):(xs.drop i=ys.drop i)=(xs[i]=ys[i]∧xs.drop (i+1)=ys.drop (i+1)):=by rw[ae h,ae h',List.cons.injEq]
theorem GW(a b:ax)(ih:∀k∈a.ar,∀y,CN 297 [av (cT k),av (cT y)] (bv (decide (k=y)))):CN 297 [av (cT a),av (cT b)] (bv (decide (a=b))):=by
 refine gT 39 [.tmp 4] hm Tryz.func297 fun hl he cf=>?_;rcases aa (a.name=b.name) with h|h;have k:=eq_true h;refine rM k ?_;rcases aa (a.ar.length=b.ar.length) with h2|h2;have k2:=eq_true h2;refine rM k2 ?_;refine kC hm a.ar.length (fun(i:Nat)=>(a.ar=b.ar↔a.ar.drop i=b.ar.drop i)) (fun i=>⟨dN 39 .any [(2,.bA 0 0),(3,.bA 1 0),(5,iv i)],[some (.box (dm (cT a))),some (.box (dm (cT b)))]⟩) ?_ (cM kR) ?_;simp;rintro i ⟨hi,hg⟩;rcases aa (i<a.ar.length) with h3|h3;have h4:i<b.ar.length:=oM;rw[drop_eq h3 h4] at hg;try simp -implicitDefEqProofs only[go_sem,Z1,Z2,Z3,Z4,h3,h4]
 refine sI ?_;have hc:=ih a.ar[i] (aj h3) b.ar[i];refine aD [] hc ?_;refine sI ?_;rcases aa (a.ar[i]=b.ar[i]) with h5|h5;have k5:=eq_true h5;refine rM k5 ?_;refine⟨i+1,?_,sL,cM kR⟩;refine⟨oM,?_⟩;rw[hg];simp[h5];have e:¬a.ar=b.ar:=fun hh=>h5 (hg.1 hh).1;refine rM h5 ?_;simp[B0,e];rw[ak oM,ak oM] at hg;refine rM h3 ?_;simp[B0,h,hg];have e:¬a.ar=b.ar:=fun hh=>h2 (by rw[hh]);refine rM h2 ?_;simp[B0,e];refine rM h ?_;simp[B0,h]
theorem p9:∀a b,CN 297 [av (cT a),av (cT b)] (bv (decide (a=b))):=
 ax.ind fun n ks ih b=>GW (.mk n ks) b ih
theorem sw(t:ax):CN 326 [av (cT t)] (bv (isNone t)):=by refine gT 12 [.tmp 2] hm Tryz.func326 fun hl he cf=>?_;rcases aa (t.name=[]) with h|h;have k:=eq_true h;refine rM k ?_;simp[isNone,h];refine rM h ?_;simp[isNone,h]
theorem Kn(t:ax)(ih:∀k∈t.ar,CN 133 [av (cT k)] (av (cT k))):CN 133 [av (cT t)] (av (cT t)):=by
 refine gT 27 [.cell 2 32] hm Tryz.func133 fun hl he cf=>?_;refine jr hm t.ar.length (fun i=>⟨dN 27 .any [(1,.bA 0 0),(2,.bA 1 0),(3,.bA 2 0),(4,iv i)],[some (.box (dm (cT t))),some (.box (dm (cT aQ))),some (.box [.d (.str t.name),.aX 3]),some (.aX 32 (aU (t.ar.take i)))]⟩) (cM [some 0,some 1,some 2,none]) ?_;rintro i hi;rcases aa (i<t.ar.length) with h1|h1
 ·(try simp -implicitDefEqProofs only[go_sem,Z1,Z2,Z3,Z4,h1]);refine sI ?_;have hc:=ih t.ar[i] (aj h1);refine aD [] hc ?_;refine sJ ?_;exact⟨i+1,h1,sL,aZ [some 0,some 1,some 2,some 4] (by refine sB ?_;(first|done|(exact rV h1)|(simp[a7, *];done)|(simp[a7];done)|(simp;omega)|skip)) (by refine sB ?_;(first|done|(exact rV h1)|(simp[a7, *];done)|(simp[a7];done)|(simp;omega)|skip)) rfl rfl⟩
 have et:t.ar.take i=t.ar:=aq oM;exact Cc h1 et
theorem ji:∀t,CN 133 [av (cT t)] (av (cT t)):=
 ax.ind fun n ks ih=>Kn (.mk n ks) ih
theorem dG(ts:List ax)(t:ax):CN 220 [lv (aU ts),av (cT t)] (iv (b8 ts t)):=by
 refine gT 19 [.tmp 4] hm Tryz.func220 fun hl he cf=>?_;refine kC hm ts.length (fun(i:Nat)=>b8 ts t=fj (fun u=>decide (t=u)) (ts.drop i) i) (fun i=>⟨dN 19 .any [(0,lv (aU ts)),(3,.bA 0 0),(5,iv i)],[some (.box (dm (cT t)))]⟩) ?_ (cM fe) ?_;simp[b8,idxOf];rintro i ⟨hi,hg⟩;rcases aa (i<ts.length) with h1|h1;rw[ae h1,fj] at hg;try simp -implicitDefEqProofs only[go_sem,Z1,Z2,Z3,Z4,h1]
 refine sI ?_;refine aD [] (p9 ts[i] t) ?_;refine sI ?_;rcases aa (ts[i]=t) with h2|h2;have k:=eq_true h2;simp only[h2,decide_true,if_true] at hg;exact Cc k hg;have h3:¬t=ts[i]:=fun h=>h2 h.symm;simp only[h3,decide_false,au,if_false] at hg;refine rM h2 ?_;exact⟨i+1,⟨oM,by rw[hg];rfl⟩,sL,cM fe⟩;rw[ak oM,fj] at hg;exact Cc h1 hg
theorem Jb(t:ax)(ih:∀k∈t.ar,∀(d:Nat)(l:List ax),d≤4→cd k d=true→l.length≤999000+15*(4-d)→C E.P 292 [.aX 0,av (cT k)] [some (.aX 32 (aU l))] (jF (.aX 1) [some .dead,some (.aX 32 (aU (dY l k)))]))(d:Nat)(l:List ax)
 (hd:d≤4) (hsh:cd t d=true) (hl1:l.length≤999000+15*(4-d)) :
 C E.P 292 [.aX 0,av (cT t)] [some (.aX 32 (aU l))] (jF (.aX 1) [some .dead,some (.aX 32 (aU (dY l t)))]):=by
 cases d with
 | zero=>cases t;simp[cd] at hsh
 | succ d=>
 have hk:=qp hsh
 have hle:=fun i=>CD (l:=l) hsh oM i
 refine gT 30 [.tmp 4] hm Tryz.func292 fun hl he cf=>?_
 refine jr hm t.ar.length (fun i=>⟨dN 30 .any [(0,.aX 2),(3,.bA 1 0),(5,iv i)],[some .dead,some (.box (dm (cT t))),some (.aX 32 (aU (bp l (t.ar.take i))))]⟩) (cM [some 0,some 1,some 0]) ?_
 ·rintro i hi
  rcases aa (i<t.ar.length) with h1|h1
  ·try simp -implicitDefEqProofs only[go_sem,Z1,Z2,Z3,Z4,h1]
   refine sI ?_
   have hc:=ih t.ar[i] (aj h1) d (bp l (t.ar.take i)) oM (qy hk.2.2 _ (aj h1)) (by have:=hle i;omega)
   refine oD [] [2,3] hc ?_
   refine sJ ?_
   exact⟨i+1,h1,sL,aZ [some 0,some 1,some 3] (by refine sB ?_;(first|done|(simp only[tG h1])|(simp[a7, *];done)|(simp[a7];done)|(simp;omega)|skip)) (by refine sB ?_;(first|done|(simp only[tG h1])|(simp[a7, *];done)|(simp[a7];done)|(simp;omega)|skip)) rfl rfl⟩
  ·have e:t.ar.take i=t.ar:=aq oM
   have h2:=hle i
   rw[e] at h2
   refine RY h1 e ?_
   refine AQ [] [2] (dG (bp l t.ar) t) ?_
   refine sI ?_
   rcases aa (0≤b8 (bp l t.ar) t) with hx|hx
   ·have hx':¬b8 (bp l t.ar) t<0:=oM
    refine rM hx ?_
    refine bX [some 0,some 2] ?_ rfl rfl
    refine GL ?_
    rw[uS,if_neg hx']
   ·have hx':b8 (bp l t.ar) t<0:=oM
    refine rM hx ?_
    refine sa [] (ji t) ?_
    refine gB_ [some 0,some 3] ?_
    rw[uS,if_pos hx',←ng,eZ,il]
    rfl
theorem Lp:∀(t:ax)(d:Nat)(l:List ax),d≤4→cd t d=true→l.length≤999000+15*(4-d)→C E.P 292 [.aX 0,av (cT t)] [some (.aX 32 (aU l))] (jF (.aX 1) [some .dead,some (.aX 32 (aU (dY l t)))]):=
 ax.ind fun n ks ih d l h1 h2 h3=>Jb (.mk n ks) ih d l h1 h2 h3
theorem HR:∀(xs:List pL)(x:pL),lY (xs++[x])=if xs=[] then x else lY xs++(44::x)
 | [],x=>by simp[lY]
 | [a],x=>by simp[lY]
 | a::b::xs,x=>by have:=HR (b::xs) x;simp only[bI] at this;simp[lY,this]
def tD(t:ax)(i:Nat):pL:=match i with
 | 0=>t.name
 | i+1=>t.name++(40::lY ((t.ar.take (i+1)).map aR))
theorem HT{t:ax}{i:Nat}(h:i<t.ar.length):tD t (i+1)=tD t i++((if i=0 then [40] else [44])++aR t.ar[i]):=by
 have e:(t.ar.take (i+1)).map aR=(t.ar.take i).map aR++[aR t.ar[i]]:=by rw[od h,List.map_append];rfl
 cases i with
 | zero=>simp only[tD,e,List.take_zero,List.map_nil,List.nil_append,lY,if_true];rfl
 | succ i=>have lj:¬ (t.ar.take (i+1)).map aR=[]:=(by intro hh;have hz:t.ar.take (i+1)=[]:=(by simpa using hh);have hz2:(t.ar.take (i+1)).length=0:=(by rw[hz];rfl);rw[List.length_take] at hz2;omega);simp only[tD,e,HR,lj,if_false];simp
theorem LC{t:ax}(h:t.ar≠[]):aR t=tD t t.ar.length++[41]:=by
 rw[AV t h,←Ae]
 match hk:t.ar.length,h with
 | 0,h=>exact absurd (dZ.1 hk) h
 | n+1,_=>have hk':t.ar.take (n+1)=t.ar:=aq oM;simp only[tD,hk'];simp
theorem US{t:ax}{d:Nat}(h:cd t d=true)(hd:d≤4)(i:Nat)(hi:i≤t.ar.length):(tD t i).length≤122:=by
 have key:∀k,i+k≤t.ar.length→(tD t i).length≤(tD t (i+k)).length:=by
  intro k;induction k with
  | zero=>intro _;exact aK _
  | succ k ih=>intro hk;have h1:=ih oM;rw[←Nat.add_assoc,HT oM];simp only[aP];omega
 have h1:=key (t.ar.length-i) oM;rw[show i+(t.ar.length-i)=t.ar.length by omega] at h1;have h2:=zg h hd;rcases aa (t.ar=[]) with hk|hk;rw[yO t hk] at h2;have hi0:i=0:=by rw[hk] at hi;simpa using hi
 subst hi0;simp only[tD];omega;rw[LC hk] at h2;simp only[aP,aY,List.length_nil] at h2;omega
theorem Mg(t:ax)(ih:∀k∈t.ar,∀d:Nat,d≤4→cd k d=true→CN 325 [av (cT k)] (sv (aR k)))(d:Nat)(hd:d≤4)(hsh:cd t d=true) :
 CN 325 [av (cT t)] (sv (aR t)):=by
 cases d with
 | zero=>cases t;simp[cd] at hsh
 | succ d=>
 have hk:=qp hsh
 have eO:=fun i hi=>US hsh hd i hi
 refine gT 34 [.tmp 2] hm Tryz.func325 fun hl he cf=>?_
 refine jr hm t.ar.length (fun i=>⟨dN 34 .any [(1,.bA 0 0),(3,sv (tD t i)),(4,iv i)],[some (.box (dm (cT t)))]⟩) (cM fe) ?_
 ·rintro i hi
  rcases aa (i<t.ar.length) with h1|h1
  ·have hsk:=qy hk.2.2 _ (aj h1)
   have b1:=zg hsk oM
   have b2:=eO i hi
   have hc:=ih t.ar[i] (aj h1) d oM hsk
   have ld:=HT h1
   refine rM h1 ?_
   cases i with
   | zero=>(try simp -implicitDefEqProofs only[go_sem,Z1,Z2,Z3,Z4,h1]);refine sJ ?_;refine aD [] hc ?_;refine sJ ?_;exact⟨0+1,h1,sL,cM fe⟩
   | succ i=>
    have e1:¬ (i:Int)+1=0:=oM;have et:((i:Int)+1).toNat=i+1:=oM;try simp -implicitDefEqProofs only[go_sem,Z1,Z2,Z3,Z4,e1,et,h1]
    refine sJ ?_;refine aD [] hc ?_;refine sJ ?_;exact⟨i+1+1,h1,sL,cM fe⟩
  ·have hi2:i=t.ar.length:=oM
   subst hi2
   have b2:=eO _ (aK _)
   rcases aa ((0:Int)<(t.ar.length:Int)) with h3|h3
   ·have lj:t.ar≠[]:=by
     intro hh
     rw[hh] at h3
     simp at h3
    refine RY h1 h3 ?_
    simp[LC lj]
   ·have lj:t.ar=[]:=dZ.1 oM
    have e:tD t t.ar.length=aR t:=by rw[yO t lj,lj];rfl
    exact Tf h1 h3 e
theorem ob:∀(t:ax)(d:Nat),d≤4→cd t d=true→CN 325 [av (cT t)] (sv (aR t)):=
 ax.ind fun n ks ih d h1 h2=>Mg (.mk n ks) ih d h1 h2
theorem kv(t:ax)(h:bG t=true):CN 325 [av (cT t)] (sv (aR t)):=ob t 4 oM (jh h)
theorem JV(l:List ax)(xs ys:List ax):bp l (xs++ys)=bp (bp l xs) ys:=by rw[iE,iE,iE,List.foldl_append]
theorem tJ:∀(ts l:List ax),(∀t∈ts,bG t=true)→(bp l ts).length≤l.length+15*ts.length
 | [],l,_=>by simp[bp]
 | t::ts,l,h=>by have h1:=yr (l:=l) (jh (h t (by simp))) oM;have h2:=tJ ts (dY l t) fun x hx=>h x (by simp[hx]);simp only[bp,aY];omega
end Go.Proofs.YtphcpjhkeipggaaGreat
