/-
  The walks of the small functions of the first chapters. A step towards the exact laws.
-/
import Derived.Test.YtphcpjhkeipggaaGreatKBF
set_option linter.unusedVariables false
set_option linter.unusedSimpArgs false
open Int renaming reduceEq→Z1,reduceLT→Z2,reduceLE→Z3,reduceToNat→Z4
open Bool renaming false_eq_true→au,true_and→aA,false_and→aI,and_false→iA,and_self→om
open Classical renaming em→aa
open List renaming drop_eq_getElem_cons→ae,getElem?_eq_getElem→af,getElem_mem→aj,drop_of_length_le→ak,take_of_length_le→aq,take_add_one→bz,all_cons→cC,find?_cons→fb
namespace Go.Proofs.YtphcpjhkeipggaaGreat
open Go.Eng Go.Mod
set_option maxRecDepth 100000
set_option maxHeartbeats 3200000
theorem fQ(n lo hi:Int):CN 78 [iv n,iv lo,iv hi] (bv (cK n lo hi)):=by refine gS 15 [.tmp 6] hm Tryz.func78 fun hl he cf=>?_;refine YE (fun h=>?_) (fun h=>?_)<;>simp only[h,go_sem];refine bt ?_;simp[cK,h];refine bt ?_;simp[cK,h]
theorem sU(s:pL):CN 182 [sv s] (bv (gO s)):=by
 refine gS 24 [.tmp 2] hm Tryz.func182 fun hl he cf=>?_;have h:∃b,cK s.length 1 2=b:=⟨_,rfl⟩;obtain⟨b,h⟩:=h;refine aC [] (fQ s.length 1 2) ?_;refine bH h ?_;cases b;refine bt ?_;simp[gO,h];refine sA ?_;refine kC hm s.length (fun(i:Nat)=>gO s=(s.drop i).all kE) (fun i=>⟨dN 24 .any [(0,sv s),(9,iv s.length),(10,iv i)],[]⟩) ?_ (cM []) ?_;simp[gO,h];rintro i ⟨hi,hg⟩;rcases aa (i<s.length) with h1|h1;rw[ae h1,cC] at hg;refine bH h1 ?_;rw[pn h1];rcases aa ((s[i].toNat:Int)<97) with h2|h2;have h3:kE s[i]=false:=by simp[kE];omega
 rw[h3,aI] at hg;exact gG h2 hg;refine iI h2 h1 ?_;rw[pn h1];rcases aa (122<(s[i].toNat:Int)) with h4|h4;have h3:kE s[i]=false:=by simp[kE];omega
 rw[h3,aI] at hg;exact gG h4 hg;have h3:kE s[i]=true:=by simp[kE];omega
 rw[h3,aA] at hg;refine bH h4 ?_;refine⟨oM,?_⟩;exact⟨i+1,⟨oM,hg⟩,sL,cM []⟩;rw[ak oM] at hg;exact gG h1 hg
theorem S2{α:Type}{p:α→Bool}:∀{xs:List α}{i:Int},0≤i→(0≤fj p xs i↔xs.any p=true)
 | [],i,h=>by simp[fj]
 | x::xs,i,h=>by simp only[fj,List.any_cons,Bool.or_eq_true];split;rename_i hx;simp[hx,h];rename_i hx;rw[S2 oM];simp[hx]
theorem Ep{α:Type}{p:α→Bool}{xs:List α}:decide (0≤idxOf p xs)=xs.any p:=by rw[Bool.eq_iff_iff,decide_eq_true_eq];exact S2 oM
theorem zS(f:Nat)(cap:List PV)(lF:wj 0 cap=true)(p:Int→Bool)(xs:List Int)(hf:∀x∈xs,C E.P f (iv x::cap) [] (jF (bv (p x)) [])) :
 CN 129 [lv (bm xs),.fn f cap] (iv (idxOf p xs)):=by
 refine gS 19 [.tmp 4] hm Tryz.func129 fun hl he cf=>?_
 refine kC hm xs.length (fun(i:Nat)=>idxOf p xs=fj p (xs.drop i) i) (fun i=>⟨dN 19 .any [(0,lv (bm xs)),(1,.fn f cap),(7,iv xs.length),(8,iv i)],[]⟩) ?_ (cM []) ?_
 ·simp[idxOf]
 ·rintro i ⟨hi,hg⟩
  rcases aa (i<xs.length) with h1|h1
  ·rw[ae h1,fj] at hg
   refine uA ?_
   have hc:=hf xs[i] (aj h1)
   refine dy cap hc ?_ ?_<;>simp -implicitDefEqProofs only[go_sem,lF]
   cases h2:p xs[i]
   ·rw[h2] at hg
    simp only[au,if_false] at hg
    refine sA ?_
    refine⟨oM,?_⟩
    exact⟨i+1,⟨oM,hg⟩,sL,cM []⟩
   ·rw[h2] at hg
    simp only[if_true] at hg
    exact dD hg
  ·rw[ak oM,fj] at hg
   exact gG h1 hg
theorem rH(f:Nat)(cap:List PV)(lF:wj 0 cap=true)(p:ax→Bool)(xs:List ax)(hf:∀x∈xs,C E.P f (av (cT x)::cap) [] (jF (bv (p x)) [])) :
 CN 191 [lv (aU xs),.fn f cap] (iv (idxOf p xs)):=by
 refine gS 19 [.tmp 4] hm Tryz.func191 fun hl he cf=>?_
 refine kC hm xs.length (fun(i:Nat)=>idxOf p xs=fj p (xs.drop i) i) (fun i=>⟨dN 19 .any [(0,lv (aU xs)),(1,.fn f cap),(7,iv xs.length),(8,iv i)],[]⟩) ?_ (cM []) ?_
 ·simp[idxOf]
 ·rintro i ⟨hi,hg⟩
  rcases aa (i<xs.length) with h1|h1
  ·rw[ae h1,fj] at hg
   refine uA ?_
   have hc:=hf xs[i] (aj h1)
   refine dy cap hc ?_ ?_<;>simp -implicitDefEqProofs only[go_sem,lF]
   cases h2:p xs[i]
   ·rw[h2] at hg
    simp only[au,if_false] at hg
    refine sA ?_
    refine⟨oM,?_⟩
    exact⟨i+1,⟨oM,hg⟩,sL,cM []⟩
   ·rw[h2] at hg
    simp only[if_true] at hg
    exact dD hg
  ·rw[ak oM,fj] at hg
   exact gG h1 hg
theorem IP(f:Nat)(cap:List PV)(lF:wj 0 cap=true)(p:j8→Bool)(xs:List j8)(hf:∀x∈xs,C E.P f (av (gY x)::cap) [] (jF (bv (p x)) [])) :
 CN 331 [lv (eE xs),.fn f cap] (iv (idxOf p xs)):=by
 refine gS 19 [.tmp 4] hm Tryz.func331 fun hl he cf=>?_
 refine kC hm xs.length (fun(i:Nat)=>idxOf p xs=fj p (xs.drop i) i) (fun i=>⟨dN 19 .any [(0,lv (eE xs)),(1,.fn f cap),(7,iv xs.length),(8,iv i)],[]⟩) ?_ (cM []) ?_
 ·simp[idxOf]
 ·rintro i ⟨hi,hg⟩
  rcases aa (i<xs.length) with h1|h1
  ·rw[ae h1,fj] at hg
   refine uA ?_
   have hc:=hf xs[i] (aj h1)
   refine dy cap hc ?_ ?_<;>simp -implicitDefEqProofs only[go_sem,lF]
   cases h2:p xs[i]
   ·rw[h2] at hg
    simp only[au,if_false] at hg
    refine sA ?_
    refine⟨oM,?_⟩
    exact⟨i+1,⟨oM,hg⟩,sL,cM []⟩
   ·rw[h2] at hg
    simp only[if_true] at hg
    exact dD hg
  ·rw[ak oM,fj] at hg
   exact gG h1 hg
theorem vH(f:Nat)(cap:List PV)(lF:wj 0 cap=true)(p:Int→Bool)(xs:List Int)(hf:∀x∈xs,C E.P f (iv x::cap) [] (jF (bv (p x)) [])) :
 CN 184 [lv (bm xs),.fn f cap] (bv (xs.any p)):=by
 refine gS 9 [.tmp 4] hm Tryz.func184 fun hl he cf=>?_
 refine dy [] (zS f cap lF p xs hf) ?_ ?_<;>simp -implicitDefEqProofs only[go_sem,lF]
 refine bt ?_
 simp[Ep]
theorem Cf(f:Nat)(cap:List PV)(lF:wj 0 cap=true)(p:ax→Bool)(xs:List ax)(hf:∀x∈xs,C E.P f (av (cT x)::cap) [] (jF (bv (p x)) [])) :
 CN 187 [lv (aU xs),.fn f cap] (bv (xs.any p)):=by
 refine gS 9 [.tmp 4] hm Tryz.func187 fun hl he cf=>?_
 refine dy [] (rH f cap lF p xs hf) ?_ ?_<;>simp -implicitDefEqProofs only[go_sem,lF]
 refine bt ?_
 simp[Ep]
theorem Dq(f:Nat)(cap:List PV)(lF:wj 0 cap=true)(p:j8→Bool)(xs:List j8)(hf:∀x∈xs,C E.P f (av (gY x)::cap) [] (jF (bv (p x)) [])) :
 CN 273 [lv (eE xs),.fn f cap] (bv (xs.any p)):=by
 refine gS 9 [.tmp 4] hm Tryz.func273 fun hl he cf=>?_
 refine dy [] (IP f cap lF p xs hf) ?_ ?_<;>simp -implicitDefEqProofs only[go_sem,lF]
 refine bt ?_
 simp[Ep]
theorem xJ(f:Nat)(xs ys:List ax)(hf:∀x∈xs,∀y,CN f [av (cT x),av (cT y)] (bv (decide (x=y)))) :
 CN 72 [lv (aU xs),lv (aU ys),.fn f []] (bv (decide (xs=ys))):=by
 refine gS 32 [.tmp 6] hm Tryz.func72 fun hl he cf=>?_
 rcases aa (xs.length=ys.length) with hl' | hl'
 ·refine bH hl' ?_
  refine kC hm ys.length (fun(i:Nat)=>decide (xs=ys)=decide (xs.drop i=ys.drop i)) (fun i=>⟨dN 32 .any [(1,lv (aU ys)),(2,.fn f []),(15,lv (aU xs)),(16,iv ys.length),(17,iv i)],[]⟩) ?_ (cM []) ?_
  ·simp
  ·rintro i ⟨hi,hg⟩
   rcases aa (i<ys.length) with h1|h1
   ·have h2:i<xs.length:=oM
    rw[ae h1,ae h2] at hg
    refine uJ ?_
    have hc:=hf xs[i] (aj h2) ys[i]
    refine aC [] hc ?_
    rcases aa (xs[i]=ys[i]) with h3|h3
    ·refine bH h3 ?_
     refine⟨oM,?_⟩
     exact⟨i+1,⟨oM,by rw[hg];simp only[h3,List.cons.injEq,true_and]⟩,sL,cM []⟩
    ·have hg:decide (xs=ys)=false:=by rw[hg];simp only[h3,List.cons.injEq,false_and,decide_false]
     exact gG h3 hg
   ·have hg:decide (xs=ys)=true:=by
     rw[hg,ak oM,ak oM]
     rfl
    exact gG h1 hg
 ·have hn:¬xs=ys:=fun h=>hl' (by rw[h])
  exact gG hl' hn
theorem B0{a b:ax}:a=b↔a.name=b.name∧a.ar=b.ar:=by cases a;cases b;simp[ax.name,ax.ar]
theorem GK(a b:ax)(ih:∀k∈a.ar,∀y,CN 36 [av (cT k),av (cT y)] (bv (decide (k=y)))):CN 36 [av (cT a),av (cT b)] (bv (decide (a=b))):=by refine gS 17 [.tmp 4] hm Tryz.func36 fun hl he cf=>?_;rcases aa (a.name=b.name) with h|h;refine bH h ?_;refine aC [] (xJ 36 a.ar b.ar ih) ?_;refine bt ?_;simp[B0,h];refine du h ?_;simp[B0,h]
theorem gV:∀a b,CN 36 [av (cT a),av (cT b)] (bv (decide (a=b))):=
 ax.ind fun n ks ih b=>GK _ b ih
theorem DY(t u:ax):CN 284 [av (cT u),.ib [cT t] 0 0] (bv (decide (t=u))):=by refine gS 7 [.tmp 3] hm Tryz.func284 fun hl he cf=>?_;refine aC [] (gV t u) ?_;refine fD ?_;exact sC
theorem e9(ts:List ax)(t:ax):CN 204 [lv (aU ts),av (cT t)] (iv (b8 ts t)):=by refine gS 8 [.tmp 4] hm Tryz.func204 fun hl he cf=>?_;refine AQ [] [0] (rH 284 [.ib [cT t] 0 0] rfl (fun u=>decide (t=u)) ts (fun u _=>DY t u)) ?_;refine bt ?_;simp[b8]
theorem xO(ts:List ax)(ih:∀k∈ts,CN 125 [av (cT k)] (av (cT k))):CN 181 [lv (aU ts)] (lv (aU ts)):=by refine gS 19 [.tmp 2] hm Tryz.func181 fun hl he cf=>?_;refine jr hm ts.length (fun i=>⟨dN 19 .any [(3,.aX 0),(6,lv (aU ts)),(7,iv ts.length),(8,iv i)],[some (.aX 32 (aU (ts.take i)))]⟩) (cM [none]) ?_;rintro i hi;rcases aa (i<ts.length) with h1|h1;refine uA ?_;have hc:=ih ts[i] (aj h1);refine aC [] hc ?_;refine⟨oM,oM,?_⟩;exact⟨i+1,h1,sL,aZ [some 2] sC (by refine sA ?_;exact rV h1) rfl rfl⟩;refine du h1 ?_;rw[aq oM]
theorem S5(t:ax)(ih:∀k∈t.ar,CN 125 [av (cT k)] (av (cT k))):CN 125 [av (cT t)] (av (cT t)):=by refine gS 9 [.cell 2 32] hm Tryz.func125 fun hl he cf=>?_;refine aC [] (xO t.ar ih) ?_;refine iK ?_;skip;refine fD ?_;exact sC
theorem gq:∀t,CN 125 [av (cT t)] (av (cT t)):=
 ax.ind fun n ks ih=>S5 _ ih
theorem IZ(ts:List ax):CN 181 [lv (aU ts)] (lv (aU ts)):=xO ts fun t _=>gq t
theorem E0(t:ax)(ih:∀k∈t.ar,∀(d:Nat)(l:List ax),d≤4→cd k d=true→l.length≤999000+15*(4-d)→C E.P 190 [.aX 0,av (cT k)] [some (.aX 32 (aU l))] (jF (.aX 1) [some .dead,some (.aX 32 (aU (dY l k)))]))(d:Nat)(l:List ax)
 (hd:d≤4) (hsh:cd t d=true) (hl1:l.length≤999000+15*(4-d)) :
 C E.P 190 [.aX 0,av (cT t)] [some (.aX 32 (aU l))] (jF (.aX 1) [some .dead,some (.aX 32 (aU (dY l t)))]):=by
 cases d with
 | zero=>cases t;simp[cd] at hsh
 | succ d=>
 have hk:=qp hsh
 have hle:=fun i=>CD (l:=l) hsh oM i
 refine gS 28 [.tmp 4] hm Tryz.func190 fun hl he cf=>?_
 refine jr hm t.ar.length (fun i=>⟨dN 28 .any [(0,.aX 2),(3,.bA 1 0),(8,lv (aU t.ar)),(9,iv t.ar.length),(10,iv i)],[some .dead,some (.box (dm (cT t))),some (.aX 32 (aU (bp l (t.ar.take i))))]⟩) (cM [some 0,some 1,some 0]) ?_
 ·rintro i hi
  rcases aa (i<t.ar.length) with h1|h1
  ·refine uA ?_
   have hc:=ih t.ar[i] (aj h1) d (bp l (t.ar.take i)) oM (qy hk.2.2 _ (aj h1)) (by have:=hle i;omega)
   refine oC [] [2,4] hc ?_
   refine⟨oM,?_⟩
   exact⟨i+1,h1,sL,aZ [some 0,some 1,some 4] sC (by refine sA ?_;simp only[tG h1]) rfl rfl⟩
  ·have e:t.ar.take i=t.ar:=aq oM
   have h2:=hle i
   rw[e] at h2
   refine iI h1 e ?_
   refine AQ [] [2] (e9 (bp l t.ar) t) ?_
   rcases aa (b8 (bp l t.ar) t<0) with hx|hx
   ·refine bH hx ?_
    refine aC [] (gq t) ?_
    refine⟨oM,?_⟩
    refine gA_ [some 0,some 3] ?_
    rw[uS,if_pos hx,←ng,eZ,il]
    rfl
   ·refine bH hx ?_
    refine bX [some 0,some 2] ?_ rfl rfl
    refine bt ?_
    rw[uS,if_neg hx]
theorem xQ:∀(t:ax)(d:Nat)(l:List ax),d≤4→cd t d=true→l.length≤999000+15*(4-d)→C E.P 190 [.aX 0,av (cT t)] [some (.aX 32 (aU l))] (jF (.aX 1) [some .dead,some (.aX 32 (aU (dY l t)))]):=
 ax.ind fun n ks ih d l h1 h2 h3=>E0 (.mk n ks) ih d l h1 h2 h3
theorem Te(t:ax)(bn:Nat):nh t bn=if gO t.name&&decide (t.ar.length≤2)&&decide (bn≤4) then 1+hQ t.ar (bn+1) else 13:=by cases t;rfl
theorem LZ{ts:List ax}{i:Nat}(h:i<ts.length)(bn:Nat):hQ (ts.take (i+1)) bn=hQ (ts.take i) bn+nh ts[i] bn:=by
 have e:ts.take (i+1)=ts.take i++[ts[i]]:=by rw[bz,af h];rfl
 have key:∀(xs ys:List ax),hQ (xs++ys) bn=hQ xs bn+hQ ys bn:=by
  intro xs ys;induction xs with
  | nil=>simp[hQ]
  | cons a xs ih=>simp only[List.cons_append,hQ,ih];omega
 rw[e,key];simp[hQ]
theorem Gz(t:ax)(ih:∀k∈t.ar,∀bn:Nat,1≤bn→bn≤5→CN 270 [av (cT k),iv bn] (iv (nh k bn)))(bn:Nat)(g1:1≤bn)(g5:bn≤5) :
 CN 270 [av (cT t),iv bn] (iv (nh t bn)):=by
 have ht:=Te t bn
 refine gS 37 [.tmp 4] hm Tryz.func270 fun hl he cf=>?_
 refine aC [] (sU t.name) ?_
 cases hn:gO t.name
 ·rw[hn] at ht
  exact dD ht
 ·rw[hn] at ht
  rcases aa ((2:Int)<(t.ar.length:Int)) with h2|h2
  ·have h2':¬t.ar.length≤2:=oM
   simp only[h2',decide_false,iA,aI,au,if_false] at ht
   exact gG h2 ht
  ·have h2':t.ar.length≤2:=oM
   rcases aa ((4:Int)<(bn:Int)) with h4|h4
   ·have h4':¬bn≤4:=oM
    simp only[h4',decide_false,iA,au,if_false] at ht
    exact mH h2 h4 ht
   ·have h4':bn≤4:=oM
    simp only[h2',h4',decide_true,om,if_true] at ht
    refine iI h2 h4 ?_
    refine jr hm t.ar.length (fun i=>⟨dN 37 .any [(1,iv bn),(5,iv ((1+hQ (t.ar.take i) (bn+1):Nat):Int)),(23,lv (aU t.ar)),(24,iv t.ar.length),(25,iv i)],[]⟩) (cM []) ?_
    ·rintro i hi
     have hb:=yo (t.ar.take i) (bn+1) oM oM
     have hp:(2:Nat) ^ (5-(bn+1))≤2 ^ 4:=Nat.pow_le_pow_right oM oM
     have hq:(t.ar.take i).length*(27*2 ^ (5-(bn+1))-14)≤2*(27*2 ^ (5-(bn+1))-14):=Nat.mul_le_mul_right _ (by simp;omega)
     rcases aa (i<t.ar.length) with h1|h1
     ·have hk:=Hw t.ar[i] (bn+1) oM oM
      refine uA ?_
      refine⟨oM,?_⟩
      have hc:=ih t.ar[i] (aj h1) (bn+1) oM oM
      refine aC [] hc ?_
      refine⟨oM,oM,?_⟩
      exact⟨i+1,h1,sL,aZ [] (by refine sA ?_;(simp only[LZ h1];simp;omega)) sC rfl rfl⟩
     ·rw[←aq (l:=t.ar) (i:=i) oM] at ht
      exact gG h1 ht
theorem Iz:∀(t:ax)(bn:Nat),1≤bn→bn≤5→CN 270 [av (cT t),iv bn] (iv (nh t bn)):=
 ax.ind fun n ks ih bn h1 h2=>Gz (.mk n ks) ih bn h1 h2
theorem kd(t:ax):CN 189 [av (cT t)] (bv (bG t)):=by refine gS 6 [.tmp 2] hm Tryz.func189 fun hl he cf=>?_;have hc:=Iz t 1 oM oM;refine aC [] hc ?_;refine bt ?_;(simp[bG];omega)
theorem C2(n:Int):CN 183 [iv n] (bv (isSort n)):=by refine gS 9 [.tmp 2] hm Tryz.func183 fun hl he cf=>?_;rcases aa (n=0) with h|h;refine du h ?_;simp[isSort];refine du h ?_;simp[isSort,h]
theorem I0(n:Int):CN 185 [iv n] (bv (!isSort n)):=by refine gS 6 [.tmp 2] hm Tryz.func185 fun hl he cf=>?_;refine aC [] (C2 n) ?_;refine fD ?_;exact sC
theorem ME(x:Sym):CN 102 [av (zT x)] (bv (qt x)):=by refine gS 23 [.tmp 2] hm Tryz.func102 fun hl he cf=>?_;refine aC [] (sU x.name) ?_;cases h1:gO x.name;simp -implicitDefEqProofs only[go_sem];refine gZ ?_;simp[qt,h1];rcases aa ((x.args.length:Int)≤2) with h2|h2;have h2':x.args.length≤2:=oM;refine bH h2 ?_;refine aC [] (C2 x.sort) ?_;cases h3:isSort x.sort;refine bt ?_;simp[qt,h1,h2',h3];refine sA ?_;refine aC [] (vH 185 [] rfl (fun n=>!isSort n) x.args (fun n _=>I0 n)) ?_;refine bt ?_;simp[qt,h1,h2',h3,List.all_eq_not_any_not];have h2':¬x.args.length≤2:=oM;refine bH h2 ?_;refine gZ ?_;simp[qt,h1,h2']
def l8(l:List Sym):Nat→Option pL
 | 0=>none
 | j+1=>(l[j]?).map (·.name)
theorem pj(s:eM):CN 51 [av (eP s)] (bv (gC s)):=by
 refine gS 37 [.tmp 2] hm Tryz.func51 fun hl he cf=>?_;refine cS hm (fun(i:Nat)=> i≤s.cQ.length∧tX none s.cQ=tX (l8 s.cQ i) (s.cQ.drop i)) (fun i=> ⟨dN 37 .any [(1,.bA 0 0),(6,lv (fq s.cQ)),(7,iv s.cQ.length),(8,iv i)],[some (.box (dm (eP s)))]⟩) (fun i=> s.cQ.length-i) (0) ?_ (cM fe) ?_;simp[l8];rintro i ⟨hi,hg⟩;rcases aa (i<s.cQ.length) with h1|h1
 ·rw[ae h1] at hg;simp only[tX] at hg;refine uA ?_;refine aC [] (ME s.cQ[i]) ?_;cases h2:qt s.cQ[i];have e:gC s=false:=(by simp[gC,hg,h2]);refine sA ?_;refine iK ?_;skip;exact dD e;rw[h2,aA] at hg;cases i with
  | zero=>simp only[l8,aA] at hg;simp -implicitDefEqProofs only[go_sem,Int.lt_irrefl];refine iK ?_;skip;refine⟨oM,?_⟩;refine⟨0+1,?_,sL,cM fe⟩;refine⟨oM,?_⟩;rw[hg];simp[l8,h1]
  | succ j=>have hj:j<s.cQ.length:=oM;have e1:((j:Int)+1-1)=(j:Int):=oM;have e2:(0:Int)<(j:Int)+1:=oM;have e3:l8 s.cQ (j+1)=some s.cQ[j].name:=(by simp[l8,hj]);rw[e3] at hg;simp only at hg;simp -implicitDefEqProofs only[go_sem,e1,e2,hj];refine⟨oM,?_⟩;cases h4:iQ s.cQ[j].name s.cQ[j+1].name;rw[h4,aI] at hg;have e:gC s=false:=(by simp[gC,hg]);have h5:Op.bytesLess s.cQ[j].name s.cQ[j+1].name=false:=h4;refine du h5 ?_;skip;exact dD e;rw[h4,aA] at hg;have h5:Op.bytesLess s.cQ[j].name s.cQ[j+1].name=true:=h4;refine bH h5 ?_;refine iK ?_;skip;refine⟨oM,?_⟩;refine⟨j+1+1,?_,sL,aZ fe ?_ ?_ rfl rfl⟩;rotate_left;exact sC;exact sC;refine⟨oM,?_⟩;rw[hg];simp[l8,h1]
 rw[ak oM] at hg;simp only[tX] at hg;have e:gC s=decide ((s.cQ.length:Int)≤7):=by simp[gC,hg];omega
 exact gG h1 e
theorem wI(s:eM)(n:pL):CN 86 [av (eP s),sv n] (.iZ [av (zT ((symbol s n).getD zw)),bv (symbol s n).isSome]):=by
 refine gS 22 [.cell 4 155,.tmp 5] hm Tryz.func86 fun hl he cf=>?_;refine kC hm s.cQ.length (fun(i:Nat)=>symbol s n=(s.cQ.drop i).find? (fun x=>decide (x.name=n))) (fun i=>⟨dN 22 .any [(1,sv n),(4,.bA 1 0),(9,lv (fq s.cQ)),(10,iv s.cQ.length),(11,iv i)],[some (.box (dm (eP s))),some (.box (dm (zT zw)))]⟩) ?_ (cM kR) ?_;simp[symbol];rintro i ⟨hi,hg⟩;rcases aa (i<s.cQ.length) with h1|h1;rw[ae h1] at hg;rcases aa (s.cQ[i].name=n) with h2|h2;have e:symbol s n=some s.cQ[i]:=by rw[hg];simp only[fb,h2,decide_true]
 exact mH h1 h2 e;have e:symbol s n=(s.cQ.drop (i+1)).find? (fun x=>decide (x.name=n)):=by rw[hg];simp only[fb,h2,decide_false]
 refine uJ ?_;refine⟨oM,?_⟩;refine⟨i+1,?_,sL,cM kR⟩;exact⟨oM,e⟩;have e:symbol s n=none:=by rw[hg,ak oM];rfl
 refine du h1 ?_;simp[e,zw,BP]
theorem O1(s:eM)(t:ax):ic s t=match symbol s t.name with
 | none=>none
 | some x=>if decide (x.args.length=t.ar.length)&&ja s t.ar x.args then some x.sort else none:=by
 cases t;simp only[ic,ax.name,ax.ar];rfl
theorem FC{s:eM}{ks:List ax}{ns:List Int}{i:Nat}(h:i<ks.length)(h':i<ns.length):ja s (ks.drop i) (ns.drop i)=(decide (ic s ks[i]=some ns[i])&&ja s (ks.drop (i+1)) (ns.drop (i+1))):=by rw[ae h,ae h',ja]
theorem DC(s:eM)(t:ax)(ih:∀k∈t.ar,CN 271 [av (eP s),av (cT k)] (.iZ [iv ((ic s k).getD 0),bv (ic s k).isSome])) :
 CN 271 [av (eP s),av (cT t)] (.iZ [iv ((ic s t).getD 0),bv (ic s t).isSome]):=by
 have ht:=O1 s t
 refine gS 58 [.tmp 4,.tmp 5] hm Tryz.func271 fun hl he cf=>?_
 refine aC [] (wI s t.name) ?_
 cases hx:symbol s t.name with
 | none=>rw[hx] at ht;simp only at ht;refine bt ?_;simp[ht]
 | some x=>
  rw[hx] at ht;simp only at ht;rcases aa (x.args.length=t.ar.length) with h1|h1
  ·simp only[h1,decide_true,aA] at ht;refine bH h1 ?_;refine cS hm (fun(i:Nat)=> i≤t.ar.length∧ja s t.ar x.args=ja s (t.ar.drop i) (x.args.drop i)) (fun(i:Nat)=> ⟨dN 58 .any [(2,.bA 0 0),(6,.bA 2 0),(31,lv (aU t.ar)),(32,iv t.ar.length),(33,iv i)],[some (.box (dm (eP s))),some (.box (dm (cT t))),some (.box (dm (zT x)))]⟩) (fun(i:Nat)=> t.ar.length-i) (0) ?_ (cM rC) ?_;simp;rintro i ⟨hi,hg⟩;rcases aa (i<t.ar.length) with h2|h2
   ·have h3:i<x.args.length:=oM;rw[FC h2 h3] at hg;refine uB ?_;have hc:=ih t.ar[i] (aj h2);refine aC [] hc ?_;cases hk:ic s t.ar[i] with
    | none=>rw[hk] at hg;have hz:ja s t.ar x.args=false:=(by rw[hg];simp);rw[hz] at ht;simp only[au,if_false] at ht;refine bt ?_;simp[ht]
    | some n=>rw[hk] at hg;rcases aa (n=x.args[i]) with hn|hn;have hz:ja s t.ar x.args=ja s (t.ar.drop (i+1)) (x.args.drop (i+1)):=(by rw[hg,hn];simp);simp -implicitDefEqProofs only[go_sem,Option.isSome_some,Option.getD_some,hn,h3];refine⟨oM,?_⟩;refine⟨i+1,?_,sL,cM rC⟩;exact⟨oM,hz⟩;have hz:ja s t.ar x.args=false:=(by rw[hg];simp[hn]);rw[hz] at ht;simp only[au,if_false] at ht;exact mH hn h3 ht
   rw[ak oM,ak oM] at hg;rw[hg] at ht;simp only[ja,if_true] at ht;exact gG h2 ht
  simp only[h1,decide_false,aI,au,if_false] at ht;have h1':¬ (x.args.length:Int)=t.ar.length:=oM;refine bH h1 ?_;refine gZ ?_;simp[ht]
theorem E2(s:eM):∀(t:ax),CN 271 [av (eP s),av (cT t)] (.iZ [iv ((ic s t).getD 0),bv (ic s t).isSome]):=
 ax.ind fun n ks ih=>DC s (.mk n ks) ih
theorem tS(s:eM)(t:ax):CN 192 [av (eP s),av (cT t)] (.iZ [iv ((gK s t).getD 0),bv (gK s t).isSome]):=by refine gS 19 [.tmp 4,.tmp 5] hm Tryz.func192 fun hl he cf=>?_;refine aC [] (pj s) ?_;cases h1:gC s;refine bt ?_;simp[gK,h1];refine sA ?_;refine aC [] (kd t) ?_;cases h2:bG t;refine bt ?_;simp[gK,h1,h2];refine sA ?_;refine aC [] (E2 s t) ?_;refine bt ?_;simp[gK,h1,h2]
theorem zG(s:eM)(t:ax):CN 109 [av (eP s),av (cT t)] (bv (eQ s t)):=by
 refine gS 18 [.tmp 4] hm Tryz.func109 fun hl he cf=>?_;refine aC [] (tS s t) ?_;cases h:gK s t with
 | none=>refine bt ?_;simp[eQ,h]
 | some n=>refine bt ?_;simp[eQ,h]
theorem gW(t:ax):CN 237 [av (cT t)] (bv (isNone t)):=by refine gS 12 [.tmp 2] hm Tryz.func237 fun hl he cf=>?_;rcases aa (t.name=[]) with h|h;refine du h ?_;simp[isNone,h];refine du h ?_;simp[isNone,h]
theorem xU(e:hY)(s:eM):CN 186 [av (FV e),av (eP s)] (bv (iP s e)):=by
 refine gS 32 [.tmp 4] hm Tryz.func186 fun hl he cf=>?_;refine aC [] (tS s e.A) ?_;refine aC [] (tS s e.B) ?_;cases h1:gK s e.A with
 | none=>refine bt ?_;simp[iP,h1]
 | some n=>
  cases h2:gK s e.B with
  | none=>refine bt ?_;simp[iP,h1,h2]
  | some m=>refine bt ?_;simp[iP,h1,h2]
theorem wH(a:cR):CN 105 [av (fC a)] (lv (aU (cY a))):=by refine gS 13 [.tmp 2] hm Tryz.func105 fun hl he cf=>?_;rcases aa (a.kind=1) with h|h;refine du h ?_;simp[cY,h,eZ,il,cT];refine du h ?_;simp[cY,h]
theorem Qb{xs:List ax}{i:Nat}(h:i<xs.length)(hi:bG xs[i]=false)(out:List ax):oB (xs.drop i) out=[]:=by rw[ae h,oB,hi];rfl
theorem Fu{xs:List ax}{i:Nat}(h:i<xs.length)(hi:bG xs[i]=true)(out:List ax):oB (xs.drop i) out=oB (xs.drop (i+1)) (dY out xs[i]):=by rw[ae h,oB,hi];rfl
theorem G5(xs:List ax)(hx:xs.length≤1000):CN 106 [lv (aU xs)] (lv (aU (kL xs))):=by refine gS 20 [.tmp 2] hm Tryz.func106 fun hl he cf=>?_;refine ry hm xs.length (fun(i:Nat) (out:List ax)=>kL xs=oB (xs.drop i) out∧out.length≤15*i) (fun i out=>⟨dN 20 .any [(3,.aX 0),(6,lv (aU xs)),(7,iv xs.length),(8,iv i)],[some (.aX 32 (aU out))]⟩) ([]) ?_ (cM [none]) ?_;simp[kL];rintro i out ⟨hi,hg,ho⟩;rcases aa (i<xs.length) with h1|h1;refine uA ?_;refine aC [] (kd xs[i]) ?_;cases h2:bG xs[i];rw[Qb h1 h2] at hg;refine bt ?_;simp[hg,il];rw[Fu h1 h2] at hg;have hs:=jh h2;have hle:=yr (l:=out) hs oM;refine sA ?_;refine oC [] [0,2] (xQ xs[i] 4 out oM hs oM) ?_;refine⟨oM,?_⟩;exact⟨i+1,dY out xs[i],⟨oM,hg,oM⟩,sL,cM [some 2]⟩;rw[ak oM,oB] at hg;exact gG h1 hg
theorem T8{es:List hY}{i:Nat}(h:i<es.length):s6 (es.take (i+1))=s6 (es.take i)++[es[i].A,es[i].B]:=by
 have e:es.take (i+1)=es.take i++[es[i]]:=by rw[bz,af h];rfl
 rw[e];simp only[s6,List.flatMap_append,List.flatMap_cons,List.flatMap_nil,List.append_nil]
theorem OE(es:List hY):(s6 es).length=2*es.length:=by
 induction es with
 | nil=>rfl
 | cons e es ih=>simp[s6] at ih⊢;omega
theorem QR(es:List hY)(hes:es.length≤1000):CN 315 [lv (dF es)] (lv (aU (s6 es))):=by
 refine gS 21 [.tmp 2] hm Tryz.func315 fun hl he cf=>?_;refine jr hm es.length (fun i=>⟨dN 21 .any [(3,.aX 0),(6,lv (dF es)),(7,iv es.length),(8,iv i)],[some (.aX 32 (aU (s6 (es.take i))))]⟩) (cM [none]) ?_;rintro i hi;rcases aa (i<es.length) with h1|h1;have hl2:(s6 (es.take i)).length≤2000:=by rw[OE];simp;omega
 refine bH h1 ?_;refine⟨by simp;omega,oM,?_⟩;exact⟨i+1,h1,sL,aZ [some 2] sC (by refine sA ?_;(rw[T8 h1,←ng,eZ,eZ,il];rfl)) rfl rfl⟩;refine du h1 ?_;rw[aq oM]
theorem EN(s:eM)(es:List hY):CN 238 [av (eP s),lv (dF es)] (bv (pC s es)):=by
 refine gS 31 [.tmp 4] hm Tryz.func238 fun hl he cf=>?_;refine aC [] (pj s) ?_;cases h1:gC s;refine bt ?_;simp[pC,h1];rcases aa ((12:Int)<(es.length:Int)) with h2|h2;have h2':¬es.length≤12:=oM;refine du h2 ?_;simp[pC,h1,h2'];have h2':es.length≤12:=oM;refine bH h2 ?_;refine kC hm es.length (fun(i:Nat)=>es.all (iP s)=(es.drop i).all (iP s)) (fun i=>⟨dN 31 .any [(1,lv (dF es)),(2,.bA 0 0),(15,lv (dF es)),(16,iv es.length),(17,iv i)],[some (.box (dm (eP s)))]⟩) ?_ (cM fe) ?_;simp;rintro i ⟨hi,hg⟩;rcases aa (i<es.length) with h3|h3;rw[ae h3,cC] at hg;refine bH h3 ?_;refine aC [] (xU es[i] s) ?_;cases h4:iP s es[i];rw[h4,aI] at hg;have e:pC s es=false:=by unfold pC;rw[hg];simp
 exact dD e;rw[h4,aA] at hg;refine sA ?_;refine⟨oM,?_⟩;exact⟨i+1,⟨oM,hg⟩,sL,cM fe⟩;rw[ak oM,List.all_nil] at hg;have e:pC s es=decide (((kL (s6 es)).length:Int)≤24):=by unfold pC;rw[hg,h1,decide_eq_true h2'];simp only[om,aA];exact decide_eq_decide.2 oM
 refine bH h3 ?_;refine aC [] (QR es oM) ?_;refine aC [] (G5 (s6 es) (by rw[OE];omega)) ?_;exact dD e
theorem Jc(f:Nat)(xs ys:List lH)(hf:∀x∈xs,∀y,CN f [av (jn x),av (jn y)] (bv (decide (x=y)))) :
 CN 71 [lv (fA xs),lv (fA ys),.fn f []] (bv (decide (xs=ys))):=by
 refine gS 32 [.tmp 6] hm Tryz.func71 fun hl he cf=>?_
 rcases aa (xs.length=ys.length) with hl' | hl'
 ·refine bH hl' ?_
  refine kC hm ys.length (fun(i:Nat)=>decide (xs=ys)=decide (xs.drop i=ys.drop i)) (fun i=>⟨dN 32 .any [(1,lv (fA ys)),(2,.fn f []),(15,lv (fA xs)),(16,iv ys.length),(17,iv i)],[]⟩) ?_ (cM []) ?_
  ·simp
  ·rintro i ⟨hi,hg⟩
   rcases aa (i<ys.length) with h1|h1
   ·have h2:i<xs.length:=oM
    rw[ae h1,ae h2] at hg
    refine iI h1 h2 ?_
    have hc:=hf xs[i] (aj h2) ys[i]
    refine aC [] hc ?_
    rcases aa (xs[i]=ys[i]) with h3|h3
    ·refine bH h3 ?_
     refine⟨oM,?_⟩
     exact⟨i+1,⟨oM,by rw[hg];simp only[h3,List.cons.injEq,true_and]⟩,sL,cM []⟩
    ·have hg:decide (xs=ys)=false:=by rw[hg];simp only[h3,List.cons.injEq,false_and,decide_false]
     exact gG h3 hg
   ·have hg:decide (xs=ys)=true:=by
     rw[hg,ak oM,ak oM]
     rfl
    exact gG h1 hg
 ·have hn:¬xs=ys:=fun h=>hl' (by rw[h])
  exact gG hl' hn
theorem Pr{a b:lH}:a=b↔a.kD=b.kD∧a.n=b.n∧a.t=b.t∧a.ar=b.ar:=by cases a;cases b;simp[lH.kD,lH.n,lH.t,lH.ar]
theorem Iy(a b:lH)(ih:∀k∈a.ar,∀y,CN 34 [av (jn k),av (jn y)] (bv (decide (k=y)))):CN 34 [av (jn a),av (jn b)] (bv (decide (a=b))):=by refine gS 31 [.tmp 4] hm Tryz.func34 fun hl he cf=>?_;rcases aa (a.kD=b.kD) with h1|h1;rcases aa (a.n=b.n) with h2|h2;refine iI h1 h2 ?_;refine aC [] (gV a.t b.t) ?_;rcases aa (a.t=b.t) with h3|h3;refine bH h3 ?_;refine aC [] (Jc 34 a.ar b.ar ih) ?_;refine bt ?_;simp[Pr,h1,h2,h3];refine du h3 ?_;simp[Pr,h3];refine oH h1 h2 ?_;simp[Pr,h2];refine du h1 ?_;simp[Pr,h1]
theorem vd:∀a b,CN 34 [av (jn a),av (jn b)] (bv (decide (a=b))):=
 lH.ind fun r n t ks ih b=>Iy (.mk r n t ks) b ih
end Go.Proofs.YtphcpjhkeipggaaGreat
