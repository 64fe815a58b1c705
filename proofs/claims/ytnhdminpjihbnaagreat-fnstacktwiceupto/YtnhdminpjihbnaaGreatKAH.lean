/-
  The walks of the small functions of the first chapters. A step towards the exact laws.
-/
import Derived.Test.YtnhdminpjihbnaaGreatKAF
set_option linter.unusedVariables false
set_option linter.unusedSimpArgs false
open Int renaming reduceEq→Z1,reduceLT→Z2,reduceLE→Z3,reduceToNat→Z4
open Bool renaming false_eq_true→aw,true_and→aN,false_and→aZ,and_false→jK
open Classical renaming em→aa
open List renaming getElem_mem→ah,drop_eq_getElem_cons→ai,take_of_length_le→ak,drop_of_length_le→al,find?_cons→iX
namespace Go.Proofs.YtnhdminpjihbnaaGreat
open Go.Eng Go.Mod
set_option maxRecDepth 100000
set_option maxHeartbeats 400000
theorem fw(n lo hi:Int):CN 31 [iv n,iv lo,iv hi] (bv (c8 n lo hi)):=by refine gS 15 [.tmp 6] hm Tryz.func31 fun hl he cV=>?_;refine Z8 (fun h=>?_) (fun h=>?_)<;>simp only[h,go_sem];refine bI ?_;simp[c8,h];refine bI ?_;simp[c8,h]
theorem xI(s:p8):CN 127 [sv s] (bv (ig s)):=by
 refine gS 24 [.tmp 2] hm Tryz.func127 fun hl he cV=>?_;have h:∃b,c8 s.length 1 2=b:=⟨_,rfl⟩;obtain⟨b,h⟩:=h;refine aC [] (fw s.length 1 2) ?_;refine bS h ?_;cases b;refine bI ?_;simp[ig,h];refine sA ?_;refine lZ hm s.length (fun(i:Nat)=>ig s=(s.drop i).all kF) (fun i=>⟨fk 24 .any [(0,sv s),(9,iv s.length),(10,iv i)],[]⟩) ?_ (c9 []) ?_;simp[ig,h];rintro i ⟨hi,hg⟩;rcases aa (i<s.length) with h1|h1;rw[ai h1,List.all_cons] at hg;refine bS h1 ?_;rw[Gl h1];rcases aa ((s[i].toNat:Int)<97) with h2|h2;have h3:kF s[i]=false:=by simp[kF];omega
 rw[h3,aZ] at hg;exact lJ h2 hg;refine lf h2 h1 ?_;rw[Gl h1];rcases aa (122<(s[i].toNat:Int)) with h4|h4;have h3:kF s[i]=false:=by simp[kF];omega
 rw[h3,aZ] at hg;exact lJ h4 hg;have h3:kF s[i]=true:=by simp[kF];omega
 rw[h3,aN] at hg;refine bS h4 ?_;refine⟨oM,?_⟩;exact⟨i+1,⟨oM,hg⟩,sL,c9 []⟩;rw[al oM] at hg;exact lJ h1 hg
theorem SR{α:Type}{p:α→Bool}:∀{xs:List α}{i:Int},0≤i→(0≤eM p xs i↔xs.any p=true)
 | [],i,h=>by simp[eM]
 | x::xs,i,h=>by simp only[eM,List.any_cons,Bool.or_eq_true];split;rename_i hx;simp[hx,h];rename_i hx;rw[SR oM];simp[hx]
theorem BV{α:Type}{p:α→Bool}{xs:List α}:decide (0≤idxOf p xs)=xs.any p:=by rw[Bool.eq_iff_iff,decide_eq_true_eq];exact SR oM
theorem zP(f:Nat)(cap:List PV)(jX:wB 0 cap=true)(p:Int→Bool)(xs:List Int)(hf:∀x∈xs,C E.P f (iv x::cap) [] (gR (bv (p x)) [])) :
 CN 121 [lv (bj xs),.fn f cap] (iv (idxOf p xs)):=by
 refine gS 19 [.tmp 4] hm Tryz.func121 fun hl he cV=>?_
 refine lZ hm xs.length (fun(i:Nat)=>idxOf p xs=eM p (xs.drop i) i) (fun i=>⟨fk 19 .any [(0,lv (bj xs)),(1,.fn f cap),(7,iv xs.length),(8,iv i)],[]⟩) ?_ (c9 []) ?_
 ·simp[idxOf]
 ·rintro i ⟨hi,hg⟩
  rcases aa (i<xs.length) with h1|h1
  ·rw[ai h1,eM] at hg
   refine uA ?_
   have hc:=hf xs[i] (ah h1)
   refine eh cap hc ?_ ?_<;>simp -implicitDefEqProofs only[go_sem,jX]
   cases h2:p xs[i]
   ·rw[h2] at hg
    simp only[aw,if_false] at hg
    refine sA ?_
    refine⟨oM,?_⟩
    exact⟨i+1,⟨oM,hg⟩,sL,c9 []⟩
   ·rw[h2] at hg
    simp only[if_true] at hg
    exact fA hg
  ·rw[al oM,eM] at hg
   exact lJ h1 hg
theorem r7(f:Nat)(cap:List PV)(jX:wB 0 cap=true)(p:az→Bool)(xs:List az)(hf:∀x∈xs,C E.P f (av (cT x)::cap) [] (gR (bv (p x)) [])) :
 CN 152 [lv (ba xs),.fn f cap] (iv (idxOf p xs)):=by
 refine gS 19 [.tmp 4] hm Tryz.func152 fun hl he cV=>?_
 refine lZ hm xs.length (fun(i:Nat)=>idxOf p xs=eM p (xs.drop i) i) (fun i=>⟨fk 19 .any [(0,lv (ba xs)),(1,.fn f cap),(7,iv xs.length),(8,iv i)],[]⟩) ?_ (c9 []) ?_
 ·simp[idxOf]
 ·rintro i ⟨hi,hg⟩
  rcases aa (i<xs.length) with h1|h1
  ·rw[ai h1,eM] at hg
   refine uA ?_
   have hc:=hf xs[i] (ah h1)
   refine eh cap hc ?_ ?_<;>simp -implicitDefEqProofs only[go_sem,jX]
   cases h2:p xs[i]
   ·rw[h2] at hg
    simp only[aw,if_false] at hg
    refine sA ?_
    refine⟨oM,?_⟩
    exact⟨i+1,⟨oM,hg⟩,sL,c9 []⟩
   ·rw[h2] at hg
    simp only[if_true] at hg
    exact fA hg
  ·rw[al oM,eM] at hg
   exact lJ h1 hg
theorem Jf(f:Nat)(cap:List PV)(jX:wB 0 cap=true)(p:mM→Bool)(xs:List mM)(hf:∀x∈xs,C E.P f (av (mY x)::cap) [] (gR (bv (p x)) [])) :
 CN 237 [lv (gq xs),.fn f cap] (iv (idxOf p xs)):=by
 refine gS 19 [.tmp 4] hm Tryz.func237 fun hl he cV=>?_
 refine lZ hm xs.length (fun(i:Nat)=>idxOf p xs=eM p (xs.drop i) i) (fun i=>⟨fk 19 .any [(0,lv (gq xs)),(1,.fn f cap),(7,iv xs.length),(8,iv i)],[]⟩) ?_ (c9 []) ?_
 ·simp[idxOf]
 ·rintro i ⟨hi,hg⟩
  rcases aa (i<xs.length) with h1|h1
  ·rw[ai h1,eM] at hg
   refine uA ?_
   have hc:=hf xs[i] (ah h1)
   refine eh cap hc ?_ ?_<;>simp -implicitDefEqProofs only[go_sem,jX]
   cases h2:p xs[i]
   ·rw[h2] at hg
    simp only[aw,if_false] at hg
    refine sA ?_
    refine⟨oM,?_⟩
    exact⟨i+1,⟨oM,hg⟩,sL,c9 []⟩
   ·rw[h2] at hg
    simp only[if_true] at hg
    exact fA hg
  ·rw[al oM,eM] at hg
   exact lJ h1 hg
theorem wj(f:Nat)(cap:List PV)(jX:wB 0 cap=true)(p:Int→Bool)(xs:List Int)(hf:∀x∈xs,C E.P f (iv x::cap) [] (gR (bv (p x)) [])) :
 CN 129 [lv (bj xs),.fn f cap] (bv (xs.any p)):=by
 refine gS 9 [.tmp 4] hm Tryz.func129 fun hl he cV=>?_
 refine eh [] (zP f cap jX p xs hf) ?_ ?_<;>simp -implicitDefEqProofs only[go_sem,jX]
 refine bI ?_
 simp[BV]
theorem CE(f:Nat)(cap:List PV)(jX:wB 0 cap=true)(p:az→Bool)(xs:List az)(hf:∀x∈xs,C E.P f (av (cT x)::cap) [] (gR (bv (p x)) [])) :
 CN 133 [lv (ba xs),.fn f cap] (bv (xs.any p)):=by
 refine gS 9 [.tmp 4] hm Tryz.func133 fun hl he cV=>?_
 refine eh [] (r7 f cap jX p xs hf) ?_ ?_<;>simp -implicitDefEqProofs only[go_sem,jX]
 refine bI ?_
 simp[BV]
theorem DI(f:Nat)(cap:List PV)(jX:wB 0 cap=true)(p:mM→Bool)(xs:List mM)(hf:∀x∈xs,C E.P f (av (mY x)::cap) [] (gR (bv (p x)) [])) :
 CN 195 [lv (gq xs),.fn f cap] (bv (xs.any p)):=by
 refine gS 9 [.tmp 4] hm Tryz.func195 fun hl he cV=>?_
 refine eh [] (Jf f cap jX p xs hf) ?_ ?_<;>simp -implicitDefEqProofs only[go_sem,jX]
 refine bI ?_
 simp[BV]
theorem yf(f:Nat)(xs ys:List az)(hf:∀x∈xs,∀y,CN f [av (cT x),av (cT y)] (bv (decide (x=y)))) :
 CN 187 [lv (ba xs),lv (ba ys),.fn f []] (bv (decide (xs=ys))):=by
 refine gS 32 [.tmp 6] hm Tryz.func187 fun hl he cV=>?_
 rcases aa (xs.length=ys.length) with hl' | hl'
 ·refine bS hl' ?_
  refine lZ hm ys.length (fun(i:Nat)=>decide (xs=ys)=decide (xs.drop i=ys.drop i)) (fun i=>⟨fk 32 .any [(1,lv (ba ys)),(2,.fn f []),(15,lv (ba xs)),(16,iv ys.length),(17,iv i)],[]⟩) ?_ (c9 []) ?_
  ·simp
  ·rintro i ⟨hi,hg⟩
   rcases aa (i<ys.length) with h1|h1
   ·have h2:i<xs.length:=oM
    rw[ai h1,ai h2] at hg
    refine uJ ?_
    have hc:=hf xs[i] (ah h2) ys[i]
    refine aC [] hc ?_
    rcases aa (xs[i]=ys[i]) with h3|h3
    ·refine bS h3 ?_
     refine⟨oM,?_⟩
     exact⟨i+1,⟨oM,by rw[hg];simp only[h3,List.cons.injEq,true_and]⟩,sL,c9 []⟩
    ·have hg:decide (xs=ys)=false:=by rw[hg];simp only[h3,List.cons.injEq,false_and,decide_false]
     exact lJ h3 hg
   ·have hg:decide (xs=ys)=true:=by
     rw[hg,al oM,al oM]
     rfl
    exact lJ h1 hg
 ·have hn:¬xs=ys:=fun h=>hl' (by rw[h])
  exact lJ hl' hn
theorem BX{a b:az}:a=b↔a.name=b.name∧a.ar=b.ar:=by cases a;cases b;simp[az.name,az.ar]
theorem Hv(a b:az)(ih:∀k∈a.ar,∀y,CN 186 [av (cT k),av (cT y)] (bv (decide (k=y)))):CN 186 [av (cT a),av (cT b)] (bv (decide (a=b))):=by refine gS 17 [.tmp 4] hm Tryz.func186 fun hl he cV=>?_;rcases aa (a.name=b.name) with h|h;refine bS h ?_;refine aC [] (yf 186 a.ar b.ar ih) ?_;refine bI ?_;simp[BX,h];refine dB h ?_;simp[BX,h]
theorem qp:∀a b,CN 186 [av (cT a),av (cT b)] (bv (decide (a=b))):=
 az.ind fun n ks ih b=>Hv _ b ih
theorem DQ(t u:az):CN 207 [av (cT u),.gQ [cT t] 0 0] (bv (decide (t=u))):=by refine gS 7 [.tmp 3] hm Tryz.func207 fun hl he cV=>?_;refine aC [] (qp t u) ?_;refine fv ?_;exact sC
theorem fX(ts:List az)(t:az):CN 166 [lv (ba ts),av (cT t)] (iv (dN ts t)):=by refine gS 8 [.tmp 4] hm Tryz.func166 fun hl he cV=>?_;refine CM [] [0] (r7 207 [.gQ [cT t] 0 0] rfl (fun u=>decide (t=u)) ts (fun u _=>DQ t u)) ?_;refine bI ?_;simp[dN]
theorem yt(ts:List az)(ih:∀k∈ts,CN 117 [av (cT k)] (av (cT k))):CN 135 [lv (ba ts)] (lv (ba ts)):=by refine gS 19 [.tmp 2] hm Tryz.func135 fun hl he cV=>?_;refine jf hm ts.length (fun i=>⟨fk 19 .any [(3,.aW 0),(6,lv (ba ts)),(7,iv ts.length),(8,iv i)],[some (.aW 31 (ba (ts.take i)))]⟩) (c9 [none]) ?_;rintro i hi;rcases aa (i<ts.length) with h1|h1;refine uA ?_;have hc:=ih ts[i] (ah h1);refine aC [] hc ?_;refine⟨oM,oM,?_⟩;exact⟨i+1,h1,sL,bW [some 2] sC (by refine sA ?_;exact r8 h1) rfl rfl⟩;refine dB h1 ?_;rw[ak oM]
theorem UH(t:az)(ih:∀k∈t.ar,CN 117 [av (cT k)] (av (cT k))):CN 117 [av (cT t)] (av (cT t)):=by refine gS 9 [.cell 2 31] hm Tryz.func117 fun hl he cV=>?_;refine aC [] (yt t.ar ih) ?_;refine iK ?_;skip;refine fv ?_;exact sC
theorem iU:∀t,CN 117 [av (cT t)] (av (cT t)):=
 az.ind fun n ks ih=>UH _ ih
theorem JH(ts:List az):CN 135 [lv (ba ts)] (lv (ba ts)):=yt ts fun t _=>iU t
theorem FR(t:az)(ih:∀k∈t.ar,∀(d:Nat)(l:List az),d≤4→bX k d=true→l.length≤999000+15*(4-d)→C E.P 151 [.aW 0,av (cT k)] [some (.aW 31 (ba l))] (gR (.aW 1) [some .dead,some (.aW 31 (ba (eF l k)))]))(d:Nat)(l:List az)
 (hd:d≤4) (hsh:bX t d=true) (hl1:l.length≤999000+15*(4-d)) :
 C E.P 151 [.aW 0,av (cT t)] [some (.aW 31 (ba l))] (gR (.aW 1) [some .dead,some (.aW 31 (ba (eF l t)))]):=by
 cases d with
 | zero=>cases t;simp[bX] at hsh
 | succ d=>
 have hk:=qI hsh
 have hle:=fun i=>Dg (l:=l) hsh oM i
 refine gS 28 [.tmp 4] hm Tryz.func151 fun hl he cV=>?_
 refine jf hm t.ar.length (fun i=>⟨fk 28 .any [(0,.aW 2),(3,.bK 1 0),(8,lv (ba t.ar)),(9,iv t.ar.length),(10,iv i)],[some .dead,some (.box (fy (cT t))),some (.aW 31 (ba (bp l (t.ar.take i))))]⟩) (c9 [some 0,some 1,some 0]) ?_
 ·rintro i hi
  rcases aa (i<t.ar.length) with h1|h1
  ·refine uA ?_
   have hc:=ih t.ar[i] (ah h1) d (bp l (t.ar.take i)) oM (qG hk.2.2 _ (ah h1)) (by have:=hle i;omega)
   refine oC [] [2,4] hc ?_
   refine⟨oM,?_⟩
   exact⟨i+1,h1,sL,bW [some 0,some 1,some 4] sC (by refine sA ?_;simp only[tP h1]) rfl rfl⟩
  ·have e:t.ar.take i=t.ar:=ak oM
   have h2:=hle i
   rw[e] at h2
   refine lf h1 e ?_
   refine CM [] [2] (fX (bp l t.ar) t) ?_
   rcases aa (dN (bp l t.ar) t<0) with hx|hx
   ·refine bS hx ?_
    refine aC [] (iU t) ?_
    refine⟨oM,?_⟩
    refine Et [some 0,some 3] ?_
    rw[uz,if_pos hx,←oq,iu,om]
    rfl
   ·refine bS hx ?_
    refine bM [some 0,some 2] ?_ rfl rfl
    refine bI ?_
    rw[uz,if_neg hx]
theorem GL:∀(t:az)(d:Nat)(l:List az),d≤4→bX t d=true→l.length≤999000+15*(4-d)→C E.P 151 [.aW 0,av (cT t)] [some (.aW 31 (ba l))] (gR (.aW 1) [some .dead,some (.aW 31 (ba (eF l t)))]):=
 az.ind fun n ks ih d l h1 h2 h3=>FR (.mk n ks) ih d l h1 h2 h3
theorem T0(t:az)(cE:Nat):nr t cE=if ig t.name&&decide (t.ar.length≤2)&&decide (cE≤4) then 1+ie t.ar (cE+1) else 13:=by cases t;rfl
theorem MU{ts:List az}{i:Nat}(h:i<ts.length)(cE:Nat):ie (ts.take (i+1)) cE=ie (ts.take i) cE+nr ts[i] cE:=by
 have e:ts.take (i+1)=ts.take i++[ts[i]]:=by rw[List.take_add_one,List.getElem?_eq_getElem h];rfl
 have key:∀(xs ys:List az),ie (xs++ys) cE=ie xs cE+ie ys cE:=by
  intro xs ys;induction xs with
  | nil=>simp[ie]
  | cons a xs ih=>simp only[List.cons_append,ie,ih];omega
 rw[e,key];simp[ie]
theorem GN(t:az)(ih:∀k∈t.ar,∀cE:Nat,1≤cE→cE≤5→CN 192 [av (cT k),iv cE] (iv (nr k cE)))(cE:Nat)(g1:1≤cE)(g5:cE≤5) :
 CN 192 [av (cT t),iv cE] (iv (nr t cE)):=by
 have ht:=T0 t cE
 refine gS 37 [.tmp 4] hm Tryz.func192 fun hl he cV=>?_
 refine aC [] (xI t.name) ?_
 cases hn:ig t.name
 ·rw[hn] at ht
  exact fA ht
 ·rw[hn] at ht
  rcases aa ((2:Int)<(t.ar.length:Int)) with h2|h2
  ·have h2':¬t.ar.length≤2:=oM
   simp only[h2',decide_false,jK,aZ,aw,if_false] at ht
   exact lJ h2 ht
  ·have h2':t.ar.length≤2:=oM
   rcases aa ((4:Int)<(cE:Int)) with h4|h4
   ·have h4':¬cE≤4:=oM
    simp only[h4',decide_false,jK,aw,if_false] at ht
    exact p9 h2 h4 ht
   ·have h4':cE≤4:=oM
    simp only[h2',h4',decide_true,Bool.and_self,if_true] at ht
    refine lf h2 h4 ?_
    refine jf hm t.ar.length (fun i=>⟨fk 37 .any [(1,iv cE),(5,iv ((1+ie (t.ar.take i) (cE+1):Nat):Int)),(23,lv (ba t.ar)),(24,iv t.ar.length),(25,iv i)],[]⟩) (c9 []) ?_
    ·rintro i hi
     have hb:=yQ (t.ar.take i) (cE+1) oM oM
     have hp:(2:Nat) ^ (5-(cE+1))≤2 ^ 4:=Nat.pow_le_pow_right oM oM
     have hq:(t.ar.take i).length*(27*2 ^ (5-(cE+1))-14)≤2*(27*2 ^ (5-(cE+1))-14):=Nat.mul_le_mul_right _ (by simp;omega)
     rcases aa (i<t.ar.length) with h1|h1
     ·have hk:=Ir t.ar[i] (cE+1) oM oM
      refine uA ?_
      refine⟨oM,?_⟩
      have hc:=ih t.ar[i] (ah h1) (cE+1) oM oM
      refine aC [] hc ?_
      refine⟨oM,oM,?_⟩
      exact⟨i+1,h1,sL,bW [] (by refine sA ?_;(simp only[MU h1];simp;omega)) sC rfl rfl⟩
     ·rw[←ak (l:=t.ar) (i:=i) oM] at ht
      exact lJ h1 ht
theorem JN:∀(t:az)(cE:Nat),1≤cE→cE≤5→CN 192 [av (cT t),iv cE] (iv (nr t cE)):=
 az.ind fun n ks ih cE h1 h2=>GN (.mk n ks) ih cE h1 h2
theorem pR(t:az):CN 150 [av (cT t)] (bv (bR t)):=by refine gS 6 [.tmp 2] hm Tryz.func150 fun hl he cV=>?_;have hc:=JN t 1 oM oM;refine aC [] hc ?_;refine bI ?_;(simp[bR];omega)
theorem DB(n:Int):CN 128 [iv n] (bv (isSort n)):=by refine gS 9 [.tmp 2] hm Tryz.func128 fun hl he cV=>?_;rcases aa (n=0) with h|h;refine dB h ?_;simp[isSort];refine dB h ?_;simp[isSort,h]
theorem JV(n:Int):CN 130 [iv n] (bv (!isSort n)):=by refine gS 6 [.tmp 2] hm Tryz.func130 fun hl he cV=>?_;refine aC [] (DB n) ?_;refine fv ?_;exact sC
theorem NA(x:Sym):CN 82 [av (Bt x)] (bv (qd x)):=by refine gS 23 [.tmp 2] hm Tryz.func82 fun hl he cV=>?_;refine aC [] (xI x.name) ?_;cases h1:ig x.name;simp -implicitDefEqProofs only[go_sem];refine An ?_;simp[qd,h1];rcases aa ((x.args.length:Int)≤2) with h2|h2;have h2':x.args.length≤2:=oM;refine bS h2 ?_;refine aC [] (DB x.sort) ?_;cases h3:isSort x.sort;refine bI ?_;simp[qd,h1,h2',h3];refine sA ?_;refine aC [] (wj 130 [] rfl (fun n=>!isSort n) x.args (fun n _=>JV n)) ?_;refine bI ?_;simp[qd,h1,h2',h3,List.all_eq_not_any_not];have h2':¬x.args.length≤2:=oM;refine bS h2 ?_;refine An ?_;simp[qd,h1,h2']
def mD(l:List Sym):Nat→Option p8
 | 0=>none
 | j+1=>(l[j]?).map (·.name)
theorem rI(s:eV):CN 55 [av (gi s)] (bv (gy s)):=by
 refine gS 37 [.tmp 2] hm Tryz.func55 fun hl he cV=>?_;refine hJ hm (fun(i:Nat)=> i≤s.cq.length∧rH none s.cq=rH (mD s.cq i) (s.cq.drop i)) (fun i=> ⟨fk 37 .any [(1,.bK 0 0),(6,lv (ij s.cq)),(7,iv s.cq.length),(8,iv i)],[some (.box (fy (gi s)))]⟩) (fun i=> s.cq.length-i) (0) ?_ (c9 gE) ?_;simp[mD];rintro i ⟨hi,hg⟩;rcases aa (i<s.cq.length) with h1|h1
 ·rw[ai h1] at hg;simp only[rH] at hg;refine uA ?_;refine aC [] (NA s.cq[i]) ?_;cases h2:qd s.cq[i];have e:gy s=false:=(by simp[gy,hg,h2]);refine sA ?_;refine iK ?_;skip;exact fA e;rw[h2,aN] at hg;cases i with
  | zero=>simp only[mD,aN] at hg;simp -implicitDefEqProofs only[go_sem,Int.lt_irrefl];refine iK ?_;skip;refine⟨oM,?_⟩;refine⟨0+1,?_,sL,c9 gE⟩;refine⟨oM,?_⟩;rw[hg];simp[mD,h1]
  | succ j=>have hj:j<s.cq.length:=oM;have e1:((j:Int)+1-1)=(j:Int):=oM;have e2:(0:Int)<(j:Int)+1:=oM;have e3:mD s.cq (j+1)=some s.cq[j].name:=(by simp[mD,hj]);rw[e3] at hg;simp only at hg;simp -implicitDefEqProofs only[go_sem,e1,e2,hj];refine⟨oM,?_⟩;cases h4:kn s.cq[j].name s.cq[j+1].name;rw[h4,aZ] at hg;have e:gy s=false:=(by simp[gy,hg]);have h5:Op.bytesLess s.cq[j].name s.cq[j+1].name=false:=h4;refine dB h5 ?_;skip;exact fA e;rw[h4,aN] at hg;have h5:Op.bytesLess s.cq[j].name s.cq[j+1].name=true:=h4;refine bS h5 ?_;refine iK ?_;skip;refine⟨oM,?_⟩;refine⟨j+1+1,?_,sL,bW gE ?_ ?_ rfl rfl⟩;rotate_left;exact sC;exact sC;refine⟨oM,?_⟩;rw[hg];simp[mD,h1]
 rw[al oM] at hg;simp only[rH] at hg;have e:gy s=decide ((s.cq.length:Int)≤7):=by simp[gy,hg];omega
 exact lJ h1 e
theorem xf(s:eV)(n:p8):CN 218 [av (gi s),sv n] (.ko [av (Bt ((symbol s n).getD zz)),bv (symbol s n).isSome]):=by
 refine gS 22 [.cell 4 116,.tmp 5] hm Tryz.func218 fun hl he cV=>?_;refine lZ hm s.cq.length (fun(i:Nat)=>symbol s n=(s.cq.drop i).find? (fun x=>decide (x.name=n))) (fun i=>⟨fk 22 .any [(1,sv n),(4,.bK 1 0),(9,lv (ij s.cq)),(10,iv s.cq.length),(11,iv i)],[some (.box (fy (gi s))),some (.box (fy (Bt zz)))]⟩) ?_ (c9 qR) ?_;simp[symbol];rintro i ⟨hi,hg⟩;rcases aa (i<s.cq.length) with h1|h1;rw[ai h1] at hg;rcases aa (s.cq[i].name=n) with h2|h2;have e:symbol s n=some s.cq[i]:=by rw[hg];simp only[iX,h2,decide_true]
 exact p9 h1 h2 e;have e:symbol s n=(s.cq.drop (i+1)).find? (fun x=>decide (x.name=n)):=by rw[hg];simp only[iX,h2,decide_false]
 refine uJ ?_;refine⟨oM,?_⟩;refine⟨i+1,?_,sL,c9 qR⟩;exact⟨oM,e⟩;have e:symbol s n=none:=by rw[hg,al oM];rfl
 refine dB h1 ?_;simp[e,zz,iG]
theorem PX(s:eV)(t:az):ir s t=match symbol s t.name with
 | none=>none
 | some x=>if decide (x.args.length=t.ar.length)&&jj s t.ar x.args then some x.sort else none:=by
 cases t;simp only[ir,az.name,az.ar];rfl
theorem Fc{s:eV}{ks:List az}{ns:List Int}{i:Nat}(h:i<ks.length)(h':i<ns.length):jj s (ks.drop i) (ns.drop i)=(decide (ir s ks[i]=some ns[i])&&jj s (ks.drop (i+1)) (ns.drop (i+1))):=by rw[ai h,ai h',jj]
theorem Eh(s:eV)(t:az)(ih:∀k∈t.ar,CN 193 [av (gi s),av (cT k)] (.ko [iv ((ir s k).getD 0),bv (ir s k).isSome])) :
 CN 193 [av (gi s),av (cT t)] (.ko [iv ((ir s t).getD 0),bv (ir s t).isSome]):=by
 have ht:=PX s t
 refine gS 58 [.tmp 4,.tmp 5] hm Tryz.func193 fun hl he cV=>?_
 refine aC [] (xf s t.name) ?_
 cases hx:symbol s t.name with
 | none=>rw[hx] at ht;simp only at ht;exact fA ht
 | some x=>
  rw[hx] at ht;simp only at ht;rcases aa (x.args.length=t.ar.length) with h1|h1
  ·simp only[h1,decide_true,aN] at ht;refine bS h1 ?_;refine lZ hm t.ar.length (fun(i:Nat)=>jj s t.ar x.args=jj s (t.ar.drop i) (x.args.drop i)) (fun i=>⟨fk 58 .any [(2,.bK 0 0),(6,.bK 2 0),(31,lv (ba t.ar)),(32,iv t.ar.length),(33,iv i)],[some (.box (fy (gi s))),some (.box (fy (cT t))),some (.box (fy (Bt x)))]⟩) ?_ (c9 sa) ?_;simp;rintro i ⟨hi,hg⟩;rcases aa (i<t.ar.length) with h2|h2
   ·have h3:i<x.args.length:=oM;rw[Fc h2 h3] at hg;refine uB ?_;have hc:=ih t.ar[i] (ah h2);refine aC [] hc ?_;cases hk:ir s t.ar[i] with
    | none=>rw[hk] at hg;have hz:jj s t.ar x.args=false:=(by rw[hg];simp);rw[hz] at ht;simp only[aw,if_false] at ht;exact fA ht
    | some n=>rw[hk] at hg;rcases aa (n=x.args[i]) with hn|hn;have hz:jj s t.ar x.args=jj s (t.ar.drop (i+1)) (x.args.drop (i+1)):=(by rw[hg,hn];simp);simp -implicitDefEqProofs only[go_sem,Option.isSome_some,Option.getD_some,hn,h3];refine⟨oM,?_⟩;refine⟨i+1,?_,sL,c9 sa⟩;exact⟨oM,hz⟩;have hz:jj s t.ar x.args=false:=(by rw[hg];simp[hn]);rw[hz] at ht;simp only[aw,if_false] at ht;exact p9 hn h3 ht
   rw[al oM,al oM] at hg;rw[hg] at ht;simp only[jj,if_true] at ht;exact lJ h2 ht
  simp only[h1,decide_false,aZ,aw,if_false] at ht;have h1':¬ (x.args.length:Int)=t.ar.length:=oM;exact lJ h1 ht
theorem Fp(s:eV):∀(t:az),CN 193 [av (gi s),av (cT t)] (.ko [iv ((ir s t).getD 0),bv (ir s t).isSome]):=
 az.ind fun n ks ih=>Eh s (.mk n ks) ih
theorem uf(s:eV)(t:az):CN 153 [av (gi s),av (cT t)] (.ko [iv ((gJ s t).getD 0),bv (gJ s t).isSome]):=by refine gS 19 [.tmp 4,.tmp 5] hm Tryz.func153 fun hl he cV=>?_;refine aC [] (rI s) ?_;cases h1:gy s;refine bI ?_;simp[gJ,h1];refine sA ?_;refine aC [] (pR t) ?_;cases h2:bR t;refine bI ?_;simp[gJ,h1,h2];refine sA ?_;refine aC [] (Fp s t) ?_;refine bI ?_;simp[gJ,h1,h2]
theorem zQ(s:eV)(t:az):CN 101 [av (gi s),av (cT t)] (bv (eQ s t)):=by
 refine gS 18 [.tmp 4] hm Tryz.func101 fun hl he cV=>?_;refine aC [] (uf s t) ?_;cases h:gJ s t with
 | none=>refine bI ?_;simp[eQ,h]
 | some n=>refine bI ?_;simp[eQ,h]
theorem Da(t:az):CN 183 [av (cT t)] (bv (isNone t)):=by refine gS 12 [.tmp 2] hm Tryz.func183 fun hl he cV=>?_;rcases aa (t.name=[]) with h|h;refine dB h ?_;simp[isNone,h];refine dB h ?_;simp[isNone,h]
theorem GK(e:lH)(s:eV):CN 132 [av (cEq e),av (gi s)] (bv (kG s e)):=by
 refine gS 32 [.tmp 4] hm Tryz.func132 fun hl he cV=>?_;refine aC [] (uf s e.A) ?_;refine aC [] (uf s e.B) ?_;cases h1:gJ s e.A with
 | none=>refine bI ?_;simp[kG,h1]
 | some n=>
  cases h2:gJ s e.B with
  | none=>refine bI ?_;simp[kG,h1,h2]
  | some m=>refine bI ?_;simp[kG,h1,h2]
theorem wX(a:bz):CN 97 [av (iA a)] (lv (ba (cZ a))):=by refine gS 13 [.tmp 2] hm Tryz.func97 fun hl he cV=>?_;rcases aa (a.kind=1) with h|h;refine dB h ?_;simp[cZ,h,iu,om,cT];refine dB h ?_;simp[cZ,h]
theorem Qb{xs:List az}{i:Nat}(h:i<xs.length)(hi:bR xs[i]=true)(out:List az):s8 (xs.drop i) out=s8 (xs.drop (i+1)) (eF out xs[i]):=by rw[ai h,s8,hi];rfl
end Go.Proofs.YtnhdminpjihbnaaGreat
