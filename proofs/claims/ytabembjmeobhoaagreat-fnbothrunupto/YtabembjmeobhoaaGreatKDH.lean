/-
  The walks of the small functions of the first chapters. A step towards the exact laws.
-/
import Derived.Test.YtabembjmeobhoaaGreatKDF
set_option linter.unusedVariables false
set_option linter.unusedSimpArgs false
open Bool renaming false_eq_true→ax,true_and→aB,false_and→aK,and_false→iU,and_self→l9
open Classical renaming em→aa
open List renaming drop_eq_getElem_cons→ae,getElem?_eq_getElem→ah,drop_of_length_le→ai,getElem_mem→ak,take_of_length_le→ao,take_add_one→bq,all_cons→b9,find?_cons→dG
open Option renaming isSome_some→aW,getD_some→aX,isSome_none→bE
namespace Go.Proofs.YtabembjmeobhoaaGreat
open Go.Eng Go.Mod
open Int renaming reduceEq→Z1,reduceLT→Z2,reduceLE→Z3,reduceToNat→Z4
set_option maxRecDepth 100000
set_option maxHeartbeats 400000
theorem fj(n lo hi:Int):C E.P 77 [iv n,iv lo,iv hi] [] (bz (bv (within n lo hi)) []):=by
 refine gS (nt:=15) (rs:=[.tmp 6]) hm Tryz.func77 fun hl he cq=>?_
 refine To (fun h=>?_) (fun h=>?_)<;>simp only[h,go_sem]
 ·refine an ?_
  refine sA ?_
  all_goals(simp[within,h];done)
 ·refine an ?_
  refine sA ?_
  all_goals(simp[within,h];done)
theorem qg(s:nz):C E.P 155 [sv s] [] (bz (bv (fC s)) []):=by
 refine gS (nt:=24) (rs:=[.tmp 2]) hm Tryz.func155 fun hl he cq=>?_
 have h:∃b,within s.length 1 2=b:=⟨_,rfl⟩
 obtain⟨b,h⟩:=h
 refine bw [] (fj s.length 1 2) ?_ ?_<;>simp -implicitDefEqProofs only[go_sem,h]
 cases b
 ·refine sA ?_
  refine an ?_
  refine sA ?_
  all_goals(simp[fC,h];done)
 ·refine sA ?_
  refine aL hm (fun(i:Nat)=> i≤s.length∧fC s=(s.drop i).all iT) (fun(i:Nat)=> ⟨dx 24 .any [(0,sv s),(9,iv s.length),(10,iv i)],[]⟩) (fun(i:Nat)=> s.length-i) (0) ?_ (ar [] ?_ ?_ rfl rfl) ?_
  rotate_left
  ·exact sC
  ·exact sC
  rotate_left
  ·simp[fC,h]
  ·rintro i ⟨hi,hg⟩
   rcases aa (i<s.length) with h1|h1
   ·rw[ae h1,b9] at hg
    refine uA ?_
    rw[m9 h1]
    rcases aa ((s[i].toNat:Int)<97) with h2|h2
    ·have h3:iT s[i]=false:=by simp[iT];omega
     rw[h3,aK] at hg
     refine uB ?_
     refine an ?_
     refine sA ?_
     all_goals(simp[hg];done)
    ·simp -implicitDefEqProofs only[go_sem,h2,h1]
     rw[m9 h1]
     rcases aa (122<(s[i].toNat:Int)) with h4|h4
     ·have h3:iT s[i]=false:=by simp[iT];omega
      rw[h3,aK] at hg
      refine uD ?_
      refine an ?_
      refine sA ?_
      all_goals(simp[hg];done)
     ·have h3:iT s[i]=true:=by simp[iT];omega
      rw[h3,aB] at hg
      refine uD ?_
      refine⟨by omega,?_⟩
      refine⟨i+1,?_,sL,ar [] ?_ ?_ rfl rfl⟩
      rotate_left
      ·exact sC
      ·exact sC
      exact⟨by omega,hg⟩
   ·rw[ai (by omega)] at hg
    refine uA ?_
    refine an ?_
    refine sA ?_
    all_goals(simp[hg];done)
theorem Ov{α:Type}{p:α→Bool}:∀{xs:List α}{i:Int},0≤i→(0≤gh p xs i↔xs.any p=true)
 | [],i,h=>by simp[gh]
 | x::xs,i,h=>by
   simp only[gh,List.any_cons,Bool.or_eq_true]
   split
   ·rename_i hx
    simp[hx,h]
   ·rename_i hx
    rw[Ov (by omega)]
    simp[hx]
theorem B9{α:Type}{p:α→Bool}{xs:List α}:decide (0≤idxOf p xs)=xs.any p:=by
 rw[Bool.eq_iff_iff,decide_eq_true_eq]
 exact Ov (by omega)
theorem Ek(f:Nat)(cap:List PV)(jS:tK 0 cap=true)(p:Int→Bool)(xs:List Int)(hf:∀x∈xs,C E.P f (iv x::cap) [] (bz (bv (p x)) [])) :
 C E.P 227 [lv (bF xs),.fn f cap] [] (bz (iv (idxOf p xs)) []):=by
 refine gS (nt:=19) (rs:=[.tmp 4]) hm Tryz.func227 fun hl he cq=>?_
 refine aL hm (fun(i:Nat)=> i≤xs.length∧idxOf p xs=gh p (xs.drop i) i) (fun(i:Nat)=> ⟨dx 19 .any [(0,lv (bF xs)),(1,.fn f cap),(7,iv xs.length),(8,iv i)],[]⟩) (fun(i:Nat)=> xs.length-i) (0) ?_ (ar [] ?_ ?_ rfl rfl) ?_
 rotate_left
 ·refine sA ?_
  all_goals(simp[aI, *];done)
 ·exact sC
 rotate_left
 ·simp[idxOf]
 ·rintro i ⟨hi,hg⟩
  rcases aa (i<xs.length) with h1|h1
  ·rw[ae h1,gh] at hg
   refine uA ?_
   have hc:=hf xs[i] (ak h1)
   refine bw cap hc ?_ ?_<;>simp -implicitDefEqProofs only[go_sem,jS]
   cases h2:p xs[i]
   ·rw[h2] at hg
    simp only[ax,if_false] at hg
    refine sA ?_
    refine⟨by omega,?_⟩
    refine⟨i+1,?_,sL,ar [] ?_ ?_ rfl rfl⟩
    rotate_left
    ·refine sA ?_
     all_goals(simp[aI, *];done)
    ·exact sC
    exact⟨by omega,hg⟩
   ·rw[h2] at hg
    simp only[if_true] at hg
    refine sA ?_
    refine an ?_
    refine sA ?_
    all_goals(simp[hg];done)
  ·rw[ai (by omega),gh] at hg
   refine uA ?_
   refine an ?_
   refine sA ?_
   all_goals(simp[hg];done)
theorem pO(f:Nat)(cap:List PV)(jS:tK 0 cap=true)(p:Term→Bool)(xs:List Term)(hf:∀x∈xs,C E.P f (av (cT x)::cap) [] (bz (bv (p x)) [])) :
 C E.P 96 [lv (aN xs),.fn f cap] [] (bz (iv (idxOf p xs)) []):=by
 refine gS (nt:=19) (rs:=[.tmp 4]) hm Tryz.func96 fun hl he cq=>?_
 refine aL hm (fun(i:Nat)=> i≤xs.length∧idxOf p xs=gh p (xs.drop i) i) (fun(i:Nat)=> ⟨dx 19 .any [(0,lv (aN xs)),(1,.fn f cap),(7,iv xs.length),(8,iv i)],[]⟩) (fun(i:Nat)=> xs.length-i) (0) ?_ (ar [] ?_ ?_ rfl rfl) ?_
 rotate_left
 ·refine sA ?_
  all_goals(simp[aI, *];done)
 ·exact sC
 rotate_left
 ·simp[idxOf]
 ·rintro i ⟨hi,hg⟩
  rcases aa (i<xs.length) with h1|h1
  ·rw[ae h1,gh] at hg
   refine uA ?_
   have hc:=hf xs[i] (ak h1)
   refine bw cap hc ?_ ?_<;>simp -implicitDefEqProofs only[go_sem,jS]
   cases h2:p xs[i]
   ·rw[h2] at hg
    simp only[ax,if_false] at hg
    refine sA ?_
    refine⟨by omega,?_⟩
    refine⟨i+1,?_,sL,ar [] ?_ ?_ rfl rfl⟩
    rotate_left
    ·refine sA ?_
     all_goals(simp[aI, *];done)
    ·exact sC
    exact⟨by omega,hg⟩
   ·rw[h2] at hg
    simp only[if_true] at hg
    refine sA ?_
    refine an ?_
    refine sA ?_
    all_goals(simp[hg];done)
  ·rw[ai (by omega),gh] at hg
   refine uA ?_
   refine an ?_
   refine sA ?_
   all_goals(simp[hg];done)
theorem EP(f:Nat)(cap:List PV)(jS:tK 0 cap=true)(p:iV→Bool)(xs:List iV)(hf:∀x∈xs,C E.P f (av (eL x)::cap) [] (bz (bv (p x)) [])) :
 C E.P 230 [lv (di xs),.fn f cap] [] (bz (iv (idxOf p xs)) []):=by
 refine gS (nt:=19) (rs:=[.tmp 4]) hm Tryz.func230 fun hl he cq=>?_
 refine aL hm (fun(i:Nat)=> i≤xs.length∧idxOf p xs=gh p (xs.drop i) i) (fun(i:Nat)=> ⟨dx 19 .any [(0,lv (di xs)),(1,.fn f cap),(7,iv xs.length),(8,iv i)],[]⟩) (fun(i:Nat)=> xs.length-i) (0) ?_ (ar [] ?_ ?_ rfl rfl) ?_
 rotate_left
 ·refine sA ?_
  all_goals(simp[aI, *];done)
 ·exact sC
 rotate_left
 ·simp[idxOf]
 ·rintro i ⟨hi,hg⟩
  rcases aa (i<xs.length) with h1|h1
  ·rw[ae h1,gh] at hg
   refine uA ?_
   have hc:=hf xs[i] (ak h1)
   refine bw cap hc ?_ ?_<;>simp -implicitDefEqProofs only[go_sem,jS]
   cases h2:p xs[i]
   ·rw[h2] at hg
    simp only[ax,if_false] at hg
    refine sA ?_
    refine⟨by omega,?_⟩
    refine⟨i+1,?_,sL,ar [] ?_ ?_ rfl rfl⟩
    rotate_left
    ·refine sA ?_
     all_goals(simp[aI, *];done)
    ·exact sC
    exact⟨by omega,hg⟩
   ·rw[h2] at hg
    simp only[if_true] at hg
    refine sA ?_
    refine an ?_
    refine sA ?_
    all_goals(simp[hg];done)
  ·rw[ai (by omega),gh] at hg
   refine uA ?_
   refine an ?_
   refine sA ?_
   all_goals(simp[hg];done)
theorem rH(f:Nat)(cap:List PV)(jS:tK 0 cap=true)(p:Int→Bool)(xs:List Int)(hf:∀x∈xs,C E.P f (iv x::cap) [] (bz (bv (p x)) [])) :
 C E.P 157 [lv (bF xs),.fn f cap] [] (bz (bv (xs.any p)) []):=by
 refine gS (nt:=9) (rs:=[.tmp 4]) hm Tryz.func157 fun hl he cq=>?_
 refine bw [] (Ek f cap jS p xs hf) ?_ ?_<;>simp -implicitDefEqProofs only[go_sem,jS]
 refine an ?_
 refine sA ?_
 all_goals(simp[B9];done)
theorem yS(f:Nat)(cap:List PV)(jS:tK 0 cap=true)(p:Term→Bool)(xs:List Term)(hf:∀x∈xs,C E.P f (av (cT x)::cap) [] (bz (bv (p x)) [])) :
 C E.P 86 [lv (aN xs),.fn f cap] [] (bz (bv (xs.any p)) []):=by
 refine gS (nt:=9) (rs:=[.tmp 4]) hm Tryz.func86 fun hl he cq=>?_
 refine bw [] (pO f cap jS p xs hf) ?_ ?_<;>simp -implicitDefEqProofs only[go_sem,jS]
 refine an ?_
 refine sA ?_
 all_goals(simp[B9];done)
theorem AF(f:Nat)(cap:List PV)(jS:tK 0 cap=true)(p:iV→Bool)(xs:List iV)(hf:∀x∈xs,C E.P f (av (eL x)::cap) [] (bz (bv (p x)) [])) :
 C E.P 169 [lv (di xs),.fn f cap] [] (bz (bv (xs.any p)) []):=by
 refine gS (nt:=9) (rs:=[.tmp 4]) hm Tryz.func169 fun hl he cq=>?_
 refine bw [] (EP f cap jS p xs hf) ?_ ?_<;>simp -implicitDefEqProofs only[go_sem,jS]
 refine an ?_
 refine sA ?_
 all_goals(simp[B9];done)
theorem ui(f:Nat)(xs ys:List Term)(hf:∀x∈xs,∀y,C E.P f [av (cT x),av (cT y)] [] (bz (bv (decide (x=y))) [])) :
 C E.P 82 [lv (aN xs),lv (aN ys),.fn f []] [] (bz (bv (decide (xs=ys))) []):=by
 refine gS (nt:=32) (rs:=[.tmp 6]) hm Tryz.func82 fun hl he cq=>?_
 rcases aa (xs.length=ys.length) with hl' | hl'
 ·simp -implicitDefEqProofs only[go_sem,hl']
  refine aL hm (fun(i:Nat)=> i≤ys.length∧decide (xs=ys)=decide (xs.drop i=ys.drop i)) (fun(i:Nat)=> ⟨dx 32 .any [(1,lv (aN ys)),(2,.fn f []),(15,lv (aN xs)),(16,iv ys.length),(17,iv i)],[]⟩) (fun(i:Nat)=> ys.length-i) (0) ?_ (ar [] ?_ ?_ rfl rfl) ?_
  rotate_left
  ·exact sC
  ·exact sC
  rotate_left
  ·simp
  ·rintro i ⟨hi,hg⟩
   rcases aa (i<ys.length) with h1|h1
   ·have h2:i<xs.length:=by omega
    rw[ae h1,ae h2] at hg
    refine uJ ?_
    have hc:=hf xs[i] (ak h2) ys[i]
    refine aC [] hc ?_
    rcases aa (xs[i]=ys[i]) with h3|h3
    ·refine uC ?_
     refine⟨by omega,?_⟩
     refine⟨i+1,?_,sL,ar [] ?_ ?_ rfl rfl⟩
     rotate_left
     ·exact sC
     ·exact sC
     exact⟨by omega,by rw[hg];simp only[h3,List.cons.injEq,true_and]⟩
    ·have hg:decide (xs=ys)=false:=by rw[hg];simp only[h3,List.cons.injEq,false_and,decide_false]
     refine uC ?_
     refine an ?_
     refine sA ?_
     all_goals(simp[hg];done)
   ·have hg:decide (xs=ys)=true:=by
     rw[hg,ai (by omega),ai (by omega)]
     rfl
    refine uA ?_
    refine an ?_
    refine sA ?_
    all_goals(simp[hg];done)
 ·have hn:¬xs=ys:=fun h=>hl' (by rw[h])
  simp -implicitDefEqProofs only[go_sem,hl']
  refine an ?_
  refine sA ?_
  all_goals(simp[hn];done)
theorem qi{a b:Term}:a=b↔a.name=b.name∧a.kids=b.kids:=by
 cases a;cases b;simp[Term.name,Term.kids]
theorem C0(a b:Term)(ih:∀k∈a.kids,∀y,C E.P 30 [av (cT k),av (cT y)] [] (bz (bv (decide (k=y))) [])):C E.P 30 [av (cT a),av (cT b)] [] (bz (bv (decide (a=b))) []):=by
 refine gS (nt:=17) (rs:=[.tmp 4]) hm Tryz.func30 fun hl he cq=>?_
 rcases aa (a.name=b.name) with h|h
 ·refine uF ?_
  refine aC [] (ui 30 a.kids b.kids ih) ?_
  refine an ?_
  refine sA ?_
  all_goals(simp[qi,h];done)
 ·refine uF ?_
  refine an ?_
  refine sA ?_
  all_goals(simp[qi,h];done)
theorem fG:∀a b,C E.P 30 [av (cT a),av (cT b)] [] (bz (bv (decide (a=b))) []):=
 Term.ind fun n ks ih b=>C0 _ b ih
theorem Ah(t u:Term):C E.P 180 [av (cT u),.gq [cT t] 0 0] [] (bz (bv (decide (t=u))) []):=by
 refine gS (nt:=7) (rs:=[.tmp 3]) hm Tryz.func180 fun hl he cq=>?_
 refine aC [] (fG t u) ?_
 refine an ?_
 exact sC
theorem dE(ts:List Term)(t:Term):C E.P 110 [lv (aN ts),av (cT t)] [] (bz (iv (bK ts t)) []):=by
 refine gS (nt:=8) (rs:=[.tmp 4]) hm Tryz.func110 fun hl he cq=>?_
 refine dH [] [0] (pO 180 [.gq [cT t] 0 0] rfl (fun u=>decide (t=u)) ts (fun u _=>Ah t u)) rfl ?_ ?_ ?_
 ·exact sV
 all_goals simp -implicitDefEqProofs only[go_sem]
 refine an ?_
 refine sA ?_
 all_goals(simp[bK];done)
theorem Cz(ts:List Term)(ih:∀k∈ts,C E.P 56 [av (cT k)] [] (bz (av (cT k)) [])):C E.P 117 [lv (aN ts)] [] (bz (lv (aN ts)) []):=by
 refine gS (nt:=19) (rs:=[.tmp 2]) hm Tryz.func117 fun hl he cq=>?_
 refine aL hm (fun(i:Nat)=> i≤ts.length) (fun(i:Nat)=> ⟨dx 19 .any [(3,.acc 0),(6,lv (aN ts)),(7,iv ts.length),(8,iv i)],[some (.acc 34 (aN (ts.take i)))]⟩) (fun(i:Nat)=> ts.length-i) (0) ?_ (ar [none] ?_ ?_ rfl rfl) ?_
 rotate_left
 ·exact sC
 ·exact sC
 rotate_left
 ·omega
 ·rintro i hi
  rcases aa (i<ts.length) with h1|h1
  ·refine uA ?_
   have hc:=ih ts[i] (ak h1)
   refine aC [] hc ?_
   refine⟨by omega,by omega,?_⟩
   refine⟨i+1,?_,sL,ar [some 2] ?_ ?_ rfl rfl⟩
   rotate_left
   ·exact sC
   ·refine sA ?_
    all_goals(exact pU h1)
   exact h1
  ·refine uA ?_
   refine an ?_
   refine sA ?_
   rw[ao (by omega)]
theorem NH(t:Term)(ih:∀k∈t.kids,C E.P 56 [av (cT k)] [] (bz (av (cT k)) [])):C E.P 56 [av (cT t)] [] (bz (av (cT t)) []):=by
 refine gS (nt:=9) (rs:=[.cell 2 34]) hm Tryz.func56 fun hl he cq=>?_
 refine aC [] (Cz t.kids ih) ?_
 refine iK ?_
 skip
 refine an ?_
 exact sC
theorem hQ:∀t,C E.P 56 [av (cT t)] [] (bz (av (cT t)) []):=
 Term.ind fun n ks ih=>NH _ ih
theorem Cf(t:Term)(ih:∀k∈t.kids,∀(d:Nat)(l:List Term),d≤4→bO k d=true→l.length≤999000+15*(4-d)→C E.P 95 [.acc 0,av (cT k)] [some (.acc 34 (aN l))] (bz (.acc 1) [some .dead,some (.acc 34 (aN (de l k)))]))(d:Nat)(l:List Term)
 (hd:d≤4) (hsh:bO t d=true) (hl1:l.length≤999000+15*(4-d)) :
 C E.P 95 [.acc 0,av (cT t)] [some (.acc 34 (aN l))] (bz (.acc 1) [some .dead,some (.acc 34 (aN (de l t)))]):=by
 cases d with
 | zero=>cases t;simp[bO] at hsh
 | succ d=>
 have hk:=og hsh
 have hle:=fun i=>y7 (l:=l) hsh (by omega) i
 refine gS (nt:=28) (rs:=[.tmp 4]) hm Tryz.func95 fun hl he cq=>?_
 refine aL hm (fun(i:Nat)=> i≤t.kids.length) (fun(i:Nat)=> ⟨dx 28 .any [(0,.acc 2),(3,.ptr 1 0),(8,lv (aN t.kids)),(9,iv t.kids.length),(10,iv i)],[some .dead,some (.box (cE (cT t))),some (.acc 34 (aN (a7 l (t.kids.take i))))]⟩) (fun(i:Nat)=> t.kids.length-i) (0) ?_ (ar [some 0,some 1,some 0] ?_ ?_ rfl rfl) ?_
 rotate_left
 ·exact sC
 ·refine sA ?_
  all_goals(simp only[a7])
 rotate_left
 ·omega
 ·rintro i hi
  rcases aa (i<t.kids.length) with h1|h1
  ·refine uA ?_
   have hc:=ih t.kids[i] (ak h1) d (a7 l (t.kids.take i)) (by omega) (n7 hk.2.2 _ (ak h1)) (by have:=hle i;omega)
   refine oC [] [2,4] hc ?_
   refine⟨by omega,?_⟩
   refine⟨i+1,?_,sL,ar [some 0,some 1,some 4] ?_ ?_ rfl rfl⟩
   rotate_left
   ·exact sC
   ·refine sA ?_
    all_goals(simp only[qP h1])
   exact h1
  ·have e:t.kids.take i=t.kids:=ao (by omega)
   have h2:=hle i
   rw[e] at h2
   simp -implicitDefEqProofs only[go_sem,h1,e]
   refine dH [] [2] (dE (a7 l t.kids) t) rfl ?_ ?_ ?_
   ·exact sV
   all_goals simp -implicitDefEqProofs only[go_sem]
   rcases aa (bK (a7 l t.kids) t<0) with hx|hx
   ·simp -implicitDefEqProofs only[go_sem,hx]
    refine aC [] (hQ t) ?_
    refine⟨by omega,?_⟩
    refine bZ [some 0,some 3] ?_ rfl rfl
    refine sA ?_
    rw[rq,if_pos hx,←kW,dC,fX]
    rfl
   ·simp -implicitDefEqProofs only[go_sem,hx]
    refine bZ [some 0,some 2] ?_ rfl rfl
    refine sA ?_
    rw[rq,if_neg hx]
theorem uu:∀(t:Term)(d:Nat)(l:List Term),d≤4→bO t d=true→l.length≤999000+15*(4-d)→C E.P 95 [.acc 0,av (cT t)] [some (.acc 34 (aN l))] (bz (.acc 1) [some .dead,some (.acc 34 (aN (de l t)))]):=
 Term.ind fun n ks ih d l h1 h2 h3=>Cf (.mk n ks) ih d l h1 h2 h3
theorem M1(t:Term)(bD:Nat):kV t bD=if fC t.name&&decide (t.kids.length≤2)&&decide (bD≤4) then 1+fw t.kids (bD+1) else 13:=by
 cases t;rfl
theorem GD{ts:List Term}{i:Nat}(h:i<ts.length)(bD:Nat):fw (ts.take (i+1)) bD=fw (ts.take i) bD+kV ts[i] bD:=by
 have e:ts.take (i+1)=ts.take i++[ts[i]]:=by rw[bq,ah h];rfl
 have key:∀(xs ys:List Term),fw (xs++ys) bD=fw xs bD+fw ys bD:=by
  intro xs ys
  induction xs with
  | nil=>simp[fw]
  | cons a xs ih=>simp only[List.cons_append,fw,ih];omega
 rw[e,key]
 simp[fw]
theorem CU(t:Term)(ih:∀k∈t.kids,∀bD:Nat,1≤bD→bD≤5→C E.P 166 [av (cT k),iv bD] [] (bz (iv (kV k bD)) []))(bD:Nat)(g1:1≤bD)(g5:bD≤5) :
 C E.P 166 [av (cT t),iv bD] [] (bz (iv (kV t bD)) []):=by
 have ht:=M1 t bD
 refine gS (nt:=37) (rs:=[.tmp 4]) hm Tryz.func166 fun hl he cq=>?_
 refine aC [] (qg t.name) ?_
 cases hn:fC t.name
 ·rw[hn] at ht
  refine sA ?_
  refine an ?_
  refine sA ?_
  all_goals(simp[ht];done)
 ·rw[hn] at ht
  rcases aa ((2:Int)<(t.kids.length:Int)) with h2|h2
  ·have h2':¬t.kids.length≤2:=by omega
   simp only[h2',decide_false,iU,aK,ax,if_false] at ht
   refine uB ?_
   refine an ?_
   refine sA ?_
   all_goals(simp[ht];done)
  ·have h2':t.kids.length≤2:=by omega
   rcases aa ((4:Int)<(bD:Int)) with h4|h4
   ·have h4':¬bD≤4:=by omega
    simp only[h4',decide_false,iU,ax,if_false] at ht
    simp -implicitDefEqProofs only[go_sem,h2,h4]
    refine an ?_
    refine sA ?_
    all_goals(simp[ht];done)
   ·have h4':bD≤4:=by omega
    simp only[h2',h4',decide_true,l9,if_true] at ht
    simp -implicitDefEqProofs only[go_sem,h2,h4]
    refine aL hm (fun(i:Nat)=> i≤t.kids.length) (fun(i:Nat)=> ⟨dx 37 .any [(1,iv bD),(5,iv ((1+fw (t.kids.take i) (bD+1):Nat):Int)),(23,lv (aN t.kids)),(24,iv t.kids.length),(25,iv i)],[]⟩) (fun(i:Nat)=> t.kids.length-i) (0) ?_ (ar [] ?_ ?_ rfl rfl) ?_
    rotate_left
    ·refine sA ?_
     all_goals(simp[fw])
    ·exact sC
    rotate_left
    ·omega
    ·rintro i hi
     have hb:=vl (t.kids.take i) (bD+1) (by omega) (by omega)
     have hp:(2:Nat) ^ (5-(bD+1))≤2 ^ 4:=Nat.pow_le_pow_right (by omega) (by omega)
     have hq:(t.kids.take i).length*(27*2 ^ (5-(bD+1))-14)≤2*(27*2 ^ (5-(bD+1))-14):=Nat.mul_le_mul_right _ (by simp;omega)
     rcases aa (i<t.kids.length) with h1|h1
     ·have hk:=DX t.kids[i] (bD+1) (by omega) (by omega)
      refine uA ?_
      refine⟨by omega,?_⟩
      have hc:=ih t.kids[i] (ak h1) (bD+1) (by omega) (by omega)
      refine aC [] hc ?_
      refine⟨by omega,by omega,?_⟩
      refine⟨i+1,?_,sL,ar [] ?_ ?_ rfl rfl⟩
      rotate_left
      ·refine sA ?_
       all_goals((simp only[GD h1];simp;omega))
      ·exact sC
      exact h1
     ·rw[←ao (l:=t.kids) (i:=i) (by omega)] at ht
      refine uA ?_
      refine an ?_
      refine sA ?_
      all_goals(simp[ht];done)
theorem EN:∀(t:Term)(bD:Nat),1≤bD→bD≤5→C E.P 166 [av (cT t),iv bD] [] (bz (iv (kV t bD)) []):=
 Term.ind fun n ks ih bD h1 h2=>CU (.mk n ks) ih bD h1 h2
theorem iz(t:Term):C E.P 94 [av (cT t)] [] (bz (bv (isTerm t)) []):=by
 refine gS (nt:=6) (rs:=[.tmp 2]) hm Tryz.func94 fun hl he cq=>?_
 have hc:=EN t 1 (by omega) (by omega)
 refine aC [] hc ?_
 refine an ?_
 refine sA ?_
 all_goals(simp[isTerm];omega)
theorem zy(n:Int):C E.P 156 [iv n] [] (bz (bv (isSort n)) []):=by
 refine gS (nt:=9) (rs:=[.tmp 2]) hm Tryz.func156 fun hl he cq=>?_
 rcases aa (n=0) with h|h
 ·refine uF ?_
  refine an ?_
  refine sA ?_
  all_goals(simp[isSort];done)
 ·refine uF ?_
  refine an ?_
  refine sA ?_
  all_goals(simp[isSort,h];done)
theorem Es(n:Int):C E.P 158 [iv n] [] (bz (bv (!isSort n)) []):=by
 refine gS (nt:=6) (rs:=[.tmp 2]) hm Tryz.func158 fun hl he cq=>?_
 refine aC [] (zy n) ?_
 refine an ?_
 exact sC
theorem IU(x:Sym):C E.P 83 [av (wK x)] [] (bz (bv (n9 x)) []):=by
 refine gS (nt:=23) (rs:=[.tmp 2]) hm Tryz.func83 fun hl he cq=>?_
 refine aC [] (qg x.name) ?_
 cases h1:fC x.name
 ·simp -implicitDefEqProofs only[go_sem]
  refine an ?_
  refine sA ?_
  all_goals(simp[n9,h1];done)
 ·rcases aa ((x.args.length:Int)≤2) with h2|h2
  ·have h2':x.args.length≤2:=by omega
   refine uB ?_
   refine aC [] (zy x.sort) ?_
   cases h3:isSort x.sort
   ·refine sA ?_
    refine an ?_
    refine sA ?_
    all_goals(simp[n9,h1,h2',h3];done)
   ·refine sA ?_
    refine aC [] (rH 158 [] rfl (fun n=>!isSort n) x.args (fun n _=>Es n)) ?_
    refine an ?_
    refine sA ?_
    all_goals(simp[n9,h1,h2',h3,List.all_eq_not_any_not];done)
  ·have h2':¬x.args.length≤2:=by omega
   refine uB ?_
   refine an ?_
   refine sA ?_
   all_goals(simp[n9,h1,h2'];done)
def j6(l:List Sym):Nat→Option nz
 | 0=>none
 | j+1=>(l[j]?).map (·.name)
theorem ou(s:dK):C E.P 32 [av (dV s)] [] (bz (bv (fI s)) []):=by
 refine gS (nt:=37) (rs:=[.tmp 2]) hm Tryz.func32 fun hl he cq=>?_
 refine aL hm (fun(i:Nat)=> i≤s.syms.length∧qZ none s.syms=qZ (j6 s.syms i) (s.syms.drop i)) (fun(i:Nat)=> ⟨dx 37 .any [(1,.ptr 0 0),(6,lv (dY s.syms)),(7,iv s.syms.length),(8,iv i)],[some (.box (cE (dV s)))]⟩) (fun(i:Nat)=> s.syms.length-i) (0) ?_ (ar [some 0] ?_ ?_ rfl rfl) ?_
 rotate_left
 ·exact sC
 ·exact sC
 rotate_left
 ·simp[j6]
 ·rintro i ⟨hi,hg⟩
  rcases aa (i<s.syms.length) with h1|h1
  ·rw[ae h1] at hg
   simp only[qZ] at hg
   refine uA ?_
   refine aC [] (IU s.syms[i]) ?_
   cases h2:n9 s.syms[i]
   ·have e:fI s=false:=by simp[fI,hg,h2]
    refine sA ?_
    refine iK ?_
    skip
    refine an ?_
    refine sA ?_
    all_goals(simp[e];done)
   ·rw[h2,aB] at hg
    cases i with
    | zero=>
      simp only[j6,aB] at hg
      simp -implicitDefEqProofs only[go_sem,Int.lt_irrefl]
      refine iK ?_
      skip
      refine⟨by omega,?_⟩
      refine⟨0+1,?_,sL,ar [some 0] ?_ ?_ rfl rfl⟩
      rotate_left
      ·refine sA ?_
       all_goals(simp[*];done)
      ·exact sC
      refine⟨by omega,?_⟩
      rw[hg]
      simp[j6,h1]
    | succ j=>
      have hj:j<s.syms.length:=by omega
      have e1:((j:Int)+1-1)=(j:Int):=by omega
      have e2:(0:Int)<(j:Int)+1:=by omega
      have e3:j6 s.syms (j+1)=some s.syms[j].name:=by simp[j6,hj]
      rw[e3] at hg
      simp only at hg
      simp -implicitDefEqProofs only[go_sem,e1,e2,hj]
      refine⟨by omega,?_⟩
      cases h4:gy s.syms[j].name s.syms[j+1].name
      ·rw[h4,aK] at hg
       have e:fI s=false:=by simp[fI,hg]
       have h5:Op.bytesLess s.syms[j].name s.syms[j+1].name=false:=h4
       refine uE ?_
       refine iK ?_
       skip
       refine an ?_
       refine sA ?_
       all_goals(simp[e];done)
      ·rw[h4,aB] at hg
       have h5:Op.bytesLess s.syms[j].name s.syms[j+1].name=true:=h4
       refine uE ?_
       refine iK ?_
       skip
       refine⟨by omega,?_⟩
       refine⟨j+1+1,?_,sL,ar [some 0] ?_ ?_ rfl rfl⟩
       rotate_left
       ·exact sC
       ·exact sC
       refine⟨by omega,?_⟩
       rw[hg]
       simp[j6,h1]
  ·rw[ai (by omega)] at hg
   simp only[qZ] at hg
   have e:fI s=decide ((s.syms.length:Int)≤7):=by simp[fI,hg];omega
   refine uA ?_
   refine an ?_
   refine sA ?_
   all_goals(simp[e];done)
theorem tw(s:dK)(n:nz):C E.P 73 [av (dV s),sv n] [] (bz (.gV [av (wK ((symbol s n).getD sX)),bv (symbol s n).isSome]) []):=by
 refine gS (nt:=22) (rs:=[.cell 4 126,.tmp 5]) hm Tryz.func73 fun hl he cq=>?_
 refine aL hm (fun(i:Nat)=> i≤s.syms.length∧symbol s n=(s.syms.drop i).find? (fun x=>decide (x.name=n))) (fun(i:Nat)=> ⟨dx 22 .any [(1,sv n),(4,.ptr 1 0),(9,lv (dY s.syms)),(10,iv s.syms.length),(11,iv i)],[some (.box (cE (dV s))),some (.box (cE (wK sX)))]⟩) (fun(i:Nat)=> s.syms.length-i) (0) ?_ (ar [some 0,some 1] ?_ ?_ rfl rfl) ?_
 rotate_left
 ·exact sC
 ·exact sC
 rotate_left
 ·simp[symbol]
 ·rintro i ⟨hi,hg⟩
  rcases aa (i<s.syms.length) with h1|h1
  ·rw[ae h1] at hg
   rcases aa (s.syms[i].name=n) with h2|h2
   ·have e:symbol s n=some s.syms[i]:=by rw[hg];simp only[dG,h2,decide_true]
    refine uJ ?_
    refine an ?_
    refine sA ?_
    all_goals(simp[e,h2];done)
   ·have e:symbol s n=(s.syms.drop (i+1)).find? (fun x=>decide (x.name=n)):=by rw[hg];simp only[dG,h2,decide_false]
    refine uJ ?_
    refine⟨by omega,?_⟩
    refine⟨i+1,?_,sL,ar [some 0,some 1] ?_ ?_ rfl rfl⟩
    rotate_left
    ·exact sC
    ·exact sC
    exact⟨by omega,e⟩
  ·have e:symbol s n=none:=by rw[hg,ai (by omega)];rfl
   refine uA ?_
   refine an ?_
   refine sA ?_
   all_goals(simp[e,sX,ue];done)
theorem Jx(s:dK)(t:Term):fR s t=match symbol s t.name with
 | none=>none
 | some x=>if decide (x.args.length=t.kids.length)&&gD s t.kids x.args then some x.sort else none:=by
 cases t;simp only[fR,Term.name,Term.kids];rfl
theorem A6{s:dK}{ks:List Term}{ns:List Int}{i:Nat}(h:i<ks.length)(h':i<ns.length):gD s (ks.drop i) (ns.drop i)=(decide (fR s ks[i]=some ns[i])&&gD s (ks.drop (i+1)) (ns.drop (i+1))):=by
 rw[ae h,ae h',gD]
theorem Ap(s:dK)(t:Term)(ih:∀k∈t.kids,C E.P 167 [av (dV s),av (cT k)] [] (bz (.gV [iv ((fR s k).getD 0),bv (fR s k).isSome]) [])) :
 C E.P 167 [av (dV s),av (cT t)] [] (bz (.gV [iv ((fR s t).getD 0),bv (fR s t).isSome]) []):=by
 have ht:=Jx s t
 refine gS (nt:=58) (rs:=[.tmp 4,.tmp 5]) hm Tryz.func167 fun hl he cq=>?_
 refine aC [] (tw s t.name) ?_
 cases hx:symbol s t.name with
 | none=>
   rw[hx] at ht
   simp only at ht
   simp -implicitDefEqProofs only[go_sem,bE]
   refine an ?_
   refine sA ?_
   all_goals(simp[ht];done)
 | some x=>
   rw[hx] at ht
   simp only at ht
   rcases aa (x.args.length=t.kids.length) with h1|h1
   ·simp only[h1,decide_true,aB] at ht
    simp -implicitDefEqProofs only[go_sem,aW,aX,h1]
    refine aL hm (fun(i:Nat)=> i≤t.kids.length∧gD s t.kids x.args=gD s (t.kids.drop i) (x.args.drop i)) (fun(i:Nat)=> ⟨dx 58 .any [(2,.ptr 0 0),(6,.ptr 2 0),(31,lv (aN t.kids)),(32,iv t.kids.length),(33,iv i)],[some (.box (cE (dV s))),some (.box (cE (cT t))),some (.box (cE (wK x)))]⟩) (fun(i:Nat)=> t.kids.length-i) (0) ?_ (ar [some 0,some 1,some 2] ?_ ?_ rfl rfl) ?_
    rotate_left
    ·exact sC
    ·exact sC
    rotate_left
    ·simp
    ·rintro i ⟨hi,hg⟩
     rcases aa (i<t.kids.length) with h2|h2
     ·have h3:i<x.args.length:=by omega
      rw[A6 h2 h3] at hg
      refine uB ?_
      have hc:=ih t.kids[i] (ak h2)
      refine aC [] hc ?_
      cases hk:fR s t.kids[i] with
      | none=>
        rw[hk] at hg
        have hz:gD s t.kids x.args=false:=by rw[hg];simp
        rw[hz] at ht
        simp only[ax,if_false] at ht
        simp -implicitDefEqProofs only[go_sem,bE]
        refine an ?_
        refine sA ?_
        all_goals(simp[ht];done)
      | some n=>
        rw[hk] at hg
        rcases aa (n=x.args[i]) with hn|hn
        ·have hz:gD s t.kids x.args=gD s (t.kids.drop (i+1)) (x.args.drop (i+1)):=by rw[hg,hn];simp
         simp -implicitDefEqProofs only[go_sem,aW,aX,hn,h3]
         refine⟨by omega,?_⟩
         refine⟨i+1,?_,sL,ar [some 0,some 1,some 2] ?_ ?_ rfl rfl⟩
         rotate_left
         ·exact sC
         ·exact sC
         exact⟨by omega,hz⟩
        ·have hz:gD s t.kids x.args=false:=by
          rw[hg]
          simp[hn]
         rw[hz] at ht
         simp only[ax,if_false] at ht
         simp -implicitDefEqProofs only[go_sem,aW,aX,hn,h3]
         refine an ?_
         refine sA ?_
         all_goals(simp[ht];done)
     ·rw[ai (by omega),ai (by omega)] at hg
      rw[hg] at ht
      simp only[gD,if_true] at ht
      refine uB ?_
      refine an ?_
      refine sA ?_
      all_goals(simp[ht];done)
   ·simp only[h1,decide_false,aK,ax,if_false] at ht
    have h1':¬ (x.args.length:Int)=t.kids.length:=by omega
    simp -implicitDefEqProofs only[go_sem,aW,aX,h1]
    refine an ?_
    refine sA ?_
    all_goals(simp[ht];done)
theorem AW(s:dK):∀(t:Term),C E.P 167 [av (dV s),av (cT t)] [] (bz (.gV [iv ((fR s t).getD 0),bv (fR s t).isSome]) []):=
 Term.ind fun n ks ih=>Ap s (.mk n ks) ih
theorem qY(s:dK)(t:Term):C E.P 97 [av (dV s),av (cT t)] [] (bz (.gV [iv ((fv s t).getD 0),bv (fv s t).isSome]) []):=by
 refine gS (nt:=19) (rs:=[.tmp 4,.tmp 5]) hm Tryz.func97 fun hl he cq=>?_
 refine aC [] (ou s) ?_
 cases h1:fI s
 ·refine sA ?_
  refine an ?_
  refine sA ?_
  all_goals(simp[fv,h1];done)
 ·refine sA ?_
  refine aC [] (iz t) ?_
  cases h2:isTerm t
  ·refine sA ?_
   refine an ?_
   refine sA ?_
   all_goals(simp[fv,h1,h2];done)
  ·refine sA ?_
   refine aC [] (AW s t) ?_
   refine an ?_
   refine sA ?_
   all_goals(simp[fv,h1,h2];done)
theorem wD(s:dK)(t:Term):C E.P 40 [av (dV s),av (cT t)] [] (bz (bv (dw s t)) []):=by
 refine gS (nt:=18) (rs:=[.tmp 4]) hm Tryz.func40 fun hl he cq=>?_
 refine aC [] (qY s t) ?_
 cases h:fv s t with
 | none=>
   simp -implicitDefEqProofs only[go_sem,bE]
   refine an ?_
   refine sA ?_
   all_goals(simp[dw,h];done)
 | some n=>
   refine uL ?_
   refine an ?_
   refine sA ?_
   all_goals(simp[dw,h];done)
theorem fH(t:Term):C E.P 151 [av (cT t)] [] (bz (bv (isNone t)) []):=by
 refine gS (nt:=12) (rs:=[.tmp 2]) hm Tryz.func151 fun hl he cq=>?_
 rcases aa (t.name=[]) with h|h
 ·refine uF ?_
  refine an ?_
  refine sA ?_
  all_goals(simp[isNone,h];done)
 ·refine uF ?_
  refine an ?_
  refine sA ?_
  all_goals(simp[isNone,h];done)
theorem uf(e:fO)(s:dK):C E.P 85 [av (Cl e),av (dV s)] [] (bz (bv (gr s e)) []):=by
 refine gS (nt:=32) (rs:=[.tmp 4]) hm Tryz.func85 fun hl he cq=>?_
 refine aC [] (qY s e.A) ?_
 refine aC [] (qY s e.B) ?_
 cases h1:fv s e.A with
 | none=>
   simp -implicitDefEqProofs only[go_sem,bE]
   refine an ?_
   refine sA ?_
   all_goals(simp[gr,h1];done)
 | some n=>
   cases h2:fv s e.B with
   | none=>
     simp -implicitDefEqProofs only[go_sem,aW,aX,bE]
     refine an ?_
     refine sA ?_
     all_goals(simp[gr,h1,h2];done)
   | some m=>
     refine uL ?_
     refine an ?_
     refine sA ?_
     all_goals(simp[gr,h1,h2];done)
theorem tt(a:Atom):C E.P 36 [av (fT a)] [] (bz (lv (aN (cf a))) []):=by
 refine gS (nt:=13) (rs:=[.tmp 2]) hm Tryz.func36 fun hl he cq=>?_
 rcases aa (a.kind=1) with h|h
 ·refine uF ?_
  refine an ?_
  refine sA ?_
  all_goals(simp[cf,h,dC,fX,cT];done)
 ·refine uF ?_
  refine an ?_
  refine sA ?_
  all_goals(simp[cf,h];done)
theorem LJ{xs:List Term}{i:Nat}(h:i<xs.length)(hi:isTerm xs[i]=false)(out:List Term):mg (xs.drop i) out=[]:=by
 rw[ae h,mg,hi];rfl
theorem Ci{xs:List Term}{i:Nat}(h:i<xs.length)(hi:isTerm xs[i]=true)(out:List Term):mg (xs.drop i) out=mg (xs.drop (i+1)) (de out xs[i]):=by
 rw[ae h,mg,hi];rfl
theorem Da(xs:List Term)(hx:xs.length≤1000):C E.P 37 [lv (aN xs)] [] (bz (lv (aN (iX xs))) []):=by
 refine gS (nt:=20) (rs:=[.tmp 2]) hm Tryz.func37 fun hl he cq=>?_
 refine cM hm (fun(i:Nat) (out:List Term)=> i≤xs.length∧iX xs=mg (xs.drop i) out∧out.length≤15*i) (fun(i:Nat) (out:List Term)=> ⟨dx 20 .any [(3,.acc 0),(6,lv (aN xs)),(7,iv xs.length),(8,iv i)],[some (.acc 34 (aN out))]⟩) (fun(i:Nat) (out:List Term)=> xs.length-i) (0) ([]) ?_ (ar [none] ?_ ?_ rfl rfl) ?_
 rotate_left
 ·exact sC
 ·exact sC
 rotate_left
 ·simp[iX]
 ·rintro i out ⟨hi,hg,ho⟩
  rcases aa (i<xs.length) with h1|h1
  ·refine uA ?_
   refine aC [] (iz xs[i]) ?_
   cases h2:isTerm xs[i]
   ·rw[LJ h1 h2] at hg
    refine sA ?_
    refine an ?_
    refine sA ?_
    all_goals(simp[hg,fX];done)
   ·rw[Ci h1 h2] at hg
    have hs:=gK h2
    have hle:=vT (l:=out) hs (by omega)
    refine sA ?_
    refine oC [] [0,2] (uu xs[i] 4 out (by omega) hs (by omega)) ?_
    refine⟨by omega,?_⟩
    refine⟨i+1,de out xs[i],?_,sL,ar [some 2] ?_ ?_ rfl rfl⟩
    rotate_left
    ·exact sC
    ·exact sC
    exact⟨by omega,hg,by omega⟩
  ·rw[ai (by omega),mg] at hg
   refine uA ?_
   refine an ?_
   refine sA ?_
   rw[hg]
theorem PE{es:List fO}{i:Nat}(h:i<es.length):qE (es.take (i+1))=qE (es.take i)++[es[i].A,es[i].B]:=by
 have e:es.take (i+1)=es.take i++[es[i]]:=by rw[bq,ah h];rfl
 rw[e]
 simp only[qE,List.flatMap_append,List.flatMap_cons,List.flatMap_nil,List.append_nil]
theorem Jq(es:List fO):(qE es).length=2*es.length:=by
 induction es with
 | nil=>rfl
 | cons e es ih=>simp[qE] at ih⊢;omega
theorem KC(es:List fO)(hes:es.length≤1000):C E.P 225 [lv (cO es)] [] (bz (lv (aN (qE es))) []):=by
 refine gS (nt:=21) (rs:=[.tmp 2]) hm Tryz.func225 fun hl he cq=>?_
 refine aL hm (fun(i:Nat)=> i≤es.length) (fun(i:Nat)=> ⟨dx 21 .any [(3,.acc 0),(6,lv (cO es)),(7,iv es.length),(8,iv i)],[some (.acc 34 (aN (qE (es.take i))))]⟩) (fun(i:Nat)=> es.length-i) (0) ?_ (ar [none] ?_ ?_ rfl rfl) ?_
 rotate_left
 ·exact sC
 ·refine sA ?_
  all_goals(rfl)
 rotate_left
 ·omega
 ·rintro i hi
  rcases aa (i<es.length) with h1|h1
  ·have hl2:(qE (es.take i)).length≤2000:=by rw[Jq];simp;omega
   refine uA ?_
   refine⟨by simp;omega,by omega,?_⟩
   refine⟨i+1,?_,sL,ar [some 2] ?_ ?_ rfl rfl⟩
   rotate_left
   ·exact sC
   ·refine sA ?_
    all_goals((rw[PE h1,←kW,dC,dC,fX];rfl))
   exact h1
  ·refine uA ?_
   refine an ?_
   refine sA ?_
   rw[ao (by omega)]
theorem Bp(s:dK)(es:List fO):C E.P 152 [av (dV s),lv (cO es)] [] (bz (bv (nE s es)) []):=by
 refine gS (nt:=31) (rs:=[.tmp 4]) hm Tryz.func152 fun hl he cq=>?_
 refine aC [] (ou s) ?_
 cases h1:fI s
 ·refine sA ?_
  refine an ?_
  refine sA ?_
  all_goals(simp[nE,h1];done)
 ·rcases aa ((12:Int)<(es.length:Int)) with h2|h2
  ·have h2':¬es.length≤12:=by omega
   refine uB ?_
   refine an ?_
   refine sA ?_
   all_goals(simp[nE,h1,h2'];done)
  ·have h2':es.length≤12:=by omega
   refine uB ?_
   refine aL hm (fun(i:Nat)=> i≤es.length∧es.all (gr s)=(es.drop i).all (gr s)) (fun(i:Nat)=> ⟨dx 31 .any [(1,lv (cO es)),(2,.ptr 0 0),(15,lv (cO es)),(16,iv es.length),(17,iv i)],[some (.box (cE (dV s)))]⟩) (fun(i:Nat)=> es.length-i) (0) ?_ (ar [some 0] ?_ ?_ rfl rfl) ?_
   rotate_left
   ·exact sC
   ·exact sC
   rotate_left
   ·simp
   ·rintro i ⟨hi,hg⟩
    rcases aa (i<es.length) with h3|h3
    ·rw[ae h3,b9] at hg
     refine uC ?_
     refine aC [] (uf es[i] s) ?_
     cases h4:gr s es[i]
     ·rw[h4,aK] at hg
      have e:nE s es=false:=by unfold nE;rw[hg];simp
      refine sA ?_
      refine an ?_
      refine sA ?_
      all_goals(simp[e];done)
     ·rw[h4,aB] at hg
      refine sA ?_
      refine⟨by omega,?_⟩
      refine⟨i+1,?_,sL,ar [some 0] ?_ ?_ rfl rfl⟩
      rotate_left
      ·exact sC
      ·exact sC
      exact⟨by omega,hg⟩
    ·rw[ai (by omega),List.all_nil] at hg
     have e:nE s es=decide (((iX (qE es)).length:Int)≤24):=by
      unfold nE
      rw[hg,h1,decide_eq_true h2']
      simp only[l9,aB]
      exact decide_eq_decide.2 (by omega)
     refine uC ?_
     refine aC [] (KC es (by omega)) ?_
     refine aC [] (Da (qE es) (by rw[Jq];omega)) ?_
     refine an ?_
     refine sA ?_
     all_goals(simp[e];done)
theorem Er(f:Nat)(xs ys:List jy)(hf:∀x∈xs,∀y,C E.P f [av (gQ x),av (gQ y)] [] (bz (bv (decide (x=y))) [])) :
 C E.P 81 [lv (eC xs),lv (eC ys),.fn f []] [] (bz (bv (decide (xs=ys))) []):=by
 refine gS (nt:=32) (rs:=[.tmp 6]) hm Tryz.func81 fun hl he cq=>?_
 rcases aa (xs.length=ys.length) with hl' | hl'
 ·simp -implicitDefEqProofs only[go_sem,hl']
  refine aL hm (fun(i:Nat)=> i≤ys.length∧decide (xs=ys)=decide (xs.drop i=ys.drop i)) (fun(i:Nat)=> ⟨dx 32 .any [(1,lv (eC ys)),(2,.fn f []),(15,lv (eC xs)),(16,iv ys.length),(17,iv i)],[]⟩) (fun(i:Nat)=> ys.length-i) (0) ?_ (ar [] ?_ ?_ rfl rfl) ?_
  rotate_left
  ·exact sC
  ·exact sC
  rotate_left
  ·simp
  ·rintro i ⟨hi,hg⟩
   rcases aa (i<ys.length) with h1|h1
   ·have h2:i<xs.length:=by omega
    rw[ae h1,ae h2] at hg
    refine uJ ?_
    have hc:=hf xs[i] (ak h2) ys[i]
    refine aC [] hc ?_
    rcases aa (xs[i]=ys[i]) with h3|h3
    ·refine uC ?_
     refine⟨by omega,?_⟩
     refine⟨i+1,?_,sL,ar [] ?_ ?_ rfl rfl⟩
     rotate_left
     ·exact sC
     ·exact sC
     exact⟨by omega,by rw[hg];simp only[h3,List.cons.injEq,true_and]⟩
    ·have hg:decide (xs=ys)=false:=by rw[hg];simp only[h3,List.cons.injEq,false_and,decide_false]
     refine uC ?_
     refine an ?_
     refine sA ?_
     all_goals(simp[hg];done)
   ·have hg:decide (xs=ys)=true:=by
     rw[hg,ai (by omega),ai (by omega)]
     rfl
    refine uA ?_
    refine an ?_
    refine sA ?_
    all_goals(simp[hg];done)
 ·have hn:¬xs=ys:=fun h=>hl' (by rw[h])
  simp -implicitDefEqProofs only[go_sem,hl']
  refine an ?_
  refine sA ?_
  all_goals(simp[hn];done)
theorem KO{a b:jy}:a=b↔a.iL=b.iL∧a.n=b.n∧a.t=b.t∧a.kids=b.kids:=by
 cases a;cases b;simp[jy.iL,jy.n,jy.t,jy.kids]
theorem Ea(a b:jy)(ih:∀k∈a.kids,∀y,C E.P 28 [av (gQ k),av (gQ y)] [] (bz (bv (decide (k=y))) [])):C E.P 28 [av (gQ a),av (gQ b)] [] (bz (bv (decide (a=b))) []):=by
 refine gS (nt:=31) (rs:=[.tmp 4]) hm Tryz.func28 fun hl he cq=>?_
 rcases aa (a.iL=b.iL) with h1|h1
 ·rcases aa (a.n=b.n) with h2|h2
  ·refine uJ ?_
   refine aC [] (fG a.t b.t) ?_
   rcases aa (a.t=b.t) with h3|h3
   ·refine uC ?_
    refine aC [] (Er 28 a.kids b.kids ih) ?_
    refine an ?_
    refine sA ?_
    all_goals(simp[KO,h1,h2,h3];done)
   ·refine uC ?_
    refine an ?_
    refine sA ?_
    all_goals(simp[KO,h3];done)
  ·refine uJ ?_
   refine an ?_
   refine sA ?_
   all_goals(simp[KO,h2];done)
 ·refine uA ?_
  refine an ?_
  refine sA ?_
  all_goals(simp[KO,h1];done)
theorem rI:∀a b,C E.P 28 [av (gQ a),av (gQ b)] [] (bz (bv (decide (a=b))) []):=
 jy.ind fun r n t ks ih b=>Ea (.mk r n t ks) b ih
end Go.Proofs.YtabembjmeobhoaaGreat
