/-
  The walks of the small functions of the first chapters. A step towards the exact laws.
-/
import Derived.Test.YtpidddienjoleaaGreatKCF
import Derived.Test.YtpidddienjoleaaGreatKCE
set_option linter.unusedVariables false
set_option linter.unusedSimpArgs false
namespace Go.Proofs.YtpidddienjoleaaGreat
open Go.Eng Go.Mod
open Int renaming reduceEq→Z1,reduceLT→Z2,reduceLE→Z3,reduceToNat→Z4
set_option maxRecDepth 100000
set_option maxHeartbeats 400000
theorem b6(n lo hi:Int):C E.P 70 [iv n,iv lo,iv hi] [] (aM (bv (within n lo hi)) []):=by
 refine gS (nt:=15) (rs:=[.tmp 6]) hm Tryz.func70 fun hl he hLB=>?_
 refine IB (fun h=>?_) (fun h=>?_)<;>simp only[h,go_sem]
 ·refine ab ?_
  refine sA ?_
  all_goals(simp[within,h];done)
 ·refine ab ?_
  refine sA ?_
  all_goals(simp[within,h];done)
theorem lG(s:gL):C E.P 150 [sv s] [] (aM (bv (cd s)) []):=by
 refine gS (nt:=24) (rs:=[.tmp 2]) hm Tryz.func150 fun hl he hLB=>?_
 have h:∃b,within s.length 1 2=b:=⟨_,rfl⟩
 obtain⟨b,h⟩:=h
 refine ck [] (b6 s.length 1 2) ?_ ?_<;>simp -implicitDefEqProofs only[go_sem,h]
 cases b
 ·refine sA ?_
  refine ab ?_
  refine sA ?_
  all_goals(simp[cd,h];done)
 ·refine sA ?_
  refine al hm (fun(i:Nat)=> i≤s.length∧cd s=(s.drop i).all c7) (fun(i:Nat)=> ⟨bW 24 .any [(0,sv s),(9,iv s.length),(10,iv i)],[]⟩) (fun(i:Nat)=> s.length-i) (0) ?_ (ah [] ?_ ?_ rfl rfl) ?_
  rotate_left
  ·exact sC
  ·exact sC
  rotate_left
  ·simp[cd,h]
  ·rintro i ⟨hi,hg⟩
   rcases Classical.em (i<s.length) with h1|h1
   ·rw[List.drop_eq_getElem_cons h1,List.all_cons] at hg
    simp -implicitDefEqProofs only[go_sem,h1]
    rw[r3 h1]
    rcases Classical.em ((s[i].toNat:Int)<97) with h2|h2
    ·have h3:c7 s[i]=false:=by simp[c7];omega
     rw[h3,Bool.false_and] at hg
     simp -implicitDefEqProofs only[go_sem,h2]
     refine ab ?_
     refine sA ?_
     all_goals(simp[hg];done)
    ·simp -implicitDefEqProofs only[go_sem,h2,h1]
     rw[r3 h1]
     rcases Classical.em (122<(s[i].toNat:Int)) with h4|h4
     ·have h3:c7 s[i]=false:=by simp[c7];omega
      rw[h3,Bool.false_and] at hg
      simp -implicitDefEqProofs only[go_sem,h4]
      refine ab ?_
      refine sA ?_
      all_goals(simp[hg];done)
     ·have h3:c7 s[i]=true:=by simp[c7];omega
      rw[h3,Bool.true_and] at hg
      simp -implicitDefEqProofs only[go_sem,h4]
      refine⟨by omega,?_⟩
      refine⟨i+1,?_,?_,ah [] ?_ ?_ rfl rfl⟩
      rotate_left
      ·show _ < _
       omega
      ·exact sC
      ·exact sC
      exact⟨by omega,hg⟩
   ·rw[List.drop_of_length_le (by omega)] at hg
    simp -implicitDefEqProofs only[go_sem,h1]
    refine ab ?_
    refine sA ?_
    all_goals(simp[hg];done)
end Go.Proofs.YtpidddienjoleaaGreat
namespace Go.Proofs.YtpidddienjoleaaGreat
open Go.Eng Go.Mod
open Int renaming reduceEq→Z1,reduceLT→Z2,reduceLE→Z3,reduceToNat→Z4
set_option maxRecDepth 100000
set_option maxHeartbeats 400000
theorem D5{α:Type}{p:α→Bool}:∀{xs:List α}{i:Int},0≤i→(0≤bZ p xs i↔xs.any p=true)
 | [],i,h=>by simp[bZ]
 | x::xs,i,h=>by
   simp only[bZ,List.any_cons,Bool.or_eq_true]
   split
   ·rename_i hx
    simp[hx,h]
   ·rename_i hx
    rw[D5 (by omega)]
    simp[hx]
theorem tl{α:Type}{p:α→Bool}{xs:List α}:decide (0≤idxOf p xs)=xs.any p:=by
 rw[Bool.eq_iff_iff,decide_eq_true_eq]
 exact D5 (by omega)
theorem wc(f:Nat)(cap:List PV)(hcap:lU 0 cap=true)(p:Int→Bool)(xs:List Int)(hf:∀x∈xs,C E.P f (iv x::cap) [] (aM (bv (p x)) [])) :
 C E.P 211 [lv (aO xs),.fn f cap] [] (aM (iv (idxOf p xs)) []):=by
 refine gS (nt:=19) (rs:=[.tmp 4]) hm Tryz.func211 fun hl he hLB=>?_
 refine al hm (fun(i:Nat)=> i≤xs.length∧idxOf p xs=bZ p (xs.drop i) i) (fun(i:Nat)=> ⟨bW 19 .any [(0,lv (aO xs)),(1,.fn f cap),(7,iv xs.length),(8,iv i)],[]⟩) (fun(i:Nat)=> xs.length-i) (0) ?_ (ah [] ?_ ?_ rfl rfl) ?_
 rotate_left
 ·refine sA ?_
  all_goals(simp[aa, *];done)
 ·exact sC
 rotate_left
 ·simp[idxOf]
 ·rintro i ⟨hi,hg⟩
  rcases Classical.em (i<xs.length) with h1|h1
  ·rw[List.drop_eq_getElem_cons h1,bZ] at hg
   simp -implicitDefEqProofs only[go_sem,h1]
   have hc:=hf xs[i] (List.getElem_mem h1)
   refine ck cap hc ?_ ?_<;>simp -implicitDefEqProofs only[go_sem,hcap]
   cases h2:p xs[i]
   ·rw[h2] at hg
    simp only[Bool.false_eq_true,if_false] at hg
    refine sA ?_
    refine⟨by omega,?_⟩
    refine⟨i+1,?_,?_,ah [] ?_ ?_ rfl rfl⟩
    rotate_left
    ·show _ < _
     omega
    ·refine sA ?_
     all_goals(simp[aa, *];done)
    ·exact sC
    exact⟨by omega,hg⟩
   ·rw[h2] at hg
    simp only[if_true] at hg
    refine sA ?_
    refine ab ?_
    refine sA ?_
    all_goals(simp[hg];done)
  ·rw[List.drop_of_length_le (by omega),bZ] at hg
   simp -implicitDefEqProofs only[go_sem,h1]
   refine ab ?_
   refine sA ?_
   all_goals(simp[hg];done)
theorem iz(f:Nat)(cap:List PV)(hcap:lU 0 cap=true)(p:Term→Bool)(xs:List Term)(hf:∀x∈xs,C E.P f (av (cT x)::cap) [] (aM (bv (p x)) [])) :
 C E.P 154 [lv (ai xs),.fn f cap] [] (aM (iv (idxOf p xs)) []):=by
 refine gS (nt:=19) (rs:=[.tmp 4]) hm Tryz.func154 fun hl he hLB=>?_
 refine al hm (fun(i:Nat)=> i≤xs.length∧idxOf p xs=bZ p (xs.drop i) i) (fun(i:Nat)=> ⟨bW 19 .any [(0,lv (ai xs)),(1,.fn f cap),(7,iv xs.length),(8,iv i)],[]⟩) (fun(i:Nat)=> xs.length-i) (0) ?_ (ah [] ?_ ?_ rfl rfl) ?_
 rotate_left
 ·refine sA ?_
  all_goals(simp[aa, *];done)
 ·exact sC
 rotate_left
 ·simp[idxOf]
 ·rintro i ⟨hi,hg⟩
  rcases Classical.em (i<xs.length) with h1|h1
  ·rw[List.drop_eq_getElem_cons h1,bZ] at hg
   simp -implicitDefEqProofs only[go_sem,h1]
   have hc:=hf xs[i] (List.getElem_mem h1)
   refine ck cap hc ?_ ?_<;>simp -implicitDefEqProofs only[go_sem,hcap]
   cases h2:p xs[i]
   ·rw[h2] at hg
    simp only[Bool.false_eq_true,if_false] at hg
    refine sA ?_
    refine⟨by omega,?_⟩
    refine⟨i+1,?_,?_,ah [] ?_ ?_ rfl rfl⟩
    rotate_left
    ·show _ < _
     omega
    ·refine sA ?_
     all_goals(simp[aa, *];done)
    ·exact sC
    exact⟨by omega,hg⟩
   ·rw[h2] at hg
    simp only[if_true] at hg
    refine sA ?_
    refine ab ?_
    refine sA ?_
    all_goals(simp[hg];done)
  ·rw[List.drop_of_length_le (by omega),bZ] at hg
   simp -implicitDefEqProofs only[go_sem,h1]
   refine ab ?_
   refine sA ?_
   all_goals(simp[hg];done)
theorem vS(f:Nat)(cap:List PV)(hcap:lU 0 cap=true)(p:fq→Bool)(xs:List fq)(hf:∀x∈xs,C E.P f (av (dZ x)::cap) [] (aM (bv (p x)) [])) :
 C E.P 186 [lv (bE xs),.fn f cap] [] (aM (iv (idxOf p xs)) []):=by
 refine gS (nt:=19) (rs:=[.tmp 4]) hm Tryz.func186 fun hl he hLB=>?_
 refine al hm (fun(i:Nat)=> i≤xs.length∧idxOf p xs=bZ p (xs.drop i) i) (fun(i:Nat)=> ⟨bW 19 .any [(0,lv (bE xs)),(1,.fn f cap),(7,iv xs.length),(8,iv i)],[]⟩) (fun(i:Nat)=> xs.length-i) (0) ?_ (ah [] ?_ ?_ rfl rfl) ?_
 rotate_left
 ·refine sA ?_
  all_goals(simp[aa, *];done)
 ·exact sC
 rotate_left
 ·simp[idxOf]
 ·rintro i ⟨hi,hg⟩
  rcases Classical.em (i<xs.length) with h1|h1
  ·rw[List.drop_eq_getElem_cons h1,bZ] at hg
   simp -implicitDefEqProofs only[go_sem,h1]
   have hc:=hf xs[i] (List.getElem_mem h1)
   refine ck cap hc ?_ ?_<;>simp -implicitDefEqProofs only[go_sem,hcap]
   cases h2:p xs[i]
   ·rw[h2] at hg
    simp only[Bool.false_eq_true,if_false] at hg
    refine sA ?_
    refine⟨by omega,?_⟩
    refine⟨i+1,?_,?_,ah [] ?_ ?_ rfl rfl⟩
    rotate_left
    ·show _ < _
     omega
    ·refine sA ?_
     all_goals(simp[aa, *];done)
    ·exact sC
    exact⟨by omega,hg⟩
   ·rw[h2] at hg
    simp only[if_true] at hg
    refine sA ?_
    refine ab ?_
    refine sA ?_
    all_goals(simp[hg];done)
  ·rw[List.drop_of_length_le (by omega),bZ] at hg
   simp -implicitDefEqProofs only[go_sem,h1]
   refine ab ?_
   refine sA ?_
   all_goals(simp[hg];done)
theorem jY(f:Nat)(cap:List PV)(hcap:lU 0 cap=true)(p:Int→Bool)(xs:List Int)(hf:∀x∈xs,C E.P f (iv x::cap) [] (aM (bv (p x)) [])) :
 C E.P 152 [lv (aO xs),.fn f cap] [] (aM (bv (xs.any p)) []):=by
 refine gS (nt:=9) (rs:=[.tmp 4]) hm Tryz.func152 fun hl he hLB=>?_
 refine ck [] (wc f cap hcap p xs hf) ?_ ?_<;>simp -implicitDefEqProofs only[go_sem,hcap]
 refine ab ?_
 refine sA ?_
 all_goals(simp[tl];done)
theorem pY(f:Nat)(cap:List PV)(hcap:lU 0 cap=true)(p:Term→Bool)(xs:List Term)(hf:∀x∈xs,C E.P f (av (cT x)::cap) [] (aM (bv (p x)) [])) :
 C E.P 81 [lv (ai xs),.fn f cap] [] (aM (bv (xs.any p)) []):=by
 refine gS (nt:=9) (rs:=[.tmp 4]) hm Tryz.func81 fun hl he hLB=>?_
 refine ck [] (iz f cap hcap p xs hf) ?_ ?_<;>simp -implicitDefEqProofs only[go_sem,hcap]
 refine ab ?_
 refine sA ?_
 all_goals(simp[tl];done)
theorem qT(f:Nat)(cap:List PV)(hcap:lU 0 cap=true)(p:fq→Bool)(xs:List fq)(hf:∀x∈xs,C E.P f (av (dZ x)::cap) [] (aM (bv (p x)) [])) :
 C E.P 128 [lv (bE xs),.fn f cap] [] (aM (bv (xs.any p)) []):=by
 refine gS (nt:=9) (rs:=[.tmp 4]) hm Tryz.func128 fun hl he hLB=>?_
 refine ck [] (vS f cap hcap p xs hf) ?_ ?_<;>simp -implicitDefEqProofs only[go_sem,hcap]
 refine ab ?_
 refine sA ?_
 all_goals(simp[tl];done)
theorem mz(f:Nat)(xs ys:List Term)(hf:∀x∈xs,∀y,C E.P f [av (cT x),av (cT y)] [] (aM (bv (decide (x=y))) [])) :
 C E.P 47 [lv (ai xs),lv (ai ys),.fn f []] [] (aM (bv (decide (xs=ys))) []):=by
 refine gS (nt:=32) (rs:=[.tmp 6]) hm Tryz.func47 fun hl he hLB=>?_
 rcases Classical.em (xs.length=ys.length) with hl' | hl'
 ·simp -implicitDefEqProofs only[go_sem,hl']
  refine al hm (fun(i:Nat)=> i≤ys.length∧decide (xs=ys)=decide (xs.drop i=ys.drop i)) (fun(i:Nat)=> ⟨bW 32 .any [(1,lv (ai ys)),(2,.fn f []),(15,lv (ai xs)),(16,iv ys.length),(17,iv i)],[]⟩) (fun(i:Nat)=> ys.length-i) (0) ?_ (ah [] ?_ ?_ rfl rfl) ?_
  rotate_left
  ·exact sC
  ·exact sC
  rotate_left
  ·simp
  ·rintro i ⟨hi,hg⟩
   rcases Classical.em (i<ys.length) with h1|h1
   ·have h2:i<xs.length:=by omega
    rw[List.drop_eq_getElem_cons h1,List.drop_eq_getElem_cons h2] at hg
    simp -implicitDefEqProofs only[go_sem,h1,h2]
    have hc:=hf xs[i] (List.getElem_mem h2) ys[i]
    refine aC [] hc ?_
    rcases Classical.em (xs[i]=ys[i]) with h3|h3
    ·simp -implicitDefEqProofs only[go_sem,h3]
     refine⟨by omega,?_⟩
     refine⟨i+1,?_,?_,ah [] ?_ ?_ rfl rfl⟩
     rotate_left
     ·show _ < _
      omega
     ·exact sC
     ·exact sC
     exact⟨by omega,by rw[hg];simp only[h3,List.cons.injEq,true_and]⟩
    ·have hg:decide (xs=ys)=false:=by rw[hg];simp only[h3,List.cons.injEq,false_and,decide_false]
     simp -implicitDefEqProofs only[go_sem,h3]
     refine ab ?_
     refine sA ?_
     all_goals(simp[hg];done)
   ·have hg:decide (xs=ys)=true:=by
     rw[hg,List.drop_of_length_le (by omega),List.drop_of_length_le (by omega)]
     rfl
    simp -implicitDefEqProofs only[go_sem,h1]
    refine ab ?_
    refine sA ?_
    all_goals(simp[hg];done)
 ·have hn:¬xs=ys:=fun h=>hl' (by rw[h])
  simp -implicitDefEqProofs only[go_sem,hl']
  refine ab ?_
  refine sA ?_
  all_goals(simp[hn];done)
theorem iR{a b:Term}:a=b↔a.name=b.name∧a.kids=b.kids:=by
 cases a;cases b;simp[Term.name,Term.kids]
theorem uf(a b:Term)(ih:∀k∈a.kids,∀y,C E.P 15 [av (cT k),av (cT y)] [] (aM (bv (decide (k=y))) [])):C E.P 15 [av (cT a),av (cT b)] [] (aM (bv (decide (a=b))) []):=by
 refine gS (nt:=17) (rs:=[.tmp 4]) hm Tryz.func15 fun hl he hLB=>?_
 rcases Classical.em (a.name=b.name) with h|h
 ·simp -implicitDefEqProofs only[go_sem,h]
  refine aC [] (mz 15 a.kids b.kids ih) ?_
  refine ab ?_
  refine sA ?_
  all_goals(simp[iR,h];done)
 ·simp -implicitDefEqProofs only[go_sem,h]
  refine ab ?_
  refine sA ?_
  all_goals(simp[iR,h];done)
theorem dK:∀a b,C E.P 15 [av (cT a),av (cT b)] [] (aM (bv (decide (a=b))) []):=
 Term.ind fun n ks ih b=>uf _ b ih
theorem rk(t u:Term):C E.P 182 [av (cT u),.cf [cT t] 0 0] [] (aM (bv (decide (t=u))) []):=by
 refine gS (nt:=7) (rs:=[.tmp 3]) hm Tryz.func182 fun hl he hLB=>?_
 refine aC [] (dK t u) ?_
 refine ab ?_
 exact sC
theorem bz(ts:List Term)(t:Term):C E.P 121 [lv (ai ts),av (cT t)] [] (aM (iv (a8 ts t)) []):=by
 refine gS (nt:=8) (rs:=[.tmp 4]) hm Tryz.func121 fun hl he hLB=>?_
 refine bG [] [0] (iz 182 [.cf [cT t] 0 0] rfl (fun u=>decide (t=u)) ts (fun u _=>rk t u)) rfl ?_ ?_ ?_
 ·exact sV
 all_goals simp -implicitDefEqProofs only[go_sem]
 refine ab ?_
 refine sA ?_
 all_goals(simp[a8];done)
theorem uD(ts:List Term)(ih:∀k∈ts,C E.P 102 [av (cT k)] [] (aM (av (cT k)) [])):C E.P 109 [lv (ai ts)] [] (aM (lv (ai ts)) []):=by
 refine gS (nt:=19) (rs:=[.tmp 2]) hm Tryz.func109 fun hl he hLB=>?_
 refine al hm (fun(i:Nat)=> i≤ts.length) (fun(i:Nat)=> ⟨bW 19 .any [(3,.acc 0),(6,lv (ai ts)),(7,iv ts.length),(8,iv i)],[some (.acc 35 (ai (ts.take i)))]⟩) (fun(i:Nat)=> ts.length-i) (0) ?_ (ah [none] ?_ ?_ rfl rfl) ?_
 rotate_left
 ·exact sC
 ·exact sC
 rotate_left
 ·omega
 ·rintro i hi
  rcases Classical.em (i<ts.length) with h1|h1
  ·simp -implicitDefEqProofs only[go_sem,h1]
   have hc:=ih ts[i] (List.getElem_mem h1)
   refine aC [] hc ?_
   refine⟨by omega,by omega,?_⟩
   refine⟨i+1,?_,?_,ah [some 2] ?_ ?_ rfl rfl⟩
   rotate_left
   ·show _ < _
    omega
   ·exact sC
   ·refine sA ?_
    all_goals(exact nx h1)
   exact h1
  ·simp -implicitDefEqProofs only[go_sem,h1]
   refine ab ?_
   refine sA ?_
   rw[List.take_of_length_le (by omega)]
theorem Ef(t:Term)(ih:∀k∈t.kids,C E.P 102 [av (cT k)] [] (aM (av (cT k)) [])):C E.P 102 [av (cT t)] [] (aM (av (cT t)) []):=by
 refine gS (nt:=9) (rs:=[.cell 2 35]) hm Tryz.func102 fun hl he hLB=>?_
 refine aC [] (uD t.kids ih) ?_
 refine iK ?_
 skip
 refine ab ?_
 exact sC
theorem dJ:∀t,C E.P 102 [av (cT t)] [] (aM (av (cT t)) []):=
 Term.ind fun n ks ih=>Ef _ ih
theorem tn(t:Term)(ih:∀k∈t.kids,∀(d:Nat)(l:List Term),d≤4→aE k d=true→l.length≤999000+15*(4-d)→C E.P 155 [.acc 0,av (cT k)] [some (.acc 35 (ai l))] (aM (.acc 1) [some .dead,some (.acc 35 (ai (aW l k)))]))(d:Nat)(l:List Term)
 (hd:d≤4) (hsh:aE t d=true) (hl1:l.length≤999000+15*(4-d)) :
 C E.P 155 [.acc 0,av (cT t)] [some (.acc 35 (ai l))] (aM (.acc 1) [some .dead,some (.acc 35 (ai (aW l t)))]):=by
 cases d with
 | zero=>cases t;simp[aE] at hsh
 | succ d=>
 have hk:=gH hsh
 have hle:=fun i=>qo (l:=l) hsh (by omega) i
 refine gS (nt:=28) (rs:=[.tmp 4]) hm Tryz.func155 fun hl he hLB=>?_
 refine al hm (fun(i:Nat)=> i≤t.kids.length) (fun(i:Nat)=> ⟨bW 28 .any [(0,.acc 2),(3,.ptr 1 0),(8,lv (ai t.kids)),(9,iv t.kids.length),(10,iv i)],[some .dead,some (.box (bn (cT t))),some (.acc 35 (ai (ak l (t.kids.take i))))]⟩) (fun(i:Nat)=> t.kids.length-i) (0) ?_ (ah [some 0,some 1,some 0] ?_ ?_ rfl rfl) ?_
 rotate_left
 ·exact sC
 ·refine sA ?_
  all_goals(simp only[ak])
 rotate_left
 ·omega
 ·rintro i hi
  rcases Classical.em (i<t.kids.length) with h1|h1
  ·simp -implicitDefEqProofs only[go_sem,h1]
   have hc:=ih t.kids[i] (List.getElem_mem h1) d (ak l (t.kids.take i)) (by omega) (gy hk.2.2 _ (List.getElem_mem h1)) (by have:=hle i;omega)
   refine oC [] [2,4] hc ?_
   refine⟨by omega,?_⟩
   refine⟨i+1,?_,?_,ah [some 0,some 1,some 4] ?_ ?_ rfl rfl⟩
   rotate_left
   ·show _ < _
    omega
   ·exact sC
   ·refine sA ?_
    all_goals(simp only[jt h1])
   exact h1
  ·have e:t.kids.take i=t.kids:=List.take_of_length_le (by omega)
   have h2:=hle i
   rw[e] at h2
   simp -implicitDefEqProofs only[go_sem,h1,e]
   refine bG [] [2] (bz (ak l t.kids) t) rfl ?_ ?_ ?_
   ·exact sV
   all_goals simp -implicitDefEqProofs only[go_sem]
   rcases Classical.em (a8 (ak l t.kids) t<0) with hx|hx
   ·simp -implicitDefEqProofs only[go_sem,hx]
    refine aC [] (dJ t) ?_
    refine⟨by omega,?_⟩
    refine aF [some 0,some 3] ?_ rfl rfl
    refine sA ?_
    rw[jR,if_pos hx,←db,ba,cV]
    rfl
   ·simp -implicitDefEqProofs only[go_sem,hx]
    refine aF [some 0,some 2] ?_ rfl rfl
    refine sA ?_
    rw[jR,if_neg hx]
theorem mu:∀(t:Term)(d:Nat)(l:List Term),d≤4→aE t d=true→l.length≤999000+15*(4-d)→C E.P 155 [.acc 0,av (cT t)] [some (.acc 35 (ai l))] (aM (.acc 1) [some .dead,some (.acc 35 (ai (aW l t)))]):=
 Term.ind fun n ks ih d l h1 h2 h3=>tn (.mk n ks) ih d l h1 h2 h3
end Go.Proofs.YtpidddienjoleaaGreat
namespace Go.Proofs.YtpidddienjoleaaGreat
open Go.Eng Go.Mod
open Int renaming reduceEq→Z1,reduceLT→Z2,reduceLE→Z3,reduceToNat→Z4
set_option maxRecDepth 100000
set_option maxHeartbeats 400000
theorem DX(t:Term)(deep:Nat):eE t deep=if cd t.name&&decide (t.kids.length≤2)&&decide (deep≤4) then 1+bL t.kids (deep+1) else 13:=by
 cases t;rfl
theorem xe{ts:List Term}{i:Nat}(h:i<ts.length)(deep:Nat):bL (ts.take (i+1)) deep=bL (ts.take i) deep+eE ts[i] deep:=by
 have e:ts.take (i+1)=ts.take i++[ts[i]]:=by rw[List.take_add_one,List.getElem?_eq_getElem h];rfl
 have key:∀(xs ys:List Term),bL (xs++ys) deep=bL xs deep+bL ys deep:=by
  intro xs ys
  induction xs with
  | nil=>simp[bL]
  | cons a xs ih=>simp only[List.cons_append,bL,ih];omega
 rw[e,key]
 simp[bL]
theorem tO(t:Term)(ih:∀k∈t.kids,∀deep:Nat,1≤deep→deep≤5→C E.P 172 [av (cT k),iv deep] [] (aM (iv (eE k deep)) []))(deep:Nat)(g1:1≤deep)(g5:deep≤5) :
 C E.P 172 [av (cT t),iv deep] [] (aM (iv (eE t deep)) []):=by
 have ht:=DX t deep
 refine gS (nt:=37) (rs:=[.tmp 4]) hm Tryz.func172 fun hl he hLB=>?_
 refine aC [] (lG t.name) ?_
 cases hn:cd t.name
 ·rw[hn] at ht
  refine sA ?_
  refine ab ?_
  refine sA ?_
  all_goals(simp[ht];done)
 ·rw[hn] at ht
  rcases Classical.em ((2:Int)<(t.kids.length:Int)) with h2|h2
  ·have h2':¬t.kids.length≤2:=by omega
   simp only[h2',decide_false,Bool.and_false,Bool.false_and,Bool.false_eq_true,if_false] at ht
   simp -implicitDefEqProofs only[go_sem,h2]
   refine ab ?_
   refine sA ?_
   all_goals(simp[ht];done)
  ·have h2':t.kids.length≤2:=by omega
   rcases Classical.em ((4:Int)<(deep:Int)) with h4|h4
   ·have h4':¬deep≤4:=by omega
    simp only[h4',decide_false,Bool.and_false,Bool.false_eq_true,if_false] at ht
    simp -implicitDefEqProofs only[go_sem,h2,h4]
    refine ab ?_
    refine sA ?_
    all_goals(simp[ht];done)
   ·have h4':deep≤4:=by omega
    simp only[h2',h4',decide_true,Bool.and_self,if_true] at ht
    simp -implicitDefEqProofs only[go_sem,h2,h4]
    refine al hm (fun(i:Nat)=> i≤t.kids.length) (fun(i:Nat)=> ⟨bW 37 .any [(1,iv deep),(5,iv ((1+bL (t.kids.take i) (deep+1):Nat):Int)),(23,lv (ai t.kids)),(24,iv t.kids.length),(25,iv i)],[]⟩) (fun(i:Nat)=> t.kids.length-i) (0) ?_ (ah [] ?_ ?_ rfl rfl) ?_
    rotate_left
    ·refine sA ?_
     all_goals(simp[bL])
    ·exact sC
    rotate_left
    ·omega
    ·rintro i hi
     have hb:=mM (t.kids.take i) (deep+1) (by omega) (by omega)
     have hp:(2:Nat) ^ (5-(deep+1))≤2 ^ 4:=Nat.pow_le_pow_right (by omega) (by omega)
     have hq:(t.kids.take i).length*(27*2 ^ (5-(deep+1))-14)≤2*(27*2 ^ (5-(deep+1))-14):=Nat.mul_le_mul_right _ (by simp;omega)
     rcases Classical.em (i<t.kids.length) with h1|h1
     ·have hk:=vq t.kids[i] (deep+1) (by omega) (by omega)
      simp -implicitDefEqProofs only[go_sem,h1]
      refine⟨by omega,?_⟩
      have hc:=ih t.kids[i] (List.getElem_mem h1) (deep+1) (by omega) (by omega)
      refine aC [] hc ?_
      refine⟨by omega,by omega,?_⟩
      refine⟨i+1,?_,?_,ah [] ?_ ?_ rfl rfl⟩
      rotate_left
      ·show _ < _
       omega
      ·refine sA ?_
       all_goals((simp only[xe h1];simp;omega))
      ·exact sC
      exact h1
     ·rw[←List.take_of_length_le (l:=t.kids) (i:=i) (by omega)] at ht
      simp -implicitDefEqProofs only[go_sem,h1]
      refine ab ?_
      refine sA ?_
      all_goals(simp[ht];done)
theorem vN:∀(t:Term)(deep:Nat),1≤deep→deep≤5→C E.P 172 [av (cT t),iv deep] [] (aM (iv (eE t deep)) []):=
 Term.ind fun n ks ih deep h1 h2=>tO (.mk n ks) ih deep h1 h2
theorem ff(t:Term):C E.P 106 [av (cT t)] [] (aM (bv (isTerm t)) []):=by
 refine gS (nt:=6) (rs:=[.tmp 2]) hm Tryz.func106 fun hl he hLB=>?_
 have hc:=vN t 1 (by omega) (by omega)
 refine aC [] hc ?_
 refine ab ?_
 refine sA ?_
 all_goals(simp[isTerm];omega)
theorem qj(n:Int):C E.P 151 [iv n] [] (aM (bv (isSort n)) []):=by
 refine gS (nt:=9) (rs:=[.tmp 2]) hm Tryz.func151 fun hl he hLB=>?_
 rcases Classical.em (n=0) with h|h
 ·simp -implicitDefEqProofs only[go_sem,h]
  refine ab ?_
  refine sA ?_
  all_goals(simp[isSort];done)
 ·simp -implicitDefEqProofs only[go_sem,h]
  refine ab ?_
  refine sA ?_
  all_goals(simp[isSort,h];done)
theorem wh(n:Int):C E.P 153 [iv n] [] (aM (bv (!isSort n)) []):=by
 refine gS (nt:=6) (rs:=[.tmp 2]) hm Tryz.func153 fun hl he hLB=>?_
 refine aC [] (qj n) ?_
 refine ab ?_
 exact sC
theorem zr(x:Sym):C E.P 79 [av (oh x)] [] (aM (bv (gD x)) []):=by
 refine gS (nt:=23) (rs:=[.tmp 2]) hm Tryz.func79 fun hl he hLB=>?_
 refine aC [] (lG x.name) ?_
 cases h1:cd x.name
 ·simp -implicitDefEqProofs only[go_sem]
  refine ab ?_
  refine sA ?_
  all_goals(simp[gD,h1];done)
 ·rcases Classical.em ((x.args.length:Int)≤2) with h2|h2
  ·have h2':x.args.length≤2:=by omega
   simp -implicitDefEqProofs only[go_sem,h2]
   refine aC [] (qj x.sort) ?_
   cases h3:isSort x.sort
   ·refine sA ?_
    refine ab ?_
    refine sA ?_
    all_goals(simp[gD,h1,h2',h3];done)
   ·refine sA ?_
    refine aC [] (jY 153 [] rfl (fun n=>!isSort n) x.args (fun n _=>wh n)) ?_
    refine ab ?_
    refine sA ?_
    all_goals(simp[gD,h1,h2',h3,List.all_eq_not_any_not];done)
  ·have h2':¬x.args.length≤2:=by omega
   simp -implicitDefEqProofs only[go_sem,h2]
   refine ab ?_
   refine sA ?_
   all_goals(simp[gD,h1,h2'];done)
def dR(l:List Sym):Nat→Option gL
 | 0=>none
 | j+1=>(l[j]?).map (·.name)
theorem il(s:bJ):C E.P 36 [av (bw s)] [] (aM (bv (bT s)) []):=by
 refine gS (nt:=37) (rs:=[.tmp 2]) hm Tryz.func36 fun hl he hLB=>?_
 refine al hm (fun(i:Nat)=> i≤s.syms.length∧jr none s.syms=jr (dR s.syms i) (s.syms.drop i)) (fun(i:Nat)=> ⟨bW 37 .any [(1,.ptr 0 0),(6,lv (cM s.syms)),(7,iv s.syms.length),(8,iv i)],[some (.box (bn (bw s)))]⟩) (fun(i:Nat)=> s.syms.length-i) (0) ?_ (ah [some 0] ?_ ?_ rfl rfl) ?_
 rotate_left
 ·exact sC
 ·exact sC
 rotate_left
 ·simp[dR]
 ·rintro i ⟨hi,hg⟩
  rcases Classical.em (i<s.syms.length) with h1|h1
  ·rw[List.drop_eq_getElem_cons h1] at hg
   simp only[jr] at hg
   simp -implicitDefEqProofs only[go_sem,h1]
   refine aC [] (zr s.syms[i]) ?_
   cases h2:gD s.syms[i]
   ·have e:bT s=false:=by simp[bT,hg,h2]
    refine sA ?_
    refine iK ?_
    skip
    refine ab ?_
    refine sA ?_
    all_goals(simp[e];done)
   ·rw[h2,Bool.true_and] at hg
    cases i with
    | zero=>
      simp only[dR,Bool.true_and] at hg
      simp -implicitDefEqProofs only[go_sem,Int.lt_irrefl]
      refine iK ?_
      skip
      refine⟨by omega,?_⟩
      refine⟨0+1,?_,?_,ah [some 0] ?_ ?_ rfl rfl⟩
      rotate_left
      ·show _ < _
       omega
      ·refine sA ?_
       all_goals(simp[*];done)
      ·exact sC
      refine⟨by omega,?_⟩
      rw[hg]
      simp[dR,h1]
    | succ j=>
      have hj:j<s.syms.length:=by omega
      have e1:((j:Int)+1-1)=(j:Int):=by omega
      have e2:(0:Int)<(j:Int)+1:=by omega
      have e3:dR s.syms (j+1)=some s.syms[j].name:=by simp[dR,hj]
      rw[e3] at hg
      simp only at hg
      simp -implicitDefEqProofs only[go_sem,e1,e2,hj]
      refine⟨by omega,?_⟩
      cases h4:cX s.syms[j].name s.syms[j+1].name
      ·rw[h4,Bool.false_and] at hg
       have e:bT s=false:=by simp[bT,hg]
       have h5:Op.bytesLess s.syms[j].name s.syms[j+1].name=false:=h4
       simp -implicitDefEqProofs only[go_sem,h5]
       refine iK ?_
       skip
       refine ab ?_
       refine sA ?_
       all_goals(simp[e];done)
      ·rw[h4,Bool.true_and] at hg
       have h5:Op.bytesLess s.syms[j].name s.syms[j+1].name=true:=h4
       simp -implicitDefEqProofs only[go_sem,h5]
       refine iK ?_
       skip
       refine⟨by omega,?_⟩
       refine⟨j+1+1,?_,?_,ah [some 0] ?_ ?_ rfl rfl⟩
       rotate_left
       ·show _ < _
        omega
       ·exact sC
       ·exact sC
       refine⟨by omega,?_⟩
       rw[hg]
       simp[dR,h1]
  ·rw[List.drop_of_length_le (by omega)] at hg
   simp only[jr] at hg
   have e:bT s=decide ((s.syms.length:Int)≤7):=by simp[bT,hg];omega
   simp -implicitDefEqProofs only[go_sem,h1]
   refine ab ?_
   refine sA ?_
   all_goals(simp[e];done)
theorem lk(s:bJ)(n:gL):C E.P 113 [av (bw s),sv n] [] (aM (.eL [av (oh ((symbol s n).getD kN)),bv (symbol s n).isSome]) []):=by
 refine gS (nt:=22) (rs:=[.cell 4 117,.tmp 5]) hm Tryz.func113 fun hl he hLB=>?_
 refine al hm (fun(i:Nat)=> i≤s.syms.length∧symbol s n=(s.syms.drop i).find? (fun x=>decide (x.name=n))) (fun(i:Nat)=> ⟨bW 22 .any [(1,sv n),(4,.ptr 1 0),(9,lv (cM s.syms)),(10,iv s.syms.length),(11,iv i)],[some (.box (bn (bw s))),some (.box (bn (oh kN)))]⟩) (fun(i:Nat)=> s.syms.length-i) (0) ?_ (ah [some 0,some 1] ?_ ?_ rfl rfl) ?_
 rotate_left
 ·exact sC
 ·exact sC
 rotate_left
 ·simp[symbol]
 ·rintro i ⟨hi,hg⟩
  rcases Classical.em (i<s.syms.length) with h1|h1
  ·rw[List.drop_eq_getElem_cons h1] at hg
   rcases Classical.em (s.syms[i].name=n) with h2|h2
   ·have e:symbol s n=some s.syms[i]:=by rw[hg];simp only[List.find?_cons,h2,decide_true]
    simp -implicitDefEqProofs only[go_sem,h1,h2]
    refine ab ?_
    refine sA ?_
    all_goals(simp[e,h2];done)
   ·have e:symbol s n=(s.syms.drop (i+1)).find? (fun x=>decide (x.name=n)):=by rw[hg];simp only[List.find?_cons,h2,decide_false]
    simp -implicitDefEqProofs only[go_sem,h1,h2]
    refine⟨by omega,?_⟩
    refine⟨i+1,?_,?_,ah [some 0,some 1] ?_ ?_ rfl rfl⟩
    rotate_left
    ·show _ < _
     omega
    ·exact sC
    ·exact sC
    exact⟨by omega,e⟩
  ·have e:symbol s n=none:=by rw[hg,List.drop_of_length_le (by omega)];rfl
   simp -implicitDefEqProofs only[go_sem,h1]
   refine ab ?_
   refine sA ?_
   all_goals(simp[e,kN,mf];done)
end Go.Proofs.YtpidddienjoleaaGreat
namespace Go.Proofs.YtpidddienjoleaaGreat
open Go.Eng Go.Mod
open Int renaming reduceEq→Z1,reduceLT→Z2,reduceLE→Z3,reduceToNat→Z4
set_option maxRecDepth 100000
set_option maxHeartbeats 400000
theorem Aq(s:bJ)(t:Term):cu s t=match symbol s t.name with
 | none=>none
 | some x=>if decide (x.args.length=t.kids.length)&&dk s t.kids x.args then some x.sort else none:=by
 cases t;simp only[cu,Term.name,Term.kids];rfl
theorem sY{s:bJ}{ks:List Term}{ns:List Int}{i:Nat}(h:i<ks.length)(h':i<ns.length):dk s (ks.drop i) (ns.drop i)=(decide (cu s ks[i]=some ns[i])&&dk s (ks.drop (i+1)) (ns.drop (i+1))):=by
 rw[List.drop_eq_getElem_cons h,List.drop_eq_getElem_cons h',dk]
theorem q9(s:bJ)(t:Term)(ih:∀k∈t.kids,C E.P 111 [av (bw s),av (cT k)] [] (aM (.eL [iv ((cu s k).getD 0),bv (cu s k).isSome]) [])) :
 C E.P 111 [av (bw s),av (cT t)] [] (aM (.eL [iv ((cu s t).getD 0),bv (cu s t).isSome]) []):=by
 have ht:=Aq s t
 refine gS (nt:=58) (rs:=[.tmp 4,.tmp 5]) hm Tryz.func111 fun hl he hLB=>?_
 refine aC [] (lk s t.name) ?_
 cases hx:symbol s t.name with
 | none=>
   rw[hx] at ht
   simp only at ht
   simp -implicitDefEqProofs only[go_sem,Option.isSome_none]
   refine ab ?_
   refine sA ?_
   all_goals(simp[ht];done)
 | some x=>
   rw[hx] at ht
   simp only at ht
   rcases Classical.em (x.args.length=t.kids.length) with h1|h1
   ·simp only[h1,decide_true,Bool.true_and] at ht
    simp -implicitDefEqProofs only[go_sem,Option.isSome_some,Option.getD_some,h1]
    refine al hm (fun(i:Nat)=> i≤t.kids.length∧dk s t.kids x.args=dk s (t.kids.drop i) (x.args.drop i)) (fun(i:Nat)=> ⟨bW 58 .any [(2,.ptr 0 0),(6,.ptr 2 0),(31,lv (ai t.kids)),(32,iv t.kids.length),(33,iv i)],[some (.box (bn (bw s))),some (.box (bn (cT t))),some (.box (bn (oh x)))]⟩) (fun(i:Nat)=> t.kids.length-i) (0) ?_ (ah [some 0,some 1,some 2] ?_ ?_ rfl rfl) ?_
    rotate_left
    ·exact sC
    ·exact sC
    rotate_left
    ·simp
    ·rintro i ⟨hi,hg⟩
     rcases Classical.em (i<t.kids.length) with h2|h2
     ·have h3:i<x.args.length:=by omega
      rw[sY h2 h3] at hg
      simp -implicitDefEqProofs only[go_sem,h2]
      have hc:=ih t.kids[i] (List.getElem_mem h2)
      refine aC [] hc ?_
      cases hk:cu s t.kids[i] with
      | none=>
        rw[hk] at hg
        have hz:dk s t.kids x.args=false:=by rw[hg];simp
        rw[hz] at ht
        simp only[Bool.false_eq_true,if_false] at ht
        simp -implicitDefEqProofs only[go_sem,Option.isSome_none]
        refine ab ?_
        refine sA ?_
        all_goals(simp[ht];done)
      | some n=>
        rw[hk] at hg
        rcases Classical.em (n=x.args[i]) with hn|hn
        ·have hz:dk s t.kids x.args=dk s (t.kids.drop (i+1)) (x.args.drop (i+1)):=by rw[hg,hn];simp
         simp -implicitDefEqProofs only[go_sem,Option.isSome_some,Option.getD_some,hn,h3]
         refine⟨by omega,?_⟩
         refine⟨i+1,?_,?_,ah [some 0,some 1,some 2] ?_ ?_ rfl rfl⟩
         rotate_left
         ·show _ < _
          omega
         ·exact sC
         ·exact sC
         exact⟨by omega,hz⟩
        ·have hz:dk s t.kids x.args=false:=by
          rw[hg]
          simp[hn]
         rw[hz] at ht
         simp only[Bool.false_eq_true,if_false] at ht
         simp -implicitDefEqProofs only[go_sem,Option.isSome_some,Option.getD_some,hn,h3]
         refine ab ?_
         refine sA ?_
         all_goals(simp[ht];done)
     ·rw[List.drop_of_length_le (by omega),List.drop_of_length_le (by omega)] at hg
      rw[hg] at ht
      simp only[dk,if_true] at ht
      simp -implicitDefEqProofs only[go_sem,h2]
      refine ab ?_
      refine sA ?_
      all_goals(simp[ht];done)
   ·simp only[h1,decide_false,Bool.false_and,Bool.false_eq_true,if_false] at ht
    have h1':¬ (x.args.length:Int)=t.kids.length:=by omega
    simp -implicitDefEqProofs only[go_sem,Option.isSome_some,Option.getD_some,h1]
    refine ab ?_
    refine sA ?_
    all_goals(simp[ht];done)
theorem rL(s:bJ):∀(t:Term),C E.P 111 [av (bw s),av (cT t)] [] (aM (.eL [iv ((cu s t).getD 0),bv (cu s t).isSome]) []):=
 Term.ind fun n ks ih=>q9 s (.mk n ks) ih
theorem dg(s:bJ)(t:Term):C E.P 48 [av (bw s),av (cT t)] [] (aM (.eL [iv ((bx s t).getD 0),bv (bx s t).isSome]) []):=by
 refine gS (nt:=19) (rs:=[.tmp 4,.tmp 5]) hm Tryz.func48 fun hl he hLB=>?_
 refine aC [] (il s) ?_
 cases h1:bT s
 ·refine sA ?_
  refine ab ?_
  refine sA ?_
  all_goals(simp[bx,h1];done)
 ·refine sA ?_
  refine aC [] (ff t) ?_
  cases h2:isTerm t
  ·refine sA ?_
   refine ab ?_
   refine sA ?_
   all_goals(simp[bx,h1,h2];done)
  ·refine sA ?_
   refine aC [] (rL s t) ?_
   refine ab ?_
   refine sA ?_
   all_goals(simp[bx,h1,h2];done)
theorem nM(s:bJ)(t:Term):C E.P 83 [av (bw s),av (cT t)] [] (aM (bv (bc s t)) []):=by
 refine gS (nt:=18) (rs:=[.tmp 4]) hm Tryz.func83 fun hl he hLB=>?_
 refine aC [] (dg s t) ?_
 cases h:bx s t with
 | none=>
   simp -implicitDefEqProofs only[go_sem,Option.isSome_none]
   refine ab ?_
   refine sA ?_
   all_goals(simp[bc,h];done)
 | some n=>
   simp -implicitDefEqProofs only[go_sem,Option.isSome_some,Option.getD_some]
   refine ab ?_
   refine sA ?_
   all_goals(simp[bc,h];done)
theorem qe(t:Term):C E.P 107 [av (cT t)] [] (aM (bv (isNone t)) []):=by
 refine gS (nt:=12) (rs:=[.tmp 2]) hm Tryz.func107 fun hl he hLB=>?_
 rcases Classical.em (t.name=[]) with h|h
 ·simp -implicitDefEqProofs only[go_sem,h]
  refine ab ?_
  refine sA ?_
  all_goals(simp[isNone,h];done)
 ·simp -implicitDefEqProofs only[go_sem,h]
  refine ab ?_
  refine sA ?_
  all_goals(simp[isNone,h];done)
theorem lV(e:e6)(s:bJ):C E.P 80 [av (Qf e),av (bw s)] [] (aM (bv (dx s e)) []):=by
 refine gS (nt:=32) (rs:=[.tmp 4]) hm Tryz.func80 fun hl he hLB=>?_
 refine aC [] (dg s e.A) ?_
 refine aC [] (dg s e.B) ?_
 cases h1:bx s e.A with
 | none=>
   simp -implicitDefEqProofs only[go_sem,Option.isSome_none]
   refine ab ?_
   refine sA ?_
   all_goals(simp[dx,h1];done)
 | some n=>
   cases h2:bx s e.B with
   | none=>
     simp -implicitDefEqProofs only[go_sem,Option.isSome_some,Option.getD_some,Option.isSome_none]
     refine ab ?_
     refine sA ?_
     all_goals(simp[dx,h1,h2];done)
   | some m=>
     simp -implicitDefEqProofs only[go_sem,Option.isSome_some,Option.getD_some]
     refine ab ?_
     refine sA ?_
     all_goals(simp[dx,h1,h2];done)
theorem lz(a:Atom):C E.P 84 [av (fZ a)] [] (aM (lv (ai (aI a))) []):=by
 refine gS (nt:=13) (rs:=[.tmp 2]) hm Tryz.func84 fun hl he hLB=>?_
 rcases Classical.em (a.kind=1) with h|h
 ·simp -implicitDefEqProofs only[go_sem,h]
  refine ab ?_
  refine sA ?_
  all_goals(simp[aI,h,ba,cV,cT];done)
 ·simp -implicitDefEqProofs only[go_sem,h]
  refine ab ?_
  refine sA ?_
  all_goals(simp[aI,h];done)
theorem Bo{xs:List Term}{i:Nat}(h:i<xs.length)(hi:isTerm xs[i]=false)(out:List Term):fy (xs.drop i) out=[]:=by
 rw[List.drop_eq_getElem_cons h,fy,hi];rfl
theorem rV{xs:List Term}{i:Nat}(h:i<xs.length)(hi:isTerm xs[i]=true)(out:List Term):fy (xs.drop i) out=fy (xs.drop (i+1)) (aW out xs[i]):=by
 rw[List.drop_eq_getElem_cons h,fy,hi];rfl
theorem mh(xs:List Term)(hx:xs.length≤1000):C E.P 85 [lv (ai xs)] [] (aM (lv (ai (aH xs))) []):=by
 refine gS (nt:=20) (rs:=[.tmp 2]) hm Tryz.func85 fun hl he hLB=>?_
 refine bP hm (fun(i:Nat) (out:List Term)=> i≤xs.length∧aH xs=fy (xs.drop i) out∧out.length≤15*i) (fun(i:Nat) (out:List Term)=> ⟨bW 20 .any [(3,.acc 0),(6,lv (ai xs)),(7,iv xs.length),(8,iv i)],[some (.acc 35 (ai out))]⟩) (fun(i:Nat) (out:List Term)=> xs.length-i) (0) ([]) ?_ (ah [none] ?_ ?_ rfl rfl) ?_
 rotate_left
 ·exact sC
 ·exact sC
 rotate_left
 ·simp[aH]
 ·rintro i out ⟨hi,hg,ho⟩
  rcases Classical.em (i<xs.length) with h1|h1
  ·simp -implicitDefEqProofs only[go_sem,h1]
   refine aC [] (ff xs[i]) ?_
   cases h2:isTerm xs[i]
   ·rw[Bo h1 h2] at hg
    refine sA ?_
    refine ab ?_
    refine sA ?_
    all_goals(simp[hg,cV];done)
   ·rw[rV h1 h2] at hg
    have hs:=cZ h2
    have hle:=nH (l:=out) hs (by omega)
    refine sA ?_
    refine oC [] [0,2] (mu xs[i] 4 out (by omega) hs (by omega)) ?_
    refine⟨by omega,?_⟩
    refine⟨i+1,aW out xs[i],?_,?_,ah [some 2] ?_ ?_ rfl rfl⟩
    rotate_left
    ·show _ < _
     omega
    ·exact sC
    ·exact sC
    exact⟨by omega,hg,by omega⟩
  ·rw[List.drop_of_length_le (by omega),fy] at hg
   simp -implicitDefEqProofs only[go_sem,h1]
   refine ab ?_
   refine sA ?_
   rw[hg]
end Go.Proofs.YtpidddienjoleaaGreat
namespace Go.Proofs.YtpidddienjoleaaGreat
open Go.Eng Go.Mod
open Int renaming reduceEq→Z1,reduceLT→Z2,reduceLE→Z3,reduceToNat→Z4
set_option maxRecDepth 100000
set_option maxHeartbeats 400000
theorem rE{es:List e6}{i:Nat}(h:i<es.length):bA (es.take (i+1))=bA (es.take i)++[es[i].A,es[i].B]:=by
 have e:es.take (i+1)=es.take i++[es[i]]:=by rw[List.take_add_one,List.getElem?_eq_getElem h];rfl
 rw[e]
 simp only[bA,List.flatMap_append,List.flatMap_cons,List.flatMap_nil,List.append_nil]
theorem pQ(es:List e6):(bA es).length=2*es.length:=by
 induction es with
 | nil=>rfl
 | cons e es ih=>simp[bA] at ih⊢;omega
theorem Cn(es:List e6)(hes:es.length≤1000):C E.P 181 [lv (bj es)] [] (aM (lv (ai (bA es))) []):=by
 refine gT (nt:=21) (rs:=[.tmp 2]) hm Tryz.func181 fun hl he hLB=>?_
 refine al hm (fun(i:Nat)=> i≤es.length) (fun(i:Nat)=> ⟨bW 21 .any [(3,.acc 0),(6,lv (bj es)),(7,iv es.length),(8,iv i)],[some (.acc 35 (ai (bA (es.take i))))]⟩) (fun(i:Nat)=> es.length-i) (0) ?_ (ah [none] ?_ ?_ rfl rfl) ?_
 rotate_left
 ·refine sB ?_
  all_goals(first|done|(rfl)|(simp[aa, *];done)|(simp[aa];done)|(simp;omega)|skip)
 ·refine sB ?_
  all_goals(first|done|(rfl)|(simp[aa, *];done)|(simp[aa];done)|(simp;omega)|skip)
 rotate_left
 ·omega
 ·rintro i hi
  rcases Classical.em (i<es.length) with h1|h1
  ·have hl2:(bA (es.take i)).length≤2000:=by rw[pQ];simp;omega
   try simp -implicitDefEqProofs only[go_sem,Z1,Z2,Z3,Z4,h1]
   try with_reducible refine iK ?_
   refine⟨by simp;omega,by omega,?_⟩
   refine⟨i+1,?_,?_,ah [some 2] ?_ ?_ rfl rfl⟩
   rotate_left
   ·show _ < _
    omega
   ·refine sB ?_
    all_goals(first|done|((rw[rE h1,←db,ba,ba,cV];rfl))|(simp[aa, *];done)|(simp[aa];done)|(simp;omega)|skip)
   ·refine sB ?_
    all_goals(first|done|((rw[rE h1,←db,ba,ba,cV];rfl))|(simp[aa, *];done)|(simp[aa];done)|(simp;omega)|skip)
   exact h1
  ·try simp -implicitDefEqProofs only[go_sem,Z1,Z2,Z3,Z4,h1]
   try with_reducible refine iK ?_
   refine ab ?_
   refine sB ?_
   rw[List.take_of_length_le (by omega)]
theorem CN(s:bJ)(es:List e6):C E.P 180 [av (bw s),lv (bj es)] [] (aM (bv (jn s es)) []):=by
 refine gT (nt:=31) (rs:=[.tmp 4]) hm Tryz.func180 fun hl he hLB=>?_
 refine aD [] (il s) ?_
 try with_reducible refine iK ?_
 cases h1:bT s
 ·try simp -implicitDefEqProofs only[go_sem,Z1,Z2,Z3,Z4]
  try with_reducible refine iK ?_
  refine ab ?_
  refine sB ?_
  all_goals(first|done|(simp[jn,h1];done)|(simp[jn,h1];omega)|skip)
 ·rcases Classical.em ((12:Int)<(es.length:Int)) with h2|h2
  ·have h2':¬es.length≤12:=by omega
   try simp -implicitDefEqProofs only[go_sem,Z1,Z2,Z3,Z4,h2]
   try with_reducible refine iK ?_
   refine ab ?_
   refine sB ?_
   all_goals(first|done|(simp[jn,h1,h2'];done)|(simp[jn,h1,h2'];omega)|skip)
  ·have h2':es.length≤12:=by omega
   try simp -implicitDefEqProofs only[go_sem,Z1,Z2,Z3,Z4,h2]
   try with_reducible refine iK ?_
   refine al hm (fun(i:Nat)=> i≤es.length∧es.all (dx s)=(es.drop i).all (dx s)) (fun(i:Nat)=> ⟨bW 31 .any [(1,lv (bj es)),(2,.ptr 0 0),(15,lv (bj es)),(16,iv es.length),(17,iv i)],[some (.box (bn (bw s)))]⟩) (fun(i:Nat)=> es.length-i) (0) ?_ (ah [some 0] ?_ ?_ rfl rfl) ?_
   rotate_left
   ·refine sB ?_
    all_goals(first|done|(simp[aa, *];done)|(simp[aa];done)|(simp;omega)|skip)
   ·refine sB ?_
    all_goals(first|done|(simp[aa, *];done)|(simp[aa];done)|(simp;omega)|skip)
   rotate_left
   ·simp
   ·rintro i ⟨hi,hg⟩
    rcases Classical.em (i<es.length) with h3|h3
    ·rw[List.drop_eq_getElem_cons h3,List.all_cons] at hg
     try simp -implicitDefEqProofs only[go_sem,Z1,Z2,Z3,Z4,h3]
     try with_reducible refine iK ?_
     refine aD [] (lV es[i] s) ?_
     try with_reducible refine iK ?_
     cases h4:dx s es[i]
     ·rw[h4,Bool.false_and] at hg
      have e:jn s es=false:=by unfold jn;rw[hg];simp
      try simp -implicitDefEqProofs only[go_sem,Z1,Z2,Z3,Z4]
      try with_reducible refine iK ?_
      refine ab ?_
      refine sB ?_
      all_goals(first|done|(simp[e];done)|(simp[e];omega)|skip)
     ·rw[h4,Bool.true_and] at hg
      try simp -implicitDefEqProofs only[go_sem,Z1,Z2,Z3,Z4]
      try with_reducible refine iK ?_
      refine⟨by omega,?_⟩
      refine⟨i+1,?_,?_,ah [some 0] ?_ ?_ rfl rfl⟩
      rotate_left
      ·show _ < _
       omega
      ·refine sB ?_
       all_goals(first|done|(simp[aa, *];done)|(simp[aa];done)|(simp;omega)|skip)
      ·refine sB ?_
       all_goals(first|done|(simp[aa, *];done)|(simp[aa];done)|(simp;omega)|skip)
      exact⟨by omega,hg⟩
    ·rw[List.drop_of_length_le (by omega),List.all_nil] at hg
     have e:jn s es=decide (((aH (bA es)).length:Int)≤24):=by
      unfold jn
      rw[hg,h1,decide_eq_true h2']
      simp only[Bool.and_self,Bool.true_and]
      exact decide_eq_decide.2 (by omega)
     try simp -implicitDefEqProofs only[go_sem,Z1,Z2,Z3,Z4,h3]
     try with_reducible refine iK ?_
     refine aD [] (Cn es (by omega)) ?_
     try with_reducible refine iK ?_
     refine aD [] (mh (bA es) (by rw[pQ];omega)) ?_
     try with_reducible refine iK ?_
     refine ab ?_
     refine sB ?_
     all_goals(first|done|(simp[e];done)|(simp[e];omega)|skip)
end Go.Proofs.YtpidddienjoleaaGreat
