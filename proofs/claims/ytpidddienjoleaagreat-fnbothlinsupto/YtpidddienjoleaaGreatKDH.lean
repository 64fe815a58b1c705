/-
  The walks of the small functions of the first chapters. A step towards the exact laws.
-/
import Derived.Test.YtpidddienjoleaaGreatKDF
import Derived.Test.YtpidddienjoleaaGreatKDE
set_option linter.unusedVariables false
set_option linter.unusedSimpArgs false
namespace Go.Proofs.YtpidddienjoleaaGreat
open Go.Eng Go.Mod
open Int renaming reduceEq→Z1,reduceLT→Z2,reduceLE→Z3,reduceToNat→Z4
set_option maxRecDepth 100000
set_option maxHeartbeats 400000
theorem b6(n lo hi:Int):C E.P 70 [iv n,iv lo,iv hi] [] (aO (bv (within n lo hi)) []):=by
 refine gS (nt:=15) (rs:=[.tmp 6]) hm Tryz.func70 fun hl he hLB=>?_
 refine JD (fun h=>?_) (fun h=>?_)<;>simp only[h,go_sem]
 ·refine ab ?_
  refine sA ?_
  all_goals(simp[within,h];done)
 ·refine ab ?_
  refine sA ?_
  all_goals(simp[within,h];done)
theorem mf(s:gR):C E.P 150 [sv s] [] (aO (bv (cg s)) []):=by
 refine gS (nt:=24) (rs:=[.tmp 2]) hm Tryz.func150 fun hl he hLB=>?_
 have h:∃b,within s.length 1 2=b:=⟨_,rfl⟩
 obtain⟨b,h⟩:=h
 refine cL [] (b6 s.length 1 2) ?_ ?_<;>simp -implicitDefEqProofs only[go_sem,h]
 cases b
 ·refine sA ?_
  refine ab ?_
  refine sA ?_
  all_goals(simp[cg,h];done)
 ·refine sA ?_
  refine au hm (fun(i:Nat)=> i≤s.length∧cg s=(s.drop i).all c5) (fun(i:Nat)=> ⟨b9 24 .any [(0,sv s),(9,iv s.length),(10,iv i)],[]⟩) (fun(i:Nat)=> s.length-i) (0) ?_ (ah [] ?_ ?_ rfl rfl) ?_
  rotate_left
  ·exact sC
  ·exact sC
  rotate_left
  ·simp[cg,h]
  ·rintro i ⟨hi,hg⟩
   rcases Classical.em (i<s.length) with h1|h1
   ·rw[List.drop_eq_getElem_cons h1,List.all_cons] at hg
    simp -implicitDefEqProofs only[go_sem,h1]
    rw[j6 h1]
    rcases Classical.em ((s[i].toNat:Int)<97) with h2|h2
    ·have h3:c5 s[i]=false:=by simp[c5];omega
     rw[h3,Bool.false_and] at hg
     simp -implicitDefEqProofs only[go_sem,h2]
     refine ab ?_
     refine sA ?_
     all_goals(simp[hg];done)
    ·simp -implicitDefEqProofs only[go_sem,h2,h1]
     rw[j6 h1]
     rcases Classical.em (122<(s[i].toNat:Int)) with h4|h4
     ·have h3:c5 s[i]=false:=by simp[c5];omega
      rw[h3,Bool.false_and] at hg
      simp -implicitDefEqProofs only[go_sem,h4]
      refine ab ?_
      refine sA ?_
      all_goals(simp[hg];done)
     ·have h3:c5 s[i]=true:=by simp[c5];omega
      rw[h3,Bool.true_and] at hg
      simp -implicitDefEqProofs only[go_sem,h4]
      refine⟨by omega,?_⟩
      refine⟨i+1,?_,?_,ah [] ?_ ?_ rfl rfl⟩
      rotate_left
      ·show _ < _
       omega
      ·exact sC
      ·exact sC
      exact⟨by omega,hg⟩
   ·rw[List.drop_of_length_le (by omega)] at hg
    simp -implicitDefEqProofs only[go_sem,h1]
    refine ab ?_
    refine sA ?_
    all_goals(simp[hg];done)
end Go.Proofs.YtpidddienjoleaaGreat
namespace Go.Proofs.YtpidddienjoleaaGreat
open Go.Eng Go.Mod
open Int renaming reduceEq→Z1,reduceLT→Z2,reduceLE→Z3,reduceToNat→Z4
set_option maxRecDepth 100000
set_option maxHeartbeats 400000
theorem DU{α:Type}{p:α→Bool}:∀{xs:List α}{i:Int},0≤i→(0≤bZ p xs i↔xs.any p=true)
 | [],i,h=>by simp[bZ]
 | x::xs,i,h=>by
   simp only[bZ,List.any_cons,Bool.or_eq_true]
   split
   ·rename_i hx
    simp[hx,h]
   ·rename_i hx
    rw[DU (by omega)]
    simp[hx]
theorem tL{α:Type}{p:α→Bool}{xs:List α}:decide (0≤idxOf p xs)=xs.any p:=by
 rw[Bool.eq_iff_iff,decide_eq_true_eq]
 exact DU (by omega)
theorem wU(f:Nat)(cap:List PV)(hcap:mi 0 cap=true)(p:Int→Bool)(xs:List Int)(hf:∀x∈xs,C E.P f (iv x::cap) [] (aO (bv (p x)) [])) :
 C E.P 211 [lv (aJ xs),.fn f cap] [] (aO (iv (idxOf p xs)) []):=by
 refine gS (nt:=19) (rs:=[.tmp 4]) hm Tryz.func211 fun hl he hLB=>?_
 refine au hm (fun(i:Nat)=> i≤xs.length∧idxOf p xs=bZ p (xs.drop i) i) (fun(i:Nat)=> ⟨b9 19 .any [(0,lv (aJ xs)),(1,.fn f cap),(7,iv xs.length),(8,iv i)],[]⟩) (fun(i:Nat)=> xs.length-i) (0) ?_ (ah [] ?_ ?_ rfl rfl) ?_
 rotate_left
 ·refine sA ?_
  all_goals(simp[aa, *];done)
 ·exact sC
 rotate_left
 ·simp[idxOf]
 ·rintro i ⟨hi,hg⟩
  rcases Classical.em (i<xs.length) with h1|h1
  ·rw[List.drop_eq_getElem_cons h1,bZ] at hg
   simp -implicitDefEqProofs only[go_sem,h1]
   have hc:=hf xs[i] (List.getElem_mem h1)
   refine cL cap hc ?_ ?_<;>simp -implicitDefEqProofs only[go_sem,hcap]
   cases h2:p xs[i]
   ·rw[h2] at hg
    simp only[Bool.false_eq_true,if_false] at hg
    refine sA ?_
    refine⟨by omega,?_⟩
    refine⟨i+1,?_,?_,ah [] ?_ ?_ rfl rfl⟩
    rotate_left
    ·show _ < _
     omega
    ·refine sA ?_
     all_goals(simp[aa, *];done)
    ·exact sC
    exact⟨by omega,hg⟩
   ·rw[h2] at hg
    simp only[if_true] at hg
    refine sA ?_
    refine ab ?_
    refine sA ?_
    all_goals(simp[hg];done)
  ·rw[List.drop_of_length_le (by omega),bZ] at hg
   simp -implicitDefEqProofs only[go_sem,h1]
   refine ab ?_
   refine sA ?_
   all_goals(simp[hg];done)
theorem iR(f:Nat)(cap:List PV)(hcap:mi 0 cap=true)(p:Term→Bool)(xs:List Term)(hf:∀x∈xs,C E.P f (av (cT x)::cap) [] (aO (bv (p x)) [])) :
 C E.P 154 [lv (aj xs),.fn f cap] [] (aO (iv (idxOf p xs)) []):=by
 refine gS (nt:=19) (rs:=[.tmp 4]) hm Tryz.func154 fun hl he hLB=>?_
 refine au hm (fun(i:Nat)=> i≤xs.length∧idxOf p xs=bZ p (xs.drop i) i) (fun(i:Nat)=> ⟨b9 19 .any [(0,lv (aj xs)),(1,.fn f cap),(7,iv xs.length),(8,iv i)],[]⟩) (fun(i:Nat)=> xs.length-i) (0) ?_ (ah [] ?_ ?_ rfl rfl) ?_
 rotate_left
 ·refine sA ?_
  all_goals(simp[aa, *];done)
 ·exact sC
 rotate_left
 ·simp[idxOf]
 ·rintro i ⟨hi,hg⟩
  rcases Classical.em (i<xs.length) with h1|h1
  ·rw[List.drop_eq_getElem_cons h1,bZ] at hg
   simp -implicitDefEqProofs only[go_sem,h1]
   have hc:=hf xs[i] (List.getElem_mem h1)
   refine cL cap hc ?_ ?_<;>simp -implicitDefEqProofs only[go_sem,hcap]
   cases h2:p xs[i]
   ·rw[h2] at hg
    simp only[Bool.false_eq_true,if_false] at hg
    refine sA ?_
    refine⟨by omega,?_⟩
    refine⟨i+1,?_,?_,ah [] ?_ ?_ rfl rfl⟩
    rotate_left
    ·show _ < _
     omega
    ·refine sA ?_
     all_goals(simp[aa, *];done)
    ·exact sC
    exact⟨by omega,hg⟩
   ·rw[h2] at hg
    simp only[if_true] at hg
    refine sA ?_
    refine ab ?_
    refine sA ?_
    all_goals(simp[hg];done)
  ·rw[List.drop_of_length_le (by omega),bZ] at hg
   simp -implicitDefEqProofs only[go_sem,h1]
   refine ab ?_
   refine sA ?_
   all_goals(simp[hg];done)
theorem wQ(f:Nat)(cap:List PV)(hcap:mi 0 cap=true)(p:eQ→Bool)(xs:List eQ)(hf:∀x∈xs,C E.P f (av (cX x)::cap) [] (aO (bv (p x)) [])) :
 C E.P 186 [lv (bh xs),.fn f cap] [] (aO (iv (idxOf p xs)) []):=by
 refine gS (nt:=19) (rs:=[.tmp 4]) hm Tryz.func186 fun hl he hLB=>?_
 refine au hm (fun(i:Nat)=> i≤xs.length∧idxOf p xs=bZ p (xs.drop i) i) (fun(i:Nat)=> ⟨b9 19 .any [(0,lv (bh xs)),(1,.fn f cap),(7,iv xs.length),(8,iv i)],[]⟩) (fun(i:Nat)=> xs.length-i) (0) ?_ (ah [] ?_ ?_ rfl rfl) ?_
 rotate_left
 ·refine sA ?_
  all_goals(simp[aa, *];done)
 ·exact sC
 rotate_left
 ·simp[idxOf]
 ·rintro i ⟨hi,hg⟩
  rcases Classical.em (i<xs.length) with h1|h1
  ·rw[List.drop_eq_getElem_cons h1,bZ] at hg
   simp -implicitDefEqProofs only[go_sem,h1]
   have hc:=hf xs[i] (List.getElem_mem h1)
   refine cL cap hc ?_ ?_<;>simp -implicitDefEqProofs only[go_sem,hcap]
   cases h2:p xs[i]
   ·rw[h2] at hg
    simp only[Bool.false_eq_true,if_false] at hg
    refine sA ?_
    refine⟨by omega,?_⟩
    refine⟨i+1,?_,?_,ah [] ?_ ?_ rfl rfl⟩
    rotate_left
    ·show _ < _
     omega
    ·refine sA ?_
     all_goals(simp[aa, *];done)
    ·exact sC
    exact⟨by omega,hg⟩
   ·rw[h2] at hg
    simp only[if_true] at hg
    refine sA ?_
    refine ab ?_
    refine sA ?_
    all_goals(simp[hg];done)
  ·rw[List.drop_of_length_le (by omega),bZ] at hg
   simp -implicitDefEqProofs only[go_sem,h1]
   refine ab ?_
   refine sA ?_
   all_goals(simp[hg];done)
theorem kv(f:Nat)(cap:List PV)(hcap:mi 0 cap=true)(p:Int→Bool)(xs:List Int)(hf:∀x∈xs,C E.P f (iv x::cap) [] (aO (bv (p x)) [])) :
 C E.P 152 [lv (aJ xs),.fn f cap] [] (aO (bv (xs.any p)) []):=by
 refine gS (nt:=9) (rs:=[.tmp 4]) hm Tryz.func152 fun hl he hLB=>?_
 refine cL [] (wU f cap hcap p xs hf) ?_ ?_<;>simp -implicitDefEqProofs only[go_sem,hcap]
 refine ab ?_
 refine sA ?_
 all_goals(simp[tL];done)
theorem qw(f:Nat)(cap:List PV)(hcap:mi 0 cap=true)(p:Term→Bool)(xs:List Term)(hf:∀x∈xs,C E.P f (av (cT x)::cap) [] (aO (bv (p x)) [])) :
 C E.P 81 [lv (aj xs),.fn f cap] [] (aO (bv (xs.any p)) []):=by
 refine gS (nt:=9) (rs:=[.tmp 4]) hm Tryz.func81 fun hl he hLB=>?_
 refine cL [] (iR f cap hcap p xs hf) ?_ ?_<;>simp -implicitDefEqProofs only[go_sem,hcap]
 refine ab ?_
 refine sA ?_
 all_goals(simp[tL];done)
theorem rT(f:Nat)(cap:List PV)(hcap:mi 0 cap=true)(p:eQ→Bool)(xs:List eQ)(hf:∀x∈xs,C E.P f (av (cX x)::cap) [] (aO (bv (p x)) [])) :
 C E.P 128 [lv (bh xs),.fn f cap] [] (aO (bv (xs.any p)) []):=by
 refine gS (nt:=9) (rs:=[.tmp 4]) hm Tryz.func128 fun hl he hLB=>?_
 refine cL [] (wQ f cap hcap p xs hf) ?_ ?_<;>simp -implicitDefEqProofs only[go_sem,hcap]
 refine ab ?_
 refine sA ?_
 all_goals(simp[tL];done)
theorem mV(f:Nat)(xs ys:List Term)(hf:∀x∈xs,∀y,C E.P f [av (cT x),av (cT y)] [] (aO (bv (decide (x=y))) [])) :
 C E.P 47 [lv (aj xs),lv (aj ys),.fn f []] [] (aO (bv (decide (xs=ys))) []):=by
 refine gS (nt:=32) (rs:=[.tmp 6]) hm Tryz.func47 fun hl he hLB=>?_
 rcases Classical.em (xs.length=ys.length) with hl' | hl'
 ·simp -implicitDefEqProofs only[go_sem,hl']
  refine au hm (fun(i:Nat)=> i≤ys.length∧decide (xs=ys)=decide (xs.drop i=ys.drop i)) (fun(i:Nat)=> ⟨b9 32 .any [(1,lv (aj ys)),(2,.fn f []),(15,lv (aj xs)),(16,iv ys.length),(17,iv i)],[]⟩) (fun(i:Nat)=> ys.length-i) (0) ?_ (ah [] ?_ ?_ rfl rfl) ?_
  rotate_left
  ·exact sC
  ·exact sC
  rotate_left
  ·simp
  ·rintro i ⟨hi,hg⟩
   rcases Classical.em (i<ys.length) with h1|h1
   ·have h2:i<xs.length:=by omega
    rw[List.drop_eq_getElem_cons h1,List.drop_eq_getElem_cons h2] at hg
    simp -implicitDefEqProofs only[go_sem,h1,h2]
    have hc:=hf xs[i] (List.getElem_mem h2) ys[i]
    refine aC [] hc ?_
    rcases Classical.em (xs[i]=ys[i]) with h3|h3
    ·simp -implicitDefEqProofs only[go_sem,h3]
     refine⟨by omega,?_⟩
     refine⟨i+1,?_,?_,ah [] ?_ ?_ rfl rfl⟩
     rotate_left
     ·show _ < _
      omega
     ·exact sC
     ·exact sC
     exact⟨by omega,by rw[hg];simp only[h3,List.cons.injEq,true_and]⟩
    ·have hg:decide (xs=ys)=false:=by rw[hg];simp only[h3,List.cons.injEq,false_and,decide_false]
     simp -implicitDefEqProofs only[go_sem,h3]
     refine ab ?_
     refine sA ?_
     all_goals(simp[hg];done)
   ·have hg:decide (xs=ys)=true:=by
     rw[hg,List.drop_of_length_le (by omega),List.drop_of_length_le (by omega)]
     rfl
    simp -implicitDefEqProofs only[go_sem,h1]
    refine ab ?_
    refine sA ?_
    all_goals(simp[hg];done)
 ·have hn:¬xs=ys:=fun h=>hl' (by rw[h])
  simp -implicitDefEqProofs only[go_sem,hl']
  refine ab ?_
  refine sA ?_
  all_goals(simp[hn];done)
theorem jk{a b:Term}:a=b↔a.name=b.name∧a.kids=b.kids:=by
 cases a;cases b;simp[Term.name,Term.kids]
theorem uo(a b:Term)(ih:∀k∈a.kids,∀y,C E.P 15 [av (cT k),av (cT y)] [] (aO (bv (decide (k=y))) [])):C E.P 15 [av (cT a),av (cT b)] [] (aO (bv (decide (a=b))) []):=by
 refine gS (nt:=17) (rs:=[.tmp 4]) hm Tryz.func15 fun hl he hLB=>?_
 rcases Classical.em (a.name=b.name) with h|h
 ·simp -implicitDefEqProofs only[go_sem,h]
  refine aC [] (mV 15 a.kids b.kids ih) ?_
  refine ab ?_
  refine sA ?_
  all_goals(simp[jk,h];done)
 ·simp -implicitDefEqProofs only[go_sem,h]
  refine ab ?_
  refine sA ?_
  all_goals(simp[jk,h];done)
theorem fj:∀a b,C E.P 15 [av (cT a),av (cT b)] [] (aO (bv (decide (a=b))) []):=
 Term.ind fun n ks ih b=>uo _ b ih
theorem rO(t u:Term):C E.P 182 [av (cT u),.cf [cT t] 0 0] [] (aO (bv (decide (t=u))) []):=by
 refine gS (nt:=7) (rs:=[.tmp 3]) hm Tryz.func182 fun hl he hLB=>?_
 refine aC [] (fj t u) ?_
 refine ab ?_
 exact sC
theorem bz(ts:List Term)(t:Term):C E.P 121 [lv (aj ts),av (cT t)] [] (aO (iv (aF ts t)) []):=by
 refine gS (nt:=8) (rs:=[.tmp 4]) hm Tryz.func121 fun hl he hLB=>?_
 refine bK [] [0] (iR 182 [.cf [cT t] 0 0] rfl (fun u=>decide (t=u)) ts (fun u _=>rO t u)) rfl ?_ ?_ ?_
 ·exact sV
 all_goals simp -implicitDefEqProofs only[go_sem]
 refine ab ?_
 refine sA ?_
 all_goals(simp[aF];done)
theorem vn(ts:List Term)(ih:∀k∈ts,C E.P 102 [av (cT k)] [] (aO (av (cT k)) [])):C E.P 109 [lv (aj ts)] [] (aO (lv (aj ts)) []):=by
 refine gS (nt:=19) (rs:=[.tmp 2]) hm Tryz.func109 fun hl he hLB=>?_
 refine au hm (fun(i:Nat)=> i≤ts.length) (fun(i:Nat)=> ⟨b9 19 .any [(3,.acc 0),(6,lv (aj ts)),(7,iv ts.length),(8,iv i)],[some (.acc 35 (aj (ts.take i)))]⟩) (fun(i:Nat)=> ts.length-i) (0) ?_ (ah [none] ?_ ?_ rfl rfl) ?_
 rotate_left
 ·exact sC
 ·exact sC
 rotate_left
 ·omega
 ·rintro i hi
  rcases Classical.em (i<ts.length) with h1|h1
  ·simp -implicitDefEqProofs only[go_sem,h1]
   have hc:=ih ts[i] (List.getElem_mem h1)
   refine aC [] hc ?_
   refine⟨by omega,by omega,?_⟩
   refine⟨i+1,?_,?_,ah [some 2] ?_ ?_ rfl rfl⟩
   rotate_left
   ·show _ < _
    omega
   ·exact sC
   ·refine sA ?_
    all_goals(exact n7 h1)
   exact h1
  ·simp -implicitDefEqProofs only[go_sem,h1]
   refine ab ?_
   refine sA ?_
   rw[List.take_of_length_le (by omega)]
theorem E2(t:Term)(ih:∀k∈t.kids,C E.P 102 [av (cT k)] [] (aO (av (cT k)) [])):C E.P 102 [av (cT t)] [] (aO (av (cT t)) []):=by
 refine gS (nt:=9) (rs:=[.cell 2 35]) hm Tryz.func102 fun hl he hLB=>?_
 refine aC [] (vn t.kids ih) ?_
 refine iK ?_
 skip
 refine ab ?_
 exact sC
theorem dL:∀t,C E.P 102 [av (cT t)] [] (aO (av (cT t)) []):=
 Term.ind fun n ks ih=>E2 _ ih
theorem s7(t:Term)(ih:∀k∈t.kids,∀(d:Nat)(l:List Term),d≤4→aB k d=true→l.length≤999000+15*(4-d)→C E.P 155 [.acc 0,av (cT k)] [some (.acc 35 (aj l))] (aO (.acc 1) [some .dead,some (.acc 35 (aj (a8 l k)))]))(d:Nat)(l:List Term)
 (hd:d≤4) (hsh:aB t d=true) (hl1:l.length≤999000+15*(4-d)) :
 C E.P 155 [.acc 0,av (cT t)] [some (.acc 35 (aj l))] (aO (.acc 1) [some .dead,some (.acc 35 (aj (a8 l t)))]):=by
 cases d with
 | zero=>cases t;simp[aB] at hsh
 | succ d=>
 have hk:=hH hsh
 have hle:=fun i=>q9 (l:=l) hsh (by omega) i
 refine gS (nt:=28) (rs:=[.tmp 4]) hm Tryz.func155 fun hl he hLB=>?_
 refine au hm (fun(i:Nat)=> i≤t.kids.length) (fun(i:Nat)=> ⟨b9 28 .any [(0,.acc 2),(3,.ptr 1 0),(8,lv (aj t.kids)),(9,iv t.kids.length),(10,iv i)],[some .dead,some (.box (bn (cT t))),some (.acc 35 (aj (aq l (t.kids.take i))))]⟩) (fun(i:Nat)=> t.kids.length-i) (0) ?_ (ah [some 0,some 1,some 0] ?_ ?_ rfl rfl) ?_
 rotate_left
 ·exact sC
 ·refine sA ?_
  all_goals(simp only[aq])
 rotate_left
 ·omega
 ·rintro i hi
  rcases Classical.em (i<t.kids.length) with h1|h1
  ·simp -implicitDefEqProofs only[go_sem,h1]
   have hc:=ih t.kids[i] (List.getElem_mem h1) d (aq l (t.kids.take i)) (by omega) (gN hk.2.2 _ (List.getElem_mem h1)) (by have:=hle i;omega)
   refine oC [] [2,4] hc ?_
   refine⟨by omega,?_⟩
   refine⟨i+1,?_,?_,ah [some 0,some 1,some 4] ?_ ?_ rfl rfl⟩
   rotate_left
   ·show _ < _
    omega
   ·exact sC
   ·refine sA ?_
    all_goals(simp only[jV h1])
   exact h1
  ·have e:t.kids.take i=t.kids:=List.take_of_length_le (by omega)
   have h2:=hle i
   rw[e] at h2
   simp -implicitDefEqProofs only[go_sem,h1,e]
   refine bK [] [2] (bz (aq l t.kids) t) rfl ?_ ?_ ?_
   ·exact sV
   all_goals simp -implicitDefEqProofs only[go_sem]
   rcases Classical.em (aF (aq l t.kids) t<0) with hx|hx
   ·simp -implicitDefEqProofs only[go_sem,hx]
    refine aC [] (dL t) ?_
    refine⟨by omega,?_⟩
    refine aG [some 0,some 3] ?_ rfl rfl
    refine sA ?_
    rw[kg,if_pos hx,←fq,bT,fx]
    rfl
   ·simp -implicitDefEqProofs only[go_sem,hx]
    refine aG [some 0,some 2] ?_ rfl rfl
    refine sA ?_
    rw[kg,if_neg hx]
theorem uV:∀(t:Term)(d:Nat)(l:List Term),d≤4→aB t d=true→l.length≤999000+15*(4-d)→C E.P 155 [.acc 0,av (cT t)] [some (.acc 35 (aj l))] (aO (.acc 1) [some .dead,some (.acc 35 (aj (a8 l t)))]):=
 Term.ind fun n ks ih d l h1 h2 h3=>s7 (.mk n ks) ih d l h1 h2 h3
end Go.Proofs.YtpidddienjoleaaGreat
namespace Go.Proofs.YtpidddienjoleaaGreat
open Go.Eng Go.Mod
open Int renaming reduceEq→Z1,reduceLT→Z2,reduceLE→Z3,reduceToNat→Z4
set_option maxRecDepth 100000
set_option maxHeartbeats 400000
theorem Fo(t:Term)(deep:Nat):eF t deep=if cg t.name&&decide (t.kids.length≤2)&&decide (deep≤4) then 1+bL t.kids (deep+1) else 13:=by
 cases t;rfl
theorem x7{ts:List Term}{i:Nat}(h:i<ts.length)(deep:Nat):bL (ts.take (i+1)) deep=bL (ts.take i) deep+eF ts[i] deep:=by
 have e:ts.take (i+1)=ts.take i++[ts[i]]:=by rw[List.take_add_one,List.getElem?_eq_getElem h];rfl
 have key:∀(xs ys:List Term),bL (xs++ys) deep=bL xs deep+bL ys deep:=by
  intro xs ys
  induction xs with
  | nil=>simp[bL]
  | cons a xs ih=>simp only[List.cons_append,bL,ih];omega
 rw[e,key]
 simp[bL]
theorem uK(t:Term)(ih:∀k∈t.kids,∀deep:Nat,1≤deep→deep≤5→C E.P 172 [av (cT k),iv deep] [] (aO (iv (eF k deep)) []))(deep:Nat)(g1:1≤deep)(g5:deep≤5) :
 C E.P 172 [av (cT t),iv deep] [] (aO (iv (eF t deep)) []):=by
 have ht:=Fo t deep
 refine gS (nt:=37) (rs:=[.tmp 4]) hm Tryz.func172 fun hl he hLB=>?_
 refine aC [] (mf t.name) ?_
 cases hn:cg t.name
 ·rw[hn] at ht
  refine sA ?_
  refine ab ?_
  refine sA ?_
  all_goals(simp[ht];done)
 ·rw[hn] at ht
  rcases Classical.em ((2:Int)<(t.kids.length:Int)) with h2|h2
  ·have h2':¬t.kids.length≤2:=by omega
   simp only[h2',decide_false,Bool.and_false,Bool.false_and,Bool.false_eq_true,if_false] at ht
   simp -implicitDefEqProofs only[go_sem,h2]
   refine ab ?_
   refine sA ?_
   all_goals(simp[ht];done)
  ·have h2':t.kids.length≤2:=by omega
   rcases Classical.em ((4:Int)<(deep:Int)) with h4|h4
   ·have h4':¬deep≤4:=by omega
    simp only[h4',decide_false,Bool.and_false,Bool.false_eq_true,if_false] at ht
    simp -implicitDefEqProofs only[go_sem,h2,h4]
    refine ab ?_
    refine sA ?_
    all_goals(simp[ht];done)
   ·have h4':deep≤4:=by omega
    simp only[h2',h4',decide_true,Bool.and_self,if_true] at ht
    simp -implicitDefEqProofs only[go_sem,h2,h4]
    refine au hm (fun(i:Nat)=> i≤t.kids.length) (fun(i:Nat)=> ⟨b9 37 .any [(1,iv deep),(5,iv ((1+bL (t.kids.take i) (deep+1):Nat):Int)),(23,lv (aj t.kids)),(24,iv t.kids.length),(25,iv i)],[]⟩) (fun(i:Nat)=> t.kids.length-i) (0) ?_ (ah [] ?_ ?_ rfl rfl) ?_
    rotate_left
    ·refine sA ?_
     all_goals(simp[bL])
    ·exact sC
    rotate_left
    ·omega
    ·rintro i hi
     have hb:=nJ (t.kids.take i) (deep+1) (by omega) (by omega)
     have hp:(2:Nat) ^ (5-(deep+1))≤2 ^ 4:=Nat.pow_le_pow_right (by omega) (by omega)
     have hq:(t.kids.take i).length*(27*2 ^ (5-(deep+1))-14)≤2*(27*2 ^ (5-(deep+1))-14):=Nat.mul_le_mul_right _ (by simp;omega)
     rcases Classical.em (i<t.kids.length) with h1|h1
     ·have hk:=vW t.kids[i] (deep+1) (by omega) (by omega)
      simp -implicitDefEqProofs only[go_sem,h1]
      refine⟨by omega,?_⟩
      have hc:=ih t.kids[i] (List.getElem_mem h1) (deep+1) (by omega) (by omega)
      refine aC [] hc ?_
      refine⟨by omega,by omega,?_⟩
      refine⟨i+1,?_,?_,ah [] ?_ ?_ rfl rfl⟩
      rotate_left
      ·show _ < _
       omega
      ·refine sA ?_
       all_goals((simp only[x7 h1];simp;omega))
      ·exact sC
      exact h1
     ·rw[←List.take_of_length_le (l:=t.kids) (i:=i) (by omega)] at ht
      simp -implicitDefEqProofs only[go_sem,h1]
      refine ab ?_
      refine sA ?_
      all_goals(simp[ht];done)
theorem wA:∀(t:Term)(deep:Nat),1≤deep→deep≤5→C E.P 172 [av (cT t),iv deep] [] (aO (iv (eF t deep)) []):=
 Term.ind fun n ks ih deep h1 h2=>uK (.mk n ks) ih deep h1 h2
theorem gz(t:Term):C E.P 106 [av (cT t)] [] (aO (bv (isTerm t)) []):=by
 refine gS (nt:=6) (rs:=[.tmp 2]) hm Tryz.func106 fun hl he hLB=>?_
 have hc:=wA t 1 (by omega) (by omega)
 refine aC [] hc ?_
 refine ab ?_
 refine sA ?_
 all_goals(simp[isTerm];omega)
theorem qH(n:Int):C E.P 151 [iv n] [] (aO (bv (isSort n)) []):=by
 refine gS (nt:=9) (rs:=[.tmp 2]) hm Tryz.func151 fun hl he hLB=>?_
 rcases Classical.em (n=0) with h|h
 ·simp -implicitDefEqProofs only[go_sem,h]
  refine ab ?_
  refine sA ?_
  all_goals(simp[isSort];done)
 ·simp -implicitDefEqProofs only[go_sem,h]
  refine ab ?_
  refine sA ?_
  all_goals(simp[isSort,h];done)
theorem wS(n:Int):C E.P 153 [iv n] [] (aO (bv (!isSort n)) []):=by
 refine gS (nt:=6) (rs:=[.tmp 2]) hm Tryz.func153 fun hl he hLB=>?_
 refine aC [] (qH n) ?_
 refine ab ?_
 exact sC
theorem Ao(x:Sym):C E.P 79 [av (oV x)] [] (aO (bv (gP x)) []):=by
 refine gS (nt:=23) (rs:=[.tmp 2]) hm Tryz.func79 fun hl he hLB=>?_
 refine aC [] (mf x.name) ?_
 cases h1:cg x.name
 ·simp -implicitDefEqProofs only[go_sem]
  refine ab ?_
  refine sA ?_
  all_goals(simp[gP,h1];done)
 ·rcases Classical.em ((x.args.length:Int)≤2) with h2|h2
  ·have h2':x.args.length≤2:=by omega
   simp -implicitDefEqProofs only[go_sem,h2]
   refine aC [] (qH x.sort) ?_
   cases h3:isSort x.sort
   ·refine sA ?_
    refine ab ?_
    refine sA ?_
    all_goals(simp[gP,h1,h2',h3];done)
   ·refine sA ?_
    refine aC [] (kv 153 [] rfl (fun n=>!isSort n) x.args (fun n _=>wS n)) ?_
    refine ab ?_
    refine sA ?_
    all_goals(simp[gP,h1,h2',h3,List.all_eq_not_any_not];done)
  ·have h2':¬x.args.length≤2:=by omega
   simp -implicitDefEqProofs only[go_sem,h2]
   refine ab ?_
   refine sA ?_
   all_goals(simp[gP,h1,h2'];done)
def dP(l:List Sym):Nat→Option gR
 | 0=>none
 | j+1=>(l[j]?).map (·.name)
theorem j8(s:bA):C E.P 36 [av (bF s)] [] (aO (bv (bV s)) []):=by
 refine gS (nt:=37) (rs:=[.tmp 2]) hm Tryz.func36 fun hl he hLB=>?_
 refine au hm (fun(i:Nat)=> i≤s.syms.length∧jM none s.syms=jM (dP s.syms i) (s.syms.drop i)) (fun(i:Nat)=> ⟨b9 37 .any [(1,.ptr 0 0),(6,lv (cQ s.syms)),(7,iv s.syms.length),(8,iv i)],[some (.box (bn (bF s)))]⟩) (fun(i:Nat)=> s.syms.length-i) (0) ?_ (ah [some 0] ?_ ?_ rfl rfl) ?_
 rotate_left
 ·exact sC
 ·exact sC
 rotate_left
 ·simp[dP]
 ·rintro i ⟨hi,hg⟩
  rcases Classical.em (i<s.syms.length) with h1|h1
  ·rw[List.drop_eq_getElem_cons h1] at hg
   simp only[jM] at hg
   simp -implicitDefEqProofs only[go_sem,h1]
   refine aC [] (Ao s.syms[i]) ?_
   cases h2:gP s.syms[i]
   ·have e:bV s=false:=by simp[bV,hg,h2]
    refine sA ?_
    refine iK ?_
    skip
    refine ab ?_
    refine sA ?_
    all_goals(simp[e];done)
   ·rw[h2,Bool.true_and] at hg
    cases i with
    | zero=>
      simp only[dP,Bool.true_and] at hg
      simp -implicitDefEqProofs only[go_sem,Int.lt_irrefl]
      refine iK ?_
      skip
      refine⟨by omega,?_⟩
      refine⟨0+1,?_,?_,ah [some 0] ?_ ?_ rfl rfl⟩
      rotate_left
      ·show _ < _
       omega
      ·refine sA ?_
       all_goals(simp[*];done)
      ·exact sC
      refine⟨by omega,?_⟩
      rw[hg]
      simp[dP,h1]
    | succ j=>
      have hj:j<s.syms.length:=by omega
      have e1:((j:Int)+1-1)=(j:Int):=by omega
      have e2:(0:Int)<(j:Int)+1:=by omega
      have e3:dP s.syms (j+1)=some s.syms[j].name:=by simp[dP,hj]
      rw[e3] at hg
      simp only at hg
      simp -implicitDefEqProofs only[go_sem,e1,e2,hj]
      refine⟨by omega,?_⟩
      cases h4:cR s.syms[j].name s.syms[j+1].name
      ·rw[h4,Bool.false_and] at hg
       have e:bV s=false:=by simp[bV,hg]
       have h5:Op.bytesLess s.syms[j].name s.syms[j+1].name=false:=h4
       simp -implicitDefEqProofs only[go_sem,h5]
       refine iK ?_
       skip
       refine ab ?_
       refine sA ?_
       all_goals(simp[e];done)
      ·rw[h4,Bool.true_and] at hg
       have h5:Op.bytesLess s.syms[j].name s.syms[j+1].name=true:=h4
       simp -implicitDefEqProofs only[go_sem,h5]
       refine iK ?_
       skip
       refine⟨by omega,?_⟩
       refine⟨j+1+1,?_,?_,ah [some 0] ?_ ?_ rfl rfl⟩
       rotate_left
       ·show _ < _
        omega
       ·exact sC
       ·exact sC
       refine⟨by omega,?_⟩
       rw[hg]
       simp[dP,h1]
  ·rw[List.drop_of_length_le (by omega)] at hg
   simp only[jM] at hg
   have e:bV s=decide ((s.syms.length:Int)≤7):=by simp[bV,hg];omega
   simp -implicitDefEqProofs only[go_sem,h1]
   refine ab ?_
   refine sA ?_
   all_goals(simp[e];done)
theorem lF(s:bA)(n:gR):C E.P 113 [av (bF s),sv n] [] (aO (.eZ [av (oV ((symbol s n).getD ly)),bv (symbol s n).isSome]) []):=by
 refine gS (nt:=22) (rs:=[.cell 4 117,.tmp 5]) hm Tryz.func113 fun hl he hLB=>?_
 refine au hm (fun(i:Nat)=> i≤s.syms.length∧symbol s n=(s.syms.drop i).find? (fun x=>decide (x.name=n))) (fun(i:Nat)=> ⟨b9 22 .any [(1,sv n),(4,.ptr 1 0),(9,lv (cQ s.syms)),(10,iv s.syms.length),(11,iv i)],[some (.box (bn (bF s))),some (.box (bn (oV ly)))]⟩) (fun(i:Nat)=> s.syms.length-i) (0) ?_ (ah [some 0,some 1] ?_ ?_ rfl rfl) ?_
 rotate_left
 ·exact sC
 ·exact sC
 rotate_left
 ·simp[symbol]
 ·rintro i ⟨hi,hg⟩
  rcases Classical.em (i<s.syms.length) with h1|h1
  ·rw[List.drop_eq_getElem_cons h1] at hg
   rcases Classical.em (s.syms[i].name=n) with h2|h2
   ·have e:symbol s n=some s.syms[i]:=by rw[hg];simp only[List.find?_cons,h2,decide_true]
    simp -implicitDefEqProofs only[go_sem,h1,h2]
    refine ab ?_
    refine sA ?_
    all_goals(simp[e,h2];done)
   ·have e:symbol s n=(s.syms.drop (i+1)).find? (fun x=>decide (x.name=n)):=by rw[hg];simp only[List.find?_cons,h2,decide_false]
    simp -implicitDefEqProofs only[go_sem,h1,h2]
    refine⟨by omega,?_⟩
    refine⟨i+1,?_,?_,ah [some 0,some 1] ?_ ?_ rfl rfl⟩
    rotate_left
    ·show _ < _
     omega
    ·exact sC
    ·exact sC
    exact⟨by omega,e⟩
  ·have e:symbol s n=none:=by rw[hg,List.drop_of_length_le (by omega)];rfl
   simp -implicitDefEqProofs only[go_sem,h1]
   refine ab ?_
   refine sA ?_
   all_goals(simp[e,ly,mN];done)
end Go.Proofs.YtpidddienjoleaaGreat
namespace Go.Proofs.YtpidddienjoleaaGreat
open Go.Eng Go.Mod
open Int renaming reduceEq→Z1,reduceLT→Z2,reduceLE→Z3,reduceToNat→Z4
set_option maxRecDepth 100000
set_option maxHeartbeats 400000
theorem BD(s:bA)(t:Term):bB s t=match symbol s t.name with
 | none=>none
 | some x=>if decide (x.args.length=t.kids.length)&&cq s t.kids x.args then some x.sort else none:=by
 cases t;simp only[bB,Term.name,Term.kids];rfl
theorem sK{s:bA}{ks:List Term}{ns:List Int}{i:Nat}(h:i<ks.length)(h':i<ns.length):cq s (ks.drop i) (ns.drop i)=(decide (bB s ks[i]=some ns[i])&&cq s (ks.drop (i+1)) (ns.drop (i+1))):=by
 rw[List.drop_eq_getElem_cons h,List.drop_eq_getElem_cons h',cq]
theorem rZ(s:bA)(t:Term)(ih:∀k∈t.kids,C E.P 111 [av (bF s),av (cT k)] [] (aO (.eZ [iv ((bB s k).getD 0),bv (bB s k).isSome]) [])) :
 C E.P 111 [av (bF s),av (cT t)] [] (aO (.eZ [iv ((bB s t).getD 0),bv (bB s t).isSome]) []):=by
 have ht:=BD s t
 refine gS (nt:=58) (rs:=[.tmp 4,.tmp 5]) hm Tryz.func111 fun hl he hLB=>?_
 refine aC [] (lF s t.name) ?_
 cases hx:symbol s t.name with
 | none=>
   rw[hx] at ht
   simp only at ht
   simp -implicitDefEqProofs only[go_sem,Option.isSome_none]
   refine ab ?_
   refine sA ?_
   all_goals(simp[ht];done)
 | some x=>
   rw[hx] at ht
   simp only at ht
   rcases Classical.em (x.args.length=t.kids.length) with h1|h1
   ·simp only[h1,decide_true,Bool.true_and] at ht
    simp -implicitDefEqProofs only[go_sem,Option.isSome_some,Option.getD_some,h1]
    refine au hm (fun(i:Nat)=> i≤t.kids.length∧cq s t.kids x.args=cq s (t.kids.drop i) (x.args.drop i)) (fun(i:Nat)=> ⟨b9 58 .any [(2,.ptr 0 0),(6,.ptr 2 0),(31,lv (aj t.kids)),(32,iv t.kids.length),(33,iv i)],[some (.box (bn (bF s))),some (.box (bn (cT t))),some (.box (bn (oV x)))]⟩) (fun(i:Nat)=> t.kids.length-i) (0) ?_ (ah [some 0,some 1,some 2] ?_ ?_ rfl rfl) ?_
    rotate_left
    ·exact sC
    ·exact sC
    rotate_left
    ·simp
    ·rintro i ⟨hi,hg⟩
     rcases Classical.em (i<t.kids.length) with h2|h2
     ·have h3:i<x.args.length:=by omega
      rw[sK h2 h3] at hg
      simp -implicitDefEqProofs only[go_sem,h2]
      have hc:=ih t.kids[i] (List.getElem_mem h2)
      refine aC [] hc ?_
      cases hk:bB s t.kids[i] with
      | none=>
        rw[hk] at hg
        have hz:cq s t.kids x.args=false:=by rw[hg];simp
        rw[hz] at ht
        simp only[Bool.false_eq_true,if_false] at ht
        simp -implicitDefEqProofs only[go_sem,Option.isSome_none]
        refine ab ?_
        refine sA ?_
        all_goals(simp[ht];done)
      | some n=>
        rw[hk] at hg
        rcases Classical.em (n=x.args[i]) with hn|hn
        ·have hz:cq s t.kids x.args=cq s (t.kids.drop (i+1)) (x.args.drop (i+1)):=by rw[hg,hn];simp
         simp -implicitDefEqProofs only[go_sem,Option.isSome_some,Option.getD_some,hn,h3]
         refine⟨by omega,?_⟩
         refine⟨i+1,?_,?_,ah [some 0,some 1,some 2] ?_ ?_ rfl rfl⟩
         rotate_left
         ·show _ < _
          omega
         ·exact sC
         ·exact sC
         exact⟨by omega,hz⟩
        ·have hz:cq s t.kids x.args=false:=by
          rw[hg]
          simp[hn]
         rw[hz] at ht
         simp only[Bool.false_eq_true,if_false] at ht
         simp -implicitDefEqProofs only[go_sem,Option.isSome_some,Option.getD_some,hn,h3]
         refine ab ?_
         refine sA ?_
         all_goals(simp[ht];done)
     ·rw[List.drop_of_length_le (by omega),List.drop_of_length_le (by omega)] at hg
      rw[hg] at ht
      simp only[cq,if_true] at ht
      simp -implicitDefEqProofs only[go_sem,h2]
      refine ab ?_
      refine sA ?_
      all_goals(simp[ht];done)
   ·simp only[h1,decide_false,Bool.false_and,Bool.false_eq_true,if_false] at ht
    have h1':¬ (x.args.length:Int)=t.kids.length:=by omega
    simp -implicitDefEqProofs only[go_sem,Option.isSome_some,Option.getD_some,h1]
    refine ab ?_
    refine sA ?_
    all_goals(simp[ht];done)
theorem tY(s:bA):∀(t:Term),C E.P 111 [av (bF s),av (cT t)] [] (aO (.eZ [iv ((bB s t).getD 0),bv (bB s t).isSome]) []):=
 Term.ind fun n ks ih=>rZ s (.mk n ks) ih
theorem gD(s:bA)(t:Term):C E.P 48 [av (bF s),av (cT t)] [] (aO (.eZ [iv ((bp s t).getD 0),bv (bp s t).isSome]) []):=by
 refine gS (nt:=19) (rs:=[.tmp 4,.tmp 5]) hm Tryz.func48 fun hl he hLB=>?_
 refine aC [] (j8 s) ?_
 cases h1:bV s
 ·refine sA ?_
  refine ab ?_
  refine sA ?_
  all_goals(simp[bp,h1];done)
 ·refine sA ?_
  refine aC [] (gz t) ?_
  cases h2:isTerm t
  ·refine sA ?_
   refine ab ?_
   refine sA ?_
   all_goals(simp[bp,h1,h2];done)
  ·refine sA ?_
   refine aC [] (tY s t) ?_
   refine ab ?_
   refine sA ?_
   all_goals(simp[bp,h1,h2];done)
theorem oj(s:bA)(t:Term):C E.P 83 [av (bF s),av (cT t)] [] (aO (bv (aY s t)) []):=by
 refine gS (nt:=18) (rs:=[.tmp 4]) hm Tryz.func83 fun hl he hLB=>?_
 refine aC [] (gD s t) ?_
 cases h:bp s t with
 | none=>
   simp -implicitDefEqProofs only[go_sem,Option.isSome_none]
   refine ab ?_
   refine sA ?_
   all_goals(simp[aY,h];done)
 | some n=>
   simp -implicitDefEqProofs only[go_sem,Option.isSome_some,Option.getD_some]
   refine ab ?_
   refine sA ?_
   all_goals(simp[aY,h];done)
theorem re(t:Term):C E.P 107 [av (cT t)] [] (aO (bv (isNone t)) []):=by
 refine gS (nt:=12) (rs:=[.tmp 2]) hm Tryz.func107 fun hl he hLB=>?_
 rcases Classical.em (t.name=[]) with h|h
 ·simp -implicitDefEqProofs only[go_sem,h]
  refine ab ?_
  refine sA ?_
  all_goals(simp[isNone,h];done)
 ·simp -implicitDefEqProofs only[go_sem,h]
  refine ab ?_
  refine sA ?_
  all_goals(simp[isNone,h];done)
theorem uM(e:gk)(s:bA):C E.P 80 [av (R0 e),av (bF s)] [] (aO (bv (fX s e)) []):=by
 refine gS (nt:=32) (rs:=[.tmp 4]) hm Tryz.func80 fun hl he hLB=>?_
 refine aC [] (gD s e.A) ?_
 refine aC [] (gD s e.B) ?_
 cases h1:bp s e.A with
 | none=>
   simp -implicitDefEqProofs only[go_sem,Option.isSome_none]
   refine ab ?_
   refine sA ?_
   all_goals(simp[fX,h1];done)
 | some n=>
   cases h2:bp s e.B with
   | none=>
     simp -implicitDefEqProofs only[go_sem,Option.isSome_some,Option.getD_some,Option.isSome_none]
     refine ab ?_
     refine sA ?_
     all_goals(simp[fX,h1,h2];done)
   | some m=>
     simp -implicitDefEqProofs only[go_sem,Option.isSome_some,Option.getD_some]
     refine ab ?_
     refine sA ?_
     all_goals(simp[fX,h1,h2];done)
theorem lG(a:Atom):C E.P 84 [av (gr a)] [] (aO (lv (aj (aH a))) []):=by
 refine gS (nt:=13) (rs:=[.tmp 2]) hm Tryz.func84 fun hl he hLB=>?_
 rcases Classical.em (a.kind=1) with h|h
 ·simp -implicitDefEqProofs only[go_sem,h]
  refine ab ?_
  refine sA ?_
  all_goals(simp[aH,h,bT,fx,cT];done)
 ·simp -implicitDefEqProofs only[go_sem,h]
  refine ab ?_
  refine sA ?_
  all_goals(simp[aH,h];done)
theorem Dg{xs:List Term}{i:Nat}(h:i<xs.length)(hi:isTerm xs[i]=true)(out:List Term):jq (xs.drop i) out=jq (xs.drop (i+1)) (a8 out xs[i]):=by
 rw[List.drop_eq_getElem_cons h,jq,hi];rfl
end Go.Proofs.YtpidddienjoleaaGreat
