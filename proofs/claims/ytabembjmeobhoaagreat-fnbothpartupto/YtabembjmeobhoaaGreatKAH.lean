/-
  The walks of the small functions of the first chapters. A step towards the exact laws.
-/
import Derived.Test.YtabembjmeobhoaaGreatKAF
set_option linter.unusedVariables false
set_option linter.unusedSimpArgs false
open Bool renaming false_eq_true→ax,true_and→aM,false_and→aS,and_false→gX
open Classical renaming em→aa
open List renaming drop_eq_getElem_cons→aj,getElem_mem→ak,drop_of_length_le→al,take_of_length_le→ao,find?_cons→dA
open Option renaming isSome_some→aJ,getD_some→aK,isSome_none→aU
namespace Go.Proofs.YtabembjmeobhoaaGreat
open Go.Eng Go.Mod
open Int renaming reduceEq→Z1,reduceLT→Z2,reduceLE→Z3,reduceToNat→Z4
set_option maxRecDepth 100000
set_option maxHeartbeats 400000
theorem fV(n lo hi:Int):C E.P 77 [iv n,iv lo,iv hi] [] (bN (bv (within n lo hi)) []):=by
 refine gS (nt:=15) (rs:=[.tmp 6]) hm Tryz.func77 fun hl he cI=>?_
 refine RU (fun h=>?_) (fun h=>?_)<;>simp only[h,go_sem]
 ·refine an ?_
  refine sA ?_
  all_goals(simp[within,h];done)
 ·refine an ?_
  refine sA ?_
  all_goals(simp[within,h];done)
theorem tH(s:nh):C E.P 155 [sv s] [] (bN (bv (fD s)) []):=by
 refine gS (nt:=24) (rs:=[.tmp 2]) hm Tryz.func155 fun hl he cI=>?_
 have h:∃b,within s.length 1 2=b:=⟨_,rfl⟩
 obtain⟨b,h⟩:=h
 refine bQ [] (fV s.length 1 2) ?_ ?_<;>simp -implicitDefEqProofs only[go_sem,h]
 cases b
 ·refine sA ?_
  refine an ?_
  refine sA ?_
  all_goals(simp[fD,h];done)
 ·refine sA ?_
  refine aO hm (fun(i:Nat)=> i≤s.length∧fD s=(s.drop i).all iH) (fun(i:Nat)=> ⟨dB 24 .any [(0,sv s),(9,iv s.length),(10,iv i)],[]⟩) (fun(i:Nat)=> s.length-i) (0) ?_ (aw [] ?_ ?_ rfl rfl) ?_
  rotate_left
  ·exact sC
  ·exact sC
  rotate_left
  ·simp[fD,h]
  ·rintro i ⟨hi,hg⟩
   rcases aa (i<s.length) with h1|h1
   ·rw[aj h1,List.all_cons] at hg
    simp -implicitDefEqProofs only[go_sem,h1]
    rw[rj h1]
    rcases aa ((s[i].toNat:Int)<97) with h2|h2
    ·have h3:iH s[i]=false:=by simp[iH];omega
     rw[h3,aS] at hg
     simp -implicitDefEqProofs only[go_sem,h2]
     refine an ?_
     refine sA ?_
     all_goals(simp[hg];done)
    ·simp -implicitDefEqProofs only[go_sem,h2,h1]
     rw[rj h1]
     rcases aa (122<(s[i].toNat:Int)) with h4|h4
     ·have h3:iH s[i]=false:=by simp[iH];omega
      rw[h3,aS] at hg
      simp -implicitDefEqProofs only[go_sem,h4]
      refine an ?_
      refine sA ?_
      all_goals(simp[hg];done)
     ·have h3:iH s[i]=true:=by simp[iH];omega
      rw[h3,aM] at hg
      simp -implicitDefEqProofs only[go_sem,h4]
      refine⟨by omega,?_⟩
      refine⟨i+1,?_,sL,aw [] ?_ ?_ rfl rfl⟩
      rotate_left
      ·exact sC
      ·exact sC
      exact⟨by omega,hg⟩
   ·rw[al (by omega)] at hg
    simp -implicitDefEqProofs only[go_sem,h1]
    refine an ?_
    refine sA ?_
    all_goals(simp[hg];done)
theorem LY{α:Type}{p:α→Bool}:∀{xs:List α}{i:Int},0≤i→(0≤fX p xs i↔xs.any p=true)
 | [],i,h=>by simp[fX]
 | x::xs,i,h=>by
   simp only[fX,List.any_cons,Bool.or_eq_true]
   split
   ·rename_i hx
    simp[hx,h]
   ·rename_i hx
    rw[LY (by omega)]
    simp[hx]
theorem AA{α:Type}{p:α→Bool}{xs:List α}:decide (0≤idxOf p xs)=xs.any p:=by
 rw[Bool.eq_iff_iff,decide_eq_true_eq]
 exact LY (by omega)
theorem DL(f:Nat)(cap:List PV)(jP:tr 0 cap=true)(p:Int→Bool)(xs:List Int)(hf:∀x∈xs,C E.P f (iv x::cap) [] (bN (bv (p x)) [])) :
 C E.P 227 [lv (bG xs),.fn f cap] [] (bN (iv (idxOf p xs)) []):=by
 refine gS (nt:=19) (rs:=[.tmp 4]) hm Tryz.func227 fun hl he cI=>?_
 refine aO hm (fun(i:Nat)=> i≤xs.length∧idxOf p xs=fX p (xs.drop i) i) (fun(i:Nat)=> ⟨dB 19 .any [(0,lv (bG xs)),(1,.fn f cap),(7,iv xs.length),(8,iv i)],[]⟩) (fun(i:Nat)=> xs.length-i) (0) ?_ (aw [] ?_ ?_ rfl rfl) ?_
 rotate_left
 ·refine sA ?_
  all_goals(simp[aq, *];done)
 ·exact sC
 rotate_left
 ·simp[idxOf]
 ·rintro i ⟨hi,hg⟩
  rcases aa (i<xs.length) with h1|h1
  ·rw[aj h1,fX] at hg
   simp -implicitDefEqProofs only[go_sem,h1]
   have hc:=hf xs[i] (ak h1)
   refine bQ cap hc ?_ ?_<;>simp -implicitDefEqProofs only[go_sem,jP]
   cases h2:p xs[i]
   ·rw[h2] at hg
    simp only[ax,if_false] at hg
    refine sA ?_
    refine⟨by omega,?_⟩
    refine⟨i+1,?_,sL,aw [] ?_ ?_ rfl rfl⟩
    rotate_left
    ·refine sA ?_
     all_goals(simp[aq, *];done)
    ·exact sC
    exact⟨by omega,hg⟩
   ·rw[h2] at hg
    simp only[if_true] at hg
    refine sA ?_
    refine an ?_
    refine sA ?_
    all_goals(simp[hg];done)
  ·rw[al (by omega),fX] at hg
   simp -implicitDefEqProofs only[go_sem,h1]
   refine an ?_
   refine sA ?_
   all_goals(simp[hg];done)
theorem pH(f:Nat)(cap:List PV)(jP:tr 0 cap=true)(p:Term→Bool)(xs:List Term)(hf:∀x∈xs,C E.P f (av (cT x)::cap) [] (bN (bv (p x)) [])) :
 C E.P 96 [lv (aP xs),.fn f cap] [] (bN (iv (idxOf p xs)) []):=by
 refine gS (nt:=19) (rs:=[.tmp 4]) hm Tryz.func96 fun hl he cI=>?_
 refine aO hm (fun(i:Nat)=> i≤xs.length∧idxOf p xs=fX p (xs.drop i) i) (fun(i:Nat)=> ⟨dB 19 .any [(0,lv (aP xs)),(1,.fn f cap),(7,iv xs.length),(8,iv i)],[]⟩) (fun(i:Nat)=> xs.length-i) (0) ?_ (aw [] ?_ ?_ rfl rfl) ?_
 rotate_left
 ·refine sA ?_
  all_goals(simp[aq, *];done)
 ·exact sC
 rotate_left
 ·simp[idxOf]
 ·rintro i ⟨hi,hg⟩
  rcases aa (i<xs.length) with h1|h1
  ·rw[aj h1,fX] at hg
   simp -implicitDefEqProofs only[go_sem,h1]
   have hc:=hf xs[i] (ak h1)
   refine bQ cap hc ?_ ?_<;>simp -implicitDefEqProofs only[go_sem,jP]
   cases h2:p xs[i]
   ·rw[h2] at hg
    simp only[ax,if_false] at hg
    refine sA ?_
    refine⟨by omega,?_⟩
    refine⟨i+1,?_,sL,aw [] ?_ ?_ rfl rfl⟩
    rotate_left
    ·refine sA ?_
     all_goals(simp[aq, *];done)
    ·exact sC
    exact⟨by omega,hg⟩
   ·rw[h2] at hg
    simp only[if_true] at hg
    refine sA ?_
    refine an ?_
    refine sA ?_
    all_goals(simp[hg];done)
  ·rw[al (by omega),fX] at hg
   simp -implicitDefEqProofs only[go_sem,h1]
   refine an ?_
   refine sA ?_
   all_goals(simp[hg];done)
theorem DR(f:Nat)(cap:List PV)(jP:tr 0 cap=true)(p:ia→Bool)(xs:List ia)(hf:∀x∈xs,C E.P f (av (eG x)::cap) [] (bN (bv (p x)) [])) :
 C E.P 230 [lv (c9 xs),.fn f cap] [] (bN (iv (idxOf p xs)) []):=by
 refine gS (nt:=19) (rs:=[.tmp 4]) hm Tryz.func230 fun hl he cI=>?_
 refine aO hm (fun(i:Nat)=> i≤xs.length∧idxOf p xs=fX p (xs.drop i) i) (fun(i:Nat)=> ⟨dB 19 .any [(0,lv (c9 xs)),(1,.fn f cap),(7,iv xs.length),(8,iv i)],[]⟩) (fun(i:Nat)=> xs.length-i) (0) ?_ (aw [] ?_ ?_ rfl rfl) ?_
 rotate_left
 ·refine sA ?_
  all_goals(simp[aq, *];done)
 ·exact sC
 rotate_left
 ·simp[idxOf]
 ·rintro i ⟨hi,hg⟩
  rcases aa (i<xs.length) with h1|h1
  ·rw[aj h1,fX] at hg
   simp -implicitDefEqProofs only[go_sem,h1]
   have hc:=hf xs[i] (ak h1)
   refine bQ cap hc ?_ ?_<;>simp -implicitDefEqProofs only[go_sem,jP]
   cases h2:p xs[i]
   ·rw[h2] at hg
    simp only[ax,if_false] at hg
    refine sA ?_
    refine⟨by omega,?_⟩
    refine⟨i+1,?_,sL,aw [] ?_ ?_ rfl rfl⟩
    rotate_left
    ·refine sA ?_
     all_goals(simp[aq, *];done)
    ·exact sC
    exact⟨by omega,hg⟩
   ·rw[h2] at hg
    simp only[if_true] at hg
    refine sA ?_
    refine an ?_
    refine sA ?_
    all_goals(simp[hg];done)
  ·rw[al (by omega),fX] at hg
   simp -implicitDefEqProofs only[go_sem,h1]
   refine an ?_
   refine sA ?_
   all_goals(simp[hg];done)
theorem r8(f:Nat)(cap:List PV)(jP:tr 0 cap=true)(p:Int→Bool)(xs:List Int)(hf:∀x∈xs,C E.P f (iv x::cap) [] (bN (bv (p x)) [])) :
 C E.P 157 [lv (bG xs),.fn f cap] [] (bN (bv (xs.any p)) []):=by
 refine gS (nt:=9) (rs:=[.tmp 4]) hm Tryz.func157 fun hl he cI=>?_
 refine bQ [] (DL f cap jP p xs hf) ?_ ?_<;>simp -implicitDefEqProofs only[go_sem,jP]
 refine an ?_
 refine sA ?_
 all_goals(simp[AA];done)
theorem x9(f:Nat)(cap:List PV)(jP:tr 0 cap=true)(p:Term→Bool)(xs:List Term)(hf:∀x∈xs,C E.P f (av (cT x)::cap) [] (bN (bv (p x)) [])) :
 C E.P 86 [lv (aP xs),.fn f cap] [] (bN (bv (xs.any p)) []):=by
 refine gS (nt:=9) (rs:=[.tmp 4]) hm Tryz.func86 fun hl he cI=>?_
 refine bQ [] (pH f cap jP p xs hf) ?_ ?_<;>simp -implicitDefEqProofs only[go_sem,jP]
 refine an ?_
 refine sA ?_
 all_goals(simp[AA];done)
theorem zc(f:Nat)(cap:List PV)(jP:tr 0 cap=true)(p:ia→Bool)(xs:List ia)(hf:∀x∈xs,C E.P f (av (eG x)::cap) [] (bN (bv (p x)) [])) :
 C E.P 169 [lv (c9 xs),.fn f cap] [] (bN (bv (xs.any p)) []):=by
 refine gS (nt:=9) (rs:=[.tmp 4]) hm Tryz.func169 fun hl he cI=>?_
 refine bQ [] (DR f cap jP p xs hf) ?_ ?_<;>simp -implicitDefEqProofs only[go_sem,jP]
 refine an ?_
 refine sA ?_
 all_goals(simp[AA];done)
theorem uj(f:Nat)(xs ys:List Term)(hf:∀x∈xs,∀y,C E.P f [av (cT x),av (cT y)] [] (bN (bv (decide (x=y))) [])) :
 C E.P 82 [lv (aP xs),lv (aP ys),.fn f []] [] (bN (bv (decide (xs=ys))) []):=by
 refine gS (nt:=32) (rs:=[.tmp 6]) hm Tryz.func82 fun hl he cI=>?_
 rcases aa (xs.length=ys.length) with hl' | hl'
 ·simp -implicitDefEqProofs only[go_sem,hl']
  refine aO hm (fun(i:Nat)=> i≤ys.length∧decide (xs=ys)=decide (xs.drop i=ys.drop i)) (fun(i:Nat)=> ⟨dB 32 .any [(1,lv (aP ys)),(2,.fn f []),(15,lv (aP xs)),(16,iv ys.length),(17,iv i)],[]⟩) (fun(i:Nat)=> ys.length-i) (0) ?_ (aw [] ?_ ?_ rfl rfl) ?_
  rotate_left
  ·exact sC
  ·exact sC
  rotate_left
  ·simp
  ·rintro i ⟨hi,hg⟩
   rcases aa (i<ys.length) with h1|h1
   ·have h2:i<xs.length:=by omega
    rw[aj h1,aj h2] at hg
    simp -implicitDefEqProofs only[go_sem,h1,h2]
    have hc:=hf xs[i] (ak h2) ys[i]
    refine aC [] hc ?_
    rcases aa (xs[i]=ys[i]) with h3|h3
    ·simp -implicitDefEqProofs only[go_sem,h3]
     refine⟨by omega,?_⟩
     refine⟨i+1,?_,sL,aw [] ?_ ?_ rfl rfl⟩
     rotate_left
     ·exact sC
     ·exact sC
     exact⟨by omega,by rw[hg];simp only[h3,List.cons.injEq,true_and]⟩
    ·have hg:decide (xs=ys)=false:=by rw[hg];simp only[h3,List.cons.injEq,false_and,decide_false]
     simp -implicitDefEqProofs only[go_sem,h3]
     refine an ?_
     refine sA ?_
     all_goals(simp[hg];done)
   ·have hg:decide (xs=ys)=true:=by
     rw[hg,al (by omega),al (by omega)]
     rfl
    simp -implicitDefEqProofs only[go_sem,h1]
    refine an ?_
    refine sA ?_
    all_goals(simp[hg];done)
 ·have hn:¬xs=ys:=fun h=>hl' (by rw[h])
  simp -implicitDefEqProofs only[go_sem,hl']
  refine an ?_
  refine sA ?_
  all_goals(simp[hn];done)
theorem pX{a b:Term}:a=b↔a.name=b.name∧a.kids=b.kids:=by
 cases a;cases b;simp[Term.name,Term.kids]
theorem B9(a b:Term)(ih:∀k∈a.kids,∀y,C E.P 30 [av (cT k),av (cT y)] [] (bN (bv (decide (k=y))) [])):C E.P 30 [av (cT a),av (cT b)] [] (bN (bv (decide (a=b))) []):=by
 refine gS (nt:=17) (rs:=[.tmp 4]) hm Tryz.func30 fun hl he cI=>?_
 rcases aa (a.name=b.name) with h|h
 ·simp -implicitDefEqProofs only[go_sem,h]
  refine aC [] (uj 30 a.kids b.kids ih) ?_
  refine an ?_
  refine sA ?_
  all_goals(simp[pX,h];done)
 ·simp -implicitDefEqProofs only[go_sem,h]
  refine an ?_
  refine sA ?_
  all_goals(simp[pX,h];done)
theorem ny:∀a b,C E.P 30 [av (cT a),av (cT b)] [] (bN (bv (decide (a=b))) []):=
 Term.ind fun n ks ih b=>B9 _ b ih
theorem yU(t u:Term):C E.P 180 [av (cT u),.gn [cT t] 0 0] [] (bN (bv (decide (t=u))) []):=by
 refine gS (nt:=7) (rs:=[.tmp 3]) hm Tryz.func180 fun hl he cI=>?_
 refine aC [] (ny t u) ?_
 refine an ?_
 exact sC
theorem eF(ts:List Term)(t:Term):C E.P 110 [lv (aP ts),av (cT t)] [] (bN (iv (bM ts t)) []):=by
 refine gS (nt:=8) (rs:=[.tmp 4]) hm Tryz.func110 fun hl he cI=>?_
 refine dL [] [0] (pH 180 [.gn [cT t] 0 0] rfl (fun u=>decide (t=u)) ts (fun u _=>yU t u)) rfl ?_ ?_ ?_
 ·exact sV
 all_goals simp -implicitDefEqProofs only[go_sem]
 refine an ?_
 refine sA ?_
 all_goals(simp[bM];done)
theorem BM(ts:List Term)(ih:∀k∈ts,C E.P 56 [av (cT k)] [] (bN (av (cT k)) [])):C E.P 117 [lv (aP ts)] [] (bN (lv (aP ts)) []):=by
 refine gS (nt:=19) (rs:=[.tmp 2]) hm Tryz.func117 fun hl he cI=>?_
 refine aO hm (fun(i:Nat)=> i≤ts.length) (fun(i:Nat)=> ⟨dB 19 .any [(3,.acc 0),(6,lv (aP ts)),(7,iv ts.length),(8,iv i)],[some (.acc 34 (aP (ts.take i)))]⟩) (fun(i:Nat)=> ts.length-i) (0) ?_ (aw [none] ?_ ?_ rfl rfl) ?_
 rotate_left
 ·exact sC
 ·exact sC
 rotate_left
 ·omega
 ·rintro i hi
  rcases aa (i<ts.length) with h1|h1
  ·simp -implicitDefEqProofs only[go_sem,h1]
   have hc:=ih ts[i] (ak h1)
   refine aC [] hc ?_
   refine⟨by omega,by omega,?_⟩
   refine⟨i+1,?_,sL,aw [some 2] ?_ ?_ rfl rfl⟩
   rotate_left
   ·exact sC
   ·refine sA ?_
    all_goals(exact o9 h1)
   exact h1
  ·simp -implicitDefEqProofs only[go_sem,h1]
   refine an ?_
   refine sA ?_
   rw[ao (by omega)]
theorem MF(t:Term)(ih:∀k∈t.kids,C E.P 56 [av (cT k)] [] (bN (av (cT k)) [])):C E.P 56 [av (cT t)] [] (bN (av (cT t)) []):=by
 refine gS (nt:=9) (rs:=[.cell 2 34]) hm Tryz.func56 fun hl he cI=>?_
 refine aC [] (BM t.kids ih) ?_
 refine iK ?_
 skip
 refine an ?_
 exact sC
theorem jW:∀t,C E.P 56 [av (cT t)] [] (bN (av (cT t)) []):=
 Term.ind fun n ks ih=>MF _ ih
theorem Ar(t:Term)(ih:∀k∈t.kids,∀(d:Nat)(l:List Term),d≤4→bL k d=true→l.length≤999000+15*(4-d)→C E.P 95 [.acc 0,av (cT k)] [some (.acc 34 (aP l))] (bN (.acc 1) [some .dead,some (.acc 34 (aP (de l k)))]))(d:Nat)(l:List Term)
 (hd:d≤4) (hsh:bL t d=true) (hl1:l.length≤999000+15*(4-d)) :
 C E.P 95 [.acc 0,av (cT t)] [some (.acc 34 (aP l))] (bN (.acc 1) [some .dead,some (.acc 34 (aP (de l t)))]):=by
 cases d with
 | zero=>cases t;simp[bL] at hsh
 | succ d=>
 have hk:=nU hsh
 have hle:=fun i=>yL (l:=l) hsh (by omega) i
 refine gS (nt:=28) (rs:=[.tmp 4]) hm Tryz.func95 fun hl he cI=>?_
 refine aO hm (fun(i:Nat)=> i≤t.kids.length) (fun(i:Nat)=> ⟨dB 28 .any [(0,.acc 2),(3,.ptr 1 0),(8,lv (aP t.kids)),(9,iv t.kids.length),(10,iv i)],[some .dead,some (.box (cF (cT t))),some (.acc 34 (aP (ba l (t.kids.take i))))]⟩) (fun(i:Nat)=> t.kids.length-i) (0) ?_ (aw [some 0,some 1,some 0] ?_ ?_ rfl rfl) ?_
 rotate_left
 ·exact sC
 ·refine sA ?_
  all_goals(simp only[ba])
 rotate_left
 ·omega
 ·rintro i hi
  rcases aa (i<t.kids.length) with h1|h1
  ·simp -implicitDefEqProofs only[go_sem,h1]
   have hc:=ih t.kids[i] (ak h1) d (ba l (t.kids.take i)) (by omega) (n7 hk.2.2 _ (ak h1)) (by have:=hle i;omega)
   refine oC [] [2,4] hc ?_
   refine⟨by omega,?_⟩
   refine⟨i+1,?_,sL,aw [some 0,some 1,some 4] ?_ ?_ rfl rfl⟩
   rotate_left
   ·exact sC
   ·refine sA ?_
    all_goals(simp only[qO h1])
   exact h1
  ·have e:t.kids.take i=t.kids:=ao (by omega)
   have h2:=hle i
   rw[e] at h2
   simp -implicitDefEqProofs only[go_sem,h1,e]
   refine dL [] [2] (eF (ba l t.kids) t) rfl ?_ ?_ ?_
   ·exact sV
   all_goals simp -implicitDefEqProofs only[go_sem]
   rcases aa (bM (ba l t.kids) t<0) with hx|hx
   ·simp -implicitDefEqProofs only[go_sem,hx]
    refine aC [] (jW t) ?_
    refine⟨by omega,?_⟩
    refine bX [some 0,some 3] ?_ rfl rfl
    refine sA ?_
    rw[qX,if_pos hx,←lR,dM,lW]
    rfl
   ·simp -implicitDefEqProofs only[go_sem,hx]
    refine bX [some 0,some 2] ?_ rfl rfl
    refine sA ?_
    rw[qX,if_neg hx]
theorem B4:∀(t:Term)(d:Nat)(l:List Term),d≤4→bL t d=true→l.length≤999000+15*(4-d)→C E.P 95 [.acc 0,av (cT t)] [some (.acc 34 (aP l))] (bN (.acc 1) [some .dead,some (.acc 34 (aP (de l t)))]):=
 Term.ind fun n ks ih d l h1 h2 h3=>Ar (.mk n ks) ih d l h1 h2 h3
theorem LQ(t:Term)(dq:Nat):kZ t dq=if fD t.name&&decide (t.kids.length≤2)&&decide (dq≤4) then 1+fl t.kids (dq+1) else 13:=by
 cases t;rfl
theorem Gh{ts:List Term}{i:Nat}(h:i<ts.length)(dq:Nat):fl (ts.take (i+1)) dq=fl (ts.take i) dq+kZ ts[i] dq:=by
 have e:ts.take (i+1)=ts.take i++[ts[i]]:=by rw[List.take_add_one,List.getElem?_eq_getElem h];rfl
 have key:∀(xs ys:List Term),fl (xs++ys) dq=fl xs dq+fl ys dq:=by
  intro xs ys
  induction xs with
  | nil=>simp[fl]
  | cons a xs ih=>simp only[List.cons_append,fl,ih];omega
 rw[e,key]
 simp[fl]
theorem BZ(t:Term)(ih:∀k∈t.kids,∀dq:Nat,1≤dq→dq≤5→C E.P 166 [av (cT k),iv dq] [] (bN (iv (kZ k dq)) []))(dq:Nat)(g1:1≤dq)(g5:dq≤5) :
 C E.P 166 [av (cT t),iv dq] [] (bN (iv (kZ t dq)) []):=by
 have ht:=LQ t dq
 refine gS (nt:=37) (rs:=[.tmp 4]) hm Tryz.func166 fun hl he cI=>?_
 refine aC [] (tH t.name) ?_
 cases hn:fD t.name
 ·rw[hn] at ht
  refine sA ?_
  refine an ?_
  refine sA ?_
  all_goals(simp[ht];done)
 ·rw[hn] at ht
  rcases aa ((2:Int)<(t.kids.length:Int)) with h2|h2
  ·have h2':¬t.kids.length≤2:=by omega
   simp only[h2',decide_false,gX,aS,ax,if_false] at ht
   simp -implicitDefEqProofs only[go_sem,h2]
   refine an ?_
   refine sA ?_
   all_goals(simp[ht];done)
  ·have h2':t.kids.length≤2:=by omega
   rcases aa ((4:Int)<(dq:Int)) with h4|h4
   ·have h4':¬dq≤4:=by omega
    simp only[h4',decide_false,gX,ax,if_false] at ht
    simp -implicitDefEqProofs only[go_sem,h2,h4]
    refine an ?_
    refine sA ?_
    all_goals(simp[ht];done)
   ·have h4':dq≤4:=by omega
    simp only[h2',h4',decide_true,Bool.and_self,if_true] at ht
    simp -implicitDefEqProofs only[go_sem,h2,h4]
    refine aO hm (fun(i:Nat)=> i≤t.kids.length) (fun(i:Nat)=> ⟨dB 37 .any [(1,iv dq),(5,iv ((1+fl (t.kids.take i) (dq+1):Nat):Int)),(23,lv (aP t.kids)),(24,iv t.kids.length),(25,iv i)],[]⟩) (fun(i:Nat)=> t.kids.length-i) (0) ?_ (aw [] ?_ ?_ rfl rfl) ?_
    rotate_left
    ·refine sA ?_
     all_goals(simp[fl])
    ·exact sC
    rotate_left
    ·omega
    ·rintro i hi
     have hb:=vk (t.kids.take i) (dq+1) (by omega) (by omega)
     have hp:(2:Nat) ^ (5-(dq+1))≤2 ^ 4:=Nat.pow_le_pow_right (by omega) (by omega)
     have hq:(t.kids.take i).length*(27*2 ^ (5-(dq+1))-14)≤2*(27*2 ^ (5-(dq+1))-14):=Nat.mul_le_mul_right _ (by simp;omega)
     rcases aa (i<t.kids.length) with h1|h1
     ·have hk:=CT t.kids[i] (dq+1) (by omega) (by omega)
      simp -implicitDefEqProofs only[go_sem,h1]
      refine⟨by omega,?_⟩
      have hc:=ih t.kids[i] (ak h1) (dq+1) (by omega) (by omega)
      refine aC [] hc ?_
      refine⟨by omega,by omega,?_⟩
      refine⟨i+1,?_,sL,aw [] ?_ ?_ rfl rfl⟩
      rotate_left
      ·refine sA ?_
       all_goals((simp only[Gh h1];simp;omega))
      ·exact sC
      exact h1
     ·rw[←ao (l:=t.kids) (i:=i) (by omega)] at ht
      simp -implicitDefEqProofs only[go_sem,h1]
      refine an ?_
      refine sA ?_
      all_goals(simp[ht];done)
theorem DT:∀(t:Term)(dq:Nat),1≤dq→dq≤5→C E.P 166 [av (cT t),iv dq] [] (bN (iv (kZ t dq)) []):=
 Term.ind fun n ks ih dq h1 h2=>BZ (.mk n ks) ih dq h1 h2
theorem nk(t:Term):C E.P 94 [av (cT t)] [] (bN (bv (isTerm t)) []):=by
 refine gS (nt:=6) (rs:=[.tmp 2]) hm Tryz.func94 fun hl he cI=>?_
 have hc:=DT t 1 (by omega) (by omega)
 refine aC [] hc ?_
 refine an ?_
 refine sA ?_
 all_goals(simp[isTerm];omega)
theorem yE(n:Int):C E.P 156 [iv n] [] (bN (bv (isSort n)) []):=by
 refine gS (nt:=9) (rs:=[.tmp 2]) hm Tryz.func156 fun hl he cI=>?_
 rcases aa (n=0) with h|h
 ·simp -implicitDefEqProofs only[go_sem,h]
  refine an ?_
  refine sA ?_
  all_goals(simp[isSort];done)
 ·simp -implicitDefEqProofs only[go_sem,h]
  refine an ?_
  refine sA ?_
  all_goals(simp[isSort,h];done)
theorem DD(n:Int):C E.P 158 [iv n] [] (bN (bv (!isSort n)) []):=by
 refine gS (nt:=6) (rs:=[.tmp 2]) hm Tryz.func158 fun hl he cI=>?_
 refine aC [] (yE n) ?_
 refine an ?_
 exact sC
theorem HS(x:Sym):C E.P 83 [av (vK x)] [] (bN (bv (nW x)) []):=by
 refine gS (nt:=23) (rs:=[.tmp 2]) hm Tryz.func83 fun hl he cI=>?_
 refine aC [] (tH x.name) ?_
 cases h1:fD x.name
 ·simp -implicitDefEqProofs only[go_sem]
  refine an ?_
  refine sA ?_
  all_goals(simp[nW,h1];done)
 ·rcases aa ((x.args.length:Int)≤2) with h2|h2
  ·have h2':x.args.length≤2:=by omega
   simp -implicitDefEqProofs only[go_sem,h2]
   refine aC [] (yE x.sort) ?_
   cases h3:isSort x.sort
   ·refine sA ?_
    refine an ?_
    refine sA ?_
    all_goals(simp[nW,h1,h2',h3];done)
   ·refine sA ?_
    refine aC [] (r8 158 [] rfl (fun n=>!isSort n) x.args (fun n _=>DD n)) ?_
    refine an ?_
    refine sA ?_
    all_goals(simp[nW,h1,h2',h3,List.all_eq_not_any_not];done)
  ·have h2':¬x.args.length≤2:=by omega
   simp -implicitDefEqProofs only[go_sem,h2]
   refine an ?_
   refine sA ?_
   all_goals(simp[nW,h1,h2'];done)
def kg(l:List Sym):Nat→Option nh
 | 0=>none
 | j+1=>(l[j]?).map (·.name)
theorem rf(s:dG):C E.P 32 [av (dX s)] [] (bN (bv (fG s)) []):=by
 refine gS (nt:=37) (rs:=[.tmp 2]) hm Tryz.func32 fun hl he cI=>?_
 refine aO hm (fun(i:Nat)=> i≤s.syms.length∧qN none s.syms=qN (kg s.syms i) (s.syms.drop i)) (fun(i:Nat)=> ⟨dB 37 .any [(1,.ptr 0 0),(6,lv (hX s.syms)),(7,iv s.syms.length),(8,iv i)],[some (.box (cF (dX s)))]⟩) (fun(i:Nat)=> s.syms.length-i) (0) ?_ (aw [some 0] ?_ ?_ rfl rfl) ?_
 rotate_left
 ·exact sC
 ·exact sC
 rotate_left
 ·simp[kg]
 ·rintro i ⟨hi,hg⟩
  rcases aa (i<s.syms.length) with h1|h1
  ·rw[aj h1] at hg
   simp only[qN] at hg
   simp -implicitDefEqProofs only[go_sem,h1]
   refine aC [] (HS s.syms[i]) ?_
   cases h2:nW s.syms[i]
   ·have e:fG s=false:=by simp[fG,hg,h2]
    refine sA ?_
    refine iK ?_
    skip
    refine an ?_
    refine sA ?_
    all_goals(simp[e];done)
   ·rw[h2,aM] at hg
    cases i with
    | zero=>
      simp only[kg,aM] at hg
      simp -implicitDefEqProofs only[go_sem,Int.lt_irrefl]
      refine iK ?_
      skip
      refine⟨by omega,?_⟩
      refine⟨0+1,?_,sL,aw [some 0] ?_ ?_ rfl rfl⟩
      rotate_left
      ·refine sA ?_
       all_goals(simp[*];done)
      ·exact sC
      refine⟨by omega,?_⟩
      rw[hg]
      simp[kg,h1]
    | succ j=>
      have hj:j<s.syms.length:=by omega
      have e1:((j:Int)+1-1)=(j:Int):=by omega
      have e2:(0:Int)<(j:Int)+1:=by omega
      have e3:kg s.syms (j+1)=some s.syms[j].name:=by simp[kg,hj]
      rw[e3] at hg
      simp only at hg
      simp -implicitDefEqProofs only[go_sem,e1,e2,hj]
      refine⟨by omega,?_⟩
      cases h4:gr s.syms[j].name s.syms[j+1].name
      ·rw[h4,aS] at hg
       have e:fG s=false:=by simp[fG,hg]
       have h5:Op.bytesLess s.syms[j].name s.syms[j+1].name=false:=h4
       simp -implicitDefEqProofs only[go_sem,h5]
       refine iK ?_
       skip
       refine an ?_
       refine sA ?_
       all_goals(simp[e];done)
      ·rw[h4,aM] at hg
       have h5:Op.bytesLess s.syms[j].name s.syms[j+1].name=true:=h4
       simp -implicitDefEqProofs only[go_sem,h5]
       refine iK ?_
       skip
       refine⟨by omega,?_⟩
       refine⟨j+1+1,?_,sL,aw [some 0] ?_ ?_ rfl rfl⟩
       rotate_left
       ·exact sC
       ·exact sC
       refine⟨by omega,?_⟩
       rw[hg]
       simp[kg,h1]
  ·rw[al (by omega)] at hg
   simp only[qN] at hg
   have e:fG s=decide ((s.syms.length:Int)≤7):=by simp[fG,hg];omega
   simp -implicitDefEqProofs only[go_sem,h1]
   refine an ?_
   refine sA ?_
   all_goals(simp[e];done)
theorem sS(s:dG)(n:nh):C E.P 73 [av (dX s),sv n] [] (bN (.ja [av (vK ((symbol s n).getD sg)),bv (symbol s n).isSome]) []):=by
 refine gS (nt:=22) (rs:=[.cell 4 126,.tmp 5]) hm Tryz.func73 fun hl he cI=>?_
 refine aO hm (fun(i:Nat)=> i≤s.syms.length∧symbol s n=(s.syms.drop i).find? (fun x=>decide (x.name=n))) (fun(i:Nat)=> ⟨dB 22 .any [(1,sv n),(4,.ptr 1 0),(9,lv (hX s.syms)),(10,iv s.syms.length),(11,iv i)],[some (.box (cF (dX s))),some (.box (cF (vK sg)))]⟩) (fun(i:Nat)=> s.syms.length-i) (0) ?_ (aw [some 0,some 1] ?_ ?_ rfl rfl) ?_
 rotate_left
 ·exact sC
 ·exact sC
 rotate_left
 ·simp[symbol]
 ·rintro i ⟨hi,hg⟩
  rcases aa (i<s.syms.length) with h1|h1
  ·rw[aj h1] at hg
   rcases aa (s.syms[i].name=n) with h2|h2
   ·have e:symbol s n=some s.syms[i]:=by rw[hg];simp only[dA,h2,decide_true]
    simp -implicitDefEqProofs only[go_sem,h1,h2]
    refine an ?_
    refine sA ?_
    all_goals(simp[e,h2];done)
   ·have e:symbol s n=(s.syms.drop (i+1)).find? (fun x=>decide (x.name=n)):=by rw[hg];simp only[dA,h2,decide_false]
    simp -implicitDefEqProofs only[go_sem,h1,h2]
    refine⟨by omega,?_⟩
    refine⟨i+1,?_,sL,aw [some 0,some 1] ?_ ?_ rfl rfl⟩
    rotate_left
    ·exact sC
    ·exact sC
    exact⟨by omega,e⟩
  ·have e:symbol s n=none:=by rw[hg,al (by omega)];rfl
   simp -implicitDefEqProofs only[go_sem,h1]
   refine an ?_
   refine sA ?_
   all_goals(simp[e,sg,tW];done)
theorem Iz(s:dG)(t:Term):fI s t=match symbol s t.name with
 | none=>none
 | some x=>if decide (x.args.length=t.kids.length)&&gy s t.kids x.args then some x.sort else none:=by
 cases t;simp only[fI,Term.name,Term.kids];rfl
theorem z7{s:dG}{ks:List Term}{ns:List Int}{i:Nat}(h:i<ks.length)(h':i<ns.length):gy s (ks.drop i) (ns.drop i)=(decide (fI s ks[i]=some ns[i])&&gy s (ks.drop (i+1)) (ns.drop (i+1))):=by
 rw[aj h,aj h',gy]
theorem zK(s:dG)(t:Term)(ih:∀k∈t.kids,C E.P 167 [av (dX s),av (cT k)] [] (bN (.ja [iv ((fI s k).getD 0),bv (fI s k).isSome]) [])) :
 C E.P 167 [av (dX s),av (cT t)] [] (bN (.ja [iv ((fI s t).getD 0),bv (fI s t).isSome]) []):=by
 have ht:=Iz s t
 refine gS (nt:=58) (rs:=[.tmp 4,.tmp 5]) hm Tryz.func167 fun hl he cI=>?_
 refine aC [] (sS s t.name) ?_
 cases hx:symbol s t.name with
 | none=>
   rw[hx] at ht
   simp only at ht
   simp -implicitDefEqProofs only[go_sem,aU]
   refine an ?_
   refine sA ?_
   all_goals(simp[ht];done)
 | some x=>
   rw[hx] at ht
   simp only at ht
   rcases aa (x.args.length=t.kids.length) with h1|h1
   ·simp only[h1,decide_true,aM] at ht
    simp -implicitDefEqProofs only[go_sem,aJ,aK,h1]
    refine aO hm (fun(i:Nat)=> i≤t.kids.length∧gy s t.kids x.args=gy s (t.kids.drop i) (x.args.drop i)) (fun(i:Nat)=> ⟨dB 58 .any [(2,.ptr 0 0),(6,.ptr 2 0),(31,lv (aP t.kids)),(32,iv t.kids.length),(33,iv i)],[some (.box (cF (dX s))),some (.box (cF (cT t))),some (.box (cF (vK x)))]⟩) (fun(i:Nat)=> t.kids.length-i) (0) ?_ (aw [some 0,some 1,some 2] ?_ ?_ rfl rfl) ?_
    rotate_left
    ·exact sC
    ·exact sC
    rotate_left
    ·simp
    ·rintro i ⟨hi,hg⟩
     rcases aa (i<t.kids.length) with h2|h2
     ·have h3:i<x.args.length:=by omega
      rw[z7 h2 h3] at hg
      simp -implicitDefEqProofs only[go_sem,h2]
      have hc:=ih t.kids[i] (ak h2)
      refine aC [] hc ?_
      cases hk:fI s t.kids[i] with
      | none=>
        rw[hk] at hg
        have hz:gy s t.kids x.args=false:=by rw[hg];simp
        rw[hz] at ht
        simp only[ax,if_false] at ht
        simp -implicitDefEqProofs only[go_sem,aU]
        refine an ?_
        refine sA ?_
        all_goals(simp[ht];done)
      | some n=>
        rw[hk] at hg
        rcases aa (n=x.args[i]) with hn|hn
        ·have hz:gy s t.kids x.args=gy s (t.kids.drop (i+1)) (x.args.drop (i+1)):=by rw[hg,hn];simp
         simp -implicitDefEqProofs only[go_sem,aJ,aK,hn,h3]
         refine⟨by omega,?_⟩
         refine⟨i+1,?_,sL,aw [some 0,some 1,some 2] ?_ ?_ rfl rfl⟩
         rotate_left
         ·exact sC
         ·exact sC
         exact⟨by omega,hz⟩
        ·have hz:gy s t.kids x.args=false:=by
          rw[hg]
          simp[hn]
         rw[hz] at ht
         simp only[ax,if_false] at ht
         simp -implicitDefEqProofs only[go_sem,aJ,aK,hn,h3]
         refine an ?_
         refine sA ?_
         all_goals(simp[ht];done)
     ·rw[al (by omega),al (by omega)] at hg
      rw[hg] at ht
      simp only[gy,if_true] at ht
      simp -implicitDefEqProofs only[go_sem,h2]
      refine an ?_
      refine sA ?_
      all_goals(simp[ht];done)
   ·simp only[h1,decide_false,aS,ax,if_false] at ht
    have h1':¬ (x.args.length:Int)=t.kids.length:=by omega
    simp -implicitDefEqProofs only[go_sem,aJ,aK,h1]
    refine an ?_
    refine sA ?_
    all_goals(simp[ht];done)
theorem Bq(s:dG):∀(t:Term),C E.P 167 [av (dX s),av (cT t)] [] (bN (.ja [iv ((fI s t).getD 0),bv (fI s t).isSome]) []):=
 Term.ind fun n ks ih=>zK s (.mk n ks) ih
theorem qG(s:dG)(t:Term):C E.P 97 [av (dX s),av (cT t)] [] (bN (.ja [iv ((fj s t).getD 0),bv (fj s t).isSome]) []):=by
 refine gS (nt:=19) (rs:=[.tmp 4,.tmp 5]) hm Tryz.func97 fun hl he cI=>?_
 refine aC [] (rf s) ?_
 cases h1:fG s
 ·refine sA ?_
  refine an ?_
  refine sA ?_
  all_goals(simp[fj,h1];done)
 ·refine sA ?_
  refine aC [] (nk t) ?_
  cases h2:isTerm t
  ·refine sA ?_
   refine an ?_
   refine sA ?_
   all_goals(simp[fj,h1,h2];done)
  ·refine sA ?_
   refine aC [] (Bq s t) ?_
   refine an ?_
   refine sA ?_
   all_goals(simp[fj,h1,h2];done)
theorem vC(s:dG)(t:Term):C E.P 40 [av (dX s),av (cT t)] [] (bN (bv (dk s t)) []):=by
 refine gS (nt:=18) (rs:=[.tmp 4]) hm Tryz.func40 fun hl he cI=>?_
 refine aC [] (qG s t) ?_
 cases h:fj s t with
 | none=>
   simp -implicitDefEqProofs only[go_sem,aU]
   refine an ?_
   refine sA ?_
   all_goals(simp[dk,h];done)
 | some n=>
   simp -implicitDefEqProofs only[go_sem,aJ,aK]
   refine an ?_
   refine sA ?_
   all_goals(simp[dk,h];done)
theorem yF(t:Term):C E.P 151 [av (cT t)] [] (bN (bv (isNone t)) []):=by
 refine gS (nt:=12) (rs:=[.tmp 2]) hm Tryz.func151 fun hl he cI=>?_
 rcases aa (t.name=[]) with h|h
 ·simp -implicitDefEqProofs only[go_sem,h]
  refine an ?_
  refine sA ?_
  all_goals(simp[isNone,h];done)
 ·simp -implicitDefEqProofs only[go_sem,h]
  refine an ?_
  refine sA ?_
  all_goals(simp[isNone,h];done)
theorem Cl(e:iA)(s:dG):C E.P 85 [av (cEq e),av (dX s)] [] (bN (bv (iI s e)) []):=by
 refine gS (nt:=32) (rs:=[.tmp 4]) hm Tryz.func85 fun hl he cI=>?_
 refine aC [] (qG s e.A) ?_
 refine aC [] (qG s e.B) ?_
 cases h1:fj s e.A with
 | none=>
   simp -implicitDefEqProofs only[go_sem,aU]
   refine an ?_
   refine sA ?_
   all_goals(simp[iI,h1];done)
 | some n=>
   cases h2:fj s e.B with
   | none=>
     simp -implicitDefEqProofs only[go_sem,aJ,aK,aU]
     refine an ?_
     refine sA ?_
     all_goals(simp[iI,h1,h2];done)
   | some m=>
     simp -implicitDefEqProofs only[go_sem,aJ,aK]
     refine an ?_
     refine sA ?_
     all_goals(simp[iI,h1,h2];done)
theorem s7(a:Atom):C E.P 36 [av (fN a)] [] (bN (lv (aP (b8 a))) []):=by
 refine gS (nt:=13) (rs:=[.tmp 2]) hm Tryz.func36 fun hl he cI=>?_
 rcases aa (a.kind=1) with h|h
 ·simp -implicitDefEqProofs only[go_sem,h]
  refine an ?_
  refine sA ?_
  all_goals(simp[b8,h,dM,lW,cT];done)
 ·simp -implicitDefEqProofs only[go_sem,h]
  refine an ?_
  refine sA ?_
  all_goals(simp[b8,h];done)
theorem Kb{xs:List Term}{i:Nat}(h:i<xs.length)(hi:isTerm xs[i]=true)(out:List Term):pV (xs.drop i) out=pV (xs.drop (i+1)) (de out xs[i]):=by
 rw[aj h,pV,hi];rfl
end Go.Proofs.YtabembjmeobhoaaGreat
