/-
  The walks of the small functions of the first chapters. A step towards the exact laws.
-/
import Derived.Test.YtabembjmeobhoaaGreatKBF
set_option linter.unusedVariables false
set_option linter.unusedSimpArgs false
open Bool renaming false_eq_true→ax,true_and→aM,false_and→aS,and_false→gX
open Classical renaming em→aa
open List renaming drop_eq_getElem_cons→aj,getElem_mem→ak,drop_of_length_le→al,take_of_length_le→ao,find?_cons→dA
open Option renaming isSome_some→aJ,getD_some→aK,isSome_none→aU
namespace Go.Proofs.YtabembjmeobhoaaGreat
open Go.Eng Go.Mod
open Int renaming reduceEq→Z1,reduceLT→Z2,reduceLE→Z3,reduceToNat→Z4
set_option maxRecDepth 100000
set_option maxHeartbeats 400000
theorem fU(n lo hi:Int):C E.P 77 [iv n,iv lo,iv hi] [] (bM (bv (within n lo hi)) []):=by
 refine gS (nt:=15) (rs:=[.tmp 6]) hm Tryz.func77 fun hl he cI=>?_
 refine SW (fun h=>?_) (fun h=>?_)<;>simp only[h,go_sem]
 ·refine an ?_
  refine sA ?_
  all_goals(simp[within,h];done)
 ·refine an ?_
  refine sA ?_
  all_goals(simp[within,h];done)
theorem tE(s:ni):C E.P 155 [sv s] [] (bM (bv (fE s)) []):=by
 refine gS (nt:=24) (rs:=[.tmp 2]) hm Tryz.func155 fun hl he cI=>?_
 have h:∃b,within s.length 1 2=b:=⟨_,rfl⟩
 obtain⟨b,h⟩:=h
 refine bQ [] (fU s.length 1 2) ?_ ?_<;>simp -implicitDefEqProofs only[go_sem,h]
 cases b
 ·refine sA ?_
  refine an ?_
  refine sA ?_
  all_goals(simp[fE,h];done)
 ·refine sA ?_
  refine aO hm (fun(i:Nat)=> i≤s.length∧fE s=(s.drop i).all iM) (fun(i:Nat)=> ⟨dB 24 .any [(0,sv s),(9,iv s.length),(10,iv i)],[]⟩) (fun(i:Nat)=> s.length-i) (0) ?_ (aw [] ?_ ?_ rfl rfl) ?_
  rotate_left
  ·exact sC
  ·exact sC
  rotate_left
  ·simp[fE,h]
  ·rintro i ⟨hi,hg⟩
   rcases aa (i<s.length) with h1|h1
   ·rw[aj h1,List.all_cons] at hg
    simp -implicitDefEqProofs only[go_sem,h1]
    rw[qY h1]
    rcases aa ((s[i].toNat:Int)<97) with h2|h2
    ·have h3:iM s[i]=false:=by simp[iM];omega
     rw[h3,aS] at hg
     simp -implicitDefEqProofs only[go_sem,h2]
     refine an ?_
     refine sA ?_
     all_goals(simp[hg];done)
    ·simp -implicitDefEqProofs only[go_sem,h2,h1]
     rw[qY h1]
     rcases aa (122<(s[i].toNat:Int)) with h4|h4
     ·have h3:iM s[i]=false:=by simp[iM];omega
      rw[h3,aS] at hg
      simp -implicitDefEqProofs only[go_sem,h4]
      refine an ?_
      refine sA ?_
      all_goals(simp[hg];done)
     ·have h3:iM s[i]=true:=by simp[iM];omega
      rw[h3,aM] at hg
      simp -implicitDefEqProofs only[go_sem,h4]
      refine⟨by omega,?_⟩
      refine⟨i+1,?_,sL,aw [] ?_ ?_ rfl rfl⟩
      rotate_left
      ·exact sC
      ·exact sC
      exact⟨by omega,hg⟩
   ·rw[al (by omega)] at hg
    simp -implicitDefEqProofs only[go_sem,h1]
    refine an ?_
    refine sA ?_
    all_goals(simp[hg];done)
theorem Mn{α:Type}{p:α→Bool}:∀{xs:List α}{i:Int},0≤i→(0≤fX p xs i↔xs.any p=true)
 | [],i,h=>by simp[fX]
 | x::xs,i,h=>by
   simp only[fX,List.any_cons,Bool.or_eq_true]
   split
   ·rename_i hx
    simp[hx,h]
   ·rename_i hx
    rw[Mn (by omega)]
    simp[hx]
theorem AX{α:Type}{p:α→Bool}{xs:List α}:decide (0≤idxOf p xs)=xs.any p:=by
 rw[Bool.eq_iff_iff,decide_eq_true_eq]
 exact Mn (by omega)
theorem DB(f:Nat)(cap:List PV)(jO:tI 0 cap=true)(p:Int→Bool)(xs:List Int)(hf:∀x∈xs,C E.P f (iv x::cap) [] (bM (bv (p x)) [])) :
 C E.P 227 [lv (bG xs),.fn f cap] [] (bM (iv (idxOf p xs)) []):=by
 refine gS (nt:=19) (rs:=[.tmp 4]) hm Tryz.func227 fun hl he cI=>?_
 refine aO hm (fun(i:Nat)=> i≤xs.length∧idxOf p xs=fX p (xs.drop i) i) (fun(i:Nat)=> ⟨dB 19 .any [(0,lv (bG xs)),(1,.fn f cap),(7,iv xs.length),(8,iv i)],[]⟩) (fun(i:Nat)=> xs.length-i) (0) ?_ (aw [] ?_ ?_ rfl rfl) ?_
 rotate_left
 ·refine sA ?_
  all_goals(simp[aq, *];done)
 ·exact sC
 rotate_left
 ·simp[idxOf]
 ·rintro i ⟨hi,hg⟩
  rcases aa (i<xs.length) with h1|h1
  ·rw[aj h1,fX] at hg
   simp -implicitDefEqProofs only[go_sem,h1]
   have hc:=hf xs[i] (ak h1)
   refine bQ cap hc ?_ ?_<;>simp -implicitDefEqProofs only[go_sem,jO]
   cases h2:p xs[i]
   ·rw[h2] at hg
    simp only[ax,if_false] at hg
    refine sA ?_
    refine⟨by omega,?_⟩
    refine⟨i+1,?_,sL,aw [] ?_ ?_ rfl rfl⟩
    rotate_left
    ·refine sA ?_
     all_goals(simp[aq, *];done)
    ·exact sC
    exact⟨by omega,hg⟩
   ·rw[h2] at hg
    simp only[if_true] at hg
    refine sA ?_
    refine an ?_
    refine sA ?_
    all_goals(simp[hg];done)
  ·rw[al (by omega),fX] at hg
   simp -implicitDefEqProofs only[go_sem,h1]
   refine an ?_
   refine sA ?_
   all_goals(simp[hg];done)
theorem pE(f:Nat)(cap:List PV)(jO:tI 0 cap=true)(p:Term→Bool)(xs:List Term)(hf:∀x∈xs,C E.P f (av (cT x)::cap) [] (bM (bv (p x)) [])) :
 C E.P 96 [lv (aP xs),.fn f cap] [] (bM (iv (idxOf p xs)) []):=by
 refine gS (nt:=19) (rs:=[.tmp 4]) hm Tryz.func96 fun hl he cI=>?_
 refine aO hm (fun(i:Nat)=> i≤xs.length∧idxOf p xs=fX p (xs.drop i) i) (fun(i:Nat)=> ⟨dB 19 .any [(0,lv (aP xs)),(1,.fn f cap),(7,iv xs.length),(8,iv i)],[]⟩) (fun(i:Nat)=> xs.length-i) (0) ?_ (aw [] ?_ ?_ rfl rfl) ?_
 rotate_left
 ·refine sA ?_
  all_goals(simp[aq, *];done)
 ·exact sC
 rotate_left
 ·simp[idxOf]
 ·rintro i ⟨hi,hg⟩
  rcases aa (i<xs.length) with h1|h1
  ·rw[aj h1,fX] at hg
   simp -implicitDefEqProofs only[go_sem,h1]
   have hc:=hf xs[i] (ak h1)
   refine bQ cap hc ?_ ?_<;>simp -implicitDefEqProofs only[go_sem,jO]
   cases h2:p xs[i]
   ·rw[h2] at hg
    simp only[ax,if_false] at hg
    refine sA ?_
    refine⟨by omega,?_⟩
    refine⟨i+1,?_,sL,aw [] ?_ ?_ rfl rfl⟩
    rotate_left
    ·refine sA ?_
     all_goals(simp[aq, *];done)
    ·exact sC
    exact⟨by omega,hg⟩
   ·rw[h2] at hg
    simp only[if_true] at hg
    refine sA ?_
    refine an ?_
    refine sA ?_
    all_goals(simp[hg];done)
  ·rw[al (by omega),fX] at hg
   simp -implicitDefEqProofs only[go_sem,h1]
   refine an ?_
   refine sA ?_
   all_goals(simp[hg];done)
theorem DR(f:Nat)(cap:List PV)(jO:tI 0 cap=true)(p:ib→Bool)(xs:List ib)(hf:∀x∈xs,C E.P f (av (eF x)::cap) [] (bM (bv (p x)) [])) :
 C E.P 230 [lv (db xs),.fn f cap] [] (bM (iv (idxOf p xs)) []):=by
 refine gS (nt:=19) (rs:=[.tmp 4]) hm Tryz.func230 fun hl he cI=>?_
 refine aO hm (fun(i:Nat)=> i≤xs.length∧idxOf p xs=fX p (xs.drop i) i) (fun(i:Nat)=> ⟨dB 19 .any [(0,lv (db xs)),(1,.fn f cap),(7,iv xs.length),(8,iv i)],[]⟩) (fun(i:Nat)=> xs.length-i) (0) ?_ (aw [] ?_ ?_ rfl rfl) ?_
 rotate_left
 ·refine sA ?_
  all_goals(simp[aq, *];done)
 ·exact sC
 rotate_left
 ·simp[idxOf]
 ·rintro i ⟨hi,hg⟩
  rcases aa (i<xs.length) with h1|h1
  ·rw[aj h1,fX] at hg
   simp -implicitDefEqProofs only[go_sem,h1]
   have hc:=hf xs[i] (ak h1)
   refine bQ cap hc ?_ ?_<;>simp -implicitDefEqProofs only[go_sem,jO]
   cases h2:p xs[i]
   ·rw[h2] at hg
    simp only[ax,if_false] at hg
    refine sA ?_
    refine⟨by omega,?_⟩
    refine⟨i+1,?_,sL,aw [] ?_ ?_ rfl rfl⟩
    rotate_left
    ·refine sA ?_
     all_goals(simp[aq, *];done)
    ·exact sC
    exact⟨by omega,hg⟩
   ·rw[h2] at hg
    simp only[if_true] at hg
    refine sA ?_
    refine an ?_
    refine sA ?_
    all_goals(simp[hg];done)
  ·rw[al (by omega),fX] at hg
   simp -implicitDefEqProofs only[go_sem,h1]
   refine an ?_
   refine sA ?_
   all_goals(simp[hg];done)
theorem sa(f:Nat)(cap:List PV)(jO:tI 0 cap=true)(p:Int→Bool)(xs:List Int)(hf:∀x∈xs,C E.P f (iv x::cap) [] (bM (bv (p x)) [])) :
 C E.P 157 [lv (bG xs),.fn f cap] [] (bM (bv (xs.any p)) []):=by
 refine gS (nt:=9) (rs:=[.tmp 4]) hm Tryz.func157 fun hl he cI=>?_
 refine bQ [] (DB f cap jO p xs hf) ?_ ?_<;>simp -implicitDefEqProofs only[go_sem,jO]
 refine an ?_
 refine sA ?_
 all_goals(simp[AX];done)
theorem x8(f:Nat)(cap:List PV)(jO:tI 0 cap=true)(p:Term→Bool)(xs:List Term)(hf:∀x∈xs,C E.P f (av (cT x)::cap) [] (bM (bv (p x)) [])) :
 C E.P 86 [lv (aP xs),.fn f cap] [] (bM (bv (xs.any p)) []):=by
 refine gS (nt:=9) (rs:=[.tmp 4]) hm Tryz.func86 fun hl he cI=>?_
 refine bQ [] (pE f cap jO p xs hf) ?_ ?_<;>simp -implicitDefEqProofs only[go_sem,jO]
 refine an ?_
 refine sA ?_
 all_goals(simp[AX];done)
theorem y5(f:Nat)(cap:List PV)(jO:tI 0 cap=true)(p:ib→Bool)(xs:List ib)(hf:∀x∈xs,C E.P f (av (eF x)::cap) [] (bM (bv (p x)) [])) :
 C E.P 169 [lv (db xs),.fn f cap] [] (bM (bv (xs.any p)) []):=by
 refine gS (nt:=9) (rs:=[.tmp 4]) hm Tryz.func169 fun hl he cI=>?_
 refine bQ [] (DR f cap jO p xs hf) ?_ ?_<;>simp -implicitDefEqProofs only[go_sem,jO]
 refine an ?_
 refine sA ?_
 all_goals(simp[AX];done)
theorem uw(f:Nat)(xs ys:List Term)(hf:∀x∈xs,∀y,C E.P f [av (cT x),av (cT y)] [] (bM (bv (decide (x=y))) [])) :
 C E.P 82 [lv (aP xs),lv (aP ys),.fn f []] [] (bM (bv (decide (xs=ys))) []):=by
 refine gS (nt:=32) (rs:=[.tmp 6]) hm Tryz.func82 fun hl he cI=>?_
 rcases aa (xs.length=ys.length) with hl' | hl'
 ·simp -implicitDefEqProofs only[go_sem,hl']
  refine aO hm (fun(i:Nat)=> i≤ys.length∧decide (xs=ys)=decide (xs.drop i=ys.drop i)) (fun(i:Nat)=> ⟨dB 32 .any [(1,lv (aP ys)),(2,.fn f []),(15,lv (aP xs)),(16,iv ys.length),(17,iv i)],[]⟩) (fun(i:Nat)=> ys.length-i) (0) ?_ (aw [] ?_ ?_ rfl rfl) ?_
  rotate_left
  ·exact sC
  ·exact sC
  rotate_left
  ·simp
  ·rintro i ⟨hi,hg⟩
   rcases aa (i<ys.length) with h1|h1
   ·have h2:i<xs.length:=by omega
    rw[aj h1,aj h2] at hg
    simp -implicitDefEqProofs only[go_sem,h1,h2]
    have hc:=hf xs[i] (ak h2) ys[i]
    refine aC [] hc ?_
    rcases aa (xs[i]=ys[i]) with h3|h3
    ·simp -implicitDefEqProofs only[go_sem,h3]
     refine⟨by omega,?_⟩
     refine⟨i+1,?_,sL,aw [] ?_ ?_ rfl rfl⟩
     rotate_left
     ·exact sC
     ·exact sC
     exact⟨by omega,by rw[hg];simp only[h3,List.cons.injEq,true_and]⟩
    ·have hg:decide (xs=ys)=false:=by rw[hg];simp only[h3,List.cons.injEq,false_and,decide_false]
     simp -implicitDefEqProofs only[go_sem,h3]
     refine an ?_
     refine sA ?_
     all_goals(simp[hg];done)
   ·have hg:decide (xs=ys)=true:=by
     rw[hg,al (by omega),al (by omega)]
     rfl
    simp -implicitDefEqProofs only[go_sem,h1]
    refine an ?_
    refine sA ?_
    all_goals(simp[hg];done)
 ·have hn:¬xs=ys:=fun h=>hl' (by rw[h])
  simp -implicitDefEqProofs only[go_sem,hl']
  refine an ?_
  refine sA ?_
  all_goals(simp[hn];done)
theorem pW{a b:Term}:a=b↔a.name=b.name∧a.kids=b.kids:=by
 cases a;cases b;simp[Term.name,Term.kids]
theorem BT(a b:Term)(ih:∀k∈a.kids,∀y,C E.P 30 [av (cT k),av (cT y)] [] (bM (bv (decide (k=y))) [])):C E.P 30 [av (cT a),av (cT b)] [] (bM (bv (decide (a=b))) []):=by
 refine gS (nt:=17) (rs:=[.tmp 4]) hm Tryz.func30 fun hl he cI=>?_
 rcases aa (a.name=b.name) with h|h
 ·simp -implicitDefEqProofs only[go_sem,h]
  refine aC [] (uw 30 a.kids b.kids ih) ?_
  refine an ?_
  refine sA ?_
  all_goals(simp[pW,h];done)
 ·simp -implicitDefEqProofs only[go_sem,h]
  refine an ?_
  refine sA ?_
  all_goals(simp[pW,h];done)
theorem nE:∀a b,C E.P 30 [av (cT a),av (cT b)] [] (bM (bv (decide (a=b))) []):=
 Term.ind fun n ks ih b=>BT _ b ih
theorem zo(t u:Term):C E.P 180 [av (cT u),.gm [cT t] 0 0] [] (bM (bv (decide (t=u))) []):=by
 refine gS (nt:=7) (rs:=[.tmp 3]) hm Tryz.func180 fun hl he cI=>?_
 refine aC [] (nE t u) ?_
 refine an ?_
 exact sC
theorem eE(ts:List Term)(t:Term):C E.P 110 [lv (aP ts),av (cT t)] [] (bM (iv (bL ts t)) []):=by
 refine gS (nt:=8) (rs:=[.tmp 4]) hm Tryz.func110 fun hl he cI=>?_
 refine dN [] [0] (pE 180 [.gm [cT t] 0 0] rfl (fun u=>decide (t=u)) ts (fun u _=>zo t u)) rfl ?_ ?_ ?_
 ·exact sV
 all_goals simp -implicitDefEqProofs only[go_sem]
 refine an ?_
 refine sA ?_
 all_goals(simp[bL];done)
theorem BO(ts:List Term)(ih:∀k∈ts,C E.P 56 [av (cT k)] [] (bM (av (cT k)) [])):C E.P 117 [lv (aP ts)] [] (bM (lv (aP ts)) []):=by
 refine gS (nt:=19) (rs:=[.tmp 2]) hm Tryz.func117 fun hl he cI=>?_
 refine aO hm (fun(i:Nat)=> i≤ts.length) (fun(i:Nat)=> ⟨dB 19 .any [(3,.acc 0),(6,lv (aP ts)),(7,iv ts.length),(8,iv i)],[some (.acc 34 (aP (ts.take i)))]⟩) (fun(i:Nat)=> ts.length-i) (0) ?_ (aw [none] ?_ ?_ rfl rfl) ?_
 rotate_left
 ·exact sC
 ·exact sC
 rotate_left
 ·omega
 ·rintro i hi
  rcases aa (i<ts.length) with h1|h1
  ·simp -implicitDefEqProofs only[go_sem,h1]
   have hc:=ih ts[i] (ak h1)
   refine aC [] hc ?_
   refine⟨by omega,by omega,?_⟩
   refine⟨i+1,?_,sL,aw [some 2] ?_ ?_ rfl rfl⟩
   rotate_left
   ·exact sC
   ·refine sA ?_
    all_goals(exact pK h1)
   exact h1
  ·simp -implicitDefEqProofs only[go_sem,h1]
   refine an ?_
   refine sA ?_
   rw[ao (by omega)]
theorem MG(t:Term)(ih:∀k∈t.kids,C E.P 56 [av (cT k)] [] (bM (av (cT k)) [])):C E.P 56 [av (cT t)] [] (bM (av (cT t)) []):=by
 refine gS (nt:=9) (rs:=[.cell 2 34]) hm Tryz.func56 fun hl he cI=>?_
 refine aC [] (BO t.kids ih) ?_
 refine iK ?_
 skip
 refine an ?_
 exact sC
theorem jX:∀t,C E.P 56 [av (cT t)] [] (bM (av (cT t)) []):=
 Term.ind fun n ks ih=>MG _ ih
theorem AB(t:Term)(ih:∀k∈t.kids,∀(d:Nat)(l:List Term),d≤4→bK k d=true→l.length≤999000+15*(4-d)→C E.P 95 [.acc 0,av (cT k)] [some (.acc 34 (aP l))] (bM (.acc 1) [some .dead,some (.acc 34 (aP (dh l k)))]))(d:Nat)(l:List Term)
 (hd:d≤4) (hsh:bK t d=true) (hl1:l.length≤999000+15*(4-d)) :
 C E.P 95 [.acc 0,av (cT t)] [some (.acc 34 (aP l))] (bM (.acc 1) [some .dead,some (.acc 34 (aP (dh l t)))]):=by
 cases d with
 | zero=>cases t;simp[bK] at hsh
 | succ d=>
 have hk:=nY hsh
 have hle:=fun i=>yC (l:=l) hsh (by omega) i
 refine gS (nt:=28) (rs:=[.tmp 4]) hm Tryz.func95 fun hl he cI=>?_
 refine aO hm (fun(i:Nat)=> i≤t.kids.length) (fun(i:Nat)=> ⟨dB 28 .any [(0,.acc 2),(3,.ptr 1 0),(8,lv (aP t.kids)),(9,iv t.kids.length),(10,iv i)],[some .dead,some (.box (cF (cT t))),some (.acc 34 (aP (ba l (t.kids.take i))))]⟩) (fun(i:Nat)=> t.kids.length-i) (0) ?_ (aw [some 0,some 1,some 0] ?_ ?_ rfl rfl) ?_
 rotate_left
 ·exact sC
 ·refine sA ?_
  all_goals(simp only[ba])
 rotate_left
 ·omega
 ·rintro i hi
  rcases aa (i<t.kids.length) with h1|h1
  ·simp -implicitDefEqProofs only[go_sem,h1]
   have hc:=ih t.kids[i] (ak h1) d (ba l (t.kids.take i)) (by omega) (n7 hk.2.2 _ (ak h1)) (by have:=hle i;omega)
   refine oC [] [2,4] hc ?_
   refine⟨by omega,?_⟩
   refine⟨i+1,?_,sL,aw [some 0,some 1,some 4] ?_ ?_ rfl rfl⟩
   rotate_left
   ·exact sC
   ·refine sA ?_
    all_goals(simp only[qH h1])
   exact h1
  ·have e:t.kids.take i=t.kids:=ao (by omega)
   have h2:=hle i
   rw[e] at h2
   simp -implicitDefEqProofs only[go_sem,h1,e]
   refine dN [] [2] (eE (ba l t.kids) t) rfl ?_ ?_ ?_
   ·exact sV
   all_goals simp -implicitDefEqProofs only[go_sem]
   rcases aa (bL (ba l t.kids) t<0) with hx|hx
   ·simp -implicitDefEqProofs only[go_sem,hx]
    refine aC [] (jX t) ?_
    refine⟨by omega,?_⟩
    refine bX [some 0,some 3] ?_ rfl rfl
    refine sA ?_
    rw[rf,if_pos hx,←lV,dM,lW]
    rfl
   ·simp -implicitDefEqProofs only[go_sem,hx]
    refine bX [some 0,some 2] ?_ rfl rfl
    refine sA ?_
    rw[rf,if_neg hx]
theorem B3:∀(t:Term)(d:Nat)(l:List Term),d≤4→bK t d=true→l.length≤999000+15*(4-d)→C E.P 95 [.acc 0,av (cT t)] [some (.acc 34 (aP l))] (bM (.acc 1) [some .dead,some (.acc 34 (aP (dh l t)))]):=
 Term.ind fun n ks ih d l h1 h2 h3=>AB (.mk n ks) ih d l h1 h2 h3
theorem Nv(t:Term)(dp:Nat):kW t dp=if fE t.name&&decide (t.kids.length≤2)&&decide (dp≤4) then 1+fl t.kids (dp+1) else 13:=by
 cases t;rfl
theorem GK{ts:List Term}{i:Nat}(h:i<ts.length)(dp:Nat):fl (ts.take (i+1)) dp=fl (ts.take i) dp+kW ts[i] dp:=by
 have e:ts.take (i+1)=ts.take i++[ts[i]]:=by rw[List.take_add_one,List.getElem?_eq_getElem h];rfl
 have key:∀(xs ys:List Term),fl (xs++ys) dp=fl xs dp+fl ys dp:=by
  intro xs ys
  induction xs with
  | nil=>simp[fl]
  | cons a xs ih=>simp only[List.cons_append,fl,ih];omega
 rw[e,key]
 simp[fl]
theorem B8(t:Term)(ih:∀k∈t.kids,∀dp:Nat,1≤dp→dp≤5→C E.P 166 [av (cT k),iv dp] [] (bM (iv (kW k dp)) []))(dp:Nat)(g1:1≤dp)(g5:dp≤5) :
 C E.P 166 [av (cT t),iv dp] [] (bM (iv (kW t dp)) []):=by
 have ht:=Nv t dp
 refine gS (nt:=37) (rs:=[.tmp 4]) hm Tryz.func166 fun hl he cI=>?_
 refine aC [] (tE t.name) ?_
 cases hn:fE t.name
 ·rw[hn] at ht
  refine sA ?_
  refine an ?_
  refine sA ?_
  all_goals(simp[ht];done)
 ·rw[hn] at ht
  rcases aa ((2:Int)<(t.kids.length:Int)) with h2|h2
  ·have h2':¬t.kids.length≤2:=by omega
   simp only[h2',decide_false,gX,aS,ax,if_false] at ht
   simp -implicitDefEqProofs only[go_sem,h2]
   refine an ?_
   refine sA ?_
   all_goals(simp[ht];done)
  ·have h2':t.kids.length≤2:=by omega
   rcases aa ((4:Int)<(dp:Int)) with h4|h4
   ·have h4':¬dp≤4:=by omega
    simp only[h4',decide_false,gX,ax,if_false] at ht
    simp -implicitDefEqProofs only[go_sem,h2,h4]
    refine an ?_
    refine sA ?_
    all_goals(simp[ht];done)
   ·have h4':dp≤4:=by omega
    simp only[h2',h4',decide_true,Bool.and_self,if_true] at ht
    simp -implicitDefEqProofs only[go_sem,h2,h4]
    refine aO hm (fun(i:Nat)=> i≤t.kids.length) (fun(i:Nat)=> ⟨dB 37 .any [(1,iv dp),(5,iv ((1+fl (t.kids.take i) (dp+1):Nat):Int)),(23,lv (aP t.kids)),(24,iv t.kids.length),(25,iv i)],[]⟩) (fun(i:Nat)=> t.kids.length-i) (0) ?_ (aw [] ?_ ?_ rfl rfl) ?_
    rotate_left
    ·refine sA ?_
     all_goals(simp[fl])
    ·exact sC
    rotate_left
    ·omega
    ·rintro i hi
     have hb:=u9 (t.kids.take i) (dp+1) (by omega) (by omega)
     have hp:(2:Nat) ^ (5-(dp+1))≤2 ^ 4:=Nat.pow_le_pow_right (by omega) (by omega)
     have hq:(t.kids.take i).length*(27*2 ^ (5-(dp+1))-14)≤2*(27*2 ^ (5-(dp+1))-14):=Nat.mul_le_mul_right _ (by simp;omega)
     rcases aa (i<t.kids.length) with h1|h1
     ·have hk:=CV t.kids[i] (dp+1) (by omega) (by omega)
      simp -implicitDefEqProofs only[go_sem,h1]
      refine⟨by omega,?_⟩
      have hc:=ih t.kids[i] (ak h1) (dp+1) (by omega) (by omega)
      refine aC [] hc ?_
      refine⟨by omega,by omega,?_⟩
      refine⟨i+1,?_,sL,aw [] ?_ ?_ rfl rfl⟩
      rotate_left
      ·refine sA ?_
       all_goals((simp only[GK h1];simp;omega))
      ·exact sC
      exact h1
     ·rw[←ao (l:=t.kids) (i:=i) (by omega)] at ht
      simp -implicitDefEqProofs only[go_sem,h1]
      refine an ?_
      refine sA ?_
      all_goals(simp[ht];done)
theorem Dm:∀(t:Term)(dp:Nat),1≤dp→dp≤5→C E.P 166 [av (cT t),iv dp] [] (bM (iv (kW t dp)) []):=
 Term.ind fun n ks ih dp h1 h2=>B8 (.mk n ks) ih dp h1 h2
theorem nj(t:Term):C E.P 94 [av (cT t)] [] (bM (bv (isTerm t)) []):=by
 refine gS (nt:=6) (rs:=[.tmp 2]) hm Tryz.func94 fun hl he cI=>?_
 have hc:=Dm t 1 (by omega) (by omega)
 refine aC [] hc ?_
 refine an ?_
 refine sA ?_
 all_goals(simp[isTerm];omega)
theorem yH(n:Int):C E.P 156 [iv n] [] (bM (bv (isSort n)) []):=by
 refine gS (nt:=9) (rs:=[.tmp 2]) hm Tryz.func156 fun hl he cI=>?_
 rcases aa (n=0) with h|h
 ·simp -implicitDefEqProofs only[go_sem,h]
  refine an ?_
  refine sA ?_
  all_goals(simp[isSort];done)
 ·simp -implicitDefEqProofs only[go_sem,h]
  refine an ?_
  refine sA ?_
  all_goals(simp[isSort,h];done)
theorem Dy(n:Int):C E.P 158 [iv n] [] (bM (bv (!isSort n)) []):=by
 refine gS (nt:=6) (rs:=[.tmp 2]) hm Tryz.func158 fun hl he cI=>?_
 refine aC [] (yH n) ?_
 refine an ?_
 exact sC
theorem Hk(x:Sym):C E.P 83 [av (vP x)] [] (bM (bv (ob x)) []):=by
 refine gS (nt:=23) (rs:=[.tmp 2]) hm Tryz.func83 fun hl he cI=>?_
 refine aC [] (tE x.name) ?_
 cases h1:fE x.name
 ·simp -implicitDefEqProofs only[go_sem]
  refine an ?_
  refine sA ?_
  all_goals(simp[ob,h1];done)
 ·rcases aa ((x.args.length:Int)≤2) with h2|h2
  ·have h2':x.args.length≤2:=by omega
   simp -implicitDefEqProofs only[go_sem,h2]
   refine aC [] (yH x.sort) ?_
   cases h3:isSort x.sort
   ·refine sA ?_
    refine an ?_
    refine sA ?_
    all_goals(simp[ob,h1,h2',h3];done)
   ·refine sA ?_
    refine aC [] (sa 158 [] rfl (fun n=>!isSort n) x.args (fun n _=>Dy n)) ?_
    refine an ?_
    refine sA ?_
    all_goals(simp[ob,h1,h2',h3,List.all_eq_not_any_not];done)
  ·have h2':¬x.args.length≤2:=by omega
   simp -implicitDefEqProofs only[go_sem,h2]
   refine an ?_
   refine sA ?_
   all_goals(simp[ob,h1,h2'];done)
def kd(l:List Sym):Nat→Option ni
 | 0=>none
 | j+1=>(l[j]?).map (·.name)
theorem qX(s:dE):C E.P 32 [av (dZ s)] [] (bM (bv (fH s)) []):=by
 refine gS (nt:=37) (rs:=[.tmp 2]) hm Tryz.func32 fun hl he cI=>?_
 refine aO hm (fun(i:Nat)=> i≤s.syms.length∧qM none s.syms=qM (kd s.syms i) (s.syms.drop i)) (fun(i:Nat)=> ⟨dB 37 .any [(1,.ptr 0 0),(6,lv (hX s.syms)),(7,iv s.syms.length),(8,iv i)],[some (.box (cF (dZ s)))]⟩) (fun(i:Nat)=> s.syms.length-i) (0) ?_ (aw [some 0] ?_ ?_ rfl rfl) ?_
 rotate_left
 ·exact sC
 ·exact sC
 rotate_left
 ·simp[kd]
 ·rintro i ⟨hi,hg⟩
  rcases aa (i<s.syms.length) with h1|h1
  ·rw[aj h1] at hg
   simp only[qM] at hg
   simp -implicitDefEqProofs only[go_sem,h1]
   refine aC [] (Hk s.syms[i]) ?_
   cases h2:ob s.syms[i]
   ·have e:fH s=false:=by simp[fH,hg,h2]
    refine sA ?_
    refine iK ?_
    skip
    refine an ?_
    refine sA ?_
    all_goals(simp[e];done)
   ·rw[h2,aM] at hg
    cases i with
    | zero=>
      simp only[kd,aM] at hg
      simp -implicitDefEqProofs only[go_sem,Int.lt_irrefl]
      refine iK ?_
      skip
      refine⟨by omega,?_⟩
      refine⟨0+1,?_,sL,aw [some 0] ?_ ?_ rfl rfl⟩
      rotate_left
      ·refine sA ?_
       all_goals(simp[*];done)
      ·exact sC
      refine⟨by omega,?_⟩
      rw[hg]
      simp[kd,h1]
    | succ j=>
      have hj:j<s.syms.length:=by omega
      have e1:((j:Int)+1-1)=(j:Int):=by omega
      have e2:(0:Int)<(j:Int)+1:=by omega
      have e3:kd s.syms (j+1)=some s.syms[j].name:=by simp[kd,hj]
      rw[e3] at hg
      simp only at hg
      simp -implicitDefEqProofs only[go_sem,e1,e2,hj]
      refine⟨by omega,?_⟩
      cases h4:gn s.syms[j].name s.syms[j+1].name
      ·rw[h4,aS] at hg
       have e:fH s=false:=by simp[fH,hg]
       have h5:Op.bytesLess s.syms[j].name s.syms[j+1].name=false:=h4
       simp -implicitDefEqProofs only[go_sem,h5]
       refine iK ?_
       skip
       refine an ?_
       refine sA ?_
       all_goals(simp[e];done)
      ·rw[h4,aM] at hg
       have h5:Op.bytesLess s.syms[j].name s.syms[j+1].name=true:=h4
       simp -implicitDefEqProofs only[go_sem,h5]
       refine iK ?_
       skip
       refine⟨by omega,?_⟩
       refine⟨j+1+1,?_,sL,aw [some 0] ?_ ?_ rfl rfl⟩
       rotate_left
       ·exact sC
       ·exact sC
       refine⟨by omega,?_⟩
       rw[hg]
       simp[kd,h1]
  ·rw[al (by omega)] at hg
   simp only[qM] at hg
   have e:fH s=decide ((s.syms.length:Int)≤7):=by simp[fH,hg];omega
   simp -implicitDefEqProofs only[go_sem,h1]
   refine an ?_
   refine sA ?_
   all_goals(simp[e];done)
theorem sW(s:dE)(n:ni):C E.P 73 [av (dZ s),sv n] [] (bM (.jd [av (vP ((symbol s n).getD so)),bv (symbol s n).isSome]) []):=by
 refine gS (nt:=22) (rs:=[.cell 4 126,.tmp 5]) hm Tryz.func73 fun hl he cI=>?_
 refine aO hm (fun(i:Nat)=> i≤s.syms.length∧symbol s n=(s.syms.drop i).find? (fun x=>decide (x.name=n))) (fun(i:Nat)=> ⟨dB 22 .any [(1,sv n),(4,.ptr 1 0),(9,lv (hX s.syms)),(10,iv s.syms.length),(11,iv i)],[some (.box (cF (dZ s))),some (.box (cF (vP so)))]⟩) (fun(i:Nat)=> s.syms.length-i) (0) ?_ (aw [some 0,some 1] ?_ ?_ rfl rfl) ?_
 rotate_left
 ·exact sC
 ·exact sC
 rotate_left
 ·simp[symbol]
 ·rintro i ⟨hi,hg⟩
  rcases aa (i<s.syms.length) with h1|h1
  ·rw[aj h1] at hg
   rcases aa (s.syms[i].name=n) with h2|h2
   ·have e:symbol s n=some s.syms[i]:=by rw[hg];simp only[dA,h2,decide_true]
    simp -implicitDefEqProofs only[go_sem,h1,h2]
    refine an ?_
    refine sA ?_
    all_goals(simp[e,h2];done)
   ·have e:symbol s n=(s.syms.drop (i+1)).find? (fun x=>decide (x.name=n)):=by rw[hg];simp only[dA,h2,decide_false]
    simp -implicitDefEqProofs only[go_sem,h1,h2]
    refine⟨by omega,?_⟩
    refine⟨i+1,?_,sL,aw [some 0,some 1] ?_ ?_ rfl rfl⟩
    rotate_left
    ·exact sC
    ·exact sC
    exact⟨by omega,e⟩
  ·have e:symbol s n=none:=by rw[hg,al (by omega)];rfl
   simp -implicitDefEqProofs only[go_sem,h1]
   refine an ?_
   refine sA ?_
   all_goals(simp[e,so,tO];done)
theorem I2(s:dE)(t:Term):fK s t=match symbol s t.name with
 | none=>none
 | some x=>if decide (x.args.length=t.kids.length)&&gy s t.kids x.args then some x.sort else none:=by
 cases t;simp only[fK,Term.name,Term.kids];rfl
theorem Ag{s:dE}{ks:List Term}{ns:List Int}{i:Nat}(h:i<ks.length)(h':i<ns.length):gy s (ks.drop i) (ns.drop i)=(decide (fK s ks[i]=some ns[i])&&gy s (ks.drop (i+1)) (ns.drop (i+1))):=by
 rw[aj h,aj h',gy]
theorem zH(s:dE)(t:Term)(ih:∀k∈t.kids,C E.P 167 [av (dZ s),av (cT k)] [] (bM (.jd [iv ((fK s k).getD 0),bv (fK s k).isSome]) [])) :
 C E.P 167 [av (dZ s),av (cT t)] [] (bM (.jd [iv ((fK s t).getD 0),bv (fK s t).isSome]) []):=by
 have ht:=I2 s t
 refine gS (nt:=58) (rs:=[.tmp 4,.tmp 5]) hm Tryz.func167 fun hl he cI=>?_
 refine aC [] (sW s t.name) ?_
 cases hx:symbol s t.name with
 | none=>
   rw[hx] at ht
   simp only at ht
   simp -implicitDefEqProofs only[go_sem,aU]
   refine an ?_
   refine sA ?_
   all_goals(simp[ht];done)
 | some x=>
   rw[hx] at ht
   simp only at ht
   rcases aa (x.args.length=t.kids.length) with h1|h1
   ·simp only[h1,decide_true,aM] at ht
    simp -implicitDefEqProofs only[go_sem,aJ,aK,h1]
    refine aO hm (fun(i:Nat)=> i≤t.kids.length∧gy s t.kids x.args=gy s (t.kids.drop i) (x.args.drop i)) (fun(i:Nat)=> ⟨dB 58 .any [(2,.ptr 0 0),(6,.ptr 2 0),(31,lv (aP t.kids)),(32,iv t.kids.length),(33,iv i)],[some (.box (cF (dZ s))),some (.box (cF (cT t))),some (.box (cF (vP x)))]⟩) (fun(i:Nat)=> t.kids.length-i) (0) ?_ (aw [some 0,some 1,some 2] ?_ ?_ rfl rfl) ?_
    rotate_left
    ·exact sC
    ·exact sC
    rotate_left
    ·simp
    ·rintro i ⟨hi,hg⟩
     rcases aa (i<t.kids.length) with h2|h2
     ·have h3:i<x.args.length:=by omega
      rw[Ag h2 h3] at hg
      simp -implicitDefEqProofs only[go_sem,h2]
      have hc:=ih t.kids[i] (ak h2)
      refine aC [] hc ?_
      cases hk:fK s t.kids[i] with
      | none=>
        rw[hk] at hg
        have hz:gy s t.kids x.args=false:=by rw[hg];simp
        rw[hz] at ht
        simp only[ax,if_false] at ht
        simp -implicitDefEqProofs only[go_sem,aU]
        refine an ?_
        refine sA ?_
        all_goals(simp[ht];done)
      | some n=>
        rw[hk] at hg
        rcases aa (n=x.args[i]) with hn|hn
        ·have hz:gy s t.kids x.args=gy s (t.kids.drop (i+1)) (x.args.drop (i+1)):=by rw[hg,hn];simp
         simp -implicitDefEqProofs only[go_sem,aJ,aK,hn,h3]
         refine⟨by omega,?_⟩
         refine⟨i+1,?_,sL,aw [some 0,some 1,some 2] ?_ ?_ rfl rfl⟩
         rotate_left
         ·exact sC
         ·exact sC
         exact⟨by omega,hz⟩
        ·have hz:gy s t.kids x.args=false:=by
          rw[hg]
          simp[hn]
         rw[hz] at ht
         simp only[ax,if_false] at ht
         simp -implicitDefEqProofs only[go_sem,aJ,aK,hn,h3]
         refine an ?_
         refine sA ?_
         all_goals(simp[ht];done)
     ·rw[al (by omega),al (by omega)] at hg
      rw[hg] at ht
      simp only[gy,if_true] at ht
      simp -implicitDefEqProofs only[go_sem,h2]
      refine an ?_
      refine sA ?_
      all_goals(simp[ht];done)
   ·simp only[h1,decide_false,aS,ax,if_false] at ht
    have h1':¬ (x.args.length:Int)=t.kids.length:=by omega
    simp -implicitDefEqProofs only[go_sem,aJ,aK,h1]
    refine an ?_
    refine sA ?_
    all_goals(simp[ht];done)
theorem Bp(s:dE):∀(t:Term),C E.P 167 [av (dZ s),av (cT t)] [] (bM (.jd [iv ((fK s t).getD 0),bv (fK s t).isSome]) []):=
 Term.ind fun n ks ih=>zH s (.mk n ks) ih
theorem qQ(s:dE)(t:Term):C E.P 97 [av (dZ s),av (cT t)] [] (bM (.jd [iv ((fk s t).getD 0),bv (fk s t).isSome]) []):=by
 refine gS (nt:=19) (rs:=[.tmp 4,.tmp 5]) hm Tryz.func97 fun hl he cI=>?_
 refine aC [] (qX s) ?_
 cases h1:fH s
 ·refine sA ?_
  refine an ?_
  refine sA ?_
  all_goals(simp[fk,h1];done)
 ·refine sA ?_
  refine aC [] (nj t) ?_
  cases h2:isTerm t
  ·refine sA ?_
   refine an ?_
   refine sA ?_
   all_goals(simp[fk,h1,h2];done)
  ·refine sA ?_
   refine aC [] (Bp s t) ?_
   refine an ?_
   refine sA ?_
   all_goals(simp[fk,h1,h2];done)
theorem vL(s:dE)(t:Term):C E.P 40 [av (dZ s),av (cT t)] [] (bM (bv (dk s t)) []):=by
 refine gS (nt:=18) (rs:=[.tmp 4]) hm Tryz.func40 fun hl he cI=>?_
 refine aC [] (qQ s t) ?_
 cases h:fk s t with
 | none=>
   simp -implicitDefEqProofs only[go_sem,aU]
   refine an ?_
   refine sA ?_
   all_goals(simp[dk,h];done)
 | some n=>
   simp -implicitDefEqProofs only[go_sem,aJ,aK]
   refine an ?_
   refine sA ?_
   all_goals(simp[dk,h];done)
theorem yK(t:Term):C E.P 151 [av (cT t)] [] (bM (bv (isNone t)) []):=by
 refine gS (nt:=12) (rs:=[.tmp 2]) hm Tryz.func151 fun hl he cI=>?_
 rcases aa (t.name=[]) with h|h
 ·simp -implicitDefEqProofs only[go_sem,h]
  refine an ?_
  refine sA ?_
  all_goals(simp[isNone,h];done)
 ·simp -implicitDefEqProofs only[go_sem,h]
  refine an ?_
  refine sA ?_
  all_goals(simp[isNone,h];done)
theorem BW(e:iy)(s:dE):C E.P 85 [av (cEq e),av (dZ s)] [] (bM (bv (iL s e)) []):=by
 refine gS (nt:=32) (rs:=[.tmp 4]) hm Tryz.func85 fun hl he cI=>?_
 refine aC [] (qQ s e.A) ?_
 refine aC [] (qQ s e.B) ?_
 cases h1:fk s e.A with
 | none=>
   simp -implicitDefEqProofs only[go_sem,aU]
   refine an ?_
   refine sA ?_
   all_goals(simp[iL,h1];done)
 | some n=>
   cases h2:fk s e.B with
   | none=>
     simp -implicitDefEqProofs only[go_sem,aJ,aK,aU]
     refine an ?_
     refine sA ?_
     all_goals(simp[iL,h1,h2];done)
   | some m=>
     simp -implicitDefEqProofs only[go_sem,aJ,aK]
     refine an ?_
     refine sA ?_
     all_goals(simp[iL,h1,h2];done)
theorem tm(a:Atom):C E.P 36 [av (fM a)] [] (bM (lv (aP (b9 a))) []):=by
 refine gS (nt:=13) (rs:=[.tmp 2]) hm Tryz.func36 fun hl he cI=>?_
 rcases aa (a.kind=1) with h|h
 ·simp -implicitDefEqProofs only[go_sem,h]
  refine an ?_
  refine sA ?_
  all_goals(simp[b9,h,dM,lW,cT];done)
 ·simp -implicitDefEqProofs only[go_sem,h]
  refine an ?_
  refine sA ?_
  all_goals(simp[b9,h];done)
theorem Lp{xs:List Term}{i:Nat}(h:i<xs.length)(hi:isTerm xs[i]=true)(out:List Term):pV (xs.drop i) out=pV (xs.drop (i+1)) (dh out xs[i]):=by
 rw[aj h,pV,hi];rfl
end Go.Proofs.YtabembjmeobhoaaGreat
