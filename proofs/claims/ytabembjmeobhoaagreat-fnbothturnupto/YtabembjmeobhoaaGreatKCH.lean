/-
  The walks of the small functions of the first chapters. A step towards the exact laws.
-/
import Derived.Test.YtabembjmeobhoaaGreatKCF
set_option linter.unusedVariables false
set_option linter.unusedSimpArgs false
open Bool renaming false_eq_true→aw,true_and→aE,false_and→aK,and_false→hX,and_self→mi
open Classical renaming em→aa
open List renaming getElem?_eq_getElem→af,drop_eq_getElem_cons→ah,getElem_mem→ak,drop_of_length_le→al,take_of_length_le→ao,take_add_one→bq,all_cons→b8,find?_cons→dM
open Option renaming getD_some→aX,isSome_some→aY,isSome_none→bE
namespace Go.Proofs.YtabembjmeobhoaaGreat
open Go.Eng Go.Mod
open Int renaming reduceEq→Z1,reduceLT→Z2,reduceLE→Z3,reduceToNat→Z4
set_option maxRecDepth 100000
set_option maxHeartbeats 400000
theorem fv(n lo hi:Int):C E.P 77 [iv n,iv lo,iv hi] [] (bD (bv (within n lo hi)) []):=by
 refine gS (nt:=15) (rs:=[.tmp 6]) hm Tryz.func77 fun hl he cq=>?_
 refine TH (fun h=>?_) (fun h=>?_)<;>simp only[h,go_sem]
 ·refine an ?_
  refine sA ?_
  all_goals(simp[within,h];done)
 ·refine an ?_
  refine sA ?_
  all_goals(simp[within,h];done)
theorem pY(s:nE):C E.P 155 [sv s] [] (bD (bv (fI s)) []):=by
 refine gS (nt:=24) (rs:=[.tmp 2]) hm Tryz.func155 fun hl he cq=>?_
 have h:∃b,within s.length 1 2=b:=⟨_,rfl⟩
 obtain⟨b,h⟩:=h
 refine bp [] (fv s.length 1 2) ?_ ?_<;>simp -implicitDefEqProofs only[go_sem,h]
 cases b
 ·refine sA ?_
  refine an ?_
  refine sA ?_
  all_goals(simp[fI,h];done)
 ·refine sA ?_
  refine aM hm (fun(i:Nat)=> i≤s.length∧fI s=(s.drop i).all iY) (fun(i:Nat)=> ⟨dH 24 .any [(0,sv s),(9,iv s.length),(10,iv i)],[]⟩) (fun(i:Nat)=> s.length-i) (0) ?_ (ar [] ?_ ?_ rfl rfl) ?_
  rotate_left
  ·exact sC
  ·exact sC
  rotate_left
  ·simp[fI,h]
  ·rintro i ⟨hi,hg⟩
   rcases aa (i<s.length) with h1|h1
   ·rw[ah h1,b8] at hg
    refine uA ?_
    rw[m9 h1]
    rcases aa ((s[i].toNat:Int)<97) with h2|h2
    ·have h3:iY s[i]=false:=by simp[iY];omega
     rw[h3,aK] at hg
     refine uB ?_
     refine an ?_
     refine sA ?_
     all_goals(simp[hg];done)
    ·simp -implicitDefEqProofs only[go_sem,h2,h1]
     rw[m9 h1]
     rcases aa (122<(s[i].toNat:Int)) with h4|h4
     ·have h3:iY s[i]=false:=by simp[iY];omega
      rw[h3,aK] at hg
      refine uD ?_
      refine an ?_
      refine sA ?_
      all_goals(simp[hg];done)
     ·have h3:iY s[i]=true:=by simp[iY];omega
      rw[h3,aE] at hg
      refine uD ?_
      refine⟨by omega,?_⟩
      refine⟨i+1,?_,sL,ar [] ?_ ?_ rfl rfl⟩
      rotate_left
      ·exact sC
      ·exact sC
      exact⟨by omega,hg⟩
   ·rw[al (by omega)] at hg
    refine uA ?_
    refine an ?_
    refine sA ?_
    all_goals(simp[hg];done)
theorem M3{α:Type}{p:α→Bool}:∀{xs:List α}{i:Int},0≤i→(0≤gi p xs i↔xs.any p=true)
 | [],i,h=>by simp[gi]
 | x::xs,i,h=>by
   simp only[gi,List.any_cons,Bool.or_eq_true]
   split
   ·rename_i hx
    simp[hx,h]
   ·rename_i hx
    rw[M3 (by omega)]
    simp[hx]
theorem BU{α:Type}{p:α→Bool}{xs:List α}:decide (0≤idxOf p xs)=xs.any p:=by
 rw[Bool.eq_iff_iff,decide_eq_true_eq]
 exact M3 (by omega)
theorem Ev(f:Nat)(cap:List PV)(jX:tM 0 cap=true)(p:Int→Bool)(xs:List Int)(hf:∀x∈xs,C E.P f (iv x::cap) [] (bD (bv (p x)) [])) :
 C E.P 227 [lv (bI xs),.fn f cap] [] (bD (iv (idxOf p xs)) []):=by
 refine gS (nt:=19) (rs:=[.tmp 4]) hm Tryz.func227 fun hl he cq=>?_
 refine aM hm (fun(i:Nat)=> i≤xs.length∧idxOf p xs=gi p (xs.drop i) i) (fun(i:Nat)=> ⟨dH 19 .any [(0,lv (bI xs)),(1,.fn f cap),(7,iv xs.length),(8,iv i)],[]⟩) (fun(i:Nat)=> xs.length-i) (0) ?_ (ar [] ?_ ?_ rfl rfl) ?_
 rotate_left
 ·refine sA ?_
  all_goals(simp[aI, *];done)
 ·exact sC
 rotate_left
 ·simp[idxOf]
 ·rintro i ⟨hi,hg⟩
  rcases aa (i<xs.length) with h1|h1
  ·rw[ah h1,gi] at hg
   refine uA ?_
   have hc:=hf xs[i] (ak h1)
   refine bp cap hc ?_ ?_<;>simp -implicitDefEqProofs only[go_sem,jX]
   cases h2:p xs[i]
   ·rw[h2] at hg
    simp only[aw,if_false] at hg
    refine sA ?_
    refine⟨by omega,?_⟩
    refine⟨i+1,?_,sL,ar [] ?_ ?_ rfl rfl⟩
    rotate_left
    ·refine sA ?_
     all_goals(simp[aI, *];done)
    ·exact sC
    exact⟨by omega,hg⟩
   ·rw[h2] at hg
    simp only[if_true] at hg
    refine sA ?_
    refine an ?_
    refine sA ?_
    all_goals(simp[hg];done)
  ·rw[al (by omega),gi] at hg
   refine uA ?_
   refine an ?_
   refine sA ?_
   all_goals(simp[hg];done)
theorem pK(f:Nat)(cap:List PV)(jX:tM 0 cap=true)(p:Term→Bool)(xs:List Term)(hf:∀x∈xs,C E.P f (av (cT x)::cap) [] (bD (bv (p x)) [])) :
 C E.P 96 [lv (aN xs),.fn f cap] [] (bD (iv (idxOf p xs)) []):=by
 refine gS (nt:=19) (rs:=[.tmp 4]) hm Tryz.func96 fun hl he cq=>?_
 refine aM hm (fun(i:Nat)=> i≤xs.length∧idxOf p xs=gi p (xs.drop i) i) (fun(i:Nat)=> ⟨dH 19 .any [(0,lv (aN xs)),(1,.fn f cap),(7,iv xs.length),(8,iv i)],[]⟩) (fun(i:Nat)=> xs.length-i) (0) ?_ (ar [] ?_ ?_ rfl rfl) ?_
 rotate_left
 ·refine sA ?_
  all_goals(simp[aI, *];done)
 ·exact sC
 rotate_left
 ·simp[idxOf]
 ·rintro i ⟨hi,hg⟩
  rcases aa (i<xs.length) with h1|h1
  ·rw[ah h1,gi] at hg
   refine uA ?_
   have hc:=hf xs[i] (ak h1)
   refine bp cap hc ?_ ?_<;>simp -implicitDefEqProofs only[go_sem,jX]
   cases h2:p xs[i]
   ·rw[h2] at hg
    simp only[aw,if_false] at hg
    refine sA ?_
    refine⟨by omega,?_⟩
    refine⟨i+1,?_,sL,ar [] ?_ ?_ rfl rfl⟩
    rotate_left
    ·refine sA ?_
     all_goals(simp[aI, *];done)
    ·exact sC
    exact⟨by omega,hg⟩
   ·rw[h2] at hg
    simp only[if_true] at hg
    refine sA ?_
    refine an ?_
    refine sA ?_
    all_goals(simp[hg];done)
  ·rw[al (by omega),gi] at hg
   refine uA ?_
   refine an ?_
   refine sA ?_
   all_goals(simp[hg];done)
theorem EV(f:Nat)(cap:List PV)(jX:tM 0 cap=true)(p:ir→Bool)(xs:List ir)(hf:∀x∈xs,C E.P f (av (eS x)::cap) [] (bD (bv (p x)) [])) :
 C E.P 230 [lv (dm xs),.fn f cap] [] (bD (iv (idxOf p xs)) []):=by
 refine gS (nt:=19) (rs:=[.tmp 4]) hm Tryz.func230 fun hl he cq=>?_
 refine aM hm (fun(i:Nat)=> i≤xs.length∧idxOf p xs=gi p (xs.drop i) i) (fun(i:Nat)=> ⟨dH 19 .any [(0,lv (dm xs)),(1,.fn f cap),(7,iv xs.length),(8,iv i)],[]⟩) (fun(i:Nat)=> xs.length-i) (0) ?_ (ar [] ?_ ?_ rfl rfl) ?_
 rotate_left
 ·refine sA ?_
  all_goals(simp[aI, *];done)
 ·exact sC
 rotate_left
 ·simp[idxOf]
 ·rintro i ⟨hi,hg⟩
  rcases aa (i<xs.length) with h1|h1
  ·rw[ah h1,gi] at hg
   refine uA ?_
   have hc:=hf xs[i] (ak h1)
   refine bp cap hc ?_ ?_<;>simp -implicitDefEqProofs only[go_sem,jX]
   cases h2:p xs[i]
   ·rw[h2] at hg
    simp only[aw,if_false] at hg
    refine sA ?_
    refine⟨by omega,?_⟩
    refine⟨i+1,?_,sL,ar [] ?_ ?_ rfl rfl⟩
    rotate_left
    ·refine sA ?_
     all_goals(simp[aI, *];done)
    ·exact sC
    exact⟨by omega,hg⟩
   ·rw[h2] at hg
    simp only[if_true] at hg
    refine sA ?_
    refine an ?_
    refine sA ?_
    all_goals(simp[hg];done)
  ·rw[al (by omega),gi] at hg
   refine uA ?_
   refine an ?_
   refine sA ?_
   all_goals(simp[hg];done)
theorem rO(f:Nat)(cap:List PV)(jX:tM 0 cap=true)(p:Int→Bool)(xs:List Int)(hf:∀x∈xs,C E.P f (iv x::cap) [] (bD (bv (p x)) [])) :
 C E.P 157 [lv (bI xs),.fn f cap] [] (bD (bv (xs.any p)) []):=by
 refine gS (nt:=9) (rs:=[.tmp 4]) hm Tryz.func157 fun hl he cq=>?_
 refine bp [] (Ev f cap jX p xs hf) ?_ ?_<;>simp -implicitDefEqProofs only[go_sem,jX]
 refine an ?_
 refine sA ?_
 all_goals(simp[BU];done)
theorem y5(f:Nat)(cap:List PV)(jX:tM 0 cap=true)(p:Term→Bool)(xs:List Term)(hf:∀x∈xs,C E.P f (av (cT x)::cap) [] (bD (bv (p x)) [])) :
 C E.P 86 [lv (aN xs),.fn f cap] [] (bD (bv (xs.any p)) []):=by
 refine gS (nt:=9) (rs:=[.tmp 4]) hm Tryz.func86 fun hl he cq=>?_
 refine bp [] (pK f cap jX p xs hf) ?_ ?_<;>simp -implicitDefEqProofs only[go_sem,jX]
 refine an ?_
 refine sA ?_
 all_goals(simp[BU];done)
theorem Ao(f:Nat)(cap:List PV)(jX:tM 0 cap=true)(p:ir→Bool)(xs:List ir)(hf:∀x∈xs,C E.P f (av (eS x)::cap) [] (bD (bv (p x)) [])) :
 C E.P 169 [lv (dm xs),.fn f cap] [] (bD (bv (xs.any p)) []):=by
 refine gS (nt:=9) (rs:=[.tmp 4]) hm Tryz.func169 fun hl he cq=>?_
 refine bp [] (EV f cap jX p xs hf) ?_ ?_<;>simp -implicitDefEqProofs only[go_sem,jX]
 refine an ?_
 refine sA ?_
 all_goals(simp[BU];done)
theorem uS(f:Nat)(xs ys:List Term)(hf:∀x∈xs,∀y,C E.P f [av (cT x),av (cT y)] [] (bD (bv (decide (x=y))) [])) :
 C E.P 82 [lv (aN xs),lv (aN ys),.fn f []] [] (bD (bv (decide (xs=ys))) []):=by
 refine gS (nt:=32) (rs:=[.tmp 6]) hm Tryz.func82 fun hl he cq=>?_
 rcases aa (xs.length=ys.length) with hl' | hl'
 ·simp -implicitDefEqProofs only[go_sem,hl']
  refine aM hm (fun(i:Nat)=> i≤ys.length∧decide (xs=ys)=decide (xs.drop i=ys.drop i)) (fun(i:Nat)=> ⟨dH 32 .any [(1,lv (aN ys)),(2,.fn f []),(15,lv (aN xs)),(16,iv ys.length),(17,iv i)],[]⟩) (fun(i:Nat)=> ys.length-i) (0) ?_ (ar [] ?_ ?_ rfl rfl) ?_
  rotate_left
  ·exact sC
  ·exact sC
  rotate_left
  ·simp
  ·rintro i ⟨hi,hg⟩
   rcases aa (i<ys.length) with h1|h1
   ·have h2:i<xs.length:=by omega
    rw[ah h1,ah h2] at hg
    refine uJ ?_
    have hc:=hf xs[i] (ak h2) ys[i]
    refine aC [] hc ?_
    rcases aa (xs[i]=ys[i]) with h3|h3
    ·refine uC ?_
     refine⟨by omega,?_⟩
     refine⟨i+1,?_,sL,ar [] ?_ ?_ rfl rfl⟩
     rotate_left
     ·exact sC
     ·exact sC
     exact⟨by omega,by rw[hg];simp only[h3,List.cons.injEq,true_and]⟩
    ·have hg:decide (xs=ys)=false:=by rw[hg];simp only[h3,List.cons.injEq,false_and,decide_false]
     refine uC ?_
     refine an ?_
     refine sA ?_
     all_goals(simp[hg];done)
   ·have hg:decide (xs=ys)=true:=by
     rw[hg,al (by omega),al (by omega)]
     rfl
    refine uA ?_
    refine an ?_
    refine sA ?_
    all_goals(simp[hg];done)
 ·have hn:¬xs=ys:=fun h=>hl' (by rw[h])
  simp -implicitDefEqProofs only[go_sem,hl']
  refine an ?_
  refine sA ?_
  all_goals(simp[hn];done)
theorem qj{a b:Term}:a=b↔a.name=b.name∧a.kids=b.kids:=by
 cases a;cases b;simp[Term.name,Term.kids]
theorem Dm(a b:Term)(ih:∀k∈a.kids,∀y,C E.P 30 [av (cT k),av (cT y)] [] (bD (bv (decide (k=y))) [])):C E.P 30 [av (cT a),av (cT b)] [] (bD (bv (decide (a=b))) []):=by
 refine gS (nt:=17) (rs:=[.tmp 4]) hm Tryz.func30 fun hl he cq=>?_
 rcases aa (a.name=b.name) with h|h
 ·refine uF ?_
  refine aC [] (uS 30 a.kids b.kids ih) ?_
  refine an ?_
  refine sA ?_
  all_goals(simp[qj,h];done)
 ·refine uF ?_
  refine an ?_
  refine sA ?_
  all_goals(simp[qj,h];done)
theorem ib:∀a b,C E.P 30 [av (cT a),av (cT b)] [] (bD (bv (decide (a=b))) []):=
 Term.ind fun n ks ih b=>Dm _ b ih
theorem Az(t u:Term):C E.P 180 [av (cT u),.gy [cT t] 0 0] [] (bD (bv (decide (t=u))) []):=by
 refine gS (nt:=7) (rs:=[.tmp 3]) hm Tryz.func180 fun hl he cq=>?_
 refine aC [] (ib t u) ?_
 refine an ?_
 exact sC
theorem dK(ts:List Term)(t:Term):C E.P 110 [lv (aN ts),av (cT t)] [] (bD (iv (bL ts t)) []):=by
 refine gS (nt:=8) (rs:=[.tmp 4]) hm Tryz.func110 fun hl he cq=>?_
 refine dQ [] [0] (pK 180 [.gy [cT t] 0 0] rfl (fun u=>decide (t=u)) ts (fun u _=>Az t u)) rfl ?_ ?_ ?_
 ·exact sV
 all_goals simp -implicitDefEqProofs only[go_sem]
 refine an ?_
 refine sA ?_
 all_goals(simp[bL];done)
theorem Di(ts:List Term)(ih:∀k∈ts,C E.P 56 [av (cT k)] [] (bD (av (cT k)) [])):C E.P 117 [lv (aN ts)] [] (bD (lv (aN ts)) []):=by
 refine gS (nt:=19) (rs:=[.tmp 2]) hm Tryz.func117 fun hl he cq=>?_
 refine aM hm (fun(i:Nat)=> i≤ts.length) (fun(i:Nat)=> ⟨dH 19 .any [(3,.acc 0),(6,lv (aN ts)),(7,iv ts.length),(8,iv i)],[some (.acc 34 (aN (ts.take i)))]⟩) (fun(i:Nat)=> ts.length-i) (0) ?_ (ar [none] ?_ ?_ rfl rfl) ?_
 rotate_left
 ·exact sC
 ·exact sC
 rotate_left
 ·omega
 ·rintro i hi
  rcases aa (i<ts.length) with h1|h1
  ·refine uA ?_
   have hc:=ih ts[i] (ak h1)
   refine aC [] hc ?_
   refine⟨by omega,by omega,?_⟩
   refine⟨i+1,?_,sL,ar [some 2] ?_ ?_ rfl rfl⟩
   rotate_left
   ·exact sC
   ·refine sA ?_
    all_goals(exact pg h1)
   exact h1
  ·refine uA ?_
   refine an ?_
   refine sA ?_
   rw[ao (by omega)]
theorem No(t:Term)(ih:∀k∈t.kids,C E.P 56 [av (cT k)] [] (bD (av (cT k)) [])):C E.P 56 [av (cT t)] [] (bD (av (cT t)) []):=by
 refine gS (nt:=9) (rs:=[.cell 2 34]) hm Tryz.func56 fun hl he cq=>?_
 refine aC [] (Di t.kids ih) ?_
 refine iK ?_
 skip
 refine an ?_
 exact sC
theorem ic:∀t,C E.P 56 [av (cT t)] [] (bD (av (cT t)) []):=
 Term.ind fun n ks ih=>No _ ih
theorem Bg(t:Term)(ih:∀k∈t.kids,∀(d:Nat)(l:List Term),d≤4→bN k d=true→l.length≤999000+15*(4-d)→C E.P 95 [.acc 0,av (cT k)] [some (.acc 34 (aN l))] (bD (.acc 1) [some .dead,some (.acc 34 (aN (dh l k)))]))(d:Nat)(l:List Term)
 (hd:d≤4) (hsh:bN t d=true) (hl1:l.length≤999000+15*(4-d)) :
 C E.P 95 [.acc 0,av (cT t)] [some (.acc 34 (aN l))] (bD (.acc 1) [some .dead,some (.acc 34 (aN (dh l t)))]):=by
 cases d with
 | zero=>cases t;simp[bN] at hsh
 | succ d=>
 have hk:=oa hsh
 have hle:=fun i=>zu (l:=l) hsh (by omega) i
 refine gS (nt:=28) (rs:=[.tmp 4]) hm Tryz.func95 fun hl he cq=>?_
 refine aM hm (fun(i:Nat)=> i≤t.kids.length) (fun(i:Nat)=> ⟨dH 28 .any [(0,.acc 2),(3,.ptr 1 0),(8,lv (aN t.kids)),(9,iv t.kids.length),(10,iv i)],[some .dead,some (.box (cF (cT t))),some (.acc 34 (aN (a6 l (t.kids.take i))))]⟩) (fun(i:Nat)=> t.kids.length-i) (0) ?_ (ar [some 0,some 1,some 0] ?_ ?_ rfl rfl) ?_
 rotate_left
 ·exact sC
 ·refine sA ?_
  all_goals(simp only[a6])
 rotate_left
 ·omega
 ·rintro i hi
  rcases aa (i<t.kids.length) with h1|h1
  ·refine uA ?_
   have hc:=ih t.kids[i] (ak h1) d (a6 l (t.kids.take i)) (by omega) (oh hk.2.2 _ (ak h1)) (by have:=hle i;omega)
   refine oC [] [2,4] hc ?_
   refine⟨by omega,?_⟩
   refine⟨i+1,?_,sL,ar [some 0,some 1,some 4] ?_ ?_ rfl rfl⟩
   rotate_left
   ·exact sC
   ·refine sA ?_
    all_goals(simp only[rb h1])
   exact h1
  ·have e:t.kids.take i=t.kids:=ao (by omega)
   have h2:=hle i
   rw[e] at h2
   simp -implicitDefEqProofs only[go_sem,h1,e]
   refine dQ [] [2] (dK (a6 l t.kids) t) rfl ?_ ?_ ?_
   ·exact sV
   all_goals simp -implicitDefEqProofs only[go_sem]
   rcases aa (bL (a6 l t.kids) t<0) with hx|hx
   ·simp -implicitDefEqProofs only[go_sem,hx]
    refine aC [] (ic t) ?_
    refine⟨by omega,?_⟩
    refine bZ [some 0,some 3] ?_ rfl rfl
    refine sA ?_
    rw[rk,if_pos hx,←lg,dJ,fZ]
    rfl
   ·simp -implicitDefEqProofs only[go_sem,hx]
    refine bZ [some 0,some 2] ?_ rfl rfl
    refine sA ?_
    rw[rk,if_neg hx]
theorem uu:∀(t:Term)(d:Nat)(l:List Term),d≤4→bN t d=true→l.length≤999000+15*(4-d)→C E.P 95 [.acc 0,av (cT t)] [some (.acc 34 (aN l))] (bD (.acc 1) [some .dead,some (.acc 34 (aN (dh l t)))]):=
 Term.ind fun n ks ih d l h1 h2 h3=>Bg (.mk n ks) ih d l h1 h2 h3
theorem Nh(t:Term)(bt:Nat):kW t bt=if fI t.name&&decide (t.kids.length≤2)&&decide (bt≤4) then 1+fB t.kids (bt+1) else 13:=by
 cases t;rfl
theorem Gd{ts:List Term}{i:Nat}(h:i<ts.length)(bt:Nat):fB (ts.take (i+1)) bt=fB (ts.take i) bt+kW ts[i] bt:=by
 have e:ts.take (i+1)=ts.take i++[ts[i]]:=by rw[bq,af h];rfl
 have key:∀(xs ys:List Term),fB (xs++ys) bt=fB xs bt+fB ys bt:=by
  intro xs ys
  induction xs with
  | nil=>simp[fB]
  | cons a xs ih=>simp only[List.cons_append,fB,ih];omega
 rw[e,key]
 simp[fB]
theorem Dn(t:Term)(ih:∀k∈t.kids,∀bt:Nat,1≤bt→bt≤5→C E.P 166 [av (cT k),iv bt] [] (bD (iv (kW k bt)) []))(bt:Nat)(g1:1≤bt)(g5:bt≤5) :
 C E.P 166 [av (cT t),iv bt] [] (bD (iv (kW t bt)) []):=by
 have ht:=Nh t bt
 refine gS (nt:=37) (rs:=[.tmp 4]) hm Tryz.func166 fun hl he cq=>?_
 refine aC [] (pY t.name) ?_
 cases hn:fI t.name
 ·rw[hn] at ht
  refine sA ?_
  refine an ?_
  refine sA ?_
  all_goals(simp[ht];done)
 ·rw[hn] at ht
  rcases aa ((2:Int)<(t.kids.length:Int)) with h2|h2
  ·have h2':¬t.kids.length≤2:=by omega
   simp only[h2',decide_false,hX,aK,aw,if_false] at ht
   refine uB ?_
   refine an ?_
   refine sA ?_
   all_goals(simp[ht];done)
  ·have h2':t.kids.length≤2:=by omega
   rcases aa ((4:Int)<(bt:Int)) with h4|h4
   ·have h4':¬bt≤4:=by omega
    simp only[h4',decide_false,hX,aw,if_false] at ht
    simp -implicitDefEqProofs only[go_sem,h2,h4]
    refine an ?_
    refine sA ?_
    all_goals(simp[ht];done)
   ·have h4':bt≤4:=by omega
    simp only[h2',h4',decide_true,mi,if_true] at ht
    simp -implicitDefEqProofs only[go_sem,h2,h4]
    refine aM hm (fun(i:Nat)=> i≤t.kids.length) (fun(i:Nat)=> ⟨dH 37 .any [(1,iv bt),(5,iv ((1+fB (t.kids.take i) (bt+1):Nat):Int)),(23,lv (aN t.kids)),(24,iv t.kids.length),(25,iv i)],[]⟩) (fun(i:Nat)=> t.kids.length-i) (0) ?_ (ar [] ?_ ?_ rfl rfl) ?_
    rotate_left
    ·refine sA ?_
     all_goals(simp[fB])
    ·exact sC
    rotate_left
    ·omega
    ·rintro i hi
     have hb:=vM (t.kids.take i) (bt+1) (by omega) (by omega)
     have hp:(2:Nat) ^ (5-(bt+1))≤2 ^ 4:=Nat.pow_le_pow_right (by omega) (by omega)
     have hq:(t.kids.take i).length*(27*2 ^ (5-(bt+1))-14)≤2*(27*2 ^ (5-(bt+1))-14):=Nat.mul_le_mul_right _ (by simp;omega)
     rcases aa (i<t.kids.length) with h1|h1
     ·have hk:=DQ t.kids[i] (bt+1) (by omega) (by omega)
      refine uA ?_
      refine⟨by omega,?_⟩
      have hc:=ih t.kids[i] (ak h1) (bt+1) (by omega) (by omega)
      refine aC [] hc ?_
      refine⟨by omega,by omega,?_⟩
      refine⟨i+1,?_,sL,ar [] ?_ ?_ rfl rfl⟩
      rotate_left
      ·refine sA ?_
       all_goals((simp only[Gd h1];simp;omega))
      ·exact sC
      exact h1
     ·rw[←ao (l:=t.kids) (i:=i) (by omega)] at ht
      refine uA ?_
      refine an ?_
      refine sA ?_
      all_goals(simp[ht];done)
theorem Ey:∀(t:Term)(bt:Nat),1≤bt→bt≤5→C E.P 166 [av (cT t),iv bt] [] (bD (iv (kW t bt)) []):=
 Term.ind fun n ks ih bt h1 h2=>Dn (.mk n ks) ih bt h1 h2
theorem iM(t:Term):C E.P 94 [av (cT t)] [] (bD (bv (isTerm t)) []):=by
 refine gS (nt:=6) (rs:=[.tmp 2]) hm Tryz.func94 fun hl he cq=>?_
 have hc:=Ey t 1 (by omega) (by omega)
 refine aC [] hc ?_
 refine an ?_
 refine sA ?_
 all_goals(simp[isTerm];omega)
theorem zN(n:Int):C E.P 156 [iv n] [] (bD (bv (isSort n)) []):=by
 refine gS (nt:=9) (rs:=[.tmp 2]) hm Tryz.func156 fun hl he cq=>?_
 rcases aa (n=0) with h|h
 ·refine uF ?_
  refine an ?_
  refine sA ?_
  all_goals(simp[isSort];done)
 ·refine uF ?_
  refine an ?_
  refine sA ?_
  all_goals(simp[isSort,h];done)
theorem EO(n:Int):C E.P 158 [iv n] [] (bD (bv (!isSort n)) []):=by
 refine gS (nt:=6) (rs:=[.tmp 2]) hm Tryz.func158 fun hl he cq=>?_
 refine aC [] (zN n) ?_
 refine an ?_
 exact sC
theorem Ij(x:Sym):C E.P 83 [av (wH x)] [] (bD (bv (oo x)) []):=by
 refine gS (nt:=23) (rs:=[.tmp 2]) hm Tryz.func83 fun hl he cq=>?_
 refine aC [] (pY x.name) ?_
 cases h1:fI x.name
 ·simp -implicitDefEqProofs only[go_sem]
  refine an ?_
  refine sA ?_
  all_goals(simp[oo,h1];done)
 ·rcases aa ((x.args.length:Int)≤2) with h2|h2
  ·have h2':x.args.length≤2:=by omega
   refine uB ?_
   refine aC [] (zN x.sort) ?_
   cases h3:isSort x.sort
   ·refine sA ?_
    refine an ?_
    refine sA ?_
    all_goals(simp[oo,h1,h2',h3];done)
   ·refine sA ?_
    refine aC [] (rO 158 [] rfl (fun n=>!isSort n) x.args (fun n _=>EO n)) ?_
    refine an ?_
    refine sA ?_
    all_goals(simp[oo,h1,h2',h3,List.all_eq_not_any_not];done)
  ·have h2':¬x.args.length≤2:=by omega
   refine uB ?_
   refine an ?_
   refine sA ?_
   all_goals(simp[oo,h1,h2'];done)
def ki(l:List Sym):Nat→Option nE
 | 0=>none
 | j+1=>(l[j]?).map (·.name)
theorem oE(s:dI):C E.P 32 [av (eu s)] [] (bD (bv (fO s)) []):=by
 refine gS (nt:=37) (rs:=[.tmp 2]) hm Tryz.func32 fun hl he cq=>?_
 refine aM hm (fun(i:Nat)=> i≤s.syms.length∧qW none s.syms=qW (ki s.syms i) (s.syms.drop i)) (fun(i:Nat)=> ⟨dH 37 .any [(1,.ptr 0 0),(6,lv (eF s.syms)),(7,iv s.syms.length),(8,iv i)],[some (.box (cF (eu s)))]⟩) (fun(i:Nat)=> s.syms.length-i) (0) ?_ (ar [some 0] ?_ ?_ rfl rfl) ?_
 rotate_left
 ·exact sC
 ·exact sC
 rotate_left
 ·simp[ki]
 ·rintro i ⟨hi,hg⟩
  rcases aa (i<s.syms.length) with h1|h1
  ·rw[ah h1] at hg
   simp only[qW] at hg
   refine uA ?_
   refine aC [] (Ij s.syms[i]) ?_
   cases h2:oo s.syms[i]
   ·have e:fO s=false:=by simp[fO,hg,h2]
    refine sA ?_
    refine iK ?_
    skip
    refine an ?_
    refine sA ?_
    all_goals(simp[e];done)
   ·rw[h2,aE] at hg
    cases i with
    | zero=>
      simp only[ki,aE] at hg
      simp -implicitDefEqProofs only[go_sem,Int.lt_irrefl]
      refine iK ?_
      skip
      refine⟨by omega,?_⟩
      refine⟨0+1,?_,sL,ar [some 0] ?_ ?_ rfl rfl⟩
      rotate_left
      ·refine sA ?_
       all_goals(simp[*];done)
      ·exact sC
      refine⟨by omega,?_⟩
      rw[hg]
      simp[ki,h1]
    | succ j=>
      have hj:j<s.syms.length:=by omega
      have e1:((j:Int)+1-1)=(j:Int):=by omega
      have e2:(0:Int)<(j:Int)+1:=by omega
      have e3:ki s.syms (j+1)=some s.syms[j].name:=by simp[ki,hj]
      rw[e3] at hg
      simp only at hg
      simp -implicitDefEqProofs only[go_sem,e1,e2,hj]
      refine⟨by omega,?_⟩
      cases h4:gC s.syms[j].name s.syms[j+1].name
      ·rw[h4,aK] at hg
       have e:fO s=false:=by simp[fO,hg]
       have h5:Op.bytesLess s.syms[j].name s.syms[j+1].name=false:=h4
       refine uE ?_
       refine iK ?_
       skip
       refine an ?_
       refine sA ?_
       all_goals(simp[e];done)
      ·rw[h4,aE] at hg
       have h5:Op.bytesLess s.syms[j].name s.syms[j+1].name=true:=h4
       refine uE ?_
       refine iK ?_
       skip
       refine⟨by omega,?_⟩
       refine⟨j+1+1,?_,sL,ar [some 0] ?_ ?_ rfl rfl⟩
       rotate_left
       ·exact sC
       ·exact sC
       refine⟨by omega,?_⟩
       rw[hg]
       simp[ki,h1]
  ·rw[al (by omega)] at hg
   simp only[qW] at hg
   have e:fO s=decide ((s.syms.length:Int)≤7):=by simp[fO,hg];omega
   refine uA ?_
   refine an ?_
   refine sA ?_
   all_goals(simp[e];done)
theorem tn(s:dI)(n:nE):C E.P 73 [av (eu s),sv n] [] (bD (.gV [av (wH ((symbol s n).getD sX)),bv (symbol s n).isSome]) []):=by
 refine gS (nt:=22) (rs:=[.cell 4 126,.tmp 5]) hm Tryz.func73 fun hl he cq=>?_
 refine aM hm (fun(i:Nat)=> i≤s.syms.length∧symbol s n=(s.syms.drop i).find? (fun x=>decide (x.name=n))) (fun(i:Nat)=> ⟨dH 22 .any [(1,sv n),(4,.ptr 1 0),(9,lv (eF s.syms)),(10,iv s.syms.length),(11,iv i)],[some (.box (cF (eu s))),some (.box (cF (wH sX)))]⟩) (fun(i:Nat)=> s.syms.length-i) (0) ?_ (ar [some 0,some 1] ?_ ?_ rfl rfl) ?_
 rotate_left
 ·exact sC
 ·exact sC
 rotate_left
 ·simp[symbol]
 ·rintro i ⟨hi,hg⟩
  rcases aa (i<s.syms.length) with h1|h1
  ·rw[ah h1] at hg
   rcases aa (s.syms[i].name=n) with h2|h2
   ·have e:symbol s n=some s.syms[i]:=by rw[hg];simp only[dM,h2,decide_true]
    refine uJ ?_
    refine an ?_
    refine sA ?_
    all_goals(simp[e,h2];done)
   ·have e:symbol s n=(s.syms.drop (i+1)).find? (fun x=>decide (x.name=n)):=by rw[hg];simp only[dM,h2,decide_false]
    refine uJ ?_
    refine⟨by omega,?_⟩
    refine⟨i+1,?_,sL,ar [some 0,some 1] ?_ ?_ rfl rfl⟩
    rotate_left
    ·exact sC
    ·exact sC
    exact⟨by omega,e⟩
  ·have e:symbol s n=none:=by rw[hg,al (by omega)];rfl
   refine uA ?_
   refine an ?_
   refine sA ?_
   all_goals(simp[e,sX,uV];done)
theorem KA(s:dI)(t:Term):fT s t=match symbol s t.name with
 | none=>none
 | some x=>if decide (x.args.length=t.kids.length)&&gJ s t.kids x.args then some x.sort else none:=by
 cases t;simp only[fT,Term.name,Term.kids];rfl
theorem Cb{s:dI}{ks:List Term}{ns:List Int}{i:Nat}(h:i<ks.length)(h':i<ns.length):gJ s (ks.drop i) (ns.drop i)=(decide (fT s ks[i]=some ns[i])&&gJ s (ks.drop (i+1)) (ns.drop (i+1))):=by
 rw[ah h,ah h',gJ]
theorem Ad(s:dI)(t:Term)(ih:∀k∈t.kids,C E.P 167 [av (eu s),av (cT k)] [] (bD (.gV [iv ((fT s k).getD 0),bv (fT s k).isSome]) [])) :
 C E.P 167 [av (eu s),av (cT t)] [] (bD (.gV [iv ((fT s t).getD 0),bv (fT s t).isSome]) []):=by
 have ht:=KA s t
 refine gS (nt:=58) (rs:=[.tmp 4,.tmp 5]) hm Tryz.func167 fun hl he cq=>?_
 refine aC [] (tn s t.name) ?_
 cases hx:symbol s t.name with
 | none=>
   rw[hx] at ht
   simp only at ht
   simp -implicitDefEqProofs only[go_sem,bE]
   refine an ?_
   refine sA ?_
   all_goals(simp[ht];done)
 | some x=>
   rw[hx] at ht
   simp only at ht
   rcases aa (x.args.length=t.kids.length) with h1|h1
   ·simp only[h1,decide_true,aE] at ht
    simp -implicitDefEqProofs only[go_sem,aY,aX,h1]
    refine aM hm (fun(i:Nat)=> i≤t.kids.length∧gJ s t.kids x.args=gJ s (t.kids.drop i) (x.args.drop i)) (fun(i:Nat)=> ⟨dH 58 .any [(2,.ptr 0 0),(6,.ptr 2 0),(31,lv (aN t.kids)),(32,iv t.kids.length),(33,iv i)],[some (.box (cF (eu s))),some (.box (cF (cT t))),some (.box (cF (wH x)))]⟩) (fun(i:Nat)=> t.kids.length-i) (0) ?_ (ar [some 0,some 1,some 2] ?_ ?_ rfl rfl) ?_
    rotate_left
    ·exact sC
    ·exact sC
    rotate_left
    ·simp
    ·rintro i ⟨hi,hg⟩
     rcases aa (i<t.kids.length) with h2|h2
     ·have h3:i<x.args.length:=by omega
      rw[Cb h2 h3] at hg
      refine uB ?_
      have hc:=ih t.kids[i] (ak h2)
      refine aC [] hc ?_
      cases hk:fT s t.kids[i] with
      | none=>
        rw[hk] at hg
        have hz:gJ s t.kids x.args=false:=by rw[hg];simp
        rw[hz] at ht
        simp only[aw,if_false] at ht
        simp -implicitDefEqProofs only[go_sem,bE]
        refine an ?_
        refine sA ?_
        all_goals(simp[ht];done)
      | some n=>
        rw[hk] at hg
        rcases aa (n=x.args[i]) with hn|hn
        ·have hz:gJ s t.kids x.args=gJ s (t.kids.drop (i+1)) (x.args.drop (i+1)):=by rw[hg,hn];simp
         simp -implicitDefEqProofs only[go_sem,aY,aX,hn,h3]
         refine⟨by omega,?_⟩
         refine⟨i+1,?_,sL,ar [some 0,some 1,some 2] ?_ ?_ rfl rfl⟩
         rotate_left
         ·exact sC
         ·exact sC
         exact⟨by omega,hz⟩
        ·have hz:gJ s t.kids x.args=false:=by
          rw[hg]
          simp[hn]
         rw[hz] at ht
         simp only[aw,if_false] at ht
         simp -implicitDefEqProofs only[go_sem,aY,aX,hn,h3]
         refine an ?_
         refine sA ?_
         all_goals(simp[ht];done)
     ·rw[al (by omega),al (by omega)] at hg
      rw[hg] at ht
      simp only[gJ,if_true] at ht
      refine uB ?_
      refine an ?_
      refine sA ?_
      all_goals(simp[ht];done)
   ·simp only[h1,decide_false,aK,aw,if_false] at ht
    have h1':¬ (x.args.length:Int)=t.kids.length:=by omega
    simp -implicitDefEqProofs only[go_sem,aY,aX,h1]
    refine an ?_
    refine sA ?_
    all_goals(simp[ht];done)
theorem Ch(s:dI):∀(t:Term),C E.P 167 [av (eu s),av (cT t)] [] (bD (.gV [iv ((fT s t).getD 0),bv (fT s t).isSome]) []):=
 Term.ind fun n ks ih=>Ad s (.mk n ks) ih
theorem q9(s:dI)(t:Term):C E.P 97 [av (eu s),av (cT t)] [] (bD (.gV [iv ((fy s t).getD 0),bv (fy s t).isSome]) []):=by
 refine gS (nt:=19) (rs:=[.tmp 4,.tmp 5]) hm Tryz.func97 fun hl he cq=>?_
 refine aC [] (oE s) ?_
 cases h1:fO s
 ·refine sA ?_
  refine an ?_
  refine sA ?_
  all_goals(simp[fy,h1];done)
 ·refine sA ?_
  refine aC [] (iM t) ?_
  cases h2:isTerm t
  ·refine sA ?_
   refine an ?_
   refine sA ?_
   all_goals(simp[fy,h1,h2];done)
  ·refine sA ?_
   refine aC [] (Ch s t) ?_
   refine an ?_
   refine sA ?_
   all_goals(simp[fy,h1,h2];done)
theorem wy(s:dI)(t:Term):C E.P 40 [av (eu s),av (cT t)] [] (bD (bv (dx s t)) []):=by
 refine gS (nt:=18) (rs:=[.tmp 4]) hm Tryz.func40 fun hl he cq=>?_
 refine aC [] (q9 s t) ?_
 cases h:fy s t with
 | none=>
   simp -implicitDefEqProofs only[go_sem,bE]
   refine an ?_
   refine sA ?_
   all_goals(simp[dx,h];done)
 | some n=>
   refine uL ?_
   refine an ?_
   refine sA ?_
   all_goals(simp[dx,h];done)
theorem fN(t:Term):C E.P 151 [av (cT t)] [] (bD (bv (isNone t)) []):=by
 refine gS (nt:=12) (rs:=[.tmp 2]) hm Tryz.func151 fun hl he cq=>?_
 rcases aa (t.name=[]) with h|h
 ·refine uF ?_
  refine an ?_
  refine sA ?_
  all_goals(simp[isNone,h];done)
 ·refine uF ?_
  refine an ?_
  refine sA ?_
  all_goals(simp[isNone,h];done)
theorem uj(e:fF)(s:dI):C E.P 85 [av (Cy e),av (eu s)] [] (bD (bv (gG s e)) []):=by
 refine gS (nt:=32) (rs:=[.tmp 4]) hm Tryz.func85 fun hl he cq=>?_
 refine aC [] (q9 s e.A) ?_
 refine aC [] (q9 s e.B) ?_
 cases h1:fy s e.A with
 | none=>
   simp -implicitDefEqProofs only[go_sem,bE]
   refine an ?_
   refine sA ?_
   all_goals(simp[gG,h1];done)
 | some n=>
   cases h2:fy s e.B with
   | none=>
     simp -implicitDefEqProofs only[go_sem,aY,aX,bE]
     refine an ?_
     refine sA ?_
     all_goals(simp[gG,h1,h2];done)
   | some m=>
     refine uL ?_
     refine an ?_
     refine sA ?_
     all_goals(simp[gG,h1,h2];done)
theorem tf(a:Atom):C E.P 36 [av (fW a)] [] (bD (lv (aN (cd a))) []):=by
 refine gS (nt:=13) (rs:=[.tmp 2]) hm Tryz.func36 fun hl he cq=>?_
 rcases aa (a.kind=1) with h|h
 ·refine uF ?_
  refine an ?_
  refine sA ?_
  all_goals(simp[cd,h,dJ,fZ,cT];done)
 ·refine uF ?_
  refine an ?_
  refine sA ?_
  all_goals(simp[cd,h];done)
theorem Mi{xs:List Term}{i:Nat}(h:i<xs.length)(hi:isTerm xs[i]=false)(out:List Term):mu (xs.drop i) out=[]:=by
 rw[ah h,mu,hi];rfl
theorem BW{xs:List Term}{i:Nat}(h:i<xs.length)(hi:isTerm xs[i]=true)(out:List Term):mu (xs.drop i) out=mu (xs.drop (i+1)) (dh out xs[i]):=by
 rw[ah h,mu,hi];rfl
theorem CG(xs:List Term)(hx:xs.length≤1000):C E.P 37 [lv (aN xs)] [] (bD (lv (aN (je xs))) []):=by
 refine gS (nt:=20) (rs:=[.tmp 2]) hm Tryz.func37 fun hl he cq=>?_
 refine cQ hm (fun(i:Nat) (out:List Term)=> i≤xs.length∧je xs=mu (xs.drop i) out∧out.length≤15*i) (fun(i:Nat) (out:List Term)=> ⟨dH 20 .any [(3,.acc 0),(6,lv (aN xs)),(7,iv xs.length),(8,iv i)],[some (.acc 34 (aN out))]⟩) (fun(i:Nat) (out:List Term)=> xs.length-i) (0) ([]) ?_ (ar [none] ?_ ?_ rfl rfl) ?_
 rotate_left
 ·exact sC
 ·exact sC
 rotate_left
 ·simp[je]
 ·rintro i out ⟨hi,hg,ho⟩
  rcases aa (i<xs.length) with h1|h1
  ·refine uA ?_
   refine aC [] (iM xs[i]) ?_
   cases h2:isTerm xs[i]
   ·rw[Mi h1 h2] at hg
    refine sA ?_
    refine an ?_
    refine sA ?_
    all_goals(simp[hg,fZ];done)
   ·rw[BW h1 h2] at hg
    have hs:=gN h2
    have hle:=wh (l:=out) hs (by omega)
    refine sA ?_
    refine oC [] [0,2] (uu xs[i] 4 out (by omega) hs (by omega)) ?_
    refine⟨by omega,?_⟩
    refine⟨i+1,dh out xs[i],?_,sL,ar [some 2] ?_ ?_ rfl rfl⟩
    rotate_left
    ·exact sC
    ·exact sC
    exact⟨by omega,hg,by omega⟩
  ·rw[al (by omega),mu] at hg
   refine uA ?_
   refine an ?_
   refine sA ?_
   rw[hg]
theorem Qf{es:List fF}{i:Nat}(h:i<es.length):qI (es.take (i+1))=qI (es.take i)++[es[i].A,es[i].B]:=by
 have e:es.take (i+1)=es.take i++[es[i]]:=by rw[bq,af h];rfl
 rw[e]
 simp only[qI,List.flatMap_append,List.flatMap_cons,List.flatMap_nil,List.append_nil]
theorem Kr(es:List fF):(qI es).length=2*es.length:=by
 induction es with
 | nil=>rfl
 | cons e es ih=>simp[qI] at ih⊢;omega
theorem Me(es:List fF)(hes:es.length≤1000):C E.P 225 [lv (cS es)] [] (bD (lv (aN (qI es))) []):=by
 refine gS (nt:=21) (rs:=[.tmp 2]) hm Tryz.func225 fun hl he cq=>?_
 refine aM hm (fun(i:Nat)=> i≤es.length) (fun(i:Nat)=> ⟨dH 21 .any [(3,.acc 0),(6,lv (cS es)),(7,iv es.length),(8,iv i)],[some (.acc 34 (aN (qI (es.take i))))]⟩) (fun(i:Nat)=> es.length-i) (0) ?_ (ar [none] ?_ ?_ rfl rfl) ?_
 rotate_left
 ·exact sC
 ·refine sA ?_
  all_goals(rfl)
 rotate_left
 ·omega
 ·rintro i hi
  rcases aa (i<es.length) with h1|h1
  ·have hl2:(qI (es.take i)).length≤2000:=by rw[Kr];simp;omega
   refine uA ?_
   refine⟨by simp;omega,by omega,?_⟩
   refine⟨i+1,?_,sL,ar [some 2] ?_ ?_ rfl rfl⟩
   rotate_left
   ·exact sC
   ·refine sA ?_
    all_goals((rw[Qf h1,←lg,dJ,dJ,fZ];rfl))
   exact h1
  ·refine uA ?_
   refine an ?_
   refine sA ?_
   rw[ao (by omega)]
theorem B9(s:dI)(es:List fF):C E.P 152 [av (eu s),lv (cS es)] [] (bD (bv (nk s es)) []):=by
 refine gS (nt:=31) (rs:=[.tmp 4]) hm Tryz.func152 fun hl he cq=>?_
 refine aC [] (oE s) ?_
 cases h1:fO s
 ·refine sA ?_
  refine an ?_
  refine sA ?_
  all_goals(simp[nk,h1];done)
 ·rcases aa ((12:Int)<(es.length:Int)) with h2|h2
  ·have h2':¬es.length≤12:=by omega
   refine uB ?_
   refine an ?_
   refine sA ?_
   all_goals(simp[nk,h1,h2'];done)
  ·have h2':es.length≤12:=by omega
   refine uB ?_
   refine aM hm (fun(i:Nat)=> i≤es.length∧es.all (gG s)=(es.drop i).all (gG s)) (fun(i:Nat)=> ⟨dH 31 .any [(1,lv (cS es)),(2,.ptr 0 0),(15,lv (cS es)),(16,iv es.length),(17,iv i)],[some (.box (cF (eu s)))]⟩) (fun(i:Nat)=> es.length-i) (0) ?_ (ar [some 0] ?_ ?_ rfl rfl) ?_
   rotate_left
   ·exact sC
   ·exact sC
   rotate_left
   ·simp
   ·rintro i ⟨hi,hg⟩
    rcases aa (i<es.length) with h3|h3
    ·rw[ah h3,b8] at hg
     refine uC ?_
     refine aC [] (uj es[i] s) ?_
     cases h4:gG s es[i]
     ·rw[h4,aK] at hg
      have e:nk s es=false:=by unfold nk;rw[hg];simp
      refine sA ?_
      refine an ?_
      refine sA ?_
      all_goals(simp[e];done)
     ·rw[h4,aE] at hg
      refine sA ?_
      refine⟨by omega,?_⟩
      refine⟨i+1,?_,sL,ar [some 0] ?_ ?_ rfl rfl⟩
      rotate_left
      ·exact sC
      ·exact sC
      exact⟨by omega,hg⟩
    ·rw[al (by omega),List.all_nil] at hg
     have e:nk s es=decide (((je (qI es)).length:Int)≤24):=by
      unfold nk
      rw[hg,h1,decide_eq_true h2']
      simp only[mi,aE]
      exact decide_eq_decide.2 (by omega)
     refine uC ?_
     refine aC [] (Me es (by omega)) ?_
     refine aC [] (CG (qI es) (by rw[Kr];omega)) ?_
     refine an ?_
     refine sA ?_
     all_goals(simp[e];done)
theorem EG(f:Nat)(xs ys:List ju)(hf:∀x∈xs,∀y,C E.P f [av (gR x),av (gR y)] [] (bD (bv (decide (x=y))) [])) :
 C E.P 81 [lv (eL xs),lv (eL ys),.fn f []] [] (bD (bv (decide (xs=ys))) []):=by
 refine gS (nt:=32) (rs:=[.tmp 6]) hm Tryz.func81 fun hl he cq=>?_
 rcases aa (xs.length=ys.length) with hl' | hl'
 ·simp -implicitDefEqProofs only[go_sem,hl']
  refine aM hm (fun(i:Nat)=> i≤ys.length∧decide (xs=ys)=decide (xs.drop i=ys.drop i)) (fun(i:Nat)=> ⟨dH 32 .any [(1,lv (eL ys)),(2,.fn f []),(15,lv (eL xs)),(16,iv ys.length),(17,iv i)],[]⟩) (fun(i:Nat)=> ys.length-i) (0) ?_ (ar [] ?_ ?_ rfl rfl) ?_
  rotate_left
  ·exact sC
  ·exact sC
  rotate_left
  ·simp
  ·rintro i ⟨hi,hg⟩
   rcases aa (i<ys.length) with h1|h1
   ·have h2:i<xs.length:=by omega
    rw[ah h1,ah h2] at hg
    refine uJ ?_
    have hc:=hf xs[i] (ak h2) ys[i]
    refine aC [] hc ?_
    rcases aa (xs[i]=ys[i]) with h3|h3
    ·refine uC ?_
     refine⟨by omega,?_⟩
     refine⟨i+1,?_,sL,ar [] ?_ ?_ rfl rfl⟩
     rotate_left
     ·exact sC
     ·exact sC
     exact⟨by omega,by rw[hg];simp only[h3,List.cons.injEq,true_and]⟩
    ·have hg:decide (xs=ys)=false:=by rw[hg];simp only[h3,List.cons.injEq,false_and,decide_false]
     refine uC ?_
     refine an ?_
     refine sA ?_
     all_goals(simp[hg];done)
   ·have hg:decide (xs=ys)=true:=by
     rw[hg,al (by omega),al (by omega)]
     rfl
    refine uA ?_
    refine an ?_
    refine sA ?_
    all_goals(simp[hg];done)
 ·have hn:¬xs=ys:=fun h=>hl' (by rw[h])
  simp -implicitDefEqProofs only[go_sem,hl']
  refine an ?_
  refine sA ?_
  all_goals(simp[hn];done)
theorem LX{a b:ju}:a=b↔a.iX=b.iX∧a.n=b.n∧a.t=b.t∧a.kids=b.kids:=by
 cases a;cases b;simp[ju.iX,ju.n,ju.t,ju.kids]
theorem ER(a b:ju)(ih:∀k∈a.kids,∀y,C E.P 28 [av (gR k),av (gR y)] [] (bD (bv (decide (k=y))) [])):C E.P 28 [av (gR a),av (gR b)] [] (bD (bv (decide (a=b))) []):=by
 refine gS (nt:=31) (rs:=[.tmp 4]) hm Tryz.func28 fun hl he cq=>?_
 rcases aa (a.iX=b.iX) with h1|h1
 ·rcases aa (a.n=b.n) with h2|h2
  ·refine uJ ?_
   refine aC [] (ib a.t b.t) ?_
   rcases aa (a.t=b.t) with h3|h3
   ·refine uC ?_
    refine aC [] (EG 28 a.kids b.kids ih) ?_
    refine an ?_
    refine sA ?_
    all_goals(simp[LX,h1,h2,h3];done)
   ·refine uC ?_
    refine an ?_
    refine sA ?_
    all_goals(simp[LX,h3];done)
  ·refine uJ ?_
   refine an ?_
   refine sA ?_
   all_goals(simp[LX,h2];done)
 ·refine uA ?_
  refine an ?_
  refine sA ?_
  all_goals(simp[LX,h1];done)
theorem xI:∀a b,C E.P 28 [av (gR a),av (gR b)] [] (bD (bv (decide (a=b))) []):=
 ju.ind fun r n t ks ih b=>ER (.mk r n t ks) b ih
end Go.Proofs.YtabembjmeobhoaaGreat
