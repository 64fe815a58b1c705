/-
  The walks of the small functions of the first chapters. A step towards the exact laws.
-/
import Derived.Test.YtgpjhjalfakpoaaGreatKAF
set_option linter.unusedVariables false
set_option linter.unusedSimpArgs false
open Bool renaming false_eq_true→ak,true_and→ay,false_and→aI,and_false→fa
open Classical renaming em→aa
open List renaming drop_eq_getElem_cons→af,drop_of_length_le→ag,getElem_mem→ai,take_of_length_le→ao,find?_cons→kL
open Option renaming getD_some→bN,isSome_some→cH,isSome_none→fc
namespace Go.Proofs.YtgpjhjalfakpoaaGreat
open Go.Eng Go.Mod
open Int renaming reduceEq→Z1,reduceLT→Z2,reduceLE→Z3,reduceToNat→Z4
set_option maxRecDepth 100000
set_option maxHeartbeats 400000
theorem eR(n lo hi:Int):C E.P 55 [iv n,iv lo,iv hi] [] (bB (bv (within n lo hi)) []):=by
 refine gS (nt:=15) (rs:=[.tmp 6]) hm Tryz.func55 fun hl he cx=>?_
 refine Fq (fun h=>?_) (fun h=>?_)<;>simp only[h,go_sem]
 ·refine al ?_
  refine sA ?_
  all_goals(simp[within,h];done)
 ·refine al ?_
  refine sA ?_
  all_goals(simp[within,h];done)
theorem pU(s:lp):C E.P 125 [sv s] [] (bB (bv (dM s)) []):=by
 refine gS (nt:=24) (rs:=[.tmp 2]) hm Tryz.func125 fun hl he cx=>?_
 have h:∃b,within s.length 1 2=b:=⟨_,rfl⟩
 obtain⟨b,h⟩:=h
 refine e7 [] (eR s.length 1 2) ?_ ?_<;>simp -implicitDefEqProofs only[go_sem,h]
 cases b
 ·refine sA ?_
  refine al ?_
  refine sA ?_
  all_goals(simp[dM,h];done)
 ·refine sA ?_
  refine aG hm (fun(i:Nat)=> i≤s.length∧dM s=(s.drop i).all gK) (fun(i:Nat)=> ⟨eE 24 .any [(0,sv s),(9,iv s.length),(10,iv i)],[]⟩) (fun(i:Nat)=> s.length-i) (0) ?_ (ax [] ?_ ?_ rfl rfl) ?_
  rotate_left
  ·exact sC
  ·exact sC
  rotate_left
  ·simp[dM,h]
  ·rintro i ⟨hi,hg⟩
   rcases aa (i<s.length) with h1|h1
   ·rw[af h1,List.all_cons] at hg
    refine uA ?_
    rw[vh h1]
    rcases aa ((s[i].toNat:Int)<97) with h2|h2
    ·have h3:gK s[i]=false:=by simp[gK];omega
     rw[h3,aI] at hg
     refine uB ?_
     refine al ?_
     refine sA ?_
     all_goals(simp[hg];done)
    ·simp -implicitDefEqProofs only[go_sem,h2,h1]
     rw[vh h1]
     rcases aa (122<(s[i].toNat:Int)) with h4|h4
     ·have h3:gK s[i]=false:=by simp[gK];omega
      rw[h3,aI] at hg
      refine uD ?_
      refine al ?_
      refine sA ?_
      all_goals(simp[hg];done)
     ·have h3:gK s[i]=true:=by simp[gK];omega
      rw[h3,ay] at hg
      refine uD ?_
      refine⟨by omega,?_⟩
      refine⟨i+1,?_,sL,ax [] ?_ ?_ rfl rfl⟩
      rotate_left
      ·exact sC
      ·exact sC
      exact⟨by omega,hg⟩
   ·rw[ag (by omega)] at hg
    refine uA ?_
    refine al ?_
    refine sA ?_
    all_goals(simp[hg];done)
theorem BK{α:Type}{p:α→Bool}:∀{xs:List α}{i:Int},0≤i→(0≤cI p xs i↔xs.any p=true)
 | [],i,h=>by simp[cI]
 | x::xs,i,h=>by
   simp only[cI,List.any_cons,Bool.or_eq_true]
   split
   ·rename_i hx
    simp[hx,h]
   ·rename_i hx
    rw[BK (by omega)]
    simp[hx]
theorem vE{α:Type}{p:α→Bool}{xs:List α}:decide (0≤idxOf p xs)=xs.any p:=by
 rw[Bool.eq_iff_iff,decide_eq_true_eq]
 exact BK (by omega)
theorem u6(f:Nat)(cap:List PV)(gf:nS 0 cap=true)(p:Int→Bool)(xs:List Int)(hf:∀x∈xs,C E.P f (iv x::cap) [] (bB (bv (p x)) [])) :
 C E.P 123 [lv (aL xs),.fn f cap] [] (bB (iv (idxOf p xs)) []):=by
 refine gS (nt:=19) (rs:=[.tmp 4]) hm Tryz.func123 fun hl he cx=>?_
 refine aG hm (fun(i:Nat)=> i≤xs.length∧idxOf p xs=cI p (xs.drop i) i) (fun(i:Nat)=> ⟨eE 19 .any [(0,lv (aL xs)),(1,.fn f cap),(7,iv xs.length),(8,iv i)],[]⟩) (fun(i:Nat)=> xs.length-i) (0) ?_ (ax [] ?_ ?_ rfl rfl) ?_
 rotate_left
 ·refine sA ?_
  all_goals(simp[aP, *];done)
 ·exact sC
 rotate_left
 ·simp[idxOf]
 ·rintro i ⟨hi,hg⟩
  rcases aa (i<xs.length) with h1|h1
  ·rw[af h1,cI] at hg
   refine uA ?_
   have hc:=hf xs[i] (ai h1)
   refine e7 cap hc ?_ ?_<;>simp -implicitDefEqProofs only[go_sem,gf]
   cases h2:p xs[i]
   ·rw[h2] at hg
    simp only[ak,if_false] at hg
    refine sA ?_
    refine⟨by omega,?_⟩
    refine⟨i+1,?_,sL,ax [] ?_ ?_ rfl rfl⟩
    rotate_left
    ·refine sA ?_
     all_goals(simp[aP, *];done)
    ·exact sC
    exact⟨by omega,hg⟩
   ·rw[h2] at hg
    simp only[if_true] at hg
    refine sA ?_
    refine al ?_
    refine sA ?_
    all_goals(simp[hg];done)
  ·rw[ag (by omega),cI] at hg
   refine uA ?_
   refine al ?_
   refine sA ?_
   all_goals(simp[hg];done)
theorem jL(f:Nat)(cap:List PV)(gf:nS 0 cap=true)(p:Term→Bool)(xs:List Term)(hf:∀x∈xs,C E.P f (av (cT x)::cap) [] (bB (bv (p x)) [])) :
 C E.P 135 [lv (aN xs),.fn f cap] [] (bB (iv (idxOf p xs)) []):=by
 refine gS (nt:=19) (rs:=[.tmp 4]) hm Tryz.func135 fun hl he cx=>?_
 refine aG hm (fun(i:Nat)=> i≤xs.length∧idxOf p xs=cI p (xs.drop i) i) (fun(i:Nat)=> ⟨eE 19 .any [(0,lv (aN xs)),(1,.fn f cap),(7,iv xs.length),(8,iv i)],[]⟩) (fun(i:Nat)=> xs.length-i) (0) ?_ (ax [] ?_ ?_ rfl rfl) ?_
 rotate_left
 ·refine sA ?_
  all_goals(simp[aP, *];done)
 ·exact sC
 rotate_left
 ·simp[idxOf]
 ·rintro i ⟨hi,hg⟩
  rcases aa (i<xs.length) with h1|h1
  ·rw[af h1,cI] at hg
   refine uA ?_
   have hc:=hf xs[i] (ai h1)
   refine e7 cap hc ?_ ?_<;>simp -implicitDefEqProofs only[go_sem,gf]
   cases h2:p xs[i]
   ·rw[h2] at hg
    simp only[ak,if_false] at hg
    refine sA ?_
    refine⟨by omega,?_⟩
    refine⟨i+1,?_,sL,ax [] ?_ ?_ rfl rfl⟩
    rotate_left
    ·refine sA ?_
     all_goals(simp[aP, *];done)
    ·exact sC
    exact⟨by omega,hg⟩
   ·rw[h2] at hg
    simp only[if_true] at hg
    refine sA ?_
    refine al ?_
    refine sA ?_
    all_goals(simp[hg];done)
  ·rw[ag (by omega),cI] at hg
   refine uA ?_
   refine al ?_
   refine sA ?_
   all_goals(simp[hg];done)
theorem ql(f:Nat)(cap:List PV)(gf:nS 0 cap=true)(p:Int→Bool)(xs:List Int)(hf:∀x∈xs,C E.P f (iv x::cap) [] (bB (bv (p x)) [])) :
 C E.P 127 [lv (aL xs),.fn f cap] [] (bB (bv (xs.any p)) []):=by
 refine gS (nt:=9) (rs:=[.tmp 4]) hm Tryz.func127 fun hl he cx=>?_
 refine e7 [] (u6 f cap gf p xs hf) ?_ ?_<;>simp -implicitDefEqProofs only[go_sem,gf]
 refine al ?_
 refine sA ?_
 all_goals(simp[vE];done)
theorem pC(f:Nat)(cap:List PV)(gf:nS 0 cap=true)(p:Term→Bool)(xs:List Term)(hf:∀x∈xs,C E.P f (av (cT x)::cap) [] (bB (bv (p x)) [])) :
 C E.P 78 [lv (aN xs),.fn f cap] [] (bB (bv (xs.any p)) []):=by
 refine gS (nt:=9) (rs:=[.tmp 4]) hm Tryz.func78 fun hl he cx=>?_
 refine e7 [] (jL f cap gf p xs hf) ?_ ?_<;>simp -implicitDefEqProofs only[go_sem,gf]
 refine al ?_
 refine sA ?_
 all_goals(simp[vE];done)
theorem nc(f:Nat)(xs ys:List Term)(hf:∀x∈xs,∀y,C E.P f [av (cT x),av (cT y)] [] (bB (bv (decide (x=y))) [])) :
 C E.P 138 [lv (aN xs),lv (aN ys),.fn f []] [] (bB (bv (decide (xs=ys))) []):=by
 refine gS (nt:=32) (rs:=[.tmp 6]) hm Tryz.func138 fun hl he cx=>?_
 rcases aa (xs.length=ys.length) with hl' | hl'
 ·simp -implicitDefEqProofs only[go_sem,hl']
  refine aG hm (fun(i:Nat)=> i≤ys.length∧decide (xs=ys)=decide (xs.drop i=ys.drop i)) (fun(i:Nat)=> ⟨eE 32 .any [(1,lv (aN ys)),(2,.fn f []),(15,lv (aN xs)),(16,iv ys.length),(17,iv i)],[]⟩) (fun(i:Nat)=> ys.length-i) (0) ?_ (ax [] ?_ ?_ rfl rfl) ?_
  rotate_left
  ·exact sC
  ·exact sC
  rotate_left
  ·simp
  ·rintro i ⟨hi,hg⟩
   rcases aa (i<ys.length) with h1|h1
   ·have h2:i<xs.length:=by omega
    rw[af h1,af h2] at hg
    refine uJ ?_
    have hc:=hf xs[i] (ai h2) ys[i]
    refine aC [] hc ?_
    rcases aa (xs[i]=ys[i]) with h3|h3
    ·refine uC ?_
     refine⟨by omega,?_⟩
     refine⟨i+1,?_,sL,ax [] ?_ ?_ rfl rfl⟩
     rotate_left
     ·exact sC
     ·exact sC
     exact⟨by omega,by rw[hg];simp only[h3,List.cons.injEq,true_and]⟩
    ·have hg:decide (xs=ys)=false:=by rw[hg];simp only[h3,List.cons.injEq,false_and,decide_false]
     refine uC ?_
     refine al ?_
     refine sA ?_
     all_goals(simp[hg];done)
   ·have hg:decide (xs=ys)=true:=by
     rw[hg,ag (by omega),ag (by omega)]
     rfl
    refine uA ?_
    refine al ?_
    refine sA ?_
    all_goals(simp[hg];done)
 ·have hn:¬xs=ys:=fun h=>hl' (by rw[h])
  simp -implicitDefEqProofs only[go_sem,hl']
  refine al ?_
  refine sA ?_
  all_goals(simp[hn];done)
theorem j9{a b:Term}:a=b↔a.name=b.name∧a.kids=b.kids:=by
 cases a;cases b;simp[Term.name,Term.kids]
theorem sF(a b:Term)(ih:∀k∈a.kids,∀y,C E.P 137 [av (cT k),av (cT y)] [] (bB (bv (decide (k=y))) [])):C E.P 137 [av (cT a),av (cT b)] [] (bB (bv (decide (a=b))) []):=by
 refine gS (nt:=17) (rs:=[.tmp 4]) hm Tryz.func137 fun hl he cx=>?_
 rcases aa (a.name=b.name) with h|h
 ·refine uF ?_
  refine aC [] (nc 137 a.kids b.kids ih) ?_
  refine al ?_
  refine sA ?_
  all_goals(simp[j9,h];done)
 ·refine uF ?_
  refine al ?_
  refine sA ?_
  all_goals(simp[j9,h];done)
theorem iC:∀a b,C E.P 137 [av (cT a),av (cT b)] [] (bB (bv (decide (a=b))) []):=
 Term.ind fun n ks ih b=>sF _ b ih
theorem qz(t u:Term):C E.P 203 [av (cT u),.da [cT t] 0 0] [] (bB (bv (decide (t=u))) []):=by
 refine gS (nt:=7) (rs:=[.tmp 3]) hm Tryz.func203 fun hl he cx=>?_
 refine aC [] (iC t u) ?_
 refine al ?_
 exact sC
theorem sU(ts:List Term)(t:Term):C E.P 165 [lv (aN ts),av (cT t)] [] (bB (iv (fe ts t)) []):=by
 refine gS (nt:=8) (rs:=[.tmp 4]) hm Tryz.func165 fun hl he cx=>?_
 refine iO [] [0] (jL 203 [.da [cT t] 0 0] rfl (fun u=>decide (t=u)) ts (fun u _=>qz t u)) rfl ?_ ?_ ?_
 ·exact sV
 all_goals simp -implicitDefEqProofs only[go_sem]
 refine al ?_
 refine sA ?_
 all_goals(simp[fe];done)
theorem mN(ts:List Term)(ih:∀k∈ts,C E.P 88 [av (cT k)] [] (bB (av (cT k)) [])):C E.P 89 [lv (aN ts)] [] (bB (lv (aN ts)) []):=by
 refine gS (nt:=19) (rs:=[.tmp 2]) hm Tryz.func89 fun hl he cx=>?_
 refine aG hm (fun(i:Nat)=> i≤ts.length) (fun(i:Nat)=> ⟨eE 19 .any [(3,.acc 0),(6,lv (aN ts)),(7,iv ts.length),(8,iv i)],[some (.acc 28 (aN (ts.take i)))]⟩) (fun(i:Nat)=> ts.length-i) (0) ?_ (ax [none] ?_ ?_ rfl rfl) ?_
 rotate_left
 ·exact sC
 ·exact sC
 rotate_left
 ·omega
 ·rintro i hi
  rcases aa (i<ts.length) with h1|h1
  ·refine uA ?_
   have hc:=ih ts[i] (ai h1)
   refine aC [] hc ?_
   refine⟨by omega,by omega,?_⟩
   refine⟨i+1,?_,sL,ax [some 2] ?_ ?_ rfl rfl⟩
   rotate_left
   ·exact sC
   ·refine sA ?_
    all_goals(exact nH h1)
   exact h1
  ·refine uA ?_
   refine al ?_
   refine sA ?_
   rw[ao (by omega)]
theorem BM(t:Term)(ih:∀k∈t.kids,C E.P 88 [av (cT k)] [] (bB (av (cT k)) [])):C E.P 88 [av (cT t)] [] (bB (av (cT t)) []):=by
 refine gS (nt:=9) (rs:=[.cell 2 28]) hm Tryz.func88 fun hl he cx=>?_
 refine aC [] (mN t.kids ih) ?_
 refine iK ?_
 skip
 refine al ?_
 exact sC
theorem iH:∀t,C E.P 88 [av (cT t)] [] (bB (av (cT t)) []):=
 Term.ind fun n ks ih=>BM _ ih
theorem ux(ts:List Term):C E.P 89 [lv (aN ts)] [] (bB (lv (aN ts)) []):=mN ts fun t _=>iH t
theorem rF(t:Term)(ih:∀k∈t.kids,∀(d:Nat)(l:List Term),d≤4→a8 k d=true→l.length≤999000+15*(4-d)→C E.P 136 [.acc 0,av (cT k)] [some (.acc 28 (aN l))] (bB (.acc 1) [some .dead,some (.acc 28 (aN (cQ l k)))]))(d:Nat)(l:List Term)
 (hd:d≤4) (hsh:a8 t d=true) (hl1:l.length≤999000+15*(4-d)) :
 C E.P 136 [.acc 0,av (cT t)] [some (.acc 28 (aN l))] (bB (.acc 1) [some .dead,some (.acc 28 (aN (cQ l t)))]):=by
 cases d with
 | zero=>cases t;simp[a8] at hsh
 | succ d=>
 have hk:=iY hsh
 have hle:=fun i=>pM (l:=l) hsh (by omega) i
 refine gS (nt:=28) (rs:=[.tmp 4]) hm Tryz.func136 fun hl he cx=>?_
 refine aG hm (fun(i:Nat)=> i≤t.kids.length) (fun(i:Nat)=> ⟨eE 28 .any [(0,.acc 2),(3,.ptr 1 0),(8,lv (aN t.kids)),(9,iv t.kids.length),(10,iv i)],[some .dead,some (.box (eZ (cT t))),some (.acc 28 (aN (aU l (t.kids.take i))))]⟩) (fun(i:Nat)=> t.kids.length-i) (0) ?_ (ax [some 0,some 1,some 0] ?_ ?_ rfl rfl) ?_
 rotate_left
 ·exact sC
 ·refine sA ?_
  all_goals(simp only[aU])
 rotate_left
 ·omega
 ·rintro i hi
  rcases aa (i<t.kids.length) with h1|h1
  ·refine uA ?_
   have hc:=ih t.kids[i] (ai h1) d (aU l (t.kids.take i)) (by omega) (jc hk.2.2 _ (ai h1)) (by have:=hle i;omega)
   refine oC [] [2,4] hc ?_
   refine⟨by omega,?_⟩
   refine⟨i+1,?_,sL,ax [some 0,some 1,some 4] ?_ ?_ rfl rfl⟩
   rotate_left
   ·exact sC
   ·refine sA ?_
    all_goals(simp only[kF h1])
   exact h1
  ·have e:t.kids.take i=t.kids:=ao (by omega)
   have h2:=hle i
   rw[e] at h2
   simp -implicitDefEqProofs only[go_sem,h1,e]
   refine iO [] [2] (sU (aU l t.kids) t) rfl ?_ ?_ ?_
   ·exact sV
   all_goals simp -implicitDefEqProofs only[go_sem]
   rcases aa (fe (aU l t.kids) t<0) with hx|hx
   ·simp -implicitDefEqProofs only[go_sem,hx]
    refine aC [] (iH t) ?_
    refine⟨by omega,?_⟩
    refine bu [some 0,some 3] ?_ rfl rfl
    refine sA ?_
    rw[kS,if_pos hx,←hU,eB,gH]
    rfl
   ·simp -implicitDefEqProofs only[go_sem,hx]
    refine bu [some 0,some 2] ?_ rfl rfl
    refine sA ?_
    rw[kS,if_neg hx]
theorem tb:∀(t:Term)(d:Nat)(l:List Term),d≤4→a8 t d=true→l.length≤999000+15*(4-d)→C E.P 136 [.acc 0,av (cT t)] [some (.acc 28 (aN l))] (bB (.acc 1) [some .dead,some (.acc 28 (aN (cQ l t)))]):=
 Term.ind fun n ks ih d l h1 h2 h3=>rF (.mk n ks) ih d l h1 h2 h3
theorem CE(t:Term)(bh:Nat):fM t bh=if dM t.name&&decide (t.kids.length≤2)&&decide (bh≤4) then 1+cR t.kids (bh+1) else 13:=by
 cases t;rfl
theorem xu{ts:List Term}{i:Nat}(h:i<ts.length)(bh:Nat):cR (ts.take (i+1)) bh=cR (ts.take i) bh+fM ts[i] bh:=by
 have e:ts.take (i+1)=ts.take i++[ts[i]]:=by rw[List.take_add_one,List.getElem?_eq_getElem h];rfl
 have key:∀(xs ys:List Term),cR (xs++ys) bh=cR xs bh+cR ys bh:=by
  intro xs ys
  induction xs with
  | nil=>simp[cR]
  | cons a xs ih=>simp only[List.cons_append,cR,ih];omega
 rw[e,key]
 simp[cR]
theorem sH(t:Term)(ih:∀k∈t.kids,∀bh:Nat,1≤bh→bh≤5→C E.P 178 [av (cT k),iv bh] [] (bB (iv (fM k bh)) []))(bh:Nat)(g1:1≤bh)(g5:bh≤5) :
 C E.P 178 [av (cT t),iv bh] [] (bB (iv (fM t bh)) []):=by
 have ht:=CE t bh
 refine gS (nt:=37) (rs:=[.tmp 4]) hm Tryz.func178 fun hl he cx=>?_
 refine aC [] (pU t.name) ?_
 cases hn:dM t.name
 ·rw[hn] at ht
  refine sA ?_
  refine al ?_
  refine sA ?_
  all_goals(simp[ht];done)
 ·rw[hn] at ht
  rcases aa ((2:Int)<(t.kids.length:Int)) with h2|h2
  ·have h2':¬t.kids.length≤2:=by omega
   simp only[h2',decide_false,fa,aI,ak,if_false] at ht
   refine uB ?_
   refine al ?_
   refine sA ?_
   all_goals(simp[ht];done)
  ·have h2':t.kids.length≤2:=by omega
   rcases aa ((4:Int)<(bh:Int)) with h4|h4
   ·have h4':¬bh≤4:=by omega
    simp only[h4',decide_false,fa,ak,if_false] at ht
    simp -implicitDefEqProofs only[go_sem,h2,h4]
    refine al ?_
    refine sA ?_
    all_goals(simp[ht];done)
   ·have h4':bh≤4:=by omega
    simp only[h2',h4',decide_true,Bool.and_self,if_true] at ht
    simp -implicitDefEqProofs only[go_sem,h2,h4]
    refine aG hm (fun(i:Nat)=> i≤t.kids.length) (fun(i:Nat)=> ⟨eE 37 .any [(1,iv bh),(5,iv ((1+cR (t.kids.take i) (bh+1):Nat):Int)),(23,lv (aN t.kids)),(24,iv t.kids.length),(25,iv i)],[]⟩) (fun(i:Nat)=> t.kids.length-i) (0) ?_ (ax [] ?_ ?_ rfl rfl) ?_
    rotate_left
    ·refine sA ?_
     all_goals(simp[cR])
    ·exact sC
    rotate_left
    ·omega
    ·rintro i hi
     have hb:=nv (t.kids.take i) (bh+1) (by omega) (by omega)
     have hp:(2:Nat) ^ (5-(bh+1))≤2 ^ 4:=Nat.pow_le_pow_right (by omega) (by omega)
     have hq:(t.kids.take i).length*(27*2 ^ (5-(bh+1))-14)≤2*(27*2 ^ (5-(bh+1))-14):=Nat.mul_le_mul_right _ (by simp;omega)
     rcases aa (i<t.kids.length) with h1|h1
     ·have hk:=uq t.kids[i] (bh+1) (by omega) (by omega)
      refine uA ?_
      refine⟨by omega,?_⟩
      have hc:=ih t.kids[i] (ai h1) (bh+1) (by omega) (by omega)
      refine aC [] hc ?_
      refine⟨by omega,by omega,?_⟩
      refine⟨i+1,?_,sL,ax [] ?_ ?_ rfl rfl⟩
      rotate_left
      ·refine sA ?_
       all_goals((simp only[xu h1];simp;omega))
      ·exact sC
      exact h1
     ·rw[←ao (l:=t.kids) (i:=i) (by omega)] at ht
      refine uA ?_
      refine al ?_
      refine sA ?_
      all_goals(simp[ht];done)
theorem uN:∀(t:Term)(bh:Nat),1≤bh→bh≤5→C E.P 178 [av (cT t),iv bh] [] (bB (iv (fM t bh)) []):=
 Term.ind fun n ks ih bh h1 h2=>sH (.mk n ks) ih bh h1 h2
theorem ix(t:Term):C E.P 131 [av (cT t)] [] (bB (bv (isTerm t)) []):=by
 refine gS (nt:=6) (rs:=[.tmp 2]) hm Tryz.func131 fun hl he cx=>?_
 have hc:=uN t 1 (by omega) (by omega)
 refine aC [] hc ?_
 refine al ?_
 refine sA ?_
 all_goals(simp[isTerm];omega)
theorem pQ(n:Int):C E.P 126 [iv n] [] (bB (bv (isSort n)) []):=by
 refine gS (nt:=9) (rs:=[.tmp 2]) hm Tryz.func126 fun hl he cx=>?_
 rcases aa (n=0) with h|h
 ·refine uF ?_
  refine al ?_
  refine sA ?_
  all_goals(simp[isSort];done)
 ·refine uF ?_
  refine al ?_
  refine sA ?_
  all_goals(simp[isSort,h];done)
theorem uU(n:Int):C E.P 128 [iv n] [] (bB (bv (!isSort n)) []):=by
 refine gS (nt:=6) (rs:=[.tmp 2]) hm Tryz.func128 fun hl he cx=>?_
 refine aC [] (pQ n) ?_
 refine al ?_
 exact sC
theorem yM(x:Sym):C E.P 65 [av (pB x)] [] (bB (bv (iX x)) []):=by
 refine gS (nt:=23) (rs:=[.tmp 2]) hm Tryz.func65 fun hl he cx=>?_
 refine aC [] (pU x.name) ?_
 cases h1:dM x.name
 ·simp -implicitDefEqProofs only[go_sem]
  refine al ?_
  refine sA ?_
  all_goals(simp[iX,h1];done)
 ·rcases aa ((x.args.length:Int)≤2) with h2|h2
  ·have h2':x.args.length≤2:=by omega
   refine uB ?_
   refine aC [] (pQ x.sort) ?_
   cases h3:isSort x.sort
   ·refine sA ?_
    refine al ?_
    refine sA ?_
    all_goals(simp[iX,h1,h2',h3];done)
   ·refine sA ?_
    refine aC [] (ql 128 [] rfl (fun n=>!isSort n) x.args (fun n _=>uU n)) ?_
    refine al ?_
    refine sA ?_
    all_goals(simp[iX,h1,h2',h3,List.all_eq_not_any_not];done)
  ·have h2':¬x.args.length≤2:=by omega
   refine uB ?_
   refine al ?_
   refine sA ?_
   all_goals(simp[iX,h1,h2'];done)
def fw(l:List Sym):Nat→Option lp
 | 0=>none
 | j+1=>(l[j]?).map (·.name)
theorem k9(s:eD):C E.P 30 [av (c8 s)] [] (bB (bv (dp s)) []):=by
 refine gS (nt:=37) (rs:=[.tmp 2]) hm Tryz.func30 fun hl he cx=>?_
 refine aG hm (fun(i:Nat)=> i≤s.syms.length∧kB none s.syms=kB (fw s.syms i) (s.syms.drop i)) (fun(i:Nat)=> ⟨eE 37 .any [(1,.ptr 0 0),(6,lv (dW s.syms)),(7,iv s.syms.length),(8,iv i)],[some (.box (eZ (c8 s)))]⟩) (fun(i:Nat)=> s.syms.length-i) (0) ?_ (ax [some 0] ?_ ?_ rfl rfl) ?_
 rotate_left
 ·exact sC
 ·exact sC
 rotate_left
 ·simp[fw]
 ·rintro i ⟨hi,hg⟩
  rcases aa (i<s.syms.length) with h1|h1
  ·rw[af h1] at hg
   simp only[kB] at hg
   refine uA ?_
   refine aC [] (yM s.syms[i]) ?_
   cases h2:iX s.syms[i]
   ·have e:dp s=false:=by simp[dp,hg,h2]
    refine sA ?_
    refine iK ?_
    skip
    refine al ?_
    refine sA ?_
    all_goals(simp[e];done)
   ·rw[h2,ay] at hg
    cases i with
    | zero=>
      simp only[fw,ay] at hg
      simp -implicitDefEqProofs only[go_sem,Int.lt_irrefl]
      refine iK ?_
      skip
      refine⟨by omega,?_⟩
      refine⟨0+1,?_,sL,ax [some 0] ?_ ?_ rfl rfl⟩
      rotate_left
      ·refine sA ?_
       all_goals(simp[*];done)
      ·exact sC
      refine⟨by omega,?_⟩
      rw[hg]
      simp[fw,h1]
    | succ j=>
      have hj:j<s.syms.length:=by omega
      have e1:((j:Int)+1-1)=(j:Int):=by omega
      have e2:(0:Int)<(j:Int)+1:=by omega
      have e3:fw s.syms (j+1)=some s.syms[j].name:=by simp[fw,hj]
      rw[e3] at hg
      simp only at hg
      simp -implicitDefEqProofs only[go_sem,e1,e2,hj]
      refine⟨by omega,?_⟩
      cases h4:il s.syms[j].name s.syms[j+1].name
      ·rw[h4,aI] at hg
       have e:dp s=false:=by simp[dp,hg]
       have h5:Op.bytesLess s.syms[j].name s.syms[j+1].name=false:=h4
       refine uE ?_
       refine iK ?_
       skip
       refine al ?_
       refine sA ?_
       all_goals(simp[e];done)
      ·rw[h4,ay] at hg
       have h5:Op.bytesLess s.syms[j].name s.syms[j+1].name=true:=h4
       refine uE ?_
       refine iK ?_
       skip
       refine⟨by omega,?_⟩
       refine⟨j+1+1,?_,sL,ax [some 0] ?_ ?_ rfl rfl⟩
       rotate_left
       ·exact sC
       ·exact sC
       refine⟨by omega,?_⟩
       rw[hg]
       simp[fw,h1]
  ·rw[ag (by omega)] at hg
   simp only[kB] at hg
   have e:dp s=decide ((s.syms.length:Int)≤7):=by simp[dp,hg];omega
   refine uA ?_
   refine al ?_
   refine sA ?_
   all_goals(simp[e];done)
theorem rV(s:eD)(n:lp):C E.P 214 [av (c8 s),sv n] [] (bB (.gL [av (pB ((symbol s n).getD lZ)),bv (symbol s n).isSome]) []):=by
 refine gS (nt:=22) (rs:=[.cell 4 129,.tmp 5]) hm Tryz.func214 fun hl he cx=>?_
 refine aG hm (fun(i:Nat)=> i≤s.syms.length∧symbol s n=(s.syms.drop i).find? (fun x=>decide (x.name=n))) (fun(i:Nat)=> ⟨eE 22 .any [(1,sv n),(4,.ptr 1 0),(9,lv (dW s.syms)),(10,iv s.syms.length),(11,iv i)],[some (.box (eZ (c8 s))),some (.box (eZ (pB lZ)))]⟩) (fun(i:Nat)=> s.syms.length-i) (0) ?_ (ax [some 0,some 1] ?_ ?_ rfl rfl) ?_
 rotate_left
 ·exact sC
 ·exact sC
 rotate_left
 ·simp[symbol]
 ·rintro i ⟨hi,hg⟩
  rcases aa (i<s.syms.length) with h1|h1
  ·rw[af h1] at hg
   rcases aa (s.syms[i].name=n) with h2|h2
   ·have e:symbol s n=some s.syms[i]:=by rw[hg];simp only[kL,h2,decide_true]
    refine uJ ?_
    refine al ?_
    refine sA ?_
    all_goals(simp[e,h2];done)
   ·have e:symbol s n=(s.syms.drop (i+1)).find? (fun x=>decide (x.name=n)):=by rw[hg];simp only[kL,h2,decide_false]
    refine uJ ?_
    refine⟨by omega,?_⟩
    refine⟨i+1,?_,sL,ax [some 0,some 1] ?_ ?_ rfl rfl⟩
    rotate_left
    ·exact sC
    ·exact sC
    exact⟨by omega,e⟩
  ·have e:symbol s n=none:=by rw[hg,ag (by omega)];rfl
   refine uA ?_
   refine al ?_
   refine sA ?_
   all_goals(simp[e,lZ,cY];done)
theorem y8(s:eD)(t:Term):dE s t=match symbol s t.name with
 | none=>none
 | some x=>if decide (x.args.length=t.kids.length)&&eH s t.kids x.args then some x.sort else none:=by
 cases t;simp only[dE,Term.name,Term.kids];rfl
theorem ra{s:eD}{ks:List Term}{ns:List Int}{i:Nat}(h:i<ks.length)(h':i<ns.length):eH s (ks.drop i) (ns.drop i)=(decide (dE s ks[i]=some ns[i])&&eH s (ks.drop (i+1)) (ns.drop (i+1))):=by
 rw[af h,af h',eH]
theorem qQ(s:eD)(t:Term)(ih:∀k∈t.kids,C E.P 180 [av (c8 s),av (cT k)] [] (bB (.gL [iv ((dE s k).getD 0),bv (dE s k).isSome]) [])) :
 C E.P 180 [av (c8 s),av (cT t)] [] (bB (.gL [iv ((dE s t).getD 0),bv (dE s t).isSome]) []):=by
 have ht:=y8 s t
 refine gS (nt:=58) (rs:=[.tmp 4,.tmp 5]) hm Tryz.func180 fun hl he cx=>?_
 refine aC [] (rV s t.name) ?_
 cases hx:symbol s t.name with
 | none=>
   rw[hx] at ht
   simp only at ht
   simp -implicitDefEqProofs only[go_sem,fc]
   refine al ?_
   refine sA ?_
   all_goals(simp[ht];done)
 | some x=>
   rw[hx] at ht
   simp only at ht
   rcases aa (x.args.length=t.kids.length) with h1|h1
   ·simp only[h1,decide_true,ay] at ht
    simp -implicitDefEqProofs only[go_sem,cH,bN,h1]
    refine aG hm (fun(i:Nat)=> i≤t.kids.length∧eH s t.kids x.args=eH s (t.kids.drop i) (x.args.drop i)) (fun(i:Nat)=> ⟨eE 58 .any [(2,.ptr 0 0),(6,.ptr 2 0),(31,lv (aN t.kids)),(32,iv t.kids.length),(33,iv i)],[some (.box (eZ (c8 s))),some (.box (eZ (cT t))),some (.box (eZ (pB x)))]⟩) (fun(i:Nat)=> t.kids.length-i) (0) ?_ (ax [some 0,some 1,some 2] ?_ ?_ rfl rfl) ?_
    rotate_left
    ·exact sC
    ·exact sC
    rotate_left
    ·simp
    ·rintro i ⟨hi,hg⟩
     rcases aa (i<t.kids.length) with h2|h2
     ·have h3:i<x.args.length:=by omega
      rw[ra h2 h3] at hg
      refine uB ?_
      have hc:=ih t.kids[i] (ai h2)
      refine aC [] hc ?_
      cases hk:dE s t.kids[i] with
      | none=>
        rw[hk] at hg
        have hz:eH s t.kids x.args=false:=by rw[hg];simp
        rw[hz] at ht
        simp only[ak,if_false] at ht
        simp -implicitDefEqProofs only[go_sem,fc]
        refine al ?_
        refine sA ?_
        all_goals(simp[ht];done)
      | some n=>
        rw[hk] at hg
        rcases aa (n=x.args[i]) with hn|hn
        ·have hz:eH s t.kids x.args=eH s (t.kids.drop (i+1)) (x.args.drop (i+1)):=by rw[hg,hn];simp
         simp -implicitDefEqProofs only[go_sem,cH,bN,hn,h3]
         refine⟨by omega,?_⟩
         refine⟨i+1,?_,sL,ax [some 0,some 1,some 2] ?_ ?_ rfl rfl⟩
         rotate_left
         ·exact sC
         ·exact sC
         exact⟨by omega,hz⟩
        ·have hz:eH s t.kids x.args=false:=by
          rw[hg]
          simp[hn]
         rw[hz] at ht
         simp only[ak,if_false] at ht
         simp -implicitDefEqProofs only[go_sem,cH,bN,hn,h3]
         refine al ?_
         refine sA ?_
         all_goals(simp[ht];done)
     ·rw[ag (by omega),ag (by omega)] at hg
      rw[hg] at ht
      simp only[eH,if_true] at ht
      refine uB ?_
      refine al ?_
      refine sA ?_
      all_goals(simp[ht];done)
   ·simp only[h1,decide_false,aI,ak,if_false] at ht
    have h1':¬ (x.args.length:Int)=t.kids.length:=by omega
    simp -implicitDefEqProofs only[go_sem,cH,bN,h1]
    refine al ?_
    refine sA ?_
    all_goals(simp[ht];done)
theorem qV(s:eD):∀(t:Term),C E.P 180 [av (c8 s),av (cT t)] [] (bB (.gL [iv ((dE s t).getD 0),bv (dE s t).isSome]) []):=
 Term.ind fun n ks ih=>qQ s (.mk n ks) ih
theorem kz(s:eD)(t:Term):C E.P 134 [av (c8 s),av (cT t)] [] (bB (.gL [iv ((eg s t).getD 0),bv (eg s t).isSome]) []):=by
 refine gS (nt:=19) (rs:=[.tmp 4,.tmp 5]) hm Tryz.func134 fun hl he cx=>?_
 refine aC [] (k9 s) ?_
 cases h1:dp s
 ·refine sA ?_
  refine al ?_
  refine sA ?_
  all_goals(simp[eg,h1];done)
 ·refine sA ?_
  refine aC [] (ix t) ?_
  cases h2:isTerm t
  ·refine sA ?_
   refine al ?_
   refine sA ?_
   all_goals(simp[eg,h1,h2];done)
  ·refine sA ?_
   refine aC [] (qV s t) ?_
   refine al ?_
   refine sA ?_
   all_goals(simp[eg,h1,h2];done)
theorem nR(s:eD)(t:Term):C E.P 80 [av (c8 s),av (cT t)] [] (bB (bv (cd s t)) []):=by
 refine gS (nt:=18) (rs:=[.tmp 4]) hm Tryz.func80 fun hl he cx=>?_
 refine aC [] (kz s t) ?_
 cases h:eg s t with
 | none=>
   simp -implicitDefEqProofs only[go_sem,fc]
   refine al ?_
   refine sA ?_
   all_goals(simp[cd,h];done)
 | some n=>
   refine uL ?_
   refine al ?_
   refine sA ?_
   all_goals(simp[cd,h];done)
theorem pX(t:Term):C E.P 132 [av (cT t)] [] (bB (bv (isNone t)) []):=by
 refine gS (nt:=12) (rs:=[.tmp 2]) hm Tryz.func132 fun hl he cx=>?_
 rcases aa (t.name=[]) with h|h
 ·refine uF ?_
  refine al ?_
  refine sA ?_
  all_goals(simp[isNone,h];done)
 ·refine uF ?_
  refine al ?_
  refine sA ?_
  all_goals(simp[isNone,h];done)
theorem ss(e:zM)(s:eD):C E.P 77 [av (N8 e),av (c8 s)] [] (bB (bv (jm s e)) []):=by
 refine gS (nt:=32) (rs:=[.tmp 4]) hm Tryz.func77 fun hl he cx=>?_
 refine aC [] (kz s e.A) ?_
 refine aC [] (kz s e.B) ?_
 cases h1:eg s e.A with
 | none=>
   simp -implicitDefEqProofs only[go_sem,fc]
   refine al ?_
   refine sA ?_
   all_goals(simp[jm,h1];done)
 | some n=>
   cases h2:eg s e.B with
   | none=>
     simp -implicitDefEqProofs only[go_sem,cH,bN,fc]
     refine al ?_
     refine sA ?_
     all_goals(simp[jm,h1,h2];done)
   | some m=>
     refine uL ?_
     refine al ?_
     refine sA ?_
     all_goals(simp[jm,h1,h2];done)
theorem rE(a:Atom):C E.P 81 [av (dJ a)] [] (bB (lv (aN (ck a))) []):=by
 refine gS (nt:=13) (rs:=[.tmp 2]) hm Tryz.func81 fun hl he cx=>?_
 rcases aa (a.kind=1) with h|h
 ·refine uF ?_
  refine al ?_
  refine sA ?_
  all_goals(simp[ck,h,eB,gH,cT];done)
 ·refine uF ?_
  refine al ?_
  refine sA ?_
  all_goals(simp[ck,h];done)
theorem A6{xs:List Term}{i:Nat}(h:i<xs.length)(hi:isTerm xs[i]=true)(out:List Term):j5 (xs.drop i) out=j5 (xs.drop (i+1)) (cQ out xs[i]):=by
 rw[af h,j5,hi];rfl
end Go.Proofs.YtgpjhjalfakpoaaGreat
