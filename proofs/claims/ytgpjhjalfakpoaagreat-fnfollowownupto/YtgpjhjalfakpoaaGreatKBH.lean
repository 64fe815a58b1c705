/-
  The walks of the small functions of the first chapters. A step towards the exact laws.
-/
import Derived.Test.YtgpjhjalfakpoaaGreatKBF
set_option linter.unusedVariables false
set_option linter.unusedSimpArgs false
open Bool renaming false_eq_true→al,true_and→az,false_and→aK,and_false→fw
open Classical renaming em→aa
open List renaming drop_eq_getElem_cons→af,drop_of_length_le→ag,getElem_mem→ah,take_of_length_le→an,find?_cons→k9
open Option renaming getD_some→bP,isSome_some→cl,isSome_none→eA
namespace Go.Proofs.YtgpjhjalfakpoaaGreat
open Go.Eng Go.Mod
open Int renaming reduceEq→Z1,reduceLT→Z2,reduceLE→Z3,reduceToNat→Z4
set_option maxRecDepth 100000
set_option maxHeartbeats 400000
theorem fh(n lo hi:Int):C E.P 55 [iv n,iv lo,iv hi] [] (bw (bv (within n lo hi)) []):=by
 refine gS (nt:=15) (rs:=[.tmp 6]) hm Tryz.func55 fun hl he cp=>?_
 refine Ge (fun h=>?_) (fun h=>?_)<;>simp only[h,go_sem]
 ·refine ak ?_
  refine sA ?_
  all_goals(simp[within,h];done)
 ·refine ak ?_
  refine sA ?_
  all_goals(simp[within,h];done)
theorem qc(s:lH):C E.P 125 [sv s] [] (bw (bv (dV s)) []):=by
 refine gS (nt:=24) (rs:=[.tmp 2]) hm Tryz.func125 fun hl he cp=>?_
 have h:∃b,within s.length 1 2=b:=⟨_,rfl⟩
 obtain⟨b,h⟩:=h
 refine fm [] (fh s.length 1 2) ?_ ?_<;>simp -implicitDefEqProofs only[go_sem,h]
 cases b
 ·refine sA ?_
  refine ak ?_
  refine sA ?_
  all_goals(simp[dV,h];done)
 ·refine sA ?_
  refine aI hm (fun(i:Nat)=> i≤s.length∧dV s=(s.drop i).all hG) (fun(i:Nat)=> ⟨eQ 24 .any [(0,sv s),(9,iv s.length),(10,iv i)],[]⟩) (fun(i:Nat)=> s.length-i) (0) ?_ (ax [] ?_ ?_ rfl rfl) ?_
  rotate_left
  ·exact sC
  ·exact sC
  rotate_left
  ·simp[dV,h]
  ·rintro i ⟨hi,hg⟩
   rcases aa (i<s.length) with h1|h1
   ·rw[af h1,List.all_cons] at hg
    refine uA ?_
    rw[wu h1]
    rcases aa ((s[i].toNat:Int)<97) with h2|h2
    ·have h3:hG s[i]=false:=by simp[hG];omega
     rw[h3,aK] at hg
     refine uB ?_
     refine ak ?_
     refine sA ?_
     all_goals(simp[hg];done)
    ·simp -implicitDefEqProofs only[go_sem,h2,h1]
     rw[wu h1]
     rcases aa (122<(s[i].toNat:Int)) with h4|h4
     ·have h3:hG s[i]=false:=by simp[hG];omega
      rw[h3,aK] at hg
      refine uD ?_
      refine ak ?_
      refine sA ?_
      all_goals(simp[hg];done)
     ·have h3:hG s[i]=true:=by simp[hG];omega
      rw[h3,az] at hg
      refine uD ?_
      refine⟨by omega,?_⟩
      refine⟨i+1,?_,sL,ax [] ?_ ?_ rfl rfl⟩
      rotate_left
      ·exact sC
      ·exact sC
      exact⟨by omega,hg⟩
   ·rw[ag (by omega)] at hg
    refine uA ?_
    refine ak ?_
    refine sA ?_
    all_goals(simp[hg];done)
theorem BT{α:Type}{p:α→Bool}:∀{xs:List α}{i:Int},0≤i→(0≤cL p xs i↔xs.any p=true)
 | [],i,h=>by simp[cL]
 | x::xs,i,h=>by
   simp only[cL,List.any_cons,Bool.or_eq_true]
   split
   ·rename_i hx
    simp[hx,h]
   ·rename_i hx
    rw[BT (by omega)]
    simp[hx]
theorem wy{α:Type}{p:α→Bool}{xs:List α}:decide (0≤idxOf p xs)=xs.any p:=by
 rw[Bool.eq_iff_iff,decide_eq_true_eq]
 exact BT (by omega)
theorem vy(f:Nat)(cap:List PV)(fV:oo 0 cap=true)(p:Int→Bool)(xs:List Int)(hf:∀x∈xs,C E.P f (iv x::cap) [] (bw (bv (p x)) [])) :
 C E.P 123 [lv (aM xs),.fn f cap] [] (bw (iv (idxOf p xs)) []):=by
 refine gS (nt:=19) (rs:=[.tmp 4]) hm Tryz.func123 fun hl he cp=>?_
 refine aI hm (fun(i:Nat)=> i≤xs.length∧idxOf p xs=cL p (xs.drop i) i) (fun(i:Nat)=> ⟨eQ 19 .any [(0,lv (aM xs)),(1,.fn f cap),(7,iv xs.length),(8,iv i)],[]⟩) (fun(i:Nat)=> xs.length-i) (0) ?_ (ax [] ?_ ?_ rfl rfl) ?_
 rotate_left
 ·refine sA ?_
  all_goals(simp[aS, *];done)
 ·exact sC
 rotate_left
 ·simp[idxOf]
 ·rintro i ⟨hi,hg⟩
  rcases aa (i<xs.length) with h1|h1
  ·rw[af h1,cL] at hg
   refine uA ?_
   have hc:=hf xs[i] (ah h1)
   refine fm cap hc ?_ ?_<;>simp -implicitDefEqProofs only[go_sem,fV]
   cases h2:p xs[i]
   ·rw[h2] at hg
    simp only[al,if_false] at hg
    refine sA ?_
    refine⟨by omega,?_⟩
    refine⟨i+1,?_,sL,ax [] ?_ ?_ rfl rfl⟩
    rotate_left
    ·refine sA ?_
     all_goals(simp[aS, *];done)
    ·exact sC
    exact⟨by omega,hg⟩
   ·rw[h2] at hg
    simp only[if_true] at hg
    refine sA ?_
    refine ak ?_
    refine sA ?_
    all_goals(simp[hg];done)
  ·rw[ag (by omega),cL] at hg
   refine uA ?_
   refine ak ?_
   refine sA ?_
   all_goals(simp[hg];done)
theorem j5(f:Nat)(cap:List PV)(fV:oo 0 cap=true)(p:Term→Bool)(xs:List Term)(hf:∀x∈xs,C E.P f (av (cT x)::cap) [] (bw (bv (p x)) [])) :
 C E.P 135 [lv (aQ xs),.fn f cap] [] (bw (iv (idxOf p xs)) []):=by
 refine gS (nt:=19) (rs:=[.tmp 4]) hm Tryz.func135 fun hl he cp=>?_
 refine aI hm (fun(i:Nat)=> i≤xs.length∧idxOf p xs=cL p (xs.drop i) i) (fun(i:Nat)=> ⟨eQ 19 .any [(0,lv (aQ xs)),(1,.fn f cap),(7,iv xs.length),(8,iv i)],[]⟩) (fun(i:Nat)=> xs.length-i) (0) ?_ (ax [] ?_ ?_ rfl rfl) ?_
 rotate_left
 ·refine sA ?_
  all_goals(simp[aS, *];done)
 ·exact sC
 rotate_left
 ·simp[idxOf]
 ·rintro i ⟨hi,hg⟩
  rcases aa (i<xs.length) with h1|h1
  ·rw[af h1,cL] at hg
   refine uA ?_
   have hc:=hf xs[i] (ah h1)
   refine fm cap hc ?_ ?_<;>simp -implicitDefEqProofs only[go_sem,fV]
   cases h2:p xs[i]
   ·rw[h2] at hg
    simp only[al,if_false] at hg
    refine sA ?_
    refine⟨by omega,?_⟩
    refine⟨i+1,?_,sL,ax [] ?_ ?_ rfl rfl⟩
    rotate_left
    ·refine sA ?_
     all_goals(simp[aS, *];done)
    ·exact sC
    exact⟨by omega,hg⟩
   ·rw[h2] at hg
    simp only[if_true] at hg
    refine sA ?_
    refine ak ?_
    refine sA ?_
    all_goals(simp[hg];done)
  ·rw[ag (by omega),cL] at hg
   refine uA ?_
   refine ak ?_
   refine sA ?_
   all_goals(simp[hg];done)
theorem rk(f:Nat)(cap:List PV)(fV:oo 0 cap=true)(p:Int→Bool)(xs:List Int)(hf:∀x∈xs,C E.P f (iv x::cap) [] (bw (bv (p x)) [])) :
 C E.P 127 [lv (aM xs),.fn f cap] [] (bw (bv (xs.any p)) []):=by
 refine gS (nt:=9) (rs:=[.tmp 4]) hm Tryz.func127 fun hl he cp=>?_
 refine fm [] (vy f cap fV p xs hf) ?_ ?_<;>simp -implicitDefEqProofs only[go_sem,fV]
 refine ak ?_
 refine sA ?_
 all_goals(simp[wy];done)
theorem p7(f:Nat)(cap:List PV)(fV:oo 0 cap=true)(p:Term→Bool)(xs:List Term)(hf:∀x∈xs,C E.P f (av (cT x)::cap) [] (bw (bv (p x)) [])) :
 C E.P 78 [lv (aQ xs),.fn f cap] [] (bw (bv (xs.any p)) []):=by
 refine gS (nt:=9) (rs:=[.tmp 4]) hm Tryz.func78 fun hl he cp=>?_
 refine fm [] (j5 f cap fV p xs hf) ?_ ?_<;>simp -implicitDefEqProofs only[go_sem,fV]
 refine ak ?_
 refine sA ?_
 all_goals(simp[wy];done)
theorem nx(f:Nat)(xs ys:List Term)(hf:∀x∈xs,∀y,C E.P f [av (cT x),av (cT y)] [] (bw (bv (decide (x=y))) [])) :
 C E.P 138 [lv (aQ xs),lv (aQ ys),.fn f []] [] (bw (bv (decide (xs=ys))) []):=by
 refine gS (nt:=32) (rs:=[.tmp 6]) hm Tryz.func138 fun hl he cp=>?_
 rcases aa (xs.length=ys.length) with hl' | hl'
 ·simp -implicitDefEqProofs only[go_sem,hl']
  refine aI hm (fun(i:Nat)=> i≤ys.length∧decide (xs=ys)=decide (xs.drop i=ys.drop i)) (fun(i:Nat)=> ⟨eQ 32 .any [(1,lv (aQ ys)),(2,.fn f []),(15,lv (aQ xs)),(16,iv ys.length),(17,iv i)],[]⟩) (fun(i:Nat)=> ys.length-i) (0) ?_ (ax [] ?_ ?_ rfl rfl) ?_
  rotate_left
  ·exact sC
  ·exact sC
  rotate_left
  ·simp
  ·rintro i ⟨hi,hg⟩
   rcases aa (i<ys.length) with h1|h1
   ·have h2:i<xs.length:=by omega
    rw[af h1,af h2] at hg
    refine uJ ?_
    have hc:=hf xs[i] (ah h2) ys[i]
    refine aC [] hc ?_
    rcases aa (xs[i]=ys[i]) with h3|h3
    ·refine uC ?_
     refine⟨by omega,?_⟩
     refine⟨i+1,?_,sL,ax [] ?_ ?_ rfl rfl⟩
     rotate_left
     ·exact sC
     ·exact sC
     exact⟨by omega,by rw[hg];simp only[h3,List.cons.injEq,true_and]⟩
    ·have hg:decide (xs=ys)=false:=by rw[hg];simp only[h3,List.cons.injEq,false_and,decide_false]
     refine uC ?_
     refine ak ?_
     refine sA ?_
     all_goals(simp[hg];done)
   ·have hg:decide (xs=ys)=true:=by
     rw[hg,ag (by omega),ag (by omega)]
     rfl
    refine uA ?_
    refine ak ?_
    refine sA ?_
    all_goals(simp[hg];done)
 ·have hn:¬xs=ys:=fun h=>hl' (by rw[h])
  simp -implicitDefEqProofs only[go_sem,hl']
  refine ak ?_
  refine sA ?_
  all_goals(simp[hn];done)
theorem kj{a b:Term}:a=b↔a.name=b.name∧a.kids=b.kids:=by
 cases a;cases b;simp[Term.name,Term.kids]
theorem ue(a b:Term)(ih:∀k∈a.kids,∀y,C E.P 137 [av (cT k),av (cT y)] [] (bw (bv (decide (k=y))) [])):C E.P 137 [av (cT a),av (cT b)] [] (bw (bv (decide (a=b))) []):=by
 refine gS (nt:=17) (rs:=[.tmp 4]) hm Tryz.func137 fun hl he cp=>?_
 rcases aa (a.name=b.name) with h|h
 ·refine uF ?_
  refine aC [] (nx 137 a.kids b.kids ih) ?_
  refine ak ?_
  refine sA ?_
  all_goals(simp[kj,h];done)
 ·refine uF ?_
  refine ak ?_
  refine sA ?_
  all_goals(simp[kj,h];done)
theorem iT:∀a b,C E.P 137 [av (cT a),av (cT b)] [] (bw (bv (decide (a=b))) []):=
 Term.ind fun n ks ih b=>ue _ b ih
theorem qK(t u:Term):C E.P 203 [av (cT u),.di [cT t] 0 0] [] (bw (bv (decide (t=u))) []):=by
 refine gS (nt:=7) (rs:=[.tmp 3]) hm Tryz.func203 fun hl he cp=>?_
 refine aC [] (iT t u) ?_
 refine ak ?_
 exact sC
theorem tS(ts:List Term)(t:Term):C E.P 165 [lv (aQ ts),av (cT t)] [] (bw (iv (fA ts t)) []):=by
 refine gS (nt:=8) (rs:=[.tmp 4]) hm Tryz.func165 fun hl he cp=>?_
 refine ja [] [0] (j5 203 [.di [cT t] 0 0] rfl (fun u=>decide (t=u)) ts (fun u _=>qK t u)) rfl ?_ ?_ ?_
 ·exact sV
 all_goals simp -implicitDefEqProofs only[go_sem]
 refine ak ?_
 refine sA ?_
 all_goals(simp[fA];done)
theorem ng(ts:List Term)(ih:∀k∈ts,C E.P 88 [av (cT k)] [] (bw (av (cT k)) [])):C E.P 89 [lv (aQ ts)] [] (bw (lv (aQ ts)) []):=by
 refine gS (nt:=19) (rs:=[.tmp 2]) hm Tryz.func89 fun hl he cp=>?_
 refine aI hm (fun(i:Nat)=> i≤ts.length) (fun(i:Nat)=> ⟨eQ 19 .any [(3,.acc 0),(6,lv (aQ ts)),(7,iv ts.length),(8,iv i)],[some (.acc 28 (aQ (ts.take i)))]⟩) (fun(i:Nat)=> ts.length-i) (0) ?_ (ax [none] ?_ ?_ rfl rfl) ?_
 rotate_left
 ·exact sC
 ·exact sC
 rotate_left
 ·omega
 ·rintro i hi
  rcases aa (i<ts.length) with h1|h1
  ·refine uA ?_
   have hc:=ih ts[i] (ah h1)
   refine aC [] hc ?_
   refine⟨by omega,by omega,?_⟩
   refine⟨i+1,?_,sL,ax [some 2] ?_ ?_ rfl rfl⟩
   rotate_left
   ·exact sC
   ·refine sA ?_
    all_goals(exact nP h1)
   exact h1
  ·refine uA ?_
   refine ak ?_
   refine sA ?_
   rw[an (by omega)]
theorem Cn(t:Term)(ih:∀k∈t.kids,C E.P 88 [av (cT k)] [] (bw (av (cT k)) [])):C E.P 88 [av (cT t)] [] (bw (av (cT t)) []):=by
 refine gS (nt:=9) (rs:=[.cell 2 28]) hm Tryz.func88 fun hl he cp=>?_
 refine aC [] (ng t.kids ih) ?_
 refine iK ?_
 skip
 refine ak ?_
 exact sC
theorem iV:∀t,C E.P 88 [av (cT t)] [] (bw (av (cT t)) []):=
 Term.ind fun n ks ih=>Cn _ ih
theorem vB(ts:List Term):C E.P 89 [lv (aQ ts)] [] (bw (lv (aQ ts)) []):=ng ts fun t _=>iV t
theorem so(t:Term)(ih:∀k∈t.kids,∀(d:Nat)(l:List Term),d≤4→a8 k d=true→l.length≤999000+15*(4-d)→C E.P 136 [.acc 0,av (cT k)] [some (.acc 28 (aQ l))] (bw (.acc 1) [some .dead,some (.acc 28 (aQ (cW l k)))]))(d:Nat)(l:List Term)
 (hd:d≤4) (hsh:a8 t d=true) (hl1:l.length≤999000+15*(4-d)) :
 C E.P 136 [.acc 0,av (cT t)] [some (.acc 28 (aQ l))] (bw (.acc 1) [some .dead,some (.acc 28 (aQ (cW l t)))]):=by
 cases d with
 | zero=>cases t;simp[a8] at hsh
 | succ d=>
 have hk:=jl hsh
 have hle:=fun i=>qi (l:=l) hsh (by omega) i
 refine gS (nt:=28) (rs:=[.tmp 4]) hm Tryz.func136 fun hl he cp=>?_
 refine aI hm (fun(i:Nat)=> i≤t.kids.length) (fun(i:Nat)=> ⟨eQ 28 .any [(0,.acc 2),(3,.ptr 1 0),(8,lv (aQ t.kids)),(9,iv t.kids.length),(10,iv i)],[some .dead,some (.box (ff (cT t))),some (.acc 28 (aQ (aW l (t.kids.take i))))]⟩) (fun(i:Nat)=> t.kids.length-i) (0) ?_ (ax [some 0,some 1,some 0] ?_ ?_ rfl rfl) ?_
 rotate_left
 ·exact sC
 ·refine sA ?_
  all_goals(simp only[aW])
 rotate_left
 ·omega
 ·rintro i hi
  rcases aa (i<t.kids.length) with h1|h1
  ·refine uA ?_
   have hc:=ih t.kids[i] (ah h1) d (aW l (t.kids.take i)) (by omega) (jk hk.2.2 _ (ah h1)) (by have:=hle i;omega)
   refine oC [] [2,4] hc ?_
   refine⟨by omega,?_⟩
   refine⟨i+1,?_,sL,ax [some 0,some 1,some 4] ?_ ?_ rfl rfl⟩
   rotate_left
   ·exact sC
   ·refine sA ?_
    all_goals(simp only[kQ h1])
   exact h1
  ·have e:t.kids.take i=t.kids:=an (by omega)
   have h2:=hle i
   rw[e] at h2
   simp -implicitDefEqProofs only[go_sem,h1,e]
   refine ja [] [2] (tS (aW l t.kids) t) rfl ?_ ?_ ?_
   ·exact sV
   all_goals simp -implicitDefEqProofs only[go_sem]
   rcases aa (fA (aW l t.kids) t<0) with hx|hx
   ·simp -implicitDefEqProofs only[go_sem,hx]
    refine aC [] (iV t) ?_
    refine⟨by omega,?_⟩
    refine bh [some 0,some 3] ?_ rfl rfl
    refine sA ?_
    rw[lr,if_pos hx,←iw,eW,gQ]
    rfl
   ·simp -implicitDefEqProofs only[go_sem,hx]
    refine bh [some 0,some 2] ?_ rfl rfl
    refine sA ?_
    rw[lr,if_neg hx]
theorem tE:∀(t:Term)(d:Nat)(l:List Term),d≤4→a8 t d=true→l.length≤999000+15*(4-d)→C E.P 136 [.acc 0,av (cT t)] [some (.acc 28 (aQ l))] (bw (.acc 1) [some .dead,some (.acc 28 (aQ (cW l t)))]):=
 Term.ind fun n ks ih d l h1 h2 h3=>so (.mk n ks) ih d l h1 h2 h3
theorem CT(t:Term)(bj:Nat):ga t bj=if dV t.name&&decide (t.kids.length≤2)&&decide (bj≤4) then 1+cU t.kids (bj+1) else 13:=by
 cases t;rfl
theorem wL{ts:List Term}{i:Nat}(h:i<ts.length)(bj:Nat):cU (ts.take (i+1)) bj=cU (ts.take i) bj+ga ts[i] bj:=by
 have e:ts.take (i+1)=ts.take i++[ts[i]]:=by rw[List.take_add_one,List.getElem?_eq_getElem h];rfl
 have key:∀(xs ys:List Term),cU (xs++ys) bj=cU xs bj+cU ys bj:=by
  intro xs ys
  induction xs with
  | nil=>simp[cU]
  | cons a xs ih=>simp only[List.cons_append,cU,ih];omega
 rw[e,key]
 simp[cU]
theorem tR(t:Term)(ih:∀k∈t.kids,∀bj:Nat,1≤bj→bj≤5→C E.P 178 [av (cT k),iv bj] [] (bw (iv (ga k bj)) []))(bj:Nat)(g1:1≤bj)(g5:bj≤5) :
 C E.P 178 [av (cT t),iv bj] [] (bw (iv (ga t bj)) []):=by
 have ht:=CT t bj
 refine gS (nt:=37) (rs:=[.tmp 4]) hm Tryz.func178 fun hl he cp=>?_
 refine aC [] (qc t.name) ?_
 cases hn:dV t.name
 ·rw[hn] at ht
  refine sA ?_
  refine ak ?_
  refine sA ?_
  all_goals(simp[ht];done)
 ·rw[hn] at ht
  rcases aa ((2:Int)<(t.kids.length:Int)) with h2|h2
  ·have h2':¬t.kids.length≤2:=by omega
   simp only[h2',decide_false,fw,aK,al,if_false] at ht
   refine uB ?_
   refine ak ?_
   refine sA ?_
   all_goals(simp[ht];done)
  ·have h2':t.kids.length≤2:=by omega
   rcases aa ((4:Int)<(bj:Int)) with h4|h4
   ·have h4':¬bj≤4:=by omega
    simp only[h4',decide_false,fw,al,if_false] at ht
    simp -implicitDefEqProofs only[go_sem,h2,h4]
    refine ak ?_
    refine sA ?_
    all_goals(simp[ht];done)
   ·have h4':bj≤4:=by omega
    simp only[h2',h4',decide_true,Bool.and_self,if_true] at ht
    simp -implicitDefEqProofs only[go_sem,h2,h4]
    refine aI hm (fun(i:Nat)=> i≤t.kids.length) (fun(i:Nat)=> ⟨eQ 37 .any [(1,iv bj),(5,iv ((1+cU (t.kids.take i) (bj+1):Nat):Int)),(23,lv (aQ t.kids)),(24,iv t.kids.length),(25,iv i)],[]⟩) (fun(i:Nat)=> t.kids.length-i) (0) ?_ (ax [] ?_ ?_ rfl rfl) ?_
    rotate_left
    ·refine sA ?_
     all_goals(simp[cU])
    ·exact sC
    rotate_left
    ·omega
    ·rintro i hi
     have hb:=nS (t.kids.take i) (bj+1) (by omega) (by omega)
     have hp:(2:Nat) ^ (5-(bj+1))≤2 ^ 4:=Nat.pow_le_pow_right (by omega) (by omega)
     have hq:(t.kids.take i).length*(27*2 ^ (5-(bj+1))-14)≤2*(27*2 ^ (5-(bj+1))-14):=Nat.mul_le_mul_right _ (by simp;omega)
     rcases aa (i<t.kids.length) with h1|h1
     ·have hk:=u6 t.kids[i] (bj+1) (by omega) (by omega)
      refine uA ?_
      refine⟨by omega,?_⟩
      have hc:=ih t.kids[i] (ah h1) (bj+1) (by omega) (by omega)
      refine aC [] hc ?_
      refine⟨by omega,by omega,?_⟩
      refine⟨i+1,?_,sL,ax [] ?_ ?_ rfl rfl⟩
      rotate_left
      ·refine sA ?_
       all_goals((simp only[wL h1];simp;omega))
      ·exact sC
      exact h1
     ·rw[←an (l:=t.kids) (i:=i) (by omega)] at ht
      refine uA ?_
      refine ak ?_
      refine sA ?_
      all_goals(simp[ht];done)
theorem vz:∀(t:Term)(bj:Nat),1≤bj→bj≤5→C E.P 178 [av (cT t),iv bj] [] (bw (iv (ga t bj)) []):=
 Term.ind fun n ks ih bj h1 h2=>tR (.mk n ks) ih bj h1 h2
theorem iD(t:Term):C E.P 131 [av (cT t)] [] (bw (bv (isTerm t)) []):=by
 refine gS (nt:=6) (rs:=[.tmp 2]) hm Tryz.func131 fun hl he cp=>?_
 have hc:=vz t 1 (by omega) (by omega)
 refine aC [] hc ?_
 refine ak ?_
 refine sA ?_
 all_goals(simp[isTerm];omega)
theorem qm(n:Int):C E.P 126 [iv n] [] (bw (bv (isSort n)) []):=by
 refine gS (nt:=9) (rs:=[.tmp 2]) hm Tryz.func126 fun hl he cp=>?_
 rcases aa (n=0) with h|h
 ·refine uF ?_
  refine ak ?_
  refine sA ?_
  all_goals(simp[isSort];done)
 ·refine uF ?_
  refine ak ?_
  refine sA ?_
  all_goals(simp[isSort,h];done)
theorem vx(n:Int):C E.P 128 [iv n] [] (bw (bv (!isSort n)) []):=by
 refine gS (nt:=6) (rs:=[.tmp 2]) hm Tryz.func128 fun hl he cp=>?_
 refine aC [] (qm n) ?_
 refine ak ?_
 exact sC
theorem zj(x:Sym):C E.P 65 [av (qa x)] [] (bw (bv (jn x)) []):=by
 refine gS (nt:=23) (rs:=[.tmp 2]) hm Tryz.func65 fun hl he cp=>?_
 refine aC [] (qc x.name) ?_
 cases h1:dV x.name
 ·simp -implicitDefEqProofs only[go_sem]
  refine ak ?_
  refine sA ?_
  all_goals(simp[jn,h1];done)
 ·rcases aa ((x.args.length:Int)≤2) with h2|h2
  ·have h2':x.args.length≤2:=by omega
   refine uB ?_
   refine aC [] (qm x.sort) ?_
   cases h3:isSort x.sort
   ·refine sA ?_
    refine ak ?_
    refine sA ?_
    all_goals(simp[jn,h1,h2',h3];done)
   ·refine sA ?_
    refine aC [] (rk 128 [] rfl (fun n=>!isSort n) x.args (fun n _=>vx n)) ?_
    refine ak ?_
    refine sA ?_
    all_goals(simp[jn,h1,h2',h3,List.all_eq_not_any_not];done)
  ·have h2':¬x.args.length≤2:=by omega
   refine uB ?_
   refine ak ?_
   refine sA ?_
   all_goals(simp[jn,h1,h2'];done)
def fI(l:List Sym):Nat→Option lH
 | 0=>none
 | j+1=>(l[j]?).map (·.name)
theorem lp(s:eJ):C E.P 30 [av (dc s)] [] (bw (bv (dm s)) []):=by
 refine gS (nt:=37) (rs:=[.tmp 2]) hm Tryz.func30 fun hl he cp=>?_
 refine aI hm (fun(i:Nat)=> i≤s.syms.length∧kP none s.syms=kP (fI s.syms i) (s.syms.drop i)) (fun(i:Nat)=> ⟨eQ 37 .any [(1,.ptr 0 0),(6,lv (eB s.syms)),(7,iv s.syms.length),(8,iv i)],[some (.box (ff (dc s)))]⟩) (fun(i:Nat)=> s.syms.length-i) (0) ?_ (ax [some 0] ?_ ?_ rfl rfl) ?_
 rotate_left
 ·exact sC
 ·exact sC
 rotate_left
 ·simp[fI]
 ·rintro i ⟨hi,hg⟩
  rcases aa (i<s.syms.length) with h1|h1
  ·rw[af h1] at hg
   simp only[kP] at hg
   refine uA ?_
   refine aC [] (zj s.syms[i]) ?_
   cases h2:jn s.syms[i]
   ·have e:dm s=false:=by simp[dm,hg,h2]
    refine sA ?_
    refine iK ?_
    skip
    refine ak ?_
    refine sA ?_
    all_goals(simp[e];done)
   ·rw[h2,az] at hg
    cases i with
    | zero=>
      simp only[fI,az] at hg
      simp -implicitDefEqProofs only[go_sem,Int.lt_irrefl]
      refine iK ?_
      skip
      refine⟨by omega,?_⟩
      refine⟨0+1,?_,sL,ax [some 0] ?_ ?_ rfl rfl⟩
      rotate_left
      ·refine sA ?_
       all_goals(simp[*];done)
      ·exact sC
      refine⟨by omega,?_⟩
      rw[hg]
      simp[fI,h1]
    | succ j=>
      have hj:j<s.syms.length:=by omega
      have e1:((j:Int)+1-1)=(j:Int):=by omega
      have e2:(0:Int)<(j:Int)+1:=by omega
      have e3:fI s.syms (j+1)=some s.syms[j].name:=by simp[fI,hj]
      rw[e3] at hg
      simp only at hg
      simp -implicitDefEqProofs only[go_sem,e1,e2,hj]
      refine⟨by omega,?_⟩
      cases h4:iE s.syms[j].name s.syms[j+1].name
      ·rw[h4,aK] at hg
       have e:dm s=false:=by simp[dm,hg]
       have h5:Op.bytesLess s.syms[j].name s.syms[j+1].name=false:=h4
       refine uE ?_
       refine iK ?_
       skip
       refine ak ?_
       refine sA ?_
       all_goals(simp[e];done)
      ·rw[h4,az] at hg
       have h5:Op.bytesLess s.syms[j].name s.syms[j+1].name=true:=h4
       refine uE ?_
       refine iK ?_
       skip
       refine⟨by omega,?_⟩
       refine⟨j+1+1,?_,sL,ax [some 0] ?_ ?_ rfl rfl⟩
       rotate_left
       ·exact sC
       ·exact sC
       refine⟨by omega,?_⟩
       rw[hg]
       simp[fI,h1]
  ·rw[ag (by omega)] at hg
   simp only[kP] at hg
   have e:dm s=decide ((s.syms.length:Int)≤7):=by simp[dm,hg];omega
   refine uA ?_
   refine ak ?_
   refine sA ?_
   all_goals(simp[e];done)
theorem rS(s:eJ)(n:lH):C E.P 214 [av (dc s),sv n] [] (bw (.gN [av (qa ((symbol s n).getD mo)),bv (symbol s n).isSome]) []):=by
 refine gS (nt:=22) (rs:=[.cell 4 129,.tmp 5]) hm Tryz.func214 fun hl he cp=>?_
 refine aI hm (fun(i:Nat)=> i≤s.syms.length∧symbol s n=(s.syms.drop i).find? (fun x=>decide (x.name=n))) (fun(i:Nat)=> ⟨eQ 22 .any [(1,sv n),(4,.ptr 1 0),(9,lv (eB s.syms)),(10,iv s.syms.length),(11,iv i)],[some (.box (ff (dc s))),some (.box (ff (qa mo)))]⟩) (fun(i:Nat)=> s.syms.length-i) (0) ?_ (ax [some 0,some 1] ?_ ?_ rfl rfl) ?_
 rotate_left
 ·exact sC
 ·exact sC
 rotate_left
 ·simp[symbol]
 ·rintro i ⟨hi,hg⟩
  rcases aa (i<s.syms.length) with h1|h1
  ·rw[af h1] at hg
   rcases aa (s.syms[i].name=n) with h2|h2
   ·have e:symbol s n=some s.syms[i]:=by rw[hg];simp only[k9,h2,decide_true]
    refine uJ ?_
    refine ak ?_
    refine sA ?_
    all_goals(simp[e,h2];done)
   ·have e:symbol s n=(s.syms.drop (i+1)).find? (fun x=>decide (x.name=n)):=by rw[hg];simp only[k9,h2,decide_false]
    refine uJ ?_
    refine⟨by omega,?_⟩
    refine⟨i+1,?_,sL,ax [some 0,some 1] ?_ ?_ rfl rfl⟩
    rotate_left
    ·exact sC
    ·exact sC
    exact⟨by omega,e⟩
  ·have e:symbol s n=none:=by rw[hg,ag (by omega)];rfl
   refine uA ?_
   refine ak ?_
   refine sA ?_
   all_goals(simp[e,mo,de];done)
theorem zI(s:eJ)(t:Term):dL s t=match symbol s t.name with
 | none=>none
 | some x=>if decide (x.args.length=t.kids.length)&&eZ s t.kids x.args then some x.sort else none:=by
 cases t;simp only[dL,Term.name,Term.kids];rfl
theorem rD{s:eJ}{ks:List Term}{ns:List Int}{i:Nat}(h:i<ks.length)(h':i<ns.length):eZ s (ks.drop i) (ns.drop i)=(decide (dL s ks[i]=some ns[i])&&eZ s (ks.drop (i+1)) (ns.drop (i+1))):=by
 rw[af h,af h',eZ]
theorem qP(s:eJ)(t:Term)(ih:∀k∈t.kids,C E.P 180 [av (dc s),av (cT k)] [] (bw (.gN [iv ((dL s k).getD 0),bv (dL s k).isSome]) [])) :
 C E.P 180 [av (dc s),av (cT t)] [] (bw (.gN [iv ((dL s t).getD 0),bv (dL s t).isSome]) []):=by
 have ht:=zI s t
 refine gS (nt:=58) (rs:=[.tmp 4,.tmp 5]) hm Tryz.func180 fun hl he cp=>?_
 refine aC [] (rS s t.name) ?_
 cases hx:symbol s t.name with
 | none=>
   rw[hx] at ht
   simp only at ht
   simp -implicitDefEqProofs only[go_sem,eA]
   refine ak ?_
   refine sA ?_
   all_goals(simp[ht];done)
 | some x=>
   rw[hx] at ht
   simp only at ht
   rcases aa (x.args.length=t.kids.length) with h1|h1
   ·simp only[h1,decide_true,az] at ht
    simp -implicitDefEqProofs only[go_sem,cl,bP,h1]
    refine aI hm (fun(i:Nat)=> i≤t.kids.length∧eZ s t.kids x.args=eZ s (t.kids.drop i) (x.args.drop i)) (fun(i:Nat)=> ⟨eQ 58 .any [(2,.ptr 0 0),(6,.ptr 2 0),(31,lv (aQ t.kids)),(32,iv t.kids.length),(33,iv i)],[some (.box (ff (dc s))),some (.box (ff (cT t))),some (.box (ff (qa x)))]⟩) (fun(i:Nat)=> t.kids.length-i) (0) ?_ (ax [some 0,some 1,some 2] ?_ ?_ rfl rfl) ?_
    rotate_left
    ·exact sC
    ·exact sC
    rotate_left
    ·simp
    ·rintro i ⟨hi,hg⟩
     rcases aa (i<t.kids.length) with h2|h2
     ·have h3:i<x.args.length:=by omega
      rw[rD h2 h3] at hg
      refine uB ?_
      have hc:=ih t.kids[i] (ah h2)
      refine aC [] hc ?_
      cases hk:dL s t.kids[i] with
      | none=>
        rw[hk] at hg
        have hz:eZ s t.kids x.args=false:=by rw[hg];simp
        rw[hz] at ht
        simp only[al,if_false] at ht
        simp -implicitDefEqProofs only[go_sem,eA]
        refine ak ?_
        refine sA ?_
        all_goals(simp[ht];done)
      | some n=>
        rw[hk] at hg
        rcases aa (n=x.args[i]) with hn|hn
        ·have hz:eZ s t.kids x.args=eZ s (t.kids.drop (i+1)) (x.args.drop (i+1)):=by rw[hg,hn];simp
         simp -implicitDefEqProofs only[go_sem,cl,bP,hn,h3]
         refine⟨by omega,?_⟩
         refine⟨i+1,?_,sL,ax [some 0,some 1,some 2] ?_ ?_ rfl rfl⟩
         rotate_left
         ·exact sC
         ·exact sC
         exact⟨by omega,hz⟩
        ·have hz:eZ s t.kids x.args=false:=by
          rw[hg]
          simp[hn]
         rw[hz] at ht
         simp only[al,if_false] at ht
         simp -implicitDefEqProofs only[go_sem,cl,bP,hn,h3]
         refine ak ?_
         refine sA ?_
         all_goals(simp[ht];done)
     ·rw[ag (by omega),ag (by omega)] at hg
      rw[hg] at ht
      simp only[eZ,if_true] at ht
      refine uB ?_
      refine ak ?_
      refine sA ?_
      all_goals(simp[ht];done)
   ·simp only[h1,decide_false,aK,al,if_false] at ht
    have h1':¬ (x.args.length:Int)=t.kids.length:=by omega
    simp -implicitDefEqProofs only[go_sem,cl,bP,h1]
    refine ak ?_
    refine sA ?_
    all_goals(simp[ht];done)
theorem se(s:eJ):∀(t:Term),C E.P 180 [av (dc s),av (cT t)] [] (bw (.gN [iv ((dL s t).getD 0),bv (dL s t).isSome]) []):=
 Term.ind fun n ks ih=>qP s (.mk n ks) ih
theorem kU(s:eJ)(t:Term):C E.P 134 [av (dc s),av (cT t)] [] (bw (.gN [iv ((eG s t).getD 0),bv (eG s t).isSome]) []):=by
 refine gS (nt:=19) (rs:=[.tmp 4,.tmp 5]) hm Tryz.func134 fun hl he cp=>?_
 refine aC [] (lp s) ?_
 cases h1:dm s
 ·refine sA ?_
  refine ak ?_
  refine sA ?_
  all_goals(simp[eG,h1];done)
 ·refine sA ?_
  refine aC [] (iD t) ?_
  cases h2:isTerm t
  ·refine sA ?_
   refine ak ?_
   refine sA ?_
   all_goals(simp[eG,h1,h2];done)
  ·refine sA ?_
   refine aC [] (se s t) ?_
   refine ak ?_
   refine sA ?_
   all_goals(simp[eG,h1,h2];done)
theorem oz(s:eJ)(t:Term):C E.P 80 [av (dc s),av (cT t)] [] (bw (bv (cg s t)) []):=by
 refine gS (nt:=18) (rs:=[.tmp 4]) hm Tryz.func80 fun hl he cp=>?_
 refine aC [] (kU s t) ?_
 cases h:eG s t with
 | none=>
   simp -implicitDefEqProofs only[go_sem,eA]
   refine ak ?_
   refine sA ?_
   all_goals(simp[cg,h];done)
 | some n=>
   refine uL ?_
   refine ak ?_
   refine sA ?_
   all_goals(simp[cg,h];done)
theorem qj(t:Term):C E.P 132 [av (cT t)] [] (bw (bv (isNone t)) []):=by
 refine gS (nt:=12) (rs:=[.tmp 2]) hm Tryz.func132 fun hl he cp=>?_
 rcases aa (t.name=[]) with h|h
 ·refine uF ?_
  refine ak ?_
  refine sA ?_
  all_goals(simp[isNone,h];done)
 ·refine uF ?_
  refine ak ?_
  refine sA ?_
  all_goals(simp[isNone,h];done)
theorem tD(e:zE)(s:eJ):C E.P 77 [av (O1 e),av (dc s)] [] (bw (bv (jI s e)) []):=by
 refine gS (nt:=32) (rs:=[.tmp 4]) hm Tryz.func77 fun hl he cp=>?_
 refine aC [] (kU s e.A) ?_
 refine aC [] (kU s e.B) ?_
 cases h1:eG s e.A with
 | none=>
   simp -implicitDefEqProofs only[go_sem,eA]
   refine ak ?_
   refine sA ?_
   all_goals(simp[jI,h1];done)
 | some n=>
   cases h2:eG s e.B with
   | none=>
     simp -implicitDefEqProofs only[go_sem,cl,bP,eA]
     refine ak ?_
     refine sA ?_
     all_goals(simp[jI,h1,h2];done)
   | some m=>
     refine uL ?_
     refine ak ?_
     refine sA ?_
     all_goals(simp[jI,h1,h2];done)
theorem sT(a:Atom):C E.P 81 [av (dS a)] [] (bw (lv (aQ (cm a))) []):=by
 refine gS (nt:=13) (rs:=[.tmp 2]) hm Tryz.func81 fun hl he cp=>?_
 rcases aa (a.kind=1) with h|h
 ·refine uF ?_
  refine ak ?_
  refine sA ?_
  all_goals(simp[cm,h,eW,gQ,cT];done)
 ·refine uF ?_
  refine ak ?_
  refine sA ?_
  all_goals(simp[cm,h];done)
theorem Bx{xs:List Term}{i:Nat}(h:i<xs.length)(hi:isTerm xs[i]=true)(out:List Term):kA (xs.drop i) out=kA (xs.drop (i+1)) (cW out xs[i]):=by
 rw[af h,kA,hi];rfl
end Go.Proofs.YtgpjhjalfakpoaaGreat
