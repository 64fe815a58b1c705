/-
  The program: the walks of models, going on: values and literals. A step towards the exact laws.
-/
import Derived.Test.YtpidddienjoleaaGreatKDb
set_option linter.unusedVariables false
set_option linter.unusedSimpArgs false
namespace Go.Proofs.YtpidddienjoleaaGreat
open Go.Eng Go.Mod
open Int renaming reduceEq→Z1,reduceLT→Z2,reduceLE→Z3,reduceToNat→Z4
set_option maxRecDepth 100000
set_option maxHeartbeats 800000
theorem tN(x:Mod.Rat)(sort:Int):C E.P 114 [av (dp x),iv sort] [] (aO (bv (s6 x sort)) []):=by
 refine gT (nt:=12) (rs:=[.tmp 4]) hm Tryz.func114 fun hl he hLB=>?_
 rcases Classical.em (sort=1) with h2|h2
 ·have k:=eq_true h2
  simp -implicitDefEqProofs only[go_sem,Z1,Z2,Z3,Z4,k]
  refine ab ?_
  refine sB ?_
  all_goals(simp[s6,h2];done)
 ·simp -implicitDefEqProofs only[go_sem,Z1,Z2,Z3,Z4,h2]
  refine ab ?_
  refine sB ?_
  all_goals(simp[s6,h2];done)
theorem zH{xs:List Mod.Rat}{ns:List Int}{i:Nat}(h:i<xs.length)(h':i<ns.length):hX (xs.drop i) (ns.drop i)=(s6 xs[i] ns[i]&&hX (xs.drop (i+1)) (ns.drop (i+1))):=by
 rw[List.drop_eq_getElem_cons h,List.drop_eq_getElem_cons h',hX]
theorem yJ{s:bA}{r:Mod.Row}(h:symbol s r.name=none):jH s r=false:=by simp[jH,h]
theorem yM{s:bA}{r:Mod.Row}{x:Sym}(h:symbol s r.name=some x):jH s r=(decide (x.args.length=r.args.length)&&(s6 r.val x.sort&&hX r.args x.args)):=by simp[jH,h]
theorem kH(s:bA)(m:Mod.Model):C E.P 49 [av (bF s),av (eO m)] [] (aO (bv (de s m)) []):=by
 refine gT (nt:=70) (rs:=[.tmp 4]) hm Tryz.func49 fun hl he hLB=>?_
 refine aD [] (j8 s) ?_
 cases h1:bV s
 ·refine sB ?_
  refine ab ?_
  refine sB ?_
  all_goals(simp[de,h1];done)
 ·refine sB ?_
  refine aD [] (wK m) ?_
  cases h2:cW m
  ·refine sB ?_
   refine ab ?_
   refine sB ?_
   all_goals(simp[de,h1,h2];done)
  ·have hmo:de s m=m.rows.all (jH s):=by simp[de,h1,h2]
   refine sB ?_
   refine au hm (fun(i:Nat)=> i≤m.rows.length∧m.rows.all (jH s)=(m.rows.drop i).all (jH s)) (fun(i:Nat)=> ⟨b9 70 .any [(2,.ptr 0 0),(20,lv (bm m.rows)),(21,iv m.rows.length),(22,iv i)],[some (.box (bn (bF s)))]⟩) (fun(i:Nat)=> m.rows.length-i) (0) ?_ (ah [some 0] ?_ ?_ rfl rfl) ?_
   rotate_left
   ·exact sD
   ·exact sD
   rotate_left
   ·simp
   ·rintro i ⟨hi,hg⟩
    rcases Classical.em (i<m.rows.length) with h3|h3
    ·have hrl:m.rows[i].args.length≤2:=by
      have hw:=(ir h2).2.1 m.rows[i] (List.getElem_mem h3)
      simp only[jF,Bool.and_eq_true,decide_eq_true_eq] at hw
      exact hw.2.1
     rw[List.drop_eq_getElem_cons h3,List.all_cons] at hg
     simp -implicitDefEqProofs only[go_sem,Z1,Z2,Z3,Z4,h3]
     refine cL [] (lF s m.rows[i].name) ?_ ?_<;>simp -implicitDefEqProofs only[go_sem,Z1,Z2,Z3,Z4,h3]
     cases hx:symbol s m.rows[i].name with
     | none=>
       rw[yJ hx,Bool.false_and] at hg
       have e:de s m=false:=by rw[hmo,hg]
       simp -implicitDefEqProofs only[go_sem,Z1,Z2,Z3,Z4,Option.isSome_none,Option.getD_none,h3]
       refine ab ?_
       refine sB ?_
       all_goals(simp[e];done)
     | some x=>
       rw[yM hx] at hg
       rcases Classical.em (x.args.length=m.rows[i].args.length) with h4|h4
       ·have k4:=eq_true h4
        simp only[h4,decide_true,Bool.true_and] at hg
        simp -implicitDefEqProofs only[go_sem,Z1,Z2,Z3,Z4,Option.isSome_some,Option.getD_some,k4,h3]
        refine aD [] (tN m.rows[i].val x.sort) ?_
        cases h5:s6 m.rows[i].val x.sort
        ·rw[h5,Bool.false_and,Bool.false_and] at hg
         have e:de s m=false:=by rw[hmo,hg]
         refine sB ?_
         refine ab ?_
         refine sB ?_
         all_goals(simp[e];done)
        ·rw[h5,Bool.true_and] at hg
         refine sB ?_
         refine au hm (fun(k:Nat)=> k≤m.rows[i].args.length∧hX m.rows[i].args x.args=hX (m.rows[i].args.drop k) (x.args.drop k)) (fun(k:Nat)=> ⟨b9 70 .any [(2,.ptr 0 0),(7,.ptr 1 0),(20,lv (bm m.rows)),(21,iv m.rows.length),(22,iv i),(53,lv (aM m.rows[i].args)),(54,iv m.rows[i].args.length),(55,iv k)],[some (.box (bn (bF s))),some (.box (bn (oV x)))]⟩) (fun(k:Nat)=> m.rows[i].args.length-k) (0) ?_ (ah [some 0,some 2] ?_ ?_ rfl rfl) ?_
         rotate_left
         ·exact sD
         ·exact sD
         rotate_left
         ·simp
         ·rintro k ⟨hk,hj⟩
          rcases Classical.em (k<m.rows[i].args.length) with h6|h6
          ·have h7:k<x.args.length:=by omega
           rw[zH h6 h7] at hj
           simp -implicitDefEqProofs only[go_sem,Z1,Z2,Z3,Z4,h6,h7]
           refine aD [] (tN m.rows[i].args[k] x.args[k]) ?_
           refine iK ?_
           cases h8:s6 m.rows[i].args[k] x.args[k]
           ·rw[h8,Bool.false_and] at hj
            rw[hj,Bool.false_and] at hg
            have e:de s m=false:=by rw[hmo,hg]
            refine sB ?_
            refine ab ?_
            refine sB ?_
            all_goals(simp[e];done)
           ·rw[h8,Bool.true_and] at hj
            refine sB ?_
            repeat(with_reducible apply And.intro;exact sO)
            refine⟨k+1,?_,?_,ah [some 0,some 1] ?_ ?_ rfl rfl⟩
            rotate_left
            ·show _ < _
             omega
            ·exact sD
            ·exact sD
            exact⟨by omega,hj⟩
          ·rw[List.drop_of_length_le (by omega)] at hj
           simp only[hX] at hj
           rw[hj,Bool.true_and] at hg
           simp -implicitDefEqProofs only[go_sem,Z1,Z2,Z3,Z4,h6]
           repeat(with_reducible apply And.intro;exact sO)
           refine⟨i+1,?_,?_,ah [some 0] ?_ ?_ rfl rfl⟩
           rotate_left
           ·show _ < _
            omega
           ·exact sD
           ·exact sD
           exact⟨by omega,hg⟩
       ·simp only[h4,decide_false,Bool.false_and] at hg
        have e:de s m=false:=by rw[hmo,hg]
        simp -implicitDefEqProofs only[go_sem,Z1,Z2,Z3,Z4,Option.isSome_some,Option.getD_some,h4,h3]
        refine ab ?_
        refine sB ?_
        all_goals(simp[e];done)
    ·rw[List.drop_of_length_le (by omega),List.all_nil] at hg
     simp -implicitDefEqProofs only[go_sem,Z1,Z2,Z3,Z4,h3]
     refine ab ?_
     refine sB ?_
     all_goals(simp[hmo,hg];done)
theorem KQ{rs:List Mod.Row}{t:Mod.Row}(h:cut rs t<rs.length):found rs t=decide (bJ rs[cut rs t] t=0):=by
 unfold found
 rw[List.getElem?_eq_getElem h]
theorem BO{rs:List Mod.Row}{t:Mod.Row}(h:¬cut rs t<rs.length):found rs t=false:=by
 unfold found
 rw[List.getElem?_eq_none (by omega)]
theorem MK{i j:Nat}:((i:Int)+(j:Int)).fdiv 2=(((i+j) / 2:Nat):Int):=by
 rw[Int.fdiv_eq_ediv_of_nonneg _ (by omega)]
 omega
theorem kN(rows:List Mod.Row)(t:Mod.Row)(hm1:e9 rows t)(hlen:rows.length≤1000):C E.P 115 [lv (bm rows),av (pG t),.fn 116 []] [] (aO (.eZ [iv (cut rows t),bv (found rows t)]) []):=by
 refine gT (nt:=49) (rs:=[.tmp 6,.tmp 7]) hm Tryz.func115 fun hl he hLB=>?_
 refine bQ hm (fun(i:Nat) (j:Nat)=> i≤j∧j≤rows.length∧(∀(k:Nat)(h:k<rows.length),k<i→bJ rows[k] t<0)∧(∀(k:Nat)(h:k<rows.length),j≤k→¬bJ rows[k] t<0)) (fun(i:Nat) (j:Nat)=> ⟨b9 49 .any [(0,lv (bm rows)),(2,.fn 116 []),(4,.ptr 0 0),(8,iv rows.length),(9,iv i),(10,iv j)],[some (.box (bn (pG t)))]⟩) (fun(i:Nat) (j:Nat)=> j-i) (0) (rows.length) ?_ (ah [some 0] ?_ ?_ rfl rfl) ?_
 rotate_left
 ·exact sD
 ·exact sD
 rotate_left
 ·exact⟨by omega,by omega,fun k h h2=>by omega,fun k h h2=>by omega⟩
 ·rintro i j ⟨hij,hj,h1,h2⟩
  rcases Classical.em (i<j) with h3|h3
  ·have hw:=wrap_u64 (n:=(i:Int)+j) (by omega) (by omega)
   have hh:(i+j) / 2<rows.length:=by omega
   have hh2:i≤(i+j) / 2:=by omega
   have hh3:(i+j) / 2<j:=by omega
   generalize hq:(i+j) / 2=q at *
   have hw2:=wrap_i64 (n:=(q:Int)) (by unfold Jz;omega)
   simp -implicitDefEqProofs only[go_sem,Z1,Z2,Z3,Z4,h3]
   repeat(with_reducible apply And.intro;exact sO)
   simp -implicitDefEqProofs only[go_sem,Z1,Z2,Z3,Z4,hw]
   refine Qz ((i:Int)+j) (q:Int) (by rw[MK,hq]) (by simp -implicitDefEqProofs only[go_sem,Z1,Z2,Z3,Z4,hw]) ?_
   simp -implicitDefEqProofs only[go_sem,Z1,Z2,Z3,Z4,hw2,hh]
   refine aD [] (gH rows[q] t) ?_
   refine iK ?_
   rcases Classical.em (bJ rows[q] t<0) with h4|h4
   ·simp -implicitDefEqProofs only[go_sem,Z1,Z2,Z3,Z4,h4]
    repeat(with_reducible apply And.intro;exact sO)
    refine⟨q+1,j,?_,?_,ah [some 0] ?_ ?_ rfl rfl⟩
    rotate_left
    ·show _ < _
     omega
    ·exact sD
    ·exact sD
    refine⟨by omega,hj,fun k h hk=>?_,h2⟩
    have a1:=(mc hm1 q hh).2 h4
    exact(mc hm1 k h).1 (by omega)
   ·simp -implicitDefEqProofs only[go_sem,Z1,Z2,Z3,Z4,h4]
    refine⟨i,q,?_,?_,ah [some 0] ?_ ?_ rfl rfl⟩
    rotate_left
    ·show _ < _
     omega
    ·exact sD
    ·exact sD
    refine⟨hh2,by omega,h1,fun k h hk hc=>h4 ?_⟩
    have a1:=(mc hm1 k h).2 hc
    exact(mc hm1 q hh).1 (by omega)
  ·have e:i=j:=by omega
   subst e
   have hc:=Q9 hm1 hj h1 h2
   simp -implicitDefEqProofs only[go_sem,Z1,Z2,Z3,Z4,h3]
   rcases Classical.em (i<rows.length) with h4|h4
   ·have hf:=KQ (rs:=rows) (t:=t) (by omega)
    simp only[hc] at hf
    simp -implicitDefEqProofs only[go_sem,Z1,Z2,Z3,Z4,h4]
    refine aD [] (gH rows[i] t) ?_
    refine iK ?_
    refine ab ?_
    refine sB ?_
    all_goals(simp[hc,hf];done)
   ·have hf:=BO (rs:=rows) (t:=t) (by omega)
    simp -implicitDefEqProofs only[go_sem,Z1,Z2,Z3,Z4,h4]
    refine iK ?_
    refine ab ?_
    refine sB ?_
    all_goals(simp[hc,hf];done)
def rowOf(m:Mod.Model)(n:gR)(ts:List Term):Mod.Row:=⟨n,values m ts,⟨0,0⟩⟩
theorem J9{m:Mod.Model}(h:cW m=true)(t:Term):value m t=if found m.rows (rowOf m t.name t.kids) then(m.rows.getD (cut m.rows (rowOf m t.name t.kids)) (rowOf m t.name t.kids)).val else⟨0,1⟩:=by
 rw[E9]
 exact F6 (t:=rowOf m t.name t.kids) h (Be h t.kids)
theorem qx(m:Mod.Model)(hm1:cW m=true)(t:Term)(ih:∀k∈t.kids,C E.P 50 [av (eO m),av (cT k)] [] (aO (av (dp (value m k))) [])):C E.P 50 [av (eO m),av (cT t)] [] (aO (av (dp (value m t))) []):=by
 have hv0:=J9 hm1 t
 have hlen:=(ir hm1).1
 refine gT (nt:=45) (rs:=[.cell 4 57]) hm Tryz.func50 fun hl he hLB=>?_
 refine au hm (fun(i:Nat)=> i≤t.kids.length) (fun(i:Nat)=> ⟨b9 45 .any [(2,.ptr 0 0),(4,.ptr 1 0),(5,.ptr 2 0),(14,lv (aj t.kids)),(15,iv t.kids.length),(16,iv i)],[some (.box (bn (eO m))),some (.box (bn (dp jx))),some (.box [.d (.str t.name),.acc 3,.d (.val (.int .i64 0)),.d (.val (.int .i64 0))]),some (.acc 57 (aM (values m (t.kids.take i))))]⟩) (fun(i:Nat)=> t.kids.length-i) (0) ?_ (ah [some 0,some 2,some 3,none] ?_ ?_ rfl rfl) ?_
 rotate_left
 ·exact sD
 ·refine sB ?_
  all_goals(simp[jx,values,aM])
 rotate_left
 ·omega
 ·rintro i hi
  have hv:=HA m (t.kids.take i)
  have hv2:(t.kids.take i).length=i:=by rw[List.length_take];omega
  rcases Classical.em (i<t.kids.length) with h1|h1
  ·simp -implicitDefEqProofs only[go_sem,Z1,Z2,Z3,Z4,h1]
   have hc:=ih t.kids[i] (List.getElem_mem h1)
   refine aD [] hc ?_
   repeat(with_reducible apply And.intro;exact sO)
   refine⟨i+1,?_,?_,ah [some 0,some 1,some 2,some 5] ?_ ?_ rfl rfl⟩
   rotate_left
   ·show _ < _
    omega
   ·exact sD
   ·refine sB ?_
    all_goals(exact Cn h1)
   exact h1
  ·have et:t.kids.take i=t.kids:=List.take_of_length_le (by omega)
   simp -implicitDefEqProofs only[go_sem,Z1,Z2,Z3,Z4,h1,et]
   refine bK [] [3] (kN m.rows (rowOf m t.name t.kids) (On hm1 (Be hm1 t.kids)) (by omega)) rfl ?_ ?_ ?_
   ·exact sV
   all_goals simp -implicitDefEqProofs only[go_sem,Z1,Z2,Z3,Z4]
   cases hf:found m.rows (rowOf m t.name t.kids)
   ·rw[hf] at hv0
    simp only[Bool.false_eq_true,if_false] at hv0
    refine sB ?_
    refine aD [] (bE 0) ?_
    refine ab ?_
    refine sB ?_
    all_goals(simp[hv0,whole];done)
   ·have hlt:cut m.rows (rowOf m t.name t.kids)<m.rows.length:=by
     rcases Nat.lt_or_ge (cut m.rows (rowOf m t.name t.kids)) m.rows.length with h|h
     ·exact h
     ·rw[BO (by omega)] at hf;cases hf
    have hg:m.rows.getD (cut m.rows (rowOf m t.name t.kids)) (rowOf m t.name t.kids)=m.rows[cut m.rows (rowOf m t.name t.kids)]:=by simp[List.getD,hlt]
    rw[hf,hg] at hv0
    simp only[if_true] at hv0
    generalize hq:cut m.rows (rowOf m t.name t.kids)=q at *
    simp -implicitDefEqProofs only[go_sem,Z1,Z2,Z3,Z4,hlt]
    refine ab ?_
    refine sB ?_
    all_goals(simp[hv0];done)
theorem e6(m:Mod.Model)(hm1:cW m=true):∀t,C E.P 50 [av (eO m),av (cT t)] [] (aO (av (dp (value m t))) []):=
 Term.ind fun n ks ih=>qx m hm1 (.mk n ks) ih
theorem sw(m:Mod.Model)(a:Atom)(hm1:cW m=true)(hwf:aZ a=true):C E.P 225 [av (eO m),av (gr a)] [] (aO (.eZ [bv ((ob m a).getD false),bv (ob m a).isSome]) []):=by
 refine gT (nt:=55) (rs:=[.tmp 4,.tmp 5]) hm Tryz.func225 fun hl he hLB=>?_
 rcases Classical.em (a.kind=1) with h3|h3
 ·have k3:=eq_true h3
  have e2:ob m a=some (decide (value m a.A=value m a.B)):=by unfold ob;rw[if_pos h3]
  simp -implicitDefEqProofs only[go_sem,Z1,Z2,Z3,Z4,k3]
  refine aD [] (e6 m hm1 a.A) ?_
  refine aD [] (e6 m hm1 a.B) ?_
  refine P5 (by kernel_rfl) (a:=(value m a.A).N) (b:=(value m a.A).D) (c:=(value m a.B).N) (e:=(value m a.B).D) (by simp -implicitDefEqProofs only[go_sem,Z1,Z2,Z3,Z4]) (by simp -implicitDefEqProofs only[go_sem,Z1,Z2,Z3,Z4]) ?_
  rw[HF]
  refine sB ?_
  refine iK ?_
  refine ab ?_
  refine sB ?_
  all_goals(simp[e2];done)
 ·have k:a.kind=2:=(gQ hwf).resolve_left h3
  obtain⟨_,_,_,hlen,hb,_⟩:=kU hwf k
  have e2:ob m a=(vG m a.nums a.times (whole 0)).map fun x=>below x a.bound a.strict:=by unfold ob;rw[if_neg h3]
  simp -implicitDefEqProofs only[go_sem,Z1,Z2,Z3,Z4,h3]
  refine aD [] (bE 0) ?_
  refine bQ hm (fun(i:Nat) (sum:Mod.Rat)=> i≤a.nums.length∧vG m a.nums a.times (whole 0)=vG m (a.nums.drop i) (a.times.drop i) sum) (fun(i:Nat) (sum:Mod.Rat)=> ⟨b9 55 .any [(2,.ptr 0 0),(3,.ptr 1 0),(6,.ptr 2 0),(25,lv (aj a.nums)),(26,iv a.nums.length),(27,iv i)],[some (.box (bn (eO m))),some (.box (bn (gr a))),some (.box (bn (dp sum)))]⟩) (fun(i:Nat) (sum:Mod.Rat)=> a.nums.length-i) (0) (whole 0) ?_ (ah [some 0,some 1,some 2] ?_ ?_ rfl rfl) ?_
  rotate_left
  ·exact sD
  ·exact sD
  rotate_left
  ·simp
  ·rintro i sum ⟨hi,hg⟩
   rcases Classical.em (i<a.nums.length) with h1|h1
   ·have h2:i<a.times.length:=by omega
    rw[Gc h1 h2] at hg
    simp -implicitDefEqProofs only[go_sem,Z1,Z2,Z3,Z4,h1,h2]
    refine aD [] (e6 m hm1 a.nums[i]) ?_
    refine aD [] (pD sum a.times[i] (value m a.nums[i])) ?_
    refine iK ?_
    cases h4:(plus sum a.times[i] (value m a.nums[i])).2
    ·rw[h4] at hg
     simp only[Bool.false_eq_true,if_false] at hg
     rw[hg] at e2
     refine sB ?_
     refine ab ?_
     refine sB ?_
     all_goals(simp[e2];done)
    ·rw[h4] at hg
     simp only[if_true] at hg
     refine sB ?_
     repeat(with_reducible apply And.intro;exact sO)
     refine⟨i+1,(plus sum a.times[i] (value m a.nums[i])).1,?_,?_,ah [some 0,some 1,some 2] ?_ ?_ rfl rfl⟩
     rotate_left
     ·show _ < _
      omega
     ·exact sD
     ·exact sD
     exact⟨by omega,hg⟩
   ·rw[JF (by omega)] at hg
    rw[hg] at e2
    simp -implicitDefEqProofs only[go_sem,Z1,Z2,Z3,Z4,h1]
    refine aD [] (sF sum a.bound a.strict) ?_
    refine ab ?_
    refine sB ?_
    all_goals(simp[e2];done)
theorem tc{s:bA}{m:Mod.Model}{l:aE}(h:de s m=false∨bS s l.atom=false):fK s m l=none:=by
 unfold fK
 rcases h with h|h<;>simp[h]
theorem GR{s:bA}{m:Mod.Model}(h:de s m=true):cW m=true:=by
 simp only[de,Bool.and_eq_true] at h
 exact h.2.1
theorem wB(s:bA)(m:Mod.Model)(l:aE):C E.P 171 [av (bF s),av (eO m),av (kh l)] [] (aO (.eZ [bv ((fK s m l).getD false),bv (fK s m l).isSome]) []):=by
 refine gT (nt:=34) (rs:=[.tmp 6,.tmp 7]) hm Tryz.func171 fun hl he hLB=>?_
 refine aD [] (kH s m) ?_
 cases h1:de s m
 ·have e:=tc (l:=l) (.inl h1)
  refine sB ?_
  refine ab ?_
  refine sB ?_
  all_goals(simp[e];done)
 ·refine sB ?_
  refine aD [] (qW s l.atom) ?_
  cases h2:bS s l.atom
  ·have e:=tc (m:=m) (.inr h2)
   refine sB ?_
   refine ab ?_
   refine sB ?_
   all_goals(simp[e];done)
  ·have e:fK s m l=(ob m l.atom).map fun b=>b != l.no:=by
    unfold fK
    simp[h1,h2]
   have hwf:aZ l.atom=true:=by
    simp only[bS,Bool.and_eq_true] at h2
    exact h2.2.1
   refine sB ?_
   refine aD [] (sw m l.atom (GR h1) hwf) ?_
   cases h3:ob m l.atom with
   | none=>
     rw[h3] at e
     simp -implicitDefEqProofs only[go_sem,Z1,Z2,Z3,Z4,Option.isSome_none,Option.getD_none]
     refine ab ?_
     refine sB ?_
     all_goals(simp[e];done)
   | some b=>
     rw[h3] at e
     simp -implicitDefEqProofs only[go_sem,Z1,Z2,Z3,Z4,Option.isSome_some,Option.getD_some]
     refine ab ?_
     refine sB ?_
     rw[e]
     exact⟨rfl,rfl⟩
end Go.Proofs.YtpidddienjoleaaGreat
