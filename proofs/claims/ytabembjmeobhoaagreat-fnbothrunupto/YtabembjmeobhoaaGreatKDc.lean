/-
  The program: the walks of models, going on: values and literals. A step towards the exact laws.
-/
import Derived.Test.YtabembjmeobhoaaGreatKDb
set_option linter.unusedVariables false
set_option linter.unusedSimpArgs false
open Bool renaming and_eq_true→al,false_eq_true→ax,true_and→aB,false_and→aK
open Classical renaming em→aa
open List renaming drop_eq_getElem_cons→ae,drop_of_length_le→ai,getElem_mem→ak
open Option renaming isSome_some→aW,getD_some→aX,isSome_none→bE,getD_none→cg
namespace Go.Proofs.YtabembjmeobhoaaGreat
open Go.Eng Go.Mod
open Int renaming reduceEq→Z1,reduceLT→Z2,reduceLE→Z3,reduceToNat→Z4
set_option maxRecDepth 100000
set_option maxHeartbeats 800000
theorem Cc(x:Mod.Rat)(sort:Int):C E.P 74 [av (eU x),iv sort] [] (bz (bv (ra x sort)) []):=by
 refine gT (nt:=12) (rs:=[.tmp 4]) hm Tryz.func74 fun hl he cq=>?_
 rcases aa (sort=1) with h2|h2
 ·have k:=eq_true h2
  refine yG ?_
  refine an ?_
  refine sB ?_
  all_goals(simp[ra,h2];done)
 ·refine yB ?_
  refine an ?_
  refine sB ?_
  all_goals(simp[ra,h2];done)
theorem FK{xs:List Mod.Rat}{ns:List Int}{i:Nat}(h:i<xs.length)(h':i<ns.length):jj (xs.drop i) (ns.drop i)=(ra xs[i] ns[i]&&jj (xs.drop (i+1)) (ns.drop (i+1))):=by
 rw[ae h,ae h',jj]
theorem Gb{s:dK}{r:Mod.Row}(h:symbol s r.name=none):jD s r=false:=by simp[jD,h]
theorem GH{s:dK}{r:Mod.Row}{x:Sym}(h:symbol s r.name=some x):jD s r=(decide (x.args.length=r.args.length)&&(ra r.val x.sort&&jj r.args x.args)):=by simp[jD,h]
theorem xo(s:dK)(m:Mod.Model):C E.P 22 [av (dV s),av (ez m)] [] (bz (bv (fh s m)) []):=by
 refine gT (nt:=70) (rs:=[.tmp 4]) hm Tryz.func22 fun hl he cq=>?_
 refine aD [] (ou s) ?_
 cases h1:fI s
 ·refine sB ?_
  refine an ?_
  refine sB ?_
  all_goals(simp[fh,h1];done)
 ·refine sB ?_
  refine aD [] (D9 m) ?_
  cases h2:fL m
  ·refine sB ?_
   refine an ?_
   refine sB ?_
   all_goals(simp[fh,h1,h2];done)
  ·have hmo:fh s m=m.rows.all (jD s):=by simp[fh,h1,h2]
   refine sB ?_
   refine aL hm (fun(i:Nat)=> i≤m.rows.length∧m.rows.all (jD s)=(m.rows.drop i).all (jD s)) (fun(i:Nat)=> ⟨dx 70 .any [(2,.ptr 0 0),(20,lv (bM m.rows)),(21,iv m.rows.length),(22,iv i)],[some (.box (cE (dV s)))]⟩) (fun(i:Nat)=> m.rows.length-i) (0) ?_ (ar [some 0] ?_ ?_ rfl rfl) ?_
   rotate_left
   ·exact sD
   ·exact sD
   rotate_left
   ·simp
   ·rintro i ⟨hi,hg⟩
    rcases aa (i<m.rows.length) with h3|h3
    ·have hrl:m.rows[i].args.length≤2:=by
      have hw:=(nb h2).2.1 m.rows[i] (ak h3)
      simp only[kR,al,decide_eq_true_eq] at hw
      exact hw.2.1
     rw[ae h3,List.all_cons] at hg
     refine yC ?_
     refine bw [] (tw s m.rows[i].name) ?_ ?_<;>simp -implicitDefEqProofs only[go_sem,Z1,Z2,Z3,Z4,h3]
     cases hx:symbol s m.rows[i].name with
     | none=>
       rw[Gb hx,aK] at hg
       have e:fh s m=false:=by rw[hmo,hg]
       simp -implicitDefEqProofs only[go_sem,Z1,Z2,Z3,Z4,bE,cg,h3]
       refine an ?_
       refine sB ?_
       all_goals(simp[e];done)
     | some x=>
       rw[GH hx] at hg
       rcases aa (x.args.length=m.rows[i].args.length) with h4|h4
       ·have k4:=eq_true h4
        simp only[h4,decide_true,aB] at hg
        simp -implicitDefEqProofs only[go_sem,Z1,Z2,Z3,Z4,aW,aX,k4,h3]
        refine aD [] (Cc m.rows[i].val x.sort) ?_
        cases h5:ra m.rows[i].val x.sort
        ·rw[h5,aK,aK] at hg
         have e:fh s m=false:=by rw[hmo,hg]
         refine sB ?_
         refine an ?_
         refine sB ?_
         all_goals(simp[e];done)
        ·rw[h5,aB] at hg
         refine sB ?_
         refine aL hm (fun(k:Nat)=> k≤m.rows[i].args.length∧jj m.rows[i].args x.args=jj (m.rows[i].args.drop k) (x.args.drop k)) (fun(k:Nat)=> ⟨dx 70 .any [(2,.ptr 0 0),(7,.ptr 1 0),(20,lv (bM m.rows)),(21,iv m.rows.length),(22,iv i),(53,lv (bp m.rows[i].args)),(54,iv m.rows[i].args.length),(55,iv k)],[some (.box (cE (dV s))),some (.box (cE (wK x)))]⟩) (fun(k:Nat)=> m.rows[i].args.length-k) (0) ?_ (ar [some 0,some 2] ?_ ?_ rfl rfl) ?_
         rotate_left
         ·exact sD
         ·exact sD
         rotate_left
         ·simp
         ·rintro k ⟨hk,hj⟩
          rcases aa (k<m.rows[i].args.length) with h6|h6
          ·have h7:k<x.args.length:=by omega
           rw[FK h6 h7] at hj
           simp -implicitDefEqProofs only[go_sem,Z1,Z2,Z3,Z4,h6,h7]
           refine aD [] (Cc m.rows[i].args[k] x.args[k]) ?_
           refine iK ?_
           cases h8:ra m.rows[i].args[k] x.args[k]
           ·rw[h8,aK] at hj
            rw[hj,aK] at hg
            have e:fh s m=false:=by rw[hmo,hg]
            refine sB ?_
            refine an ?_
            refine sB ?_
            all_goals(simp[e];done)
           ·rw[h8,aB] at hj
            refine sB ?_
            refine sQ ?_
            refine⟨k+1,?_,sL,ar [some 0,some 1] ?_ ?_ rfl rfl⟩
            rotate_left
            ·exact sD
            ·exact sD
            exact⟨by omega,hj⟩
          ·rw[ai (by omega)] at hj
           simp only[jj] at hj
           rw[hj,aB] at hg
           simp -implicitDefEqProofs only[go_sem,Z1,Z2,Z3,Z4,h6]
           refine sQ ?_
           refine⟨i+1,?_,sL,ar [some 0] ?_ ?_ rfl rfl⟩
           rotate_left
           ·exact sD
           ·exact sD
           exact⟨by omega,hg⟩
       ·simp only[h4,decide_false,aK] at hg
        have e:fh s m=false:=by rw[hmo,hg]
        simp -implicitDefEqProofs only[go_sem,Z1,Z2,Z3,Z4,aW,aX,h4,h3]
        refine an ?_
        refine sB ?_
        all_goals(simp[e];done)
    ·rw[ai (by omega),List.all_nil] at hg
     refine yC ?_
     refine an ?_
     refine sB ?_
     all_goals(simp[hmo,hg];done)
theorem VS{rs:List Mod.Row}{t:Mod.Row}(h:cut rs t<rs.length):found rs t=decide (fc rs[cut rs t] t=0):=by
 unfold found
 rw[List.getElem?_eq_getElem h]
theorem JA{rs:List Mod.Row}{t:Mod.Row}(h:¬cut rs t<rs.length):found rs t=false:=by
 unfold found
 rw[List.getElem?_eq_none (by omega)]
theorem TN{i j:Nat}:((i:Int)+(j:Int)).fdiv 2=(((i+j) / 2:Nat):Int):=by
 rw[Int.fdiv_eq_ediv_of_nonneg _ (by omega)]
 omega
theorem rQ(rows:List Mod.Row)(t:Mod.Row)(hm1:lA rows t)(dy:rows.length≤1000):C E.P 119 [lv (bM rows),av (om t),.fn 120 []] [] (bz (.gV [iv (cut rows t),bv (found rows t)]) []):=by
 refine gT (nt:=49) (rs:=[.tmp 6,.tmp 7]) hm Tryz.func119 fun hl he cq=>?_
 refine cM hm (fun(i:Nat) (j:Nat)=> i≤j∧j≤rows.length∧(∀(k:Nat)(h:k<rows.length),k<i→fc rows[k] t<0)∧(∀(k:Nat)(h:k<rows.length),j≤k→¬fc rows[k] t<0)) (fun(i:Nat) (j:Nat)=> ⟨dx 49 .any [(0,lv (bM rows)),(2,.fn 120 []),(4,.ptr 0 0),(8,iv rows.length),(9,iv i),(10,iv j)],[some (.box (cE (om t)))]⟩) (fun(i:Nat) (j:Nat)=> j-i) (0) (rows.length) ?_ (ar [some 0] ?_ ?_ rfl rfl) ?_
 rotate_left
 ·exact sD
 ·exact sD
 rotate_left
 ·exact⟨by omega,by omega,fun k h h2=>by omega,fun k h h2=>by omega⟩
 ·rintro i j ⟨hij,hj,h1,h2⟩
  rcases aa (i<j) with h3|h3
  ·have hw:=wrap_u64 (n:=(i:Int)+j) (by omega) (by omega)
   have hh:(i+j) / 2<rows.length:=by omega
   have hh2:i≤(i+j) / 2:=by omega
   have hh3:(i+j) / 2<j:=by omega
   generalize hq:(i+j) / 2=q at *
   have hw2:=wrap_i64 (n:=(q:Int)) (by unfold SZ;omega)
   refine yC ?_
   refine sQ ?_
   simp -implicitDefEqProofs only[go_sem,Z1,Z2,Z3,Z4,hw]
   refine aan ((i:Int)+j) (q:Int) (by rw[TN,hq]) (by simp -implicitDefEqProofs only[go_sem,Z1,Z2,Z3,Z4,hw]) ?_
   simp -implicitDefEqProofs only[go_sem,Z1,Z2,Z3,Z4,hw2,hh]
   refine aD [] (nT rows[q] t) ?_
   refine iK ?_
   rcases aa (fc rows[q] t<0) with h4|h4
   ·refine yD ?_
    refine sQ ?_
    refine⟨q+1,j,?_,sL,ar [some 0] ?_ ?_ rfl rfl⟩
    rotate_left
    ·exact sD
    ·exact sD
    refine⟨by omega,hj,fun k h hk=>?_,h2⟩
    have a1:=(tv hm1 q hh).2 h4
    exact(tv hm1 k h).1 (by omega)
   ·refine yD ?_
    refine⟨i,q,?_,sL,ar [some 0] ?_ ?_ rfl rfl⟩
    rotate_left
    ·exact sD
    ·exact sD
    refine⟨hh2,by omega,h1,fun k h hk hc=>h4 ?_⟩
    have a1:=(tv hm1 k h).2 hc
    exact(tv hm1 q hh).1 (by omega)
  ·have e:i=j:=by omega
   subst e
   have hc:=ZN hm1 hj h1 h2
   refine yC ?_
   rcases aa (i<rows.length) with h4|h4
   ·have hf:=VS (rs:=rows) (t:=t) (by omega)
    simp only[hc] at hf
    refine yD ?_
    refine aD [] (nT rows[i] t) ?_
    refine iK ?_
    refine an ?_
    refine sB ?_
    all_goals(simp[hc,hf];done)
   ·have hf:=JA (rs:=rows) (t:=t) (by omega)
    refine yD ?_
    refine iK ?_
    refine an ?_
    refine sB ?_
    all_goals(simp[hc,hf];done)
def rowOf(m:Mod.Model)(n:nz)(ts:List Term):Mod.Row:=⟨n,values m ts,⟨0,0⟩⟩
theorem Sy{m:Mod.Model}(h:fL m=true)(t:Term):value m t=if found m.rows (rowOf m t.name t.kids) then(m.rows.getD (cut m.rows (rowOf m t.name t.kids)) (rowOf m t.name t.kids)).val else⟨0,1⟩:=by
 rw[GN]
 exact Pe (t:=rowOf m t.name t.kids) h (J6 h t.kids)
theorem yR(m:Mod.Model)(hm1:fL m=true)(t:Term)(ih:∀k∈t.kids,C E.P 148 [av (ez m),av (cT k)] [] (bz (av (eU (value m k))) [])):C E.P 148 [av (ez m),av (cT t)] [] (bz (av (eU (value m t))) []):=by
 have hv0:=Sy hm1 t
 have dy:=(nb hm1).1
 refine gT (nt:=45) (rs:=[.cell 4 71]) hm Tryz.func148 fun hl he cq=>?_
 refine aL hm (fun(i:Nat)=> i≤t.kids.length) (fun(i:Nat)=> ⟨dx 45 .any [(2,.ptr 0 0),(4,.ptr 1 0),(5,.ptr 2 0),(14,lv (aN t.kids)),(15,iv t.kids.length),(16,iv i)],[some (.box (cE (ez m))),some (.box (cE (eU jE))),some (.box [.d (.str t.name),.acc 3,.d (.val (.int .i64 0)),.d (.val (.int .i64 0))]),some (.acc 71 (bp (values m (t.kids.take i))))]⟩) (fun(i:Nat)=> t.kids.length-i) (0) ?_ (ar [some 0,some 2,some 3,none] ?_ ?_ rfl rfl) ?_
 rotate_left
 ·exact sD
 ·refine sB ?_
  all_goals(simp[jE,values,bp])
 rotate_left
 ·omega
 ·rintro i hi
  have hv:=Hg m (t.kids.take i)
  have nh:(t.kids.take i).length=i:=by rw[List.length_take];omega
  rcases aa (i<t.kids.length) with h1|h1
  ·refine yA ?_
   have hc:=ih t.kids[i] (ak h1)
   refine aD [] hc ?_
   refine sQ ?_
   refine⟨i+1,?_,sL,ar [some 0,some 1,some 2,some 5] ?_ ?_ rfl rfl⟩
   rotate_left
   ·exact sD
   ·refine sB ?_
    all_goals(exact AY h1)
   exact h1
  ·have et:t.kids.take i=t.kids:=List.take_of_length_le (by omega)
   simp -implicitDefEqProofs only[go_sem,Z1,Z2,Z3,Z4,h1,et]
   refine dH [] [3] (rQ m.rows (rowOf m t.name t.kids) (Xu hm1 (J6 hm1 t.kids)) (by omega)) rfl ?_ ?_ ?_
   ·exact sV
   all_goals simp -implicitDefEqProofs only[go_sem,Z1,Z2,Z3,Z4]
   cases hf:found m.rows (rowOf m t.name t.kids)
   ·rw[hf] at hv0
    simp only[ax,if_false] at hv0
    refine sB ?_
    refine aD [] (fa 0) ?_
    refine an ?_
    refine sB ?_
    all_goals(simp[hv0,whole];done)
   ·have lL:cut m.rows (rowOf m t.name t.kids)<m.rows.length:=by
     rcases Nat.lt_or_ge (cut m.rows (rowOf m t.name t.kids)) m.rows.length with h|h
     ·exact h
     ·rw[JA (by omega)] at hf;cases hf
    have hg:m.rows.getD (cut m.rows (rowOf m t.name t.kids)) (rowOf m t.name t.kids)=m.rows[cut m.rows (rowOf m t.name t.kids)]:=by simp[List.getD,lL]
    rw[hf,hg] at hv0
    simp only[if_true] at hv0
    generalize hq:cut m.rows (rowOf m t.name t.kids)=q at *
    simp -implicitDefEqProofs only[go_sem,Z1,Z2,Z3,Z4,lL]
    refine an ?_
    refine sB ?_
    all_goals(simp[hv0];done)
theorem nR(m:Mod.Model)(hm1:fL m=true):∀t,C E.P 148 [av (ez m),av (cT t)] [] (bz (av (eU (value m t))) []):=
 Term.ind fun n ks ih=>yR m hm1 (.mk n ks) ih
theorem Ca(m:Mod.Model)(a:Atom)(hm1:fL m=true)(hwf:cQ a=true):C E.P 75 [av (ez m),av (fT a)] [] (bz (.gV [bv ((ov m a).getD false),bv (ov m a).isSome]) []):=by
 refine gT (nt:=55) (rs:=[.tmp 4,.tmp 5]) hm Tryz.func75 fun hl he cq=>?_
 rcases aa (a.kind=1) with h3|h3
 ·have k3:=eq_true h3
  have e2:ov m a=some (decide (value m a.A=value m a.B)):=by unfold ov;rw[if_pos h3]
  simp -implicitDefEqProofs only[go_sem,Z1,Z2,Z3,Z4,k3]
  refine aD [] (nR m hm1 a.A) ?_
  refine aD [] (nR m hm1 a.B) ?_
  refine FF (by kernel_rfl) (a:=(value m a.A).N) (b:=(value m a.A).D) (c:=(value m a.B).N) (e:=(value m a.B).D) (by simp -implicitDefEqProofs only[go_sem,Z1,Z2,Z3,Z4]) (by simp -implicitDefEqProofs only[go_sem,Z1,Z2,Z3,Z4]) ?_
  rw[pg]
  refine sB ?_
  refine iK ?_
  refine an ?_
  refine sB ?_
  all_goals(simp[e2];done)
 ·have k:a.kind=2:=(mH hwf).resolve_left h3
  obtain⟨_,_,_,dy,hb,_⟩:=mM hwf k
  have e2:ov m a=(qC m a.nums a.times (whole 0)).map fun x=>below x a.bound a.strict:=by unfold ov;rw[if_neg h3]
  refine yC ?_
  refine aD [] (fa 0) ?_
  refine cM hm (fun(i:Nat) (sum:Mod.Rat)=> i≤a.nums.length∧qC m a.nums a.times (whole 0)=qC m (a.nums.drop i) (a.times.drop i) sum) (fun(i:Nat) (sum:Mod.Rat)=> ⟨dx 55 .any [(2,.ptr 0 0),(3,.ptr 1 0),(6,.ptr 2 0),(25,lv (aN a.nums)),(26,iv a.nums.length),(27,iv i)],[some (.box (cE (ez m))),some (.box (cE (fT a))),some (.box (cE (eU sum)))]⟩) (fun(i:Nat) (sum:Mod.Rat)=> a.nums.length-i) (0) (whole 0) ?_ (ar [some 0,some 1,some 2] ?_ ?_ rfl rfl) ?_
  rotate_left
  ·exact sD
  ·exact sD
  rotate_left
  ·simp
  ·rintro i sum ⟨hi,hg⟩
   rcases aa (i<a.nums.length) with h1|h1
   ·have h2:i<a.times.length:=by omega
    rw[PU h1 h2] at hg
    refine yJ ?_
    refine aD [] (nR m hm1 a.nums[i]) ?_
    refine aD [] (wT sum a.times[i] (value m a.nums[i])) ?_
    refine iK ?_
    cases h4:(plus sum a.times[i] (value m a.nums[i])).2
    ·rw[h4] at hg
     simp only[ax,if_false] at hg
     rw[hg] at e2
     refine sB ?_
     refine an ?_
     refine sB ?_
     all_goals(simp[e2];done)
    ·rw[h4] at hg
     simp only[if_true] at hg
     refine sB ?_
     refine sQ ?_
     refine⟨i+1,(plus sum a.times[i] (value m a.nums[i])).1,?_,sL,ar [some 0,some 1,some 2] ?_ ?_ rfl rfl⟩
     rotate_left
     ·exact sD
     ·exact sD
     exact⟨by omega,hg⟩
   ·rw[S9 (by omega)] at hg
    rw[hg] at e2
    refine yA ?_
    refine aD [] (Bs sum a.bound a.strict) ?_
    refine an ?_
    refine sB ?_
    all_goals(simp[e2];done)
theorem A4{s:dK}{m:Mod.Model}{l:bm}(h:fh s m=false∨fq s l.atom=false):gO s m l=none:=by
 unfold gO
 rcases h with h|h<;>simp[h]
theorem QN{s:dK}{m:Mod.Model}(h:fh s m=true):fL m=true:=by
 simp only[fh,al] at h
 exact h.2.1
theorem EC(s:dK)(m:Mod.Model)(l:bm):C E.P 23 [av (dV s),av (ez m),av (nW l)] [] (bz (.gV [bv ((gO s m l).getD false),bv (gO s m l).isSome]) []):=by
 refine gT (nt:=34) (rs:=[.tmp 6,.tmp 7]) hm Tryz.func23 fun hl he cq=>?_
 refine aD [] (xo s m) ?_
 cases h1:fh s m
 ·have e:=A4 (l:=l) (.inl h1)
  refine sB ?_
  refine an ?_
  refine sB ?_
  all_goals(simp[e];done)
 ·refine sB ?_
  refine aD [] (zc s l.atom) ?_
  cases h2:fq s l.atom
  ·have e:=A4 (m:=m) (.inr h2)
   refine sB ?_
   refine an ?_
   refine sB ?_
   all_goals(simp[e];done)
  ·have e:gO s m l=(ov m l.atom).map fun b=>b != l.no:=by
    unfold gO
    simp[h1,h2]
   have hwf:cQ l.atom=true:=by
    simp only[fq,al] at h2
    exact h2.2.1
   refine sB ?_
   refine aD [] (Ca m l.atom (QN h1) hwf) ?_
   cases h3:ov m l.atom with
   | none=>
     rw[h3] at e
     simp -implicitDefEqProofs only[go_sem,Z1,Z2,Z3,Z4,bE,cg]
     refine an ?_
     refine sB ?_
     all_goals(simp[e];done)
   | some b=>
     rw[h3] at e
     simp -implicitDefEqProofs only[go_sem,Z1,Z2,Z3,Z4,aW,aX]
     refine an ?_
     refine sB ?_
     rw[e]
     exact⟨rfl,rfl⟩
end Go.Proofs.YtabembjmeobhoaaGreat
