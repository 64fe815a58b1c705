/-
  The program: the walks of models, going on: values and literals. A step towards the exact laws.
-/
import Derived.Test.YtabembjmeobhoaaGreatKBb
set_option linter.unusedVariables false
set_option linter.unusedSimpArgs false
open Bool renaming and_eq_true→ai,false_eq_true→ax,true_and→aM,false_and→aS
open Classical renaming em→aa
open List renaming drop_eq_getElem_cons→aj,getElem_mem→ak,drop_of_length_le→al
open Option renaming isSome_some→aJ,getD_some→aK,isSome_none→aU,getD_none→aZ
namespace Go.Proofs.YtabembjmeobhoaaGreat
open Go.Eng Go.Mod
open Int renaming reduceEq→Z1,reduceLT→Z2,reduceLE→Z3,reduceToNat→Z4
set_option maxRecDepth 100000
set_option maxHeartbeats 800000
theorem AV(x:Mod.Rat)(sort:Int):C E.P 74 [av (eO x),iv sort] [] (bM (bv (qT x sort)) []):=by
 refine gT (nt:=12) (rs:=[.tmp 4]) hm Tryz.func74 fun hl he cI=>?_
 rcases aa (sort=1) with h2|h2
 ·have k:=eq_true h2
  simp -implicitDefEqProofs only[go_sem,Z1,Z2,Z3,Z4,k]
  refine an ?_
  refine sB ?_
  all_goals(simp[qT,h2];done)
 ·simp -implicitDefEqProofs only[go_sem,Z1,Z2,Z3,Z4,h2]
  refine an ?_
  refine sB ?_
  all_goals(simp[qT,h2];done)
theorem Gz{xs:List Mod.Rat}{ns:List Int}{i:Nat}(h:i<xs.length)(h':i<ns.length):ji (xs.drop i) (ns.drop i)=(qT xs[i] ns[i]&&ji (xs.drop (i+1)) (ns.drop (i+1))):=by
 rw[aj h,aj h',ji]
theorem GC{s:dE}{r:Mod.Row}(h:symbol s r.name=none):jB s r=false:=by simp[jB,h]
theorem FJ{s:dE}{r:Mod.Row}{x:Sym}(h:symbol s r.name=some x):jB s r=(decide (x.args.length=r.args.length)&&(qT r.val x.sort&&ji r.args x.args)):=by simp[jB,h]
theorem xi(s:dE)(m:Mod.Model):C E.P 22 [av (dZ s),av (eL m)] [] (bM (bv (e6 s m)) []):=by
 refine gT (nt:=70) (rs:=[.tmp 4]) hm Tryz.func22 fun hl he cI=>?_
 refine aD [] (qX s) ?_
 cases h1:fH s
 ·refine sB ?_
  refine an ?_
  refine sB ?_
  all_goals(simp[e6,h1];done)
 ·refine sB ?_
  refine aD [] (Dz m) ?_
  cases h2:e7 m
  ·refine sB ?_
   refine an ?_
   refine sB ?_
   all_goals(simp[e6,h1,h2];done)
  ·have hmo:e6 s m=m.rows.all (jB s):=by simp[e6,h1,h2]
   refine sB ?_
   refine aO hm (fun(i:Nat)=> i≤m.rows.length∧m.rows.all (jB s)=(m.rows.drop i).all (jB s)) (fun(i:Nat)=> ⟨dB 70 .any [(2,.ptr 0 0),(20,lv (bT m.rows)),(21,iv m.rows.length),(22,iv i)],[some (.box (cF (dZ s)))]⟩) (fun(i:Nat)=> m.rows.length-i) (0) ?_ (aw [some 0] ?_ ?_ rfl rfl) ?_
   rotate_left
   ·exact sD
   ·exact sD
   rotate_left
   ·simp
   ·rintro i ⟨hi,hg⟩
    rcases aa (i<m.rows.length) with h3|h3
    ·have hrl:m.rows[i].args.length≤2:=by
      have hw:=(mU h2).2.1 m.rows[i] (ak h3)
      simp only[kQ,ai,decide_eq_true_eq] at hw
      exact hw.2.1
     rw[aj h3,List.all_cons] at hg
     simp -implicitDefEqProofs only[go_sem,Z1,Z2,Z3,Z4,h3]
     refine bQ [] (sW s m.rows[i].name) ?_ ?_<;>simp -implicitDefEqProofs only[go_sem,Z1,Z2,Z3,Z4,h3]
     cases hx:symbol s m.rows[i].name with
     | none=>
       rw[GC hx,aS] at hg
       have e:e6 s m=false:=by rw[hmo,hg]
       simp -implicitDefEqProofs only[go_sem,Z1,Z2,Z3,Z4,aU,aZ,h3]
       refine an ?_
       refine sB ?_
       all_goals(simp[e];done)
     | some x=>
       rw[FJ hx] at hg
       rcases aa (x.args.length=m.rows[i].args.length) with h4|h4
       ·have k4:=eq_true h4
        simp only[h4,decide_true,aM] at hg
        simp -implicitDefEqProofs only[go_sem,Z1,Z2,Z3,Z4,aJ,aK,k4,h3]
        refine aD [] (AV m.rows[i].val x.sort) ?_
        cases h5:qT m.rows[i].val x.sort
        ·rw[h5,aS,aS] at hg
         have e:e6 s m=false:=by rw[hmo,hg]
         refine sB ?_
         refine an ?_
         refine sB ?_
         all_goals(simp[e];done)
        ·rw[h5,aM] at hg
         refine sB ?_
         refine aO hm (fun(k:Nat)=> k≤m.rows[i].args.length∧ji m.rows[i].args x.args=ji (m.rows[i].args.drop k) (x.args.drop k)) (fun(k:Nat)=> ⟨dB 70 .any [(2,.ptr 0 0),(7,.ptr 1 0),(20,lv (bT m.rows)),(21,iv m.rows.length),(22,iv i),(53,lv (br m.rows[i].args)),(54,iv m.rows[i].args.length),(55,iv k)],[some (.box (cF (dZ s))),some (.box (cF (vP x)))]⟩) (fun(k:Nat)=> m.rows[i].args.length-k) (0) ?_ (aw [some 0,some 2] ?_ ?_ rfl rfl) ?_
         rotate_left
         ·exact sD
         ·exact sD
         rotate_left
         ·simp
         ·rintro k ⟨hk,hj⟩
          rcases aa (k<m.rows[i].args.length) with h6|h6
          ·have h7:k<x.args.length:=by omega
           rw[Gz h6 h7] at hj
           simp -implicitDefEqProofs only[go_sem,Z1,Z2,Z3,Z4,h6,h7]
           refine aD [] (AV m.rows[i].args[k] x.args[k]) ?_
           refine iK ?_
           cases h8:qT m.rows[i].args[k] x.args[k]
           ·rw[h8,aS] at hj
            rw[hj,aS] at hg
            have e:e6 s m=false:=by rw[hmo,hg]
            refine sB ?_
            refine an ?_
            refine sB ?_
            all_goals(simp[e];done)
           ·rw[h8,aM] at hj
            refine sB ?_
            refine sQ ?_
            refine⟨k+1,?_,sL,aw [some 0,some 1] ?_ ?_ rfl rfl⟩
            rotate_left
            ·exact sD
            ·exact sD
            exact⟨by omega,hj⟩
          ·rw[al (by omega)] at hj
           simp only[ji] at hj
           rw[hj,aM] at hg
           simp -implicitDefEqProofs only[go_sem,Z1,Z2,Z3,Z4,h6]
           refine sQ ?_
           refine⟨i+1,?_,sL,aw [some 0] ?_ ?_ rfl rfl⟩
           rotate_left
           ·exact sD
           ·exact sD
           exact⟨by omega,hg⟩
       ·simp only[h4,decide_false,aS] at hg
        have e:e6 s m=false:=by rw[hmo,hg]
        simp -implicitDefEqProofs only[go_sem,Z1,Z2,Z3,Z4,aJ,aK,h4,h3]
        refine an ?_
        refine sB ?_
        all_goals(simp[e];done)
    ·rw[al (by omega),List.all_nil] at hg
     simp -implicitDefEqProofs only[go_sem,Z1,Z2,Z3,Z4,h3]
     refine an ?_
     refine sB ?_
     all_goals(simp[hmo,hg];done)
theorem Uu{rs:List Mod.Row}{t:Mod.Row}(h:cut rs t<rs.length):found rs t=decide (fb rs[cut rs t] t=0):=by
 unfold found
 rw[List.getElem?_eq_getElem h]
theorem Iw{rs:List Mod.Row}{t:Mod.Row}(h:¬cut rs t<rs.length):found rs t=false:=by
 unfold found
 rw[List.getElem?_eq_none (by omega)]
theorem UC{i j:Nat}:((i:Int)+(j:Int)).fdiv 2=(((i+j) / 2:Nat):Int):=by
 rw[Int.fdiv_eq_ediv_of_nonneg _ (by omega)]
 omega
theorem rT(rows:List Mod.Row)(t:Mod.Row)(hm1:lx rows t)(dy:rows.length≤1000):C E.P 119 [lv (bT rows),av (qC t),.fn 120 []] [] (bM (.jd [iv (cut rows t),bv (found rows t)]) []):=by
 refine gT (nt:=49) (rs:=[.tmp 6,.tmp 7]) hm Tryz.func119 fun hl he cI=>?_
 refine dm hm (fun(i:Nat) (j:Nat)=> i≤j∧j≤rows.length∧(∀(k:Nat)(h:k<rows.length),k<i→fb rows[k] t<0)∧(∀(k:Nat)(h:k<rows.length),j≤k→¬fb rows[k] t<0)) (fun(i:Nat) (j:Nat)=> ⟨dB 49 .any [(0,lv (bT rows)),(2,.fn 120 []),(4,.ptr 0 0),(8,iv rows.length),(9,iv i),(10,iv j)],[some (.box (cF (qC t)))]⟩) (fun(i:Nat) (j:Nat)=> j-i) (0) (rows.length) ?_ (aw [some 0] ?_ ?_ rfl rfl) ?_
 rotate_left
 ·exact sD
 ·exact sD
 rotate_left
 ·exact⟨by omega,by omega,fun k h h2=>by omega,fun k h h2=>by omega⟩
 ·rintro i j ⟨hij,hj,h1,h2⟩
  rcases aa (i<j) with h3|h3
  ·have hw:=wrap_u64 (n:=(i:Int)+j) (by omega) (by omega)
   have hh:(i+j) / 2<rows.length:=by omega
   have hh2:i≤(i+j) / 2:=by omega
   have hh3:(i+j) / 2<j:=by omega
   generalize hq:(i+j) / 2=q at *
   have hw2:=wrap_i64 (n:=(q:Int)) (by unfold RN;omega)
   simp -implicitDefEqProofs only[go_sem,Z1,Z2,Z3,Z4,h3]
   refine sQ ?_
   simp -implicitDefEqProofs only[go_sem,Z1,Z2,Z3,Z4,hw]
   refine ZD ((i:Int)+j) (q:Int) (by rw[UC,hq]) (by simp -implicitDefEqProofs only[go_sem,Z1,Z2,Z3,Z4,hw]) ?_
   simp -implicitDefEqProofs only[go_sem,Z1,Z2,Z3,Z4,hw2,hh]
   refine aD [] (nQ rows[q] t) ?_
   refine iK ?_
   rcases aa (fb rows[q] t<0) with h4|h4
   ·simp -implicitDefEqProofs only[go_sem,Z1,Z2,Z3,Z4,h4]
    refine sQ ?_
    refine⟨q+1,j,?_,sL,aw [some 0] ?_ ?_ rfl rfl⟩
    rotate_left
    ·exact sD
    ·exact sD
    refine⟨by omega,hj,fun k h hk=>?_,h2⟩
    have a1:=(sY hm1 q hh).2 h4
    exact(sY hm1 k h).1 (by omega)
   ·simp -implicitDefEqProofs only[go_sem,Z1,Z2,Z3,Z4,h4]
    refine⟨i,q,?_,sL,aw [some 0] ?_ ?_ rfl rfl⟩
    rotate_left
    ·exact sD
    ·exact sD
    refine⟨hh2,by omega,h1,fun k h hk hc=>h4 ?_⟩
    have a1:=(sY hm1 k h).2 hc
    exact(sY hm1 q hh).1 (by omega)
  ·have e:i=j:=by omega
   subst e
   have hc:=Zq hm1 hj h1 h2
   simp -implicitDefEqProofs only[go_sem,Z1,Z2,Z3,Z4,h3]
   rcases aa (i<rows.length) with h4|h4
   ·have hf:=Uu (rs:=rows) (t:=t) (by omega)
    simp only[hc] at hf
    simp -implicitDefEqProofs only[go_sem,Z1,Z2,Z3,Z4,h4]
    refine aD [] (nQ rows[i] t) ?_
    refine iK ?_
    refine an ?_
    refine sB ?_
    all_goals(simp[hc,hf];done)
   ·have hf:=Iw (rs:=rows) (t:=t) (by omega)
    simp -implicitDefEqProofs only[go_sem,Z1,Z2,Z3,Z4,h4]
    refine iK ?_
    refine an ?_
    refine sB ?_
    all_goals(simp[hc,hf];done)
def rowOf(m:Mod.Model)(n:ni)(ts:List Term):Mod.Row:=⟨n,values m ts,⟨0,0⟩⟩
theorem RH{m:Mod.Model}(h:e7 m=true)(t:Term):value m t=if found m.rows (rowOf m t.name t.kids) then(m.rows.getD (cut m.rows (rowOf m t.name t.kids)) (rowOf m t.name t.kids)).val else⟨0,1⟩:=by
 rw[Gc]
 exact OP (t:=rowOf m t.name t.kids) h (Ju h t.kids)
theorem yc(m:Mod.Model)(hm1:e7 m=true)(t:Term)(ih:∀k∈t.kids,C E.P 148 [av (eL m),av (cT k)] [] (bM (av (eO (value m k))) [])):C E.P 148 [av (eL m),av (cT t)] [] (bM (av (eO (value m t))) []):=by
 have hv0:=RH hm1 t
 have dy:=(mU hm1).1
 refine gT (nt:=45) (rs:=[.cell 4 71]) hm Tryz.func148 fun hl he cI=>?_
 refine aO hm (fun(i:Nat)=> i≤t.kids.length) (fun(i:Nat)=> ⟨dB 45 .any [(2,.ptr 0 0),(4,.ptr 1 0),(5,.ptr 2 0),(14,lv (aP t.kids)),(15,iv t.kids.length),(16,iv i)],[some (.box (cF (eL m))),some (.box (cF (eO jF))),some (.box [.d (.str t.name),.acc 3,.d (.val (.int .i64 0)),.d (.val (.int .i64 0))]),some (.acc 71 (br (values m (t.kids.take i))))]⟩) (fun(i:Nat)=> t.kids.length-i) (0) ?_ (aw [some 0,some 2,some 3,none] ?_ ?_ rfl rfl) ?_
 rotate_left
 ·exact sD
 ·refine sB ?_
  all_goals(simp[jF,values,br])
 rotate_left
 ·omega
 ·rintro i hi
  have hv:=EH m (t.kids.take i)
  have m7:(t.kids.take i).length=i:=by rw[List.length_take];omega
  rcases aa (i<t.kids.length) with h1|h1
  ·simp -implicitDefEqProofs only[go_sem,Z1,Z2,Z3,Z4,h1]
   have hc:=ih t.kids[i] (ak h1)
   refine aD [] hc ?_
   refine sQ ?_
   refine⟨i+1,?_,sL,aw [some 0,some 1,some 2,some 5] ?_ ?_ rfl rfl⟩
   rotate_left
   ·exact sD
   ·refine sB ?_
    all_goals(exact Ap h1)
   exact h1
  ·have et:t.kids.take i=t.kids:=List.take_of_length_le (by omega)
   simp -implicitDefEqProofs only[go_sem,Z1,Z2,Z3,Z4,h1,et]
   refine dN [] [3] (rT m.rows (rowOf m t.name t.kids) (Wj hm1 (Ju hm1 t.kids)) (by omega)) rfl ?_ ?_ ?_
   ·exact sV
   all_goals simp -implicitDefEqProofs only[go_sem,Z1,Z2,Z3,Z4]
   cases hf:found m.rows (rowOf m t.name t.kids)
   ·rw[hf] at hv0
    simp only[ax,if_false] at hv0
    refine sB ?_
    refine aD [] (e9 0) ?_
    refine an ?_
    refine sB ?_
    all_goals(simp[hv0,whole];done)
   ·have mr:cut m.rows (rowOf m t.name t.kids)<m.rows.length:=by
     rcases Nat.lt_or_ge (cut m.rows (rowOf m t.name t.kids)) m.rows.length with h|h
     ·exact h
     ·rw[Iw (by omega)] at hf;cases hf
    have hg:m.rows.getD (cut m.rows (rowOf m t.name t.kids)) (rowOf m t.name t.kids)=m.rows[cut m.rows (rowOf m t.name t.kids)]:=by simp[List.getD,mr]
    rw[hf,hg] at hv0
    simp only[if_true] at hv0
    generalize hq:cut m.rows (rowOf m t.name t.kids)=q at *
    simp -implicitDefEqProofs only[go_sem,Z1,Z2,Z3,Z4,mr]
    refine an ?_
    refine sB ?_
    all_goals(simp[hv0];done)
theorem nK(m:Mod.Model)(hm1:e7 m=true):∀t,C E.P 148 [av (eL m),av (cT t)] [] (bM (av (eO (value m t))) []):=
 Term.ind fun n ks ih=>yc m hm1 (.mk n ks) ih
theorem Ah(m:Mod.Model)(a:Atom)(hm1:e7 m=true)(hwf:cJ a=true):C E.P 75 [av (eL m),av (fM a)] [] (bM (.jd [bv ((nL m a).getD false),bv (nL m a).isSome]) []):=by
 refine gT (nt:=55) (rs:=[.tmp 4,.tmp 5]) hm Tryz.func75 fun hl he cI=>?_
 rcases aa (a.kind=1) with h3|h3
 ·have k3:=eq_true h3
  have e2:nL m a=some (decide (value m a.A=value m a.B)):=by unfold nL;rw[if_pos h3]
  simp -implicitDefEqProofs only[go_sem,Z1,Z2,Z3,Z4,k3]
  refine aD [] (nK m hm1 a.A) ?_
  refine aD [] (nK m hm1 a.B) ?_
  refine Lf (by kernel_rfl) (a:=(value m a.A).N) (b:=(value m a.A).D) (c:=(value m a.B).N) (e:=(value m a.B).D) (by simp -implicitDefEqProofs only[go_sem,Z1,Z2,Z3,Z4]) (by simp -implicitDefEqProofs only[go_sem,Z1,Z2,Z3,Z4]) ?_
  rw[pz]
  refine sB ?_
  refine iK ?_
  refine an ?_
  refine sB ?_
  all_goals(simp[e2];done)
 ·have k:a.kind=2:=(j6 hwf).resolve_left h3
  obtain⟨_,_,_,dy,hb,_⟩:=mF hwf k
  have e2:nL m a=(mg m a.nums a.times (whole 0)).map fun x=>below x a.bound a.strict:=by unfold nL;rw[if_neg h3]
  simp -implicitDefEqProofs only[go_sem,Z1,Z2,Z3,Z4,h3]
  refine aD [] (e9 0) ?_
  refine dm hm (fun(i:Nat) (sum:Mod.Rat)=> i≤a.nums.length∧mg m a.nums a.times (whole 0)=mg m (a.nums.drop i) (a.times.drop i) sum) (fun(i:Nat) (sum:Mod.Rat)=> ⟨dB 55 .any [(2,.ptr 0 0),(3,.ptr 1 0),(6,.ptr 2 0),(25,lv (aP a.nums)),(26,iv a.nums.length),(27,iv i)],[some (.box (cF (eL m))),some (.box (cF (fM a))),some (.box (cF (eO sum)))]⟩) (fun(i:Nat) (sum:Mod.Rat)=> a.nums.length-i) (0) (whole 0) ?_ (aw [some 0,some 1,some 2] ?_ ?_ rfl rfl) ?_
  rotate_left
  ·exact sD
  ·exact sD
  rotate_left
  ·simp
  ·rintro i sum ⟨hi,hg⟩
   rcases aa (i<a.nums.length) with h1|h1
   ·have h2:i<a.times.length:=by omega
    rw[PQ h1 h2] at hg
    simp -implicitDefEqProofs only[go_sem,Z1,Z2,Z3,Z4,h1,h2]
    refine aD [] (nK m hm1 a.nums[i]) ?_
    refine aD [] (wR sum a.times[i] (value m a.nums[i])) ?_
    refine iK ?_
    cases h4:(plus sum a.times[i] (value m a.nums[i])).2
    ·rw[h4] at hg
     simp only[ax,if_false] at hg
     rw[hg] at e2
     refine sB ?_
     refine an ?_
     refine sB ?_
     all_goals(simp[e2];done)
    ·rw[h4] at hg
     simp only[if_true] at hg
     refine sB ?_
     refine sQ ?_
     refine⟨i+1,(plus sum a.times[i] (value m a.nums[i])).1,?_,sL,aw [some 0,some 1,some 2] ?_ ?_ rfl rfl⟩
     rotate_left
     ·exact sD
     ·exact sD
     exact⟨by omega,hg⟩
   ·rw[RI (by omega)] at hg
    rw[hg] at e2
    simp -implicitDefEqProofs only[go_sem,Z1,Z2,Z3,Z4,h1]
    refine aD [] (AY sum a.bound a.strict) ?_
    refine an ?_
    refine sB ?_
    all_goals(simp[e2];done)
theorem Ay{s:dE}{m:Mod.Model}{l:bp}(h:e6 s m=false∨fa s l.atom=false):fW s m l=none:=by
 unfold fW
 rcases h with h|h<;>simp[h]
theorem OW{s:dE}{m:Mod.Model}(h:e6 s m=true):e7 m=true:=by
 simp only[e6,ai] at h
 exact h.2.1
theorem Dt(s:dE)(m:Mod.Model)(l:bp):C E.P 23 [av (dZ s),av (eL m),av (np l)] [] (bM (.jd [bv ((fW s m l).getD false),bv (fW s m l).isSome]) []):=by
 refine gT (nt:=34) (rs:=[.tmp 6,.tmp 7]) hm Tryz.func23 fun hl he cI=>?_
 refine aD [] (xi s m) ?_
 cases h1:e6 s m
 ·have e:=Ay (l:=l) (.inl h1)
  refine sB ?_
  refine an ?_
  refine sB ?_
  all_goals(simp[e];done)
 ·refine sB ?_
  refine aD [] (ye s l.atom) ?_
  cases h2:fa s l.atom
  ·have e:=Ay (m:=m) (.inr h2)
   refine sB ?_
   refine an ?_
   refine sB ?_
   all_goals(simp[e];done)
  ·have e:fW s m l=(nL m l.atom).map fun b=>b != l.no:=by
    unfold fW
    simp[h1,h2]
   have hwf:cJ l.atom=true:=by
    simp only[fa,ai] at h2
    exact h2.2.1
   refine sB ?_
   refine aD [] (Ah m l.atom (OW h1) hwf) ?_
   cases h3:nL m l.atom with
   | none=>
     rw[h3] at e
     simp -implicitDefEqProofs only[go_sem,Z1,Z2,Z3,Z4,aU,aZ]
     refine an ?_
     refine sB ?_
     all_goals(simp[e];done)
   | some b=>
     rw[h3] at e
     simp -implicitDefEqProofs only[go_sem,Z1,Z2,Z3,Z4,aJ,aK]
     refine an ?_
     refine sB ?_
     rw[e]
     exact⟨rfl,rfl⟩
end Go.Proofs.YtabembjmeobhoaaGreat
