/-
  The reference: the walks of models. A step towards the exact laws.
-/
import Derived.Test.YtabembjmeobhoaaGreatKDP
import Derived.Test.YtabembjmeobhoaaGreatKDa
set_option linter.unusedVariables false
set_option linter.unusedSimpArgs false
open Bool renaming and_eq_true→al,false_eq_true→ax,true_and→aB,false_and→aK
open Classical renaming em→aa
open List renaming drop_eq_getElem_cons→ae,drop_of_length_le→ai,getElem_mem→ak,all_cons→b9,all_nil→dM
open Option renaming isSome_some→aW,getD_some→aX
namespace Go.Proofs.YtabembjmeobhoaaGreat
open Go.Eng Go.Mod
open Int renaming reduceEq→Z1,reduceLT→Z2,reduceLE→Z3,reduceToNat→Z4
set_option maxRecDepth 100000
set_option maxHeartbeats 800000
theorem zr(a b:List Mod.Rat):C E.P 214 [lv (bp a),lv (bp b)] [] (bz (bv (decide (a=b))) []):=by
 refine gT (nt:=26) (rs:=[.tmp 4]) hm Tryz.func214 fun hl he cq=>?_
 rcases aa (a.length=b.length) with h2|h2
 ·have k2:=eq_true h2
  simp -implicitDefEqProofs only[go_sem,Z1,Z2,Z3,Z4,k2]
  refine aL hm (fun(i:Nat)=> i≤a.length∧(a=b↔a.drop i=b.drop i)) (fun(i:Nat)=> ⟨dx 26 .any [(0,lv (bp a)),(1,lv (bp b)),(5,iv i)],[]⟩) (fun(i:Nat)=> a.length-i) (0) ?_ (ar [] ?_ ?_ rfl rfl) ?_
  rotate_left
  ·exact sD
  ·exact sD
  rotate_left
  ·simp
  ·rintro i ⟨hi,hg⟩
   rcases aa (i<a.length) with h3|h3
   ·have h4:i<b.length:=by omega
    rw[drop_eq h3 h4] at hg
    simp -implicitDefEqProofs only[go_sem,Z1,Z2,Z3,Z4,h3,h4]
    refine Kv (by kernel_rfl) (a:=a[i].N) (b:=a[i].D) (c:=b[i].N) (e:=b[i].D) (by simp -implicitDefEqProofs only[go_sem,Z1,Z2,Z3,Z4]) (by simp -implicitDefEqProofs only[go_sem,Z1,Z2,Z3,Z4]) ?_
    rw[pg]
    rcases aa (a[i]=b[i]) with h5|h5
    ·have k5:=eq_true h5
     simp -implicitDefEqProofs only[go_sem,Z1,Z2,Z3,Z4,k5]
     refine iK ?_
     refine sQ ?_
     refine⟨i+1,?_,sL,ar [] ?_ ?_ rfl rfl⟩
     rotate_left
     ·exact sD
     ·exact sD
     refine⟨by omega,?_⟩
     rw[hg]
     simp[h5]
    ·have e:¬a=b:=fun hh=>h5 (hg.1 hh).1
     refine yE ?_
     refine iK ?_
     refine an ?_
     refine sB ?_
     all_goals(simp[e];done)
   ·rw[ai (by omega),ai (by omega)] at hg
    refine yC ?_
    refine an ?_
    refine sB ?_
    all_goals(simp[hg];done)
 ·have e:¬a=b:=fun hh=>h2 (by rw[hh])
  refine yB ?_
  refine an ?_
  refine sB ?_
  all_goals(simp[e];done)
theorem BQ(x:Mod.Rat)(sort:Int):C E.P 220 [av (eU x),iv sort] [] (bz (bv (bX x&&ra x sort)) []):=by
 refine gT (nt:=16) (rs:=[.tmp 4]) hm Tryz.func220 fun hl he cq=>?_
 refine aD [] (gm x) ?_
 cases h1:bX x
 ·refine sB ?_
  refine an ?_
  exact sD
 ·refine sB ?_
  rcases aa (sort=1) with h2|h2
  ·have k:=eq_true h2
   refine yG ?_
   refine an ?_
   refine sB ?_
   all_goals(simp[ra,h2];done)
  ·refine yB ?_
   refine an ?_
   refine sB ?_
   all_goals(simp[ra,h2];done)
theorem KF(x:Mod.Row):C E.P 259 [av (om x)] [] (bz (bv (kR x)) []):=by
 refine gT (nt:=32) (rs:=[.tmp 2]) hm Tryz.func259 fun hl he cq=>?_
 refine aL hm (fun(i:Nat)=> i≤x.args.length∧x.args.all bX=(x.args.drop i).all bX) (fun(i:Nat)=> ⟨dx 32 .any [(1,.ptr 0 0),(3,iv i)],[some (.box (cE (om x)))]⟩) (fun(i:Nat)=> x.args.length-i) (0) ?_ (ar [some 0] ?_ ?_ rfl rfl) ?_
 rotate_left
 ·exact sD
 ·exact sD
 rotate_left
 ·simp
 ·rintro i ⟨hi,hg⟩
  rcases aa (i<x.args.length) with h1|h1
  ·rw[ae h1,b9] at hg
   refine yA ?_
   refine aD [] (gm x.args[i]) ?_
   cases h2:bX x.args[i]
   ·rw[h2,aK] at hg
    refine sB ?_
    refine an ?_
    refine sB ?_
    all_goals(simp[kR,hg];done)
   ·rw[h2,aB] at hg
    refine sB ?_
    refine sQ ?_
    refine⟨i+1,?_,sL,ar [some 0] ?_ ?_ rfl rfl⟩
    rotate_left
    ·exact sD
    ·exact sD
    exact⟨by omega,hg⟩
  ·rw[ai (by omega),dM] at hg
   refine yA ?_
   refine aD [] (tR x.name) ?_
   cases h2:fC x.name
   ·refine sB ?_
    refine an ?_
    refine sB ?_
    all_goals(simp[kR,h2];done)
   ·refine sB ?_
    rcases aa ((x.args.length:Int)≤2) with h3' | h3'
    ·have h3:x.args.length≤2:=by omega
     simp -implicitDefEqProofs only[go_sem,Z1,Z2,Z3,Z4,h3']
     refine aD [] (gm x.val) ?_
     refine an ?_
     refine sB ?_
     all_goals(simp[kR,h2,h3,hg];done)
    ·have h3:¬x.args.length≤2:=by omega
     simp -implicitDefEqProofs only[go_sem,Z1,Z2,Z3,Z4,h3']
     refine an ?_
     refine sB ?_
     all_goals(simp[kR,h2,h3];done)
theorem IK{xs ys:List Mod.Rat}{i:Nat}(h:i<xs.length)(h':i<ys.length):gk (xs.drop i) (ys.drop i)=if xs[i]=ys[i] then gk (xs.drop (i+1)) (ys.drop (i+1)) else cY xs[i] ys[i]:=by
 rw[ae h,ae h',gk]
theorem zh(a b:Mod.Row):C E.P 213 [av (om a),av (om b)] [] (bz (bv (dv a b)) []):=by
 refine gT (nt:=59) (rs:=[.tmp 4]) hm Tryz.func213 fun hl he cq=>?_
 rcases aa (a.name=b.name) with h1|h1
 ·have k1:=eq_true h1
  simp -implicitDefEqProofs only[go_sem,Z1,Z2,Z3,Z4,k1]
  rcases aa (a.args.length=b.args.length) with h2|h2
  ·have k2:=eq_true h2
   simp -implicitDefEqProofs only[go_sem,Z1,Z2,Z3,Z4,k2]
   refine aL hm (fun(i:Nat)=> i≤a.args.length∧gk a.args b.args=gk (a.args.drop i) (b.args.drop i)) (fun(i:Nat)=> ⟨dx 59 .any [(2,.ptr 0 0),(3,.ptr 1 0),(5,iv i)],[some (.box (cE (om a))),some (.box (cE (om b)))]⟩) (fun(i:Nat)=> a.args.length-i) (0) ?_ (ar [some 0,some 1] ?_ ?_ rfl rfl) ?_
   rotate_left
   ·exact sD
   ·exact sD
   rotate_left
   ·simp
   ·rintro i ⟨hi,hg⟩
    rcases aa (i<a.args.length) with h3|h3
    ·have h4:i<b.args.length:=by omega
     rw[IK h3 h4] at hg
     simp -implicitDefEqProofs only[go_sem,Z1,Z2,Z3,Z4,h3,h4]
     refine Kv (by kernel_rfl) (a:=a.args[i].N) (b:=a.args[i].D) (c:=b.args[i].N) (e:=b.args[i].D) (by simp -implicitDefEqProofs only[go_sem,Z1,Z2,Z3,Z4]) (by simp -implicitDefEqProofs only[go_sem,Z1,Z2,Z3,Z4]) ?_
     rw[pg]
     rcases aa (a.args[i]=b.args[i]) with h5|h5
     ·have k5:=eq_true h5
      rw[if_pos h5] at hg
      simp -implicitDefEqProofs only[go_sem,Z1,Z2,Z3,Z4,k5]
      refine iK ?_
      refine sQ ?_
      refine⟨i+1,?_,sL,ar [some 0,some 1] ?_ ?_ rfl rfl⟩
      rotate_left
      ·exact sD
      ·exact sD
      exact⟨by omega,hg⟩
     ·rw[if_neg h5] at hg
      simp -implicitDefEqProofs only[go_sem,Z1,Z2,Z3,Z4,h5,h3,h4]
      refine iK ?_
      refine aD [] (mP a.args[i] b.args[i]) ?_
      refine iK ?_
      refine an ?_
      refine sB ?_
      all_goals(simp[dv,h1,h2,hg];done)
    ·rw[ai (by omega),ai (by omega)] at hg
     simp only[gk] at hg
     refine yC ?_
     refine an ?_
     refine sB ?_
     all_goals(simp[dv,h1,h2,hg];done)
  ·refine yB ?_
   refine an ?_
   refine sB ?_
   all_goals(simp[dv,h1,h2];done)
 ·refine yA ?_
  refine an ?_
  refine sB ?_
  all_goals(simp[dv,h1,gy];done)
def wg(l:List Mod.Row):Nat→Option Mod.Row
 | 0=>none
 | j+1=>l[j]?
theorem KI(m:Mod.Model):fL m=(decide (m.rows.length≤40)&&kg none m.rows):=by
 unfold fL
 rw[Cq _ none (by simp)]
theorem Ho(m:Mod.Model):C E.P 218 [av (ez m)] [] (bz (bv (fL m)) []):=by
 have hmo:=KI m
 refine gT (nt:=41) (rs:=[.tmp 2]) hm Tryz.func218 fun hl he cq=>?_
 refine aL hm (fun(i:Nat)=> i≤m.rows.length∧kg none m.rows=kg (wg m.rows i) (m.rows.drop i)) (fun(i:Nat)=> ⟨dx 41 .any [(1,.ptr 0 0),(3,iv i)],[some (.box (cE (ez m)))]⟩) (fun(i:Nat)=> m.rows.length-i) (0) ?_ (ar [some 0] ?_ ?_ rfl rfl) ?_
 rotate_left
 ·exact sD
 ·exact sD
 rotate_left
 ·simp[wg]
 ·rintro i ⟨hi,hg⟩
  rcases aa (i<m.rows.length) with h1|h1
  ·rw[ae h1] at hg
   simp only[kg] at hg
   refine yA ?_
   refine aD [] (KF m.rows[i]) ?_
   cases h2:kR m.rows[i]
   ·have e:fL m=false:=by rw[hmo,hg,h2];simp
    refine sB ?_
    refine iK ?_
    refine an ?_
    refine sB ?_
    all_goals(simp[e];done)
   ·rw[h2,aB] at hg
    cases i with
    | zero=>
      simp only[wg,aB] at hg
      simp -implicitDefEqProofs only[go_sem,Z1,Z2,Z3,Z4,Int.lt_irrefl]
      refine iK ?_
      refine sQ ?_
      refine⟨0+1,?_,sL,ar [some 0] ?_ ?_ rfl rfl⟩
      rotate_left
      ·refine sB ?_
       all_goals(simp[aI, *];done)
      ·exact sD
      refine⟨by omega,?_⟩
      rw[hg]
      simp[wg,h1]
    | succ j=>
      have hj:j<m.rows.length:=by omega
      have e1:((j:Int)+1-1)=(j:Int):=by omega
      have e2:(0:Int)<(j:Int)+1:=by omega
      have et:((j:Int)+1).toNat=j+1:=by omega
      have e3:wg m.rows (j+1)=some m.rows[j]:=by simp[wg,hj]
      rw[e3] at hg
      simp only at hg
      simp -implicitDefEqProofs only[go_sem,Z1,Z2,Z3,Z4,e1,e2,et,hj,h1]
      refine sQ ?_
      refine aD [] (zh m.rows[j] m.rows[j+1]) ?_
      refine iK ?_
      cases q4:dv m.rows[j] m.rows[j+1]
      ·rw[q4,aK] at hg
       have e:fL m=false:=by rw[hmo,hg];simp
       refine sB ?_
       refine an ?_
       refine sB ?_
       all_goals(simp[e];done)
      ·rw[q4,aB] at hg
       refine sB ?_
       refine sQ ?_
       refine⟨j+1+1,?_,sL,ar [some 0] ?_ ?_ rfl rfl⟩
       rotate_left
       ·exact sD
       ·exact sD
       refine⟨by omega,?_⟩
       rw[hg]
       simp[wg,h1]
  ·rw[ai (by omega)] at hg
   simp only[kg] at hg
   have e:fL m=decide ((m.rows.length:Int)≤40):=by rw[hmo,hg,Bool.and_true];exact decide_eq_decide.2 (by omega)
   refine yA ?_
   refine an ?_
   refine sB ?_
   all_goals(simp[e];done)
theorem IC{xs:List Mod.Rat}{ns:List Int}{i:Nat}(h:i<xs.length)(h':i<ns.length):jj (xs.drop i) (ns.drop i)=(ra xs[i] ns[i]&&jj (xs.drop (i+1)) (ns.drop (i+1))):=by
 rw[ae h,ae h',jj]
theorem O5{xs:List Mod.Rat}(h:dI xs=true){i:Nat}(hi:i<xs.length):bX xs[i]=true:=List.all_eq_true.1 h _ (ak hi)
theorem Se{r:Mod.Row}(h:kR r=true):bX r.val=true:=by
 simp only[kR,al] at h
 exact h.2.2.1
theorem TF{r:Mod.Row}(h:kR r=true):r.args.length≤2:=by
 simp only[kR,al,decide_eq_true_eq] at h
 exact h.2.1
theorem IE{s:dK}{r:Mod.Row}(h:symbol s r.name=none):jD s r=false:=by simp[jD,h]
theorem H9{s:dK}{r:Mod.Row}{x:Sym}(h:symbol s r.name=some x):jD s r=(decide (x.args.length=r.args.length)&&(ra r.val x.sort&&jj r.args x.args)):=by simp[jD,h]
theorem wM(s:dK)(m:Mod.Model):C E.P 146 [av (dV s),av (ez m)] [] (bz (bv (fh s m)) []):=by
 refine gT (nt:=85) (rs:=[.tmp 4]) hm Tryz.func146 fun hl he cq=>?_
 refine aD [] (ve s) ?_
 cases h1:fI s
 ·refine sB ?_
  refine an ?_
  refine sB ?_
  all_goals(simp[fh,h1];done)
 ·refine sB ?_
  refine aD [] (Ho m) ?_
  cases h2:fL m
  ·refine sB ?_
   refine an ?_
   refine sB ?_
   all_goals(simp[fh,h1,h2];done)
  ·have hwf:=(nb h2).2.1
   have hmo:fh s m=m.rows.all (jD s):=by simp[fh,h1,h2]
   refine sB ?_
   refine aL hm (fun(i:Nat)=> i≤m.rows.length∧m.rows.all (jD s)=(m.rows.drop i).all (jD s)) (fun(i:Nat)=> ⟨dx 85 .any [(2,.ptr 0 0),(3,.ptr 1 0),(5,iv i)],[some (.box (cE (dV s))),some (.box (cE (ez m)))]⟩) (fun(i:Nat)=> m.rows.length-i) (0) ?_ (ar [some 0,some 1] ?_ ?_ rfl rfl) ?_
   rotate_left
   ·exact sD
   ·exact sD
   rotate_left
   ·simp
   ·rintro i ⟨hi,hg⟩
    rcases aa (i<m.rows.length) with h3|h3
    ·have hw:=hwf m.rows[i] (ak h3)
     have hra:=lF hw
     have hrv:=Se hw
     have hrl:=TF hw
     rw[ae h3,b9] at hg
     refine yC ?_
     refine bw [] (y0 s m.rows[i].name) ?_ ?_<;>simp -implicitDefEqProofs only[go_sem,Z1,Z2,Z3,Z4,h3]
     refine iK ?_
     cases hx:symbol s m.rows[i].name with
     | none=>
       rw[IE hx,aK] at hg
       have e:fh s m=false:=by rw[hmo,hg]
       simp -implicitDefEqProofs only[go_sem,Z1,Z2,Z3,Z4,Option.isSome_none,Option.getD_none,h3]
       refine iK ?_
       refine an ?_
       refine sB ?_
       all_goals(simp[e];done)
     | some x=>
       rw[H9 hx] at hg
       rcases aa (x.args.length=m.rows[i].args.length) with h4|h4
       ·have k4:=eq_true h4
        simp only[h4,decide_true,aB] at hg
        simp -implicitDefEqProofs only[go_sem,Z1,Z2,Z3,Z4,aW,aX,k4,h3]
        refine aD [] (BQ m.rows[i].val x.sort) ?_
        refine iK ?_
        simp only[hrv,aB]
        cases h5:ra m.rows[i].val x.sort
        ·rw[h5,aK,aK] at hg
         have e:fh s m=false:=by rw[hmo,hg]
         refine sB ?_
         refine an ?_
         refine sB ?_
         all_goals(simp[e];done)
        ·rw[h5,aB] at hg
         refine sB ?_
         refine aL hm (fun(k:Nat)=> k≤x.args.length∧jj m.rows[i].args x.args=jj (m.rows[i].args.drop k) (x.args.drop k)) (fun(k:Nat)=> ⟨dx 85 .any [(2,.ptr 0 0),(3,.ptr 1 0),(5,iv i),(6,.ptr 2 0),(8,iv k)],[some (.box (cE (dV s))),some (.box (cE (ez m))),some (.box (cE (wK x)))]⟩) (fun(k:Nat)=> x.args.length-k) (0) ?_ (ar [some 0,some 1,some 2] ?_ ?_ rfl rfl) ?_
         rotate_left
         ·exact sD
         ·exact sD
         rotate_left
         ·simp
         ·rintro k ⟨hk,hj⟩
          rcases aa (k<x.args.length) with h6|h6
          ·have h7:k<m.rows[i].args.length:=by omega
           rw[IC h7 h6] at hj
           have hr:=O5 hra h7
           simp -implicitDefEqProofs only[go_sem,Z1,Z2,Z3,Z4,h6,h3,h7]
           refine aD [] (BQ m.rows[i].args[k] x.args[k]) ?_
           refine iK ?_
           simp only[hr,aB]
           cases h8:ra m.rows[i].args[k] x.args[k]
           ·rw[h8,aK] at hj
            rw[hj,aK] at hg
            have e:fh s m=false:=by rw[hmo,hg]
            refine sB ?_
            refine an ?_
            refine sB ?_
            all_goals(simp[e];done)
           ·rw[h8,aB] at hj
            refine sB ?_
            refine sQ ?_
            refine⟨k+1,?_,sL,ar [some 0,some 1,some 2] ?_ ?_ rfl rfl⟩
            rotate_left
            ·exact sD
            ·exact sD
            exact⟨by omega,hj⟩
          ·rw[ai (by omega),ai (by omega)] at hj
           simp only[jj] at hj
           rw[hj,aB] at hg
           simp -implicitDefEqProofs only[go_sem,Z1,Z2,Z3,Z4,h6]
           refine sQ ?_
           refine⟨i+1,?_,sL,ar [some 0,some 1] ?_ ?_ rfl rfl⟩
           rotate_left
           ·exact sD
           ·exact sD
           exact⟨by omega,hg⟩
       ·simp only[h4,decide_false,aK] at hg
        have e:fh s m=false:=by rw[hmo,hg]
        simp -implicitDefEqProofs only[go_sem,Z1,Z2,Z3,Z4,aW,aX,h4,h3]
        refine iK ?_
        refine an ?_
        refine sB ?_
        all_goals(simp[e];done)
    ·rw[ai (by omega),dM] at hg
     refine yC ?_
     refine an ?_
     refine sB ?_
     all_goals(simp[hmo,hg];done)
theorem Nv{rows:List Mod.Row}{i:Nat}(h:i<rows.length)(n:nz)(xs:List Mod.Rat):lookup (rows.drop i) n xs=if rows[i].name=n∧rows[i].args=xs then rows[i].val else lookup (rows.drop (i+1)) n xs:=by
 rw[ae h]
 unfold lookup
 rw[List.find?_cons]
 rcases aa (rows[i].name=n∧rows[i].args=xs) with hc|hc
 ·simp[hc]
 ·simp[hc]
theorem Il(m:Mod.Model)(n:nz)(xs:List Mod.Rat):C E.P 257 [av (ez m),sv n,lv (bp xs)] [] (bz (av (eU (lookup m.rows n xs))) []):=by
 refine gT (nt:=40) (rs:=[.cell 6 71]) hm Tryz.func257 fun hl he cq=>?_
 refine aL hm (fun(i:Nat)=> i≤m.rows.length∧lookup m.rows n xs=lookup (m.rows.drop i) n xs) (fun(i:Nat)=> ⟨dx 40 .any [(1,sv n),(2,lv (bp xs)),(3,.ptr 0 0),(6,.ptr 1 0),(7,iv i)],[some (.box (cE (ez m))),some (.box (cE (eU jE)))]⟩) (fun(i:Nat)=> m.rows.length-i) (0) ?_ (ar [some 0,some 1] ?_ ?_ rfl rfl) ?_
 rotate_left
 ·exact sD
 ·exact sD
 rotate_left
 ·simp
 ·rintro i ⟨hi,hg⟩
  rcases aa (i<m.rows.length) with h1|h1
  ·rw[Nv h1] at hg
   rcases aa (m.rows[i].name=n) with h2|h2
   ·have k2:=eq_true h2
    simp -implicitDefEqProofs only[go_sem,Z1,Z2,Z3,Z4,h1,k2]
    refine aD [] (zr m.rows[i].args xs) ?_
    rcases aa (m.rows[i].args=xs) with h3|h3
    ·have k3:=eq_true h3
     rw[if_pos ⟨h2,h3⟩] at hg
     simp -implicitDefEqProofs only[go_sem,Z1,Z2,Z3,Z4,k3,h1]
     refine an ?_
     refine sB ?_
     all_goals(simp[hg];done)
    ·rw[if_neg (fun hh=>h3 hh.2)] at hg
     refine yC ?_
     refine sQ ?_
     refine⟨i+1,?_,sL,ar [some 0,some 1] ?_ ?_ rfl rfl⟩
     rotate_left
     ·exact sD
     ·exact sD
     exact⟨by omega,hg⟩
   ·rw[if_neg (fun hh=>h2 hh.1)] at hg
    refine yJ ?_
    refine sQ ?_
    refine⟨i+1,?_,sL,ar [some 0,some 1] ?_ ?_ rfl rfl⟩
    rotate_left
    ·exact sD
    ·exact sD
    exact⟨by omega,hg⟩
  ·rw[ai (by omega)] at hg
   have e:lookup m.rows n xs=⟨0,1⟩:=by rw[hg];rfl
   refine yA ?_
   refine an ?_
   refine sB ?_
   all_goals(simp[e];done)
theorem Hl(m:Mod.Model)(t:Term)(ih:∀k∈t.kids,C E.P 215 [av (ez m),av (cT k)] [] (bz (av (eU (value m k))) [])):C E.P 215 [av (ez m),av (cT t)] [] (bz (av (eU (value m t))) []):=by
 refine gT (nt:=30) (rs:=[.cell 4 71]) hm Tryz.func215 fun hl he cq=>?_
 refine aL hm (fun(i:Nat)=> i≤t.kids.length) (fun(i:Nat)=> ⟨dx 30 .any [(2,.ptr 0 0),(3,.ptr 1 0),(4,.ptr 2 0),(5,.acc 3),(6,iv i)],[some (.box (cE (ez m))),some (.box (cE (cT t))),some (.box (cE (eU jE))),some (.acc 71 (bp (values m (t.kids.take i))))]⟩) (fun(i:Nat)=> t.kids.length-i) (0) ?_ (ar [some 0,some 1,some 2,some 3] ?_ ?_ rfl rfl) ?_
 rotate_left
 ·exact sD
 ·refine sB ?_
  all_goals(simp[jE,values,bp])
 rotate_left
 ·omega
 ·rintro i hi
  have hv:=Hg m (t.kids.take i)
  have nh:(t.kids.take i).length=i:=by rw[List.length_take];omega
  rcases aa (i<t.kids.length) with h1|h1
  ·refine yA ?_
   have hc:=ih t.kids[i] (ak h1)
   refine aD [] hc ?_
   refine sQ ?_
   refine⟨i+1,?_,sL,ar [some 0,some 1,some 2,some 4] ?_ ?_ rfl rfl⟩
   rotate_left
   ·exact sD
   ·refine sB ?_
    all_goals(exact AY h1)
   exact h1
  ·have et:t.kids.take i=t.kids:=List.take_of_length_le (by omega)
   simp -implicitDefEqProofs only[go_sem,Z1,Z2,Z3,Z4,h1,et]
   refine dH [] [3] (Il m t.name (values m t.kids)) rfl ?_ ?_ ?_
   ·exact sV
   all_goals simp -implicitDefEqProofs only[go_sem,Z1,Z2,Z3,Z4]
   refine an ?_
   refine sB ?_
   all_goals(simp[GN];done)
theorem tU(m:Mod.Model):∀t,C E.P 215 [av (ez m),av (cT t)] [] (bz (av (eU (value m t))) []):=
 Term.ind fun n ks ih=>Hl m (.mk n ks) ih
def wS(m:Mod.Model):List Term→List Int→Mod.Rat→Mod.Rat×Bool
 | t::ts,n::ns,sum=>if(cC (whole n) (value m t)).2 then(if(db sum (cC (whole n) (value m t)).1).2 then wS m ts ns (db sum (cC (whole n) (value m t)).1).1 else((db sum (cC (whole n) (value m t)).1).1,false)) else(sum,false)
 | _,_,sum=>(sum,true)
theorem Rx(m:Mod.Model):∀(ts:List Term)(ns:List Int)(sum:Mod.Rat),qC m ts ns sum=if(wS m ts ns sum).2 then some (wS m ts ns sum).1 else none
 | [],_,sum=>by simp[qC,wS]
 | _::_,[],sum=>by simp[qC,wS]
 | t::ts,n::ns,sum=>by
   simp only[qC,wS,plus]
   rcases aa ((cC (whole n) (value m t)).2=true) with h1|h1
   ·simp only[h1,if_true]
    rcases aa ((db sum (cC (whole n) (value m t)).1).2=true) with h2|h2
    ·simp only[h2,if_true]
     exact Rx m ts ns _
    ·simp only[h2,ax,if_false]
   ·simp only[h1,ax,if_false]
theorem Sb{m:Mod.Model}{ts:List Term}{ns:List Int}{i:Nat}(h:i<ts.length)(h':i<ns.length)(sum:Mod.Rat) :
 wS m (ts.drop i) (ns.drop i) sum=if(cC (whole ns[i]) (value m ts[i])).2 then(if(db sum (cC (whole ns[i]) (value m ts[i])).1).2 then wS m (ts.drop (i+1)) (ns.drop (i+1)) (db sum (cC (whole ns[i]) (value m ts[i])).1).1 else((db sum (cC (whole ns[i]) (value m ts[i])).1).1,false)) else(sum,false):=by
 rw[ae h,ae h',wS]
theorem Um{m:Mod.Model}{ts:List Term}{ns:List Int}{i:Nat}(h:ts.length≤i)(sum:Mod.Rat):wS m (ts.drop i) (ns.drop i) sum=(sum,true):=by
 rw[ai h,wS]
 simp
theorem K0(m:Mod.Model)(a:Atom)(hl1:a.times.length=a.nums.length):C E.P 216 [av (ez m),av (fT a)] [] (bz (.gV [av (eU (wS m a.nums a.times (whole 0)).1),bv (wS m a.nums a.times (whole 0)).2]) []):=by
 refine gT (nt:=48) (rs:=[.cell 4 71,.tmp 5]) hm Tryz.func216 fun hl he cq=>?_
 refine cM hm (fun(i:Nat) (sum:Mod.Rat)=> i≤a.nums.length∧wS m a.nums a.times (whole 0)=wS m (a.nums.drop i) (a.times.drop i) sum) (fun(i:Nat) (sum:Mod.Rat)=> ⟨dx 48 .any [(2,.ptr 0 0),(3,.ptr 1 0),(4,.ptr 2 0),(6,.ptr 3 0),(7,iv i)],[some (.box (cE (ez m))),some (.box (cE (fT a))),some (.box (cE (eU jE))),some (.box (cE (eU sum)))]⟩) (fun(i:Nat) (sum:Mod.Rat)=> a.nums.length-i) (0) (whole 0) ?_ (ar [some 0,some 1,some 2,some 3] ?_ ?_ rfl rfl) ?_
 rotate_left
 ·exact sD
 ·refine sB ?_
  all_goals(simp[jE,whole])
 rotate_left
 ·simp
 ·rintro i sum ⟨hi,hg⟩
  rcases aa (i<a.nums.length) with h1|h1
  ·have h2:i<a.times.length:=by omega
   rw[Sb h1 h2] at hg
   refine yJ ?_
   refine aD [] (tU m a.nums[i]) ?_
   have hc:=nG (whole a.times[i]) (value m a.nums[i])
   simp only[whole] at hc
   refine aD [] hc ?_
   refine iK ?_
   have ew:(⟨a.times[i],1⟩:Mod.Rat)=whole a.times[i]:=rfl
   rw[ew]
   cases h3:(cC (whole a.times[i]) (value m a.nums[i])).2
   ·rw[h3] at hg
    simp only[ax,if_false] at hg
    refine sB ?_
    refine an ?_
    refine sB ?_
    all_goals(simp[hg];done)
   ·rw[h3] at hg
    simp only[if_true] at hg
    refine sB ?_
    refine aD [] (lX sum (cC (whole a.times[i]) (value m a.nums[i])).1) ?_
    cases h4:(db sum (cC (whole a.times[i]) (value m a.nums[i])).1).2
    ·rw[h4] at hg
     simp only[ax,if_false] at hg
     refine sB ?_
     refine an ?_
     refine sB ?_
     all_goals(simp[hg];done)
    ·rw[h4] at hg
     simp only[if_true] at hg
     refine sB ?_
     refine sQ ?_
     refine⟨i+1,(db sum (cC (whole a.times[i]) (value m a.nums[i])).1).1,?_,sL,ar [some 0,some 1,some 2,some 3] ?_ ?_ rfl rfl⟩
     rotate_left
     ·exact sD
     ·exact sD
     exact⟨by omega,hg⟩
  ·rw[Um (by omega)] at hg
   refine yA ?_
   refine an ?_
   refine sB ?_
   all_goals(simp[hg];done)
theorem DK{s:dK}{m:Mod.Model}{l:bm}(h:fh s m=false∨fq s l.atom=false):gO s m l=none:=by
 unfold gO
 rcases h with h|h<;>simp[h]
theorem LC{s:dK}{m:Mod.Model}{l:bm}(h:fh s m=true)(h2:fq s l.atom=true):gO s m l=(ov m l.atom).map fun b=>b != l.no:=by
 unfold gO
 simp[h,h2]
theorem SP{s:dK}{a:Atom}(h:fq s a=true):cQ a=true:=by
 simp only[fq,al] at h
 exact h.2.1
theorem EF(s:dK)(m:Mod.Model)(l:bm):C E.P 145 [av (dV s),av (ez m),av (nW l)] [] (bz (.gV [bv ((gO s m l).getD false),bv (gO s m l).isSome]) []):=by
 refine gT (nt:=70) (rs:=[.tmp 6,.tmp 7]) hm Tryz.func145 fun hl he cq=>?_
 refine aD [] (wM s m) ?_
 cases h1:fh s m
 ·have e:=DK (l:=l) (.inl h1)
  refine sB ?_
  refine an ?_
  refine sB ?_
  all_goals(simp[e];done)
 ·refine sB ?_
  refine aD [] (zg s l.atom) ?_
  cases h2:fq s l.atom
  ·have e:=DK (m:=m) (.inr h2)
   refine sB ?_
   refine an ?_
   refine sB ?_
   all_goals(simp[e];done)
  ·have e:=LC h1 h2
   have hwf:=SP h2
   rcases aa (l.atom.kind=1) with h3|h3
   ·have k3:=eq_true h3
    have e2:ov m l.atom=some (decide (value m l.atom.A=value m l.atom.B)):=by unfold ov;rw[if_pos h3]
    rw[e2] at e
    simp -implicitDefEqProofs only[go_sem,Z1,Z2,Z3,Z4,k3]
    refine aD [] (tU m l.atom.A) ?_
    refine aD [] (tU m l.atom.B) ?_
    refine FF (by kernel_rfl) (a:=(value m l.atom.A).N) (b:=(value m l.atom.A).D) (c:=(value m l.atom.B).N) (e:=(value m l.atom.B).D) (by simp -implicitDefEqProofs only[go_sem,Z1,Z2,Z3,Z4]) (by simp -implicitDefEqProofs only[go_sem,Z1,Z2,Z3,Z4]) ?_
    rw[pg]
    refine sB ?_
    refine iK ?_
    refine an ?_
    refine sB ?_
    rw[e]
    exact⟨rfl,rfl⟩
   ·have k:l.atom.kind=2:=(mH hwf).resolve_left h3
    obtain⟨_,_,_,dy,hb,_⟩:=mM hwf k
    have e2:ov m l.atom=(qC m l.atom.nums l.atom.times (whole 0)).map fun x=>below x l.atom.bound l.atom.strict:=by unfold ov;rw[if_neg h3]
    have e3:=Rx m l.atom.nums l.atom.times (whole 0)
    refine yC ?_
    refine aD [] (K0 m l.atom dy) ?_
    cases h4:(wS m l.atom.nums l.atom.times (whole 0)).2
    ·rw[h4] at e3
     simp only[ax,if_false] at e3
     rw[e2,e3] at e
     refine sB ?_
     refine an ?_
     refine sB ?_
     all_goals(simp[e];done)
    ·rw[h4] at e3
     simp only[if_true] at e3
     have hs:=Ox (rX (by omega) (by omega)) e3
     have e4:=N0 hs (n:=l.atom.bound) (by omega) (by omega) l.atom.strict
     rw[e2,e3] at e
     simp only[Option.map_some,e4] at e
     generalize (wS m l.atom.nums l.atom.times (whole 0)).1=sum at *
     have hc:=mP sum (whole l.atom.bound)
     simp only[whole] at hc
     refine sB ?_
     refine aD [] hc ?_
     have ew:(⟨l.atom.bound,1⟩:Mod.Rat)=whole l.atom.bound:=rfl
     rw[ew]
     cases h5:cY sum (whole l.atom.bound)
     ·cases h6:l.atom.strict
      ·simp -implicitDefEqProofs only[go_sem,Z1,Z2,Z3,Z4,h6]
       refine FF (by kernel_rfl) (a:=sum.N) (b:=sum.D) (c:=l.atom.bound) (e:=1) (by simp -implicitDefEqProofs only[go_sem,Z1,Z2,Z3,Z4]) (by simp -implicitDefEqProofs only[go_sem,Z1,Z2,Z3,Z4]) ?_
       have e5:jn sum.N sum.D l.atom.bound 1=decide (sum=whole l.atom.bound):=pg sum (whole l.atom.bound)
       rw[e5]
       refine sB ?_
       refine iK ?_
       refine an ?_
       refine sB ?_
       rw[e,h5,h6]
       exact⟨rfl,rfl⟩
      ·simp -implicitDefEqProofs only[go_sem,Z1,Z2,Z3,Z4,h6]
       refine iK ?_
       refine an ?_
       refine sB ?_
       all_goals(simp[e,h5,h6];done)
     ·refine sB ?_
      refine iK ?_
      refine an ?_
      refine sB ?_
      all_goals(simp[e,h5];done)
end Go.Proofs.YtabembjmeobhoaaGreat
