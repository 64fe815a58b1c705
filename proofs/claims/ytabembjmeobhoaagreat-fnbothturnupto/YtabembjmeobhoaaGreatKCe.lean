/-
  The reference: the walks of models. A step towards the exact laws.
-/
import Derived.Test.YtabembjmeobhoaaGreatKCP
import Derived.Test.YtabembjmeobhoaaGreatKCa
set_option linter.unusedVariables false
set_option linter.unusedSimpArgs false
open Bool renaming and_eq_true→ai,false_eq_true→aw,true_and→aE,false_and→aK
open Classical renaming em→aa
open List renaming drop_eq_getElem_cons→ah,getElem_mem→ak,drop_of_length_le→al,all_cons→b8,all_nil→dS
open Option renaming getD_some→aX,isSome_some→aY
namespace Go.Proofs.YtabembjmeobhoaaGreat
open Go.Eng Go.Mod
open Int renaming reduceEq→Z1,reduceLT→Z2,reduceLE→Z3,reduceToNat→Z4
set_option maxRecDepth 100000
set_option maxHeartbeats 800000
theorem y9(a b:List Mod.Rat):C E.P 214 [lv (br a),lv (br b)] [] (bD (bv (decide (a=b))) []):=by
 refine gT (nt:=26) (rs:=[.tmp 4]) hm Tryz.func214 fun hl he cq=>?_
 rcases aa (a.length=b.length) with h2|h2
 ·have k2:=eq_true h2
  simp -implicitDefEqProofs only[go_sem,Z1,Z2,Z3,Z4,k2]
  refine aM hm (fun(i:Nat)=> i≤a.length∧(a=b↔a.drop i=b.drop i)) (fun(i:Nat)=> ⟨dH 26 .any [(0,lv (br a)),(1,lv (br b)),(5,iv i)],[]⟩) (fun(i:Nat)=> a.length-i) (0) ?_ (ar [] ?_ ?_ rfl rfl) ?_
  rotate_left
  ·exact sD
  ·exact sD
  rotate_left
  ·simp
  ·rintro i ⟨hi,hg⟩
   rcases aa (i<a.length) with h3|h3
   ·have h4:i<b.length:=by omega
    rw[drop_eq h3 h4] at hg
    simp -implicitDefEqProofs only[go_sem,Z1,Z2,Z3,Z4,h3,h4]
    refine RJ (by kernel_rfl) (a:=a[i].N) (b:=a[i].D) (c:=b[i].N) (e:=b[i].D) (by simp -implicitDefEqProofs only[go_sem,Z1,Z2,Z3,Z4]) (by simp -implicitDefEqProofs only[go_sem,Z1,Z2,Z3,Z4]) ?_
    rw[pD]
    rcases aa (a[i]=b[i]) with h5|h5
    ·have k5:=eq_true h5
     simp -implicitDefEqProofs only[go_sem,Z1,Z2,Z3,Z4,k5]
     refine iK ?_
     refine sQ ?_
     refine⟨i+1,?_,sL,ar [] ?_ ?_ rfl rfl⟩
     rotate_left
     ·exact sD
     ·exact sD
     refine⟨by omega,?_⟩
     rw[hg]
     simp[h5]
    ·have e:¬a=b:=fun hh=>h5 (hg.1 hh).1
     refine yE ?_
     refine iK ?_
     refine an ?_
     refine sB ?_
     all_goals(simp[e];done)
   ·rw[al (by omega),al (by omega)] at hg
    refine yC ?_
    refine an ?_
    refine sB ?_
    all_goals(simp[hg];done)
 ·have e:¬a=b:=fun hh=>h2 (by rw[hh])
  refine yB ?_
  refine an ?_
  refine sB ?_
  all_goals(simp[e];done)
theorem AY(x:Mod.Rat)(sort:Int):C E.P 220 [av (eY x),iv sort] [] (bD (bv (bW x&&rf x sort)) []):=by
 refine gT (nt:=16) (rs:=[.tmp 4]) hm Tryz.func220 fun hl he cq=>?_
 refine aD [] (gp x) ?_
 cases h1:bW x
 ·refine sB ?_
  refine an ?_
  exact sD
 ·refine sB ?_
  rcases aa (sort=1) with h2|h2
  ·have k:=eq_true h2
   refine yG ?_
   refine an ?_
   refine sB ?_
   all_goals(simp[rf,h2];done)
  ·refine yB ?_
   refine an ?_
   refine sB ?_
   all_goals(simp[rf,h2];done)
theorem L3(x:Mod.Row):C E.P 259 [av (qo x)] [] (bD (bv (kU x)) []):=by
 refine gT (nt:=32) (rs:=[.tmp 2]) hm Tryz.func259 fun hl he cq=>?_
 refine aM hm (fun(i:Nat)=> i≤x.args.length∧x.args.all bW=(x.args.drop i).all bW) (fun(i:Nat)=> ⟨dH 32 .any [(1,.ptr 0 0),(3,iv i)],[some (.box (cF (qo x)))]⟩) (fun(i:Nat)=> x.args.length-i) (0) ?_ (ar [some 0] ?_ ?_ rfl rfl) ?_
 rotate_left
 ·exact sD
 ·exact sD
 rotate_left
 ·simp
 ·rintro i ⟨hi,hg⟩
  rcases aa (i<x.args.length) with h1|h1
  ·rw[ah h1,b8] at hg
   refine yA ?_
   refine aD [] (gp x.args[i]) ?_
   cases h2:bW x.args[i]
   ·rw[h2,aK] at hg
    refine sB ?_
    refine an ?_
    refine sB ?_
    all_goals(simp[kU,hg];done)
   ·rw[h2,aE] at hg
    refine sB ?_
    refine sQ ?_
    refine⟨i+1,?_,sL,ar [some 0] ?_ ?_ rfl rfl⟩
    rotate_left
    ·exact sD
    ·exact sD
    exact⟨by omega,hg⟩
  ·rw[al (by omega),dS] at hg
   refine yA ?_
   refine aD [] (tR x.name) ?_
   cases h2:fI x.name
   ·refine sB ?_
    refine an ?_
    refine sB ?_
    all_goals(simp[kU,h2];done)
   ·refine sB ?_
    rcases aa ((x.args.length:Int)≤2) with h3' | h3'
    ·have h3:x.args.length≤2:=by omega
     simp -implicitDefEqProofs only[go_sem,Z1,Z2,Z3,Z4,h3']
     refine aD [] (gp x.val) ?_
     refine an ?_
     refine sB ?_
     all_goals(simp[kU,h2,h3,hg];done)
    ·have h3:¬x.args.length≤2:=by omega
     simp -implicitDefEqProofs only[go_sem,Z1,Z2,Z3,Z4,h3']
     refine an ?_
     refine sB ?_
     all_goals(simp[kU,h2,h3];done)
theorem IJ{xs ys:List Mod.Rat}{i:Nat}(h:i<xs.length)(h':i<ys.length):gk (xs.drop i) (ys.drop i)=if xs[i]=ys[i] then gk (xs.drop (i+1)) (ys.drop (i+1)) else c8 xs[i] ys[i]:=by
 rw[ah h,ah h',gk]
theorem zQ(a b:Mod.Row):C E.P 213 [av (qo a),av (qo b)] [] (bD (bv (dA a b)) []):=by
 refine gT (nt:=59) (rs:=[.tmp 4]) hm Tryz.func213 fun hl he cq=>?_
 rcases aa (a.name=b.name) with h1|h1
 ·have k1:=eq_true h1
  simp -implicitDefEqProofs only[go_sem,Z1,Z2,Z3,Z4,k1]
  rcases aa (a.args.length=b.args.length) with h2|h2
  ·have k2:=eq_true h2
   simp -implicitDefEqProofs only[go_sem,Z1,Z2,Z3,Z4,k2]
   refine aM hm (fun(i:Nat)=> i≤a.args.length∧gk a.args b.args=gk (a.args.drop i) (b.args.drop i)) (fun(i:Nat)=> ⟨dH 59 .any [(2,.ptr 0 0),(3,.ptr 1 0),(5,iv i)],[some (.box (cF (qo a))),some (.box (cF (qo b)))]⟩) (fun(i:Nat)=> a.args.length-i) (0) ?_ (ar [some 0,some 1] ?_ ?_ rfl rfl) ?_
   rotate_left
   ·exact sD
   ·exact sD
   rotate_left
   ·simp
   ·rintro i ⟨hi,hg⟩
    rcases aa (i<a.args.length) with h3|h3
    ·have h4:i<b.args.length:=by omega
     rw[IJ h3 h4] at hg
     simp -implicitDefEqProofs only[go_sem,Z1,Z2,Z3,Z4,h3,h4]
     refine RJ (by kernel_rfl) (a:=a.args[i].N) (b:=a.args[i].D) (c:=b.args[i].N) (e:=b.args[i].D) (by simp -implicitDefEqProofs only[go_sem,Z1,Z2,Z3,Z4]) (by simp -implicitDefEqProofs only[go_sem,Z1,Z2,Z3,Z4]) ?_
     rw[pD]
     rcases aa (a.args[i]=b.args[i]) with h5|h5
     ·have k5:=eq_true h5
      rw[if_pos h5] at hg
      simp -implicitDefEqProofs only[go_sem,Z1,Z2,Z3,Z4,k5]
      refine iK ?_
      refine sQ ?_
      refine⟨i+1,?_,sL,ar [some 0,some 1] ?_ ?_ rfl rfl⟩
      rotate_left
      ·exact sD
      ·exact sD
      exact⟨by omega,hg⟩
     ·rw[if_neg h5] at hg
      simp -implicitDefEqProofs only[go_sem,Z1,Z2,Z3,Z4,h5,h3,h4]
      refine iK ?_
      refine aD [] (mN a.args[i] b.args[i]) ?_
      refine iK ?_
      refine an ?_
      refine sB ?_
      all_goals(simp[dA,h1,h2,hg];done)
    ·rw[al (by omega),al (by omega)] at hg
     simp only[gk] at hg
     refine yC ?_
     refine an ?_
     refine sB ?_
     all_goals(simp[dA,h1,h2,hg];done)
  ·refine yB ?_
   refine an ?_
   refine sB ?_
   all_goals(simp[dA,h1,h2];done)
 ·refine yA ?_
  refine an ?_
  refine sB ?_
  all_goals(simp[dA,h1,gC];done)
def vX(l:List Mod.Row):Nat→Option Mod.Row
 | 0=>none
 | j+1=>l[j]?
theorem LY(m:Mod.Model):fh m=(decide (m.rows.length≤40)&&km none m.rows):=by
 unfold fh
 rw[Dh _ none (by simp)]
theorem Ho(m:Mod.Model):C E.P 218 [av (eZ m)] [] (bD (bv (fh m)) []):=by
 have hmo:=LY m
 refine gT (nt:=41) (rs:=[.tmp 2]) hm Tryz.func218 fun hl he cq=>?_
 refine aM hm (fun(i:Nat)=> i≤m.rows.length∧km none m.rows=km (vX m.rows i) (m.rows.drop i)) (fun(i:Nat)=> ⟨dH 41 .any [(1,.ptr 0 0),(3,iv i)],[some (.box (cF (eZ m)))]⟩) (fun(i:Nat)=> m.rows.length-i) (0) ?_ (ar [some 0] ?_ ?_ rfl rfl) ?_
 rotate_left
 ·exact sD
 ·exact sD
 rotate_left
 ·simp[vX]
 ·rintro i ⟨hi,hg⟩
  rcases aa (i<m.rows.length) with h1|h1
  ·rw[ah h1] at hg
   simp only[km] at hg
   refine yA ?_
   refine aD [] (L3 m.rows[i]) ?_
   cases h2:kU m.rows[i]
   ·have e:fh m=false:=by rw[hmo,hg,h2];simp
    refine sB ?_
    refine iK ?_
    refine an ?_
    refine sB ?_
    all_goals(simp[e];done)
   ·rw[h2,aE] at hg
    cases i with
    | zero=>
      simp only[vX,aE] at hg
      simp -implicitDefEqProofs only[go_sem,Z1,Z2,Z3,Z4,Int.lt_irrefl]
      refine iK ?_
      refine sQ ?_
      refine⟨0+1,?_,sL,ar [some 0] ?_ ?_ rfl rfl⟩
      rotate_left
      ·refine sB ?_
       all_goals(simp[aI, *];done)
      ·exact sD
      refine⟨by omega,?_⟩
      rw[hg]
      simp[vX,h1]
    | succ j=>
      have hj:j<m.rows.length:=by omega
      have e1:((j:Int)+1-1)=(j:Int):=by omega
      have e2:(0:Int)<(j:Int)+1:=by omega
      have et:((j:Int)+1).toNat=j+1:=by omega
      have e3:vX m.rows (j+1)=some m.rows[j]:=by simp[vX,hj]
      rw[e3] at hg
      simp only at hg
      simp -implicitDefEqProofs only[go_sem,Z1,Z2,Z3,Z4,e1,e2,et,hj,h1]
      refine sQ ?_
      refine aD [] (zQ m.rows[j] m.rows[j+1]) ?_
      refine iK ?_
      cases q4:dA m.rows[j] m.rows[j+1]
      ·rw[q4,aK] at hg
       have e:fh m=false:=by rw[hmo,hg];simp
       refine sB ?_
       refine an ?_
       refine sB ?_
       all_goals(simp[e];done)
      ·rw[q4,aE] at hg
       refine sB ?_
       refine sQ ?_
       refine⟨j+1+1,?_,sL,ar [some 0] ?_ ?_ rfl rfl⟩
       rotate_left
       ·exact sD
       ·exact sD
       refine⟨by omega,?_⟩
       rw[hg]
       simp[vX,h1]
  ·rw[al (by omega)] at hg
   simp only[km] at hg
   have e:fh m=decide ((m.rows.length:Int)≤40):=by rw[hmo,hg,Bool.and_true];exact decide_eq_decide.2 (by omega)
   refine yA ?_
   refine an ?_
   refine sB ?_
   all_goals(simp[e];done)
theorem I2{xs:List Mod.Rat}{ns:List Int}{i:Nat}(h:i<xs.length)(h':i<ns.length):jq (xs.drop i) (ns.drop i)=(rf xs[i] ns[i]&&jq (xs.drop (i+1)) (ns.drop (i+1))):=by
 rw[ah h,ah h',jq]
theorem PT{xs:List Mod.Rat}(h:dN xs=true){i:Nat}(hi:i<xs.length):bW xs[i]=true:=List.all_eq_true.1 h _ (ak hi)
theorem Uh{r:Mod.Row}(h:kU r=true):bW r.val=true:=by
 simp only[kU,ai] at h
 exact h.2.2.1
theorem TN{r:Mod.Row}(h:kU r=true):r.args.length≤2:=by
 simp only[kU,ai,decide_eq_true_eq] at h
 exact h.2.1
theorem Ih{s:dI}{r:Mod.Row}(h:symbol s r.name=none):jQ s r=false:=by simp[jQ,h]
theorem Ig{s:dI}{r:Mod.Row}{x:Sym}(h:symbol s r.name=some x):jQ s r=(decide (x.args.length=r.args.length)&&(rf r.val x.sort&&jq r.args x.args)):=by simp[jQ,h]
theorem xt(s:dI)(m:Mod.Model):C E.P 146 [av (eu s),av (eZ m)] [] (bD (bv (fg s m)) []):=by
 refine gT (nt:=85) (rs:=[.tmp 4]) hm Tryz.func146 fun hl he cq=>?_
 refine aD [] (vu s) ?_
 cases h1:fO s
 ·refine sB ?_
  refine an ?_
  refine sB ?_
  all_goals(simp[fg,h1];done)
 ·refine sB ?_
  refine aD [] (Ho m) ?_
  cases h2:fh m
  ·refine sB ?_
   refine an ?_
   refine sB ?_
   all_goals(simp[fg,h1,h2];done)
  ·have hwf:=(nb h2).2.1
   have hmo:fg s m=m.rows.all (jQ s):=by simp[fg,h1,h2]
   refine sB ?_
   refine aM hm (fun(i:Nat)=> i≤m.rows.length∧m.rows.all (jQ s)=(m.rows.drop i).all (jQ s)) (fun(i:Nat)=> ⟨dH 85 .any [(2,.ptr 0 0),(3,.ptr 1 0),(5,iv i)],[some (.box (cF (eu s))),some (.box (cF (eZ m)))]⟩) (fun(i:Nat)=> m.rows.length-i) (0) ?_ (ar [some 0,some 1] ?_ ?_ rfl rfl) ?_
   rotate_left
   ·exact sD
   ·exact sD
   rotate_left
   ·simp
   ·rintro i ⟨hi,hg⟩
    rcases aa (i<m.rows.length) with h3|h3
    ·have hw:=hwf m.rows[i] (ak h3)
     have hra:=lD hw
     have hrv:=Uh hw
     have hrl:=TN hw
     rw[ah h3,b8] at hg
     refine yC ?_
     refine bp [] (zw s m.rows[i].name) ?_ ?_<;>simp -implicitDefEqProofs only[go_sem,Z1,Z2,Z3,Z4,h3]
     refine iK ?_
     cases hx:symbol s m.rows[i].name with
     | none=>
       rw[Ih hx,aK] at hg
       have e:fg s m=false:=by rw[hmo,hg]
       simp -implicitDefEqProofs only[go_sem,Z1,Z2,Z3,Z4,Option.isSome_none,Option.getD_none,h3]
       refine iK ?_
       refine an ?_
       refine sB ?_
       all_goals(simp[e];done)
     | some x=>
       rw[Ig hx] at hg
       rcases aa (x.args.length=m.rows[i].args.length) with h4|h4
       ·have k4:=eq_true h4
        simp only[h4,decide_true,aE] at hg
        simp -implicitDefEqProofs only[go_sem,Z1,Z2,Z3,Z4,aY,aX,k4,h3]
        refine aD [] (AY m.rows[i].val x.sort) ?_
        refine iK ?_
        simp only[hrv,aE]
        cases h5:rf m.rows[i].val x.sort
        ·rw[h5,aK,aK] at hg
         have e:fg s m=false:=by rw[hmo,hg]
         refine sB ?_
         refine an ?_
         refine sB ?_
         all_goals(simp[e];done)
        ·rw[h5,aE] at hg
         refine sB ?_
         refine aM hm (fun(k:Nat)=> k≤x.args.length∧jq m.rows[i].args x.args=jq (m.rows[i].args.drop k) (x.args.drop k)) (fun(k:Nat)=> ⟨dH 85 .any [(2,.ptr 0 0),(3,.ptr 1 0),(5,iv i),(6,.ptr 2 0),(8,iv k)],[some (.box (cF (eu s))),some (.box (cF (eZ m))),some (.box (cF (wH x)))]⟩) (fun(k:Nat)=> x.args.length-k) (0) ?_ (ar [some 0,some 1,some 2] ?_ ?_ rfl rfl) ?_
         rotate_left
         ·exact sD
         ·exact sD
         rotate_left
         ·simp
         ·rintro k ⟨hk,hj⟩
          rcases aa (k<x.args.length) with h6|h6
          ·have h7:k<m.rows[i].args.length:=by omega
           rw[I2 h7 h6] at hj
           have hr:=PT hra h7
           simp -implicitDefEqProofs only[go_sem,Z1,Z2,Z3,Z4,h6,h3,h7]
           refine aD [] (AY m.rows[i].args[k] x.args[k]) ?_
           refine iK ?_
           simp only[hr,aE]
           cases h8:rf m.rows[i].args[k] x.args[k]
           ·rw[h8,aK] at hj
            rw[hj,aK] at hg
            have e:fg s m=false:=by rw[hmo,hg]
            refine sB ?_
            refine an ?_
            refine sB ?_
            all_goals(simp[e];done)
           ·rw[h8,aE] at hj
            refine sB ?_
            refine sQ ?_
            refine⟨k+1,?_,sL,ar [some 0,some 1,some 2] ?_ ?_ rfl rfl⟩
            rotate_left
            ·exact sD
            ·exact sD
            exact⟨by omega,hj⟩
          ·rw[al (by omega),al (by omega)] at hj
           simp only[jq] at hj
           rw[hj,aE] at hg
           simp -implicitDefEqProofs only[go_sem,Z1,Z2,Z3,Z4,h6]
           refine sQ ?_
           refine⟨i+1,?_,sL,ar [some 0,some 1] ?_ ?_ rfl rfl⟩
           rotate_left
           ·exact sD
           ·exact sD
           exact⟨by omega,hg⟩
       ·simp only[h4,decide_false,aK] at hg
        have e:fg s m=false:=by rw[hmo,hg]
        simp -implicitDefEqProofs only[go_sem,Z1,Z2,Z3,Z4,aY,aX,h4,h3]
        refine iK ?_
        refine an ?_
        refine sB ?_
        all_goals(simp[e];done)
    ·rw[al (by omega),dS] at hg
     refine yC ?_
     refine an ?_
     refine sB ?_
     all_goals(simp[hmo,hg];done)
theorem O3{rows:List Mod.Row}{i:Nat}(h:i<rows.length)(n:nE)(xs:List Mod.Rat):lookup (rows.drop i) n xs=if rows[i].name=n∧rows[i].args=xs then rows[i].val else lookup (rows.drop (i+1)) n xs:=by
 rw[ah h]
 unfold lookup
 rw[List.find?_cons]
 rcases aa (rows[i].name=n∧rows[i].args=xs) with hc|hc
 ·simp[hc]
 ·simp[hc]
theorem Iq(m:Mod.Model)(n:nE)(xs:List Mod.Rat):C E.P 257 [av (eZ m),sv n,lv (br xs)] [] (bD (av (eY (lookup m.rows n xs))) []):=by
 refine gT (nt:=40) (rs:=[.cell 6 71]) hm Tryz.func257 fun hl he cq=>?_
 refine aM hm (fun(i:Nat)=> i≤m.rows.length∧lookup m.rows n xs=lookup (m.rows.drop i) n xs) (fun(i:Nat)=> ⟨dH 40 .any [(1,sv n),(2,lv (br xs)),(3,.ptr 0 0),(6,.ptr 1 0),(7,iv i)],[some (.box (cF (eZ m))),some (.box (cF (eY jO)))]⟩) (fun(i:Nat)=> m.rows.length-i) (0) ?_ (ar [some 0,some 1] ?_ ?_ rfl rfl) ?_
 rotate_left
 ·exact sD
 ·exact sD
 rotate_left
 ·simp
 ·rintro i ⟨hi,hg⟩
  rcases aa (i<m.rows.length) with h1|h1
  ·rw[O3 h1] at hg
   rcases aa (m.rows[i].name=n) with h2|h2
   ·have k2:=eq_true h2
    simp -implicitDefEqProofs only[go_sem,Z1,Z2,Z3,Z4,h1,k2]
    refine aD [] (y9 m.rows[i].args xs) ?_
    rcases aa (m.rows[i].args=xs) with h3|h3
    ·have k3:=eq_true h3
     rw[if_pos ⟨h2,h3⟩] at hg
     simp -implicitDefEqProofs only[go_sem,Z1,Z2,Z3,Z4,k3,h1]
     refine an ?_
     refine sB ?_
     all_goals(simp[hg];done)
    ·rw[if_neg (fun hh=>h3 hh.2)] at hg
     refine yC ?_
     refine sQ ?_
     refine⟨i+1,?_,sL,ar [some 0,some 1] ?_ ?_ rfl rfl⟩
     rotate_left
     ·exact sD
     ·exact sD
     exact⟨by omega,hg⟩
   ·rw[if_neg (fun hh=>h2 hh.1)] at hg
    refine yJ ?_
    refine sQ ?_
    refine⟨i+1,?_,sL,ar [some 0,some 1] ?_ ?_ rfl rfl⟩
    rotate_left
    ·exact sD
    ·exact sD
    exact⟨by omega,hg⟩
  ·rw[al (by omega)] at hg
   have e:lookup m.rows n xs=⟨0,1⟩:=by rw[hg];rfl
   refine yA ?_
   refine an ?_
   refine sB ?_
   all_goals(simp[e];done)
theorem H2(m:Mod.Model)(t:Term)(ih:∀k∈t.kids,C E.P 215 [av (eZ m),av (cT k)] [] (bD (av (eY (value m k))) [])):C E.P 215 [av (eZ m),av (cT t)] [] (bD (av (eY (value m t))) []):=by
 refine gT (nt:=30) (rs:=[.cell 4 71]) hm Tryz.func215 fun hl he cq=>?_
 refine aM hm (fun(i:Nat)=> i≤t.kids.length) (fun(i:Nat)=> ⟨dH 30 .any [(2,.ptr 0 0),(3,.ptr 1 0),(4,.ptr 2 0),(5,.acc 3),(6,iv i)],[some (.box (cF (eZ m))),some (.box (cF (cT t))),some (.box (cF (eY jO))),some (.acc 71 (br (values m (t.kids.take i))))]⟩) (fun(i:Nat)=> t.kids.length-i) (0) ?_ (ar [some 0,some 1,some 2,some 3] ?_ ?_ rfl rfl) ?_
 rotate_left
 ·exact sD
 ·refine sB ?_
  all_goals(simp[jO,values,br])
 rotate_left
 ·omega
 ·rintro i hi
  have hv:=GG m (t.kids.take i)
  have np:(t.kids.take i).length=i:=by rw[List.length_take];omega
  rcases aa (i<t.kids.length) with h1|h1
  ·refine yA ?_
   have hc:=ih t.kids[i] (ak h1)
   refine aD [] hc ?_
   refine sQ ?_
   refine⟨i+1,?_,sL,ar [some 0,some 1,some 2,some 4] ?_ ?_ rfl rfl⟩
   rotate_left
   ·exact sD
   ·refine sB ?_
    all_goals(exact Cl h1)
   exact h1
  ·have et:t.kids.take i=t.kids:=List.take_of_length_le (by omega)
   simp -implicitDefEqProofs only[go_sem,Z1,Z2,Z3,Z4,h1,et]
   refine dQ [] [3] (Iq m t.name (values m t.kids)) rfl ?_ ?_ ?_
   ·exact sV
   all_goals simp -implicitDefEqProofs only[go_sem,Z1,Z2,Z3,Z4]
   refine an ?_
   refine sB ?_
   all_goals(simp[HV];done)
theorem tK(m:Mod.Model):∀t,C E.P 215 [av (eZ m),av (cT t)] [] (bD (av (eY (value m t))) []):=
 Term.ind fun n ks ih=>H2 m (.mk n ks) ih
def xW(m:Mod.Model):List Term→List Int→Mod.Rat→Mod.Rat×Bool
 | t::ts,n::ns,sum=>if(cE (whole n) (value m t)).2 then(if(df sum (cE (whole n) (value m t)).1).2 then xW m ts ns (df sum (cE (whole n) (value m t)).1).1 else((df sum (cE (whole n) (value m t)).1).1,false)) else(sum,false)
 | _,_,sum=>(sum,true)
theorem SC(m:Mod.Model):∀(ts:List Term)(ns:List Int)(sum:Mod.Rat),mr m ts ns sum=if(xW m ts ns sum).2 then some (xW m ts ns sum).1 else none
 | [],_,sum=>by simp[mr,xW]
 | _::_,[],sum=>by simp[mr,xW]
 | t::ts,n::ns,sum=>by
   simp only[mr,xW,plus]
   rcases aa ((cE (whole n) (value m t)).2=true) with h1|h1
   ·simp only[h1,if_true]
    rcases aa ((df sum (cE (whole n) (value m t)).1).2=true) with h2|h2
    ·simp only[h2,if_true]
     exact SC m ts ns _
    ·simp only[h2,aw,if_false]
   ·simp only[h1,aw,if_false]
theorem S2{m:Mod.Model}{ts:List Term}{ns:List Int}{i:Nat}(h:i<ts.length)(h':i<ns.length)(sum:Mod.Rat) :
 xW m (ts.drop i) (ns.drop i) sum=if(cE (whole ns[i]) (value m ts[i])).2 then(if(df sum (cE (whole ns[i]) (value m ts[i])).1).2 then xW m (ts.drop (i+1)) (ns.drop (i+1)) (df sum (cE (whole ns[i]) (value m ts[i])).1).1 else((df sum (cE (whole ns[i]) (value m ts[i])).1).1,false)) else(sum,false):=by
 rw[ah h,ah h',xW]
theorem Vi{m:Mod.Model}{ts:List Term}{ns:List Int}{i:Nat}(h:ts.length≤i)(sum:Mod.Rat):xW m (ts.drop i) (ns.drop i) sum=(sum,true):=by
 rw[al h,xW]
 simp
theorem MC(m:Mod.Model)(a:Atom)(hl1:a.times.length=a.nums.length):C E.P 216 [av (eZ m),av (fW a)] [] (bD (.gV [av (eY (xW m a.nums a.times (whole 0)).1),bv (xW m a.nums a.times (whole 0)).2]) []):=by
 refine gT (nt:=48) (rs:=[.cell 4 71,.tmp 5]) hm Tryz.func216 fun hl he cq=>?_
 refine cQ hm (fun(i:Nat) (sum:Mod.Rat)=> i≤a.nums.length∧xW m a.nums a.times (whole 0)=xW m (a.nums.drop i) (a.times.drop i) sum) (fun(i:Nat) (sum:Mod.Rat)=> ⟨dH 48 .any [(2,.ptr 0 0),(3,.ptr 1 0),(4,.ptr 2 0),(6,.ptr 3 0),(7,iv i)],[some (.box (cF (eZ m))),some (.box (cF (fW a))),some (.box (cF (eY jO))),some (.box (cF (eY sum)))]⟩) (fun(i:Nat) (sum:Mod.Rat)=> a.nums.length-i) (0) (whole 0) ?_ (ar [some 0,some 1,some 2,some 3] ?_ ?_ rfl rfl) ?_
 rotate_left
 ·exact sD
 ·refine sB ?_
  all_goals(simp[jO,whole])
 rotate_left
 ·simp
 ·rintro i sum ⟨hi,hg⟩
  rcases aa (i<a.nums.length) with h1|h1
  ·have h2:i<a.times.length:=by omega
   rw[S2 h1 h2] at hg
   refine yJ ?_
   refine aD [] (tK m a.nums[i]) ?_
   have hc:=nJ (whole a.times[i]) (value m a.nums[i])
   simp only[whole] at hc
   refine aD [] hc ?_
   refine iK ?_
   have ew:(⟨a.times[i],1⟩:Mod.Rat)=whole a.times[i]:=rfl
   rw[ew]
   cases h3:(cE (whole a.times[i]) (value m a.nums[i])).2
   ·rw[h3] at hg
    simp only[aw,if_false] at hg
    refine sB ?_
    refine an ?_
    refine sB ?_
    all_goals(simp[hg];done)
   ·rw[h3] at hg
    simp only[if_true] at hg
    refine sB ?_
    refine aD [] (me sum (cE (whole a.times[i]) (value m a.nums[i])).1) ?_
    cases h4:(df sum (cE (whole a.times[i]) (value m a.nums[i])).1).2
    ·rw[h4] at hg
     simp only[aw,if_false] at hg
     refine sB ?_
     refine an ?_
     refine sB ?_
     all_goals(simp[hg];done)
    ·rw[h4] at hg
     simp only[if_true] at hg
     refine sB ?_
     refine sQ ?_
     refine⟨i+1,(df sum (cE (whole a.times[i]) (value m a.nums[i])).1).1,?_,sL,ar [some 0,some 1,some 2,some 3] ?_ ?_ rfl rfl⟩
     rotate_left
     ·exact sD
     ·exact sD
     exact⟨by omega,hg⟩
  ·rw[Vi (by omega)] at hg
   refine yA ?_
   refine an ?_
   refine sB ?_
   all_goals(simp[hg];done)
theorem Ek{s:dI}{m:Mod.Model}{l:bl}(h:fg s m=false∨fk s l.atom=false):gn s m l=none:=by
 unfold gn
 rcases h with h|h<;>simp[h]
theorem MH{s:dI}{m:Mod.Model}{l:bl}(h:fg s m=true)(h2:fk s l.atom=true):gn s m l=(nS m l.atom).map fun b=>b != l.no:=by
 unfold gn
 simp[h,h2]
theorem TL{s:dI}{a:Atom}(h:fk s a=true):cP a=true:=by
 simp only[fk,ai] at h
 exact h.2.1
theorem EZ(s:dI)(m:Mod.Model)(l:bl):C E.P 145 [av (eu s),av (eZ m),av (nI l)] [] (bD (.gV [bv ((gn s m l).getD false),bv (gn s m l).isSome]) []):=by
 refine gT (nt:=70) (rs:=[.tmp 6,.tmp 7]) hm Tryz.func145 fun hl he cq=>?_
 refine aD [] (xt s m) ?_
 cases h1:fg s m
 ·have e:=Ek (l:=l) (.inl h1)
  refine sB ?_
  refine an ?_
  refine sB ?_
  all_goals(simp[e];done)
 ·refine sB ?_
  refine aD [] (zx s l.atom) ?_
  cases h2:fk s l.atom
  ·have e:=Ek (m:=m) (.inr h2)
   refine sB ?_
   refine an ?_
   refine sB ?_
   all_goals(simp[e];done)
  ·have e:=MH h1 h2
   have hwf:=TL h2
   rcases aa (l.atom.kind=1) with h3|h3
   ·have k3:=eq_true h3
    have e2:nS m l.atom=some (decide (value m l.atom.A=value m l.atom.B)):=by unfold nS;rw[if_pos h3]
    rw[e2] at e
    simp -implicitDefEqProofs only[go_sem,Z1,Z2,Z3,Z4,k3]
    refine aD [] (tK m l.atom.A) ?_
    refine aD [] (tK m l.atom.B) ?_
    refine LV (by kernel_rfl) (a:=(value m l.atom.A).N) (b:=(value m l.atom.A).D) (c:=(value m l.atom.B).N) (e:=(value m l.atom.B).D) (by simp -implicitDefEqProofs only[go_sem,Z1,Z2,Z3,Z4]) (by simp -implicitDefEqProofs only[go_sem,Z1,Z2,Z3,Z4]) ?_
    rw[pD]
    refine sB ?_
    refine iK ?_
    refine an ?_
    refine sB ?_
    rw[e]
    exact⟨rfl,rfl⟩
   ·have k:l.atom.kind=2:=(kh hwf).resolve_left h3
    obtain⟨_,_,_,dz,hb,_⟩:=mT hwf k
    have e2:nS m l.atom=(mr m l.atom.nums l.atom.times (whole 0)).map fun x=>below x l.atom.bound l.atom.strict:=by unfold nS;rw[if_neg h3]
    have e3:=SC m l.atom.nums l.atom.times (whole 0)
    refine yC ?_
    refine aD [] (MC m l.atom dz) ?_
    cases h4:(xW m l.atom.nums l.atom.times (whole 0)).2
    ·rw[h4] at e3
     simp only[aw,if_false] at e3
     rw[e2,e3] at e
     refine sB ?_
     refine an ?_
     refine sB ?_
     all_goals(simp[e];done)
    ·rw[h4] at e3
     simp only[if_true] at e3
     have hs:=NP (qy (by omega) (by omega)) e3
     have e4:=NF hs (n:=l.atom.bound) (by omega) (by omega) l.atom.strict
     rw[e2,e3] at e
     simp only[Option.map_some,e4] at e
     generalize (xW m l.atom.nums l.atom.times (whole 0)).1=sum at *
     have hc:=mN sum (whole l.atom.bound)
     simp only[whole] at hc
     refine sB ?_
     refine aD [] hc ?_
     have ew:(⟨l.atom.bound,1⟩:Mod.Rat)=whole l.atom.bound:=rfl
     rw[ew]
     cases h5:c8 sum (whole l.atom.bound)
     ·cases h6:l.atom.strict
      ·simp -implicitDefEqProofs only[go_sem,Z1,Z2,Z3,Z4,h6]
       refine LV (by kernel_rfl) (a:=sum.N) (b:=sum.D) (c:=l.atom.bound) (e:=1) (by simp -implicitDefEqProofs only[go_sem,Z1,Z2,Z3,Z4]) (by simp -implicitDefEqProofs only[go_sem,Z1,Z2,Z3,Z4]) ?_
       have e5:oz sum.N sum.D l.atom.bound 1=decide (sum=whole l.atom.bound):=pD sum (whole l.atom.bound)
       rw[e5]
       refine sB ?_
       refine iK ?_
       refine an ?_
       refine sB ?_
       rw[e,h5,h6]
       exact⟨rfl,rfl⟩
      ·simp -implicitDefEqProofs only[go_sem,Z1,Z2,Z3,Z4,h6]
       refine iK ?_
       refine an ?_
       refine sB ?_
       all_goals(simp[e,h5,h6];done)
     ·refine sB ?_
      refine iK ?_
      refine an ?_
      refine sB ?_
      all_goals(simp[e,h5];done)
end Go.Proofs.YtabembjmeobhoaaGreat
