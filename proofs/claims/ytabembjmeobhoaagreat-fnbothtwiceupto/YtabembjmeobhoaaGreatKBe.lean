/-
  The reference: the walks of models. A step towards the exact laws.
-/
import Derived.Test.YtabembjmeobhoaaGreatKBP
import Derived.Test.YtabembjmeobhoaaGreatKBa
set_option linter.unusedVariables false
set_option linter.unusedSimpArgs false
open Bool renaming and_eq_true→ai,false_eq_true→ax,true_and→aM,false_and→aS
open Classical renaming em→aa
open List renaming drop_eq_getElem_cons→aj,getElem_mem→ak,drop_of_length_le→al,all_cons→b8,all_nil→dX
open Option renaming isSome_some→aJ,getD_some→aK
namespace Go.Proofs.YtabembjmeobhoaaGreat
open Go.Eng Go.Mod
open Int renaming reduceEq→Z1,reduceLT→Z2,reduceLE→Z3,reduceToNat→Z4
set_option maxRecDepth 100000
set_option maxHeartbeats 800000
theorem yE(a b:List Mod.Rat):C E.P 214 [lv (br a),lv (br b)] [] (bM (bv (decide (a=b))) []):=by
 refine gT (nt:=26) (rs:=[.tmp 4]) hm Tryz.func214 fun hl he cI=>?_
 rcases aa (a.length=b.length) with h2|h2
 ·have k2:=eq_true h2
  simp -implicitDefEqProofs only[go_sem,Z1,Z2,Z3,Z4,k2]
  refine aO hm (fun(i:Nat)=> i≤a.length∧(a=b↔a.drop i=b.drop i)) (fun(i:Nat)=> ⟨dB 26 .any [(0,lv (br a)),(1,lv (br b)),(5,iv i)],[]⟩) (fun(i:Nat)=> a.length-i) (0) ?_ (aw [] ?_ ?_ rfl rfl) ?_
  rotate_left
  ·exact sD
  ·exact sD
  rotate_left
  ·simp
  ·rintro i ⟨hi,hg⟩
   rcases aa (i<a.length) with h3|h3
   ·have h4:i<b.length:=by omega
    rw[drop_eq h3 h4] at hg
    simp -implicitDefEqProofs only[go_sem,Z1,Z2,Z3,Z4,h3,h4]
    refine QO (by kernel_rfl) (a:=a[i].N) (b:=a[i].D) (c:=b[i].N) (e:=b[i].D) (by simp -implicitDefEqProofs only[go_sem,Z1,Z2,Z3,Z4]) (by simp -implicitDefEqProofs only[go_sem,Z1,Z2,Z3,Z4]) ?_
    rw[pz]
    rcases aa (a[i]=b[i]) with h5|h5
    ·have k5:=eq_true h5
     simp -implicitDefEqProofs only[go_sem,Z1,Z2,Z3,Z4,k5]
     refine iK ?_
     refine sQ ?_
     refine⟨i+1,?_,sL,aw [] ?_ ?_ rfl rfl⟩
     rotate_left
     ·exact sD
     ·exact sD
     refine⟨by omega,?_⟩
     rw[hg]
     simp[h5]
    ·have e:¬a=b:=fun hh=>h5 (hg.1 hh).1
     simp -implicitDefEqProofs only[go_sem,Z1,Z2,Z3,Z4,h5]
     refine iK ?_
     refine an ?_
     refine sB ?_
     all_goals(simp[e];done)
   ·rw[al (by omega),al (by omega)] at hg
    simp -implicitDefEqProofs only[go_sem,Z1,Z2,Z3,Z4,h3]
    refine an ?_
    refine sB ?_
    all_goals(simp[hg];done)
 ·have e:¬a=b:=fun hh=>h2 (by rw[hh])
  simp -implicitDefEqProofs only[go_sem,Z1,Z2,Z3,Z4,h2]
  refine an ?_
  refine sB ?_
  all_goals(simp[e];done)
theorem An(x:Mod.Rat)(sort:Int):C E.P 220 [av (eO x),iv sort] [] (bM (bv (bV x&&qT x sort)) []):=by
 refine gT (nt:=16) (rs:=[.tmp 4]) hm Tryz.func220 fun hl he cI=>?_
 refine aD [] (gh x) ?_
 cases h1:bV x
 ·refine sB ?_
  refine an ?_
  exact sD
 ·refine sB ?_
  rcases aa (sort=1) with h2|h2
  ·have k:=eq_true h2
   simp -implicitDefEqProofs only[go_sem,Z1,Z2,Z3,Z4,k]
   refine an ?_
   refine sB ?_
   all_goals(simp[qT,h2];done)
  ·simp -implicitDefEqProofs only[go_sem,Z1,Z2,Z3,Z4,h2]
   refine an ?_
   refine sB ?_
   all_goals(simp[qT,h2];done)
theorem Lo(x:Mod.Row):C E.P 259 [av (qC x)] [] (bM (bv (kQ x)) []):=by
 refine gT (nt:=32) (rs:=[.tmp 2]) hm Tryz.func259 fun hl he cI=>?_
 refine aO hm (fun(i:Nat)=> i≤x.args.length∧x.args.all bV=(x.args.drop i).all bV) (fun(i:Nat)=> ⟨dB 32 .any [(1,.ptr 0 0),(3,iv i)],[some (.box (cF (qC x)))]⟩) (fun(i:Nat)=> x.args.length-i) (0) ?_ (aw [some 0] ?_ ?_ rfl rfl) ?_
 rotate_left
 ·exact sD
 ·exact sD
 rotate_left
 ·simp
 ·rintro i ⟨hi,hg⟩
  rcases aa (i<x.args.length) with h1|h1
  ·rw[aj h1,b8] at hg
   simp -implicitDefEqProofs only[go_sem,Z1,Z2,Z3,Z4,h1]
   refine aD [] (gh x.args[i]) ?_
   cases h2:bV x.args[i]
   ·rw[h2,aS] at hg
    refine sB ?_
    refine an ?_
    refine sB ?_
    all_goals(simp[kQ,hg];done)
   ·rw[h2,aM] at hg
    refine sB ?_
    refine sQ ?_
    refine⟨i+1,?_,sL,aw [some 0] ?_ ?_ rfl rfl⟩
    rotate_left
    ·exact sD
    ·exact sD
    exact⟨by omega,hg⟩
  ·rw[al (by omega),dX] at hg
   simp -implicitDefEqProofs only[go_sem,Z1,Z2,Z3,Z4,h1]
   refine aD [] (tt x.name) ?_
   cases h2:fE x.name
   ·refine sB ?_
    refine an ?_
    refine sB ?_
    all_goals(simp[kQ,h2];done)
   ·refine sB ?_
    rcases aa ((x.args.length:Int)≤2) with h3' | h3'
    ·have h3:x.args.length≤2:=by omega
     simp -implicitDefEqProofs only[go_sem,Z1,Z2,Z3,Z4,h3']
     refine aD [] (gh x.val) ?_
     refine an ?_
     refine sB ?_
     all_goals(simp[kQ,h2,h3,hg];done)
    ·have h3:¬x.args.length≤2:=by omega
     simp -implicitDefEqProofs only[go_sem,Z1,Z2,Z3,Z4,h3']
     refine an ?_
     refine sB ?_
     all_goals(simp[kQ,h2,h3];done)
theorem Hj{xs ys:List Mod.Rat}{i:Nat}(h:i<xs.length)(h':i<ys.length):fY (xs.drop i) (ys.drop i)=if xs[i]=ys[i] then fY (xs.drop (i+1)) (ys.drop (i+1)) else cS xs[i] ys[i]:=by
 rw[aj h,aj h',fY]
theorem yj(a b:Mod.Row):C E.P 213 [av (qC a),av (qC b)] [] (bM (bv (dq a b)) []):=by
 refine gT (nt:=59) (rs:=[.tmp 4]) hm Tryz.func213 fun hl he cI=>?_
 rcases aa (a.name=b.name) with h1|h1
 ·have k1:=eq_true h1
  simp -implicitDefEqProofs only[go_sem,Z1,Z2,Z3,Z4,k1]
  rcases aa (a.args.length=b.args.length) with h2|h2
  ·have k2:=eq_true h2
   simp -implicitDefEqProofs only[go_sem,Z1,Z2,Z3,Z4,k2]
   refine aO hm (fun(i:Nat)=> i≤a.args.length∧fY a.args b.args=fY (a.args.drop i) (b.args.drop i)) (fun(i:Nat)=> ⟨dB 59 .any [(2,.ptr 0 0),(3,.ptr 1 0),(5,iv i)],[some (.box (cF (qC a))),some (.box (cF (qC b)))]⟩) (fun(i:Nat)=> a.args.length-i) (0) ?_ (aw [some 0,some 1] ?_ ?_ rfl rfl) ?_
   rotate_left
   ·exact sD
   ·exact sD
   rotate_left
   ·simp
   ·rintro i ⟨hi,hg⟩
    rcases aa (i<a.args.length) with h3|h3
    ·have h4:i<b.args.length:=by omega
     rw[Hj h3 h4] at hg
     simp -implicitDefEqProofs only[go_sem,Z1,Z2,Z3,Z4,h3,h4]
     refine QO (by kernel_rfl) (a:=a.args[i].N) (b:=a.args[i].D) (c:=b.args[i].N) (e:=b.args[i].D) (by simp -implicitDefEqProofs only[go_sem,Z1,Z2,Z3,Z4]) (by simp -implicitDefEqProofs only[go_sem,Z1,Z2,Z3,Z4]) ?_
     rw[pz]
     rcases aa (a.args[i]=b.args[i]) with h5|h5
     ·have k5:=eq_true h5
      rw[if_pos h5] at hg
      simp -implicitDefEqProofs only[go_sem,Z1,Z2,Z3,Z4,k5]
      refine iK ?_
      refine sQ ?_
      refine⟨i+1,?_,sL,aw [some 0,some 1] ?_ ?_ rfl rfl⟩
      rotate_left
      ·exact sD
      ·exact sD
      exact⟨by omega,hg⟩
     ·rw[if_neg h5] at hg
      simp -implicitDefEqProofs only[go_sem,Z1,Z2,Z3,Z4,h5,h3,h4]
      refine iK ?_
      refine aD [] (mK a.args[i] b.args[i]) ?_
      refine iK ?_
      refine an ?_
      refine sB ?_
      all_goals(simp[dq,h1,h2,hg];done)
    ·rw[al (by omega),al (by omega)] at hg
     simp only[fY] at hg
     simp -implicitDefEqProofs only[go_sem,Z1,Z2,Z3,Z4,h3]
     refine an ?_
     refine sB ?_
     all_goals(simp[dq,h1,h2,hg];done)
  ·simp -implicitDefEqProofs only[go_sem,Z1,Z2,Z3,Z4,h2]
   refine an ?_
   refine sB ?_
   all_goals(simp[dq,h1,h2];done)
 ·simp -implicitDefEqProofs only[go_sem,Z1,Z2,Z3,Z4,h1]
  refine an ?_
  refine sB ?_
  all_goals(simp[dq,h1,gn];done)
def u6(l:List Mod.Row):Nat→Option Mod.Row
 | 0=>none
 | j+1=>l[j]?
theorem JN(m:Mod.Model):e7 m=(decide (m.rows.length≤40)&&jY none m.rows):=by
 unfold e7
 rw[Cs _ none (by simp)]
theorem FI(m:Mod.Model):C E.P 218 [av (eL m)] [] (bM (bv (e7 m)) []):=by
 have hmo:=JN m
 refine gT (nt:=41) (rs:=[.tmp 2]) hm Tryz.func218 fun hl he cI=>?_
 refine aO hm (fun(i:Nat)=> i≤m.rows.length∧jY none m.rows=jY (u6 m.rows i) (m.rows.drop i)) (fun(i:Nat)=> ⟨dB 41 .any [(1,.ptr 0 0),(3,iv i)],[some (.box (cF (eL m)))]⟩) (fun(i:Nat)=> m.rows.length-i) (0) ?_ (aw [some 0] ?_ ?_ rfl rfl) ?_
 rotate_left
 ·exact sD
 ·exact sD
 rotate_left
 ·simp[u6]
 ·rintro i ⟨hi,hg⟩
  rcases aa (i<m.rows.length) with h1|h1
  ·rw[aj h1] at hg
   simp only[jY] at hg
   simp -implicitDefEqProofs only[go_sem,Z1,Z2,Z3,Z4,h1]
   refine aD [] (Lo m.rows[i]) ?_
   cases h2:kQ m.rows[i]
   ·have e:e7 m=false:=by rw[hmo,hg,h2];simp
    refine sB ?_
    refine iK ?_
    refine an ?_
    refine sB ?_
    all_goals(simp[e];done)
   ·rw[h2,aM] at hg
    cases i with
    | zero=>
      simp only[u6,aM] at hg
      simp -implicitDefEqProofs only[go_sem,Z1,Z2,Z3,Z4,Int.lt_irrefl]
      refine iK ?_
      refine sQ ?_
      refine⟨0+1,?_,sL,aw [some 0] ?_ ?_ rfl rfl⟩
      rotate_left
      ·refine sB ?_
       all_goals(simp[aq, *];done)
      ·exact sD
      refine⟨by omega,?_⟩
      rw[hg]
      simp[u6,h1]
    | succ j=>
      have hj:j<m.rows.length:=by omega
      have e1:((j:Int)+1-1)=(j:Int):=by omega
      have e2:(0:Int)<(j:Int)+1:=by omega
      have et:((j:Int)+1).toNat=j+1:=by omega
      have e3:u6 m.rows (j+1)=some m.rows[j]:=by simp[u6,hj]
      rw[e3] at hg
      simp only at hg
      simp -implicitDefEqProofs only[go_sem,Z1,Z2,Z3,Z4,e1,e2,et,hj,h1]
      refine sQ ?_
      refine aD [] (yj m.rows[j] m.rows[j+1]) ?_
      refine iK ?_
      cases q4:dq m.rows[j] m.rows[j+1]
      ·rw[q4,aS] at hg
       have e:e7 m=false:=by rw[hmo,hg];simp
       refine sB ?_
       refine an ?_
       refine sB ?_
       all_goals(simp[e];done)
      ·rw[q4,aM] at hg
       refine sB ?_
       refine sQ ?_
       refine⟨j+1+1,?_,sL,aw [some 0] ?_ ?_ rfl rfl⟩
       rotate_left
       ·exact sD
       ·exact sD
       refine⟨by omega,?_⟩
       rw[hg]
       simp[u6,h1]
  ·rw[al (by omega)] at hg
   simp only[jY] at hg
   have e:e7 m=decide ((m.rows.length:Int)≤40):=by rw[hmo,hg,Bool.and_true];exact decide_eq_decide.2 (by omega)
   simp -implicitDefEqProofs only[go_sem,Z1,Z2,Z3,Z4,h1]
   refine an ?_
   refine sB ?_
   all_goals(simp[e];done)
theorem HO{xs:List Mod.Rat}{ns:List Int}{i:Nat}(h:i<xs.length)(h':i<ns.length):ji (xs.drop i) (ns.drop i)=(qT xs[i] ns[i]&&ji (xs.drop (i+1)) (ns.drop (i+1))):=by
 rw[aj h,aj h',ji]
theorem PZ{xs:List Mod.Rat}(h:dC xs=true){i:Nat}(hi:i<xs.length):bV xs[i]=true:=List.all_eq_true.1 h _ (ak hi)
theorem Sa{r:Mod.Row}(h:kQ r=true):bV r.val=true:=by
 simp only[kQ,ai] at h
 exact h.2.2.1
theorem SC{r:Mod.Row}(h:kQ r=true):r.args.length≤2:=by
 simp only[kQ,ai,decide_eq_true_eq] at h
 exact h.2.1
theorem HC{s:dE}{r:Mod.Row}(h:symbol s r.name=none):jB s r=false:=by simp[jB,h]
theorem HI{s:dE}{r:Mod.Row}{x:Sym}(h:symbol s r.name=some x):jB s r=(decide (x.args.length=r.args.length)&&(qT r.val x.sort&&ji r.args x.args)):=by simp[jB,h]
theorem wE(s:dE)(m:Mod.Model):C E.P 146 [av (dZ s),av (eL m)] [] (bM (bv (e6 s m)) []):=by
 refine gT (nt:=85) (rs:=[.tmp 4]) hm Tryz.func146 fun hl he cI=>?_
 refine aD [] (uY s) ?_
 cases h1:fH s
 ·refine sB ?_
  refine an ?_
  refine sB ?_
  all_goals(simp[e6,h1];done)
 ·refine sB ?_
  refine aD [] (FI m) ?_
  cases h2:e7 m
  ·refine sB ?_
   refine an ?_
   refine sB ?_
   all_goals(simp[e6,h1,h2];done)
  ·have hwf:=(mU h2).2.1
   have hmo:e6 s m=m.rows.all (jB s):=by simp[e6,h1,h2]
   refine sB ?_
   refine aO hm (fun(i:Nat)=> i≤m.rows.length∧m.rows.all (jB s)=(m.rows.drop i).all (jB s)) (fun(i:Nat)=> ⟨dB 85 .any [(2,.ptr 0 0),(3,.ptr 1 0),(5,iv i)],[some (.box (cF (dZ s))),some (.box (cF (eL m)))]⟩) (fun(i:Nat)=> m.rows.length-i) (0) ?_ (aw [some 0,some 1] ?_ ?_ rfl rfl) ?_
   rotate_left
   ·exact sD
   ·exact sD
   rotate_left
   ·simp
   ·rintro i ⟨hi,hg⟩
    rcases aa (i<m.rows.length) with h3|h3
    ·have hw:=hwf m.rows[i] (ak h3)
     have hra:=lu hw
     have hrv:=Sa hw
     have hrl:=SC hw
     rw[aj h3,b8] at hg
     simp -implicitDefEqProofs only[go_sem,Z1,Z2,Z3,Z4,h3]
     refine bQ [] (yx s m.rows[i].name) ?_ ?_<;>simp -implicitDefEqProofs only[go_sem,Z1,Z2,Z3,Z4,h3]
     refine iK ?_
     cases hx:symbol s m.rows[i].name with
     | none=>
       rw[HC hx,aS] at hg
       have e:e6 s m=false:=by rw[hmo,hg]
       simp -implicitDefEqProofs only[go_sem,Z1,Z2,Z3,Z4,Option.isSome_none,Option.getD_none,h3]
       refine iK ?_
       refine an ?_
       refine sB ?_
       all_goals(simp[e];done)
     | some x=>
       rw[HI hx] at hg
       rcases aa (x.args.length=m.rows[i].args.length) with h4|h4
       ·have k4:=eq_true h4
        simp only[h4,decide_true,aM] at hg
        simp -implicitDefEqProofs only[go_sem,Z1,Z2,Z3,Z4,aJ,aK,k4,h3]
        refine aD [] (An m.rows[i].val x.sort) ?_
        refine iK ?_
        simp only[hrv,aM]
        cases h5:qT m.rows[i].val x.sort
        ·rw[h5,aS,aS] at hg
         have e:e6 s m=false:=by rw[hmo,hg]
         refine sB ?_
         refine an ?_
         refine sB ?_
         all_goals(simp[e];done)
        ·rw[h5,aM] at hg
         refine sB ?_
         refine aO hm (fun(k:Nat)=> k≤x.args.length∧ji m.rows[i].args x.args=ji (m.rows[i].args.drop k) (x.args.drop k)) (fun(k:Nat)=> ⟨dB 85 .any [(2,.ptr 0 0),(3,.ptr 1 0),(5,iv i),(6,.ptr 2 0),(8,iv k)],[some (.box (cF (dZ s))),some (.box (cF (eL m))),some (.box (cF (vP x)))]⟩) (fun(k:Nat)=> x.args.length-k) (0) ?_ (aw [some 0,some 1,some 2] ?_ ?_ rfl rfl) ?_
         rotate_left
         ·exact sD
         ·exact sD
         rotate_left
         ·simp
         ·rintro k ⟨hk,hj⟩
          rcases aa (k<x.args.length) with h6|h6
          ·have h7:k<m.rows[i].args.length:=by omega
           rw[HO h7 h6] at hj
           have hr:=PZ hra h7
           simp -implicitDefEqProofs only[go_sem,Z1,Z2,Z3,Z4,h6,h3,h7]
           refine aD [] (An m.rows[i].args[k] x.args[k]) ?_
           refine iK ?_
           simp only[hr,aM]
           cases h8:qT m.rows[i].args[k] x.args[k]
           ·rw[h8,aS] at hj
            rw[hj,aS] at hg
            have e:e6 s m=false:=by rw[hmo,hg]
            refine sB ?_
            refine an ?_
            refine sB ?_
            all_goals(simp[e];done)
           ·rw[h8,aM] at hj
            refine sB ?_
            refine sQ ?_
            refine⟨k+1,?_,sL,aw [some 0,some 1,some 2] ?_ ?_ rfl rfl⟩
            rotate_left
            ·exact sD
            ·exact sD
            exact⟨by omega,hj⟩
          ·rw[al (by omega),al (by omega)] at hj
           simp only[ji] at hj
           rw[hj,aM] at hg
           simp -implicitDefEqProofs only[go_sem,Z1,Z2,Z3,Z4,h6]
           refine sQ ?_
           refine⟨i+1,?_,sL,aw [some 0,some 1] ?_ ?_ rfl rfl⟩
           rotate_left
           ·exact sD
           ·exact sD
           exact⟨by omega,hg⟩
       ·simp only[h4,decide_false,aS] at hg
        have e:e6 s m=false:=by rw[hmo,hg]
        simp -implicitDefEqProofs only[go_sem,Z1,Z2,Z3,Z4,aJ,aK,h4,h3]
        refine iK ?_
        refine an ?_
        refine sB ?_
        all_goals(simp[e];done)
    ·rw[al (by omega),dX] at hg
     simp -implicitDefEqProofs only[go_sem,Z1,Z2,Z3,Z4,h3]
     refine an ?_
     refine sB ?_
     all_goals(simp[hmo,hg];done)
theorem Mj{rows:List Mod.Row}{i:Nat}(h:i<rows.length)(n:ni)(xs:List Mod.Rat):lookup (rows.drop i) n xs=if rows[i].name=n∧rows[i].args=xs then rows[i].val else lookup (rows.drop (i+1)) n xs:=by
 rw[aj h]
 unfold lookup
 rw[List.find?_cons]
 rcases aa (rows[i].name=n∧rows[i].args=xs) with hc|hc
 ·simp[hc]
 ·simp[hc]
theorem Hq(m:Mod.Model)(n:ni)(xs:List Mod.Rat):C E.P 257 [av (eL m),sv n,lv (br xs)] [] (bM (av (eO (lookup m.rows n xs))) []):=by
 refine gT (nt:=40) (rs:=[.cell 6 71]) hm Tryz.func257 fun hl he cI=>?_
 refine aO hm (fun(i:Nat)=> i≤m.rows.length∧lookup m.rows n xs=lookup (m.rows.drop i) n xs) (fun(i:Nat)=> ⟨dB 40 .any [(1,sv n),(2,lv (br xs)),(3,.ptr 0 0),(6,.ptr 1 0),(7,iv i)],[some (.box (cF (eL m))),some (.box (cF (eO jF)))]⟩) (fun(i:Nat)=> m.rows.length-i) (0) ?_ (aw [some 0,some 1] ?_ ?_ rfl rfl) ?_
 rotate_left
 ·exact sD
 ·exact sD
 rotate_left
 ·simp
 ·rintro i ⟨hi,hg⟩
  rcases aa (i<m.rows.length) with h1|h1
  ·rw[Mj h1] at hg
   rcases aa (m.rows[i].name=n) with h2|h2
   ·have k2:=eq_true h2
    simp -implicitDefEqProofs only[go_sem,Z1,Z2,Z3,Z4,h1,k2]
    refine aD [] (yE m.rows[i].args xs) ?_
    rcases aa (m.rows[i].args=xs) with h3|h3
    ·have k3:=eq_true h3
     rw[if_pos ⟨h2,h3⟩] at hg
     simp -implicitDefEqProofs only[go_sem,Z1,Z2,Z3,Z4,k3,h1]
     refine an ?_
     refine sB ?_
     all_goals(simp[hg];done)
    ·rw[if_neg (fun hh=>h3 hh.2)] at hg
     simp -implicitDefEqProofs only[go_sem,Z1,Z2,Z3,Z4,h3]
     refine sQ ?_
     refine⟨i+1,?_,sL,aw [some 0,some 1] ?_ ?_ rfl rfl⟩
     rotate_left
     ·exact sD
     ·exact sD
     exact⟨by omega,hg⟩
   ·rw[if_neg (fun hh=>h2 hh.1)] at hg
    simp -implicitDefEqProofs only[go_sem,Z1,Z2,Z3,Z4,h1,h2]
    refine sQ ?_
    refine⟨i+1,?_,sL,aw [some 0,some 1] ?_ ?_ rfl rfl⟩
    rotate_left
    ·exact sD
    ·exact sD
    exact⟨by omega,hg⟩
  ·rw[al (by omega)] at hg
   have e:lookup m.rows n xs=⟨0,1⟩:=by rw[hg];rfl
   simp -implicitDefEqProofs only[go_sem,Z1,Z2,Z3,Z4,h1]
   refine an ?_
   refine sB ?_
   all_goals(simp[e];done)
theorem Fo(m:Mod.Model)(t:Term)(ih:∀k∈t.kids,C E.P 215 [av (eL m),av (cT k)] [] (bM (av (eO (value m k))) [])):C E.P 215 [av (eL m),av (cT t)] [] (bM (av (eO (value m t))) []):=by
 refine gT (nt:=30) (rs:=[.cell 4 71]) hm Tryz.func215 fun hl he cI=>?_
 refine aO hm (fun(i:Nat)=> i≤t.kids.length) (fun(i:Nat)=> ⟨dB 30 .any [(2,.ptr 0 0),(3,.ptr 1 0),(4,.ptr 2 0),(5,.acc 3),(6,iv i)],[some (.box (cF (eL m))),some (.box (cF (cT t))),some (.box (cF (eO jF))),some (.acc 71 (br (values m (t.kids.take i))))]⟩) (fun(i:Nat)=> t.kids.length-i) (0) ?_ (aw [some 0,some 1,some 2,some 3] ?_ ?_ rfl rfl) ?_
 rotate_left
 ·exact sD
 ·refine sB ?_
  all_goals(simp[jF,values,br])
 rotate_left
 ·omega
 ·rintro i hi
  have hv:=EH m (t.kids.take i)
  have m7:(t.kids.take i).length=i:=by rw[List.length_take];omega
  rcases aa (i<t.kids.length) with h1|h1
  ·simp -implicitDefEqProofs only[go_sem,Z1,Z2,Z3,Z4,h1]
   have hc:=ih t.kids[i] (ak h1)
   refine aD [] hc ?_
   refine sQ ?_
   refine⟨i+1,?_,sL,aw [some 0,some 1,some 2,some 4] ?_ ?_ rfl rfl⟩
   rotate_left
   ·exact sD
   ·refine sB ?_
    all_goals(exact Ap h1)
   exact h1
  ·have et:t.kids.take i=t.kids:=List.take_of_length_le (by omega)
   simp -implicitDefEqProofs only[go_sem,Z1,Z2,Z3,Z4,h1,et]
   refine dN [] [3] (Hq m t.name (values m t.kids)) rfl ?_ ?_ ?_
   ·exact sV
   all_goals simp -implicitDefEqProofs only[go_sem,Z1,Z2,Z3,Z4]
   refine an ?_
   refine sB ?_
   all_goals(simp[Gc];done)
theorem tM(m:Mod.Model):∀t,C E.P 215 [av (eL m),av (cT t)] [] (bM (av (eO (value m t))) []):=
 Term.ind fun n ks ih=>Fo m (.mk n ks) ih
def vV(m:Mod.Model):List Term→List Int→Mod.Rat→Mod.Rat×Bool
 | t::ts,n::ns,sum=>if(cq (whole n) (value m t)).2 then(if(c8 sum (cq (whole n) (value m t)).1).2 then vV m ts ns (c8 sum (cq (whole n) (value m t)).1).1 else((c8 sum (cq (whole n) (value m t)).1).1,false)) else(sum,false)
 | _,_,sum=>(sum,true)
theorem Qu(m:Mod.Model):∀(ts:List Term)(ns:List Int)(sum:Mod.Rat),mg m ts ns sum=if(vV m ts ns sum).2 then some (vV m ts ns sum).1 else none
 | [],_,sum=>by simp[mg,vV]
 | _::_,[],sum=>by simp[mg,vV]
 | t::ts,n::ns,sum=>by
   simp only[mg,vV,plus]
   rcases aa ((cq (whole n) (value m t)).2=true) with h1|h1
   ·simp only[h1,if_true]
    rcases aa ((c8 sum (cq (whole n) (value m t)).1).2=true) with h2|h2
    ·simp only[h2,if_true]
     exact Qu m ts ns _
    ·simp only[h2,ax,if_false]
   ·simp only[h1,ax,if_false]
theorem Sk{m:Mod.Model}{ts:List Term}{ns:List Int}{i:Nat}(h:i<ts.length)(h':i<ns.length)(sum:Mod.Rat) :
 vV m (ts.drop i) (ns.drop i) sum=if(cq (whole ns[i]) (value m ts[i])).2 then(if(c8 sum (cq (whole ns[i]) (value m ts[i])).1).2 then vV m (ts.drop (i+1)) (ns.drop (i+1)) (c8 sum (cq (whole ns[i]) (value m ts[i])).1).1 else((c8 sum (cq (whole ns[i]) (value m ts[i])).1).1,false)) else(sum,false):=by
 rw[aj h,aj h',vV]
theorem TW{m:Mod.Model}{ts:List Term}{ns:List Int}{i:Nat}(h:ts.length≤i)(sum:Mod.Rat):vV m (ts.drop i) (ns.drop i) sum=(sum,true):=by
 rw[al h,vV]
 simp
theorem Ku(m:Mod.Model)(a:Atom)(hl1:a.times.length=a.nums.length):C E.P 216 [av (eL m),av (fM a)] [] (bM (.jd [av (eO (vV m a.nums a.times (whole 0)).1),bv (vV m a.nums a.times (whole 0)).2]) []):=by
 refine gT (nt:=48) (rs:=[.cell 4 71,.tmp 5]) hm Tryz.func216 fun hl he cI=>?_
 refine dm hm (fun(i:Nat) (sum:Mod.Rat)=> i≤a.nums.length∧vV m a.nums a.times (whole 0)=vV m (a.nums.drop i) (a.times.drop i) sum) (fun(i:Nat) (sum:Mod.Rat)=> ⟨dB 48 .any [(2,.ptr 0 0),(3,.ptr 1 0),(4,.ptr 2 0),(6,.ptr 3 0),(7,iv i)],[some (.box (cF (eL m))),some (.box (cF (fM a))),some (.box (cF (eO jF))),some (.box (cF (eO sum)))]⟩) (fun(i:Nat) (sum:Mod.Rat)=> a.nums.length-i) (0) (whole 0) ?_ (aw [some 0,some 1,some 2,some 3] ?_ ?_ rfl rfl) ?_
 rotate_left
 ·exact sD
 ·refine sB ?_
  all_goals(simp[jF,whole])
 rotate_left
 ·simp
 ·rintro i sum ⟨hi,hg⟩
  rcases aa (i<a.nums.length) with h1|h1
  ·have h2:i<a.times.length:=by omega
   rw[Sk h1 h2] at hg
   simp -implicitDefEqProofs only[go_sem,Z1,Z2,Z3,Z4,h1,h2]
   refine aD [] (tM m a.nums[i]) ?_
   have hc:=nv (whole a.times[i]) (value m a.nums[i])
   simp only[whole] at hc
   refine aD [] hc ?_
   refine iK ?_
   have ew:(⟨a.times[i],1⟩:Mod.Rat)=whole a.times[i]:=rfl
   rw[ew]
   cases h3:(cq (whole a.times[i]) (value m a.nums[i])).2
   ·rw[h3] at hg
    simp only[ax,if_false] at hg
    refine sB ?_
    refine an ?_
    refine sB ?_
    all_goals(simp[hg];done)
   ·rw[h3] at hg
    simp only[if_true] at hg
    refine sB ?_
    refine aD [] (lR sum (cq (whole a.times[i]) (value m a.nums[i])).1) ?_
    cases h4:(c8 sum (cq (whole a.times[i]) (value m a.nums[i])).1).2
    ·rw[h4] at hg
     simp only[ax,if_false] at hg
     refine sB ?_
     refine an ?_
     refine sB ?_
     all_goals(simp[hg];done)
    ·rw[h4] at hg
     simp only[if_true] at hg
     refine sB ?_
     refine sQ ?_
     refine⟨i+1,(c8 sum (cq (whole a.times[i]) (value m a.nums[i])).1).1,?_,sL,aw [some 0,some 1,some 2,some 3] ?_ ?_ rfl rfl⟩
     rotate_left
     ·exact sD
     ·exact sD
     exact⟨by omega,hg⟩
  ·rw[TW (by omega)] at hg
   simp -implicitDefEqProofs only[go_sem,Z1,Z2,Z3,Z4,h1]
   refine an ?_
   refine sB ?_
   all_goals(simp[hg];done)
theorem C1{s:dE}{m:Mod.Model}{l:bp}(h:e6 s m=false∨fa s l.atom=false):fW s m l=none:=by
 unfold fW
 rcases h with h|h<;>simp[h]
theorem Lw{s:dE}{m:Mod.Model}{l:bp}(h:e6 s m=true)(h2:fa s l.atom=true):fW s m l=(nL m l.atom).map fun b=>b != l.no:=by
 unfold fW
 simp[h,h2]
theorem RO{s:dE}{a:Atom}(h:fa s a=true):cJ a=true:=by
 simp only[fa,ai] at h
 exact h.2.1
theorem DE(s:dE)(m:Mod.Model)(l:bp):C E.P 145 [av (dZ s),av (eL m),av (np l)] [] (bM (.jd [bv ((fW s m l).getD false),bv (fW s m l).isSome]) []):=by
 refine gT (nt:=70) (rs:=[.tmp 6,.tmp 7]) hm Tryz.func145 fun hl he cI=>?_
 refine aD [] (wE s m) ?_
 cases h1:e6 s m
 ·have e:=C1 (l:=l) (.inl h1)
  refine sB ?_
  refine an ?_
  refine sB ?_
  all_goals(simp[e];done)
 ·refine sB ?_
  refine aD [] (yO s l.atom) ?_
  cases h2:fa s l.atom
  ·have e:=C1 (m:=m) (.inr h2)
   refine sB ?_
   refine an ?_
   refine sB ?_
   all_goals(simp[e];done)
  ·have e:=Lw h1 h2
   have hwf:=RO h2
   rcases aa (l.atom.kind=1) with h3|h3
   ·have k3:=eq_true h3
    have e2:nL m l.atom=some (decide (value m l.atom.A=value m l.atom.B)):=by unfold nL;rw[if_pos h3]
    rw[e2] at e
    simp -implicitDefEqProofs only[go_sem,Z1,Z2,Z3,Z4,k3]
    refine aD [] (tM m l.atom.A) ?_
    refine aD [] (tM m l.atom.B) ?_
    refine Lf (by kernel_rfl) (a:=(value m l.atom.A).N) (b:=(value m l.atom.A).D) (c:=(value m l.atom.B).N) (e:=(value m l.atom.B).D) (by simp -implicitDefEqProofs only[go_sem,Z1,Z2,Z3,Z4]) (by simp -implicitDefEqProofs only[go_sem,Z1,Z2,Z3,Z4]) ?_
    rw[pz]
    refine sB ?_
    refine iK ?_
    refine an ?_
    refine sB ?_
    rw[e]
    exact⟨rfl,rfl⟩
   ·have k:l.atom.kind=2:=(j6 hwf).resolve_left h3
    obtain⟨_,_,_,dy,hb,_⟩:=mF hwf k
    have e2:nL m l.atom=(mg m l.atom.nums l.atom.times (whole 0)).map fun x=>below x l.atom.bound l.atom.strict:=by unfold nL;rw[if_neg h3]
    have e3:=Qu m l.atom.nums l.atom.times (whole 0)
    simp -implicitDefEqProofs only[go_sem,Z1,Z2,Z3,Z4,h3]
    refine aD [] (Ku m l.atom dy) ?_
    cases h4:(vV m l.atom.nums l.atom.times (whole 0)).2
    ·rw[h4] at e3
     simp only[ax,if_false] at e3
     rw[e2,e3] at e
     refine sB ?_
     refine an ?_
     refine sB ?_
     all_goals(simp[e];done)
    ·rw[h4] at e3
     simp only[if_true] at e3
     have hs:=LO (qn (by omega) (by omega)) e3
     have e4:=NS hs (n:=l.atom.bound) (by omega) (by omega) l.atom.strict
     rw[e2,e3] at e
     simp only[Option.map_some,e4] at e
     generalize (vV m l.atom.nums l.atom.times (whole 0)).1=sum at *
     have hc:=mK sum (whole l.atom.bound)
     simp only[whole] at hc
     refine sB ?_
     refine aD [] hc ?_
     have ew:(⟨l.atom.bound,1⟩:Mod.Rat)=whole l.atom.bound:=rfl
     rw[ew]
     cases h5:cS sum (whole l.atom.bound)
     ·cases h6:l.atom.strict
      ·simp -implicitDefEqProofs only[go_sem,Z1,Z2,Z3,Z4,h6]
       refine Lf (by kernel_rfl) (a:=sum.N) (b:=sum.D) (c:=l.atom.bound) (e:=1) (by simp -implicitDefEqProofs only[go_sem,Z1,Z2,Z3,Z4]) (by simp -implicitDefEqProofs only[go_sem,Z1,Z2,Z3,Z4]) ?_
       have e5:oi sum.N sum.D l.atom.bound 1=decide (sum=whole l.atom.bound):=pz sum (whole l.atom.bound)
       rw[e5]
       refine sB ?_
       refine iK ?_
       refine an ?_
       refine sB ?_
       rw[e,h5,h6]
       exact⟨rfl,rfl⟩
      ·simp -implicitDefEqProofs only[go_sem,Z1,Z2,Z3,Z4,h6]
       refine iK ?_
       refine an ?_
       refine sB ?_
       all_goals(simp[e,h5,h6];done)
     ·refine sB ?_
      refine iK ?_
      refine an ?_
      refine sB ?_
      all_goals(simp[e,h5];done)
end Go.Proofs.YtabembjmeobhoaaGreat
