/-
  The walks of texts of terms and of atoms. A step towards the exact laws.
-/
import Derived.Test.YtabembjmeobhoaaGreatKDH
import Derived.Test.YtabembjmeobhoaaGreatKDG
set_option linter.unusedVariables false
set_option linter.unusedSimpArgs false
open Bool renaming true_and→aB,false_and→aK
open Classical renaming em→aa
open List renaming drop_eq_getElem_cons→ae,drop_of_length_le→ai,getElem_mem→ak,map_cons→aQ
namespace Go.Proofs.YtabembjmeobhoaaGreat
open Go.Eng Go.Mod
open Int renaming reduceEq→Z1,reduceLT→Z2,reduceLE→Z3,reduceToNat→Z4
set_option maxRecDepth 100000
set_option maxHeartbeats 800000
theorem xz(t:Term)(h:t.kids≠[]):aO t=t.name++(40::(Lib.join (t.kids.map aO) [44]++[41])):=by
 have key:∀ts,fY ts=ts.map aO:=by
  intro ts
  induction ts with
  | nil=>rfl
  | cons t ts ih=>simp only[fY,aQ,ih]
 match t,h with
 | .mk n (k::ks),_=>
   simp only[aO,Term.name,Term.kids,aQ,←w5,key]
theorem v7(t:Term)(h:t.kids=[]):aO t=t.name:=by
 match t,h with
 | .mk n [],_=>rfl
theorem Ut{t:Term}{d:Nat}(h:bO t d=true)(hd:d≤4)(hk:t.kids≠[]):(Lib.join (t.kids.map aO) [44]).length≤122:=by
 have h1:=wi h hd
 rw[xz t hk] at h1
 simp only[List.length_append,List.length_cons] at h1
 omega
theorem Su{xs:List Term}{i:Nat}(h:i<xs.length)(f:Term→nz):ml ((xs.take i).map f)++[[.str (f xs[i])]]=ml ((xs.take (i+1)).map f):=by
 have e:xs.take (i+1)=xs.take i++[xs[i]]:=by rw[List.take_add_one,List.getElem?_eq_getElem h];rfl
 rw[e,List.map_append,←Tt]
 rfl
theorem PM{n:nz}(h:fC n=true):n.length≤2:=by
 simp only[fC,Bool.and_eq_true] at h
 have:=dj.1 h.1
 omega
theorem CE(t:Term)(ih:∀k∈t.kids,∀d:Nat,d≤4→bO k d=true→C E.P 159 [av (cT k)] [] (bz (sv (aO k)) []))(d:Nat)(hd:d≤4)(hsh:bO t d=true) :
 C E.P 159 [av (cT t)] [] (bz (sv (aO t)) []):=by
 cases d with
 | zero=>cases t;simp[bO] at hsh
 | succ d=>
 have hk:=og hsh
 have hnm:=PM hk.1
 refine gS (nt:=32) (rs:=[.tmp 2]) hm Tryz.func159 fun hl he cq=>?_
 rcases aa ((t.kids.length:Int)=0) with h0|h0
 ·have e:t.kids=[]:=List.length_eq_zero_iff.1 (by omega)
  have k:=eq_true h0
  refine uG ?_
  refine an ?_
  refine sA ?_
  all_goals(simp[v7 t e];done)
 ·have e:t.kids≠[]:=fun h=>h0 (by rw[h];rfl)
  have hj:=Ut hsh hd e
  simp -implicitDefEqProofs only[go_sem,h0]
  refine aL hm (fun(i:Nat)=> i≤t.kids.length) (fun(i:Nat)=> ⟨dx 32 .any [(1,.ptr 0 0),(3,.acc 1),(13,lv (aN t.kids)),(14,iv t.kids.length),(15,iv i)],[some (.box (cE (cT t))),some (.acc 9 (ml ((t.kids.take i).map aO)))]⟩) (fun(i:Nat)=> t.kids.length-i) (0) ?_ (ar [some 0,none] ?_ ?_ rfl rfl) ?_
  rotate_left
  ·exact sC
  ·exact sC
  rotate_left
  ·omega
  ·rintro i hi
   rcases aa (i<t.kids.length) with h1|h1
   ·refine uA ?_
    have hc:=ih t.kids[i] (ak h1) d (by omega) (n7 hk.2.2 _ (ak h1))
    refine aC [] hc ?_
    refine sQ ?_
    refine⟨i+1,?_,sL,ar [some 0,some 3] ?_ ?_ rfl rfl⟩
    rotate_left
    ·exact sC
    ·refine sA ?_
     all_goals(exact Su h1 _)
    exact h1
   ·have et:t.kids.take i=t.kids:=List.take_of_length_le (by omega)
    simp -implicitDefEqProofs only[go_sem,h1,et]
    refine sQ ?_
    refine dH [] [1] (Gl (t.kids.map aO) [44] (by simp;omega) (by omega)) rfl ?_ ?_ ?_
    ·exact sV
    all_goals simp -implicitDefEqProofs only[go_sem]
    refine sQ ?_
    refine an ?_
    refine sA ?_
    all_goals(simp[xz t e];done)
theorem Eo:∀(t:Term)(d:Nat),d≤4→bO t d=true→C E.P 159 [av (cT t)] [] (bz (sv (aO t)) []):=
 Term.ind fun n ks ih d h1 h2=>CE (.mk n ks) ih d h1 h2
theorem yV(s:dK)(t:Term):C E.P 87 [av (cT t),.gq [dV s] 0 0] [] (bz (bv (!dw s t)) []):=by
 refine gS (nt:=8) (rs:=[.tmp 3]) hm Tryz.func87 fun hl he cq=>?_
 refine aC [] (wD s t) ?_
 refine an ?_
 exact sC
def nD(l:List Term):Nat→Option Term
 | 0=>none
 | j+1=>l[j]?
theorem Dr{p:Option Term}{ts:List Term}{ns:List Int}{i:Nat}(h:i<ts.length)(h':i<ns.length):kZ p (ts.drop i) (ns.drop i)=(isTerm ts[i]&&(within ns[i] (-50) 50&&(decide (ns[i]≠0)&&((match p with|none=>true|some q=>gy (aO q) (aO ts[i]))&&kZ (some ts[i]) (ts.drop (i+1)) (ns.drop (i+1)))))):=by
 rw[ae h,ae h']
 rfl
theorem na(t:Term)(h:isTerm t=true):C E.P 159 [av (cT t)] [] (bz (sv (aO t)) []):=Eo t 4 (by omega) (gK h)
theorem Bn(a:Atom)(k1:a.kind=1):C E.P 84 [av (fT a)] [] (bz (bv (cQ a)) []):=by
 have e:cQ a=(isTerm a.A&&(isTerm a.B&&(decide (a.nums.length=0)&&(decide (a.times.length=0)&&(decide (a.bound=0)&& !a.strict))))):=by simp[cQ,k1]
 refine gS (nt:=118) (rs:=[.tmp 2]) hm Tryz.func84 fun hl he cq=>?_
 simp -implicitDefEqProofs only[go_sem,k1]
 refine aC [] (iz a.A) ?_
 cases h1:isTerm a.A
 ·simp -implicitDefEqProofs only[go_sem]
  refine an ?_
  refine sA ?_
  all_goals(simp[e,h1];done)
 ·simp -implicitDefEqProofs only[go_sem]
  refine aC [] (iz a.B) ?_
  cases h2:isTerm a.B
  ·simp -implicitDefEqProofs only[go_sem]
   refine an ?_
   refine sA ?_
   all_goals(simp[e,h1,h2];done)
  ·refine sA ?_
   rcases aa ((a.nums.length:Int)=0) with h3|h3
   ·have h3':a.nums.length=0:=by omega
    have k3:=eq_true h3
    simp -implicitDefEqProofs only[go_sem,k3]
    rcases aa ((a.times.length:Int)=0) with h4|h4
    ·have h4':a.times.length=0:=by omega
     have k4:=eq_true h4
     simp -implicitDefEqProofs only[go_sem,k4]
     rcases aa (a.bound=0) with h5|h5
     ·have k5:=eq_true h5
      simp -implicitDefEqProofs only[go_sem,k5]
      refine an ?_
      refine sA ?_
      all_goals(simp[e,h1,h2,h3',h4',h5];done)
     ·refine uE ?_
      refine an ?_
      refine sA ?_
      all_goals(simp[e,h1,h2,h3',h4',h5];done)
    ·have h4':¬a.times.length=0:=by omega
     refine uD ?_
     refine an ?_
     refine sA ?_
     all_goals(simp[e,h1,h2,h3',h4'];done)
   ·have h3':¬a.nums.length=0:=by omega
    refine uC ?_
    refine an ?_
    refine sA ?_
    all_goals(simp[e,h1,h2,h3'];done)
theorem jZ{l:List Term}{i:Nat}(h:i<l.length):nD l (i+1)=some l[i]:=by simp[nD,h]
theorem zX(a:Atom)(k2:a.kind=2):C E.P 84 [av (fT a)] [] (bz (bv (cQ a)) []):=by
 have e:cQ a=(isNone a.A&&(isNone a.B&&(within a.nums.length 1 4&&(decide (a.times.length=a.nums.length)&&(within a.bound (-1000) 1000&&kZ none a.nums a.times))))):=by simp[cQ,k2]
 refine gS (nt:=118) (rs:=[.tmp 2]) hm Tryz.func84 fun hl he cq=>?_
 simp -implicitDefEqProofs only[go_sem,Z1,k2]
 refine aC [] (fH a.A) ?_
 cases h1:isNone a.A
 ·simp -implicitDefEqProofs only[go_sem]
  refine an ?_
  refine sA ?_
  all_goals(simp[e,h1];done)
 ·simp -implicitDefEqProofs only[go_sem]
  refine aC [] (fH a.B) ?_
  cases h2:isNone a.B
  ·simp -implicitDefEqProofs only[go_sem]
   refine an ?_
   refine sA ?_
   all_goals(simp[e,h1,h2];done)
  ·simp -implicitDefEqProofs only[go_sem]
   refine aC [] (fj a.nums.length 1 4) ?_
   cases h3:within a.nums.length 1 4
   ·simp -implicitDefEqProofs only[go_sem]
    refine an ?_
    simp -implicitDefEqProofs only[go_sem]
    all_goals(simp[e,h1,h2,h3];done)
   ·simp -implicitDefEqProofs only[go_sem]
    rcases aa (a.times.length=a.nums.length) with h4|h4
    ·have k4:=eq_true h4
     simp -implicitDefEqProofs only[go_sem,k4]
     refine aC [] (fj a.bound (-1000) 1000) ?_
     cases h5:within a.bound (-1000) 1000
     ·refine sA ?_
      refine an ?_
      refine sA ?_
      all_goals(simp[e,h1,h2,h3,h4,h5];done)
     ·have e:cQ a=kZ none a.nums a.times:=by simp[e,h1,h2,h3,h4,h5]
      refine sA ?_
      refine aL hm (fun(i:Nat)=> i≤a.nums.length∧cQ a=kZ (nD a.nums i) (a.nums.drop i) (a.times.drop i)∧∀q,nD a.nums i=some q→isTerm q=true) (fun(i:Nat)=> ⟨dx 118 .any [(1,.ptr 0 0),(74,lv (aN a.nums)),(75,iv a.nums.length),(76,iv i)],[some (.box (cE (fT a)))]⟩) (fun(i:Nat)=> a.nums.length-i) (0) ?_ (ar [some 0] ?_ ?_ rfl rfl) ?_
      rotate_left
      ·simp -implicitDefEqProofs only[go_sem]
      ·simp -implicitDefEqProofs only[go_sem]
       all_goals(simp[*];done)
      rotate_left
      ·exact⟨by omega,e,fun q h=>by cases h⟩
      ·rintro i ⟨hi,hg,hp⟩
       rcases aa (i<a.nums.length) with g1|g1
       ·have g2:i<a.times.length:=by omega
        rw[Dr g1 g2] at hg
        refine uI ?_
        refine aC [] (iz a.nums[i]) ?_
        cases q1:isTerm a.nums[i]
        ·rw[q1,aK] at hg
         simp -implicitDefEqProofs only[go_sem]
         refine iK ?_
         refine an ?_
         simp -implicitDefEqProofs only[go_sem]
         all_goals(simp[hg];done)
        ·rw[q1,aB] at hg
         simp -implicitDefEqProofs only[go_sem,g2]
         refine aC [] (fj a.times[i] (-50) 50) ?_
         cases q2:within a.times[i] (-50) 50
         ·rw[q2,aK] at hg
          simp -implicitDefEqProofs only[go_sem]
          refine iK ?_
          refine an ?_
          refine sA ?_
          all_goals(simp[hg];done)
         ·rw[q2,aB] at hg
          simp -implicitDefEqProofs only[go_sem,g2]
          rcases aa (a.times[i]=0) with q3|q3
          ·have k3:=eq_true q3
           simp only[k3,not_true,ne_eq,decide_false,aK] at hg
           simp -implicitDefEqProofs only[go_sem,k3]
           refine iK ?_
           refine an ?_
           refine sA ?_
           all_goals(simp[hg];done)
          ·simp only[q3,not_false_eq_true,ne_eq,decide_true,aB] at hg
           cases i with
           | zero=>
             simp only[nD,aB] at hg
             simp -implicitDefEqProofs only[go_sem,q3,Int.lt_irrefl]
             refine iK ?_
             refine sQ ?_
             refine⟨0+1,?_,sL,ar [some 0] ?_ ?_ rfl rfl⟩
             rotate_left
             ·refine sA ?_
              all_goals(simp[*];done)
             ·exact sC
             refine⟨by omega,?_,?_⟩
             ·rw[hg,jZ g1]
             ·intro q hq
              rw[jZ g1] at hq
              cases hq
              exact q1
           | succ j=>
             have hj:j<a.nums.length:=by omega
             have e1:((j:Int)+1-1)=(j:Int):=by omega
             have e2:(0:Int)<(j:Int)+1:=by omega
             have tp:=hp _ (jZ hj)
             rw[jZ hj] at hg
             simp only at hg
             simp -implicitDefEqProofs only[go_sem,q3,e1,e2,hj]
             refine sQ ?_
             refine aC [] (na a.nums[j] tp) ?_
             refine aC [] (na a.nums[j+1] q1) ?_
             refine iK ?_
             cases q4:gy (aO a.nums[j]) (aO a.nums[j+1])
             ·rw[q4,aK] at hg
              have h5:Op.bytesLess (aO a.nums[j]) (aO a.nums[j+1])=false:=q4
              refine uE ?_
              refine an ?_
              refine sA ?_
              all_goals(simp[hg];done)
             ·rw[q4,aB] at hg
              have h5:Op.bytesLess (aO a.nums[j]) (aO a.nums[j+1])=true:=q4
              refine uE ?_
              refine sQ ?_
              refine⟨j+1+1,?_,sL,ar [some 0] ?_ ?_ rfl rfl⟩
              rotate_left
              ·exact sC
              ·exact sC
              refine⟨by omega,?_,?_⟩
              ·rw[hg,jZ g1]
              ·intro q hq
               rw[jZ g1] at hq
               cases hq
               exact q1
       ·rw[ai (by omega),ai (by omega)] at hg
        have hg:cQ a=true:=by rw[hg];cases nD a.nums i<;>rfl
        refine uI ?_
        refine an ?_
        refine sA ?_
        all_goals(simp[hg];done)
    ·refine uD ?_
     refine an ?_
     refine sA ?_
     all_goals(simp[e,h1,h2,h3,h4];done)
theorem Hq(a:Atom):C E.P 84 [av (fT a)] [] (bz (bv (cQ a)) []):=by
 rcases aa (a.kind=1) with k1|k1
 ·exact Bn a k1
 ·rcases aa (a.kind=2) with k2|k2
  ·exact zX a k2
  ·refine gS (nt:=118) (rs:=[.tmp 2]) hm Tryz.func84 fun hl he cq=>?_
   simp -implicitDefEqProofs only[go_sem,k1,k2]
   refine an ?_
   refine sA ?_
   all_goals(simp[cQ,k1,k2];done)
theorem zc(s:dK)(a:Atom):C E.P 33 [av (dV s),av (fT a)] [] (bz (bv (fq s a)) []):=by
 refine gS (nt:=28) (rs:=[.tmp 4]) hm Tryz.func33 fun hl he cq=>?_
 refine aC [] (ou s) ?_
 cases h1:fI s
 ·refine sA ?_
  refine an ?_
  refine sA ?_
  all_goals(simp[fq,h1];done)
 ·refine sA ?_
  refine aC [] (Hq a) ?_
  cases h2:cQ a
  ·refine sA ?_
   refine an ?_
   refine sA ?_
   all_goals(simp[fq,h1,h2];done)
  ·refine sA ?_
   rcases aa (a.kind=1) with k1|k1
   ·have k:=eq_true k1
    refine uG ?_
    refine aC [] (uf ⟨a.A,a.B⟩ s) ?_
    refine an ?_
    refine sA ?_
    all_goals(simp[fq,h1,h2,k1];done)
   ·simp -implicitDefEqProofs only[go_sem,k1]
    refine dH [] [0] (yS 87 [.gq [dV s] 0 0] rfl (fun t=>!dw s t) a.nums (fun t _=>yV s t)) rfl ?_ ?_ ?_
    ·exact sV
    all_goals simp -implicitDefEqProofs only[go_sem]
    refine an ?_
    refine sA ?_
    all_goals(simp[fq,h1,h2,k1,List.all_eq_not_any_not];done)
end Go.Proofs.YtabembjmeobhoaaGreat
