/-
  The walks of texts of terms and of atoms. A step towards the exact laws.
-/
import Derived.Test.YtgpjhjalfakpoaaGreatKBH
import Derived.Test.YtgpjhjalfakpoaaGreatKBG
set_option linter.unusedVariables false
set_option linter.unusedSimpArgs false
open Bool renaming true_and→az,false_and→aK
open Classical renaming em→aa
open List renaming drop_eq_getElem_cons→af,drop_of_length_le→ag,getElem_mem→ah,map_cons→aR
namespace Go.Proofs.YtgpjhjalfakpoaaGreat
open Go.Eng Go.Mod
open Int renaming reduceEq→Z1,reduceLT→Z2,reduceLE→Z3,reduceToNat→Z4
set_option maxRecDepth 100000
set_option maxHeartbeats 800000
theorem pf(t:Term)(h:t.kids≠[]):aF t=t.name++(40::(Lib.join (t.kids.map aF) [44]++[41])):=by
 have key:∀ts,gV ts=ts.map aF:=by
  intro ts
  induction ts with
  | nil=>rfl
  | cons t ts ih=>simp only[gV,aR,ih]
 match t,h with
 | .mk n (k::ks),_=>
   simp only[aF,Term.name,Term.kids,aR,←pw,key]
theorem od(t:Term)(h:t.kids=[]):aF t=t.name:=by
 match t,h with
 | .mk n [],_=>rfl
theorem Hl{t:Term}{d:Nat}(h:a8 t d=true)(hd:d≤4)(hk:t.kids≠[]):(Lib.join (t.kids.map aF) [44]).length≤122:=by
 have h1:=nM h hd
 rw[pf t hk] at h1
 simp only[List.length_append,List.length_cons] at h1
 omega
theorem GI{xs:List Term}{i:Nat}(h:i<xs.length)(f:Term→lH):hY ((xs.take i).map f)++[[.str (f xs[i])]]=hY ((xs.take (i+1)).map f):=by
 have e:xs.take (i+1)=xs.take i++[xs[i]]:=by rw[List.take_add_one,List.getElem?_eq_getElem h];rfl
 rw[e,List.map_append,←GK]
 rfl
theorem Du{n:lH}(h:dV n=true):n.length≤2:=by
 simp only[dV,Bool.and_eq_true] at h
 have:=cF.1 h.1
 omega
theorem uf(t:Term)(ih:∀k∈t.kids,∀d:Nat,d≤4→a8 k d=true→C E.P 133 [av (cT k)] [] (bw (sv (aF k)) []))(d:Nat)(hd:d≤4)(hsh:a8 t d=true) :
 C E.P 133 [av (cT t)] [] (bw (sv (aF t)) []):=by
 cases d with
 | zero=>cases t;simp[a8] at hsh
 | succ d=>
 have hk:=jl hsh
 have hnm:=Du hk.1
 refine gS (nt:=32) (rs:=[.tmp 2]) hm Tryz.func133 fun hl he cp=>?_
 rcases aa ((t.kids.length:Int)=0) with h0|h0
 ·have e:t.kids=[]:=List.length_eq_zero_iff.1 (by omega)
  have k:=eq_true h0
  refine uG ?_
  refine ak ?_
  refine sA ?_
  all_goals(simp[od t e];done)
 ·have e:t.kids≠[]:=fun h=>h0 (by rw[h];rfl)
  have hj:=Hl hsh hd e
  simp -implicitDefEqProofs only[go_sem,h0]
  refine aI hm (fun(i:Nat)=> i≤t.kids.length) (fun(i:Nat)=> ⟨eQ 32 .any [(1,.ptr 0 0),(3,.acc 1),(13,lv (aQ t.kids)),(14,iv t.kids.length),(15,iv i)],[some (.box (ff (cT t))),some (.acc 9 (hY ((t.kids.take i).map aF)))]⟩) (fun(i:Nat)=> t.kids.length-i) (0) ?_ (ax [some 0,none] ?_ ?_ rfl rfl) ?_
  rotate_left
  ·exact sC
  ·exact sC
  rotate_left
  ·omega
  ·rintro i hi
   rcases aa (i<t.kids.length) with h1|h1
   ·refine uA ?_
    have hc:=ih t.kids[i] (ah h1) d (by omega) (jk hk.2.2 _ (ah h1))
    refine aC [] hc ?_
    refine sQ ?_
    refine⟨i+1,?_,sL,ax [some 0,some 3] ?_ ?_ rfl rfl⟩
    rotate_left
    ·exact sC
    ·refine sA ?_
     all_goals(exact GI h1 _)
    exact h1
   ·have et:t.kids.take i=t.kids:=List.take_of_length_le (by omega)
    simp -implicitDefEqProofs only[go_sem,h1,et]
    refine sQ ?_
    refine ja [] [1] (x9 (t.kids.map aF) [44] (by simp;omega) (by omega)) rfl ?_ ?_ ?_
    ·exact sV
    all_goals simp -implicitDefEqProofs only[go_sem]
    refine sQ ?_
    refine ak ?_
    refine sA ?_
    all_goals(simp[pf t e];done)
theorem vA:∀(t:Term)(d:Nat),d≤4→a8 t d=true→C E.P 133 [av (cT t)] [] (bw (sv (aF t)) []):=
 Term.ind fun n ks ih d h1 h2=>uf (.mk n ks) ih d h1 h2
theorem p9(s:eJ)(t:Term):C E.P 79 [av (cT t),.di [dc s] 0 0] [] (bw (bv (!cg s t)) []):=by
 refine gS (nt:=8) (rs:=[.tmp 3]) hm Tryz.func79 fun hl he cp=>?_
 refine aC [] (oz s t) ?_
 refine ak ?_
 exact sC
def iI(l:List Term):Nat→Option Term
 | 0=>none
 | j+1=>l[j]?
theorem u9{p:Option Term}{ts:List Term}{ns:List Int}{i:Nat}(h:i<ts.length)(h':i<ns.length):jB p (ts.drop i) (ns.drop i)=(isTerm ts[i]&&(within ns[i] (-50) 50&&(decide (ns[i]≠0)&&((match p with|none=>true|some q=>iE (aF q) (aF ts[i]))&&jB (some ts[i]) (ts.drop (i+1)) (ns.drop (i+1)))))):=by
 rw[af h,af h']
 rfl
theorem nz(t:Term)(h:isTerm t=true):C E.P 133 [av (cT t)] [] (bw (sv (aF t)) []):=vA t 4 (by omega) (iJ h)
theorem sn(a:Atom)(k1:a.kind=1):C E.P 75 [av (dS a)] [] (bw (bv (bW a)) []):=by
 have e:bW a=(isTerm a.A&&(isTerm a.B&&(decide (a.aP.length=0)&&(decide (a.times.length=0)&&(decide (a.bound=0)&& !a.strict))))):=by simp[bW,k1]
 refine gS (nt:=118) (rs:=[.tmp 2]) hm Tryz.func75 fun hl he cp=>?_
 simp -implicitDefEqProofs only[go_sem,k1]
 refine aC [] (iD a.A) ?_
 cases h1:isTerm a.A
 ·simp -implicitDefEqProofs only[go_sem]
  refine ak ?_
  refine sA ?_
  all_goals(simp[e,h1];done)
 ·simp -implicitDefEqProofs only[go_sem]
  refine aC [] (iD a.B) ?_
  cases h2:isTerm a.B
  ·simp -implicitDefEqProofs only[go_sem]
   refine ak ?_
   refine sA ?_
   all_goals(simp[e,h1,h2];done)
  ·refine sA ?_
   rcases aa ((a.aP.length:Int)=0) with h3|h3
   ·have h3':a.aP.length=0:=by omega
    have k3:=eq_true h3
    simp -implicitDefEqProofs only[go_sem,k3]
    rcases aa ((a.times.length:Int)=0) with h4|h4
    ·have h4':a.times.length=0:=by omega
     have k4:=eq_true h4
     simp -implicitDefEqProofs only[go_sem,k4]
     rcases aa (a.bound=0) with h5|h5
     ·have k5:=eq_true h5
      simp -implicitDefEqProofs only[go_sem,k5]
      refine ak ?_
      refine sA ?_
      all_goals(simp[e,h1,h2,h3',h4',h5];done)
     ·refine uE ?_
      refine ak ?_
      refine sA ?_
      all_goals(simp[e,h1,h2,h3',h4',h5];done)
    ·have h4':¬a.times.length=0:=by omega
     refine uD ?_
     refine ak ?_
     refine sA ?_
     all_goals(simp[e,h1,h2,h3',h4'];done)
   ·have h3':¬a.aP.length=0:=by omega
    refine uC ?_
    refine ak ?_
    refine sA ?_
    all_goals(simp[e,h1,h2,h3'];done)
theorem fE{l:List Term}{i:Nat}(h:i<l.length):iI l (i+1)=some l[i]:=by simp[iI,h]
theorem rq(a:Atom)(k2:a.kind=2):C E.P 75 [av (dS a)] [] (bw (bv (bW a)) []):=by
 have e:bW a=(isNone a.A&&(isNone a.B&&(within a.aP.length 1 4&&(decide (a.times.length=a.aP.length)&&(within a.bound (-1000) 1000&&jB none a.aP a.times))))):=by simp[bW,k2]
 refine gS (nt:=118) (rs:=[.tmp 2]) hm Tryz.func75 fun hl he cp=>?_
 simp -implicitDefEqProofs only[go_sem,Z1,k2]
 refine aC [] (qj a.A) ?_
 cases h1:isNone a.A
 ·simp -implicitDefEqProofs only[go_sem]
  refine ak ?_
  refine sA ?_
  all_goals(simp[e,h1];done)
 ·simp -implicitDefEqProofs only[go_sem]
  refine aC [] (qj a.B) ?_
  cases h2:isNone a.B
  ·simp -implicitDefEqProofs only[go_sem]
   refine ak ?_
   refine sA ?_
   all_goals(simp[e,h1,h2];done)
  ·simp -implicitDefEqProofs only[go_sem]
   refine aC [] (fh a.aP.length 1 4) ?_
   cases h3:within a.aP.length 1 4
   ·simp -implicitDefEqProofs only[go_sem]
    refine ak ?_
    simp -implicitDefEqProofs only[go_sem]
    all_goals(simp[e,h1,h2,h3];done)
   ·simp -implicitDefEqProofs only[go_sem]
    rcases aa (a.times.length=a.aP.length) with h4|h4
    ·have k4:=eq_true h4
     simp -implicitDefEqProofs only[go_sem,k4]
     refine aC [] (fh a.bound (-1000) 1000) ?_
     cases h5:within a.bound (-1000) 1000
     ·refine sA ?_
      refine ak ?_
      refine sA ?_
      all_goals(simp[e,h1,h2,h3,h4,h5];done)
     ·have e:bW a=jB none a.aP a.times:=by simp[e,h1,h2,h3,h4,h5]
      refine sA ?_
      refine aI hm (fun(i:Nat)=> i≤a.aP.length∧bW a=jB (iI a.aP i) (a.aP.drop i) (a.times.drop i)∧∀q,iI a.aP i=some q→isTerm q=true) (fun(i:Nat)=> ⟨eQ 118 .any [(1,.ptr 0 0),(74,lv (aQ a.aP)),(75,iv a.aP.length),(76,iv i)],[some (.box (ff (dS a)))]⟩) (fun(i:Nat)=> a.aP.length-i) (0) ?_ (ax [some 0] ?_ ?_ rfl rfl) ?_
      rotate_left
      ·simp -implicitDefEqProofs only[go_sem]
      ·simp -implicitDefEqProofs only[go_sem]
       all_goals(simp[*];done)
      rotate_left
      ·exact⟨by omega,e,fun q h=>by cases h⟩
      ·rintro i ⟨hi,hg,hp⟩
       rcases aa (i<a.aP.length) with g1|g1
       ·have g2:i<a.times.length:=by omega
        rw[u9 g1 g2] at hg
        refine uI ?_
        refine aC [] (iD a.aP[i]) ?_
        cases q1:isTerm a.aP[i]
        ·rw[q1,aK] at hg
         simp -implicitDefEqProofs only[go_sem]
         refine iK ?_
         refine ak ?_
         simp -implicitDefEqProofs only[go_sem]
         all_goals(simp[hg];done)
        ·rw[q1,az] at hg
         simp -implicitDefEqProofs only[go_sem,g2]
         refine aC [] (fh a.times[i] (-50) 50) ?_
         cases q2:within a.times[i] (-50) 50
         ·rw[q2,aK] at hg
          simp -implicitDefEqProofs only[go_sem]
          refine iK ?_
          refine ak ?_
          refine sA ?_
          all_goals(simp[hg];done)
         ·rw[q2,az] at hg
          simp -implicitDefEqProofs only[go_sem,g2]
          rcases aa (a.times[i]=0) with q3|q3
          ·have k3:=eq_true q3
           simp only[k3,not_true,ne_eq,decide_false,aK] at hg
           simp -implicitDefEqProofs only[go_sem,k3]
           refine iK ?_
           refine ak ?_
           refine sA ?_
           all_goals(simp[hg];done)
          ·simp only[q3,not_false_eq_true,ne_eq,decide_true,az] at hg
           cases i with
           | zero=>
             simp only[iI,az] at hg
             simp -implicitDefEqProofs only[go_sem,q3,Int.lt_irrefl]
             refine iK ?_
             refine sQ ?_
             refine⟨0+1,?_,sL,ax [some 0] ?_ ?_ rfl rfl⟩
             rotate_left
             ·refine sA ?_
              all_goals(simp[*];done)
             ·exact sC
             refine⟨by omega,?_,?_⟩
             ·rw[hg,fE g1]
             ·intro q hq
              rw[fE g1] at hq
              cases hq
              exact q1
           | succ j=>
             have hj:j<a.aP.length:=by omega
             have e1:((j:Int)+1-1)=(j:Int):=by omega
             have e2:(0:Int)<(j:Int)+1:=by omega
             have tp:=hp _ (fE hj)
             rw[fE hj] at hg
             simp only at hg
             simp -implicitDefEqProofs only[go_sem,q3,e1,e2,hj]
             refine sQ ?_
             refine aC [] (nz a.aP[j] tp) ?_
             refine aC [] (nz a.aP[j+1] q1) ?_
             refine iK ?_
             cases q4:iE (aF a.aP[j]) (aF a.aP[j+1])
             ·rw[q4,aK] at hg
              have h5:Op.bytesLess (aF a.aP[j]) (aF a.aP[j+1])=false:=q4
              refine uE ?_
              refine ak ?_
              refine sA ?_
              all_goals(simp[hg];done)
             ·rw[q4,az] at hg
              have h5:Op.bytesLess (aF a.aP[j]) (aF a.aP[j+1])=true:=q4
              refine uE ?_
              refine sQ ?_
              refine⟨j+1+1,?_,sL,ax [some 0] ?_ ?_ rfl rfl⟩
              rotate_left
              ·exact sC
              ·exact sC
              refine⟨by omega,?_,?_⟩
              ·rw[hg,fE g1]
              ·intro q hq
               rw[fE g1] at hq
               cases hq
               exact q1
       ·rw[ag (by omega),ag (by omega)] at hg
        have hg:bW a=true:=by rw[hg];cases iI a.aP i<;>rfl
        refine uI ?_
        refine ak ?_
        refine sA ?_
        all_goals(simp[hg];done)
    ·refine uD ?_
     refine ak ?_
     refine sA ?_
     all_goals(simp[e,h1,h2,h3,h4];done)
theorem o9(a:Atom):C E.P 75 [av (dS a)] [] (bw (bv (bW a)) []):=by
 rcases aa (a.kind=1) with k1|k1
 ·exact sn a k1
 ·rcases aa (a.kind=2) with k2|k2
  ·exact rq a k2
  ·refine gS (nt:=118) (rs:=[.tmp 2]) hm Tryz.func75 fun hl he cp=>?_
   simp -implicitDefEqProofs only[go_sem,k1,k2]
   refine ak ?_
   refine sA ?_
   all_goals(simp[bW,k1,k2];done)
theorem yZ(s:eJ)(a:Atom):C E.P 41 [av (dc s),av (dS a)] [] (bw (bv (fa s a)) []):=by
 refine gS (nt:=28) (rs:=[.tmp 4]) hm Tryz.func41 fun hl he cp=>?_
 refine aC [] (lp s) ?_
 cases h1:dm s
 ·refine sA ?_
  refine ak ?_
  refine sA ?_
  all_goals(simp[fa,h1];done)
 ·refine sA ?_
  refine aC [] (o9 a) ?_
  cases h2:bW a
  ·refine sA ?_
   refine ak ?_
   refine sA ?_
   all_goals(simp[fa,h1,h2];done)
  ·refine sA ?_
   rcases aa (a.kind=1) with k1|k1
   ·have k:=eq_true k1
    refine uG ?_
    refine aC [] (tD ⟨a.A,a.B⟩ s) ?_
    refine ak ?_
    refine sA ?_
    all_goals(simp[fa,h1,h2,k1];done)
   ·simp -implicitDefEqProofs only[go_sem,k1]
    refine ja [] [0] (p7 79 [.di [dc s] 0 0] rfl (fun t=>!cg s t) a.aP (fun t _=>p9 s t)) rfl ?_ ?_ ?_
    ·exact sV
    all_goals simp -implicitDefEqProofs only[go_sem]
    refine ak ?_
    refine sA ?_
    all_goals(simp[fa,h1,h2,k1,List.all_eq_not_any_not];done)
end Go.Proofs.YtgpjhjalfakpoaaGreat
