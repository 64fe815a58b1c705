/-
  The walks of texts of terms and of atoms. A step towards the exact laws.
-/
import Derived.Test.YtgpjhjalfakpoaaGreatKAH
import Derived.Test.YtgpjhjalfakpoaaGreatKAG
set_option linter.unusedVariables false
set_option linter.unusedSimpArgs false
open Bool renaming true_and→ay,false_and→aI
open Classical renaming em→aa
open List renaming drop_eq_getElem_cons→af,drop_of_length_le→ag,getElem_mem→ai,map_cons→aQ
namespace Go.Proofs.YtgpjhjalfakpoaaGreat
open Go.Eng Go.Mod
open Int renaming reduceEq→Z1,reduceLT→Z2,reduceLE→Z3,reduceToNat→Z4
set_option maxRecDepth 100000
set_option maxHeartbeats 800000
theorem o8(t:Term)(h:t.kids≠[]):aB t=t.name++(40::(Lib.join (t.kids.map aB) [44]++[41])):=by
 have key:∀ts,gD ts=ts.map aB:=by
  intro ts
  induction ts with
  | nil=>rfl
  | cons t ts ih=>simp only[gD,aQ,ih]
 match t,h with
 | .mk n (k::ks),_=>
   simp only[aB,Term.name,Term.kids,aQ,←oe,key]
theorem nk(t:Term)(h:t.kids=[]):aB t=t.name:=by
 match t,h with
 | .mk n [],_=>rfl
theorem Hb{t:Term}{d:Nat}(h:a8 t d=true)(hd:d≤4)(hk:t.kids≠[]):(Lib.join (t.kids.map aB) [44]).length≤122:=by
 have h1:=nE h hd
 rw[o8 t hk] at h1
 simp only[List.length_append,List.length_cons] at h1
 omega
theorem FM{xs:List Term}{i:Nat}(h:i<xs.length)(f:Term→lp):gU ((xs.take i).map f)++[[.str (f xs[i])]]=gU ((xs.take (i+1)).map f):=by
 have e:xs.take (i+1)=xs.take i++[xs[i]]:=by rw[List.take_add_one,List.getElem?_eq_getElem h];rfl
 rw[e,List.map_append,←Gs]
 rfl
theorem DR{n:lp}(h:dM n=true):n.length≤2:=by
 simp only[dM,Bool.and_eq_true] at h
 have:=cz.1 h.1
 omega
theorem sy(t:Term)(ih:∀k∈t.kids,∀d:Nat,d≤4→a8 k d=true→C E.P 133 [av (cT k)] [] (bB (sv (aB k)) []))(d:Nat)(hd:d≤4)(hsh:a8 t d=true) :
 C E.P 133 [av (cT t)] [] (bB (sv (aB t)) []):=by
 cases d with
 | zero=>cases t;simp[a8] at hsh
 | succ d=>
 have hk:=iY hsh
 have hnm:=DR hk.1
 refine gS (nt:=32) (rs:=[.tmp 2]) hm Tryz.func133 fun hl he cx=>?_
 rcases aa ((t.kids.length:Int)=0) with h0|h0
 ·have e:t.kids=[]:=List.length_eq_zero_iff.1 (by omega)
  have k:=eq_true h0
  refine uG ?_
  refine al ?_
  refine sA ?_
  all_goals(simp[nk t e];done)
 ·have e:t.kids≠[]:=fun h=>h0 (by rw[h];rfl)
  have hj:=Hb hsh hd e
  simp -implicitDefEqProofs only[go_sem,h0]
  refine aG hm (fun(i:Nat)=> i≤t.kids.length) (fun(i:Nat)=> ⟨eE 32 .any [(1,.ptr 0 0),(3,.acc 1),(13,lv (aN t.kids)),(14,iv t.kids.length),(15,iv i)],[some (.box (eZ (cT t))),some (.acc 9 (gU ((t.kids.take i).map aB)))]⟩) (fun(i:Nat)=> t.kids.length-i) (0) ?_ (ax [some 0,none] ?_ ?_ rfl rfl) ?_
  rotate_left
  ·exact sC
  ·exact sC
  rotate_left
  ·omega
  ·rintro i hi
   rcases aa (i<t.kids.length) with h1|h1
   ·refine uA ?_
    have hc:=ih t.kids[i] (ai h1) d (by omega) (jc hk.2.2 _ (ai h1))
    refine aC [] hc ?_
    refine sQ ?_
    refine⟨i+1,?_,sL,ax [some 0,some 3] ?_ ?_ rfl rfl⟩
    rotate_left
    ·exact sC
    ·refine sA ?_
     all_goals(exact FM h1 _)
    exact h1
   ·have et:t.kids.take i=t.kids:=List.take_of_length_le (by omega)
    simp -implicitDefEqProofs only[go_sem,h1,et]
    refine sQ ?_
    refine iO [] [1] (wi (t.kids.map aB) [44] (by simp;omega) (by omega)) rfl ?_ ?_ ?_
    ·exact sV
    all_goals simp -implicitDefEqProofs only[go_sem]
    refine sQ ?_
    refine al ?_
    refine sA ?_
    all_goals(simp[o8 t e];done)
theorem vd:∀(t:Term)(d:Nat),d≤4→a8 t d=true→C E.P 133 [av (cT t)] [] (bB (sv (aB t)) []):=
 Term.ind fun n ks ih d h1 h2=>sy (.mk n ks) ih d h1 h2
theorem pG(s:eD)(t:Term):C E.P 79 [av (cT t),.da [c8 s] 0 0] [] (bB (bv (!cd s t)) []):=by
 refine gS (nt:=8) (rs:=[.tmp 3]) hm Tryz.func79 fun hl he cx=>?_
 refine aC [] (nR s t) ?_
 refine al ?_
 exact sC
def iu(l:List Term):Nat→Option Term
 | 0=>none
 | j+1=>l[j]?
theorem tN{p:Option Term}{ts:List Term}{ns:List Int}{i:Nat}(h:i<ts.length)(h':i<ns.length):jt p (ts.drop i) (ns.drop i)=(isTerm ts[i]&&(within ns[i] (-50) 50&&(decide (ns[i]≠0)&&((match p with|none=>true|some q=>il (aB q) (aB ts[i]))&&jt (some ts[i]) (ts.drop (i+1)) (ns.drop (i+1)))))):=by
 rw[af h,af h']
 rfl
theorem mY(t:Term)(h:isTerm t=true):C E.P 133 [av (cT t)] [] (bB (sv (aB t)) []):=vd t 4 (by omega) (im h)
theorem r6(a:Atom)(k1:a.kind=1):C E.P 75 [av (dJ a)] [] (bB (bv (bT a)) []):=by
 have e:bT a=(isTerm a.A&&(isTerm a.B&&(decide (a.aM.length=0)&&(decide (a.times.length=0)&&(decide (a.bound=0)&& !a.strict))))):=by simp[bT,k1]
 refine gS (nt:=118) (rs:=[.tmp 2]) hm Tryz.func75 fun hl he cx=>?_
 simp -implicitDefEqProofs only[go_sem,k1]
 refine aC [] (ix a.A) ?_
 cases h1:isTerm a.A
 ·simp -implicitDefEqProofs only[go_sem]
  refine al ?_
  refine sA ?_
  all_goals(simp[e,h1];done)
 ·simp -implicitDefEqProofs only[go_sem]
  refine aC [] (ix a.B) ?_
  cases h2:isTerm a.B
  ·simp -implicitDefEqProofs only[go_sem]
   refine al ?_
   refine sA ?_
   all_goals(simp[e,h1,h2];done)
  ·refine sA ?_
   rcases aa ((a.aM.length:Int)=0) with h3|h3
   ·have h3':a.aM.length=0:=by omega
    have k3:=eq_true h3
    simp -implicitDefEqProofs only[go_sem,k3]
    rcases aa ((a.times.length:Int)=0) with h4|h4
    ·have h4':a.times.length=0:=by omega
     have k4:=eq_true h4
     simp -implicitDefEqProofs only[go_sem,k4]
     rcases aa (a.bound=0) with h5|h5
     ·have k5:=eq_true h5
      simp -implicitDefEqProofs only[go_sem,k5]
      refine al ?_
      refine sA ?_
      all_goals(simp[e,h1,h2,h3',h4',h5];done)
     ·refine uE ?_
      refine al ?_
      refine sA ?_
      all_goals(simp[e,h1,h2,h3',h4',h5];done)
    ·have h4':¬a.times.length=0:=by omega
     refine uD ?_
     refine al ?_
     refine sA ?_
     all_goals(simp[e,h1,h2,h3',h4'];done)
   ·have h3':¬a.aM.length=0:=by omega
    refine uC ?_
    refine al ?_
    refine sA ?_
    all_goals(simp[e,h1,h2,h3'];done)
theorem fk{l:List Term}{i:Nat}(h:i<l.length):iu l (i+1)=some l[i]:=by simp[iu,h]
theorem qu(a:Atom)(k2:a.kind=2):C E.P 75 [av (dJ a)] [] (bB (bv (bT a)) []):=by
 have e:bT a=(isNone a.A&&(isNone a.B&&(within a.aM.length 1 4&&(decide (a.times.length=a.aM.length)&&(within a.bound (-1000) 1000&&jt none a.aM a.times))))):=by simp[bT,k2]
 refine gS (nt:=118) (rs:=[.tmp 2]) hm Tryz.func75 fun hl he cx=>?_
 simp -implicitDefEqProofs only[go_sem,Z1,k2]
 refine aC [] (pX a.A) ?_
 cases h1:isNone a.A
 ·simp -implicitDefEqProofs only[go_sem]
  refine al ?_
  refine sA ?_
  all_goals(simp[e,h1];done)
 ·simp -implicitDefEqProofs only[go_sem]
  refine aC [] (pX a.B) ?_
  cases h2:isNone a.B
  ·simp -implicitDefEqProofs only[go_sem]
   refine al ?_
   refine sA ?_
   all_goals(simp[e,h1,h2];done)
  ·simp -implicitDefEqProofs only[go_sem]
   refine aC [] (eR a.aM.length 1 4) ?_
   cases h3:within a.aM.length 1 4
   ·simp -implicitDefEqProofs only[go_sem]
    refine al ?_
    simp -implicitDefEqProofs only[go_sem]
    all_goals(simp[e,h1,h2,h3];done)
   ·simp -implicitDefEqProofs only[go_sem]
    rcases aa (a.times.length=a.aM.length) with h4|h4
    ·have k4:=eq_true h4
     simp -implicitDefEqProofs only[go_sem,k4]
     refine aC [] (eR a.bound (-1000) 1000) ?_
     cases h5:within a.bound (-1000) 1000
     ·refine sA ?_
      refine al ?_
      refine sA ?_
      all_goals(simp[e,h1,h2,h3,h4,h5];done)
     ·have e:bT a=jt none a.aM a.times:=by simp[e,h1,h2,h3,h4,h5]
      refine sA ?_
      refine aG hm (fun(i:Nat)=> i≤a.aM.length∧bT a=jt (iu a.aM i) (a.aM.drop i) (a.times.drop i)∧∀q,iu a.aM i=some q→isTerm q=true) (fun(i:Nat)=> ⟨eE 118 .any [(1,.ptr 0 0),(74,lv (aN a.aM)),(75,iv a.aM.length),(76,iv i)],[some (.box (eZ (dJ a)))]⟩) (fun(i:Nat)=> a.aM.length-i) (0) ?_ (ax [some 0] ?_ ?_ rfl rfl) ?_
      rotate_left
      ·simp -implicitDefEqProofs only[go_sem]
      ·simp -implicitDefEqProofs only[go_sem]
       all_goals(simp[*];done)
      rotate_left
      ·exact⟨by omega,e,fun q h=>by cases h⟩
      ·rintro i ⟨hi,hg,hp⟩
       rcases aa (i<a.aM.length) with g1|g1
       ·have g2:i<a.times.length:=by omega
        rw[tN g1 g2] at hg
        refine uI ?_
        refine aC [] (ix a.aM[i]) ?_
        cases q1:isTerm a.aM[i]
        ·rw[q1,aI] at hg
         simp -implicitDefEqProofs only[go_sem]
         refine iK ?_
         refine al ?_
         simp -implicitDefEqProofs only[go_sem]
         all_goals(simp[hg];done)
        ·rw[q1,ay] at hg
         simp -implicitDefEqProofs only[go_sem,g2]
         refine aC [] (eR a.times[i] (-50) 50) ?_
         cases q2:within a.times[i] (-50) 50
         ·rw[q2,aI] at hg
          simp -implicitDefEqProofs only[go_sem]
          refine iK ?_
          refine al ?_
          refine sA ?_
          all_goals(simp[hg];done)
         ·rw[q2,ay] at hg
          simp -implicitDefEqProofs only[go_sem,g2]
          rcases aa (a.times[i]=0) with q3|q3
          ·have k3:=eq_true q3
           simp only[k3,not_true,ne_eq,decide_false,aI] at hg
           simp -implicitDefEqProofs only[go_sem,k3]
           refine iK ?_
           refine al ?_
           refine sA ?_
           all_goals(simp[hg];done)
          ·simp only[q3,not_false_eq_true,ne_eq,decide_true,ay] at hg
           cases i with
           | zero=>
             simp only[iu,ay] at hg
             simp -implicitDefEqProofs only[go_sem,q3,Int.lt_irrefl]
             refine iK ?_
             refine sQ ?_
             refine⟨0+1,?_,sL,ax [some 0] ?_ ?_ rfl rfl⟩
             rotate_left
             ·refine sA ?_
              all_goals(simp[*];done)
             ·exact sC
             refine⟨by omega,?_,?_⟩
             ·rw[hg,fk g1]
             ·intro q hq
              rw[fk g1] at hq
              cases hq
              exact q1
           | succ j=>
             have hj:j<a.aM.length:=by omega
             have e1:((j:Int)+1-1)=(j:Int):=by omega
             have e2:(0:Int)<(j:Int)+1:=by omega
             have tp:=hp _ (fk hj)
             rw[fk hj] at hg
             simp only at hg
             simp -implicitDefEqProofs only[go_sem,q3,e1,e2,hj]
             refine sQ ?_
             refine aC [] (mY a.aM[j] tp) ?_
             refine aC [] (mY a.aM[j+1] q1) ?_
             refine iK ?_
             cases q4:il (aB a.aM[j]) (aB a.aM[j+1])
             ·rw[q4,aI] at hg
              have h5:Op.bytesLess (aB a.aM[j]) (aB a.aM[j+1])=false:=q4
              refine uE ?_
              refine al ?_
              refine sA ?_
              all_goals(simp[hg];done)
             ·rw[q4,ay] at hg
              have h5:Op.bytesLess (aB a.aM[j]) (aB a.aM[j+1])=true:=q4
              refine uE ?_
              refine sQ ?_
              refine⟨j+1+1,?_,sL,ax [some 0] ?_ ?_ rfl rfl⟩
              rotate_left
              ·exact sC
              ·exact sC
              refine⟨by omega,?_,?_⟩
              ·rw[hg,fk g1]
              ·intro q hq
               rw[fk g1] at hq
               cases hq
               exact q1
       ·rw[ag (by omega),ag (by omega)] at hg
        have hg:bT a=true:=by rw[hg];cases iu a.aM i<;>rfl
        refine uI ?_
        refine al ?_
        refine sA ?_
        all_goals(simp[hg];done)
    ·refine uD ?_
     refine al ?_
     refine sA ?_
     all_goals(simp[e,h1,h2,h3,h4];done)
theorem oS(a:Atom):C E.P 75 [av (dJ a)] [] (bB (bv (bT a)) []):=by
 rcases aa (a.kind=1) with k1|k1
 ·exact r6 a k1
 ·rcases aa (a.kind=2) with k2|k2
  ·exact qu a k2
  ·refine gS (nt:=118) (rs:=[.tmp 2]) hm Tryz.func75 fun hl he cx=>?_
   simp -implicitDefEqProofs only[go_sem,k1,k2]
   refine al ?_
   refine sA ?_
   all_goals(simp[bT,k1,k2];done)
theorem x9(s:eD)(a:Atom):C E.P 41 [av (c8 s),av (dJ a)] [] (bB (bv (eK s a)) []):=by
 refine gS (nt:=28) (rs:=[.tmp 4]) hm Tryz.func41 fun hl he cx=>?_
 refine aC [] (k9 s) ?_
 cases h1:dp s
 ·refine sA ?_
  refine al ?_
  refine sA ?_
  all_goals(simp[eK,h1];done)
 ·refine sA ?_
  refine aC [] (oS a) ?_
  cases h2:bT a
  ·refine sA ?_
   refine al ?_
   refine sA ?_
   all_goals(simp[eK,h1,h2];done)
  ·refine sA ?_
   rcases aa (a.kind=1) with k1|k1
   ·have k:=eq_true k1
    refine uG ?_
    refine aC [] (ss ⟨a.A,a.B⟩ s) ?_
    refine al ?_
    refine sA ?_
    all_goals(simp[eK,h1,h2,k1];done)
   ·simp -implicitDefEqProofs only[go_sem,k1]
    refine iO [] [0] (pC 79 [.da [c8 s] 0 0] rfl (fun t=>!cd s t) a.aM (fun t _=>pG s t)) rfl ?_ ?_ ?_
    ·exact sV
    all_goals simp -implicitDefEqProofs only[go_sem]
    refine al ?_
    refine sA ?_
    all_goals(simp[eK,h1,h2,k1,List.all_eq_not_any_not];done)
end Go.Proofs.YtgpjhjalfakpoaaGreat
