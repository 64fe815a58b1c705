/-
  The walks of texts of terms and of atoms. A step towards the exact laws.
-/
import Derived.Test.YtpidddienjoleaaGreatKDH
import Derived.Test.YtpidddienjoleaaGreatKDE
import Derived.Test.YtpidddienjoleaaGreatKDG
set_option linter.unusedVariables false
set_option linter.unusedSimpArgs false
namespace Go.Proofs.YtpidddienjoleaaGreat
open Go.Eng Go.Mod
open Int renaming reduceEq→Z1,reduceLT→Z2,reduceLE→Z3,reduceToNat→Z4
set_option maxRecDepth 100000
set_option maxHeartbeats 800000
theorem oz(t:Term)(h:t.kids≠[]):ak t=t.name++(40::(Lib.join (t.kids.map ak) [44]++[41])):=by
 have key:∀ts,bX ts=ts.map ak:=by
  intro ts
  induction ts with
  | nil=>rfl
  | cons t ts ih=>simp only[bX,List.map_cons,ih]
 match t,h with
 | .mk n (k::ks),_=>
   simp only[ak,Term.name,Term.kids,List.map_cons,←oL,key]
theorem nW(t:Term)(h:t.kids=[]):ak t=t.name:=by
 match t,h with
 | .mk n [],_=>rfl
theorem KL{t:Term}{d:Nat}(h:aB t d=true)(hd:d≤4)(hk:t.kids≠[]):(Lib.join (t.kids.map ak) [44]).length≤122:=by
 have h1:=nI h hd
 rw[oz t hk] at h1
 simp only[List.length_append,List.length_cons] at h1
 omega
theorem Kl{xs:List Term}{i:Nat}(h:i<xs.length)(f:Term→gR):fF ((xs.take i).map f)++[[.str (f xs[i])]]=fF ((xs.take (i+1)).map f):=by
 have e:xs.take (i+1)=xs.take i++[xs[i]]:=by rw[List.take_add_one,List.getElem?_eq_getElem h];rfl
 rw[e,List.map_append,←JL]
 rfl
theorem Hb{n:gR}(h:cg n=true):n.length≤2:=by
 simp only[cg,Bool.and_eq_true] at h
 have:=bu.1 h.1
 omega
theorem uF(t:Term)(ih:∀k∈t.kids,∀d:Nat,d≤4→aB k d=true→C E.P 108 [av (cT k)] [] (aO (sv (ak k)) []))(d:Nat)(hd:d≤4)(hsh:aB t d=true) :
 C E.P 108 [av (cT t)] [] (aO (sv (ak t)) []):=by
 cases d with
 | zero=>cases t;simp[aB] at hsh
 | succ d=>
 have hk:=hH hsh
 have hnm:=Hb hk.1
 refine gS (nt:=32) (rs:=[.tmp 2]) hm Tryz.func108 fun hl he hLB=>?_
 rcases Classical.em ((t.kids.length:Int)=0) with h0|h0
 ·have e:t.kids=[]:=List.length_eq_zero_iff.1 (by omega)
  have k:=eq_true h0
  simp -implicitDefEqProofs only[go_sem,k]
  refine ab ?_
  refine sA ?_
  all_goals(simp[nW t e];done)
 ·have e:t.kids≠[]:=fun h=>h0 (by rw[h];rfl)
  have hj:=KL hsh hd e
  simp -implicitDefEqProofs only[go_sem,h0]
  refine au hm (fun(i:Nat)=> i≤t.kids.length) (fun(i:Nat)=> ⟨b9 32 .any [(1,.ptr 0 0),(3,.acc 1),(13,lv (aj t.kids)),(14,iv t.kids.length),(15,iv i)],[some (.box (bn (cT t))),some (.acc 9 (fF ((t.kids.take i).map ak)))]⟩) (fun(i:Nat)=> t.kids.length-i) (0) ?_ (ah [some 0,none] ?_ ?_ rfl rfl) ?_
  rotate_left
  ·exact sC
  ·exact sC
  rotate_left
  ·omega
  ·rintro i hi
   rcases Classical.em (i<t.kids.length) with h1|h1
   ·simp -implicitDefEqProofs only[go_sem,h1]
    have hc:=ih t.kids[i] (List.getElem_mem h1) d (by omega) (gN hk.2.2 _ (List.getElem_mem h1))
    refine aC [] hc ?_
    repeat(with_reducible apply And.intro;exact sO)
    refine⟨i+1,?_,?_,ah [some 0,some 3] ?_ ?_ rfl rfl⟩
    rotate_left
    ·show _ < _
     omega
    ·exact sC
    ·refine sA ?_
     all_goals(exact Kl h1 _)
    exact h1
   ·have et:t.kids.take i=t.kids:=List.take_of_length_le (by omega)
    simp -implicitDefEqProofs only[go_sem,h1,et]
    repeat(with_reducible apply And.intro;exact sO)
    refine bK [] [1] (zi (t.kids.map ak) [44] (by simp;omega) (by omega)) rfl ?_ ?_ ?_
    ·exact sV
    all_goals simp -implicitDefEqProofs only[go_sem]
    repeat(with_reducible apply And.intro;exact sO)
    refine ab ?_
    refine sA ?_
    all_goals(simp[oz t e];done)
theorem w5:∀(t:Term)(d:Nat),d≤4→aB t d=true→C E.P 108 [av (cT t)] [] (aO (sv (ak t)) []):=
 Term.ind fun n ks ih d h1 h2=>uF (.mk n ks) ih d h1 h2
theorem qC(s:bA)(t:Term):C E.P 82 [av (cT t),.cf [bF s] 0 0] [] (aO (bv (!aY s t)) []):=by
 refine gS (nt:=8) (rs:=[.tmp 3]) hm Tryz.func82 fun hl he hLB=>?_
 refine aC [] (oj s t) ?_
 refine ab ?_
 exact sC
def gx(l:List Term):Nat→Option Term
 | 0=>none
 | j+1=>l[j]?
theorem vC{p:Option Term}{ts:List Term}{ns:List Int}{i:Nat}(h:i<ts.length)(h':i<ns.length):eU p (ts.drop i) (ns.drop i)=(isTerm ts[i]&&(within ns[i] (-50) 50&&(decide (ns[i]≠0)&&((match p with|none=>true|some q=>cR (ak q) (ak ts[i]))&&eU (some ts[i]) (ts.drop (i+1)) (ns.drop (i+1)))))):=by
 rw[List.drop_eq_getElem_cons h,List.drop_eq_getElem_cons h']
 rfl
theorem gj(t:Term)(h:isTerm t=true):C E.P 108 [av (cT t)] [] (aO (sv (ak t)) []):=w5 t 4 (by omega) (du h)
theorem tu(a:Atom)(k1:a.kind=1):C E.P 42 [av (gr a)] [] (aO (bv (aZ a)) []):=by
 have e:aZ a=(isTerm a.A&&(isTerm a.B&&(decide (a.nums.length=0)&&(decide (a.times.length=0)&&(decide (a.bound=0)&& !a.strict))))):=by simp[aZ,k1]
 refine gS (nt:=118) (rs:=[.tmp 2]) hm Tryz.func42 fun hl he hLB=>?_
 simp -implicitDefEqProofs only[go_sem,k1]
 refine aC [] (gz a.A) ?_
 cases h1:isTerm a.A
 ·simp -implicitDefEqProofs only[go_sem]
  refine ab ?_
  refine sA ?_
  all_goals(simp[e,h1];done)
 ·simp -implicitDefEqProofs only[go_sem]
  refine aC [] (gz a.B) ?_
  cases h2:isTerm a.B
  ·simp -implicitDefEqProofs only[go_sem]
   refine ab ?_
   refine sA ?_
   all_goals(simp[e,h1,h2];done)
  ·refine sA ?_
   rcases Classical.em ((a.nums.length:Int)=0) with h3|h3
   ·have h3':a.nums.length=0:=by omega
    have k3:=eq_true h3
    simp -implicitDefEqProofs only[go_sem,k3]
    rcases Classical.em ((a.times.length:Int)=0) with h4|h4
    ·have h4':a.times.length=0:=by omega
     have k4:=eq_true h4
     simp -implicitDefEqProofs only[go_sem,k4]
     rcases Classical.em (a.bound=0) with h5|h5
     ·have k5:=eq_true h5
      simp -implicitDefEqProofs only[go_sem,k5]
      refine ab ?_
      refine sA ?_
      all_goals(simp[e,h1,h2,h3',h4',h5];done)
     ·simp -implicitDefEqProofs only[go_sem,h5]
      refine ab ?_
      refine sA ?_
      all_goals(simp[e,h1,h2,h3',h4',h5];done)
    ·have h4':¬a.times.length=0:=by omega
     simp -implicitDefEqProofs only[go_sem,h4]
     refine ab ?_
     refine sA ?_
     all_goals(simp[e,h1,h2,h3',h4'];done)
   ·have h3':¬a.nums.length=0:=by omega
    simp -implicitDefEqProofs only[go_sem,h3]
    refine ab ?_
    refine sA ?_
    all_goals(simp[e,h1,h2,h3'];done)
theorem dJ{l:List Term}{i:Nat}(h:i<l.length):gx l (i+1)=some l[i]:=by simp[gx,h]
theorem rl(a:Atom)(k2:a.kind=2):C E.P 42 [av (gr a)] [] (aO (bv (aZ a)) []):=by
 have e:aZ a=(isNone a.A&&(isNone a.B&&(within a.nums.length 1 4&&(decide (a.times.length=a.nums.length)&&(within a.bound (-1000) 1000&&eU none a.nums a.times))))):=by simp[aZ,k2]
 refine gS (nt:=118) (rs:=[.tmp 2]) hm Tryz.func42 fun hl he hLB=>?_
 simp -implicitDefEqProofs only[go_sem,Z1,k2]
 refine aC [] (re a.A) ?_
 cases h1:isNone a.A
 ·simp -implicitDefEqProofs only[go_sem]
  refine ab ?_
  refine sA ?_
  all_goals(simp[e,h1];done)
 ·simp -implicitDefEqProofs only[go_sem]
  refine aC [] (re a.B) ?_
  cases h2:isNone a.B
  ·simp -implicitDefEqProofs only[go_sem]
   refine ab ?_
   refine sA ?_
   all_goals(simp[e,h1,h2];done)
  ·simp -implicitDefEqProofs only[go_sem]
   refine aC [] (b6 a.nums.length 1 4) ?_
   cases h3:within a.nums.length 1 4
   ·simp -implicitDefEqProofs only[go_sem]
    refine ab ?_
    simp -implicitDefEqProofs only[go_sem]
    all_goals(simp[e,h1,h2,h3];done)
   ·simp -implicitDefEqProofs only[go_sem]
    rcases Classical.em (a.times.length=a.nums.length) with h4|h4
    ·have k4:=eq_true h4
     simp -implicitDefEqProofs only[go_sem,k4]
     refine aC [] (b6 a.bound (-1000) 1000) ?_
     cases h5:within a.bound (-1000) 1000
     ·refine sA ?_
      refine ab ?_
      refine sA ?_
      all_goals(simp[e,h1,h2,h3,h4,h5];done)
     ·have e:aZ a=eU none a.nums a.times:=by simp[e,h1,h2,h3,h4,h5]
      refine sA ?_
      refine au hm (fun(i:Nat)=> i≤a.nums.length∧aZ a=eU (gx a.nums i) (a.nums.drop i) (a.times.drop i)∧∀q,gx a.nums i=some q→isTerm q=true) (fun(i:Nat)=> ⟨b9 118 .any [(1,.ptr 0 0),(74,lv (aj a.nums)),(75,iv a.nums.length),(76,iv i)],[some (.box (bn (gr a)))]⟩) (fun(i:Nat)=> a.nums.length-i) (0) ?_ (ah [some 0] ?_ ?_ rfl rfl) ?_
      rotate_left
      ·simp -implicitDefEqProofs only[go_sem]
      ·simp -implicitDefEqProofs only[go_sem]
       all_goals(simp[*];done)
      rotate_left
      ·exact⟨by omega,e,fun q h=>by cases h⟩
      ·rintro i ⟨hi,hg,hp⟩
       rcases Classical.em (i<a.nums.length) with g1|g1
       ·have g2:i<a.times.length:=by omega
        rw[vC g1 g2] at hg
        simp -implicitDefEqProofs only[go_sem,g1]
        refine aC [] (gz a.nums[i]) ?_
        cases q1:isTerm a.nums[i]
        ·rw[q1,Bool.false_and] at hg
         simp -implicitDefEqProofs only[go_sem]
         refine iK ?_
         refine ab ?_
         simp -implicitDefEqProofs only[go_sem]
         all_goals(simp[hg];done)
        ·rw[q1,Bool.true_and] at hg
         simp -implicitDefEqProofs only[go_sem,g2]
         refine aC [] (b6 a.times[i] (-50) 50) ?_
         cases q2:within a.times[i] (-50) 50
         ·rw[q2,Bool.false_and] at hg
          simp -implicitDefEqProofs only[go_sem]
          refine iK ?_
          refine ab ?_
          refine sA ?_
          all_goals(simp[hg];done)
         ·rw[q2,Bool.true_and] at hg
          simp -implicitDefEqProofs only[go_sem,g2]
          rcases Classical.em (a.times[i]=0) with q3|q3
          ·have k3:=eq_true q3
           simp only[k3,not_true,ne_eq,decide_false,Bool.false_and] at hg
           simp -implicitDefEqProofs only[go_sem,k3]
           refine iK ?_
           refine ab ?_
           refine sA ?_
           all_goals(simp[hg];done)
          ·simp only[q3,not_false_eq_true,ne_eq,decide_true,Bool.true_and] at hg
           cases i with
           | zero=>
             simp only[gx,Bool.true_and] at hg
             simp -implicitDefEqProofs only[go_sem,q3,Int.lt_irrefl]
             refine iK ?_
             repeat(with_reducible apply And.intro;exact sO)
             refine⟨0+1,?_,?_,ah [some 0] ?_ ?_ rfl rfl⟩
             rotate_left
             ·show _ < _
              omega
             ·refine sA ?_
              all_goals(simp[*];done)
             ·exact sC
             refine⟨by omega,?_,?_⟩
             ·rw[hg,dJ g1]
             ·intro q hq
              rw[dJ g1] at hq
              cases hq
              exact q1
           | succ j=>
             have hj:j<a.nums.length:=by omega
             have e1:((j:Int)+1-1)=(j:Int):=by omega
             have e2:(0:Int)<(j:Int)+1:=by omega
             have tp:=hp _ (dJ hj)
             rw[dJ hj] at hg
             simp only at hg
             simp -implicitDefEqProofs only[go_sem,q3,e1,e2,hj]
             repeat(with_reducible apply And.intro;exact sO)
             refine aC [] (gj a.nums[j] tp) ?_
             refine aC [] (gj a.nums[j+1] q1) ?_
             refine iK ?_
             cases q4:cR (ak a.nums[j]) (ak a.nums[j+1])
             ·rw[q4,Bool.false_and] at hg
              have h5:Op.bytesLess (ak a.nums[j]) (ak a.nums[j+1])=false:=q4
              simp -implicitDefEqProofs only[go_sem,h5]
              refine ab ?_
              refine sA ?_
              all_goals(simp[hg];done)
             ·rw[q4,Bool.true_and] at hg
              have h5:Op.bytesLess (ak a.nums[j]) (ak a.nums[j+1])=true:=q4
              simp -implicitDefEqProofs only[go_sem,h5]
              repeat(with_reducible apply And.intro;exact sO)
              refine⟨j+1+1,?_,?_,ah [some 0] ?_ ?_ rfl rfl⟩
              rotate_left
              ·show _ < _
               omega
              ·exact sC
              ·exact sC
              refine⟨by omega,?_,?_⟩
              ·rw[hg,dJ g1]
              ·intro q hq
               rw[dJ g1] at hq
               cases hq
               exact q1
       ·rw[List.drop_of_length_le (by omega),List.drop_of_length_le (by omega)] at hg
        have hg:aZ a=true:=by rw[hg];cases gx a.nums i<;>rfl
        simp -implicitDefEqProofs only[go_sem,g1]
        refine ab ?_
        refine sA ?_
        all_goals(simp[hg];done)
    ·simp -implicitDefEqProofs only[go_sem,h4]
     refine ab ?_
     refine sA ?_
     all_goals(simp[e,h1,h2,h3,h4];done)
theorem zh(a:Atom):C E.P 42 [av (gr a)] [] (aO (bv (aZ a)) []):=by
 rcases Classical.em (a.kind=1) with k1|k1
 ·exact tu a k1
 ·rcases Classical.em (a.kind=2) with k2|k2
  ·exact rl a k2
  ·refine gS (nt:=118) (rs:=[.tmp 2]) hm Tryz.func42 fun hl he hLB=>?_
   simp -implicitDefEqProofs only[go_sem,k1,k2]
   refine ab ?_
   refine sA ?_
   all_goals(simp[aZ,k1,k2];done)
theorem qW(s:bA)(a:Atom):C E.P 37 [av (bF s),av (gr a)] [] (aO (bv (bS s a)) []):=by
 refine gS (nt:=28) (rs:=[.tmp 4]) hm Tryz.func37 fun hl he hLB=>?_
 refine aC [] (j8 s) ?_
 cases h1:bV s
 ·refine sA ?_
  refine ab ?_
  refine sA ?_
  all_goals(simp[bS,h1];done)
 ·refine sA ?_
  refine aC [] (zh a) ?_
  cases h2:aZ a
  ·refine sA ?_
   refine ab ?_
   refine sA ?_
   all_goals(simp[bS,h1,h2];done)
  ·refine sA ?_
   rcases Classical.em (a.kind=1) with k1|k1
   ·have k:=eq_true k1
    simp -implicitDefEqProofs only[go_sem,k]
    refine aC [] (uM ⟨a.A,a.B⟩ s) ?_
    refine ab ?_
    refine sA ?_
    all_goals(simp[bS,h1,h2,k1];done)
   ·simp -implicitDefEqProofs only[go_sem,k1]
    refine bK [] [0] (qw 82 [.cf [bF s] 0 0] rfl (fun t=>!aY s t) a.nums (fun t _=>qC s t)) rfl ?_ ?_ ?_
    ·exact sV
    all_goals simp -implicitDefEqProofs only[go_sem]
    refine ab ?_
    refine sA ?_
    all_goals(simp[bS,h1,h2,k1,List.all_eq_not_any_not];done)
end Go.Proofs.YtpidddienjoleaaGreat
