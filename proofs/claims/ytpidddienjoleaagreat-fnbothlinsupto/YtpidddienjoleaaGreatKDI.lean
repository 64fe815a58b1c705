/-
  The reference: the walks of names, signatures, shapes and sorts. A step towards the exact laws.
-/
import Derived.Test.YtpidddienjoleaaGreatKDH
import Derived.Test.YtpidddienjoleaaGreatKDE
import Derived.Test.YtpidddienjoleaaGreatKDL
set_option linter.unusedVariables false
set_option linter.unusedSimpArgs false
namespace Go.Proofs.YtpidddienjoleaaGreat
open Go.Eng Go.Mod
open Int renaming reduceEq→Z1,reduceLT→Z2,reduceLE→Z3,reduceToNat→Z4
set_option maxRecDepth 100000
set_option maxHeartbeats 800000
theorem qN(s:gR):C E.P 67 [sv s] [] (aO (bv (cg s)) []):=by
 refine gS (nt:=28) (rs:=[.tmp 2]) hm Tryz.func67 fun hl he hLB=>?_
 refine au hm (fun(i:Nat)=> i≤s.length∧s.all c5=(s.drop i).all c5) (fun(i:Nat)=> ⟨b9 28 .any [(0,sv s),(3,iv i)],[]⟩) (fun(i:Nat)=> s.length-i) (0) ?_ (ah [] ?_ ?_ rfl rfl) ?_
 rotate_left
 ·exact sC
 ·exact sC
 rotate_left
 ·simp
 ·rintro i ⟨hi,hg⟩
  rcases Classical.em (i<s.length) with h1|h1
  ·rw[List.drop_eq_getElem_cons h1,List.all_cons] at hg
   simp -implicitDefEqProofs only[go_sem,h1]
   rw[j6 h1]
   rcases Classical.em ((s[i].toNat:Int)<97) with h2|h2
   ·have h3:c5 s[i]=false:=by simp[c5];omega
    rw[h3,Bool.false_and] at hg
    simp -implicitDefEqProofs only[go_sem,h2]
    refine ab ?_
    refine sA ?_
    all_goals(simp[cg,hg];done)
   ·simp -implicitDefEqProofs only[go_sem,h2,h1]
    rw[j6 h1]
    rcases Classical.em (122<(s[i].toNat:Int)) with h4|h4
    ·have h3:c5 s[i]=false:=by simp[c5];omega
     rw[h3,Bool.false_and] at hg
     simp -implicitDefEqProofs only[go_sem,h4]
     refine ab ?_
     refine sA ?_
     all_goals(simp[cg,hg];done)
    ·have h3:c5 s[i]=true:=by simp[c5];omega
     rw[h3,Bool.true_and] at hg
     simp -implicitDefEqProofs only[go_sem,h4]
     repeat(with_reducible apply And.intro;exact sO)
     refine⟨i+1,?_,?_,ah [] ?_ ?_ rfl rfl⟩
     rotate_left
     ·show _ < _
      omega
     ·exact sC
     ·exact sC
     exact⟨by omega,hg⟩
  ·rw[List.drop_of_length_le (by omega),List.all_nil] at hg
   have e:cg s=(decide ((1:Int)≤(s.length:Int))&&decide ((s.length:Int)≤2)):=by simp[cg,hg,within]
   rcases Classical.em ((1:Int)≤(s.length:Int)) with h2|h2
   ·simp -implicitDefEqProofs only[go_sem,h1,h2]
    refine ab ?_
    refine sA ?_
    all_goals(simp[e,h2];done)
   ·simp -implicitDefEqProofs only[go_sem,h1,h2]
    refine ab ?_
    refine sA ?_
    all_goals(simp[e,h2];done)
theorem mn(n:Int):C E.P 68 [iv n] [] (aO (bv (isSort n)) []):=by
 refine gS (nt:=9) (rs:=[.tmp 2]) hm Tryz.func68 fun hl he hLB=>?_
 rcases Classical.em (n=0) with h|h
 ·have k:=eq_true h
  simp -implicitDefEqProofs only[go_sem,k]
  refine ab ?_
  refine sA ?_
  all_goals(simp[isSort,h];done)
 ·simp -implicitDefEqProofs only[go_sem,h]
  refine ab ?_
  refine sA ?_
  all_goals(simp[isSort,h];done)
theorem tJ(s:bA):C E.P 29 [av (bF s)] [] (aO (bv (bV s)) []):=by
 refine gS (nt:=68) (rs:=[.tmp 2]) hm Tryz.func29 fun hl he hLB=>?_
 refine au hm (fun(i:Nat)=> i≤s.syms.length∧jM none s.syms=jM (dP s.syms i) (s.syms.drop i)) (fun(i:Nat)=> ⟨b9 68 .any [(1,.ptr 0 0),(3,iv i)],[some (.box (bn (bF s)))]⟩) (fun(i:Nat)=> s.syms.length-i) (0) ?_ (ah [some 0] ?_ ?_ rfl rfl) ?_
 rotate_left
 ·exact sC
 ·exact sC
 rotate_left
 ·simp[dP]
 ·rintro i ⟨hi,hg⟩
  rcases Classical.em (i<s.syms.length) with h1|h1
  ·rw[List.drop_eq_getElem_cons h1] at hg
   simp only[jM] at hg
   simp -implicitDefEqProofs only[go_sem,h1]
   refine aC [] (qN s.syms[i].name) ?_
   cases h2:cg s.syms[i].name
   ·have e:bV s=false:=by simp[bV,hg,gP,h2]
    refine sA ?_
    refine iK ?_
    refine ab ?_
    refine sA ?_
    all_goals(simp[e];done)
   ·refine sA ?_
    rcases Classical.em ((2:Int)<(s.syms[i].args.length:Int)) with h3' | h3'
    ·have h3:¬s.syms[i].args.length≤2:=by omega
     have e:bV s=false:=by simp[bV,hg,gP,h3]
     simp -implicitDefEqProofs only[go_sem,h3']
     refine iK ?_
     refine ab ?_
     refine sA ?_
     all_goals(simp[e];done)
    ·have h3:s.syms[i].args.length≤2:=by omega
     simp -implicitDefEqProofs only[go_sem,h3']
     refine aC [] (mn s.syms[i].sort) ?_
     cases h4:isSort s.syms[i].sort
     ·have e:bV s=false:=by simp[bV,hg,gP,h4]
      refine sA ?_
      refine iK ?_
      refine ab ?_
      refine sA ?_
      all_goals(simp[e];done)
     ·cases i with
      | zero=>
        simp only[dP,Bool.true_and] at hg
        simp -implicitDefEqProofs only[go_sem,Int.lt_irrefl]
        refine iK ?_
        refine au hm (fun(u:Nat)=> u≤s.syms[0].args.length∧s.syms[0].args.all isSort=(s.syms[0].args.drop u).all isSort) (fun(u:Nat)=> ⟨b9 68 .any [(1,.ptr 0 0),(3,iv (0:Nat)),(4,.ptr 1 0),(5,iv u)],[some (.box (bn (bF s))),some (.box (bn (oV s.syms[0])))]⟩) (fun(u:Nat)=> s.syms[0].args.length-u) (0) ?_ (ah [some 0,some 1] ?_ ?_ rfl rfl) ?_
        rotate_left
        ·exact sC
        ·exact sC
        rotate_left
        ·simp
        ·rintro u ⟨hu,hk⟩
         rcases Classical.em (u<s.syms[0].args.length) with g1|g1
         ·rw[List.drop_eq_getElem_cons g1,List.all_cons] at hk
          simp -implicitDefEqProofs only[go_sem,g1]
          refine aC [] (mn s.syms[0].args[u]) ?_
          cases g2:isSort s.syms[0].args[u]
          ·rw[g2,Bool.false_and] at hk
           have e:bV s=false:=by simp[bV,hg,gP,hk]
           refine sA ?_
           refine ab ?_
           refine sA ?_
           all_goals(simp[e];done)
          ·rw[g2,Bool.true_and] at hk
           refine sA ?_
           repeat(with_reducible apply And.intro;exact sO)
           refine⟨u+1,?_,?_,ah [some 0,some 1] ?_ ?_ rfl rfl⟩
           rotate_left
           ·show _ < _
            omega
           ·exact sC
           ·exact sC
           exact⟨by omega,hk⟩
         ·rw[List.drop_of_length_le (by omega),List.all_nil] at hk
          have e:gP s.syms[0]=true:=by simp[gP,h2,h3,h4,hk]
          rw[e] at hg
          simp -implicitDefEqProofs only[go_sem,g1]
          repeat(with_reducible apply And.intro;exact sO)
          refine⟨0+1,?_,?_,ah [some 0] ?_ ?_ rfl rfl⟩
          rotate_left
          ·show _ < _
           omega
          ·refine sA ?_
           all_goals(simp[*];done)
          ·exact sC
          refine⟨by omega,?_⟩
          rw[hg]
          simp[dP,h1]
      | succ j=>
        have hj:j<s.syms.length:=by omega
        have e1:((j:Int)+1-1)=(j:Int):=by omega
        have e2:(0:Int)<(j:Int)+1:=by omega
        have e3:dP s.syms (j+1)=some s.syms[j].name:=by simp[dP,hj]
        rw[e3] at hg
        simp only at hg
        simp -implicitDefEqProofs only[go_sem,e1,e2,hj]
        repeat(with_reducible apply And.intro;exact sO)
        cases q4:cR s.syms[j].name s.syms[j+1].name
        ·rw[q4,Bool.false_and,Bool.and_false] at hg
         have e:bV s=false:=by simp[bV,hg]
         have h5:Op.bytesLess s.syms[j].name s.syms[j+1].name=false:=q4
         simp -implicitDefEqProofs only[go_sem,h5]
         refine ab ?_
         refine sA ?_
         all_goals(simp[e];done)
        ·rw[q4,Bool.true_and] at hg
         have h5:Op.bytesLess s.syms[j].name s.syms[j+1].name=true:=q4
         simp -implicitDefEqProofs only[go_sem,h5]
         refine au hm (fun(u:Nat)=> u≤s.syms[j+1].args.length∧s.syms[j+1].args.all isSort=(s.syms[j+1].args.drop u).all isSort) (fun(u:Nat)=> ⟨b9 68 .any [(1,.ptr 0 0),(3,iv (j+1:Nat)),(4,.ptr 1 0),(5,iv u)],[some (.box (bn (bF s))),some (.box (bn (oV s.syms[j+1])))]⟩) (fun(u:Nat)=> s.syms[j+1].args.length-u) (0) ?_ (ah [some 0,some 1] ?_ ?_ rfl rfl) ?_
         rotate_left
         ·exact sC
         ·exact sC
         rotate_left
         ·simp
         ·rintro u ⟨hu,hk⟩
          rcases Classical.em (u<s.syms[j+1].args.length) with g1|g1
          ·rw[List.drop_eq_getElem_cons g1,List.all_cons] at hk
           simp -implicitDefEqProofs only[go_sem,g1]
           refine aC [] (mn s.syms[j+1].args[u]) ?_
           cases g2:isSort s.syms[j+1].args[u]
           ·rw[g2,Bool.false_and] at hk
            have e:bV s=false:=by simp[bV,hg,gP,hk]
            refine sA ?_
            refine ab ?_
            refine sA ?_
            all_goals(simp[e];done)
           ·rw[g2,Bool.true_and] at hk
            refine sA ?_
            repeat(with_reducible apply And.intro;exact sO)
            refine⟨u+1,?_,?_,ah [some 0,some 1] ?_ ?_ rfl rfl⟩
            rotate_left
            ·show _ < _
             omega
            ·exact sC
            ·exact sC
            exact⟨by omega,hk⟩
          ·rw[List.drop_of_length_le (by omega),List.all_nil] at hk
           have e:gP s.syms[j+1]=true:=by simp[gP,h2,h3,h4,hk]
           rw[e] at hg
           simp -implicitDefEqProofs only[go_sem,g1]
           repeat(with_reducible apply And.intro;exact sO)
           refine⟨j+1+1,?_,?_,ah [some 0] ?_ ?_ rfl rfl⟩
           rotate_left
           ·show _ < _
            omega
           ·exact sC
           ·exact sC
           refine⟨by omega,?_⟩
           rw[hg]
           simp[dP,h1]
  ·rw[List.drop_of_length_le (by omega)] at hg
   simp only[jM] at hg
   have e:bV s=decide ((s.syms.length:Int)≤7):=by simp[bV,hg];omega
   simp -implicitDefEqProofs only[go_sem,h1]
   refine ab ?_
   refine sA ?_
   all_goals(simp[e];done)
theorem Kx(t:Term)(d:Nat):aB t (d+1)=(cg t.name&&(decide (t.kids.length≤2)&&aQ t.kids d)):=by cases t;rfl
theorem Cw{ts:List Term}{i:Nat}(h:i<ts.length)(d:Nat):aQ (ts.drop i) d=(aB ts[i] d&&aQ (ts.drop (i+1)) d):=by rw[List.drop_eq_getElem_cons h,aQ]
theorem wH(t:Term)(ih:∀k∈t.kids,∀d:Nat,d≤4→C E.P 247 [av (cT k),iv d] [] (aO (bv (aB k d)) []))(d:Nat)(hd:d≤4) :
 C E.P 247 [av (cT t),iv d] [] (aO (bv (aB t d)) []):=by
 cases d with
 | zero=>
   have e:aB t 0=false:=by cases t;rfl
   have hLB:=vP
   refine Ik (nt:=36) (rs:=[.tmp 4]) hm Tryz.func247 rfl rfl rfl rfl rfl (fun hl he=>?_)
   simp -implicitDefEqProofs only[go_sem,Z2] at hl⊢
   refine ab ?_
   refine sA ?_
   all_goals(simp[e];done)
 | succ d=>
   have e:=Kx t d
   refine gS (nt:=36) (rs:=[.tmp 4]) hm Tryz.func247 fun hl he hLB=>?_
   have h0:¬ (d:Int)+1<1:=by omega
   simp -implicitDefEqProofs only[go_sem,h0]
   refine aC [] (qN t.name) ?_
   cases h2:cg t.name
   ·refine sA ?_
    refine ab ?_
    refine sA ?_
    all_goals(simp[e,h2];done)
   ·refine sA ?_
    rcases Classical.em ((2:Int)<(t.kids.length:Int)) with h3' | h3'
    ·have h3:¬t.kids.length≤2:=by omega
     simp -implicitDefEqProofs only[go_sem,h3']
     refine ab ?_
     refine sA ?_
     all_goals(simp[e,h3];done)
    ·have h3:t.kids.length≤2:=by omega
     have e:aB t (d+1)=aQ t.kids d:=by simp[e,h2,h3]
     simp -implicitDefEqProofs only[go_sem,h3']
     refine au hm (fun(i:Nat)=> i≤t.kids.length∧aQ t.kids d=aQ (t.kids.drop i) d) (fun(i:Nat)=> ⟨b9 36 .any [(1,iv ((d:Int)+1)),(2,.ptr 0 0),(5,iv i)],[some (.box (bn (cT t)))]⟩) (fun(i:Nat)=> t.kids.length-i) (0) ?_ (ah [some 0] ?_ ?_ rfl rfl) ?_
     rotate_left
     ·exact sC
     ·exact sC
     rotate_left
     ·simp
     ·rintro i ⟨hi,hg⟩
      rcases Classical.em (i<t.kids.length) with h1|h1
      ·rw[Cw h1] at hg
       have e2:(d:Int)+1-1=(d:Int):=by omega
       simp -implicitDefEqProofs only[go_sem,h1,e2]
       repeat(with_reducible apply And.intro;exact sO)
       have hc:=ih t.kids[i] (List.getElem_mem h1) d (by omega)
       refine aC [] hc ?_
       cases h4:aB t.kids[i] d
       ·rw[h4,Bool.false_and] at hg
        refine sA ?_
        refine ab ?_
        refine sA ?_
        all_goals(simp[e,hg];done)
       ·rw[h4,Bool.true_and] at hg
        refine sA ?_
        repeat(with_reducible apply And.intro;exact sO)
        refine⟨i+1,?_,?_,ah [some 0] ?_ ?_ rfl rfl⟩
        rotate_left
        ·show _ < _
         omega
        ·exact sC
        ·exact sC
        exact⟨by omega,hg⟩
      ·rw[List.drop_of_length_le (by omega),aQ] at hg
       simp -implicitDefEqProofs only[go_sem,h1]
       refine ab ?_
       refine sA ?_
       all_goals(simp[e,hg];done)
theorem yX:∀(t:Term)(d:Nat),d≤4→C E.P 247 [av (cT t),iv d] [] (aO (bv (aB t d)) []):=
 Term.ind fun n ks ih d hd=>wH (.mk n ks) ih d hd
theorem Hz{ts:List Term}{i:Nat}(h:i<ts.length)(d:Nat):fe (ts.take (i+1)) d=fe (ts.take i) d+many ts[i] d:=by
 have e:ts.take (i+1)=ts.take i++[ts[i]]:=by rw[List.take_add_one,List.getElem?_eq_getElem h];rfl
 have key:∀(xs:List Term),fe (xs++[ts[i]]) d=fe xs d+many ts[i] d:=by
  intro xs
  induction xs with
  | nil=>simp[fe]
  | cons a xs ih=>simp only[List.cons_append,fe,ih];omega
 rw[e,key]
theorem zt(t:Term)(ih:∀k∈t.kids,∀d:Nat,d≤4→aB k d=true→C E.P 248 [av (cT k),iv d] [] (aO (iv (many k d)) []))(d:Nat)(hd:d≤4)(hs:aB t d=true) :
 C E.P 248 [av (cT t),iv d] [] (aO (iv (many t d)) []):=by
 cases d with
 | zero=>cases t;simp[aB] at hs
 | succ d=>
   have hk:=hH hs
   have e:many t (d+1)=1+fe t.kids d:=by cases t;rfl
   refine gS (nt:=29) (rs:=[.tmp 4]) hm Tryz.func248 fun hl he hLB=>?_
   refine au hm (fun(i:Nat)=> i≤t.kids.length) (fun(i:Nat)=> ⟨b9 29 .any [(1,iv ((d:Int)+1)),(2,.ptr 0 0),(5,iv ((1+fe (t.kids.take i) d:Nat):Int)),(6,iv i)],[some (.box (bn (cT t)))]⟩) (fun(i:Nat)=> t.kids.length-i) (0) ?_ (ah [some 0] ?_ ?_ rfl rfl) ?_
   rotate_left
   ·refine sA ?_
    all_goals(simp[fe])
   ·exact sC
   rotate_left
   ·omega
   ·rintro i hi
    have b1:=sq (t.kids.take i) d (kd hk.2.2 i)
    have b2:(t.kids.take i).length≤2:=by simp;omega
    have b3:(2:Nat) ^ d≤2 ^ 4:=Nat.pow_le_pow_right (by omega) (by omega)
    have b4:(t.kids.take i).length*(2 ^ d-1)≤2*(2 ^ d-1):=Nat.mul_le_mul_right _ b2
    rcases Classical.em (i<t.kids.length) with h1|h1
    ·have hsk:=gN hk.2.2 _ (List.getElem_mem h1)
     have b5:=Dd t.kids[i] d hsk
     have e2:(d:Int)+1-1=(d:Int):=by omega
     have e3:(0:Int)<(d:Int)+1:=by omega
     simp -implicitDefEqProofs only[go_sem,h1,e3,e2]
     repeat(with_reducible apply And.intro;exact sO)
     have hc:=ih t.kids[i] (List.getElem_mem h1) d (by omega) hsk
     refine aC [] hc ?_
     repeat(with_reducible apply And.intro;exact sO)
     refine⟨i+1,?_,?_,ah [some 0] ?_ ?_ rfl rfl⟩
     rotate_left
     ·show _ < _
      omega
     ·refine sA ?_
      all_goals((simp only[Hz h1];simp;omega))
     ·exact sC
     exact h1
    ·have et:t.kids.take i=t.kids:=List.take_of_length_le (by omega)
     simp -implicitDefEqProofs only[go_sem,h1,et]
     refine ab ?_
     refine sA ?_
     all_goals(simp[e];done)
theorem zZ:∀(t:Term)(d:Nat),d≤4→aB t d=true→C E.P 248 [av (cT t),iv d] [] (aO (iv (many t d)) []):=
 Term.ind fun n ks ih d hd hs=>zt (.mk n ks) ih d hd hs
theorem kQ(t:Term):C E.P 213 [av (cT t)] [] (aO (bv (isTerm t)) []):=by
 have e:=uf t
 unfold right at e
 refine gS (nt:=10) (rs:=[.tmp 2]) hm Tryz.func213 fun hl he hLB=>?_
 have hc:=yX t 4 (by omega)
 refine aC [] hc ?_
 cases h:aB t 4
 ·refine sA ?_
  refine ab ?_
  refine sA ?_
  all_goals(simp[←e,h];done)
 ·have hc:=zZ t 4 (by omega) h
  refine sA ?_
  refine aC [] hc ?_
  refine ab ?_
  refine sA ?_
  rw[←e,h]
  simp
  omega
end Go.Proofs.YtpidddienjoleaaGreat
namespace Go.Proofs.YtpidddienjoleaaGreat
open Go.Eng Go.Mod
open Int renaming reduceEq→Z1,reduceLT→Z2,reduceLE→Z3,reduceToNat→Z4
set_option maxRecDepth 100000
set_option maxHeartbeats 800000
theorem Ad(s:bA)(n:gR):C E.P 185 [av (bF s),sv n] [] (aO (.eZ [av (oV ((symbol s n).getD ly)),bv (symbol s n).isSome]) []):=by
 refine gT (nt:=28) (rs:=[.cell 4 117,.tmp 5]) hm Tryz.func185 fun hl he hLB=>?_
 refine au hm (fun(i:Nat)=> i≤s.syms.length∧symbol s n=(s.syms.drop i).find? (fun x=>decide (x.name=n))) (fun(i:Nat)=> ⟨b9 28 .any [(1,sv n),(2,.ptr 0 0),(4,.ptr 1 0),(6,iv i)],[some (.box (bn (bF s))),some (.box (bn (oV ly)))]⟩) (fun(i:Nat)=> s.syms.length-i) (0) ?_ (ah [some 0,some 1] ?_ ?_ rfl rfl) ?_
 rotate_left
 ·refine sB ?_
  all_goals(first|done|(simp[ly,aJ])|(simp[aa, *];done)|(simp[aa];done)|(simp;omega)|skip)
 ·refine sB ?_
  all_goals(first|done|(simp[ly,aJ])|(simp[aa, *];done)|(simp[aa];done)|(simp;omega)|skip)
 rotate_left
 ·simp[symbol]
 ·rintro i ⟨hi,hg⟩
  rcases Classical.em (i<s.syms.length) with h1|h1
  ·rw[List.drop_eq_getElem_cons h1] at hg
   rcases Classical.em (s.syms[i].name=n) with h2|h2
   ·have e:symbol s n=some s.syms[i]:=by rw[hg];simp only[List.find?_cons,h2,decide_true]
    try simp -implicitDefEqProofs only[go_sem,Z1,Z2,Z3,Z4,h1,h2]
    try with_reducible refine iK ?_
    repeat(with_reducible apply And.intro;exact sO)
    refine ab ?_
    refine sB ?_
    all_goals(first|done|(simp[e,h2];done)|(simp[e,h2];omega)|skip)
   ·have e:symbol s n=(s.syms.drop (i+1)).find? (fun x=>decide (x.name=n)):=by rw[hg];simp only[List.find?_cons,h2,decide_false]
    try simp -implicitDefEqProofs only[go_sem,Z1,Z2,Z3,Z4,h1,h2]
    try with_reducible refine iK ?_
    repeat(with_reducible apply And.intro;exact sO)
    refine⟨i+1,?_,?_,ah [some 0,some 1] ?_ ?_ rfl rfl⟩
    rotate_left
    ·show _ < _
     omega
    ·refine sB ?_
     all_goals(first|done|(simp[aa, *];done)|(simp[aa];done)|(simp;omega)|skip)
    ·refine sB ?_
     all_goals(first|done|(simp[aa, *];done)|(simp[aa];done)|(simp;omega)|skip)
    exact⟨by omega,e⟩
  ·have e:symbol s n=none:=by rw[hg,List.drop_of_length_le (by omega)];rfl
   try simp -implicitDefEqProofs only[go_sem,Z1,Z2,Z3,Z4,h1]
   try with_reducible refine iK ?_
   refine ab ?_
   refine sB ?_
   all_goals(first|done|(simp[e,ly,mN];done)|(simp[e,ly,mN];omega)|skip)
theorem CP(s:bA)(hs:bV s=true)(t:Term)(ih:∀k∈t.kids,C E.P 125 [av (bF s),av (cT k)] [] (aO (iv ((bB s k).getD (-1))) [])) :
 C E.P 125 [av (bF s),av (cT t)] [] (aO (iv ((bB s t).getD (-1))) []):=by
 have ht:=BD s t
 refine gT (nt:=48) (rs:=[.tmp 4]) hm Tryz.func125 fun hl he hLB=>?_
 refine aD [] (Ad s t.name) ?_
 try with_reducible refine iK ?_
 cases hx:symbol s t.name with
 | none=>
   rw[hx] at ht
   simp only at ht
   try simp -implicitDefEqProofs only[go_sem,Z1,Z2,Z3,Z4,Option.isSome_none]
   try with_reducible refine iK ?_
   refine ab ?_
   refine sB ?_
   all_goals(first|done|(simp[ht];done)|(simp[ht];omega)|skip)
 | some x=>
   rw[hx] at ht
   simp only at ht
   have hxo:=(ye (A9 hs hx)).2
   rcases Classical.em (x.args.length=t.kids.length) with h1|h1
   ·simp only[h1,decide_true,Bool.true_and] at ht
    try simp -implicitDefEqProofs only[go_sem,Z1,Z2,Z3,Z4,Option.isSome_some,Option.getD_some,h1]
    try with_reducible refine iK ?_
    refine au hm (fun(i:Nat)=> i≤t.kids.length∧cq s t.kids x.args=cq s (t.kids.drop i) (x.args.drop i)) (fun(i:Nat)=> ⟨b9 48 .any [(2,.ptr 0 0),(3,.ptr 1 0),(5,.ptr 2 0),(7,iv i)],[some (.box (bn (bF s))),some (.box (bn (cT t))),some (.box (bn (oV x)))]⟩) (fun(i:Nat)=> t.kids.length-i) (0) ?_ (ah [some 0,some 1,some 2] ?_ ?_ rfl rfl) ?_
    rotate_left
    ·refine sB ?_
     all_goals(first|done|(simp[aa, *];done)|(simp[aa];done)|(simp;omega)|skip)
    ·refine sB ?_
     all_goals(first|done|(simp[aa, *];done)|(simp[aa];done)|(simp;omega)|skip)
    rotate_left
    ·simp
    ·rintro i ⟨hi,hg⟩
     rcases Classical.em (i<t.kids.length) with h2|h2
     ·have h3:i<x.args.length:=by omega
      have hso:=yD.1 (hxo x.args[i] (List.getElem_mem h3))
      rw[sK h2 h3] at hg
      try simp -implicitDefEqProofs only[go_sem,Z1,Z2,Z3,Z4,h2,h3]
      try with_reducible refine iK ?_
      have hc:=ih t.kids[i] (List.getElem_mem h2)
      refine cL [] hc ?_ ?_<;>simp -implicitDefEqProofs only[go_sem,Z1,Z2,Z3,Z4,h2,h3]
      try with_reducible refine iK ?_
      repeat(with_reducible apply And.intro;exact sO)
      rcases Classical.em ((bB s t.kids[i]).getD (-1)=x.args[i]) with hn|hn
      ·have hn2:bB s t.kids[i]=some x.args[i]:=by
        cases hk:bB s t.kids[i] with
        | none=>rw[hk] at hn;simp only[Option.getD_none] at hn;omega
        | some n=>rw[hk] at hn;simp only[Option.getD_some] at hn;rw[hn]
       have hz:cq s t.kids x.args=cq s (t.kids.drop (i+1)) (x.args.drop (i+1)):=by rw[hg,hn2];simp
       have k:=eq_true hn
       try simp -implicitDefEqProofs only[go_sem,Z1,Z2,Z3,Z4,k]
       try with_reducible refine iK ?_
       repeat(with_reducible apply And.intro;exact sO)
       refine⟨i+1,?_,?_,ah [some 0,some 1,some 2] ?_ ?_ rfl rfl⟩
       rotate_left
       ·show _ < _
        omega
       ·refine sB ?_
        all_goals(first|done|(simp[aa, *];done)|(simp[aa];done)|(simp;omega)|skip)
       ·refine sB ?_
        all_goals(first|done|(simp[aa, *];done)|(simp[aa];done)|(simp;omega)|skip)
       exact⟨by omega,hz⟩
      ·have hn2:¬bB s t.kids[i]=some x.args[i]:=fun h=>hn (by rw[h];rfl)
       have hz:cq s t.kids x.args=false:=by
        rw[hg]
        simp[hn2]
       rw[hz] at ht
       simp only[Bool.false_eq_true,if_false] at ht
       try simp -implicitDefEqProofs only[go_sem,Z1,Z2,Z3,Z4,hn]
       try with_reducible refine iK ?_
       refine ab ?_
       refine sB ?_
       all_goals(first|done|(simp[ht];done)|(simp[ht];omega)|skip)
     ·rw[List.drop_of_length_le (by omega),List.drop_of_length_le (by omega)] at hg
      rw[hg] at ht
      simp only[cq,if_true] at ht
      try simp -implicitDefEqProofs only[go_sem,Z1,Z2,Z3,Z4,h2]
      try with_reducible refine iK ?_
      refine ab ?_
      refine sB ?_
      all_goals(first|done|(simp[ht];done)|(simp[ht];omega)|skip)
   ·simp only[h1,decide_false,Bool.false_and,Bool.false_eq_true,if_false] at ht
    try simp -implicitDefEqProofs only[go_sem,Z1,Z2,Z3,Z4,Option.isSome_some,Option.getD_some,h1]
    try with_reducible refine iK ?_
    refine ab ?_
    refine sB ?_
    all_goals(first|done|(simp[ht];done)|(simp[ht];omega)|skip)
theorem lP(s:bA)(hs:bV s=true):∀(t:Term),C E.P 125 [av (bF s),av (cT t)] [] (aO (iv ((bB s t).getD (-1))) []):=
 Term.ind fun n ks ih=>CP s hs (.mk n ks) ih
theorem drop_eq{α:Type}{xs ys:List α}{i:Nat}(h:i<xs.length)(h':i<ys.length):(xs.drop i=ys.drop i)=(xs[i]=ys[i]∧xs.drop (i+1)=ys.drop (i+1)):=by
 rw[List.drop_eq_getElem_cons h,List.drop_eq_getElem_cons h',List.cons.injEq]
theorem uG(a b:Term)(ih:∀k∈a.kids,∀y,C E.P 184 [av (cT k),av (cT y)] [] (aO (bv (decide (k=y))) [])):C E.P 184 [av (cT a),av (cT b)] [] (aO (bv (decide (a=b))) []):=by
 refine gT (nt:=39) (rs:=[.tmp 4]) hm Tryz.func184 fun hl he hLB=>?_
 rcases Classical.em (a.name=b.name) with h|h
 ·have k:=eq_true h
  try simp -implicitDefEqProofs only[go_sem,Z1,Z2,Z3,Z4,k]
  try with_reducible refine iK ?_
  rcases Classical.em (a.kids.length=b.kids.length) with h2|h2
  ·have k2:=eq_true h2
   try simp -implicitDefEqProofs only[go_sem,Z1,Z2,Z3,Z4,k2]
   try with_reducible refine iK ?_
   refine au hm (fun(i:Nat)=> i≤a.kids.length∧(a.kids=b.kids↔a.kids.drop i=b.kids.drop i)) (fun(i:Nat)=> ⟨b9 39 .any [(2,.ptr 0 0),(3,.ptr 1 0),(5,iv i)],[some (.box (bn (cT a))),some (.box (bn (cT b)))]⟩) (fun(i:Nat)=> a.kids.length-i) (0) ?_ (ah [some 0,some 1] ?_ ?_ rfl rfl) ?_
   rotate_left
   ·refine sB ?_
    all_goals(first|done|(simp[aa, *];done)|(simp[aa];done)|(simp;omega)|skip)
   ·refine sB ?_
    all_goals(first|done|(simp[aa, *];done)|(simp[aa];done)|(simp;omega)|skip)
   rotate_left
   ·simp
   ·rintro i ⟨hi,hg⟩
    rcases Classical.em (i<a.kids.length) with h3|h3
    ·have h4:i<b.kids.length:=by omega
     rw[drop_eq h3 h4] at hg
     try simp -implicitDefEqProofs only[go_sem,Z1,Z2,Z3,Z4,h3,h4]
     try with_reducible refine iK ?_
     have hc:=ih a.kids[i] (List.getElem_mem h3) b.kids[i]
     refine aD [] hc ?_
     try with_reducible refine iK ?_
     rcases Classical.em (a.kids[i]=b.kids[i]) with h5|h5
     ·have k5:=eq_true h5
      try simp -implicitDefEqProofs only[go_sem,Z1,Z2,Z3,Z4,k5]
      try with_reducible refine iK ?_
      repeat(with_reducible apply And.intro;exact sO)
      refine⟨i+1,?_,?_,ah [some 0,some 1] ?_ ?_ rfl rfl⟩
      rotate_left
      ·show _ < _
       omega
      ·refine sB ?_
       all_goals(first|done|(simp[aa, *];done)|(simp[aa];done)|(simp;omega)|skip)
      ·refine sB ?_
       all_goals(first|done|(simp[aa, *];done)|(simp[aa];done)|(simp;omega)|skip)
      refine⟨by omega,?_⟩
      rw[hg]
      simp[h5]
     ·have e:¬a.kids=b.kids:=fun hh=>h5 (hg.1 hh).1
      try simp -implicitDefEqProofs only[go_sem,Z1,Z2,Z3,Z4,h5]
      try with_reducible refine iK ?_
      refine ab ?_
      refine sB ?_
      all_goals(first|done|(simp[jk,e];done)|(simp[jk,e];omega)|skip)
    ·rw[List.drop_of_length_le (by omega),List.drop_of_length_le (by omega)] at hg
     try simp -implicitDefEqProofs only[go_sem,Z1,Z2,Z3,Z4,h3]
     try with_reducible refine iK ?_
     refine ab ?_
     refine sB ?_
     all_goals(first|done|(simp[jk,h,hg];done)|(simp[jk,h,hg];omega)|skip)
  ·have e:¬a.kids=b.kids:=fun hh=>h2 (by rw[hh])
   try simp -implicitDefEqProofs only[go_sem,Z1,Z2,Z3,Z4,h2]
   try with_reducible refine iK ?_
   refine ab ?_
   refine sB ?_
   all_goals(first|done|(simp[jk,e];done)|(simp[jk,e];omega)|skip)
 ·try simp -implicitDefEqProofs only[go_sem,Z1,Z2,Z3,Z4,h]
  try with_reducible refine iK ?_
  refine ab ?_
  refine sB ?_
  all_goals(first|done|(simp[jk,h];done)|(simp[jk,h];omega)|skip)
theorem w6:∀a b,C E.P 184 [av (cT a),av (cT b)] [] (aO (bv (decide (a=b))) []):=
 Term.ind fun n ks ih b=>uG (.mk n ks) b ih
theorem jg(t:Term):C E.P 245 [av (cT t)] [] (aO (bv (isNone t)) []):=by
 refine gT (nt:=12) (rs:=[.tmp 2]) hm Tryz.func245 fun hl he hLB=>?_
 rcases Classical.em (t.name=[]) with h|h
 ·have k:=eq_true h
  try simp -implicitDefEqProofs only[go_sem,Z1,Z2,Z3,Z4,k]
  try with_reducible refine iK ?_
  refine ab ?_
  refine sB ?_
  all_goals(first|done|(simp[isNone,h];done)|(simp[isNone,h];omega)|skip)
 ·try simp -implicitDefEqProofs only[go_sem,Z1,Z2,Z3,Z4,h]
  try with_reducible refine iK ?_
  refine ab ?_
  refine sB ?_
  all_goals(first|done|(simp[isNone,h];done)|(simp[isNone,h];omega)|skip)
theorem y6(t:Term)(ih:∀k∈t.kids,C E.P 46 [av (cT k)] [] (aO (av (cT k)) [])):C E.P 46 [av (cT t)] [] (aO (av (cT t)) []):=by
 refine gT (nt:=27) (rs:=[.cell 2 35]) hm Tryz.func46 fun hl he hLB=>?_
 refine au hm (fun(i:Nat)=> i≤t.kids.length) (fun(i:Nat)=> ⟨b9 27 .any [(1,.ptr 0 0),(2,.ptr 1 0),(3,.ptr 2 0),(4,iv i)],[some (.box (bn (cT t))),some (.box (bn (cT ao))),some (.box [.d (.str t.name),.acc 3]),some (.acc 35 (aj (t.kids.take i)))]⟩) (fun(i:Nat)=> t.kids.length-i) (0) ?_ (ah [some 0,some 1,some 2,none] ?_ ?_ rfl rfl) ?_
 rotate_left
 ·refine sB ?_
  all_goals(first|done|(simp[aa, *];done)|(simp[aa];done)|(simp;omega)|skip)
 ·refine sB ?_
  all_goals(first|done|(simp[aa, *];done)|(simp[aa];done)|(simp;omega)|skip)
 rotate_left
 ·omega
 ·rintro i hi
  rcases Classical.em (i<t.kids.length) with h1|h1
  ·try simp -implicitDefEqProofs only[go_sem,Z1,Z2,Z3,Z4,h1]
   try with_reducible refine iK ?_
   have hc:=ih t.kids[i] (List.getElem_mem h1)
   refine aD [] hc ?_
   try with_reducible refine iK ?_
   repeat(with_reducible apply And.intro;exact sO)
   refine⟨i+1,?_,?_,ah [some 0,some 1,some 2,some 4] ?_ ?_ rfl rfl⟩
   rotate_left
   ·show _ < _
    omega
   ·refine sB ?_
    all_goals(first|done|(exact n7 h1)|(simp[aa, *];done)|(simp[aa];done)|(simp;omega)|skip)
   ·refine sB ?_
    all_goals(first|done|(exact n7 h1)|(simp[aa, *];done)|(simp[aa];done)|(simp;omega)|skip)
   exact h1
  ·have et:t.kids.take i=t.kids:=List.take_of_length_le (by omega)
   try simp -implicitDefEqProofs only[go_sem,Z1,Z2,Z3,Z4,h1,et]
   try with_reducible refine iK ?_
   refine ab ?_
   refine sB ?_
   all_goals(first|done|(simp;done)|(simp;omega)|skip)
theorem jc:∀t,C E.P 46 [av (cT t)] [] (aO (av (cT t)) []):=
 Term.ind fun n ks ih=>y6 (.mk n ks) ih
theorem fM(ts:List Term)(t:Term):C E.P 123 [lv (aj ts),av (cT t)] [] (aO (iv (aF ts t)) []):=by
 refine gT (nt:=19) (rs:=[.tmp 4]) hm Tryz.func123 fun hl he hLB=>?_
 refine au hm (fun(i:Nat)=> i≤ts.length∧aF ts t=bZ (fun u=>decide (t=u)) (ts.drop i) i) (fun(i:Nat)=> ⟨b9 19 .any [(0,lv (aj ts)),(3,.ptr 0 0),(5,iv i)],[some (.box (bn (cT t)))]⟩) (fun(i:Nat)=> ts.length-i) (0) ?_ (ah [some 0] ?_ ?_ rfl rfl) ?_
 rotate_left
 ·refine sB ?_
  all_goals(first|done|(simp[aa, *];done)|(simp[aa];done)|(simp;omega)|skip)
 ·refine sB ?_
  all_goals(first|done|(simp[aa, *];done)|(simp[aa];done)|(simp;omega)|skip)
 rotate_left
 ·simp[aF,idxOf]
 ·rintro i ⟨hi,hg⟩
  rcases Classical.em (i<ts.length) with h1|h1
  ·rw[List.drop_eq_getElem_cons h1,bZ] at hg
   try simp -implicitDefEqProofs only[go_sem,Z1,Z2,Z3,Z4,h1]
   try with_reducible refine iK ?_
   refine aD [] (w6 ts[i] t) ?_
   try with_reducible refine iK ?_
   rcases Classical.em (ts[i]=t) with h2|h2
   ·have k:=eq_true h2
    simp only[h2,decide_true,if_true] at hg
    try simp -implicitDefEqProofs only[go_sem,Z1,Z2,Z3,Z4,k]
    try with_reducible refine iK ?_
    refine ab ?_
    refine sB ?_
    all_goals(first|done|(simp[hg];done)|(simp[hg];omega)|skip)
   ·have h3:¬t=ts[i]:=fun h=>h2 h.symm
    simp only[h3,decide_false,Bool.false_eq_true,if_false] at hg
    try simp -implicitDefEqProofs only[go_sem,Z1,Z2,Z3,Z4,h2]
    try with_reducible refine iK ?_
    repeat(with_reducible apply And.intro;exact sO)
    refine⟨i+1,?_,?_,ah [some 0] ?_ ?_ rfl rfl⟩
    rotate_left
    ·show _ < _
     omega
    ·refine sB ?_
     all_goals(first|done|(simp[aa, *];done)|(simp[aa];done)|(simp;omega)|skip)
    ·refine sB ?_
     all_goals(first|done|(simp[aa, *];done)|(simp[aa];done)|(simp;omega)|skip)
    exact⟨by omega,by rw[hg];rfl⟩
  ·rw[List.drop_of_length_le (by omega),bZ] at hg
   try simp -implicitDefEqProofs only[go_sem,Z1,Z2,Z3,Z4,h1]
   try with_reducible refine iK ?_
   refine ab ?_
   refine sB ?_
   all_goals(first|done|(simp[hg];done)|(simp[hg];omega)|skip)
theorem xd(t:Term)(ih:∀k∈t.kids,∀(d:Nat)(l:List Term),d≤4→aB k d=true→l.length≤999000+15*(4-d)→C E.P 127 [.acc 0,av (cT k)] [some (.acc 35 (aj l))] (aO (.acc 1) [some .dead,some (.acc 35 (aj (a8 l k)))]))(d:Nat)(l:List Term)
 (hd:d≤4) (hsh:aB t d=true) (hl1:l.length≤999000+15*(4-d)) :
 C E.P 127 [.acc 0,av (cT t)] [some (.acc 35 (aj l))] (aO (.acc 1) [some .dead,some (.acc 35 (aj (a8 l t)))]):=by
 cases d with
 | zero=>cases t;simp[aB] at hsh
 | succ d=>
 have hk:=hH hsh
 have hle:=fun i=>q9 (l:=l) hsh (by omega) i
 refine gT (nt:=30) (rs:=[.tmp 4]) hm Tryz.func127 fun hl he hLB=>?_
 refine au hm (fun(i:Nat)=> i≤t.kids.length) (fun(i:Nat)=> ⟨b9 30 .any [(0,.acc 2),(3,.ptr 1 0),(5,iv i)],[some .dead,some (.box (bn (cT t))),some (.acc 35 (aj (aq l (t.kids.take i))))]⟩) (fun(i:Nat)=> t.kids.length-i) (0) ?_ (ah [some 0,some 1,some 0] ?_ ?_ rfl rfl) ?_
 rotate_left
 ·refine sB ?_
  all_goals(first|done|(simp only[aq])|(simp[aa, *];done)|(simp[aa];done)|(simp;omega)|skip)
 ·refine sB ?_
  all_goals(first|done|(simp only[aq])|(simp[aa, *];done)|(simp[aa];done)|(simp;omega)|skip)
 rotate_left
 ·omega
 ·rintro i hi
  rcases Classical.em (i<t.kids.length) with h1|h1
  ·try simp -implicitDefEqProofs only[go_sem,Z1,Z2,Z3,Z4,h1]
   try with_reducible refine iK ?_
   have hc:=ih t.kids[i] (List.getElem_mem h1) d (aq l (t.kids.take i)) (by omega) (gN hk.2.2 _ (List.getElem_mem h1)) (by have:=hle i;omega)
   refine oD [] [2,3] hc ?_
   try with_reducible refine iK ?_
   repeat(with_reducible apply And.intro;exact sO)
   refine⟨i+1,?_,?_,ah [some 0,some 1,some 3] ?_ ?_ rfl rfl⟩
   rotate_left
   ·show _ < _
    omega
   ·refine sB ?_
    all_goals(first|done|(simp only[jV h1])|(simp[aa, *];done)|(simp[aa];done)|(simp;omega)|skip)
   ·refine sB ?_
    all_goals(first|done|(simp only[jV h1])|(simp[aa, *];done)|(simp[aa];done)|(simp;omega)|skip)
   exact h1
  ·have e:t.kids.take i=t.kids:=List.take_of_length_le (by omega)
   have h2:=hle i
   rw[e] at h2
   try simp -implicitDefEqProofs only[go_sem,Z1,Z2,Z3,Z4,h1,e]
   try with_reducible refine iK ?_
   refine bK [] [2] (fM (aq l t.kids) t) rfl ?_ ?_ ?_
   ·exact sV
   all_goals simp -implicitDefEqProofs only[go_sem,Z1,Z2,Z3,Z4]
   try with_reducible refine iK ?_
   rcases Classical.em (0≤aF (aq l t.kids) t) with hx|hx
   ·have hx':¬aF (aq l t.kids) t<0:=by omega
    try simp -implicitDefEqProofs only[go_sem,Z1,Z2,Z3,Z4,hx]
    try with_reducible refine iK ?_
    refine aG [some 0,some 2] ?_ rfl rfl
    refine sB ?_
    rw[kg,if_neg hx']
   ·have hx':aF (aq l t.kids) t<0:=by omega
    try simp -implicitDefEqProofs only[go_sem,Z1,Z2,Z3,Z4,hx]
    try with_reducible refine iK ?_
    refine aD [] (jc t) ?_
    try with_reducible refine iK ?_
    repeat(with_reducible apply And.intro;exact sO)
    refine aG [some 0,some 3] ?_ rfl rfl
    refine sB ?_
    rw[kg,if_pos hx',←fq,bT,fx]
    rfl
theorem yx:∀(t:Term)(d:Nat)(l:List Term),d≤4→aB t d=true→l.length≤999000+15*(4-d)→C E.P 127 [.acc 0,av (cT t)] [some (.acc 35 (aj l))] (aO (.acc 1) [some .dead,some (.acc 35 (aj (a8 l t)))]):=
 Term.ind fun n ks ih d l h1 h2 h3=>xd (.mk n ks) ih d l h1 h2 h3
end Go.Proofs.YtpidddienjoleaaGreat
namespace Go.Proofs.YtpidddienjoleaaGreat
open Go.Eng Go.Mod
open Int renaming reduceEq→Z1,reduceLT→Z2,reduceLE→Z3,reduceToNat→Z4
set_option maxRecDepth 100000
set_option maxHeartbeats 800000
theorem wu:∀(xs:List gR)(x:gR),dH (xs++[x])=if xs=[] then x else dH xs++(44::x)
 | [],x=>by simp[dH]
 | [a],x=>by simp[dH]
 | a::b::xs,x=>by
   have:=wu (b::xs) x
   simp only[List.cons_append] at this
   simp[dH,this]
def iw(t:Term)(i:Nat):gR:=match i with
 | 0=>t.name
 | i+1=>t.name++(40::dH ((t.kids.take (i+1)).map ak))
theorem vK{t:Term}{i:Nat}(h:i<t.kids.length):iw t (i+1)=iw t i++((if i=0 then [40] else [44])++ak t.kids[i]):=by
 have e:(t.kids.take (i+1)).map ak=(t.kids.take i).map ak++[ak t.kids[i]]:=by
  rw[gO h,List.map_append];rfl
 cases i with
 | zero=>
   simp only[iw,e,List.take_zero,List.map_nil,List.nil_append,dH,if_true]
   rfl
 | succ i=>
   have hne:¬ (t.kids.take (i+1)).map ak=[]:=by
    intro hh
    have hz:t.kids.take (i+1)=[]:=by simpa using hh
    have hz2:(t.kids.take (i+1)).length=0:=by rw[hz];rfl
    rw[List.length_take] at hz2
    omega
   simp only[iw,e,wu,hne,if_false]
   simp
theorem rK{t:Term}(h:t.kids≠[]):ak t=iw t t.kids.length++[41]:=by
 rw[oz t h,←oL]
 match hk:t.kids.length,h with
 | 0,h=>exact absurd (List.length_eq_zero_iff.1 hk) h
 | n+1,_=>
   have hk':t.kids.take (n+1)=t.kids:=List.take_of_length_le (by omega)
   simp only[iw,hk']
   simp
theorem Hk{t:Term}{d:Nat}(h:aB t d=true)(hd:d≤4)(i:Nat)(hi:i≤t.kids.length):(iw t i).length≤122:=by
 have key:∀k,i+k≤t.kids.length→(iw t i).length≤(iw t (i+k)).length:=by
  intro k
  induction k with
  | zero=>intro _;exact Nat.le_refl _
  | succ k ih=>
    intro hk
    have h1:=ih (by omega)
    rw[←Nat.add_assoc,vK (by omega)]
    simp only[List.length_append]
    omega
 have h1:=key (t.kids.length-i) (by omega)
 rw[show i+(t.kids.length-i)=t.kids.length by omega] at h1
 have h2:=nI h hd
 rcases Classical.em (t.kids=[]) with hk|hk
 ·rw[nW t hk] at h2
  have hi0:i=0:=by rw[hk] at hi;simpa using hi
  subst hi0
  simp only[iw]
  omega
 ·rw[rK hk] at h2
  simp only[List.length_append,List.length_cons,List.length_nil] at h2
  omega
theorem yn(t:Term)(ih:∀k∈t.kids,∀d:Nat,d≤4→aB k d=true→C E.P 246 [av (cT k)] [] (aO (sv (ak k)) []))(d:Nat)(hd:d≤4)(hsh:aB t d=true) :
 C E.P 246 [av (cT t)] [] (aO (sv (ak t)) []):=by
 cases d with
 | zero=>cases t;simp[aB] at hsh
 | succ d=>
 have hk:=hH hsh
 have hlen:=fun i hi=>Hk hsh hd i hi
 refine gT (nt:=34) (rs:=[.tmp 2]) hm Tryz.func246 fun hl he hLB=>?_
 refine au hm (fun(i:Nat)=> i≤t.kids.length) (fun(i:Nat)=> ⟨b9 34 .any [(1,.ptr 0 0),(3,sv (iw t i)),(4,iv i)],[some (.box (bn (cT t)))]⟩) (fun(i:Nat)=> t.kids.length-i) (0) ?_ (ah [some 0] ?_ ?_ rfl rfl) ?_
 rotate_left
 ·refine sB ?_
  all_goals(first|done|(simp[iw])|(simp[aa, *];done)|(simp[aa];done)|(simp;omega)|skip)
 ·refine sB ?_
  all_goals(first|done|(simp[iw])|(simp[aa, *];done)|(simp[aa];done)|(simp;omega)|skip)
 rotate_left
 ·omega
 ·rintro i hi
  rcases Classical.em (i<t.kids.length) with h1|h1
  ·have hsk:=gN hk.2.2 _ (List.getElem_mem h1)
   have b1:=nI hsk (by omega)
   have b2:=hlen i hi
   have hc:=ih t.kids[i] (List.getElem_mem h1) d (by omega) hsk
   have hst:=vK h1
   try simp -implicitDefEqProofs only[go_sem,Z1,Z2,Z3,Z4,h1]
   try with_reducible refine iK ?_
   cases i with
   | zero=>
     try simp -implicitDefEqProofs only[go_sem,Z1,Z2,Z3,Z4,h1]
     try with_reducible refine iK ?_
     repeat(with_reducible apply And.intro;exact sO)
     refine aD [] hc ?_
     try with_reducible refine iK ?_
     repeat(with_reducible apply And.intro;exact sO)
     refine⟨0+1,?_,?_,ah [some 0] ?_ ?_ rfl rfl⟩
     rotate_left
     ·show _ < _
      omega
     ·refine sB ?_
      all_goals(first|done|((rw[hst];simp))|(simp[aa, *];done)|(simp[aa];done)|(simp;omega)|skip)
     ·refine sB ?_
      all_goals(first|done|((rw[hst];simp))|(simp[aa, *];done)|(simp[aa];done)|(simp;omega)|skip)
     exact h1
   | succ i=>
     have e1:¬ (i:Int)+1=0:=by omega
     have et:((i:Int)+1).toNat=i+1:=by omega
     try simp -implicitDefEqProofs only[go_sem,Z1,Z2,Z3,Z4,e1,et,h1]
     try with_reducible refine iK ?_
     repeat(with_reducible apply And.intro;exact sO)
     refine aD [] hc ?_
     try with_reducible refine iK ?_
     repeat(with_reducible apply And.intro;exact sO)
     refine⟨i+1+1,?_,?_,ah [some 0] ?_ ?_ rfl rfl⟩
     rotate_left
     ·show _ < _
      omega
     ·refine sB ?_
      all_goals(first|done|((rw[hst];simp))|(simp[aa, *];done)|(simp[aa];done)|(simp;omega)|skip)
     ·refine sB ?_
      all_goals(first|done|((rw[hst];simp))|(simp[aa, *];done)|(simp[aa];done)|(simp;omega)|skip)
     exact h1
  ·have hi2:i=t.kids.length:=by omega
   subst hi2
   have b2:=hlen _ (Nat.le_refl _)
   rcases Classical.em ((0:Int)<(t.kids.length:Int)) with h3|h3
   ·have hne:t.kids≠[]:=by
     intro hh
     rw[hh] at h3
     simp at h3
    try simp -implicitDefEqProofs only[go_sem,Z1,Z2,Z3,Z4,h1,h3]
    try with_reducible refine iK ?_
    repeat(with_reducible apply And.intro;exact sO)
    refine ab ?_
    refine sB ?_
    all_goals(first|done|(simp[rK hne];done)|(simp[rK hne];omega)|skip)
   ·have hne:t.kids=[]:=List.length_eq_zero_iff.1 (by omega)
    have e:iw t t.kids.length=ak t:=by rw[nW t hne,hne];rfl
    try simp -implicitDefEqProofs only[go_sem,Z1,Z2,Z3,Z4,h1,h3]
    try with_reducible refine iK ?_
    refine ab ?_
    refine sB ?_
    all_goals(first|done|(simp[e];done)|(simp[e];omega)|skip)
theorem fv:∀(t:Term)(d:Nat),d≤4→aB t d=true→C E.P 246 [av (cT t)] [] (aO (sv (ak t)) []):=
 Term.ind fun n ks ih d h1 h2=>yn (.mk n ks) ih d h1 h2
theorem o5(t:Term)(h:isTerm t=true):C E.P 246 [av (cT t)] [] (aO (sv (ak t)) []):=fv t 4 (by omega) (du h)
theorem zw(l:List Term)(xs ys:List Term):aq l (xs++ys)=aq (aq l xs) ys:=by
 rw[cc,cc,cc,List.foldl_append]
theorem jT:∀(ts l:List Term),(∀t∈ts,isTerm t=true)→(aq l ts).length≤l.length+15*ts.length
 | [],l,_=>by simp[aq]
 | t::ts,l,h=>by
   have h1:=tq (l:=l) (du (h t (by simp))) (by omega)
   have h2:=jT ts (a8 l t) fun x hx=>h x (by simp[hx])
   simp only[aq,List.length_cons]
   omega
end Go.Proofs.YtpidddienjoleaaGreat
