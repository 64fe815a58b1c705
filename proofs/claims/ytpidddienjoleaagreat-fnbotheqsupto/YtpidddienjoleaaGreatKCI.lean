/-
  The reference: the walks of names, signatures, shapes and sorts. A step towards the exact laws.
-/
import Derived.Test.YtpidddienjoleaaGreatKCH
import Derived.Test.YtpidddienjoleaaGreatKCE
import Derived.Test.YtpidddienjoleaaGreatKCL
set_option linter.unusedVariables false
set_option linter.unusedSimpArgs false
namespace Go.Proofs.YtpidddienjoleaaGreat
open Go.Eng Go.Mod
open Int renaming reduceEq→Z1,reduceLT→Z2,reduceLE→Z3,reduceToNat→Z4
set_option maxRecDepth 100000
set_option maxHeartbeats 800000
theorem qt(s:gL):C E.P 67 [sv s] [] (aM (bv (cd s)) []):=by
 refine gS (nt:=28) (rs:=[.tmp 2]) hm Tryz.func67 fun hl he hLB=>?_
 refine al hm (fun(i:Nat)=> i≤s.length∧s.all c7=(s.drop i).all c7) (fun(i:Nat)=> ⟨bW 28 .any [(0,sv s),(3,iv i)],[]⟩) (fun(i:Nat)=> s.length-i) (0) ?_ (ah [] ?_ ?_ rfl rfl) ?_
 rotate_left
 ·exact sC
 ·exact sC
 rotate_left
 ·simp
 ·rintro i ⟨hi,hg⟩
  rcases Classical.em (i<s.length) with h1|h1
  ·rw[List.drop_eq_getElem_cons h1,List.all_cons] at hg
   simp -implicitDefEqProofs only[go_sem,h1]
   rw[r3 h1]
   rcases Classical.em ((s[i].toNat:Int)<97) with h2|h2
   ·have h3:c7 s[i]=false:=by simp[c7];omega
    rw[h3,Bool.false_and] at hg
    simp -implicitDefEqProofs only[go_sem,h2]
    refine ab ?_
    refine sA ?_
    all_goals(simp[cd,hg];done)
   ·simp -implicitDefEqProofs only[go_sem,h2,h1]
    rw[r3 h1]
    rcases Classical.em (122<(s[i].toNat:Int)) with h4|h4
    ·have h3:c7 s[i]=false:=by simp[c7];omega
     rw[h3,Bool.false_and] at hg
     simp -implicitDefEqProofs only[go_sem,h4]
     refine ab ?_
     refine sA ?_
     all_goals(simp[cd,hg];done)
    ·have h3:c7 s[i]=true:=by simp[c7];omega
     rw[h3,Bool.true_and] at hg
     simp -implicitDefEqProofs only[go_sem,h4]
     repeat(with_reducible apply And.intro;exact sO)
     refine⟨i+1,?_,?_,ah [] ?_ ?_ rfl rfl⟩
     rotate_left
     ·show _ < _
      omega
     ·exact sC
     ·exact sC
     exact⟨by omega,hg⟩
  ·rw[List.drop_of_length_le (by omega),List.all_nil] at hg
   have e:cd s=(decide ((1:Int)≤(s.length:Int))&&decide ((s.length:Int)≤2)):=by simp[cd,hg,within]
   rcases Classical.em ((1:Int)≤(s.length:Int)) with h2|h2
   ·simp -implicitDefEqProofs only[go_sem,h1,h2]
    refine ab ?_
    refine sA ?_
    all_goals(simp[e,h2];done)
   ·simp -implicitDefEqProofs only[go_sem,h1,h2]
    refine ab ?_
    refine sA ?_
    all_goals(simp[e,h2];done)
theorem lH(n:Int):C E.P 68 [iv n] [] (aM (bv (isSort n)) []):=by
 refine gS (nt:=9) (rs:=[.tmp 2]) hm Tryz.func68 fun hl he hLB=>?_
 rcases Classical.em (n=0) with h|h
 ·have k:=eq_true h
  simp -implicitDefEqProofs only[go_sem,k]
  refine ab ?_
  refine sA ?_
  all_goals(simp[isSort,h];done)
 ·simp -implicitDefEqProofs only[go_sem,h]
  refine ab ?_
  refine sA ?_
  all_goals(simp[isSort,h];done)
theorem se(s:bJ):C E.P 29 [av (bw s)] [] (aM (bv (bT s)) []):=by
 refine gS (nt:=68) (rs:=[.tmp 2]) hm Tryz.func29 fun hl he hLB=>?_
 refine al hm (fun(i:Nat)=> i≤s.syms.length∧jr none s.syms=jr (dR s.syms i) (s.syms.drop i)) (fun(i:Nat)=> ⟨bW 68 .any [(1,.ptr 0 0),(3,iv i)],[some (.box (bn (bw s)))]⟩) (fun(i:Nat)=> s.syms.length-i) (0) ?_ (ah [some 0] ?_ ?_ rfl rfl) ?_
 rotate_left
 ·exact sC
 ·exact sC
 rotate_left
 ·simp[dR]
 ·rintro i ⟨hi,hg⟩
  rcases Classical.em (i<s.syms.length) with h1|h1
  ·rw[List.drop_eq_getElem_cons h1] at hg
   simp only[jr] at hg
   simp -implicitDefEqProofs only[go_sem,h1]
   refine aC [] (qt s.syms[i].name) ?_
   cases h2:cd s.syms[i].name
   ·have e:bT s=false:=by simp[bT,hg,gD,h2]
    refine sA ?_
    refine iK ?_
    refine ab ?_
    refine sA ?_
    all_goals(simp[e];done)
   ·refine sA ?_
    rcases Classical.em ((2:Int)<(s.syms[i].args.length:Int)) with h3' | h3'
    ·have h3:¬s.syms[i].args.length≤2:=by omega
     have e:bT s=false:=by simp[bT,hg,gD,h3]
     simp -implicitDefEqProofs only[go_sem,h3']
     refine iK ?_
     refine ab ?_
     refine sA ?_
     all_goals(simp[e];done)
    ·have h3:s.syms[i].args.length≤2:=by omega
     simp -implicitDefEqProofs only[go_sem,h3']
     refine aC [] (lH s.syms[i].sort) ?_
     cases h4:isSort s.syms[i].sort
     ·have e:bT s=false:=by simp[bT,hg,gD,h4]
      refine sA ?_
      refine iK ?_
      refine ab ?_
      refine sA ?_
      all_goals(simp[e];done)
     ·cases i with
      | zero=>
        simp only[dR,Bool.true_and] at hg
        simp -implicitDefEqProofs only[go_sem,Int.lt_irrefl]
        refine iK ?_
        refine al hm (fun(u:Nat)=> u≤s.syms[0].args.length∧s.syms[0].args.all isSort=(s.syms[0].args.drop u).all isSort) (fun(u:Nat)=> ⟨bW 68 .any [(1,.ptr 0 0),(3,iv (0:Nat)),(4,.ptr 1 0),(5,iv u)],[some (.box (bn (bw s))),some (.box (bn (oh s.syms[0])))]⟩) (fun(u:Nat)=> s.syms[0].args.length-u) (0) ?_ (ah [some 0,some 1] ?_ ?_ rfl rfl) ?_
        rotate_left
        ·exact sC
        ·exact sC
        rotate_left
        ·simp
        ·rintro u ⟨hu,hk⟩
         rcases Classical.em (u<s.syms[0].args.length) with g1|g1
         ·rw[List.drop_eq_getElem_cons g1,List.all_cons] at hk
          simp -implicitDefEqProofs only[go_sem,g1]
          refine aC [] (lH s.syms[0].args[u]) ?_
          cases g2:isSort s.syms[0].args[u]
          ·rw[g2,Bool.false_and] at hk
           have e:bT s=false:=by simp[bT,hg,gD,hk]
           refine sA ?_
           refine ab ?_
           refine sA ?_
           all_goals(simp[e];done)
          ·rw[g2,Bool.true_and] at hk
           refine sA ?_
           repeat(with_reducible apply And.intro;exact sO)
           refine⟨u+1,?_,?_,ah [some 0,some 1] ?_ ?_ rfl rfl⟩
           rotate_left
           ·show _ < _
            omega
           ·exact sC
           ·exact sC
           exact⟨by omega,hk⟩
         ·rw[List.drop_of_length_le (by omega),List.all_nil] at hk
          have e:gD s.syms[0]=true:=by simp[gD,h2,h3,h4,hk]
          rw[e] at hg
          simp -implicitDefEqProofs only[go_sem,g1]
          repeat(with_reducible apply And.intro;exact sO)
          refine⟨0+1,?_,?_,ah [some 0] ?_ ?_ rfl rfl⟩
          rotate_left
          ·show _ < _
           omega
          ·refine sA ?_
           all_goals(simp[*];done)
          ·exact sC
          refine⟨by omega,?_⟩
          rw[hg]
          simp[dR,h1]
      | succ j=>
        have hj:j<s.syms.length:=by omega
        have e1:((j:Int)+1-1)=(j:Int):=by omega
        have e2:(0:Int)<(j:Int)+1:=by omega
        have e3:dR s.syms (j+1)=some s.syms[j].name:=by simp[dR,hj]
        rw[e3] at hg
        simp only at hg
        simp -implicitDefEqProofs only[go_sem,e1,e2,hj]
        repeat(with_reducible apply And.intro;exact sO)
        cases q4:cX s.syms[j].name s.syms[j+1].name
        ·rw[q4,Bool.false_and,Bool.and_false] at hg
         have e:bT s=false:=by simp[bT,hg]
         have h5:Op.bytesLess s.syms[j].name s.syms[j+1].name=false:=q4
         simp -implicitDefEqProofs only[go_sem,h5]
         refine ab ?_
         refine sA ?_
         all_goals(simp[e];done)
        ·rw[q4,Bool.true_and] at hg
         have h5:Op.bytesLess s.syms[j].name s.syms[j+1].name=true:=q4
         simp -implicitDefEqProofs only[go_sem,h5]
         refine al hm (fun(u:Nat)=> u≤s.syms[j+1].args.length∧s.syms[j+1].args.all isSort=(s.syms[j+1].args.drop u).all isSort) (fun(u:Nat)=> ⟨bW 68 .any [(1,.ptr 0 0),(3,iv (j+1:Nat)),(4,.ptr 1 0),(5,iv u)],[some (.box (bn (bw s))),some (.box (bn (oh s.syms[j+1])))]⟩) (fun(u:Nat)=> s.syms[j+1].args.length-u) (0) ?_ (ah [some 0,some 1] ?_ ?_ rfl rfl) ?_
         rotate_left
         ·exact sC
         ·exact sC
         rotate_left
         ·simp
         ·rintro u ⟨hu,hk⟩
          rcases Classical.em (u<s.syms[j+1].args.length) with g1|g1
          ·rw[List.drop_eq_getElem_cons g1,List.all_cons] at hk
           simp -implicitDefEqProofs only[go_sem,g1]
           refine aC [] (lH s.syms[j+1].args[u]) ?_
           cases g2:isSort s.syms[j+1].args[u]
           ·rw[g2,Bool.false_and] at hk
            have e:bT s=false:=by simp[bT,hg,gD,hk]
            refine sA ?_
            refine ab ?_
            refine sA ?_
            all_goals(simp[e];done)
           ·rw[g2,Bool.true_and] at hk
            refine sA ?_
            repeat(with_reducible apply And.intro;exact sO)
            refine⟨u+1,?_,?_,ah [some 0,some 1] ?_ ?_ rfl rfl⟩
            rotate_left
            ·show _ < _
             omega
            ·exact sC
            ·exact sC
            exact⟨by omega,hk⟩
          ·rw[List.drop_of_length_le (by omega),List.all_nil] at hk
           have e:gD s.syms[j+1]=true:=by simp[gD,h2,h3,h4,hk]
           rw[e] at hg
           simp -implicitDefEqProofs only[go_sem,g1]
           repeat(with_reducible apply And.intro;exact sO)
           refine⟨j+1+1,?_,?_,ah [some 0] ?_ ?_ rfl rfl⟩
           rotate_left
           ·show _ < _
            omega
           ·exact sC
           ·exact sC
           refine⟨by omega,?_⟩
           rw[hg]
           simp[dR,h1]
  ·rw[List.drop_of_length_le (by omega)] at hg
   simp only[jr] at hg
   have e:bT s=decide ((s.syms.length:Int)≤7):=by simp[bT,hg];omega
   simp -implicitDefEqProofs only[go_sem,h1]
   refine ab ?_
   refine sA ?_
   all_goals(simp[e];done)
theorem Jo(t:Term)(d:Nat):aE t (d+1)=(cd t.name&&(decide (t.kids.length≤2)&&aQ t.kids d)):=by cases t;rfl
theorem CB{ts:List Term}{i:Nat}(h:i<ts.length)(d:Nat):aQ (ts.drop i) d=(aE ts[i] d&&aQ (ts.drop (i+1)) d):=by rw[List.drop_eq_getElem_cons h,aQ]
theorem wm(t:Term)(ih:∀k∈t.kids,∀d:Nat,d≤4→C E.P 247 [av (cT k),iv d] [] (aM (bv (aE k d)) []))(d:Nat)(hd:d≤4) :
 C E.P 247 [av (cT t),iv d] [] (aM (bv (aE t d)) []):=by
 cases d with
 | zero=>
   have e:aE t 0=false:=by cases t;rfl
   have hLB:=uO
   refine H8 (nt:=36) (rs:=[.tmp 4]) hm Tryz.func247 rfl rfl rfl rfl rfl (fun hl he=>?_)
   simp -implicitDefEqProofs only[go_sem,Z2] at hl⊢
   refine ab ?_
   refine sA ?_
   all_goals(simp[e];done)
 | succ d=>
   have e:=Jo t d
   refine gS (nt:=36) (rs:=[.tmp 4]) hm Tryz.func247 fun hl he hLB=>?_
   have h0:¬ (d:Int)+1<1:=by omega
   simp -implicitDefEqProofs only[go_sem,h0]
   refine aC [] (qt t.name) ?_
   cases h2:cd t.name
   ·refine sA ?_
    refine ab ?_
    refine sA ?_
    all_goals(simp[e,h2];done)
   ·refine sA ?_
    rcases Classical.em ((2:Int)<(t.kids.length:Int)) with h3' | h3'
    ·have h3:¬t.kids.length≤2:=by omega
     simp -implicitDefEqProofs only[go_sem,h3']
     refine ab ?_
     refine sA ?_
     all_goals(simp[e,h3];done)
    ·have h3:t.kids.length≤2:=by omega
     have e:aE t (d+1)=aQ t.kids d:=by simp[e,h2,h3]
     simp -implicitDefEqProofs only[go_sem,h3']
     refine al hm (fun(i:Nat)=> i≤t.kids.length∧aQ t.kids d=aQ (t.kids.drop i) d) (fun(i:Nat)=> ⟨bW 36 .any [(1,iv ((d:Int)+1)),(2,.ptr 0 0),(5,iv i)],[some (.box (bn (cT t)))]⟩) (fun(i:Nat)=> t.kids.length-i) (0) ?_ (ah [some 0] ?_ ?_ rfl rfl) ?_
     rotate_left
     ·exact sC
     ·exact sC
     rotate_left
     ·simp
     ·rintro i ⟨hi,hg⟩
      rcases Classical.em (i<t.kids.length) with h1|h1
      ·rw[CB h1] at hg
       have e2:(d:Int)+1-1=(d:Int):=by omega
       simp -implicitDefEqProofs only[go_sem,h1,e2]
       repeat(with_reducible apply And.intro;exact sO)
       have hc:=ih t.kids[i] (List.getElem_mem h1) d (by omega)
       refine aC [] hc ?_
       cases h4:aE t.kids[i] d
       ·rw[h4,Bool.false_and] at hg
        refine sA ?_
        refine ab ?_
        refine sA ?_
        all_goals(simp[e,hg];done)
       ·rw[h4,Bool.true_and] at hg
        refine sA ?_
        repeat(with_reducible apply And.intro;exact sO)
        refine⟨i+1,?_,?_,ah [some 0] ?_ ?_ rfl rfl⟩
        rotate_left
        ·show _ < _
         omega
        ·exact sC
        ·exact sC
        exact⟨by omega,hg⟩
      ·rw[List.drop_of_length_le (by omega),aQ] at hg
       simp -implicitDefEqProofs only[go_sem,h1]
       refine ab ?_
       refine sA ?_
       all_goals(simp[e,hg];done)
theorem wX:∀(t:Term)(d:Nat),d≤4→C E.P 247 [av (cT t),iv d] [] (aM (bv (aE t d)) []):=
 Term.ind fun n ks ih d hd=>wm (.mk n ks) ih d hd
theorem FO{ts:List Term}{i:Nat}(h:i<ts.length)(d:Nat):e5 (ts.take (i+1)) d=e5 (ts.take i) d+many ts[i] d:=by
 have e:ts.take (i+1)=ts.take i++[ts[i]]:=by rw[List.take_add_one,List.getElem?_eq_getElem h];rfl
 have key:∀(xs:List Term),e5 (xs++[ts[i]]) d=e5 xs d+many ts[i] d:=by
  intro xs
  induction xs with
  | nil=>simp[e5]
  | cons a xs ih=>simp only[List.cons_append,e5,ih];omega
 rw[e,key]
theorem xj(t:Term)(ih:∀k∈t.kids,∀d:Nat,d≤4→aE k d=true→C E.P 248 [av (cT k),iv d] [] (aM (iv (many k d)) []))(d:Nat)(hd:d≤4)(hs:aE t d=true) :
 C E.P 248 [av (cT t),iv d] [] (aM (iv (many t d)) []):=by
 cases d with
 | zero=>cases t;simp[aE] at hs
 | succ d=>
   have hk:=gH hs
   have e:many t (d+1)=1+e5 t.kids d:=by cases t;rfl
   refine gS (nt:=29) (rs:=[.tmp 4]) hm Tryz.func248 fun hl he hLB=>?_
   refine al hm (fun(i:Nat)=> i≤t.kids.length) (fun(i:Nat)=> ⟨bW 29 .any [(1,iv ((d:Int)+1)),(2,.ptr 0 0),(5,iv ((1+e5 (t.kids.take i) d:Nat):Int)),(6,iv i)],[some (.box (bn (cT t)))]⟩) (fun(i:Nat)=> t.kids.length-i) (0) ?_ (ah [some 0] ?_ ?_ rfl rfl) ?_
   rotate_left
   ·refine sA ?_
    all_goals(simp[e5])
   ·exact sC
   rotate_left
   ·omega
   ·rintro i hi
    have b1:=tg (t.kids.take i) d (jH hk.2.2 i)
    have b2:(t.kids.take i).length≤2:=by simp;omega
    have b3:(2:Nat) ^ d≤2 ^ 4:=Nat.pow_le_pow_right (by omega) (by omega)
    have b4:(t.kids.take i).length*(2 ^ d-1)≤2*(2 ^ d-1):=Nat.mul_le_mul_right _ b2
    rcases Classical.em (i<t.kids.length) with h1|h1
    ·have hsk:=gy hk.2.2 _ (List.getElem_mem h1)
     have b5:=Cl t.kids[i] d hsk
     have e2:(d:Int)+1-1=(d:Int):=by omega
     have e3:(0:Int)<(d:Int)+1:=by omega
     simp -implicitDefEqProofs only[go_sem,h1,e3,e2]
     repeat(with_reducible apply And.intro;exact sO)
     have hc:=ih t.kids[i] (List.getElem_mem h1) d (by omega) hsk
     refine aC [] hc ?_
     repeat(with_reducible apply And.intro;exact sO)
     refine⟨i+1,?_,?_,ah [some 0] ?_ ?_ rfl rfl⟩
     rotate_left
     ·show _ < _
      omega
     ·refine sA ?_
      all_goals((simp only[FO h1];simp;omega))
     ·exact sC
     exact h1
    ·have et:t.kids.take i=t.kids:=List.take_of_length_le (by omega)
     simp -implicitDefEqProofs only[go_sem,h1,et]
     refine ab ?_
     refine sA ?_
     all_goals(simp[e];done)
theorem y7:∀(t:Term)(d:Nat),d≤4→aE t d=true→C E.P 248 [av (cT t),iv d] [] (aM (iv (many t d)) []):=
 Term.ind fun n ks ih d hd hs=>xj (.mk n ks) ih d hd hs
theorem ki(t:Term):C E.P 213 [av (cT t)] [] (aM (bv (isTerm t)) []):=by
 have e:=sr t
 unfold right at e
 refine gS (nt:=10) (rs:=[.tmp 2]) hm Tryz.func213 fun hl he hLB=>?_
 have hc:=wX t 4 (by omega)
 refine aC [] hc ?_
 cases h:aE t 4
 ·refine sA ?_
  refine ab ?_
  refine sA ?_
  all_goals(simp[←e,h];done)
 ·have hc:=y7 t 4 (by omega) h
  refine sA ?_
  refine aC [] hc ?_
  refine ab ?_
  refine sA ?_
  rw[←e,h]
  simp
  omega
end Go.Proofs.YtpidddienjoleaaGreat
namespace Go.Proofs.YtpidddienjoleaaGreat
open Go.Eng Go.Mod
open Int renaming reduceEq→Z1,reduceLT→Z2,reduceLE→Z3,reduceToNat→Z4
set_option maxRecDepth 100000
set_option maxHeartbeats 800000
theorem zx(s:bJ)(n:gL):C E.P 185 [av (bw s),sv n] [] (aM (.eL [av (oh ((symbol s n).getD kN)),bv (symbol s n).isSome]) []):=by
 refine gT (nt:=28) (rs:=[.cell 4 117,.tmp 5]) hm Tryz.func185 fun hl he hLB=>?_
 refine al hm (fun(i:Nat)=> i≤s.syms.length∧symbol s n=(s.syms.drop i).find? (fun x=>decide (x.name=n))) (fun(i:Nat)=> ⟨bW 28 .any [(1,sv n),(2,.ptr 0 0),(4,.ptr 1 0),(6,iv i)],[some (.box (bn (bw s))),some (.box (bn (oh kN)))]⟩) (fun(i:Nat)=> s.syms.length-i) (0) ?_ (ah [some 0,some 1] ?_ ?_ rfl rfl) ?_
 rotate_left
 ·refine sB ?_
  all_goals(first|done|(simp[kN,aO])|(simp[aa, *];done)|(simp[aa];done)|(simp;omega)|skip)
 ·refine sB ?_
  all_goals(first|done|(simp[kN,aO])|(simp[aa, *];done)|(simp[aa];done)|(simp;omega)|skip)
 rotate_left
 ·simp[symbol]
 ·rintro i ⟨hi,hg⟩
  rcases Classical.em (i<s.syms.length) with h1|h1
  ·rw[List.drop_eq_getElem_cons h1] at hg
   rcases Classical.em (s.syms[i].name=n) with h2|h2
   ·have e:symbol s n=some s.syms[i]:=by rw[hg];simp only[List.find?_cons,h2,decide_true]
    try simp -implicitDefEqProofs only[go_sem,Z1,Z2,Z3,Z4,h1,h2]
    try with_reducible refine iK ?_
    repeat(with_reducible apply And.intro;exact sO)
    refine ab ?_
    refine sB ?_
    all_goals(first|done|(simp[e,h2];done)|(simp[e,h2];omega)|skip)
   ·have e:symbol s n=(s.syms.drop (i+1)).find? (fun x=>decide (x.name=n)):=by rw[hg];simp only[List.find?_cons,h2,decide_false]
    try simp -implicitDefEqProofs only[go_sem,Z1,Z2,Z3,Z4,h1,h2]
    try with_reducible refine iK ?_
    repeat(with_reducible apply And.intro;exact sO)
    refine⟨i+1,?_,?_,ah [some 0,some 1] ?_ ?_ rfl rfl⟩
    rotate_left
    ·show _ < _
     omega
    ·refine sB ?_
     all_goals(first|done|(simp[aa, *];done)|(simp[aa];done)|(simp;omega)|skip)
    ·refine sB ?_
     all_goals(first|done|(simp[aa, *];done)|(simp[aa];done)|(simp;omega)|skip)
    exact⟨by omega,e⟩
  ·have e:symbol s n=none:=by rw[hg,List.drop_of_length_le (by omega)];rfl
   try simp -implicitDefEqProofs only[go_sem,Z1,Z2,Z3,Z4,h1]
   try with_reducible refine iK ?_
   refine ab ?_
   refine sB ?_
   all_goals(first|done|(simp[e,kN,mf];done)|(simp[e,kN,mf];omega)|skip)
theorem BN(s:bJ)(hs:bT s=true)(t:Term)(ih:∀k∈t.kids,C E.P 125 [av (bw s),av (cT k)] [] (aM (iv ((cu s k).getD (-1))) [])) :
 C E.P 125 [av (bw s),av (cT t)] [] (aM (iv ((cu s t).getD (-1))) []):=by
 have ht:=Aq s t
 refine gT (nt:=48) (rs:=[.tmp 4]) hm Tryz.func125 fun hl he hLB=>?_
 refine aD [] (zx s t.name) ?_
 try with_reducible refine iK ?_
 cases hx:symbol s t.name with
 | none=>
   rw[hx] at ht
   simp only at ht
   try simp -implicitDefEqProofs only[go_sem,Z1,Z2,Z3,Z4,Option.isSome_none]
   try with_reducible refine iK ?_
   refine ab ?_
   refine sB ?_
   all_goals(first|done|(simp[ht];done)|(simp[ht];omega)|skip)
 | some x=>
   rw[hx] at ht
   simp only at ht
   have hxo:=(xQ (Ai hs hx)).2
   rcases Classical.em (x.args.length=t.kids.length) with h1|h1
   ·simp only[h1,decide_true,Bool.true_and] at ht
    try simp -implicitDefEqProofs only[go_sem,Z1,Z2,Z3,Z4,Option.isSome_some,Option.getD_some,h1]
    try with_reducible refine iK ?_
    refine al hm (fun(i:Nat)=> i≤t.kids.length∧dk s t.kids x.args=dk s (t.kids.drop i) (x.args.drop i)) (fun(i:Nat)=> ⟨bW 48 .any [(2,.ptr 0 0),(3,.ptr 1 0),(5,.ptr 2 0),(7,iv i)],[some (.box (bn (bw s))),some (.box (bn (cT t))),some (.box (bn (oh x)))]⟩) (fun(i:Nat)=> t.kids.length-i) (0) ?_ (ah [some 0,some 1,some 2] ?_ ?_ rfl rfl) ?_
    rotate_left
    ·refine sB ?_
     all_goals(first|done|(simp[aa, *];done)|(simp[aa];done)|(simp;omega)|skip)
    ·refine sB ?_
     all_goals(first|done|(simp[aa, *];done)|(simp[aa];done)|(simp;omega)|skip)
    rotate_left
    ·simp
    ·rintro i ⟨hi,hg⟩
     rcases Classical.em (i<t.kids.length) with h2|h2
     ·have h3:i<x.args.length:=by omega
      have hso:=x9.1 (hxo x.args[i] (List.getElem_mem h3))
      rw[sY h2 h3] at hg
      try simp -implicitDefEqProofs only[go_sem,Z1,Z2,Z3,Z4,h2,h3]
      try with_reducible refine iK ?_
      have hc:=ih t.kids[i] (List.getElem_mem h2)
      refine ck [] hc ?_ ?_<;>simp -implicitDefEqProofs only[go_sem,Z1,Z2,Z3,Z4,h2,h3]
      try with_reducible refine iK ?_
      repeat(with_reducible apply And.intro;exact sO)
      rcases Classical.em ((cu s t.kids[i]).getD (-1)=x.args[i]) with hn|hn
      ·have hn2:cu s t.kids[i]=some x.args[i]:=by
        cases hk:cu s t.kids[i] with
        | none=>rw[hk] at hn;simp only[Option.getD_none] at hn;omega
        | some n=>rw[hk] at hn;simp only[Option.getD_some] at hn;rw[hn]
       have hz:dk s t.kids x.args=dk s (t.kids.drop (i+1)) (x.args.drop (i+1)):=by rw[hg,hn2];simp
       have k:=eq_true hn
       try simp -implicitDefEqProofs only[go_sem,Z1,Z2,Z3,Z4,k]
       try with_reducible refine iK ?_
       repeat(with_reducible apply And.intro;exact sO)
       refine⟨i+1,?_,?_,ah [some 0,some 1,some 2] ?_ ?_ rfl rfl⟩
       rotate_left
       ·show _ < _
        omega
       ·refine sB ?_
        all_goals(first|done|(simp[aa, *];done)|(simp[aa];done)|(simp;omega)|skip)
       ·refine sB ?_
        all_goals(first|done|(simp[aa, *];done)|(simp[aa];done)|(simp;omega)|skip)
       exact⟨by omega,hz⟩
      ·have hn2:¬cu s t.kids[i]=some x.args[i]:=fun h=>hn (by rw[h];rfl)
       have hz:dk s t.kids x.args=false:=by
        rw[hg]
        simp[hn2]
       rw[hz] at ht
       simp only[Bool.false_eq_true,if_false] at ht
       try simp -implicitDefEqProofs only[go_sem,Z1,Z2,Z3,Z4,hn]
       try with_reducible refine iK ?_
       refine ab ?_
       refine sB ?_
       all_goals(first|done|(simp[ht];done)|(simp[ht];omega)|skip)
     ·rw[List.drop_of_length_le (by omega),List.drop_of_length_le (by omega)] at hg
      rw[hg] at ht
      simp only[dk,if_true] at ht
      try simp -implicitDefEqProofs only[go_sem,Z1,Z2,Z3,Z4,h2]
      try with_reducible refine iK ?_
      refine ab ?_
      refine sB ?_
      all_goals(first|done|(simp[ht];done)|(simp[ht];omega)|skip)
   ·simp only[h1,decide_false,Bool.false_and,Bool.false_eq_true,if_false] at ht
    try simp -implicitDefEqProofs only[go_sem,Z1,Z2,Z3,Z4,Option.isSome_some,Option.getD_some,h1]
    try with_reducible refine iK ?_
    refine ab ?_
    refine sB ?_
    all_goals(first|done|(simp[ht];done)|(simp[ht];omega)|skip)
theorem ld(s:bJ)(hs:bT s=true):∀(t:Term),C E.P 125 [av (bw s),av (cT t)] [] (aM (iv ((cu s t).getD (-1))) []):=
 Term.ind fun n ks ih=>BN s hs (.mk n ks) ih
theorem drop_eq{α:Type}{xs ys:List α}{i:Nat}(h:i<xs.length)(h':i<ys.length):(xs.drop i=ys.drop i)=(xs[i]=ys[i]∧xs.drop (i+1)=ys.drop (i+1)):=by
 rw[List.drop_eq_getElem_cons h,List.drop_eq_getElem_cons h',List.cons.injEq]
theorem ud(a b:Term)(ih:∀k∈a.kids,∀y,C E.P 184 [av (cT k),av (cT y)] [] (aM (bv (decide (k=y))) [])):C E.P 184 [av (cT a),av (cT b)] [] (aM (bv (decide (a=b))) []):=by
 refine gT (nt:=39) (rs:=[.tmp 4]) hm Tryz.func184 fun hl he hLB=>?_
 rcases Classical.em (a.name=b.name) with h|h
 ·have k:=eq_true h
  try simp -implicitDefEqProofs only[go_sem,Z1,Z2,Z3,Z4,k]
  try with_reducible refine iK ?_
  rcases Classical.em (a.kids.length=b.kids.length) with h2|h2
  ·have k2:=eq_true h2
   try simp -implicitDefEqProofs only[go_sem,Z1,Z2,Z3,Z4,k2]
   try with_reducible refine iK ?_
   refine al hm (fun(i:Nat)=> i≤a.kids.length∧(a.kids=b.kids↔a.kids.drop i=b.kids.drop i)) (fun(i:Nat)=> ⟨bW 39 .any [(2,.ptr 0 0),(3,.ptr 1 0),(5,iv i)],[some (.box (bn (cT a))),some (.box (bn (cT b)))]⟩) (fun(i:Nat)=> a.kids.length-i) (0) ?_ (ah [some 0,some 1] ?_ ?_ rfl rfl) ?_
   rotate_left
   ·refine sB ?_
    all_goals(first|done|(simp[aa, *];done)|(simp[aa];done)|(simp;omega)|skip)
   ·refine sB ?_
    all_goals(first|done|(simp[aa, *];done)|(simp[aa];done)|(simp;omega)|skip)
   rotate_left
   ·simp
   ·rintro i ⟨hi,hg⟩
    rcases Classical.em (i<a.kids.length) with h3|h3
    ·have h4:i<b.kids.length:=by omega
     rw[drop_eq h3 h4] at hg
     try simp -implicitDefEqProofs only[go_sem,Z1,Z2,Z3,Z4,h3,h4]
     try with_reducible refine iK ?_
     have hc:=ih a.kids[i] (List.getElem_mem h3) b.kids[i]
     refine aD [] hc ?_
     try with_reducible refine iK ?_
     rcases Classical.em (a.kids[i]=b.kids[i]) with h5|h5
     ·have k5:=eq_true h5
      try simp -implicitDefEqProofs only[go_sem,Z1,Z2,Z3,Z4,k5]
      try with_reducible refine iK ?_
      repeat(with_reducible apply And.intro;exact sO)
      refine⟨i+1,?_,?_,ah [some 0,some 1] ?_ ?_ rfl rfl⟩
      rotate_left
      ·show _ < _
       omega
      ·refine sB ?_
       all_goals(first|done|(simp[aa, *];done)|(simp[aa];done)|(simp;omega)|skip)
      ·refine sB ?_
       all_goals(first|done|(simp[aa, *];done)|(simp[aa];done)|(simp;omega)|skip)
      refine⟨by omega,?_⟩
      rw[hg]
      simp[h5]
     ·have e:¬a.kids=b.kids:=fun hh=>h5 (hg.1 hh).1
      try simp -implicitDefEqProofs only[go_sem,Z1,Z2,Z3,Z4,h5]
      try with_reducible refine iK ?_
      refine ab ?_
      refine sB ?_
      all_goals(first|done|(simp[iR,e];done)|(simp[iR,e];omega)|skip)
    ·rw[List.drop_of_length_le (by omega),List.drop_of_length_le (by omega)] at hg
     try simp -implicitDefEqProofs only[go_sem,Z1,Z2,Z3,Z4,h3]
     try with_reducible refine iK ?_
     refine ab ?_
     refine sB ?_
     all_goals(first|done|(simp[iR,h,hg];done)|(simp[iR,h,hg];omega)|skip)
  ·have e:¬a.kids=b.kids:=fun hh=>h2 (by rw[hh])
   try simp -implicitDefEqProofs only[go_sem,Z1,Z2,Z3,Z4,h2]
   try with_reducible refine iK ?_
   refine ab ?_
   refine sB ?_
   all_goals(first|done|(simp[iR,e];done)|(simp[iR,e];omega)|skip)
 ·try simp -implicitDefEqProofs only[go_sem,Z1,Z2,Z3,Z4,h]
  try with_reducible refine iK ?_
  refine ab ?_
  refine sB ?_
  all_goals(first|done|(simp[iR,h];done)|(simp[iR,h];omega)|skip)
theorem vX:∀a b,C E.P 184 [av (cT a),av (cT b)] [] (aM (bv (decide (a=b))) []):=
 Term.ind fun n ks ih b=>ud (.mk n ks) b ih
theorem iQ(t:Term):C E.P 245 [av (cT t)] [] (aM (bv (isNone t)) []):=by
 refine gT (nt:=12) (rs:=[.tmp 2]) hm Tryz.func245 fun hl he hLB=>?_
 rcases Classical.em (t.name=[]) with h|h
 ·have k:=eq_true h
  try simp -implicitDefEqProofs only[go_sem,Z1,Z2,Z3,Z4,k]
  try with_reducible refine iK ?_
  refine ab ?_
  refine sB ?_
  all_goals(first|done|(simp[isNone,h];done)|(simp[isNone,h];omega)|skip)
 ·try simp -implicitDefEqProofs only[go_sem,Z1,Z2,Z3,Z4,h]
  try with_reducible refine iK ?_
  refine ab ?_
  refine sB ?_
  all_goals(first|done|(simp[isNone,h];done)|(simp[isNone,h];omega)|skip)
theorem xd(t:Term)(ih:∀k∈t.kids,C E.P 46 [av (cT k)] [] (aM (av (cT k)) [])):C E.P 46 [av (cT t)] [] (aM (av (cT t)) []):=by
 refine gT (nt:=27) (rs:=[.cell 2 35]) hm Tryz.func46 fun hl he hLB=>?_
 refine al hm (fun(i:Nat)=> i≤t.kids.length) (fun(i:Nat)=> ⟨bW 27 .any [(1,.ptr 0 0),(2,.ptr 1 0),(3,.ptr 2 0),(4,iv i)],[some (.box (bn (cT t))),some (.box (bn (cT ao))),some (.box [.d (.str t.name),.acc 3]),some (.acc 35 (ai (t.kids.take i)))]⟩) (fun(i:Nat)=> t.kids.length-i) (0) ?_ (ah [some 0,some 1,some 2,none] ?_ ?_ rfl rfl) ?_
 rotate_left
 ·refine sB ?_
  all_goals(first|done|(simp[aa, *];done)|(simp[aa];done)|(simp;omega)|skip)
 ·refine sB ?_
  all_goals(first|done|(simp[aa, *];done)|(simp[aa];done)|(simp;omega)|skip)
 rotate_left
 ·omega
 ·rintro i hi
  rcases Classical.em (i<t.kids.length) with h1|h1
  ·try simp -implicitDefEqProofs only[go_sem,Z1,Z2,Z3,Z4,h1]
   try with_reducible refine iK ?_
   have hc:=ih t.kids[i] (List.getElem_mem h1)
   refine aD [] hc ?_
   try with_reducible refine iK ?_
   repeat(with_reducible apply And.intro;exact sO)
   refine⟨i+1,?_,?_,ah [some 0,some 1,some 2,some 4] ?_ ?_ rfl rfl⟩
   rotate_left
   ·show _ < _
    omega
   ·refine sB ?_
    all_goals(first|done|(exact nx h1)|(simp[aa, *];done)|(simp[aa];done)|(simp;omega)|skip)
   ·refine sB ?_
    all_goals(first|done|(exact nx h1)|(simp[aa, *];done)|(simp[aa];done)|(simp;omega)|skip)
   exact h1
  ·have et:t.kids.take i=t.kids:=List.take_of_length_le (by omega)
   try simp -implicitDefEqProofs only[go_sem,Z1,Z2,Z3,Z4,h1,et]
   try with_reducible refine iK ?_
   refine ab ?_
   refine sB ?_
   all_goals(first|done|(simp;done)|(simp;omega)|skip)
theorem fg:∀t,C E.P 46 [av (cT t)] [] (aM (av (cT t)) []):=
 Term.ind fun n ks ih=>xd (.mk n ks) ih
theorem yZ(ts:List Term)(t:Term):C E.P 123 [lv (ai ts),av (cT t)] [] (aM (iv (a8 ts t)) []):=by
 refine gT (nt:=19) (rs:=[.tmp 4]) hm Tryz.func123 fun hl he hLB=>?_
 refine al hm (fun(i:Nat)=> i≤ts.length∧a8 ts t=bZ (fun u=>decide (t=u)) (ts.drop i) i) (fun(i:Nat)=> ⟨bW 19 .any [(0,lv (ai ts)),(3,.ptr 0 0),(5,iv i)],[some (.box (bn (cT t)))]⟩) (fun(i:Nat)=> ts.length-i) (0) ?_ (ah [some 0] ?_ ?_ rfl rfl) ?_
 rotate_left
 ·refine sB ?_
  all_goals(first|done|(simp[aa, *];done)|(simp[aa];done)|(simp;omega)|skip)
 ·refine sB ?_
  all_goals(first|done|(simp[aa, *];done)|(simp[aa];done)|(simp;omega)|skip)
 rotate_left
 ·simp[a8,idxOf]
 ·rintro i ⟨hi,hg⟩
  rcases Classical.em (i<ts.length) with h1|h1
  ·rw[List.drop_eq_getElem_cons h1,bZ] at hg
   try simp -implicitDefEqProofs only[go_sem,Z1,Z2,Z3,Z4,h1]
   try with_reducible refine iK ?_
   refine aD [] (vX ts[i] t) ?_
   try with_reducible refine iK ?_
   rcases Classical.em (ts[i]=t) with h2|h2
   ·have k:=eq_true h2
    simp only[h2,decide_true,if_true] at hg
    try simp -implicitDefEqProofs only[go_sem,Z1,Z2,Z3,Z4,k]
    try with_reducible refine iK ?_
    refine ab ?_
    refine sB ?_
    all_goals(first|done|(simp[hg];done)|(simp[hg];omega)|skip)
   ·have h3:¬t=ts[i]:=fun h=>h2 h.symm
    simp only[h3,decide_false,Bool.false_eq_true,if_false] at hg
    try simp -implicitDefEqProofs only[go_sem,Z1,Z2,Z3,Z4,h2]
    try with_reducible refine iK ?_
    repeat(with_reducible apply And.intro;exact sO)
    refine⟨i+1,?_,?_,ah [some 0] ?_ ?_ rfl rfl⟩
    rotate_left
    ·show _ < _
     omega
    ·refine sB ?_
     all_goals(first|done|(simp[aa, *];done)|(simp[aa];done)|(simp;omega)|skip)
    ·refine sB ?_
     all_goals(first|done|(simp[aa, *];done)|(simp[aa];done)|(simp;omega)|skip)
    exact⟨by omega,by rw[hg];rfl⟩
  ·rw[List.drop_of_length_le (by omega),bZ] at hg
   try simp -implicitDefEqProofs only[go_sem,Z1,Z2,Z3,Z4,h1]
   try with_reducible refine iK ?_
   refine ab ?_
   refine sB ?_
   all_goals(first|done|(simp[hg];done)|(simp[hg];omega)|skip)
theorem vR(t:Term)(ih:∀k∈t.kids,∀(d:Nat)(l:List Term),d≤4→aE k d=true→l.length≤999000+15*(4-d)→C E.P 127 [.acc 0,av (cT k)] [some (.acc 35 (ai l))] (aM (.acc 1) [some .dead,some (.acc 35 (ai (aW l k)))]))(d:Nat)(l:List Term)
 (hd:d≤4) (hsh:aE t d=true) (hl1:l.length≤999000+15*(4-d)) :
 C E.P 127 [.acc 0,av (cT t)] [some (.acc 35 (ai l))] (aM (.acc 1) [some .dead,some (.acc 35 (ai (aW l t)))]):=by
 cases d with
 | zero=>cases t;simp[aE] at hsh
 | succ d=>
 have hk:=gH hsh
 have hle:=fun i=>qo (l:=l) hsh (by omega) i
 refine gT (nt:=30) (rs:=[.tmp 4]) hm Tryz.func127 fun hl he hLB=>?_
 refine al hm (fun(i:Nat)=> i≤t.kids.length) (fun(i:Nat)=> ⟨bW 30 .any [(0,.acc 2),(3,.ptr 1 0),(5,iv i)],[some .dead,some (.box (bn (cT t))),some (.acc 35 (ai (ak l (t.kids.take i))))]⟩) (fun(i:Nat)=> t.kids.length-i) (0) ?_ (ah [some 0,some 1,some 0] ?_ ?_ rfl rfl) ?_
 rotate_left
 ·refine sB ?_
  all_goals(first|done|(simp only[ak])|(simp[aa, *];done)|(simp[aa];done)|(simp;omega)|skip)
 ·refine sB ?_
  all_goals(first|done|(simp only[ak])|(simp[aa, *];done)|(simp[aa];done)|(simp;omega)|skip)
 rotate_left
 ·omega
 ·rintro i hi
  rcases Classical.em (i<t.kids.length) with h1|h1
  ·try simp -implicitDefEqProofs only[go_sem,Z1,Z2,Z3,Z4,h1]
   try with_reducible refine iK ?_
   have hc:=ih t.kids[i] (List.getElem_mem h1) d (ak l (t.kids.take i)) (by omega) (gy hk.2.2 _ (List.getElem_mem h1)) (by have:=hle i;omega)
   refine oD [] [2,3] hc ?_
   try with_reducible refine iK ?_
   repeat(with_reducible apply And.intro;exact sO)
   refine⟨i+1,?_,?_,ah [some 0,some 1,some 3] ?_ ?_ rfl rfl⟩
   rotate_left
   ·show _ < _
    omega
   ·refine sB ?_
    all_goals(first|done|(simp only[jt h1])|(simp[aa, *];done)|(simp[aa];done)|(simp;omega)|skip)
   ·refine sB ?_
    all_goals(first|done|(simp only[jt h1])|(simp[aa, *];done)|(simp[aa];done)|(simp;omega)|skip)
   exact h1
  ·have e:t.kids.take i=t.kids:=List.take_of_length_le (by omega)
   have h2:=hle i
   rw[e] at h2
   try simp -implicitDefEqProofs only[go_sem,Z1,Z2,Z3,Z4,h1,e]
   try with_reducible refine iK ?_
   refine bG [] [2] (yZ (ak l t.kids) t) rfl ?_ ?_ ?_
   ·exact sV
   all_goals simp -implicitDefEqProofs only[go_sem,Z1,Z2,Z3,Z4]
   try with_reducible refine iK ?_
   rcases Classical.em (0≤a8 (ak l t.kids) t) with hx|hx
   ·have hx':¬a8 (ak l t.kids) t<0:=by omega
    try simp -implicitDefEqProofs only[go_sem,Z1,Z2,Z3,Z4,hx]
    try with_reducible refine iK ?_
    refine aF [some 0,some 2] ?_ rfl rfl
    refine sB ?_
    rw[jR,if_neg hx']
   ·have hx':a8 (ak l t.kids) t<0:=by omega
    try simp -implicitDefEqProofs only[go_sem,Z1,Z2,Z3,Z4,hx]
    try with_reducible refine iK ?_
    refine aD [] (fg t) ?_
    try with_reducible refine iK ?_
    repeat(with_reducible apply And.intro;exact sO)
    refine aF [some 0,some 3] ?_ rfl rfl
    refine sB ?_
    rw[jR,if_pos hx',←db,ba,cV]
    rfl
theorem xO:∀(t:Term)(d:Nat)(l:List Term),d≤4→aE t d=true→l.length≤999000+15*(4-d)→C E.P 127 [.acc 0,av (cT t)] [some (.acc 35 (ai l))] (aM (.acc 1) [some .dead,some (.acc 35 (ai (aW l t)))]):=
 Term.ind fun n ks ih d l h1 h2 h3=>vR (.mk n ks) ih d l h1 h2 h3
end Go.Proofs.YtpidddienjoleaaGreat
namespace Go.Proofs.YtpidddienjoleaaGreat
open Go.Eng Go.Mod
open Int renaming reduceEq→Z1,reduceLT→Z2,reduceLE→Z3,reduceToNat→Z4
set_option maxRecDepth 100000
set_option maxHeartbeats 800000
theorem ve:∀(xs:List gL)(x:gL),dE (xs++[x])=if xs=[] then x else dE xs++(44::x)
 | [],x=>by simp[dE]
 | [a],x=>by simp[dE]
 | a::b::xs,x=>by
   have:=ve (b::xs) x
   simp only[List.cons_append] at this
   simp[dE,this]
def gO(t:Term)(i:Nat):gL:=match i with
 | 0=>t.name
 | i+1=>t.name++(40::dE ((t.kids.take (i+1)).map aj))
theorem va{t:Term}{i:Nat}(h:i<t.kids.length):gO t (i+1)=gO t i++((if i=0 then [40] else [44])++aj t.kids[i]):=by
 have e:(t.kids.take (i+1)).map aj=(t.kids.take i).map aj++[aj t.kids[i]]:=by
  rw[gz h,List.map_append];rfl
 cases i with
 | zero=>
   simp only[gO,e,List.take_zero,List.map_nil,List.nil_append,dE,if_true]
   rfl
 | succ i=>
   have hne:¬ (t.kids.take (i+1)).map aj=[]:=by
    intro hh
    have hz:t.kids.take (i+1)=[]:=by simpa using hh
    have hz2:(t.kids.take (i+1)).length=0:=by rw[hz];rfl
    rw[List.length_take] at hz2
    omega
   simp only[gO,e,ve,hne,if_false]
   simp
theorem qQ{t:Term}(h:t.kids≠[]):aj t=gO t t.kids.length++[41]:=by
 rw[od t h,←oz]
 match hk:t.kids.length,h with
 | 0,h=>exact absurd (List.length_eq_zero_iff.1 hk) h
 | n+1,_=>
   have hk':t.kids.take (n+1)=t.kids:=List.take_of_length_le (by omega)
   simp only[gO,hk']
   simp
theorem G7{t:Term}{d:Nat}(h:aE t d=true)(hd:d≤4)(i:Nat)(hi:i≤t.kids.length):(gO t i).length≤122:=by
 have key:∀k,i+k≤t.kids.length→(gO t i).length≤(gO t (i+k)).length:=by
  intro k
  induction k with
  | zero=>intro _;exact Nat.le_refl _
  | succ k ih=>
    intro hk
    have h1:=ih (by omega)
    rw[←Nat.add_assoc,va (by omega)]
    simp only[List.length_append]
    omega
 have h1:=key (t.kids.length-i) (by omega)
 rw[show i+(t.kids.length-i)=t.kids.length by omega] at h1
 have h2:=mQ h hd
 rcases Classical.em (t.kids=[]) with hk|hk
 ·rw[mV t hk] at h2
  have hi0:i=0:=by rw[hk] at hi;simpa using hi
  subst hi0
  simp only[gO]
  omega
 ·rw[qQ hk] at h2
  simp only[List.length_append,List.length_cons,List.length_nil] at h2
  omega
theorem xZ(t:Term)(ih:∀k∈t.kids,∀d:Nat,d≤4→aE k d=true→C E.P 246 [av (cT k)] [] (aM (sv (aj k)) []))(d:Nat)(hd:d≤4)(hsh:aE t d=true) :
 C E.P 246 [av (cT t)] [] (aM (sv (aj t)) []):=by
 cases d with
 | zero=>cases t;simp[aE] at hsh
 | succ d=>
 have hk:=gH hsh
 have hlen:=fun i hi=>G7 hsh hd i hi
 refine gT (nt:=34) (rs:=[.tmp 2]) hm Tryz.func246 fun hl he hLB=>?_
 refine al hm (fun(i:Nat)=> i≤t.kids.length) (fun(i:Nat)=> ⟨bW 34 .any [(1,.ptr 0 0),(3,sv (gO t i)),(4,iv i)],[some (.box (bn (cT t)))]⟩) (fun(i:Nat)=> t.kids.length-i) (0) ?_ (ah [some 0] ?_ ?_ rfl rfl) ?_
 rotate_left
 ·refine sB ?_
  all_goals(first|done|(simp[gO])|(simp[aa, *];done)|(simp[aa];done)|(simp;omega)|skip)
 ·refine sB ?_
  all_goals(first|done|(simp[gO])|(simp[aa, *];done)|(simp[aa];done)|(simp;omega)|skip)
 rotate_left
 ·omega
 ·rintro i hi
  rcases Classical.em (i<t.kids.length) with h1|h1
  ·have hsk:=gy hk.2.2 _ (List.getElem_mem h1)
   have b1:=mQ hsk (by omega)
   have b2:=hlen i hi
   have hc:=ih t.kids[i] (List.getElem_mem h1) d (by omega) hsk
   have hst:=va h1
   try simp -implicitDefEqProofs only[go_sem,Z1,Z2,Z3,Z4,h1]
   try with_reducible refine iK ?_
   cases i with
   | zero=>
     try simp -implicitDefEqProofs only[go_sem,Z1,Z2,Z3,Z4,h1]
     try with_reducible refine iK ?_
     repeat(with_reducible apply And.intro;exact sO)
     refine aD [] hc ?_
     try with_reducible refine iK ?_
     repeat(with_reducible apply And.intro;exact sO)
     refine⟨0+1,?_,?_,ah [some 0] ?_ ?_ rfl rfl⟩
     rotate_left
     ·show _ < _
      omega
     ·refine sB ?_
      all_goals(first|done|((rw[hst];simp))|(simp[aa, *];done)|(simp[aa];done)|(simp;omega)|skip)
     ·refine sB ?_
      all_goals(first|done|((rw[hst];simp))|(simp[aa, *];done)|(simp[aa];done)|(simp;omega)|skip)
     exact h1
   | succ i=>
     have e1:¬ (i:Int)+1=0:=by omega
     have et:((i:Int)+1).toNat=i+1:=by omega
     try simp -implicitDefEqProofs only[go_sem,Z1,Z2,Z3,Z4,e1,et,h1]
     try with_reducible refine iK ?_
     repeat(with_reducible apply And.intro;exact sO)
     refine aD [] hc ?_
     try with_reducible refine iK ?_
     repeat(with_reducible apply And.intro;exact sO)
     refine⟨i+1+1,?_,?_,ah [some 0] ?_ ?_ rfl rfl⟩
     rotate_left
     ·show _ < _
      omega
     ·refine sB ?_
      all_goals(first|done|((rw[hst];simp))|(simp[aa, *];done)|(simp[aa];done)|(simp;omega)|skip)
     ·refine sB ?_
      all_goals(first|done|((rw[hst];simp))|(simp[aa, *];done)|(simp[aa];done)|(simp;omega)|skip)
     exact h1
  ·have hi2:i=t.kids.length:=by omega
   subst hi2
   have b2:=hlen _ (Nat.le_refl _)
   rcases Classical.em ((0:Int)<(t.kids.length:Int)) with h3|h3
   ·have hne:t.kids≠[]:=by
     intro hh
     rw[hh] at h3
     simp at h3
    try simp -implicitDefEqProofs only[go_sem,Z1,Z2,Z3,Z4,h1,h3]
    try with_reducible refine iK ?_
    repeat(with_reducible apply And.intro;exact sO)
    refine ab ?_
    refine sB ?_
    all_goals(first|done|(simp[qQ hne];done)|(simp[qQ hne];omega)|skip)
   ·have hne:t.kids=[]:=List.length_eq_zero_iff.1 (by omega)
    have e:gO t t.kids.length=aj t:=by rw[mV t hne,hne];rfl
    try simp -implicitDefEqProofs only[go_sem,Z1,Z2,Z3,Z4,h1,h3]
    try with_reducible refine iK ?_
    refine ab ?_
    refine sB ?_
    all_goals(first|done|(simp[e];done)|(simp[e];omega)|skip)
theorem fh:∀(t:Term)(d:Nat),d≤4→aE t d=true→C E.P 246 [av (cT t)] [] (aM (sv (aj t)) []):=
 Term.ind fun n ks ih d h1 h2=>xZ (.mk n ks) ih d h1 h2
theorem n5(t:Term)(h:isTerm t=true):C E.P 246 [av (cT t)] [] (aM (sv (aj t)) []):=fh t 4 (by omega) (cZ h)
theorem wY(l:List Term)(xs ys:List Term):ak l (xs++ys)=ak (ak l xs) ys:=by
 rw[b8,b8,b8,List.foldl_append]
theorem jA:∀(ts l:List Term),(∀t∈ts,isTerm t=true)→(ak l ts).length≤l.length+15*ts.length
 | [],l,_=>by simp[ak]
 | t::ts,l,h=>by
   have h1:=nH (l:=l) (cZ (h t (by simp))) (by omega)
   have h2:=jA ts (aW l t) fun x hx=>h x (by simp[hx])
   simp only[ak,List.length_cons]
   omega
end Go.Proofs.YtpidddienjoleaaGreat
