/-
  The reference: the walks of names, signatures, shapes and sorts. A step towards the exact laws.
-/
import Derived.Test.YtabembjmeobhoaaGreatKDL
import Derived.Test.YtabembjmeobhoaaGreatKDJa
set_option linter.unusedVariables false
set_option linter.unusedSimpArgs false
open Bool renaming false_eq_true→ax,true_and→aB,false_and→aK
open Classical renaming em→aa
open List renaming drop_eq_getElem_cons→ae,drop_of_length_le→ai,getElem_mem→ak,take_of_length_le→ao,length_append→aU,length_cons→a6,cons_append→bB,all_cons→b9,find?_cons→dG,all_nil→dM,length_eq_zero_iff→dP
open Nat renaming le_refl→aJ
open Option renaming isSome_some→aW,getD_some→aX
namespace Go.Proofs.YtabembjmeobhoaaGreat
open Go.Eng Go.Mod
open Int renaming reduceEq→Z1,reduceLT→Z2,reduceLE→Z3,reduceToNat→Z4
set_option maxRecDepth 100000
set_option maxHeartbeats 800000
theorem tR(s:nz):C E.P 195 [sv s] [] (bz (bv (fC s)) []):=by
 refine gS (nt:=28) (rs:=[.tmp 2]) hm Tryz.func195 fun hl he cq=>?_
 refine aL hm (fun(i:Nat)=> i≤s.length∧s.all iT=(s.drop i).all iT) (fun(i:Nat)=> ⟨dx 28 .any [(0,sv s),(3,iv i)],[]⟩) (fun(i:Nat)=> s.length-i) (0) ?_ (ar [] ?_ ?_ rfl rfl) ?_
 rotate_left
 ·exact sC
 ·exact sC
 rotate_left
 ·simp
 ·rintro i ⟨hi,hg⟩
  rcases aa (i<s.length) with h1|h1
  ·rw[ae h1,b9] at hg
   refine uA ?_
   rw[m9 h1]
   rcases aa ((s[i].toNat:Int)<97) with h2|h2
   ·have h3:iT s[i]=false:=by simp[iT];omega
    rw[h3,aK] at hg
    refine uB ?_
    refine an ?_
    refine sA ?_
    all_goals(simp[fC,hg];done)
   ·simp -implicitDefEqProofs only[go_sem,h2,h1]
    rw[m9 h1]
    rcases aa (122<(s[i].toNat:Int)) with h4|h4
    ·have h3:iT s[i]=false:=by simp[iT];omega
     rw[h3,aK] at hg
     refine uD ?_
     refine an ?_
     refine sA ?_
     all_goals(simp[fC,hg];done)
    ·have h3:iT s[i]=true:=by simp[iT];omega
     rw[h3,aB] at hg
     refine uD ?_
     refine sQ ?_
     refine⟨i+1,?_,sL,ar [] ?_ ?_ rfl rfl⟩
     rotate_left
     ·exact sC
     ·exact sC
     exact⟨by omega,hg⟩
  ·rw[ai (by omega),dM] at hg
   have e:fC s=(decide ((1:Int)≤(s.length:Int))&&decide ((s.length:Int)≤2)):=by simp[fC,hg,within]
   rcases aa ((1:Int)≤(s.length:Int)) with h2|h2
   ·refine uJ ?_
    refine an ?_
    refine sA ?_
    all_goals(simp[e,h2];done)
   ·refine uJ ?_
    refine an ?_
    refine sA ?_
    all_goals(simp[e,h2];done)
theorem tM(n:Int):C E.P 196 [iv n] [] (bz (bv (isSort n)) []):=by
 refine gS (nt:=9) (rs:=[.tmp 2]) hm Tryz.func196 fun hl he cq=>?_
 rcases aa (n=0) with h|h
 ·have k:=eq_true h
  refine uG ?_
  refine an ?_
  refine sA ?_
  all_goals(simp[isSort,h];done)
 ·refine uF ?_
  refine an ?_
  refine sA ?_
  all_goals(simp[isSort,h];done)
theorem ve(s:dK):C E.P 124 [av (dV s)] [] (bz (bv (fI s)) []):=by
 refine gS (nt:=68) (rs:=[.tmp 2]) hm Tryz.func124 fun hl he cq=>?_
 refine aL hm (fun(i:Nat)=> i≤s.syms.length∧qZ none s.syms=qZ (j6 s.syms i) (s.syms.drop i)) (fun(i:Nat)=> ⟨dx 68 .any [(1,.ptr 0 0),(3,iv i)],[some (.box (cE (dV s)))]⟩) (fun(i:Nat)=> s.syms.length-i) (0) ?_ (ar [some 0] ?_ ?_ rfl rfl) ?_
 rotate_left
 ·exact sC
 ·exact sC
 rotate_left
 ·simp[j6]
 ·rintro i ⟨hi,hg⟩
  rcases aa (i<s.syms.length) with h1|h1
  ·rw[ae h1] at hg
   simp only[qZ] at hg
   refine uA ?_
   refine aC [] (tR s.syms[i].name) ?_
   cases h2:fC s.syms[i].name
   ·have e:fI s=false:=by simp[fI,hg,n9,h2]
    refine sA ?_
    refine iK ?_
    refine an ?_
    refine sA ?_
    all_goals(simp[e];done)
   ·refine sA ?_
    rcases aa ((2:Int)<(s.syms[i].args.length:Int)) with h3' | h3'
    ·have h3:¬s.syms[i].args.length≤2:=by omega
     have e:fI s=false:=by simp[fI,hg,n9,h3]
     simp -implicitDefEqProofs only[go_sem,h3']
     refine iK ?_
     refine an ?_
     refine sA ?_
     all_goals(simp[e];done)
    ·have h3:s.syms[i].args.length≤2:=by omega
     simp -implicitDefEqProofs only[go_sem,h3']
     refine aC [] (tM s.syms[i].sort) ?_
     cases h4:isSort s.syms[i].sort
     ·have e:fI s=false:=by simp[fI,hg,n9,h4]
      refine sA ?_
      refine iK ?_
      refine an ?_
      refine sA ?_
      all_goals(simp[e];done)
     ·cases i with
      | zero=>
        simp only[j6,aB] at hg
        simp -implicitDefEqProofs only[go_sem,Int.lt_irrefl]
        refine iK ?_
        refine aL hm (fun(u:Nat)=> u≤s.syms[0].args.length∧s.syms[0].args.all isSort=(s.syms[0].args.drop u).all isSort) (fun(u:Nat)=> ⟨dx 68 .any [(1,.ptr 0 0),(3,iv (0:Nat)),(4,.ptr 1 0),(5,iv u)],[some (.box (cE (dV s))),some (.box (cE (wK s.syms[0])))]⟩) (fun(u:Nat)=> s.syms[0].args.length-u) (0) ?_ (ar [some 0,some 1] ?_ ?_ rfl rfl) ?_
        rotate_left
        ·exact sC
        ·exact sC
        rotate_left
        ·simp
        ·rintro u ⟨hu,hk⟩
         rcases aa (u<s.syms[0].args.length) with g1|g1
         ·rw[ae g1,b9] at hk
          refine uI ?_
          refine aC [] (tM s.syms[0].args[u]) ?_
          cases g2:isSort s.syms[0].args[u]
          ·rw[g2,aK] at hk
           have e:fI s=false:=by simp[fI,hg,n9,hk]
           refine sA ?_
           refine an ?_
           refine sA ?_
           all_goals(simp[e];done)
          ·rw[g2,aB] at hk
           refine sA ?_
           refine sQ ?_
           refine⟨u+1,?_,sL,ar [some 0,some 1] ?_ ?_ rfl rfl⟩
           rotate_left
           ·exact sC
           ·exact sC
           exact⟨by omega,hk⟩
         ·rw[ai (by omega),dM] at hk
          have e:n9 s.syms[0]=true:=by simp[n9,h2,h3,h4,hk]
          rw[e] at hg
          refine uI ?_
          refine sQ ?_
          refine⟨0+1,?_,sL,ar [some 0] ?_ ?_ rfl rfl⟩
          rotate_left
          ·refine sA ?_
           all_goals(simp[*];done)
          ·exact sC
          refine⟨by omega,?_⟩
          rw[hg]
          simp[j6,h1]
      | succ j=>
        have hj:j<s.syms.length:=by omega
        have e1:((j:Int)+1-1)=(j:Int):=by omega
        have e2:(0:Int)<(j:Int)+1:=by omega
        have e3:j6 s.syms (j+1)=some s.syms[j].name:=by simp[j6,hj]
        rw[e3] at hg
        simp only at hg
        simp -implicitDefEqProofs only[go_sem,e1,e2,hj]
        refine sQ ?_
        cases q4:gy s.syms[j].name s.syms[j+1].name
        ·rw[q4,aK,Bool.and_false] at hg
         have e:fI s=false:=by simp[fI,hg]
         have h5:Op.bytesLess s.syms[j].name s.syms[j+1].name=false:=q4
         refine uE ?_
         refine an ?_
         refine sA ?_
         all_goals(simp[e];done)
        ·rw[q4,aB] at hg
         have h5:Op.bytesLess s.syms[j].name s.syms[j+1].name=true:=q4
         refine uE ?_
         refine aL hm (fun(u:Nat)=> u≤s.syms[j+1].args.length∧s.syms[j+1].args.all isSort=(s.syms[j+1].args.drop u).all isSort) (fun(u:Nat)=> ⟨dx 68 .any [(1,.ptr 0 0),(3,iv (j+1:Nat)),(4,.ptr 1 0),(5,iv u)],[some (.box (cE (dV s))),some (.box (cE (wK s.syms[j+1])))]⟩) (fun(u:Nat)=> s.syms[j+1].args.length-u) (0) ?_ (ar [some 0,some 1] ?_ ?_ rfl rfl) ?_
         rotate_left
         ·exact sC
         ·exact sC
         rotate_left
         ·simp
         ·rintro u ⟨hu,hk⟩
          rcases aa (u<s.syms[j+1].args.length) with g1|g1
          ·rw[ae g1,b9] at hk
           refine uI ?_
           refine aC [] (tM s.syms[j+1].args[u]) ?_
           cases g2:isSort s.syms[j+1].args[u]
           ·rw[g2,aK] at hk
            have e:fI s=false:=by simp[fI,hg,n9,hk]
            refine sA ?_
            refine an ?_
            refine sA ?_
            all_goals(simp[e];done)
           ·rw[g2,aB] at hk
            refine sA ?_
            refine sQ ?_
            refine⟨u+1,?_,sL,ar [some 0,some 1] ?_ ?_ rfl rfl⟩
            rotate_left
            ·exact sC
            ·exact sC
            exact⟨by omega,hk⟩
          ·rw[ai (by omega),dM] at hk
           have e:n9 s.syms[j+1]=true:=by simp[n9,h2,h3,h4,hk]
           rw[e] at hg
           refine uI ?_
           refine sQ ?_
           refine⟨j+1+1,?_,sL,ar [some 0] ?_ ?_ rfl rfl⟩
           rotate_left
           ·exact sC
           ·exact sC
           refine⟨by omega,?_⟩
           rw[hg]
           simp[j6,h1]
  ·rw[ai (by omega)] at hg
   simp only[qZ] at hg
   have e:fI s=decide ((s.syms.length:Int)≤7):=by simp[fI,hg];omega
   refine uA ?_
   refine an ?_
   refine sA ?_
   all_goals(simp[e];done)
theorem Sh(t:Term)(d:Nat):bO t (d+1)=(fC t.name&&(decide (t.kids.length≤2)&&cJ t.kids d)):=by cases t;rfl
theorem Lu{ts:List Term}{i:Nat}(h:i<ts.length)(d:Nat):cJ (ts.drop i) d=(bO ts[i] d&&cJ (ts.drop (i+1)) d):=by rw[ae h,cJ]
theorem Ec(t:Term)(ih:∀k∈t.kids,∀d:Nat,d≤4→C E.P 266 [av (cT k),iv d] [] (bz (bv (bO k d)) []))(d:Nat)(hd:d≤4) :
 C E.P 266 [av (cT t),iv d] [] (bz (bv (bO t d)) []):=by
 cases d with
 | zero=>
   have e:bO t 0=false:=by cases t;rfl
   have cq:=jT
   refine lQ (nt:=36) (rs:=[.tmp 4]) hm Tryz.func266 rfl rfl rfl rfl rfl (fun hl he=>?_)
   simp -implicitDefEqProofs only[go_sem,Z2] at hl⊢
   refine an ?_
   refine sA ?_
   all_goals(simp[e];done)
 | succ d=>
   have e:=Sh t d
   refine gS (nt:=36) (rs:=[.tmp 4]) hm Tryz.func266 fun hl he cq=>?_
   have h0:¬ (d:Int)+1<1:=by omega
   simp -implicitDefEqProofs only[go_sem,h0]
   refine aC [] (tR t.name) ?_
   cases h2:fC t.name
   ·refine sA ?_
    refine an ?_
    refine sA ?_
    all_goals(simp[e,h2];done)
   ·refine sA ?_
    rcases aa ((2:Int)<(t.kids.length:Int)) with h3' | h3'
    ·have h3:¬t.kids.length≤2:=by omega
     simp -implicitDefEqProofs only[go_sem,h3']
     refine an ?_
     refine sA ?_
     all_goals(simp[e,h3];done)
    ·have h3:t.kids.length≤2:=by omega
     have e:bO t (d+1)=cJ t.kids d:=by simp[e,h2,h3]
     simp -implicitDefEqProofs only[go_sem,h3']
     refine aL hm (fun(i:Nat)=> i≤t.kids.length∧cJ t.kids d=cJ (t.kids.drop i) d) (fun(i:Nat)=> ⟨dx 36 .any [(1,iv ((d:Int)+1)),(2,.ptr 0 0),(5,iv i)],[some (.box (cE (cT t)))]⟩) (fun(i:Nat)=> t.kids.length-i) (0) ?_ (ar [some 0] ?_ ?_ rfl rfl) ?_
     rotate_left
     ·exact sC
     ·exact sC
     rotate_left
     ·simp
     ·rintro i ⟨hi,hg⟩
      rcases aa (i<t.kids.length) with h1|h1
      ·rw[Lu h1] at hg
       have e2:(d:Int)+1-1=(d:Int):=by omega
       simp -implicitDefEqProofs only[go_sem,h1,e2]
       refine sQ ?_
       have hc:=ih t.kids[i] (ak h1) d (by omega)
       refine aC [] hc ?_
       cases h4:bO t.kids[i] d
       ·rw[h4,aK] at hg
        refine sA ?_
        refine an ?_
        refine sA ?_
        all_goals(simp[e,hg];done)
       ·rw[h4,aB] at hg
        refine sA ?_
        refine sQ ?_
        refine⟨i+1,?_,sL,ar [some 0] ?_ ?_ rfl rfl⟩
        rotate_left
        ·exact sC
        ·exact sC
        exact⟨by omega,hg⟩
      ·rw[ai (by omega),cJ] at hg
       refine uA ?_
       refine an ?_
       refine sA ?_
       all_goals(simp[e,hg];done)
theorem HH:∀(t:Term)(d:Nat),d≤4→C E.P 266 [av (cT t),iv d] [] (bz (bv (bO t d)) []):=
 Term.ind fun n ks ih d hd=>Ec (.mk n ks) ih d hd
theorem Po{ts:List Term}{i:Nat}(h:i<ts.length)(d:Nat):lP (ts.take (i+1)) d=lP (ts.take i) d+many ts[i] d:=by
 have e:ts.take (i+1)=ts.take i++[ts[i]]:=by rw[List.take_add_one,List.getElem?_eq_getElem h];rfl
 have key:∀(xs:List Term),lP (xs++[ts[i]]) d=lP xs d+many ts[i] d:=by
  intro xs
  induction xs with
  | nil=>simp[lP]
  | cons a xs ih=>simp only[bB,lP,ih];omega
 rw[e,key]
theorem FN(t:Term)(ih:∀k∈t.kids,∀d:Nat,d≤4→bO k d=true→C E.P 267 [av (cT k),iv d] [] (bz (iv (many k d)) []))(d:Nat)(hd:d≤4)(hs:bO t d=true) :
 C E.P 267 [av (cT t),iv d] [] (bz (iv (many t d)) []):=by
 cases d with
 | zero=>cases t;simp[bO] at hs
 | succ d=>
   have hk:=og hs
   have e:many t (d+1)=1+lP t.kids d:=by cases t;rfl
   refine gS (nt:=29) (rs:=[.tmp 4]) hm Tryz.func267 fun hl he cq=>?_
   refine aL hm (fun(i:Nat)=> i≤t.kids.length) (fun(i:Nat)=> ⟨dx 29 .any [(1,iv ((d:Int)+1)),(2,.ptr 0 0),(5,iv ((1+lP (t.kids.take i) d:Nat):Int)),(6,iv i)],[some (.box (cE (cT t)))]⟩) (fun(i:Nat)=> t.kids.length-i) (0) ?_ (ar [some 0] ?_ ?_ rfl rfl) ?_
   rotate_left
   ·refine sA ?_
    all_goals(simp[lP])
   ·exact sC
   rotate_left
   ·omega
   ·rintro i hi
    have b1:=BR (t.kids.take i) d (ru hk.2.2 i)
    have b2:(t.kids.take i).length≤2:=by simp;omega
    have b3:(2:Nat) ^ d≤2 ^ 4:=Nat.pow_le_pow_right (by omega) (by omega)
    have b4:(t.kids.take i).length*(2 ^ d-1)≤2*(2 ^ d-1):=Nat.mul_le_mul_right _ b2
    rcases aa (i<t.kids.length) with h1|h1
    ·have hsk:=n7 hk.2.2 _ (ak h1)
     have b5:=L6 t.kids[i] d hsk
     have e2:(d:Int)+1-1=(d:Int):=by omega
     have e3:(0:Int)<(d:Int)+1:=by omega
     simp -implicitDefEqProofs only[go_sem,h1,e3,e2]
     refine sQ ?_
     have hc:=ih t.kids[i] (ak h1) d (by omega) hsk
     refine aC [] hc ?_
     refine sQ ?_
     refine⟨i+1,?_,sL,ar [some 0] ?_ ?_ rfl rfl⟩
     rotate_left
     ·refine sA ?_
      all_goals((simp only[Po h1];simp;omega))
     ·exact sC
     exact h1
    ·have et:t.kids.take i=t.kids:=ao (by omega)
     simp -implicitDefEqProofs only[go_sem,h1,et]
     refine an ?_
     refine sA ?_
     all_goals(simp[e];done)
theorem H2:∀(t:Term)(d:Nat),d≤4→bO t d=true→C E.P 267 [av (cT t),iv d] [] (bz (iv (many t d)) []):=
 Term.ind fun n ks ih d hd hs=>FN (.mk n ks) ih d hd hs
theorem rZ(t:Term):C E.P 242 [av (cT t)] [] (bz (bv (isTerm t)) []):=by
 have e:=BC t
 unfold right at e
 refine gS (nt:=10) (rs:=[.tmp 2]) hm Tryz.func242 fun hl he cq=>?_
 have hc:=HH t 4 (by omega)
 refine aC [] hc ?_
 cases h:bO t 4
 ·refine sA ?_
  refine an ?_
  refine sA ?_
  all_goals(simp[←e,h];done)
 ·have hc:=H2 t 4 (by omega) h
  refine sA ?_
  refine aC [] hc ?_
  refine an ?_
  refine sA ?_
  rw[←e,h]
  simp
  omega
theorem y0(s:dK)(n:nz):C E.P 219 [av (dV s),sv n] [] (bz (.gV [av (wK ((symbol s n).getD sX)),bv (symbol s n).isSome]) []):=by
 refine gT (nt:=28) (rs:=[.cell 4 126,.tmp 5]) hm Tryz.func219 fun hl he cq=>?_
 refine aL hm (fun(i:Nat)=> i≤s.syms.length∧symbol s n=(s.syms.drop i).find? (fun x=>decide (x.name=n))) (fun(i:Nat)=> ⟨dx 28 .any [(1,sv n),(2,.ptr 0 0),(4,.ptr 1 0),(6,iv i)],[some (.box (cE (dV s))),some (.box (cE (wK sX)))]⟩) (fun(i:Nat)=> s.syms.length-i) (0) ?_ (ar [some 0,some 1] ?_ ?_ rfl rfl) ?_
 rotate_left
 ·refine sB ?_
  all_goals(first|done|(simp[sX,bF])|(simp[aI, *];done)|(simp[aI];done)|(simp;omega)|skip)
 ·refine sB ?_
  all_goals(first|done|(simp[sX,bF])|(simp[aI, *];done)|(simp[aI];done)|(simp;omega)|skip)
 rotate_left
 ·simp[symbol]
 ·rintro i ⟨hi,hg⟩
  rcases aa (i<s.syms.length) with h1|h1
  ·rw[ae h1] at hg
   rcases aa (s.syms[i].name=n) with h2|h2
   ·have e:symbol s n=some s.syms[i]:=by rw[hg];simp only[dG,h2,decide_true]
    try simp -implicitDefEqProofs only[go_sem,Z1,Z2,Z3,Z4,h1,h2]
    refine sJ ?_
    refine an ?_
    refine sB ?_
    all_goals(first|done|(simp[e,h2];done)|(simp[e,h2];omega)|skip)
   ·have e:symbol s n=(s.syms.drop (i+1)).find? (fun x=>decide (x.name=n)):=by rw[hg];simp only[dG,h2,decide_false]
    try simp -implicitDefEqProofs only[go_sem,Z1,Z2,Z3,Z4,h1,h2]
    refine sJ ?_
    refine⟨i+1,?_,sL,ar [some 0,some 1] ?_ ?_ rfl rfl⟩
    rotate_left
    ·refine sB ?_
     all_goals(try exact sM)
    ·refine sB ?_
     all_goals(try exact sM)
    exact⟨by omega,e⟩
  ·have e:symbol s n=none:=by rw[hg,ai (by omega)];rfl
   try simp -implicitDefEqProofs only[go_sem,Z1,Z2,Z3,Z4,h1]
   refine sI ?_
   refine an ?_
   refine sB ?_
   all_goals(first|done|(simp[e,sX,ue];done)|(simp[e,sX,ue];omega)|skip)
theorem LX(s:dK)(hs:fI s=true)(t:Term)(ih:∀k∈t.kids,C E.P 192 [av (dV s),av (cT k)] [] (bz (iv ((fR s k).getD (-1))) [])) :
 C E.P 192 [av (dV s),av (cT t)] [] (bz (iv ((fR s t).getD (-1))) []):=by
 have ht:=Jx s t
 refine gT (nt:=48) (rs:=[.tmp 4]) hm Tryz.func192 fun hl he cq=>?_
 refine aD [] (y0 s t.name) ?_
 refine sI ?_
 cases hx:symbol s t.name with
 | none=>
   rw[hx] at ht
   simp only at ht
   try simp -implicitDefEqProofs only[go_sem,Z1,Z2,Z3,Z4,Option.isSome_none]
   refine sI ?_
   refine an ?_
   refine sB ?_
   all_goals(first|done|(simp[ht];done)|(simp[ht];omega)|skip)
 | some x=>
   rw[hx] at ht
   simp only at ht
   have hxo:=(Fs (Kb hs hx)).2
   rcases aa (x.args.length=t.kids.length) with h1|h1
   ·simp only[h1,decide_true,aB] at ht
    try simp -implicitDefEqProofs only[go_sem,Z1,Z2,Z3,Z4,aW,aX,h1]
    refine sI ?_
    refine aL hm (fun(i:Nat)=> i≤t.kids.length∧gD s t.kids x.args=gD s (t.kids.drop i) (x.args.drop i)) (fun(i:Nat)=> ⟨dx 48 .any [(2,.ptr 0 0),(3,.ptr 1 0),(5,.ptr 2 0),(7,iv i)],[some (.box (cE (dV s))),some (.box (cE (cT t))),some (.box (cE (wK x)))]⟩) (fun(i:Nat)=> t.kids.length-i) (0) ?_ (ar [some 0,some 1,some 2] ?_ ?_ rfl rfl) ?_
    rotate_left
    ·refine sB ?_
     all_goals(try exact sM)
    ·refine sB ?_
     all_goals(try exact sM)
    rotate_left
    ·simp
    ·rintro i ⟨hi,hg⟩
     rcases aa (i<t.kids.length) with h2|h2
     ·have h3:i<x.args.length:=by omega
      have hso:=GK.1 (hxo x.args[i] (ak h3))
      rw[A6 h2 h3] at hg
      try simp -implicitDefEqProofs only[go_sem,Z1,Z2,Z3,Z4,h2,h3]
      refine sI ?_
      have hc:=ih t.kids[i] (ak h2)
      refine bw [] hc ?_ ?_<;>simp -implicitDefEqProofs only[go_sem,Z1,Z2,Z3,Z4,h2,h3]
      refine sJ ?_
      rcases aa ((fR s t.kids[i]).getD (-1)=x.args[i]) with hn|hn
      ·have hn2:fR s t.kids[i]=some x.args[i]:=by
        cases hk:fR s t.kids[i] with
        | none=>rw[hk] at hn;simp only[Option.getD_none] at hn;omega
        | some n=>rw[hk] at hn;simp only[aX] at hn;rw[hn]
       have hz:gD s t.kids x.args=gD s (t.kids.drop (i+1)) (x.args.drop (i+1)):=by rw[hg,hn2];simp
       have k:=eq_true hn
       try simp -implicitDefEqProofs only[go_sem,Z1,Z2,Z3,Z4,k]
       refine sJ ?_
       refine⟨i+1,?_,sL,ar [some 0,some 1,some 2] ?_ ?_ rfl rfl⟩
       rotate_left
       ·refine sB ?_
        all_goals(try exact sM)
       ·refine sB ?_
        all_goals(try exact sM)
       exact⟨by omega,hz⟩
      ·have hn2:¬fR s t.kids[i]=some x.args[i]:=fun h=>hn (by rw[h];rfl)
       have hz:gD s t.kids x.args=false:=by
        rw[hg]
        simp[hn2]
       rw[hz] at ht
       simp only[ax,if_false] at ht
       try simp -implicitDefEqProofs only[go_sem,Z1,Z2,Z3,Z4,hn]
       refine sI ?_
       refine an ?_
       refine sB ?_
       all_goals(first|done|(simp[ht];done)|(simp[ht];omega)|skip)
     ·rw[ai (by omega),ai (by omega)] at hg
      rw[hg] at ht
      simp only[gD,if_true] at ht
      try simp -implicitDefEqProofs only[go_sem,Z1,Z2,Z3,Z4,h2]
      refine sI ?_
      refine an ?_
      refine sB ?_
      all_goals(first|done|(simp[ht];done)|(simp[ht];omega)|skip)
   ·simp only[h1,decide_false,aK,ax,if_false] at ht
    try simp -implicitDefEqProofs only[go_sem,Z1,Z2,Z3,Z4,aW,aX,h1]
    refine sI ?_
    refine an ?_
    refine sB ?_
    all_goals(first|done|(simp[ht];done)|(simp[ht];omega)|skip)
theorem tc(s:dK)(hs:fI s=true):∀(t:Term),C E.P 192 [av (dV s),av (cT t)] [] (bz (iv ((fR s t).getD (-1))) []):=
 Term.ind fun n ks ih=>LX s hs (.mk n ks) ih
theorem drop_eq{α:Type}{xs ys:List α}{i:Nat}(h:i<xs.length)(h':i<ys.length):(xs.drop i=ys.drop i)=(xs[i]=ys[i]∧xs.drop (i+1)=ys.drop (i+1)):=by
 rw[ae h,ae h',List.cons.injEq]
theorem Db(a b:Term)(ih:∀k∈a.kids,∀y,C E.P 201 [av (cT k),av (cT y)] [] (bz (bv (decide (k=y))) [])):C E.P 201 [av (cT a),av (cT b)] [] (bz (bv (decide (a=b))) []):=by
 refine gT (nt:=39) (rs:=[.tmp 4]) hm Tryz.func201 fun hl he cq=>?_
 rcases aa (a.name=b.name) with h|h
 ·have k:=eq_true h
  try simp -implicitDefEqProofs only[go_sem,Z1,Z2,Z3,Z4,k]
  refine sI ?_
  rcases aa (a.kids.length=b.kids.length) with h2|h2
  ·have k2:=eq_true h2
   try simp -implicitDefEqProofs only[go_sem,Z1,Z2,Z3,Z4,k2]
   refine sI ?_
   refine aL hm (fun(i:Nat)=> i≤a.kids.length∧(a.kids=b.kids↔a.kids.drop i=b.kids.drop i)) (fun(i:Nat)=> ⟨dx 39 .any [(2,.ptr 0 0),(3,.ptr 1 0),(5,iv i)],[some (.box (cE (cT a))),some (.box (cE (cT b)))]⟩) (fun(i:Nat)=> a.kids.length-i) (0) ?_ (ar [some 0,some 1] ?_ ?_ rfl rfl) ?_
   rotate_left
   ·refine sB ?_
    all_goals(try exact sM)
   ·refine sB ?_
    all_goals(try exact sM)
   rotate_left
   ·simp
   ·rintro i ⟨hi,hg⟩
    rcases aa (i<a.kids.length) with h3|h3
    ·have h4:i<b.kids.length:=by omega
     rw[drop_eq h3 h4] at hg
     try simp -implicitDefEqProofs only[go_sem,Z1,Z2,Z3,Z4,h3,h4]
     refine sI ?_
     have hc:=ih a.kids[i] (ak h3) b.kids[i]
     refine aD [] hc ?_
     refine sI ?_
     rcases aa (a.kids[i]=b.kids[i]) with h5|h5
     ·have k5:=eq_true h5
      try simp -implicitDefEqProofs only[go_sem,Z1,Z2,Z3,Z4,k5]
      refine sJ ?_
      refine⟨i+1,?_,sL,ar [some 0,some 1] ?_ ?_ rfl rfl⟩
      rotate_left
      ·refine sB ?_
       all_goals(try exact sM)
      ·refine sB ?_
       all_goals(try exact sM)
      refine⟨by omega,?_⟩
      rw[hg]
      simp[h5]
     ·have e:¬a.kids=b.kids:=fun hh=>h5 (hg.1 hh).1
      try simp -implicitDefEqProofs only[go_sem,Z1,Z2,Z3,Z4,h5]
      refine sI ?_
      refine an ?_
      refine sB ?_
      all_goals(first|done|(simp[qi,e];done)|(simp[qi,e];omega)|skip)
    ·rw[ai (by omega),ai (by omega)] at hg
     try simp -implicitDefEqProofs only[go_sem,Z1,Z2,Z3,Z4,h3]
     refine sI ?_
     refine an ?_
     refine sB ?_
     all_goals(first|done|(simp[qi,h,hg];done)|(simp[qi,h,hg];omega)|skip)
  ·have e:¬a.kids=b.kids:=fun hh=>h2 (by rw[hh])
   try simp -implicitDefEqProofs only[go_sem,Z1,Z2,Z3,Z4,h2]
   refine sI ?_
   refine an ?_
   refine sB ?_
   all_goals(first|done|(simp[qi,e];done)|(simp[qi,e];omega)|skip)
 ·try simp -implicitDefEqProofs only[go_sem,Z1,Z2,Z3,Z4,h]
  refine sI ?_
  refine an ?_
  refine sB ?_
  all_goals(first|done|(simp[qi,h];done)|(simp[qi,h];omega)|skip)
theorem nK:∀a b,C E.P 201 [av (cT a),av (cT b)] [] (bz (bv (decide (a=b))) []):=
 Term.ind fun n ks ih b=>Db (.mk n ks) b ih
theorem pX(t:Term):C E.P 265 [av (cT t)] [] (bz (bv (isNone t)) []):=by
 refine gT (nt:=12) (rs:=[.tmp 2]) hm Tryz.func265 fun hl he cq=>?_
 rcases aa (t.name=[]) with h|h
 ·have k:=eq_true h
  try simp -implicitDefEqProofs only[go_sem,Z1,Z2,Z3,Z4,k]
  refine sI ?_
  refine an ?_
  refine sB ?_
  all_goals(first|done|(simp[isNone,h];done)|(simp[isNone,h];omega)|skip)
 ·try simp -implicitDefEqProofs only[go_sem,Z1,Z2,Z3,Z4,h]
  refine sI ?_
  refine an ?_
  refine sB ?_
  all_goals(first|done|(simp[isNone,h];done)|(simp[isNone,h];omega)|skip)
theorem G9(t:Term)(ih:∀k∈t.kids,C E.P 60 [av (cT k)] [] (bz (av (cT k)) [])):C E.P 60 [av (cT t)] [] (bz (av (cT t)) []):=by
 refine gT (nt:=27) (rs:=[.cell 2 34]) hm Tryz.func60 fun hl he cq=>?_
 refine aL hm (fun(i:Nat)=> i≤t.kids.length) (fun(i:Nat)=> ⟨dx 27 .any [(1,.ptr 0 0),(2,.ptr 1 0),(3,.ptr 2 0),(4,iv i)],[some (.box (cE (cT t))),some (.box (cE (cT aM))),some (.box [.d (.str t.name),.acc 3]),some (.acc 34 (aN (t.kids.take i)))]⟩) (fun(i:Nat)=> t.kids.length-i) (0) ?_ (ar [some 0,some 1,some 2,none] ?_ ?_ rfl rfl) ?_
 rotate_left
 ·refine sB ?_
  all_goals(try exact sM)
 ·refine sB ?_
  all_goals(try exact sM)
 rotate_left
 ·omega
 ·rintro i hi
  rcases aa (i<t.kids.length) with h1|h1
  ·try simp -implicitDefEqProofs only[go_sem,Z1,Z2,Z3,Z4,h1]
   refine sI ?_
   have hc:=ih t.kids[i] (ak h1)
   refine aD [] hc ?_
   refine sJ ?_
   refine⟨i+1,?_,sL,ar [some 0,some 1,some 2,some 4] ?_ ?_ rfl rfl⟩
   rotate_left
   ·refine sB ?_
    all_goals(first|done|(exact pU h1)|(simp[aI, *];done)|(simp[aI];done)|(simp;omega)|skip)
   ·refine sB ?_
    all_goals(first|done|(exact pU h1)|(simp[aI, *];done)|(simp[aI];done)|(simp;omega)|skip)
   exact h1
  ·have et:t.kids.take i=t.kids:=ao (by omega)
   try simp -implicitDefEqProofs only[go_sem,Z1,Z2,Z3,Z4,h1,et]
   refine sI ?_
   refine an ?_
   refine sB ?_
   all_goals(first|done|(simp;done)|(simp;omega)|skip)
theorem gJ:∀t,C E.P 60 [av (cT t)] [] (bz (av (cT t)) []):=
 Term.ind fun n ks ih=>G9 (.mk n ks) ih
theorem cP(ts:List Term)(t:Term):C E.P 130 [lv (aN ts),av (cT t)] [] (bz (iv (bK ts t)) []):=by
 refine gT (nt:=19) (rs:=[.tmp 4]) hm Tryz.func130 fun hl he cq=>?_
 refine aL hm (fun(i:Nat)=> i≤ts.length∧bK ts t=gh (fun u=>decide (t=u)) (ts.drop i) i) (fun(i:Nat)=> ⟨dx 19 .any [(0,lv (aN ts)),(3,.ptr 0 0),(5,iv i)],[some (.box (cE (cT t)))]⟩) (fun(i:Nat)=> ts.length-i) (0) ?_ (ar [some 0] ?_ ?_ rfl rfl) ?_
 rotate_left
 ·refine sB ?_
  all_goals(try exact sM)
 ·refine sB ?_
  all_goals(try exact sM)
 rotate_left
 ·simp[bK,idxOf]
 ·rintro i ⟨hi,hg⟩
  rcases aa (i<ts.length) with h1|h1
  ·rw[ae h1,gh] at hg
   try simp -implicitDefEqProofs only[go_sem,Z1,Z2,Z3,Z4,h1]
   refine sI ?_
   refine aD [] (nK ts[i] t) ?_
   refine sI ?_
   rcases aa (ts[i]=t) with h2|h2
   ·have k:=eq_true h2
    simp only[h2,decide_true,if_true] at hg
    try simp -implicitDefEqProofs only[go_sem,Z1,Z2,Z3,Z4,k]
    refine sI ?_
    refine an ?_
    refine sB ?_
    all_goals(first|done|(simp[hg];done)|(simp[hg];omega)|skip)
   ·have h3:¬t=ts[i]:=fun h=>h2 h.symm
    simp only[h3,decide_false,ax,if_false] at hg
    try simp -implicitDefEqProofs only[go_sem,Z1,Z2,Z3,Z4,h2]
    refine sJ ?_
    refine⟨i+1,?_,sL,ar [some 0] ?_ ?_ rfl rfl⟩
    rotate_left
    ·refine sB ?_
     all_goals(try exact sM)
    ·refine sB ?_
     all_goals(try exact sM)
    exact⟨by omega,by rw[hg];rfl⟩
  ·rw[ai (by omega),gh] at hg
   try simp -implicitDefEqProofs only[go_sem,Z1,Z2,Z3,Z4,h1]
   refine sI ?_
   refine an ?_
   refine sB ?_
   all_goals(first|done|(simp[hg];done)|(simp[hg];omega)|skip)
theorem Ey(t:Term)(ih:∀k∈t.kids,∀(d:Nat)(l:List Term),d≤4→bO k d=true→l.length≤999000+15*(4-d)→C E.P 194 [.acc 0,av (cT k)] [some (.acc 34 (aN l))] (bz (.acc 1) [some .dead,some (.acc 34 (aN (de l k)))]))(d:Nat)(l:List Term)
 (hd:d≤4) (hsh:bO t d=true) (hl1:l.length≤999000+15*(4-d)) :
 C E.P 194 [.acc 0,av (cT t)] [some (.acc 34 (aN l))] (bz (.acc 1) [some .dead,some (.acc 34 (aN (de l t)))]):=by
 cases d with
 | zero=>cases t;simp[bO] at hsh
 | succ d=>
 have hk:=og hsh
 have hle:=fun i=>y7 (l:=l) hsh (by omega) i
 refine gT (nt:=30) (rs:=[.tmp 4]) hm Tryz.func194 fun hl he cq=>?_
 refine aL hm (fun(i:Nat)=> i≤t.kids.length) (fun(i:Nat)=> ⟨dx 30 .any [(0,.acc 2),(3,.ptr 1 0),(5,iv i)],[some .dead,some (.box (cE (cT t))),some (.acc 34 (aN (a7 l (t.kids.take i))))]⟩) (fun(i:Nat)=> t.kids.length-i) (0) ?_ (ar [some 0,some 1,some 0] ?_ ?_ rfl rfl) ?_
 rotate_left
 ·refine sB ?_
  all_goals(first|done|(simp only[a7])|(simp[aI, *];done)|(simp[aI];done)|(simp;omega)|skip)
 ·refine sB ?_
  all_goals(first|done|(simp only[a7])|(simp[aI, *];done)|(simp[aI];done)|(simp;omega)|skip)
 rotate_left
 ·omega
 ·rintro i hi
  rcases aa (i<t.kids.length) with h1|h1
  ·try simp -implicitDefEqProofs only[go_sem,Z1,Z2,Z3,Z4,h1]
   refine sI ?_
   have hc:=ih t.kids[i] (ak h1) d (a7 l (t.kids.take i)) (by omega) (n7 hk.2.2 _ (ak h1)) (by have:=hle i;omega)
   refine oD [] [2,3] hc ?_
   refine sJ ?_
   refine⟨i+1,?_,sL,ar [some 0,some 1,some 3] ?_ ?_ rfl rfl⟩
   rotate_left
   ·refine sB ?_
    all_goals(first|done|(simp only[qP h1])|(simp[aI, *];done)|(simp[aI];done)|(simp;omega)|skip)
   ·refine sB ?_
    all_goals(first|done|(simp only[qP h1])|(simp[aI, *];done)|(simp[aI];done)|(simp;omega)|skip)
   exact h1
  ·have e:t.kids.take i=t.kids:=ao (by omega)
   have h2:=hle i
   rw[e] at h2
   try simp -implicitDefEqProofs only[go_sem,Z1,Z2,Z3,Z4,h1,e]
   refine sI ?_
   refine dH [] [2] (cP (a7 l t.kids) t) rfl ?_ ?_ ?_
   ·exact sV
   all_goals simp -implicitDefEqProofs only[go_sem,Z1,Z2,Z3,Z4]
   refine sI ?_
   rcases aa (0≤bK (a7 l t.kids) t) with hx|hx
   ·have hx':¬bK (a7 l t.kids) t<0:=by omega
    try simp -implicitDefEqProofs only[go_sem,Z1,Z2,Z3,Z4,hx]
    refine sI ?_
    refine bZ [some 0,some 2] ?_ rfl rfl
    refine sB ?_
    rw[rq,if_neg hx']
   ·have hx':bK (a7 l t.kids) t<0:=by omega
    try simp -implicitDefEqProofs only[go_sem,Z1,Z2,Z3,Z4,hx]
    refine sI ?_
    refine aD [] (gJ t) ?_
    refine sJ ?_
    refine bZ [some 0,some 3] ?_ rfl rfl
    refine sB ?_
    rw[rq,if_pos hx',←kW,dC,fX]
    rfl
theorem Gz:∀(t:Term)(d:Nat)(l:List Term),d≤4→bO t d=true→l.length≤999000+15*(4-d)→C E.P 194 [.acc 0,av (cT t)] [some (.acc 34 (aN l))] (bz (.acc 1) [some .dead,some (.acc 34 (aN (de l t)))]):=
 Term.ind fun n ks ih d l h1 h2 h3=>Ey (.mk n ks) ih d l h1 h2 h3
theorem DA:∀(xs:List nz)(x:nz),jY (xs++[x])=if xs=[] then x else jY xs++(44::x)
 | [],x=>by simp[jY]
 | [a],x=>by simp[jY]
 | a::b::xs,x=>by
   have:=DA (b::xs) x
   simp only[bB] at this
   simp[jY,this]
def oH(t:Term)(i:Nat):nz:=match i with
 | 0=>t.name
 | i+1=>t.name++(40::jY ((t.kids.take (i+1)).map aO))
theorem DH{t:Term}{i:Nat}(h:i<t.kids.length):oH t (i+1)=oH t i++((if i=0 then [40] else [44])++aO t.kids[i]):=by
 have e:(t.kids.take (i+1)).map aO=(t.kids.take i).map aO++[aO t.kids[i]]:=by
  rw[pJ h,List.map_append];rfl
 cases i with
 | zero=>
   simp only[oH,e,List.take_zero,List.map_nil,List.nil_append,jY,if_true]
   rfl
 | succ i=>
   have jJ:¬ (t.kids.take (i+1)).map aO=[]:=by
    intro hh
    have hz:t.kids.take (i+1)=[]:=by simpa using hh
    have hz2:(t.kids.take (i+1)).length=0:=by rw[hz];rfl
    rw[List.length_take] at hz2
    omega
   simp only[oH,e,DA,jJ,if_false]
   simp
theorem Az{t:Term}(h:t.kids≠[]):aO t=oH t t.kids.length++[41]:=by
 rw[xz t h,←w5]
 match hk:t.kids.length,h with
 | 0,h=>exact absurd (dP.1 hk) h
 | n+1,_=>
   have hk':t.kids.take (n+1)=t.kids:=ao (by omega)
   simp only[oH,hk']
   simp
theorem Qc{t:Term}{d:Nat}(h:bO t d=true)(hd:d≤4)(i:Nat)(hi:i≤t.kids.length):(oH t i).length≤122:=by
 have key:∀k,i+k≤t.kids.length→(oH t i).length≤(oH t (i+k)).length:=by
  intro k
  induction k with
  | zero=>intro _;exact aJ _
  | succ k ih=>
    intro hk
    have h1:=ih (by omega)
    rw[←Nat.add_assoc,DH (by omega)]
    simp only[aU]
    omega
 have h1:=key (t.kids.length-i) (by omega)
 rw[show i+(t.kids.length-i)=t.kids.length by omega] at h1
 have h2:=wi h hd
 rcases aa (t.kids=[]) with hk|hk
 ·rw[v7 t hk] at h2
  have hi0:i=0:=by rw[hk] at hi;simpa using hi
  subst hi0
  simp only[oH]
  omega
 ·rw[Az hk] at h2
  simp only[aU,a6,List.length_nil] at h2
  omega
theorem G5(t:Term)(ih:∀k∈t.kids,∀d:Nat,d≤4→bO k d=true→C E.P 256 [av (cT k)] [] (bz (sv (aO k)) []))(d:Nat)(hd:d≤4)(hsh:bO t d=true) :
 C E.P 256 [av (cT t)] [] (bz (sv (aO t)) []):=by
 cases d with
 | zero=>cases t;simp[bO] at hsh
 | succ d=>
 have hk:=og hsh
 have dy:=fun i hi=>Qc hsh hd i hi
 refine gT (nt:=34) (rs:=[.tmp 2]) hm Tryz.func256 fun hl he cq=>?_
 refine aL hm (fun(i:Nat)=> i≤t.kids.length) (fun(i:Nat)=> ⟨dx 34 .any [(1,.ptr 0 0),(3,sv (oH t i)),(4,iv i)],[some (.box (cE (cT t)))]⟩) (fun(i:Nat)=> t.kids.length-i) (0) ?_ (ar [some 0] ?_ ?_ rfl rfl) ?_
 rotate_left
 ·refine sB ?_
  all_goals(first|done|(simp[oH])|(simp[aI, *];done)|(simp[aI];done)|(simp;omega)|skip)
 ·refine sB ?_
  all_goals(first|done|(simp[oH])|(simp[aI, *];done)|(simp[aI];done)|(simp;omega)|skip)
 rotate_left
 ·omega
 ·rintro i hi
  rcases aa (i<t.kids.length) with h1|h1
  ·have hsk:=n7 hk.2.2 _ (ak h1)
   have b1:=wi hsk (by omega)
   have b2:=dy i hi
   have hc:=ih t.kids[i] (ak h1) d (by omega) hsk
   have jw:=DH h1
   try simp -implicitDefEqProofs only[go_sem,Z1,Z2,Z3,Z4,h1]
   refine sI ?_
   cases i with
   | zero=>
     try simp -implicitDefEqProofs only[go_sem,Z1,Z2,Z3,Z4,h1]
     refine sJ ?_
     refine aD [] hc ?_
     refine sJ ?_
     refine⟨0+1,?_,sL,ar [some 0] ?_ ?_ rfl rfl⟩
     rotate_left
     ·refine sB ?_
      all_goals(first|done|((rw[jw];simp))|(simp[aI, *];done)|(simp[aI];done)|(simp;omega)|skip)
     ·refine sB ?_
      all_goals(first|done|((rw[jw];simp))|(simp[aI, *];done)|(simp[aI];done)|(simp;omega)|skip)
     exact h1
   | succ i=>
     have e1:¬ (i:Int)+1=0:=by omega
     have et:((i:Int)+1).toNat=i+1:=by omega
     try simp -implicitDefEqProofs only[go_sem,Z1,Z2,Z3,Z4,e1,et,h1]
     refine sJ ?_
     refine aD [] hc ?_
     refine sJ ?_
     refine⟨i+1+1,?_,sL,ar [some 0] ?_ ?_ rfl rfl⟩
     rotate_left
     ·refine sB ?_
      all_goals(first|done|((rw[jw];simp))|(simp[aI, *];done)|(simp[aI];done)|(simp;omega)|skip)
     ·refine sB ?_
      all_goals(first|done|((rw[jw];simp))|(simp[aI, *];done)|(simp[aI];done)|(simp;omega)|skip)
     exact h1
  ·have hi2:i=t.kids.length:=by omega
   subst hi2
   have b2:=dy _ (aJ _)
   rcases aa ((0:Int)<(t.kids.length:Int)) with h3|h3
   ·have jJ:t.kids≠[]:=by
     intro hh
     rw[hh] at h3
     simp at h3
    try simp -implicitDefEqProofs only[go_sem,Z1,Z2,Z3,Z4,h1,h3]
    refine sJ ?_
    refine an ?_
    refine sB ?_
    all_goals(first|done|(simp[Az jJ];done)|(simp[Az jJ];omega)|skip)
   ·have jJ:t.kids=[]:=dP.1 (by omega)
    have e:oH t t.kids.length=aO t:=by rw[v7 t jJ,jJ];rfl
    try simp -implicitDefEqProofs only[go_sem,Z1,Z2,Z3,Z4,h1,h3]
    refine sI ?_
    refine an ?_
    refine sB ?_
    all_goals(first|done|(simp[e];done)|(simp[e];omega)|skip)
theorem lY:∀(t:Term)(d:Nat),d≤4→bO t d=true→C E.P 256 [av (cT t)] [] (bz (sv (aO t)) []):=
 Term.ind fun n ks ih d h1 h2=>G5 (.mk n ks) ih d h1 h2
theorem iM(t:Term)(h:isTerm t=true):C E.P 256 [av (cT t)] [] (bz (sv (aO t)) []):=lY t 4 (by omega) (gK h)
theorem GX(l:List Term)(xs ys:List Term):a7 l (xs++ys)=a7 (a7 l xs) ys:=by
 rw[gn,gn,gn,List.foldl_append]
theorem qN:∀(ts l:List Term),(∀t∈ts,isTerm t=true)→(a7 l ts).length≤l.length+15*ts.length
 | [],l,_=>by simp[a7]
 | t::ts,l,h=>by
   have h1:=vT (l:=l) (gK (h t (by simp))) (by omega)
   have h2:=qN ts (de l t) fun x hx=>h x (by simp[hx])
   simp only[a7,a6]
   omega
end Go.Proofs.YtabembjmeobhoaaGreat
