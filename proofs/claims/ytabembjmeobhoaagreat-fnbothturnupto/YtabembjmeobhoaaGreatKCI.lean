/-
  The reference: the walks of names, signatures, shapes and sorts. A step towards the exact laws.
-/
import Derived.Test.YtabembjmeobhoaaGreatKCL
import Derived.Test.YtabembjmeobhoaaGreatKCJa
set_option linter.unusedVariables false
set_option linter.unusedSimpArgs false
open Bool renaming false_eq_true→aw,true_and→aE,false_and→aK
open Classical renaming em→aa
open List renaming drop_eq_getElem_cons→ah,getElem_mem→ak,drop_of_length_le→al,take_of_length_le→ao,length_append→aR,length_cons→aW,cons_append→bA,all_cons→b8,find?_cons→dM,all_nil→dS,length_eq_zero_iff→dW
open Nat renaming le_refl→aJ
open Option renaming getD_some→aX,isSome_some→aY
namespace Go.Proofs.YtabembjmeobhoaaGreat
open Go.Eng Go.Mod
open Int renaming reduceEq→Z1,reduceLT→Z2,reduceLE→Z3,reduceToNat→Z4
set_option maxRecDepth 100000
set_option maxHeartbeats 800000
theorem tR(s:nE):C E.P 195 [sv s] [] (bD (bv (fI s)) []):=by
 refine gS (nt:=28) (rs:=[.tmp 2]) hm Tryz.func195 fun hl he cq=>?_
 refine aM hm (fun(i:Nat)=> i≤s.length∧s.all iY=(s.drop i).all iY) (fun(i:Nat)=> ⟨dH 28 .any [(0,sv s),(3,iv i)],[]⟩) (fun(i:Nat)=> s.length-i) (0) ?_ (ar [] ?_ ?_ rfl rfl) ?_
 rotate_left
 ·exact sC
 ·exact sC
 rotate_left
 ·simp
 ·rintro i ⟨hi,hg⟩
  rcases aa (i<s.length) with h1|h1
  ·rw[ah h1,b8] at hg
   refine uA ?_
   rw[m9 h1]
   rcases aa ((s[i].toNat:Int)<97) with h2|h2
   ·have h3:iY s[i]=false:=by simp[iY];omega
    rw[h3,aK] at hg
    refine uB ?_
    refine an ?_
    refine sA ?_
    all_goals(simp[fI,hg];done)
   ·simp -implicitDefEqProofs only[go_sem,h2,h1]
    rw[m9 h1]
    rcases aa (122<(s[i].toNat:Int)) with h4|h4
    ·have h3:iY s[i]=false:=by simp[iY];omega
     rw[h3,aK] at hg
     refine uD ?_
     refine an ?_
     refine sA ?_
     all_goals(simp[fI,hg];done)
    ·have h3:iY s[i]=true:=by simp[iY];omega
     rw[h3,aE] at hg
     refine uD ?_
     refine sQ ?_
     refine⟨i+1,?_,sL,ar [] ?_ ?_ rfl rfl⟩
     rotate_left
     ·exact sC
     ·exact sC
     exact⟨by omega,hg⟩
  ·rw[al (by omega),dS] at hg
   have e:fI s=(decide ((1:Int)≤(s.length:Int))&&decide ((s.length:Int)≤2)):=by simp[fI,hg,within]
   rcases aa ((1:Int)≤(s.length:Int)) with h2|h2
   ·refine uJ ?_
    refine an ?_
    refine sA ?_
    all_goals(simp[e,h2];done)
   ·refine uJ ?_
    refine an ?_
    refine sA ?_
    all_goals(simp[e,h2];done)
theorem tU(n:Int):C E.P 196 [iv n] [] (bD (bv (isSort n)) []):=by
 refine gS (nt:=9) (rs:=[.tmp 2]) hm Tryz.func196 fun hl he cq=>?_
 rcases aa (n=0) with h|h
 ·have k:=eq_true h
  refine uG ?_
  refine an ?_
  refine sA ?_
  all_goals(simp[isSort,h];done)
 ·refine uF ?_
  refine an ?_
  refine sA ?_
  all_goals(simp[isSort,h];done)
theorem vu(s:dI):C E.P 124 [av (eu s)] [] (bD (bv (fO s)) []):=by
 refine gS (nt:=68) (rs:=[.tmp 2]) hm Tryz.func124 fun hl he cq=>?_
 refine aM hm (fun(i:Nat)=> i≤s.syms.length∧qW none s.syms=qW (ki s.syms i) (s.syms.drop i)) (fun(i:Nat)=> ⟨dH 68 .any [(1,.ptr 0 0),(3,iv i)],[some (.box (cF (eu s)))]⟩) (fun(i:Nat)=> s.syms.length-i) (0) ?_ (ar [some 0] ?_ ?_ rfl rfl) ?_
 rotate_left
 ·exact sC
 ·exact sC
 rotate_left
 ·simp[ki]
 ·rintro i ⟨hi,hg⟩
  rcases aa (i<s.syms.length) with h1|h1
  ·rw[ah h1] at hg
   simp only[qW] at hg
   refine uA ?_
   refine aC [] (tR s.syms[i].name) ?_
   cases h2:fI s.syms[i].name
   ·have e:fO s=false:=by simp[fO,hg,oo,h2]
    refine sA ?_
    refine iK ?_
    refine an ?_
    refine sA ?_
    all_goals(simp[e];done)
   ·refine sA ?_
    rcases aa ((2:Int)<(s.syms[i].args.length:Int)) with h3' | h3'
    ·have h3:¬s.syms[i].args.length≤2:=by omega
     have e:fO s=false:=by simp[fO,hg,oo,h3]
     simp -implicitDefEqProofs only[go_sem,h3']
     refine iK ?_
     refine an ?_
     refine sA ?_
     all_goals(simp[e];done)
    ·have h3:s.syms[i].args.length≤2:=by omega
     simp -implicitDefEqProofs only[go_sem,h3']
     refine aC [] (tU s.syms[i].sort) ?_
     cases h4:isSort s.syms[i].sort
     ·have e:fO s=false:=by simp[fO,hg,oo,h4]
      refine sA ?_
      refine iK ?_
      refine an ?_
      refine sA ?_
      all_goals(simp[e];done)
     ·cases i with
      | zero=>
        simp only[ki,aE] at hg
        simp -implicitDefEqProofs only[go_sem,Int.lt_irrefl]
        refine iK ?_
        refine aM hm (fun(u:Nat)=> u≤s.syms[0].args.length∧s.syms[0].args.all isSort=(s.syms[0].args.drop u).all isSort) (fun(u:Nat)=> ⟨dH 68 .any [(1,.ptr 0 0),(3,iv (0:Nat)),(4,.ptr 1 0),(5,iv u)],[some (.box (cF (eu s))),some (.box (cF (wH s.syms[0])))]⟩) (fun(u:Nat)=> s.syms[0].args.length-u) (0) ?_ (ar [some 0,some 1] ?_ ?_ rfl rfl) ?_
        rotate_left
        ·exact sC
        ·exact sC
        rotate_left
        ·simp
        ·rintro u ⟨hu,hk⟩
         rcases aa (u<s.syms[0].args.length) with g1|g1
         ·rw[ah g1,b8] at hk
          refine uI ?_
          refine aC [] (tU s.syms[0].args[u]) ?_
          cases g2:isSort s.syms[0].args[u]
          ·rw[g2,aK] at hk
           have e:fO s=false:=by simp[fO,hg,oo,hk]
           refine sA ?_
           refine an ?_
           refine sA ?_
           all_goals(simp[e];done)
          ·rw[g2,aE] at hk
           refine sA ?_
           refine sQ ?_
           refine⟨u+1,?_,sL,ar [some 0,some 1] ?_ ?_ rfl rfl⟩
           rotate_left
           ·exact sC
           ·exact sC
           exact⟨by omega,hk⟩
         ·rw[al (by omega),dS] at hk
          have e:oo s.syms[0]=true:=by simp[oo,h2,h3,h4,hk]
          rw[e] at hg
          refine uI ?_
          refine sQ ?_
          refine⟨0+1,?_,sL,ar [some 0] ?_ ?_ rfl rfl⟩
          rotate_left
          ·refine sA ?_
           all_goals(simp[*];done)
          ·exact sC
          refine⟨by omega,?_⟩
          rw[hg]
          simp[ki,h1]
      | succ j=>
        have hj:j<s.syms.length:=by omega
        have e1:((j:Int)+1-1)=(j:Int):=by omega
        have e2:(0:Int)<(j:Int)+1:=by omega
        have e3:ki s.syms (j+1)=some s.syms[j].name:=by simp[ki,hj]
        rw[e3] at hg
        simp only at hg
        simp -implicitDefEqProofs only[go_sem,e1,e2,hj]
        refine sQ ?_
        cases q4:gC s.syms[j].name s.syms[j+1].name
        ·rw[q4,aK,Bool.and_false] at hg
         have e:fO s=false:=by simp[fO,hg]
         have h5:Op.bytesLess s.syms[j].name s.syms[j+1].name=false:=q4
         refine uE ?_
         refine an ?_
         refine sA ?_
         all_goals(simp[e];done)
        ·rw[q4,aE] at hg
         have h5:Op.bytesLess s.syms[j].name s.syms[j+1].name=true:=q4
         refine uE ?_
         refine aM hm (fun(u:Nat)=> u≤s.syms[j+1].args.length∧s.syms[j+1].args.all isSort=(s.syms[j+1].args.drop u).all isSort) (fun(u:Nat)=> ⟨dH 68 .any [(1,.ptr 0 0),(3,iv (j+1:Nat)),(4,.ptr 1 0),(5,iv u)],[some (.box (cF (eu s))),some (.box (cF (wH s.syms[j+1])))]⟩) (fun(u:Nat)=> s.syms[j+1].args.length-u) (0) ?_ (ar [some 0,some 1] ?_ ?_ rfl rfl) ?_
         rotate_left
         ·exact sC
         ·exact sC
         rotate_left
         ·simp
         ·rintro u ⟨hu,hk⟩
          rcases aa (u<s.syms[j+1].args.length) with g1|g1
          ·rw[ah g1,b8] at hk
           refine uI ?_
           refine aC [] (tU s.syms[j+1].args[u]) ?_
           cases g2:isSort s.syms[j+1].args[u]
           ·rw[g2,aK] at hk
            have e:fO s=false:=by simp[fO,hg,oo,hk]
            refine sA ?_
            refine an ?_
            refine sA ?_
            all_goals(simp[e];done)
           ·rw[g2,aE] at hk
            refine sA ?_
            refine sQ ?_
            refine⟨u+1,?_,sL,ar [some 0,some 1] ?_ ?_ rfl rfl⟩
            rotate_left
            ·exact sC
            ·exact sC
            exact⟨by omega,hk⟩
          ·rw[al (by omega),dS] at hk
           have e:oo s.syms[j+1]=true:=by simp[oo,h2,h3,h4,hk]
           rw[e] at hg
           refine uI ?_
           refine sQ ?_
           refine⟨j+1+1,?_,sL,ar [some 0] ?_ ?_ rfl rfl⟩
           rotate_left
           ·exact sC
           ·exact sC
           refine⟨by omega,?_⟩
           rw[hg]
           simp[ki,h1]
  ·rw[al (by omega)] at hg
   simp only[qW] at hg
   have e:fO s=decide ((s.syms.length:Int)≤7):=by simp[fO,hg];omega
   refine uA ?_
   refine an ?_
   refine sA ?_
   all_goals(simp[e];done)
theorem SN(t:Term)(d:Nat):bN t (d+1)=(fI t.name&&(decide (t.kids.length≤2)&&cL t.kids d)):=by cases t;rfl
theorem Le{ts:List Term}{i:Nat}(h:i<ts.length)(d:Nat):cL (ts.drop i) d=(bN ts[i] d&&cL (ts.drop (i+1)) d):=by rw[ah h,cL]
theorem EL(t:Term)(ih:∀k∈t.kids,∀d:Nat,d≤4→C E.P 266 [av (cT k),iv d] [] (bD (bv (bN k d)) []))(d:Nat)(hd:d≤4) :
 C E.P 266 [av (cT t),iv d] [] (bD (bv (bN t d)) []):=by
 cases d with
 | zero=>
   have e:bN t 0=false:=by cases t;rfl
   have cq:=jZ
   refine lU (nt:=36) (rs:=[.tmp 4]) hm Tryz.func266 rfl rfl rfl rfl rfl (fun hl he=>?_)
   simp -implicitDefEqProofs only[go_sem,Z2] at hl⊢
   refine an ?_
   refine sA ?_
   all_goals(simp[e];done)
 | succ d=>
   have e:=SN t d
   refine gS (nt:=36) (rs:=[.tmp 4]) hm Tryz.func266 fun hl he cq=>?_
   have h0:¬ (d:Int)+1<1:=by omega
   simp -implicitDefEqProofs only[go_sem,h0]
   refine aC [] (tR t.name) ?_
   cases h2:fI t.name
   ·refine sA ?_
    refine an ?_
    refine sA ?_
    all_goals(simp[e,h2];done)
   ·refine sA ?_
    rcases aa ((2:Int)<(t.kids.length:Int)) with h3' | h3'
    ·have h3:¬t.kids.length≤2:=by omega
     simp -implicitDefEqProofs only[go_sem,h3']
     refine an ?_
     refine sA ?_
     all_goals(simp[e,h3];done)
    ·have h3:t.kids.length≤2:=by omega
     have e:bN t (d+1)=cL t.kids d:=by simp[e,h2,h3]
     simp -implicitDefEqProofs only[go_sem,h3']
     refine aM hm (fun(i:Nat)=> i≤t.kids.length∧cL t.kids d=cL (t.kids.drop i) d) (fun(i:Nat)=> ⟨dH 36 .any [(1,iv ((d:Int)+1)),(2,.ptr 0 0),(5,iv i)],[some (.box (cF (cT t)))]⟩) (fun(i:Nat)=> t.kids.length-i) (0) ?_ (ar [some 0] ?_ ?_ rfl rfl) ?_
     rotate_left
     ·exact sC
     ·exact sC
     rotate_left
     ·simp
     ·rintro i ⟨hi,hg⟩
      rcases aa (i<t.kids.length) with h1|h1
      ·rw[Le h1] at hg
       have e2:(d:Int)+1-1=(d:Int):=by omega
       simp -implicitDefEqProofs only[go_sem,h1,e2]
       refine sQ ?_
       have hc:=ih t.kids[i] (ak h1) d (by omega)
       refine aC [] hc ?_
       cases h4:bN t.kids[i] d
       ·rw[h4,aK] at hg
        refine sA ?_
        refine an ?_
        refine sA ?_
        all_goals(simp[e,hg];done)
       ·rw[h4,aE] at hg
        refine sA ?_
        refine sQ ?_
        refine⟨i+1,?_,sL,ar [some 0] ?_ ?_ rfl rfl⟩
        rotate_left
        ·exact sC
        ·exact sC
        exact⟨by omega,hg⟩
      ·rw[al (by omega),cL] at hg
       refine uA ?_
       refine an ?_
       refine sA ?_
       all_goals(simp[e,hg];done)
theorem G8:∀(t:Term)(d:Nat),d≤4→C E.P 266 [av (cT t),iv d] [] (bD (bv (bN t d)) []):=
 Term.ind fun n ks ih d hd=>EL (.mk n ks) ih d hd
theorem QV{ts:List Term}{i:Nat}(h:i<ts.length)(d:Nat):lS (ts.take (i+1)) d=lS (ts.take i) d+many ts[i] d:=by
 have e:ts.take (i+1)=ts.take i++[ts[i]]:=by rw[List.take_add_one,List.getElem?_eq_getElem h];rfl
 have key:∀(xs:List Term),lS (xs++[ts[i]]) d=lS xs d+many ts[i] d:=by
  intro xs
  induction xs with
  | nil=>simp[lS]
  | cons a xs ih=>simp only[bA,lS,ih];omega
 rw[e,key]
theorem FY(t:Term)(ih:∀k∈t.kids,∀d:Nat,d≤4→bN k d=true→C E.P 267 [av (cT k),iv d] [] (bD (iv (many k d)) []))(d:Nat)(hd:d≤4)(hs:bN t d=true) :
 C E.P 267 [av (cT t),iv d] [] (bD (iv (many t d)) []):=by
 cases d with
 | zero=>cases t;simp[bN] at hs
 | succ d=>
   have hk:=oa hs
   have e:many t (d+1)=1+lS t.kids d:=by cases t;rfl
   refine gS (nt:=29) (rs:=[.tmp 4]) hm Tryz.func267 fun hl he cq=>?_
   refine aM hm (fun(i:Nat)=> i≤t.kids.length) (fun(i:Nat)=> ⟨dH 29 .any [(1,iv ((d:Int)+1)),(2,.ptr 0 0),(5,iv ((1+lS (t.kids.take i) d:Nat):Int)),(6,iv i)],[some (.box (cF (cT t)))]⟩) (fun(i:Nat)=> t.kids.length-i) (0) ?_ (ar [some 0] ?_ ?_ rfl rfl) ?_
   rotate_left
   ·refine sA ?_
    all_goals(simp[lS])
   ·exact sC
   rotate_left
   ·omega
   ·rintro i hi
    have b1:=Bc (t.kids.take i) d (rm hk.2.2 i)
    have b2:(t.kids.take i).length≤2:=by simp;omega
    have b3:(2:Nat) ^ d≤2 ^ 4:=Nat.pow_le_pow_right (by omega) (by omega)
    have b4:(t.kids.take i).length*(2 ^ d-1)≤2*(2 ^ d-1):=Nat.mul_le_mul_right _ b2
    rcases aa (i<t.kids.length) with h1|h1
    ·have hsk:=oh hk.2.2 _ (ak h1)
     have b5:=Lv t.kids[i] d hsk
     have e2:(d:Int)+1-1=(d:Int):=by omega
     have e3:(0:Int)<(d:Int)+1:=by omega
     simp -implicitDefEqProofs only[go_sem,h1,e3,e2]
     refine sQ ?_
     have hc:=ih t.kids[i] (ak h1) d (by omega) hsk
     refine aC [] hc ?_
     refine sQ ?_
     refine⟨i+1,?_,sL,ar [some 0] ?_ ?_ rfl rfl⟩
     rotate_left
     ·refine sA ?_
      all_goals((simp only[QV h1];simp;omega))
     ·exact sC
     exact h1
    ·have et:t.kids.take i=t.kids:=ao (by omega)
     simp -implicitDefEqProofs only[go_sem,h1,et]
     refine an ?_
     refine sA ?_
     all_goals(simp[e];done)
theorem II:∀(t:Term)(d:Nat),d≤4→bN t d=true→C E.P 267 [av (cT t),iv d] [] (bD (iv (many t d)) []):=
 Term.ind fun n ks ih d hd hs=>FY (.mk n ks) ih d hd hs
theorem rJ(t:Term):C E.P 242 [av (cT t)] [] (bD (bv (isTerm t)) []):=by
 have e:=Bh t
 unfold right at e
 refine gS (nt:=10) (rs:=[.tmp 2]) hm Tryz.func242 fun hl he cq=>?_
 have hc:=G8 t 4 (by omega)
 refine aC [] hc ?_
 cases h:bN t 4
 ·refine sA ?_
  refine an ?_
  refine sA ?_
  all_goals(simp[←e,h];done)
 ·have hc:=II t 4 (by omega) h
  refine sA ?_
  refine aC [] hc ?_
  refine an ?_
  refine sA ?_
  rw[←e,h]
  simp
  omega
theorem zw(s:dI)(n:nE):C E.P 219 [av (eu s),sv n] [] (bD (.gV [av (wH ((symbol s n).getD sX)),bv (symbol s n).isSome]) []):=by
 refine gT (nt:=28) (rs:=[.cell 4 126,.tmp 5]) hm Tryz.func219 fun hl he cq=>?_
 refine aM hm (fun(i:Nat)=> i≤s.syms.length∧symbol s n=(s.syms.drop i).find? (fun x=>decide (x.name=n))) (fun(i:Nat)=> ⟨dH 28 .any [(1,sv n),(2,.ptr 0 0),(4,.ptr 1 0),(6,iv i)],[some (.box (cF (eu s))),some (.box (cF (wH sX)))]⟩) (fun(i:Nat)=> s.syms.length-i) (0) ?_ (ar [some 0,some 1] ?_ ?_ rfl rfl) ?_
 rotate_left
 ·refine sB ?_
  all_goals(first|done|(simp[sX,bI])|(simp[aI, *];done)|(simp[aI];done)|(simp;omega)|skip)
 ·refine sB ?_
  all_goals(first|done|(simp[sX,bI])|(simp[aI, *];done)|(simp[aI];done)|(simp;omega)|skip)
 rotate_left
 ·simp[symbol]
 ·rintro i ⟨hi,hg⟩
  rcases aa (i<s.syms.length) with h1|h1
  ·rw[ah h1] at hg
   rcases aa (s.syms[i].name=n) with h2|h2
   ·have e:symbol s n=some s.syms[i]:=by rw[hg];simp only[dM,h2,decide_true]
    try simp -implicitDefEqProofs only[go_sem,Z1,Z2,Z3,Z4,h1,h2]
    refine sJ ?_
    refine an ?_
    refine sB ?_
    all_goals(first|done|(simp[e,h2];done)|(simp[e,h2];omega)|skip)
   ·have e:symbol s n=(s.syms.drop (i+1)).find? (fun x=>decide (x.name=n)):=by rw[hg];simp only[dM,h2,decide_false]
    try simp -implicitDefEqProofs only[go_sem,Z1,Z2,Z3,Z4,h1,h2]
    refine sJ ?_
    refine⟨i+1,?_,sL,ar [some 0,some 1] ?_ ?_ rfl rfl⟩
    rotate_left
    ·refine sB ?_
     all_goals(try exact sM)
    ·refine sB ?_
     all_goals(try exact sM)
    exact⟨by omega,e⟩
  ·have e:symbol s n=none:=by rw[hg,al (by omega)];rfl
   try simp -implicitDefEqProofs only[go_sem,Z1,Z2,Z3,Z4,h1]
   refine sI ?_
   refine an ?_
   refine sB ?_
   all_goals(first|done|(simp[e,sX,uV];done)|(simp[e,sX,uV];omega)|skip)
theorem KM(s:dI)(hs:fO s=true)(t:Term)(ih:∀k∈t.kids,C E.P 192 [av (eu s),av (cT k)] [] (bD (iv ((fT s k).getD (-1))) [])) :
 C E.P 192 [av (eu s),av (cT t)] [] (bD (iv ((fT s t).getD (-1))) []):=by
 have ht:=KA s t
 refine gT (nt:=48) (rs:=[.tmp 4]) hm Tryz.func192 fun hl he cq=>?_
 refine aD [] (zw s t.name) ?_
 refine sI ?_
 cases hx:symbol s t.name with
 | none=>
   rw[hx] at ht
   simp only at ht
   try simp -implicitDefEqProofs only[go_sem,Z1,Z2,Z3,Z4,Option.isSome_none]
   refine sI ?_
   refine an ?_
   refine sB ?_
   all_goals(first|done|(simp[ht];done)|(simp[ht];omega)|skip)
 | some x=>
   rw[hx] at ht
   simp only at ht
   have hxo:=(He (JL hs hx)).2
   rcases aa (x.args.length=t.kids.length) with h1|h1
   ·simp only[h1,decide_true,aE] at ht
    try simp -implicitDefEqProofs only[go_sem,Z1,Z2,Z3,Z4,aY,aX,h1]
    refine sI ?_
    refine aM hm (fun(i:Nat)=> i≤t.kids.length∧gJ s t.kids x.args=gJ s (t.kids.drop i) (x.args.drop i)) (fun(i:Nat)=> ⟨dH 48 .any [(2,.ptr 0 0),(3,.ptr 1 0),(5,.ptr 2 0),(7,iv i)],[some (.box (cF (eu s))),some (.box (cF (cT t))),some (.box (cF (wH x)))]⟩) (fun(i:Nat)=> t.kids.length-i) (0) ?_ (ar [some 0,some 1,some 2] ?_ ?_ rfl rfl) ?_
    rotate_left
    ·refine sB ?_
     all_goals(try exact sM)
    ·refine sB ?_
     all_goals(try exact sM)
    rotate_left
    ·simp
    ·rintro i ⟨hi,hg⟩
     rcases aa (i<t.kids.length) with h2|h2
     ·have h3:i<x.args.length:=by omega
      have hso:=GV.1 (hxo x.args[i] (ak h3))
      rw[Cb h2 h3] at hg
      try simp -implicitDefEqProofs only[go_sem,Z1,Z2,Z3,Z4,h2,h3]
      refine sI ?_
      have hc:=ih t.kids[i] (ak h2)
      refine bp [] hc ?_ ?_<;>simp -implicitDefEqProofs only[go_sem,Z1,Z2,Z3,Z4,h2,h3]
      refine sJ ?_
      rcases aa ((fT s t.kids[i]).getD (-1)=x.args[i]) with hn|hn
      ·have hn2:fT s t.kids[i]=some x.args[i]:=by
        cases hk:fT s t.kids[i] with
        | none=>rw[hk] at hn;simp only[Option.getD_none] at hn;omega
        | some n=>rw[hk] at hn;simp only[aX] at hn;rw[hn]
       have hz:gJ s t.kids x.args=gJ s (t.kids.drop (i+1)) (x.args.drop (i+1)):=by rw[hg,hn2];simp
       have k:=eq_true hn
       try simp -implicitDefEqProofs only[go_sem,Z1,Z2,Z3,Z4,k]
       refine sJ ?_
       refine⟨i+1,?_,sL,ar [some 0,some 1,some 2] ?_ ?_ rfl rfl⟩
       rotate_left
       ·refine sB ?_
        all_goals(try exact sM)
       ·refine sB ?_
        all_goals(try exact sM)
       exact⟨by omega,hz⟩
      ·have hn2:¬fT s t.kids[i]=some x.args[i]:=fun h=>hn (by rw[h];rfl)
       have hz:gJ s t.kids x.args=false:=by
        rw[hg]
        simp[hn2]
       rw[hz] at ht
       simp only[aw,if_false] at ht
       try simp -implicitDefEqProofs only[go_sem,Z1,Z2,Z3,Z4,hn]
       refine sI ?_
       refine an ?_
       refine sB ?_
       all_goals(first|done|(simp[ht];done)|(simp[ht];omega)|skip)
     ·rw[al (by omega),al (by omega)] at hg
      rw[hg] at ht
      simp only[gJ,if_true] at ht
      try simp -implicitDefEqProofs only[go_sem,Z1,Z2,Z3,Z4,h2]
      refine sI ?_
      refine an ?_
      refine sB ?_
      all_goals(first|done|(simp[ht];done)|(simp[ht];omega)|skip)
   ·simp only[h1,decide_false,aK,aw,if_false] at ht
    try simp -implicitDefEqProofs only[go_sem,Z1,Z2,Z3,Z4,aY,aX,h1]
    refine sI ?_
    refine an ?_
    refine sB ?_
    all_goals(first|done|(simp[ht];done)|(simp[ht];omega)|skip)
theorem tu(s:dI)(hs:fO s=true):∀(t:Term),C E.P 192 [av (eu s),av (cT t)] [] (bD (iv ((fT s t).getD (-1))) []):=
 Term.ind fun n ks ih=>KM s hs (.mk n ks) ih
theorem drop_eq{α:Type}{xs ys:List α}{i:Nat}(h:i<xs.length)(h':i<ys.length):(xs.drop i=ys.drop i)=(xs[i]=ys[i]∧xs.drop (i+1)=ys.drop (i+1)):=by
 rw[ah h,ah h',List.cons.injEq]
theorem CK(a b:Term)(ih:∀k∈a.kids,∀y,C E.P 201 [av (cT k),av (cT y)] [] (bD (bv (decide (k=y))) [])):C E.P 201 [av (cT a),av (cT b)] [] (bD (bv (decide (a=b))) []):=by
 refine gT (nt:=39) (rs:=[.tmp 4]) hm Tryz.func201 fun hl he cq=>?_
 rcases aa (a.name=b.name) with h|h
 ·have k:=eq_true h
  try simp -implicitDefEqProofs only[go_sem,Z1,Z2,Z3,Z4,k]
  refine sI ?_
  rcases aa (a.kids.length=b.kids.length) with h2|h2
  ·have k2:=eq_true h2
   try simp -implicitDefEqProofs only[go_sem,Z1,Z2,Z3,Z4,k2]
   refine sI ?_
   refine aM hm (fun(i:Nat)=> i≤a.kids.length∧(a.kids=b.kids↔a.kids.drop i=b.kids.drop i)) (fun(i:Nat)=> ⟨dH 39 .any [(2,.ptr 0 0),(3,.ptr 1 0),(5,iv i)],[some (.box (cF (cT a))),some (.box (cF (cT b)))]⟩) (fun(i:Nat)=> a.kids.length-i) (0) ?_ (ar [some 0,some 1] ?_ ?_ rfl rfl) ?_
   rotate_left
   ·refine sB ?_
    all_goals(try exact sM)
   ·refine sB ?_
    all_goals(try exact sM)
   rotate_left
   ·simp
   ·rintro i ⟨hi,hg⟩
    rcases aa (i<a.kids.length) with h3|h3
    ·have h4:i<b.kids.length:=by omega
     rw[drop_eq h3 h4] at hg
     try simp -implicitDefEqProofs only[go_sem,Z1,Z2,Z3,Z4,h3,h4]
     refine sI ?_
     have hc:=ih a.kids[i] (ak h3) b.kids[i]
     refine aD [] hc ?_
     refine sI ?_
     rcases aa (a.kids[i]=b.kids[i]) with h5|h5
     ·have k5:=eq_true h5
      try simp -implicitDefEqProofs only[go_sem,Z1,Z2,Z3,Z4,k5]
      refine sJ ?_
      refine⟨i+1,?_,sL,ar [some 0,some 1] ?_ ?_ rfl rfl⟩
      rotate_left
      ·refine sB ?_
       all_goals(try exact sM)
      ·refine sB ?_
       all_goals(try exact sM)
      refine⟨by omega,?_⟩
      rw[hg]
      simp[h5]
     ·have e:¬a.kids=b.kids:=fun hh=>h5 (hg.1 hh).1
      try simp -implicitDefEqProofs only[go_sem,Z1,Z2,Z3,Z4,h5]
      refine sI ?_
      refine an ?_
      refine sB ?_
      all_goals(first|done|(simp[qj,e];done)|(simp[qj,e];omega)|skip)
    ·rw[al (by omega),al (by omega)] at hg
     try simp -implicitDefEqProofs only[go_sem,Z1,Z2,Z3,Z4,h3]
     refine sI ?_
     refine an ?_
     refine sB ?_
     all_goals(first|done|(simp[qj,h,hg];done)|(simp[qj,h,hg];omega)|skip)
  ·have e:¬a.kids=b.kids:=fun hh=>h2 (by rw[hh])
   try simp -implicitDefEqProofs only[go_sem,Z1,Z2,Z3,Z4,h2]
   refine sI ?_
   refine an ?_
   refine sB ?_
   all_goals(first|done|(simp[qj,e];done)|(simp[qj,e];omega)|skip)
 ·try simp -implicitDefEqProofs only[go_sem,Z1,Z2,Z3,Z4,h]
  refine sI ?_
  refine an ?_
  refine sB ?_
  all_goals(first|done|(simp[qj,h];done)|(simp[qj,h];omega)|skip)
theorem nO:∀a b,C E.P 201 [av (cT a),av (cT b)] [] (bD (bv (decide (a=b))) []):=
 Term.ind fun n ks ih b=>CK (.mk n ks) b ih
theorem ql(t:Term):C E.P 265 [av (cT t)] [] (bD (bv (isNone t)) []):=by
 refine gT (nt:=12) (rs:=[.tmp 2]) hm Tryz.func265 fun hl he cq=>?_
 rcases aa (t.name=[]) with h|h
 ·have k:=eq_true h
  try simp -implicitDefEqProofs only[go_sem,Z1,Z2,Z3,Z4,k]
  refine sI ?_
  refine an ?_
  refine sB ?_
  all_goals(first|done|(simp[isNone,h];done)|(simp[isNone,h];omega)|skip)
 ·try simp -implicitDefEqProofs only[go_sem,Z1,Z2,Z3,Z4,h]
  refine sI ?_
  refine an ?_
  refine sB ?_
  all_goals(first|done|(simp[isNone,h];done)|(simp[isNone,h];omega)|skip)
theorem Hy(t:Term)(ih:∀k∈t.kids,C E.P 60 [av (cT k)] [] (bD (av (cT k)) [])):C E.P 60 [av (cT t)] [] (bD (av (cT t)) []):=by
 refine gT (nt:=27) (rs:=[.cell 2 34]) hm Tryz.func60 fun hl he cq=>?_
 refine aM hm (fun(i:Nat)=> i≤t.kids.length) (fun(i:Nat)=> ⟨dH 27 .any [(1,.ptr 0 0),(2,.ptr 1 0),(3,.ptr 2 0),(4,iv i)],[some (.box (cF (cT t))),some (.box (cF (cT aL))),some (.box [.d (.str t.name),.acc 3]),some (.acc 34 (aN (t.kids.take i)))]⟩) (fun(i:Nat)=> t.kids.length-i) (0) ?_ (ar [some 0,some 1,some 2,none] ?_ ?_ rfl rfl) ?_
 rotate_left
 ·refine sB ?_
  all_goals(try exact sM)
 ·refine sB ?_
  all_goals(try exact sM)
 rotate_left
 ·omega
 ·rintro i hi
  rcases aa (i<t.kids.length) with h1|h1
  ·try simp -implicitDefEqProofs only[go_sem,Z1,Z2,Z3,Z4,h1]
   refine sI ?_
   have hc:=ih t.kids[i] (ak h1)
   refine aD [] hc ?_
   refine sJ ?_
   refine⟨i+1,?_,sL,ar [some 0,some 1,some 2,some 4] ?_ ?_ rfl rfl⟩
   rotate_left
   ·refine sB ?_
    all_goals(first|done|(exact pg h1)|(simp[aI, *];done)|(simp[aI];done)|(simp;omega)|skip)
   ·refine sB ?_
    all_goals(first|done|(exact pg h1)|(simp[aI, *];done)|(simp[aI];done)|(simp;omega)|skip)
   exact h1
  ·have et:t.kids.take i=t.kids:=ao (by omega)
   try simp -implicitDefEqProofs only[go_sem,Z1,Z2,Z3,Z4,h1,et]
   refine sI ?_
   refine an ?_
   refine sB ?_
   all_goals(first|done|(simp;done)|(simp;omega)|skip)
theorem gO:∀t,C E.P 60 [av (cT t)] [] (bD (av (cT t)) []):=
 Term.ind fun n ks ih=>Hy (.mk n ks) ih
theorem cV(ts:List Term)(t:Term):C E.P 130 [lv (aN ts),av (cT t)] [] (bD (iv (bL ts t)) []):=by
 refine gT (nt:=19) (rs:=[.tmp 4]) hm Tryz.func130 fun hl he cq=>?_
 refine aM hm (fun(i:Nat)=> i≤ts.length∧bL ts t=gi (fun u=>decide (t=u)) (ts.drop i) i) (fun(i:Nat)=> ⟨dH 19 .any [(0,lv (aN ts)),(3,.ptr 0 0),(5,iv i)],[some (.box (cF (cT t)))]⟩) (fun(i:Nat)=> ts.length-i) (0) ?_ (ar [some 0] ?_ ?_ rfl rfl) ?_
 rotate_left
 ·refine sB ?_
  all_goals(try exact sM)
 ·refine sB ?_
  all_goals(try exact sM)
 rotate_left
 ·simp[bL,idxOf]
 ·rintro i ⟨hi,hg⟩
  rcases aa (i<ts.length) with h1|h1
  ·rw[ah h1,gi] at hg
   try simp -implicitDefEqProofs only[go_sem,Z1,Z2,Z3,Z4,h1]
   refine sI ?_
   refine aD [] (nO ts[i] t) ?_
   refine sI ?_
   rcases aa (ts[i]=t) with h2|h2
   ·have k:=eq_true h2
    simp only[h2,decide_true,if_true] at hg
    try simp -implicitDefEqProofs only[go_sem,Z1,Z2,Z3,Z4,k]
    refine sI ?_
    refine an ?_
    refine sB ?_
    all_goals(first|done|(simp[hg];done)|(simp[hg];omega)|skip)
   ·have h3:¬t=ts[i]:=fun h=>h2 h.symm
    simp only[h3,decide_false,aw,if_false] at hg
    try simp -implicitDefEqProofs only[go_sem,Z1,Z2,Z3,Z4,h2]
    refine sJ ?_
    refine⟨i+1,?_,sL,ar [some 0] ?_ ?_ rfl rfl⟩
    rotate_left
    ·refine sB ?_
     all_goals(try exact sM)
    ·refine sB ?_
     all_goals(try exact sM)
    exact⟨by omega,by rw[hg];rfl⟩
  ·rw[al (by omega),gi] at hg
   try simp -implicitDefEqProofs only[go_sem,Z1,Z2,Z3,Z4,h1]
   refine sI ?_
   refine an ?_
   refine sB ?_
   all_goals(first|done|(simp[hg];done)|(simp[hg];omega)|skip)
theorem EY(t:Term)(ih:∀k∈t.kids,∀(d:Nat)(l:List Term),d≤4→bN k d=true→l.length≤999000+15*(4-d)→C E.P 194 [.acc 0,av (cT k)] [some (.acc 34 (aN l))] (bD (.acc 1) [some .dead,some (.acc 34 (aN (dh l k)))]))(d:Nat)(l:List Term)
 (hd:d≤4) (hsh:bN t d=true) (hl1:l.length≤999000+15*(4-d)) :
 C E.P 194 [.acc 0,av (cT t)] [some (.acc 34 (aN l))] (bD (.acc 1) [some .dead,some (.acc 34 (aN (dh l t)))]):=by
 cases d with
 | zero=>cases t;simp[bN] at hsh
 | succ d=>
 have hk:=oa hsh
 have hle:=fun i=>zu (l:=l) hsh (by omega) i
 refine gT (nt:=30) (rs:=[.tmp 4]) hm Tryz.func194 fun hl he cq=>?_
 refine aM hm (fun(i:Nat)=> i≤t.kids.length) (fun(i:Nat)=> ⟨dH 30 .any [(0,.acc 2),(3,.ptr 1 0),(5,iv i)],[some .dead,some (.box (cF (cT t))),some (.acc 34 (aN (a6 l (t.kids.take i))))]⟩) (fun(i:Nat)=> t.kids.length-i) (0) ?_ (ar [some 0,some 1,some 0] ?_ ?_ rfl rfl) ?_
 rotate_left
 ·refine sB ?_
  all_goals(first|done|(simp only[a6])|(simp[aI, *];done)|(simp[aI];done)|(simp;omega)|skip)
 ·refine sB ?_
  all_goals(first|done|(simp only[a6])|(simp[aI, *];done)|(simp[aI];done)|(simp;omega)|skip)
 rotate_left
 ·omega
 ·rintro i hi
  rcases aa (i<t.kids.length) with h1|h1
  ·try simp -implicitDefEqProofs only[go_sem,Z1,Z2,Z3,Z4,h1]
   refine sI ?_
   have hc:=ih t.kids[i] (ak h1) d (a6 l (t.kids.take i)) (by omega) (oh hk.2.2 _ (ak h1)) (by have:=hle i;omega)
   refine oD [] [2,3] hc ?_
   refine sJ ?_
   refine⟨i+1,?_,sL,ar [some 0,some 1,some 3] ?_ ?_ rfl rfl⟩
   rotate_left
   ·refine sB ?_
    all_goals(first|done|(simp only[rb h1])|(simp[aI, *];done)|(simp[aI];done)|(simp;omega)|skip)
   ·refine sB ?_
    all_goals(first|done|(simp only[rb h1])|(simp[aI, *];done)|(simp[aI];done)|(simp;omega)|skip)
   exact h1
  ·have e:t.kids.take i=t.kids:=ao (by omega)
   have h2:=hle i
   rw[e] at h2
   try simp -implicitDefEqProofs only[go_sem,Z1,Z2,Z3,Z4,h1,e]
   refine sI ?_
   refine dQ [] [2] (cV (a6 l t.kids) t) rfl ?_ ?_ ?_
   ·exact sV
   all_goals simp -implicitDefEqProofs only[go_sem,Z1,Z2,Z3,Z4]
   refine sI ?_
   rcases aa (0≤bL (a6 l t.kids) t) with hx|hx
   ·have hx':¬bL (a6 l t.kids) t<0:=by omega
    try simp -implicitDefEqProofs only[go_sem,Z1,Z2,Z3,Z4,hx]
    refine sI ?_
    refine bZ [some 0,some 2] ?_ rfl rfl
    refine sB ?_
    rw[rk,if_neg hx']
   ·have hx':bL (a6 l t.kids) t<0:=by omega
    try simp -implicitDefEqProofs only[go_sem,Z1,Z2,Z3,Z4,hx]
    refine sI ?_
    refine aD [] (gO t) ?_
    refine sJ ?_
    refine bZ [some 0,some 3] ?_ rfl rfl
    refine sB ?_
    rw[rk,if_pos hx',←lg,dJ,fZ]
    rfl
theorem Gp:∀(t:Term)(d:Nat)(l:List Term),d≤4→bN t d=true→l.length≤999000+15*(4-d)→C E.P 194 [.acc 0,av (cT t)] [some (.acc 34 (aN l))] (bD (.acc 1) [some .dead,some (.acc 34 (aN (dh l t)))]):=
 Term.ind fun n ks ih d l h1 h2 h3=>EY (.mk n ks) ih d l h1 h2 h3
theorem D2:∀(xs:List nE)(x:nE),j6 (xs++[x])=if xs=[] then x else j6 xs++(44::x)
 | [],x=>by simp[j6]
 | [a],x=>by simp[j6]
 | a::b::xs,x=>by
   have:=D2 (b::xs) x
   simp only[bA] at this
   simp[j6,this]
def oZ(t:Term)(i:Nat):nE:=match i with
 | 0=>t.name
 | i+1=>t.name++(40::j6 ((t.kids.take (i+1)).map aO))
theorem DN{t:Term}{i:Nat}(h:i<t.kids.length):oZ t (i+1)=oZ t i++((if i=0 then [40] else [44])++aO t.kids[i]):=by
 have e:(t.kids.take (i+1)).map aO=(t.kids.take i).map aO++[aO t.kids[i]]:=by
  rw[pn h,List.map_append];rfl
 cases i with
 | zero=>
   simp only[oZ,e,List.take_zero,List.map_nil,List.nil_append,j6,if_true]
   rfl
 | succ i=>
   have jD:¬ (t.kids.take (i+1)).map aO=[]:=by
    intro hh
    have hz:t.kids.take (i+1)=[]:=by simpa using hh
    have hz2:(t.kids.take (i+1)).length=0:=by rw[hz];rfl
    rw[List.length_take] at hz2
    omega
   simp only[oZ,e,D2,jD,if_false]
   simp
theorem Aa{t:Term}(h:t.kids≠[]):aO t=oZ t t.kids.length++[41]:=by
 rw[yc t h,←xV]
 match hk:t.kids.length,h with
 | 0,h=>exact absurd (dW.1 hk) h
 | n+1,_=>
   have hk':t.kids.take (n+1)=t.kids:=ao (by omega)
   simp only[oZ,hk']
   simp
theorem PN{t:Term}{d:Nat}(h:bN t d=true)(hd:d≤4)(i:Nat)(hi:i≤t.kids.length):(oZ t i).length≤122:=by
 have key:∀k,i+k≤t.kids.length→(oZ t i).length≤(oZ t (i+k)).length:=by
  intro k
  induction k with
  | zero=>intro _;exact aJ _
  | succ k ih=>
    intro hk
    have h1:=ih (by omega)
    rw[←Nat.add_assoc,DN (by omega)]
    simp only[aR]
    omega
 have h1:=key (t.kids.length-i) (by omega)
 rw[show i+(t.kids.length-i)=t.kids.length by omega] at h1
 have h2:=vl h hd
 rcases aa (t.kids=[]) with hk|hk
 ·rw[vy t hk] at h2
  have hi0:i=0:=by rw[hk] at hi;simpa using hi
  subst hi0
  simp only[oZ]
  omega
 ·rw[Aa hk] at h2
  simp only[aR,aW,List.length_nil] at h2
  omega
theorem H8(t:Term)(ih:∀k∈t.kids,∀d:Nat,d≤4→bN k d=true→C E.P 256 [av (cT k)] [] (bD (sv (aO k)) []))(d:Nat)(hd:d≤4)(hsh:bN t d=true) :
 C E.P 256 [av (cT t)] [] (bD (sv (aO t)) []):=by
 cases d with
 | zero=>cases t;simp[bN] at hsh
 | succ d=>
 have hk:=oa hsh
 have dz:=fun i hi=>PN hsh hd i hi
 refine gT (nt:=34) (rs:=[.tmp 2]) hm Tryz.func256 fun hl he cq=>?_
 refine aM hm (fun(i:Nat)=> i≤t.kids.length) (fun(i:Nat)=> ⟨dH 34 .any [(1,.ptr 0 0),(3,sv (oZ t i)),(4,iv i)],[some (.box (cF (cT t)))]⟩) (fun(i:Nat)=> t.kids.length-i) (0) ?_ (ar [some 0] ?_ ?_ rfl rfl) ?_
 rotate_left
 ·refine sB ?_
  all_goals(first|done|(simp[oZ])|(simp[aI, *];done)|(simp[aI];done)|(simp;omega)|skip)
 ·refine sB ?_
  all_goals(first|done|(simp[oZ])|(simp[aI, *];done)|(simp[aI];done)|(simp;omega)|skip)
 rotate_left
 ·omega
 ·rintro i hi
  rcases aa (i<t.kids.length) with h1|h1
  ·have hsk:=oh hk.2.2 _ (ak h1)
   have b1:=vl hsk (by omega)
   have b2:=dz i hi
   have hc:=ih t.kids[i] (ak h1) d (by omega) hsk
   have jC:=DN h1
   try simp -implicitDefEqProofs only[go_sem,Z1,Z2,Z3,Z4,h1]
   refine sI ?_
   cases i with
   | zero=>
     try simp -implicitDefEqProofs only[go_sem,Z1,Z2,Z3,Z4,h1]
     refine sJ ?_
     refine aD [] hc ?_
     refine sJ ?_
     refine⟨0+1,?_,sL,ar [some 0] ?_ ?_ rfl rfl⟩
     rotate_left
     ·refine sB ?_
      all_goals(first|done|((rw[jC];simp))|(simp[aI, *];done)|(simp[aI];done)|(simp;omega)|skip)
     ·refine sB ?_
      all_goals(first|done|((rw[jC];simp))|(simp[aI, *];done)|(simp[aI];done)|(simp;omega)|skip)
     exact h1
   | succ i=>
     have e1:¬ (i:Int)+1=0:=by omega
     have et:((i:Int)+1).toNat=i+1:=by omega
     try simp -implicitDefEqProofs only[go_sem,Z1,Z2,Z3,Z4,e1,et,h1]
     refine sJ ?_
     refine aD [] hc ?_
     refine sJ ?_
     refine⟨i+1+1,?_,sL,ar [some 0] ?_ ?_ rfl rfl⟩
     rotate_left
     ·refine sB ?_
      all_goals(first|done|((rw[jC];simp))|(simp[aI, *];done)|(simp[aI];done)|(simp;omega)|skip)
     ·refine sB ?_
      all_goals(first|done|((rw[jC];simp))|(simp[aI, *];done)|(simp[aI];done)|(simp;omega)|skip)
     exact h1
  ·have hi2:i=t.kids.length:=by omega
   subst hi2
   have b2:=dz _ (aJ _)
   rcases aa ((0:Int)<(t.kids.length:Int)) with h3|h3
   ·have jD:t.kids≠[]:=by
     intro hh
     rw[hh] at h3
     simp at h3
    try simp -implicitDefEqProofs only[go_sem,Z1,Z2,Z3,Z4,h1,h3]
    refine sJ ?_
    refine an ?_
    refine sB ?_
    all_goals(first|done|(simp[Aa jD];done)|(simp[Aa jD];omega)|skip)
   ·have jD:t.kids=[]:=dW.1 (by omega)
    have e:oZ t t.kids.length=aO t:=by rw[vy t jD,jD];rfl
    try simp -implicitDefEqProofs only[go_sem,Z1,Z2,Z3,Z4,h1,h3]
    refine sI ?_
    refine an ?_
    refine sB ?_
    all_goals(first|done|(simp[e];done)|(simp[e];omega)|skip)
theorem mf:∀(t:Term)(d:Nat),d≤4→bN t d=true→C E.P 256 [av (cT t)] [] (bD (sv (aO t)) []):=
 Term.ind fun n ks ih d h1 h2=>H8 (.mk n ks) ih d h1 h2
theorem ja(t:Term)(h:isTerm t=true):C E.P 256 [av (cT t)] [] (bD (sv (aO t)) []):=mf t 4 (by omega) (gN h)
theorem HQ(l:List Term)(xs ys:List Term):a6 l (xs++ys)=a6 (a6 l xs) ys:=by
 rw[gq,gq,gq,List.foldl_append]
theorem qU:∀(ts l:List Term),(∀t∈ts,isTerm t=true)→(a6 l ts).length≤l.length+15*ts.length
 | [],l,_=>by simp[a6]
 | t::ts,l,h=>by
   have h1:=wh (l:=l) (gN (h t (by simp))) (by omega)
   have h2:=qU ts (dh l t) fun x hx=>h x (by simp[hx])
   simp only[a6,aW]
   omega
end Go.Proofs.YtabembjmeobhoaaGreat
