/-
  The reference: the walks of names, signatures, shapes and sorts. A step towards the exact laws.
-/
import Derived.Test.YtabembjmeobhoaaGreatKAL
set_option linter.unusedVariables false
set_option linter.unusedSimpArgs false
open Bool renaming false_eq_true→ax,true_and→aM,false_and→aS
open Classical renaming em→aa
open List renaming drop_eq_getElem_cons→aj,getElem_mem→ak,drop_of_length_le→al,take_of_length_le→ao,length_append→aX,length_cons→a8,cons_append→bz,all_cons→b7,find?_cons→dA,all_nil→dW,length_eq_zero_iff→gx
open Nat renaming le_refl→aI
open Option renaming isSome_some→aJ,getD_some→aK
namespace Go.Proofs.YtabembjmeobhoaaGreat
open Go.Eng Go.Mod
open Int renaming reduceEq→Z1,reduceLT→Z2,reduceLE→Z3,reduceToNat→Z4
set_option maxRecDepth 100000
set_option maxHeartbeats 800000
theorem tD(s:nh):C E.P 195 [sv s] [] (bN (bv (fD s)) []):=by
 refine gS (nt:=28) (rs:=[.tmp 2]) hm Tryz.func195 fun hl he cI=>?_
 refine aO hm (fun(i:Nat)=> i≤s.length∧s.all iH=(s.drop i).all iH) (fun(i:Nat)=> ⟨dB 28 .any [(0,sv s),(3,iv i)],[]⟩) (fun(i:Nat)=> s.length-i) (0) ?_ (aw [] ?_ ?_ rfl rfl) ?_
 rotate_left
 ·exact sC
 ·exact sC
 rotate_left
 ·simp
 ·rintro i ⟨hi,hg⟩
  rcases aa (i<s.length) with h1|h1
  ·rw[aj h1,b7] at hg
   simp -implicitDefEqProofs only[go_sem,h1]
   rw[rj h1]
   rcases aa ((s[i].toNat:Int)<97) with h2|h2
   ·have h3:iH s[i]=false:=by simp[iH];omega
    rw[h3,aS] at hg
    simp -implicitDefEqProofs only[go_sem,h2]
    refine an ?_
    refine sA ?_
    all_goals(simp[fD,hg];done)
   ·simp -implicitDefEqProofs only[go_sem,h2,h1]
    rw[rj h1]
    rcases aa (122<(s[i].toNat:Int)) with h4|h4
    ·have h3:iH s[i]=false:=by simp[iH];omega
     rw[h3,aS] at hg
     simp -implicitDefEqProofs only[go_sem,h4]
     refine an ?_
     refine sA ?_
     all_goals(simp[fD,hg];done)
    ·have h3:iH s[i]=true:=by simp[iH];omega
     rw[h3,aM] at hg
     simp -implicitDefEqProofs only[go_sem,h4]
     refine sQ ?_
     refine⟨i+1,?_,sL,aw [] ?_ ?_ rfl rfl⟩
     rotate_left
     ·exact sC
     ·exact sC
     exact⟨by omega,hg⟩
  ·rw[al (by omega),dW] at hg
   have e:fD s=(decide ((1:Int)≤(s.length:Int))&&decide ((s.length:Int)≤2)):=by simp[fD,hg,within]
   rcases aa ((1:Int)≤(s.length:Int)) with h2|h2
   ·simp -implicitDefEqProofs only[go_sem,h1,h2]
    refine an ?_
    refine sA ?_
    all_goals(simp[e,h2];done)
   ·simp -implicitDefEqProofs only[go_sem,h1,h2]
    refine an ?_
    refine sA ?_
    all_goals(simp[e,h2];done)
theorem tC(n:Int):C E.P 196 [iv n] [] (bN (bv (isSort n)) []):=by
 refine gS (nt:=9) (rs:=[.tmp 2]) hm Tryz.func196 fun hl he cI=>?_
 rcases aa (n=0) with h|h
 ·have k:=eq_true h
  simp -implicitDefEqProofs only[go_sem,k]
  refine an ?_
  refine sA ?_
  all_goals(simp[isSort,h];done)
 ·simp -implicitDefEqProofs only[go_sem,h]
  refine an ?_
  refine sA ?_
  all_goals(simp[isSort,h];done)
theorem vi(s:dG):C E.P 124 [av (dX s)] [] (bN (bv (fG s)) []):=by
 refine gS (nt:=68) (rs:=[.tmp 2]) hm Tryz.func124 fun hl he cI=>?_
 refine aO hm (fun(i:Nat)=> i≤s.syms.length∧qN none s.syms=qN (kg s.syms i) (s.syms.drop i)) (fun(i:Nat)=> ⟨dB 68 .any [(1,.ptr 0 0),(3,iv i)],[some (.box (cF (dX s)))]⟩) (fun(i:Nat)=> s.syms.length-i) (0) ?_ (aw [some 0] ?_ ?_ rfl rfl) ?_
 rotate_left
 ·exact sC
 ·exact sC
 rotate_left
 ·simp[kg]
 ·rintro i ⟨hi,hg⟩
  rcases aa (i<s.syms.length) with h1|h1
  ·rw[aj h1] at hg
   simp only[qN] at hg
   simp -implicitDefEqProofs only[go_sem,h1]
   refine aC [] (tD s.syms[i].name) ?_
   cases h2:fD s.syms[i].name
   ·have e:fG s=false:=by simp[fG,hg,nW,h2]
    refine sA ?_
    refine iK ?_
    refine an ?_
    refine sA ?_
    all_goals(simp[e];done)
   ·refine sA ?_
    rcases aa ((2:Int)<(s.syms[i].args.length:Int)) with h3' | h3'
    ·have h3:¬s.syms[i].args.length≤2:=by omega
     have e:fG s=false:=by simp[fG,hg,nW,h3]
     simp -implicitDefEqProofs only[go_sem,h3']
     refine iK ?_
     refine an ?_
     refine sA ?_
     all_goals(simp[e];done)
    ·have h3:s.syms[i].args.length≤2:=by omega
     simp -implicitDefEqProofs only[go_sem,h3']
     refine aC [] (tC s.syms[i].sort) ?_
     cases h4:isSort s.syms[i].sort
     ·have e:fG s=false:=by simp[fG,hg,nW,h4]
      refine sA ?_
      refine iK ?_
      refine an ?_
      refine sA ?_
      all_goals(simp[e];done)
     ·cases i with
      | zero=>
        simp only[kg,aM] at hg
        simp -implicitDefEqProofs only[go_sem,Int.lt_irrefl]
        refine iK ?_
        refine aO hm (fun(u:Nat)=> u≤s.syms[0].args.length∧s.syms[0].args.all isSort=(s.syms[0].args.drop u).all isSort) (fun(u:Nat)=> ⟨dB 68 .any [(1,.ptr 0 0),(3,iv (0:Nat)),(4,.ptr 1 0),(5,iv u)],[some (.box (cF (dX s))),some (.box (cF (vK s.syms[0])))]⟩) (fun(u:Nat)=> s.syms[0].args.length-u) (0) ?_ (aw [some 0,some 1] ?_ ?_ rfl rfl) ?_
        rotate_left
        ·exact sC
        ·exact sC
        rotate_left
        ·simp
        ·rintro u ⟨hu,hk⟩
         rcases aa (u<s.syms[0].args.length) with g1|g1
         ·rw[aj g1,b7] at hk
          simp -implicitDefEqProofs only[go_sem,g1]
          refine aC [] (tC s.syms[0].args[u]) ?_
          cases g2:isSort s.syms[0].args[u]
          ·rw[g2,aS] at hk
           have e:fG s=false:=by simp[fG,hg,nW,hk]
           refine sA ?_
           refine an ?_
           refine sA ?_
           all_goals(simp[e];done)
          ·rw[g2,aM] at hk
           refine sA ?_
           refine sQ ?_
           refine⟨u+1,?_,sL,aw [some 0,some 1] ?_ ?_ rfl rfl⟩
           rotate_left
           ·exact sC
           ·exact sC
           exact⟨by omega,hk⟩
         ·rw[al (by omega),dW] at hk
          have e:nW s.syms[0]=true:=by simp[nW,h2,h3,h4,hk]
          rw[e] at hg
          simp -implicitDefEqProofs only[go_sem,g1]
          refine sQ ?_
          refine⟨0+1,?_,sL,aw [some 0] ?_ ?_ rfl rfl⟩
          rotate_left
          ·refine sA ?_
           all_goals(simp[*];done)
          ·exact sC
          refine⟨by omega,?_⟩
          rw[hg]
          simp[kg,h1]
      | succ j=>
        have hj:j<s.syms.length:=by omega
        have e1:((j:Int)+1-1)=(j:Int):=by omega
        have e2:(0:Int)<(j:Int)+1:=by omega
        have e3:kg s.syms (j+1)=some s.syms[j].name:=by simp[kg,hj]
        rw[e3] at hg
        simp only at hg
        simp -implicitDefEqProofs only[go_sem,e1,e2,hj]
        refine sQ ?_
        cases q4:gr s.syms[j].name s.syms[j+1].name
        ·rw[q4,aS,Bool.and_false] at hg
         have e:fG s=false:=by simp[fG,hg]
         have h5:Op.bytesLess s.syms[j].name s.syms[j+1].name=false:=q4
         simp -implicitDefEqProofs only[go_sem,h5]
         refine an ?_
         refine sA ?_
         all_goals(simp[e];done)
        ·rw[q4,aM] at hg
         have h5:Op.bytesLess s.syms[j].name s.syms[j+1].name=true:=q4
         simp -implicitDefEqProofs only[go_sem,h5]
         refine aO hm (fun(u:Nat)=> u≤s.syms[j+1].args.length∧s.syms[j+1].args.all isSort=(s.syms[j+1].args.drop u).all isSort) (fun(u:Nat)=> ⟨dB 68 .any [(1,.ptr 0 0),(3,iv (j+1:Nat)),(4,.ptr 1 0),(5,iv u)],[some (.box (cF (dX s))),some (.box (cF (vK s.syms[j+1])))]⟩) (fun(u:Nat)=> s.syms[j+1].args.length-u) (0) ?_ (aw [some 0,some 1] ?_ ?_ rfl rfl) ?_
         rotate_left
         ·exact sC
         ·exact sC
         rotate_left
         ·simp
         ·rintro u ⟨hu,hk⟩
          rcases aa (u<s.syms[j+1].args.length) with g1|g1
          ·rw[aj g1,b7] at hk
           simp -implicitDefEqProofs only[go_sem,g1]
           refine aC [] (tC s.syms[j+1].args[u]) ?_
           cases g2:isSort s.syms[j+1].args[u]
           ·rw[g2,aS] at hk
            have e:fG s=false:=by simp[fG,hg,nW,hk]
            refine sA ?_
            refine an ?_
            refine sA ?_
            all_goals(simp[e];done)
           ·rw[g2,aM] at hk
            refine sA ?_
            refine sQ ?_
            refine⟨u+1,?_,sL,aw [some 0,some 1] ?_ ?_ rfl rfl⟩
            rotate_left
            ·exact sC
            ·exact sC
            exact⟨by omega,hk⟩
          ·rw[al (by omega),dW] at hk
           have e:nW s.syms[j+1]=true:=by simp[nW,h2,h3,h4,hk]
           rw[e] at hg
           simp -implicitDefEqProofs only[go_sem,g1]
           refine sQ ?_
           refine⟨j+1+1,?_,sL,aw [some 0] ?_ ?_ rfl rfl⟩
           rotate_left
           ·exact sC
           ·exact sC
           refine⟨by omega,?_⟩
           rw[hg]
           simp[kg,h1]
  ·rw[al (by omega)] at hg
   simp only[qN] at hg
   have e:fG s=decide ((s.syms.length:Int)≤7):=by simp[fG,hg];omega
   simp -implicitDefEqProofs only[go_sem,h1]
   refine an ?_
   refine sA ?_
   all_goals(simp[e];done)
theorem Sg(t:Term)(d:Nat):bL t (d+1)=(fD t.name&&(decide (t.kids.length≤2)&&cG t.kids d)):=by cases t;rfl
theorem JZ{ts:List Term}{i:Nat}(h:i<ts.length)(d:Nat):cG (ts.drop i) d=(bL ts[i] d&&cG (ts.drop (i+1)) d):=by rw[aj h,cG]
theorem D0(t:Term)(ih:∀k∈t.kids,∀d:Nat,d≤4→C E.P 266 [av (cT k),iv d] [] (bN (bv (bL k d)) []))(d:Nat)(hd:d≤4) :
 C E.P 266 [av (cT t),iv d] [] (bN (bv (bL t d)) []):=by
 cases d with
 | zero=>
   have e:bL t 0=false:=by cases t;rfl
   have cI:=jR
   refine lG (nt:=36) (rs:=[.tmp 4]) hm Tryz.func266 rfl rfl rfl rfl rfl (fun hl he=>?_)
   simp -implicitDefEqProofs only[go_sem,Z2] at hl⊢
   refine an ?_
   refine sA ?_
   all_goals(simp[e];done)
 | succ d=>
   have e:=Sg t d
   refine gS (nt:=36) (rs:=[.tmp 4]) hm Tryz.func266 fun hl he cI=>?_
   have h0:¬ (d:Int)+1<1:=by omega
   simp -implicitDefEqProofs only[go_sem,h0]
   refine aC [] (tD t.name) ?_
   cases h2:fD t.name
   ·refine sA ?_
    refine an ?_
    refine sA ?_
    all_goals(simp[e,h2];done)
   ·refine sA ?_
    rcases aa ((2:Int)<(t.kids.length:Int)) with h3' | h3'
    ·have h3:¬t.kids.length≤2:=by omega
     simp -implicitDefEqProofs only[go_sem,h3']
     refine an ?_
     refine sA ?_
     all_goals(simp[e,h3];done)
    ·have h3:t.kids.length≤2:=by omega
     have e:bL t (d+1)=cG t.kids d:=by simp[e,h2,h3]
     simp -implicitDefEqProofs only[go_sem,h3']
     refine aO hm (fun(i:Nat)=> i≤t.kids.length∧cG t.kids d=cG (t.kids.drop i) d) (fun(i:Nat)=> ⟨dB 36 .any [(1,iv ((d:Int)+1)),(2,.ptr 0 0),(5,iv i)],[some (.box (cF (cT t)))]⟩) (fun(i:Nat)=> t.kids.length-i) (0) ?_ (aw [some 0] ?_ ?_ rfl rfl) ?_
     rotate_left
     ·exact sC
     ·exact sC
     rotate_left
     ·simp
     ·rintro i ⟨hi,hg⟩
      rcases aa (i<t.kids.length) with h1|h1
      ·rw[JZ h1] at hg
       have e2:(d:Int)+1-1=(d:Int):=by omega
       simp -implicitDefEqProofs only[go_sem,h1,e2]
       refine sQ ?_
       have hc:=ih t.kids[i] (ak h1) d (by omega)
       refine aC [] hc ?_
       cases h4:bL t.kids[i] d
       ·rw[h4,aS] at hg
        refine sA ?_
        refine an ?_
        refine sA ?_
        all_goals(simp[e,hg];done)
       ·rw[h4,aM] at hg
        refine sA ?_
        refine sQ ?_
        refine⟨i+1,?_,sL,aw [some 0] ?_ ?_ rfl rfl⟩
        rotate_left
        ·exact sC
        ·exact sC
        exact⟨by omega,hg⟩
      ·rw[al (by omega),cG] at hg
       simp -implicitDefEqProofs only[go_sem,h1]
       refine an ?_
       refine sA ?_
       all_goals(simp[e,hg];done)
theorem Fa:∀(t:Term)(d:Nat),d≤4→C E.P 266 [av (cT t),iv d] [] (bN (bv (bL t d)) []):=
 Term.ind fun n ks ih d hd=>D0 (.mk n ks) ih d hd
theorem Od{ts:List Term}{i:Nat}(h:i<ts.length)(d:Nat):lK (ts.take (i+1)) d=lK (ts.take i) d+many ts[i] d:=by
 have e:ts.take (i+1)=ts.take i++[ts[i]]:=by rw[List.take_add_one,List.getElem?_eq_getElem h];rfl
 have key:∀(xs:List Term),lK (xs++[ts[i]]) d=lK xs d+many ts[i] d:=by
  intro xs
  induction xs with
  | nil=>simp[lK]
  | cons a xs ih=>simp only[bz,lK,ih];omega
 rw[e,key]
theorem Fq(t:Term)(ih:∀k∈t.kids,∀d:Nat,d≤4→bL k d=true→C E.P 267 [av (cT k),iv d] [] (bN (iv (many k d)) []))(d:Nat)(hd:d≤4)(hs:bL t d=true) :
 C E.P 267 [av (cT t),iv d] [] (bN (iv (many t d)) []):=by
 cases d with
 | zero=>cases t;simp[bL] at hs
 | succ d=>
   have hk:=nU hs
   have e:many t (d+1)=1+lK t.kids d:=by cases t;rfl
   refine gS (nt:=29) (rs:=[.tmp 4]) hm Tryz.func267 fun hl he cI=>?_
   refine aO hm (fun(i:Nat)=> i≤t.kids.length) (fun(i:Nat)=> ⟨dB 29 .any [(1,iv ((d:Int)+1)),(2,.ptr 0 0),(5,iv ((1+lK (t.kids.take i) d:Nat):Int)),(6,iv i)],[some (.box (cF (cT t)))]⟩) (fun(i:Nat)=> t.kids.length-i) (0) ?_ (aw [some 0] ?_ ?_ rfl rfl) ?_
   rotate_left
   ·refine sA ?_
    all_goals(simp[lK])
   ·exact sC
   rotate_left
   ·omega
   ·rintro i hi
    have b1:=Al (t.kids.take i) d (rh hk.2.2 i)
    have b2:(t.kids.take i).length≤2:=by simp;omega
    have b3:(2:Nat) ^ d≤2 ^ 4:=Nat.pow_le_pow_right (by omega) (by omega)
    have b4:(t.kids.take i).length*(2 ^ d-1)≤2*(2 ^ d-1):=Nat.mul_le_mul_right _ b2
    rcases aa (i<t.kids.length) with h1|h1
    ·have hsk:=n7 hk.2.2 _ (ak h1)
     have b5:=KG t.kids[i] d hsk
     have e2:(d:Int)+1-1=(d:Int):=by omega
     have e3:(0:Int)<(d:Int)+1:=by omega
     simp -implicitDefEqProofs only[go_sem,h1,e3,e2]
     refine sQ ?_
     have hc:=ih t.kids[i] (ak h1) d (by omega) hsk
     refine aC [] hc ?_
     refine sQ ?_
     refine⟨i+1,?_,sL,aw [some 0] ?_ ?_ rfl rfl⟩
     rotate_left
     ·refine sA ?_
      all_goals((simp only[Od h1];simp;omega))
     ·exact sC
     exact h1
    ·have et:t.kids.take i=t.kids:=ao (by omega)
     simp -implicitDefEqProofs only[go_sem,h1,et]
     refine an ?_
     refine sA ?_
     all_goals(simp[e];done)
theorem Hg:∀(t:Term)(d:Nat),d≤4→bL t d=true→C E.P 267 [av (cT t),iv d] [] (bN (iv (many t d)) []):=
 Term.ind fun n ks ih d hd hs=>Fq (.mk n ks) ih d hd hs
theorem r6(t:Term):C E.P 242 [av (cT t)] [] (bN (bv (isTerm t)) []):=by
 have e:=AD t
 unfold right at e
 refine gS (nt:=10) (rs:=[.tmp 2]) hm Tryz.func242 fun hl he cI=>?_
 have hc:=Fa t 4 (by omega)
 refine aC [] hc ?_
 cases h:bL t 4
 ·refine sA ?_
  refine an ?_
  refine sA ?_
  all_goals(simp[←e,h];done)
 ·have hc:=Hg t 4 (by omega) h
  refine sA ?_
  refine aC [] hc ?_
  refine an ?_
  refine sA ?_
  rw[←e,h]
  simp
  omega
theorem yt(s:dG)(n:nh):C E.P 219 [av (dX s),sv n] [] (bN (.ja [av (vK ((symbol s n).getD sg)),bv (symbol s n).isSome]) []):=by
 refine gT (nt:=28) (rs:=[.cell 4 126,.tmp 5]) hm Tryz.func219 fun hl he cI=>?_
 refine aO hm (fun(i:Nat)=> i≤s.syms.length∧symbol s n=(s.syms.drop i).find? (fun x=>decide (x.name=n))) (fun(i:Nat)=> ⟨dB 28 .any [(1,sv n),(2,.ptr 0 0),(4,.ptr 1 0),(6,iv i)],[some (.box (cF (dX s))),some (.box (cF (vK sg)))]⟩) (fun(i:Nat)=> s.syms.length-i) (0) ?_ (aw [some 0,some 1] ?_ ?_ rfl rfl) ?_
 rotate_left
 ·refine sB ?_
  all_goals(first|done|(simp[sg,bG])|(simp[aq, *];done)|(simp[aq];done)|(simp;omega)|skip)
 ·refine sB ?_
  all_goals(first|done|(simp[sg,bG])|(simp[aq, *];done)|(simp[aq];done)|(simp;omega)|skip)
 rotate_left
 ·simp[symbol]
 ·rintro i ⟨hi,hg⟩
  rcases aa (i<s.syms.length) with h1|h1
  ·rw[aj h1] at hg
   rcases aa (s.syms[i].name=n) with h2|h2
   ·have e:symbol s n=some s.syms[i]:=by rw[hg];simp only[dA,h2,decide_true]
    try simp -implicitDefEqProofs only[go_sem,Z1,Z2,Z3,Z4,h1,h2]
    refine sJ ?_
    refine an ?_
    refine sB ?_
    all_goals(first|done|(simp[e,h2];done)|(simp[e,h2];omega)|skip)
   ·have e:symbol s n=(s.syms.drop (i+1)).find? (fun x=>decide (x.name=n)):=by rw[hg];simp only[dA,h2,decide_false]
    try simp -implicitDefEqProofs only[go_sem,Z1,Z2,Z3,Z4,h1,h2]
    refine sJ ?_
    refine⟨i+1,?_,sL,aw [some 0,some 1] ?_ ?_ rfl rfl⟩
    rotate_left
    ·refine sB ?_
     all_goals(first|done|(simp[aq, *];done)|(simp[aq];done)|(simp;omega)|skip)
    ·refine sB ?_
     all_goals(first|done|(simp[aq, *];done)|(simp[aq];done)|(simp;omega)|skip)
    exact⟨by omega,e⟩
  ·have e:symbol s n=none:=by rw[hg,al (by omega)];rfl
   try simp -implicitDefEqProofs only[go_sem,Z1,Z2,Z3,Z4,h1]
   refine sI ?_
   refine an ?_
   refine sB ?_
   all_goals(first|done|(simp[e,sg,tW];done)|(simp[e,sg,tW];omega)|skip)
theorem J5(s:dG)(hs:fG s=true)(t:Term)(ih:∀k∈t.kids,C E.P 192 [av (dX s),av (cT k)] [] (bN (iv ((fI s k).getD (-1))) [])) :
 C E.P 192 [av (dX s),av (cT t)] [] (bN (iv ((fI s t).getD (-1))) []):=by
 have ht:=Iz s t
 refine gT (nt:=48) (rs:=[.tmp 4]) hm Tryz.func192 fun hl he cI=>?_
 refine aD [] (yt s t.name) ?_
 refine sI ?_
 cases hx:symbol s t.name with
 | none=>
   rw[hx] at ht
   simp only at ht
   try simp -implicitDefEqProofs only[go_sem,Z1,Z2,Z3,Z4,Option.isSome_none]
   refine sI ?_
   refine an ?_
   refine sB ?_
   all_goals(first|done|(simp[ht];done)|(simp[ht];omega)|skip)
 | some x=>
   rw[hx] at ht
   simp only at ht
   have hxo:=(GH (IJ hs hx)).2
   rcases aa (x.args.length=t.kids.length) with h1|h1
   ·simp only[h1,decide_true,aM] at ht
    try simp -implicitDefEqProofs only[go_sem,Z1,Z2,Z3,Z4,aJ,aK,h1]
    refine sI ?_
    refine aO hm (fun(i:Nat)=> i≤t.kids.length∧gy s t.kids x.args=gy s (t.kids.drop i) (x.args.drop i)) (fun(i:Nat)=> ⟨dB 48 .any [(2,.ptr 0 0),(3,.ptr 1 0),(5,.ptr 2 0),(7,iv i)],[some (.box (cF (dX s))),some (.box (cF (cT t))),some (.box (cF (vK x)))]⟩) (fun(i:Nat)=> t.kids.length-i) (0) ?_ (aw [some 0,some 1,some 2] ?_ ?_ rfl rfl) ?_
    rotate_left
    ·refine sB ?_
     all_goals(first|done|(simp[aq, *];done)|(simp[aq];done)|(simp;omega)|skip)
    ·refine sB ?_
     all_goals(first|done|(simp[aq, *];done)|(simp[aq];done)|(simp;omega)|skip)
    rotate_left
    ·simp
    ·rintro i ⟨hi,hg⟩
     rcases aa (i<t.kids.length) with h2|h2
     ·have h3:i<x.args.length:=by omega
      have hso:=EZ.1 (hxo x.args[i] (ak h3))
      rw[z7 h2 h3] at hg
      try simp -implicitDefEqProofs only[go_sem,Z1,Z2,Z3,Z4,h2,h3]
      refine sI ?_
      have hc:=ih t.kids[i] (ak h2)
      refine bQ [] hc ?_ ?_<;>simp -implicitDefEqProofs only[go_sem,Z1,Z2,Z3,Z4,h2,h3]
      refine sJ ?_
      rcases aa ((fI s t.kids[i]).getD (-1)=x.args[i]) with hn|hn
      ·have hn2:fI s t.kids[i]=some x.args[i]:=by
        cases hk:fI s t.kids[i] with
        | none=>rw[hk] at hn;simp only[Option.getD_none] at hn;omega
        | some n=>rw[hk] at hn;simp only[aK] at hn;rw[hn]
       have hz:gy s t.kids x.args=gy s (t.kids.drop (i+1)) (x.args.drop (i+1)):=by rw[hg,hn2];simp
       have k:=eq_true hn
       try simp -implicitDefEqProofs only[go_sem,Z1,Z2,Z3,Z4,k]
       refine sJ ?_
       refine⟨i+1,?_,sL,aw [some 0,some 1,some 2] ?_ ?_ rfl rfl⟩
       rotate_left
       ·refine sB ?_
        all_goals(first|done|(simp[aq, *];done)|(simp[aq];done)|(simp;omega)|skip)
       ·refine sB ?_
        all_goals(first|done|(simp[aq, *];done)|(simp[aq];done)|(simp;omega)|skip)
       exact⟨by omega,hz⟩
      ·have hn2:¬fI s t.kids[i]=some x.args[i]:=fun h=>hn (by rw[h];rfl)
       have hz:gy s t.kids x.args=false:=by
        rw[hg]
        simp[hn2]
       rw[hz] at ht
       simp only[ax,if_false] at ht
       try simp -implicitDefEqProofs only[go_sem,Z1,Z2,Z3,Z4,hn]
       refine sI ?_
       refine an ?_
       refine sB ?_
       all_goals(first|done|(simp[ht];done)|(simp[ht];omega)|skip)
     ·rw[al (by omega),al (by omega)] at hg
      rw[hg] at ht
      simp only[gy,if_true] at ht
      try simp -implicitDefEqProofs only[go_sem,Z1,Z2,Z3,Z4,h2]
      refine sI ?_
      refine an ?_
      refine sB ?_
      all_goals(first|done|(simp[ht];done)|(simp[ht];omega)|skip)
   ·simp only[h1,decide_false,aS,ax,if_false] at ht
    try simp -implicitDefEqProofs only[go_sem,Z1,Z2,Z3,Z4,aJ,aK,h1]
    refine sI ?_
    refine an ?_
    refine sB ?_
    all_goals(first|done|(simp[ht];done)|(simp[ht];omega)|skip)
theorem sx(s:dG)(hs:fG s=true):∀(t:Term),C E.P 192 [av (dX s),av (cT t)] [] (bN (iv ((fI s t).getD (-1))) []):=
 Term.ind fun n ks ih=>J5 s hs (.mk n ks) ih
theorem drop_eq{α:Type}{xs ys:List α}{i:Nat}(h:i<xs.length)(h':i<ys.length):(xs.drop i=ys.drop i)=(xs[i]=ys[i]∧xs.drop (i+1)=ys.drop (i+1)):=by
 rw[aj h,aj h',List.cons.injEq]
theorem BG(a b:Term)(ih:∀k∈a.kids,∀y,C E.P 201 [av (cT k),av (cT y)] [] (bN (bv (decide (k=y))) [])):C E.P 201 [av (cT a),av (cT b)] [] (bN (bv (decide (a=b))) []):=by
 refine gT (nt:=39) (rs:=[.tmp 4]) hm Tryz.func201 fun hl he cI=>?_
 rcases aa (a.name=b.name) with h|h
 ·have k:=eq_true h
  try simp -implicitDefEqProofs only[go_sem,Z1,Z2,Z3,Z4,k]
  refine sI ?_
  rcases aa (a.kids.length=b.kids.length) with h2|h2
  ·have k2:=eq_true h2
   try simp -implicitDefEqProofs only[go_sem,Z1,Z2,Z3,Z4,k2]
   refine sI ?_
   refine aO hm (fun(i:Nat)=> i≤a.kids.length∧(a.kids=b.kids↔a.kids.drop i=b.kids.drop i)) (fun(i:Nat)=> ⟨dB 39 .any [(2,.ptr 0 0),(3,.ptr 1 0),(5,iv i)],[some (.box (cF (cT a))),some (.box (cF (cT b)))]⟩) (fun(i:Nat)=> a.kids.length-i) (0) ?_ (aw [some 0,some 1] ?_ ?_ rfl rfl) ?_
   rotate_left
   ·refine sB ?_
    all_goals(first|done|(simp[aq, *];done)|(simp[aq];done)|(simp;omega)|skip)
   ·refine sB ?_
    all_goals(first|done|(simp[aq, *];done)|(simp[aq];done)|(simp;omega)|skip)
   rotate_left
   ·simp
   ·rintro i ⟨hi,hg⟩
    rcases aa (i<a.kids.length) with h3|h3
    ·have h4:i<b.kids.length:=by omega
     rw[drop_eq h3 h4] at hg
     try simp -implicitDefEqProofs only[go_sem,Z1,Z2,Z3,Z4,h3,h4]
     refine sI ?_
     have hc:=ih a.kids[i] (ak h3) b.kids[i]
     refine aD [] hc ?_
     refine sI ?_
     rcases aa (a.kids[i]=b.kids[i]) with h5|h5
     ·have k5:=eq_true h5
      try simp -implicitDefEqProofs only[go_sem,Z1,Z2,Z3,Z4,k5]
      refine sJ ?_
      refine⟨i+1,?_,sL,aw [some 0,some 1] ?_ ?_ rfl rfl⟩
      rotate_left
      ·refine sB ?_
       all_goals(first|done|(simp[aq, *];done)|(simp[aq];done)|(simp;omega)|skip)
      ·refine sB ?_
       all_goals(first|done|(simp[aq, *];done)|(simp[aq];done)|(simp;omega)|skip)
      refine⟨by omega,?_⟩
      rw[hg]
      simp[h5]
     ·have e:¬a.kids=b.kids:=fun hh=>h5 (hg.1 hh).1
      try simp -implicitDefEqProofs only[go_sem,Z1,Z2,Z3,Z4,h5]
      refine sI ?_
      refine an ?_
      refine sB ?_
      all_goals(first|done|(simp[pX,e];done)|(simp[pX,e];omega)|skip)
    ·rw[al (by omega),al (by omega)] at hg
     try simp -implicitDefEqProofs only[go_sem,Z1,Z2,Z3,Z4,h3]
     refine sI ?_
     refine an ?_
     refine sB ?_
     all_goals(first|done|(simp[pX,h,hg];done)|(simp[pX,h,hg];omega)|skip)
  ·have e:¬a.kids=b.kids:=fun hh=>h2 (by rw[hh])
   try simp -implicitDefEqProofs only[go_sem,Z1,Z2,Z3,Z4,h2]
   refine sI ?_
   refine an ?_
   refine sB ?_
   all_goals(first|done|(simp[pX,e];done)|(simp[pX,e];omega)|skip)
 ·try simp -implicitDefEqProofs only[go_sem,Z1,Z2,Z3,Z4,h]
  refine sI ?_
  refine an ?_
  refine sB ?_
  all_goals(first|done|(simp[pX,h];done)|(simp[pX,h];omega)|skip)
theorem nE:∀a b,C E.P 201 [av (cT a),av (cT b)] [] (bN (bv (decide (a=b))) []):=
 Term.ind fun n ks ih b=>BG (.mk n ks) b ih
theorem p8(t:Term):C E.P 265 [av (cT t)] [] (bN (bv (isNone t)) []):=by
 refine gT (nt:=12) (rs:=[.tmp 2]) hm Tryz.func265 fun hl he cI=>?_
 rcases aa (t.name=[]) with h|h
 ·have k:=eq_true h
  try simp -implicitDefEqProofs only[go_sem,Z1,Z2,Z3,Z4,k]
  refine sI ?_
  refine an ?_
  refine sB ?_
  all_goals(first|done|(simp[isNone,h];done)|(simp[isNone,h];omega)|skip)
 ·try simp -implicitDefEqProofs only[go_sem,Z1,Z2,Z3,Z4,h]
  refine sI ?_
  refine an ?_
  refine sB ?_
  all_goals(first|done|(simp[isNone,h];done)|(simp[isNone,h];omega)|skip)
theorem Gs(t:Term)(ih:∀k∈t.kids,C E.P 60 [av (cT k)] [] (bN (av (cT k)) [])):C E.P 60 [av (cT t)] [] (bN (av (cT t)) []):=by
 refine gT (nt:=27) (rs:=[.cell 2 34]) hm Tryz.func60 fun hl he cI=>?_
 refine aO hm (fun(i:Nat)=> i≤t.kids.length) (fun(i:Nat)=> ⟨dB 27 .any [(1,.ptr 0 0),(2,.ptr 1 0),(3,.ptr 2 0),(4,iv i)],[some (.box (cF (cT t))),some (.box (cF (cT aL))),some (.box [.d (.str t.name),.acc 3]),some (.acc 34 (aP (t.kids.take i)))]⟩) (fun(i:Nat)=> t.kids.length-i) (0) ?_ (aw [some 0,some 1,some 2,none] ?_ ?_ rfl rfl) ?_
 rotate_left
 ·refine sB ?_
  all_goals(first|done|(simp[aq, *];done)|(simp[aq];done)|(simp;omega)|skip)
 ·refine sB ?_
  all_goals(first|done|(simp[aq, *];done)|(simp[aq];done)|(simp;omega)|skip)
 rotate_left
 ·omega
 ·rintro i hi
  rcases aa (i<t.kids.length) with h1|h1
  ·try simp -implicitDefEqProofs only[go_sem,Z1,Z2,Z3,Z4,h1]
   refine sI ?_
   have hc:=ih t.kids[i] (ak h1)
   refine aD [] hc ?_
   refine sJ ?_
   refine⟨i+1,?_,sL,aw [some 0,some 1,some 2,some 4] ?_ ?_ rfl rfl⟩
   rotate_left
   ·refine sB ?_
    all_goals(first|done|(exact o9 h1)|(simp[aq, *];done)|(simp[aq];done)|(simp;omega)|skip)
   ·refine sB ?_
    all_goals(first|done|(exact o9 h1)|(simp[aq, *];done)|(simp[aq];done)|(simp;omega)|skip)
   exact h1
  ·have et:t.kids.take i=t.kids:=ao (by omega)
   try simp -implicitDefEqProofs only[go_sem,Z1,Z2,Z3,Z4,h1,et]
   refine sI ?_
   refine an ?_
   refine sB ?_
   all_goals(first|done|(simp;done)|(simp;omega)|skip)
theorem gF:∀t,C E.P 60 [av (cT t)] [] (bN (av (cT t)) []):=
 Term.ind fun n ks ih=>Gs (.mk n ks) ih
theorem cL(ts:List Term)(t:Term):C E.P 130 [lv (aP ts),av (cT t)] [] (bN (iv (bM ts t)) []):=by
 refine gT (nt:=19) (rs:=[.tmp 4]) hm Tryz.func130 fun hl he cI=>?_
 refine aO hm (fun(i:Nat)=> i≤ts.length∧bM ts t=fX (fun u=>decide (t=u)) (ts.drop i) i) (fun(i:Nat)=> ⟨dB 19 .any [(0,lv (aP ts)),(3,.ptr 0 0),(5,iv i)],[some (.box (cF (cT t)))]⟩) (fun(i:Nat)=> ts.length-i) (0) ?_ (aw [some 0] ?_ ?_ rfl rfl) ?_
 rotate_left
 ·refine sB ?_
  all_goals(first|done|(simp[aq, *];done)|(simp[aq];done)|(simp;omega)|skip)
 ·refine sB ?_
  all_goals(first|done|(simp[aq, *];done)|(simp[aq];done)|(simp;omega)|skip)
 rotate_left
 ·simp[bM,idxOf]
 ·rintro i ⟨hi,hg⟩
  rcases aa (i<ts.length) with h1|h1
  ·rw[aj h1,fX] at hg
   try simp -implicitDefEqProofs only[go_sem,Z1,Z2,Z3,Z4,h1]
   refine sI ?_
   refine aD [] (nE ts[i] t) ?_
   refine sI ?_
   rcases aa (ts[i]=t) with h2|h2
   ·have k:=eq_true h2
    simp only[h2,decide_true,if_true] at hg
    try simp -implicitDefEqProofs only[go_sem,Z1,Z2,Z3,Z4,k]
    refine sI ?_
    refine an ?_
    refine sB ?_
    all_goals(first|done|(simp[hg];done)|(simp[hg];omega)|skip)
   ·have h3:¬t=ts[i]:=fun h=>h2 h.symm
    simp only[h3,decide_false,ax,if_false] at hg
    try simp -implicitDefEqProofs only[go_sem,Z1,Z2,Z3,Z4,h2]
    refine sJ ?_
    refine⟨i+1,?_,sL,aw [some 0] ?_ ?_ rfl rfl⟩
    rotate_left
    ·refine sB ?_
     all_goals(first|done|(simp[aq, *];done)|(simp[aq];done)|(simp;omega)|skip)
    ·refine sB ?_
     all_goals(first|done|(simp[aq, *];done)|(simp[aq];done)|(simp;omega)|skip)
    exact⟨by omega,by rw[hg];rfl⟩
  ·rw[al (by omega),fX] at hg
   try simp -implicitDefEqProofs only[go_sem,Z1,Z2,Z3,Z4,h1]
   refine sI ?_
   refine an ?_
   refine sB ?_
   all_goals(first|done|(simp[hg];done)|(simp[hg];omega)|skip)
theorem DY(t:Term)(ih:∀k∈t.kids,∀(d:Nat)(l:List Term),d≤4→bL k d=true→l.length≤999000+15*(4-d)→C E.P 194 [.acc 0,av (cT k)] [some (.acc 34 (aP l))] (bN (.acc 1) [some .dead,some (.acc 34 (aP (de l k)))]))(d:Nat)(l:List Term)
 (hd:d≤4) (hsh:bL t d=true) (hl1:l.length≤999000+15*(4-d)) :
 C E.P 194 [.acc 0,av (cT t)] [some (.acc 34 (aP l))] (bN (.acc 1) [some .dead,some (.acc 34 (aP (de l t)))]):=by
 cases d with
 | zero=>cases t;simp[bL] at hsh
 | succ d=>
 have hk:=nU hsh
 have hle:=fun i=>yL (l:=l) hsh (by omega) i
 refine gT (nt:=30) (rs:=[.tmp 4]) hm Tryz.func194 fun hl he cI=>?_
 refine aO hm (fun(i:Nat)=> i≤t.kids.length) (fun(i:Nat)=> ⟨dB 30 .any [(0,.acc 2),(3,.ptr 1 0),(5,iv i)],[some .dead,some (.box (cF (cT t))),some (.acc 34 (aP (ba l (t.kids.take i))))]⟩) (fun(i:Nat)=> t.kids.length-i) (0) ?_ (aw [some 0,some 1,some 0] ?_ ?_ rfl rfl) ?_
 rotate_left
 ·refine sB ?_
  all_goals(first|done|(simp only[ba])|(simp[aq, *];done)|(simp[aq];done)|(simp;omega)|skip)
 ·refine sB ?_
  all_goals(first|done|(simp only[ba])|(simp[aq, *];done)|(simp[aq];done)|(simp;omega)|skip)
 rotate_left
 ·omega
 ·rintro i hi
  rcases aa (i<t.kids.length) with h1|h1
  ·try simp -implicitDefEqProofs only[go_sem,Z1,Z2,Z3,Z4,h1]
   refine sI ?_
   have hc:=ih t.kids[i] (ak h1) d (ba l (t.kids.take i)) (by omega) (n7 hk.2.2 _ (ak h1)) (by have:=hle i;omega)
   refine oD [] [2,3] hc ?_
   refine sJ ?_
   refine⟨i+1,?_,sL,aw [some 0,some 1,some 3] ?_ ?_ rfl rfl⟩
   rotate_left
   ·refine sB ?_
    all_goals(first|done|(simp only[qO h1])|(simp[aq, *];done)|(simp[aq];done)|(simp;omega)|skip)
   ·refine sB ?_
    all_goals(first|done|(simp only[qO h1])|(simp[aq, *];done)|(simp[aq];done)|(simp;omega)|skip)
   exact h1
  ·have e:t.kids.take i=t.kids:=ao (by omega)
   have h2:=hle i
   rw[e] at h2
   try simp -implicitDefEqProofs only[go_sem,Z1,Z2,Z3,Z4,h1,e]
   refine sI ?_
   refine dL [] [2] (cL (ba l t.kids) t) rfl ?_ ?_ ?_
   ·exact sV
   all_goals simp -implicitDefEqProofs only[go_sem,Z1,Z2,Z3,Z4]
   refine sI ?_
   rcases aa (0≤bM (ba l t.kids) t) with hx|hx
   ·have hx':¬bM (ba l t.kids) t<0:=by omega
    try simp -implicitDefEqProofs only[go_sem,Z1,Z2,Z3,Z4,hx]
    refine sI ?_
    refine bX [some 0,some 2] ?_ rfl rfl
    refine sB ?_
    rw[qX,if_neg hx']
   ·have hx':bM (ba l t.kids) t<0:=by omega
    try simp -implicitDefEqProofs only[go_sem,Z1,Z2,Z3,Z4,hx]
    refine sI ?_
    refine aD [] (gF t) ?_
    refine sJ ?_
    refine bX [some 0,some 3] ?_ rfl rfl
    refine sB ?_
    rw[qX,if_pos hx',←lR,dM,lW]
    rfl
theorem FX:∀(t:Term)(d:Nat)(l:List Term),d≤4→bL t d=true→l.length≤999000+15*(4-d)→C E.P 194 [.acc 0,av (cT t)] [some (.acc 34 (aP l))] (bN (.acc 1) [some .dead,some (.acc 34 (aP (de l t)))]):=
 Term.ind fun n ks ih d l h1 h2 h3=>DY (.mk n ks) ih d l h1 h2 h3
theorem Da:∀(xs:List nh)(x:nh),jT (xs++[x])=if xs=[] then x else jT xs++(44::x)
 | [],x=>by simp[jT]
 | [a],x=>by simp[jT]
 | a::b::xs,x=>by
   have:=Da (b::xs) x
   simp only[bz] at this
   simp[jT,this]
def oI(t:Term)(i:Nat):nh:=match i with
 | 0=>t.name
 | i+1=>t.name++(40::jT ((t.kids.take (i+1)).map aN))
theorem CE{t:Term}{i:Nat}(h:i<t.kids.length):oI t (i+1)=oI t i++((if i=0 then [40] else [44])++aN t.kids[i]):=by
 have e:(t.kids.take (i+1)).map aN=(t.kids.take i).map aN++[aN t.kids[i]]:=by
  rw[pw h,List.map_append];rfl
 cases i with
 | zero=>
   simp only[oI,e,List.take_zero,List.map_nil,List.nil_append,jT,if_true]
   rfl
 | succ i=>
   have ju:¬ (t.kids.take (i+1)).map aN=[]:=by
    intro hh
    have hz:t.kids.take (i+1)=[]:=by simpa using hh
    have hz2:(t.kids.take (i+1)).length=0:=by rw[hz];rfl
    rw[List.length_take] at hz2
    omega
   simp only[oI,e,Da,ju,if_false]
   simp
theorem y5{t:Term}(h:t.kids≠[]):aN t=oI t t.kids.length++[41]:=by
 rw[wX t h,←vW]
 match hk:t.kids.length,h with
 | 0,h=>exact absurd (gx.1 hk) h
 | n+1,_=>
   have hk':t.kids.take (n+1)=t.kids:=ao (by omega)
   simp only[oI,hk']
   simp
theorem Qa{t:Term}{d:Nat}(h:bL t d=true)(hd:d≤4)(i:Nat)(hi:i≤t.kids.length):(oI t i).length≤122:=by
 have key:∀k,i+k≤t.kids.length→(oI t i).length≤(oI t (i+k)).length:=by
  intro k
  induction k with
  | zero=>intro _;exact aI _
  | succ k ih=>
    intro hk
    have h1:=ih (by omega)
    rw[←Nat.add_assoc,CE (by omega)]
    simp only[aX]
    omega
 have h1:=key (t.kids.length-i) (by omega)
 rw[show i+(t.kids.length-i)=t.kids.length by omega] at h1
 have h2:=vg h hd
 rcases aa (t.kids=[]) with hk|hk
 ·rw[uY t hk] at h2
  have hi0:i=0:=by rw[hk] at hi;simpa using hi
  subst hi0
  simp only[oI]
  omega
 ·rw[y5 hk] at h2
  simp only[aX,a8,List.length_nil] at h2
  omega
theorem Gk(t:Term)(ih:∀k∈t.kids,∀d:Nat,d≤4→bL k d=true→C E.P 256 [av (cT k)] [] (bN (sv (aN k)) []))(d:Nat)(hd:d≤4)(hsh:bL t d=true) :
 C E.P 256 [av (cT t)] [] (bN (sv (aN t)) []):=by
 cases d with
 | zero=>cases t;simp[bL] at hsh
 | succ d=>
 have hk:=nU hsh
 have dy:=fun i hi=>Qa hsh hd i hi
 refine gT (nt:=34) (rs:=[.tmp 2]) hm Tryz.func256 fun hl he cI=>?_
 refine aO hm (fun(i:Nat)=> i≤t.kids.length) (fun(i:Nat)=> ⟨dB 34 .any [(1,.ptr 0 0),(3,sv (oI t i)),(4,iv i)],[some (.box (cF (cT t)))]⟩) (fun(i:Nat)=> t.kids.length-i) (0) ?_ (aw [some 0] ?_ ?_ rfl rfl) ?_
 rotate_left
 ·refine sB ?_
  all_goals(first|done|(simp[oI])|(simp[aq, *];done)|(simp[aq];done)|(simp;omega)|skip)
 ·refine sB ?_
  all_goals(first|done|(simp[oI])|(simp[aq, *];done)|(simp[aq];done)|(simp;omega)|skip)
 rotate_left
 ·omega
 ·rintro i hi
  rcases aa (i<t.kids.length) with h1|h1
  ·have hsk:=n7 hk.2.2 _ (ak h1)
   have b1:=vg hsk (by omega)
   have b2:=dy i hi
   have hc:=ih t.kids[i] (ak h1) d (by omega) hsk
   have jt:=CE h1
   try simp -implicitDefEqProofs only[go_sem,Z1,Z2,Z3,Z4,h1]
   refine sI ?_
   cases i with
   | zero=>
     try simp -implicitDefEqProofs only[go_sem,Z1,Z2,Z3,Z4,h1]
     refine sJ ?_
     refine aD [] hc ?_
     refine sJ ?_
     refine⟨0+1,?_,sL,aw [some 0] ?_ ?_ rfl rfl⟩
     rotate_left
     ·refine sB ?_
      all_goals(first|done|((rw[jt];simp))|(simp[aq, *];done)|(simp[aq];done)|(simp;omega)|skip)
     ·refine sB ?_
      all_goals(first|done|((rw[jt];simp))|(simp[aq, *];done)|(simp[aq];done)|(simp;omega)|skip)
     exact h1
   | succ i=>
     have e1:¬ (i:Int)+1=0:=by omega
     have et:((i:Int)+1).toNat=i+1:=by omega
     try simp -implicitDefEqProofs only[go_sem,Z1,Z2,Z3,Z4,e1,et,h1]
     refine sJ ?_
     refine aD [] hc ?_
     refine sJ ?_
     refine⟨i+1+1,?_,sL,aw [some 0] ?_ ?_ rfl rfl⟩
     rotate_left
     ·refine sB ?_
      all_goals(first|done|((rw[jt];simp))|(simp[aq, *];done)|(simp[aq];done)|(simp;omega)|skip)
     ·refine sB ?_
      all_goals(first|done|((rw[jt];simp))|(simp[aq, *];done)|(simp[aq];done)|(simp;omega)|skip)
     exact h1
  ·have hi2:i=t.kids.length:=by omega
   subst hi2
   have b2:=dy _ (aI _)
   rcases aa ((0:Int)<(t.kids.length:Int)) with h3|h3
   ·have ju:t.kids≠[]:=by
     intro hh
     rw[hh] at h3
     simp at h3
    try simp -implicitDefEqProofs only[go_sem,Z1,Z2,Z3,Z4,h1,h3]
    refine sJ ?_
    refine an ?_
    refine sB ?_
    all_goals(first|done|(simp[y5 ju];done)|(simp[y5 ju];omega)|skip)
   ·have ju:t.kids=[]:=gx.1 (by omega)
    have e:oI t t.kids.length=aN t:=by rw[uY t ju,ju];rfl
    try simp -implicitDefEqProofs only[go_sem,Z1,Z2,Z3,Z4,h1,h3]
    refine sI ?_
    refine an ?_
    refine sB ?_
    all_goals(first|done|(simp[e];done)|(simp[e];omega)|skip)
theorem lS:∀(t:Term)(d:Nat),d≤4→bL t d=true→C E.P 256 [av (cT t)] [] (bN (sv (aN t)) []):=
 Term.ind fun n ks ih d h1 h2=>Gk (.mk n ks) ih d h1 h2
theorem iO(t:Term)(h:isTerm t=true):C E.P 256 [av (cT t)] [] (bN (sv (aN t)) []):=lS t 4 (by omega) (iy h)
theorem GJ(l:List Term)(xs ys:List Term):ba l (xs++ys)=ba (ba l xs) ys:=by
 rw[gh,gh,gh,List.foldl_append]
theorem qD:∀(ts l:List Term),(∀t∈ts,isTerm t=true)→(ba l ts).length≤l.length+15*ts.length
 | [],l,_=>by simp[ba]
 | t::ts,l,h=>by
   have h1:=AV (l:=l) (iy (h t (by simp))) (by omega)
   have h2:=qD ts (de l t) fun x hx=>h x (by simp[hx])
   simp only[ba,a8]
   omega
end Go.Proofs.YtabembjmeobhoaaGreat
