/-
  The reference: the walks of names, signatures, shapes and sorts. A step towards the exact laws.
-/
import Derived.Test.YtgpjhjalfakpoaaGreatKAL
set_option linter.unusedVariables false
set_option linter.unusedSimpArgs false
open Bool renaming false_eq_true→ak,true_and→ay,false_and→aI
open Classical renaming em→aa
open List renaming drop_eq_getElem_cons→af,drop_of_length_le→ag,getElem_mem→ai,length_append→an,take_of_length_le→ao,length_cons→aq,cons_append→bM,length_eq_zero_iff→cb,all_cons→dj,all_nil→eQ,find?_cons→kL
open Nat renaming le_refl→au
open Option renaming getD_some→bN,isSome_some→cH
namespace Go.Proofs.YtgpjhjalfakpoaaGreat
open Go.Eng Go.Mod
open Int renaming reduceEq→Z1,reduceLT→Z2,reduceLE→Z3,reduceToNat→Z4
set_option maxRecDepth 100000
set_option maxHeartbeats 800000
theorem pS(s:lp):C E.P 66 [sv s] [] (bB (bv (dM s)) []):=by
 refine gS (nt:=28) (rs:=[.tmp 2]) hm Tryz.func66 fun hl he cx=>?_
 refine aG hm (fun(i:Nat)=> i≤s.length∧s.all gK=(s.drop i).all gK) (fun(i:Nat)=> ⟨eE 28 .any [(0,sv s),(3,iv i)],[]⟩) (fun(i:Nat)=> s.length-i) (0) ?_ (ax [] ?_ ?_ rfl rfl) ?_
 rotate_left
 ·exact sC
 ·exact sC
 rotate_left
 ·simp
 ·rintro i ⟨hi,hg⟩
  rcases aa (i<s.length) with h1|h1
  ·rw[af h1,dj] at hg
   refine uA ?_
   rw[vh h1]
   rcases aa ((s[i].toNat:Int)<97) with h2|h2
   ·have h3:gK s[i]=false:=by simp[gK];omega
    rw[h3,aI] at hg
    refine uB ?_
    refine al ?_
    refine sA ?_
    all_goals(simp[dM,hg];done)
   ·simp -implicitDefEqProofs only[go_sem,h2,h1]
    rw[vh h1]
    rcases aa (122<(s[i].toNat:Int)) with h4|h4
    ·have h3:gK s[i]=false:=by simp[gK];omega
     rw[h3,aI] at hg
     refine uD ?_
     refine al ?_
     refine sA ?_
     all_goals(simp[dM,hg];done)
    ·have h3:gK s[i]=true:=by simp[gK];omega
     rw[h3,ay] at hg
     refine uD ?_
     refine sQ ?_
     refine⟨i+1,?_,sL,ax [] ?_ ?_ rfl rfl⟩
     rotate_left
     ·exact sC
     ·exact sC
     exact⟨by omega,hg⟩
  ·rw[ag (by omega),eQ] at hg
   have e:dM s=(decide ((1:Int)≤(s.length:Int))&&decide ((s.length:Int)≤2)):=by simp[dM,hg,within]
   rcases aa ((1:Int)≤(s.length:Int)) with h2|h2
   ·refine uJ ?_
    refine al ?_
    refine sA ?_
    all_goals(simp[e,h2];done)
   ·refine uJ ?_
    refine al ?_
    refine sA ?_
    all_goals(simp[e,h2];done)
theorem mE(n:Int):C E.P 67 [iv n] [] (bB (bv (isSort n)) []):=by
 refine gS (nt:=9) (rs:=[.tmp 2]) hm Tryz.func67 fun hl he cx=>?_
 rcases aa (n=0) with h|h
 ·have k:=eq_true h
  refine uG ?_
  refine al ?_
  refine sA ?_
  all_goals(simp[isSort,h];done)
 ·refine uF ?_
  refine al ?_
  refine sA ?_
  all_goals(simp[isSort,h];done)
theorem rf(s:eD):C E.P 31 [av (c8 s)] [] (bB (bv (dp s)) []):=by
 refine gS (nt:=68) (rs:=[.tmp 2]) hm Tryz.func31 fun hl he cx=>?_
 refine aG hm (fun(i:Nat)=> i≤s.syms.length∧kB none s.syms=kB (fw s.syms i) (s.syms.drop i)) (fun(i:Nat)=> ⟨eE 68 .any [(1,.ptr 0 0),(3,iv i)],[some (.box (eZ (c8 s)))]⟩) (fun(i:Nat)=> s.syms.length-i) (0) ?_ (ax [some 0] ?_ ?_ rfl rfl) ?_
 rotate_left
 ·exact sC
 ·exact sC
 rotate_left
 ·simp[fw]
 ·rintro i ⟨hi,hg⟩
  rcases aa (i<s.syms.length) with h1|h1
  ·rw[af h1] at hg
   simp only[kB] at hg
   refine uA ?_
   refine aC [] (pS s.syms[i].name) ?_
   cases h2:dM s.syms[i].name
   ·have e:dp s=false:=by simp[dp,hg,iX,h2]
    refine sA ?_
    refine iK ?_
    refine al ?_
    refine sA ?_
    all_goals(simp[e];done)
   ·refine sA ?_
    rcases aa ((2:Int)<(s.syms[i].args.length:Int)) with h3' | h3'
    ·have h3:¬s.syms[i].args.length≤2:=by omega
     have e:dp s=false:=by simp[dp,hg,iX,h3]
     simp -implicitDefEqProofs only[go_sem,h3']
     refine iK ?_
     refine al ?_
     refine sA ?_
     all_goals(simp[e];done)
    ·have h3:s.syms[i].args.length≤2:=by omega
     simp -implicitDefEqProofs only[go_sem,h3']
     refine aC [] (mE s.syms[i].sort) ?_
     cases h4:isSort s.syms[i].sort
     ·have e:dp s=false:=by simp[dp,hg,iX,h4]
      refine sA ?_
      refine iK ?_
      refine al ?_
      refine sA ?_
      all_goals(simp[e];done)
     ·cases i with
      | zero=>
        simp only[fw,ay] at hg
        simp -implicitDefEqProofs only[go_sem,Int.lt_irrefl]
        refine iK ?_
        refine aG hm (fun(u:Nat)=> u≤s.syms[0].args.length∧s.syms[0].args.all isSort=(s.syms[0].args.drop u).all isSort) (fun(u:Nat)=> ⟨eE 68 .any [(1,.ptr 0 0),(3,iv (0:Nat)),(4,.ptr 1 0),(5,iv u)],[some (.box (eZ (c8 s))),some (.box (eZ (pB s.syms[0])))]⟩) (fun(u:Nat)=> s.syms[0].args.length-u) (0) ?_ (ax [some 0,some 1] ?_ ?_ rfl rfl) ?_
        rotate_left
        ·exact sC
        ·exact sC
        rotate_left
        ·simp
        ·rintro u ⟨hu,hk⟩
         rcases aa (u<s.syms[0].args.length) with g1|g1
         ·rw[af g1,dj] at hk
          refine uI ?_
          refine aC [] (mE s.syms[0].args[u]) ?_
          cases g2:isSort s.syms[0].args[u]
          ·rw[g2,aI] at hk
           have e:dp s=false:=by simp[dp,hg,iX,hk]
           refine sA ?_
           refine al ?_
           refine sA ?_
           all_goals(simp[e];done)
          ·rw[g2,ay] at hk
           refine sA ?_
           refine sQ ?_
           refine⟨u+1,?_,sL,ax [some 0,some 1] ?_ ?_ rfl rfl⟩
           rotate_left
           ·exact sC
           ·exact sC
           exact⟨by omega,hk⟩
         ·rw[ag (by omega),eQ] at hk
          have e:iX s.syms[0]=true:=by simp[iX,h2,h3,h4,hk]
          rw[e] at hg
          refine uI ?_
          refine sQ ?_
          refine⟨0+1,?_,sL,ax [some 0] ?_ ?_ rfl rfl⟩
          rotate_left
          ·refine sA ?_
           all_goals(simp[*];done)
          ·exact sC
          refine⟨by omega,?_⟩
          rw[hg]
          simp[fw,h1]
      | succ j=>
        have hj:j<s.syms.length:=by omega
        have e1:((j:Int)+1-1)=(j:Int):=by omega
        have e2:(0:Int)<(j:Int)+1:=by omega
        have e3:fw s.syms (j+1)=some s.syms[j].name:=by simp[fw,hj]
        rw[e3] at hg
        simp only at hg
        simp -implicitDefEqProofs only[go_sem,e1,e2,hj]
        refine sQ ?_
        cases q4:il s.syms[j].name s.syms[j+1].name
        ·rw[q4,aI,Bool.and_false] at hg
         have e:dp s=false:=by simp[dp,hg]
         have h5:Op.bytesLess s.syms[j].name s.syms[j+1].name=false:=q4
         refine uE ?_
         refine al ?_
         refine sA ?_
         all_goals(simp[e];done)
        ·rw[q4,ay] at hg
         have h5:Op.bytesLess s.syms[j].name s.syms[j+1].name=true:=q4
         refine uE ?_
         refine aG hm (fun(u:Nat)=> u≤s.syms[j+1].args.length∧s.syms[j+1].args.all isSort=(s.syms[j+1].args.drop u).all isSort) (fun(u:Nat)=> ⟨eE 68 .any [(1,.ptr 0 0),(3,iv (j+1:Nat)),(4,.ptr 1 0),(5,iv u)],[some (.box (eZ (c8 s))),some (.box (eZ (pB s.syms[j+1])))]⟩) (fun(u:Nat)=> s.syms[j+1].args.length-u) (0) ?_ (ax [some 0,some 1] ?_ ?_ rfl rfl) ?_
         rotate_left
         ·exact sC
         ·exact sC
         rotate_left
         ·simp
         ·rintro u ⟨hu,hk⟩
          rcases aa (u<s.syms[j+1].args.length) with g1|g1
          ·rw[af g1,dj] at hk
           refine uI ?_
           refine aC [] (mE s.syms[j+1].args[u]) ?_
           cases g2:isSort s.syms[j+1].args[u]
           ·rw[g2,aI] at hk
            have e:dp s=false:=by simp[dp,hg,iX,hk]
            refine sA ?_
            refine al ?_
            refine sA ?_
            all_goals(simp[e];done)
           ·rw[g2,ay] at hk
            refine sA ?_
            refine sQ ?_
            refine⟨u+1,?_,sL,ax [some 0,some 1] ?_ ?_ rfl rfl⟩
            rotate_left
            ·exact sC
            ·exact sC
            exact⟨by omega,hk⟩
          ·rw[ag (by omega),eQ] at hk
           have e:iX s.syms[j+1]=true:=by simp[iX,h2,h3,h4,hk]
           rw[e] at hg
           refine uI ?_
           refine sQ ?_
           refine⟨j+1+1,?_,sL,ax [some 0] ?_ ?_ rfl rfl⟩
           rotate_left
           ·exact sC
           ·exact sC
           refine⟨by omega,?_⟩
           rw[hg]
           simp[fw,h1]
  ·rw[ag (by omega)] at hg
   simp only[kB] at hg
   have e:dp s=decide ((s.syms.length:Int)≤7):=by simp[dp,hg];omega
   refine uA ?_
   refine al ?_
   refine sA ?_
   all_goals(simp[e];done)
theorem FB(t:Term)(d:Nat):a8 t (d+1)=(dM t.name&&(decide (t.kids.length≤2)&&bL t.kids d)):=by cases t;rfl
theorem As{ts:List Term}{i:Nat}(h:i<ts.length)(d:Nat):bL (ts.drop i) d=(a8 ts[i] d&&bL (ts.drop (i+1)) d):=by rw[af h,bL]
theorem uZ(t:Term)(ih:∀k∈t.kids,∀d:Nat,d≤4→C E.P 182 [av (cT k),iv d] [] (bB (bv (a8 k d)) []))(d:Nat)(hd:d≤4) :
 C E.P 182 [av (cT t),iv d] [] (bB (bv (a8 t d)) []):=by
 cases d with
 | zero=>
   have e:a8 t 0=false:=by cases t;rfl
   have cx:=BZ
   refine CC (nt:=36) (rs:=[.tmp 4]) hm Tryz.func182 rfl rfl rfl rfl rfl (fun hl he=>?_)
   simp -implicitDefEqProofs only[go_sem,Z2] at hl⊢
   refine al ?_
   refine sA ?_
   all_goals(simp[e];done)
 | succ d=>
   have e:=FB t d
   refine gS (nt:=36) (rs:=[.tmp 4]) hm Tryz.func182 fun hl he cx=>?_
   have h0:¬ (d:Int)+1<1:=by omega
   simp -implicitDefEqProofs only[go_sem,h0]
   refine aC [] (pS t.name) ?_
   cases h2:dM t.name
   ·refine sA ?_
    refine al ?_
    refine sA ?_
    all_goals(simp[e,h2];done)
   ·refine sA ?_
    rcases aa ((2:Int)<(t.kids.length:Int)) with h3' | h3'
    ·have h3:¬t.kids.length≤2:=by omega
     simp -implicitDefEqProofs only[go_sem,h3']
     refine al ?_
     refine sA ?_
     all_goals(simp[e,h3];done)
    ·have h3:t.kids.length≤2:=by omega
     have e:a8 t (d+1)=bL t.kids d:=by simp[e,h2,h3]
     simp -implicitDefEqProofs only[go_sem,h3']
     refine aG hm (fun(i:Nat)=> i≤t.kids.length∧bL t.kids d=bL (t.kids.drop i) d) (fun(i:Nat)=> ⟨eE 36 .any [(1,iv ((d:Int)+1)),(2,.ptr 0 0),(5,iv i)],[some (.box (eZ (cT t)))]⟩) (fun(i:Nat)=> t.kids.length-i) (0) ?_ (ax [some 0] ?_ ?_ rfl rfl) ?_
     rotate_left
     ·exact sC
     ·exact sC
     rotate_left
     ·simp
     ·rintro i ⟨hi,hg⟩
      rcases aa (i<t.kids.length) with h1|h1
      ·rw[As h1] at hg
       have e2:(d:Int)+1-1=(d:Int):=by omega
       simp -implicitDefEqProofs only[go_sem,h1,e2]
       refine sQ ?_
       have hc:=ih t.kids[i] (ai h1) d (by omega)
       refine aC [] hc ?_
       cases h4:a8 t.kids[i] d
       ·rw[h4,aI] at hg
        refine sA ?_
        refine al ?_
        refine sA ?_
        all_goals(simp[e,hg];done)
       ·rw[h4,ay] at hg
        refine sA ?_
        refine sQ ?_
        refine⟨i+1,?_,sL,ax [some 0] ?_ ?_ rfl rfl⟩
        rotate_left
        ·exact sC
        ·exact sC
        exact⟨by omega,hg⟩
      ·rw[ag (by omega),bL] at hg
       refine uA ?_
       refine al ?_
       refine sA ?_
       all_goals(simp[e,hg];done)
theorem xf:∀(t:Term)(d:Nat),d≤4→C E.P 182 [av (cT t),iv d] [] (bB (bv (a8 t d)) []):=
 Term.ind fun n ks ih d hd=>uZ (.mk n ks) ih d hd
theorem DQ{ts:List Term}{i:Nat}(h:i<ts.length)(d:Nat):gB (ts.take (i+1)) d=gB (ts.take i) d+many ts[i] d:=by
 have e:ts.take (i+1)=ts.take i++[ts[i]]:=by rw[List.take_add_one,List.getElem?_eq_getElem h];rfl
 have key:∀(xs:List Term),gB (xs++[ts[i]]) d=gB xs d+many ts[i] d:=by
  intro xs
  induction xs with
  | nil=>simp[gB]
  | cons a xs ih=>simp only[bM,gB,ih];omega
 rw[e,key]
theorem xw(t:Term)(ih:∀k∈t.kids,∀d:Nat,d≤4→a8 k d=true→C E.P 183 [av (cT k),iv d] [] (bB (iv (many k d)) []))(d:Nat)(hd:d≤4)(hs:a8 t d=true) :
 C E.P 183 [av (cT t),iv d] [] (bB (iv (many t d)) []):=by
 cases d with
 | zero=>cases t;simp[a8] at hs
 | succ d=>
   have hk:=iY hs
   have e:many t (d+1)=1+gB t.kids d:=by cases t;rfl
   refine gS (nt:=29) (rs:=[.tmp 4]) hm Tryz.func183 fun hl he cx=>?_
   refine aG hm (fun(i:Nat)=> i≤t.kids.length) (fun(i:Nat)=> ⟨eE 29 .any [(1,iv ((d:Int)+1)),(2,.ptr 0 0),(5,iv ((1+gB (t.kids.take i) d:Nat):Int)),(6,iv i)],[some (.box (eZ (cT t)))]⟩) (fun(i:Nat)=> t.kids.length-i) (0) ?_ (ax [some 0] ?_ ?_ rfl rfl) ?_
   rotate_left
   ·refine sA ?_
    all_goals(simp[gB])
   ·exact sC
   rotate_left
   ·omega
   ·rintro i hi
    have b1:=rb (t.kids.take i) d (kW hk.2.2 i)
    have b2:(t.kids.take i).length≤2:=by simp;omega
    have b3:(2:Nat) ^ d≤2 ^ 4:=Nat.pow_le_pow_right (by omega) (by omega)
    have b4:(t.kids.take i).length*(2 ^ d-1)≤2*(2 ^ d-1):=Nat.mul_le_mul_right _ b2
    rcases aa (i<t.kids.length) with h1|h1
    ·have hsk:=jc hk.2.2 _ (ai h1)
     have b5:=AS t.kids[i] d hsk
     have e2:(d:Int)+1-1=(d:Int):=by omega
     have e3:(0:Int)<(d:Int)+1:=by omega
     simp -implicitDefEqProofs only[go_sem,h1,e3,e2]
     refine sQ ?_
     have hc:=ih t.kids[i] (ai h1) d (by omega) hsk
     refine aC [] hc ?_
     refine sQ ?_
     refine⟨i+1,?_,sL,ax [some 0] ?_ ?_ rfl rfl⟩
     rotate_left
     ·refine sA ?_
      all_goals((simp only[DQ h1];simp;omega))
     ·exact sC
     exact h1
    ·have et:t.kids.take i=t.kids:=ao (by omega)
     simp -implicitDefEqProofs only[go_sem,h1,et]
     refine al ?_
     refine sA ?_
     all_goals(simp[e];done)
theorem yR:∀(t:Term)(d:Nat),d≤4→a8 t d=true→C E.P 183 [av (cT t),iv d] [] (bB (iv (many t d)) []):=
 Term.ind fun n ks ih d hd hs=>xw (.mk n ks) ih d hd hs
theorem lz(t:Term):C E.P 141 [av (cT t)] [] (bB (bv (isTerm t)) []):=by
 have e:=rN t
 unfold right at e
 refine gS (nt:=10) (rs:=[.tmp 2]) hm Tryz.func141 fun hl he cx=>?_
 have hc:=xf t 4 (by omega)
 refine aC [] hc ?_
 cases h:a8 t 4
 ·refine sA ?_
  refine al ?_
  refine sA ?_
  all_goals(simp[←e,h];done)
 ·have hc:=yR t 4 (by omega) h
  refine sA ?_
  refine aC [] hc ?_
  refine al ?_
  refine sA ?_
  rw[←e,h]
  simp
  omega
theorem yu(s:eD)(n:lp):C E.P 185 [av (c8 s),sv n] [] (bB (.gL [av (pB ((symbol s n).getD lZ)),bv (symbol s n).isSome]) []):=by
 refine gT (nt:=28) (rs:=[.cell 4 129,.tmp 5]) hm Tryz.func185 fun hl he cx=>?_
 refine aG hm (fun(i:Nat)=> i≤s.syms.length∧symbol s n=(s.syms.drop i).find? (fun x=>decide (x.name=n))) (fun(i:Nat)=> ⟨eE 28 .any [(1,sv n),(2,.ptr 0 0),(4,.ptr 1 0),(6,iv i)],[some (.box (eZ (c8 s))),some (.box (eZ (pB lZ)))]⟩) (fun(i:Nat)=> s.syms.length-i) (0) ?_ (ax [some 0,some 1] ?_ ?_ rfl rfl) ?_
 rotate_left
 ·refine sB ?_
  all_goals(first|done|(simp[lZ,aL])|(simp[aP, *];done)|(simp[aP];done)|(simp;omega)|skip)
 ·refine sB ?_
  all_goals(first|done|(simp[lZ,aL])|(simp[aP, *];done)|(simp[aP];done)|(simp;omega)|skip)
 rotate_left
 ·simp[symbol]
 ·rintro i ⟨hi,hg⟩
  rcases aa (i<s.syms.length) with h1|h1
  ·rw[af h1] at hg
   rcases aa (s.syms[i].name=n) with h2|h2
   ·have e:symbol s n=some s.syms[i]:=by rw[hg];simp only[kL,h2,decide_true]
    try simp -implicitDefEqProofs only[go_sem,Z1,Z2,Z3,Z4,h1,h2]
    refine sJ ?_
    refine al ?_
    refine sB ?_
    all_goals(first|done|(simp[e,h2];done)|(simp[e,h2];omega)|skip)
   ·have e:symbol s n=(s.syms.drop (i+1)).find? (fun x=>decide (x.name=n)):=by rw[hg];simp only[kL,h2,decide_false]
    try simp -implicitDefEqProofs only[go_sem,Z1,Z2,Z3,Z4,h1,h2]
    refine sJ ?_
    refine⟨i+1,?_,sL,ax [some 0,some 1] ?_ ?_ rfl rfl⟩
    rotate_left
    ·refine sB ?_
     all_goals(try exact sM)
    ·refine sB ?_
     all_goals(try exact sM)
    exact⟨by omega,e⟩
  ·have e:symbol s n=none:=by rw[hg,ag (by omega)];rfl
   try simp -implicitDefEqProofs only[go_sem,Z1,Z2,Z3,Z4,h1]
   refine sI ?_
   refine al ?_
   refine sB ?_
   all_goals(first|done|(simp[e,lZ,cY];done)|(simp[e,lZ,cY];omega)|skip)
theorem Aq(s:eD)(hs:dp s=true)(t:Term)(ih:∀k∈t.kids,C E.P 143 [av (c8 s),av (cT k)] [] (bB (iv ((dE s k).getD (-1))) [])) :
 C E.P 143 [av (c8 s),av (cT t)] [] (bB (iv ((dE s t).getD (-1))) []):=by
 have ht:=y8 s t
 refine gT (nt:=48) (rs:=[.tmp 4]) hm Tryz.func143 fun hl he cx=>?_
 refine aD [] (yu s t.name) ?_
 refine sI ?_
 cases hx:symbol s t.name with
 | none=>
   rw[hx] at ht
   simp only at ht
   try simp -implicitDefEqProofs only[go_sem,Z1,Z2,Z3,Z4,Option.isSome_none]
   refine sI ?_
   refine al ?_
   refine sB ?_
   all_goals(first|done|(simp[ht];done)|(simp[ht];omega)|skip)
 | some x=>
   rw[hx] at ht
   simp only at ht
   have hxo:=(vS (zm hs hx)).2
   rcases aa (x.args.length=t.kids.length) with h1|h1
   ·simp only[h1,decide_true,ay] at ht
    try simp -implicitDefEqProofs only[go_sem,Z1,Z2,Z3,Z4,cH,bN,h1]
    refine sI ?_
    refine aG hm (fun(i:Nat)=> i≤t.kids.length∧eH s t.kids x.args=eH s (t.kids.drop i) (x.args.drop i)) (fun(i:Nat)=> ⟨eE 48 .any [(2,.ptr 0 0),(3,.ptr 1 0),(5,.ptr 2 0),(7,iv i)],[some (.box (eZ (c8 s))),some (.box (eZ (cT t))),some (.box (eZ (pB x)))]⟩) (fun(i:Nat)=> t.kids.length-i) (0) ?_ (ax [some 0,some 1,some 2] ?_ ?_ rfl rfl) ?_
    rotate_left
    ·refine sB ?_
     all_goals(try exact sM)
    ·refine sB ?_
     all_goals(try exact sM)
    rotate_left
    ·simp
    ·rintro i ⟨hi,hg⟩
     rcases aa (i<t.kids.length) with h2|h2
     ·have h3:i<x.args.length:=by omega
      have hso:=vN.1 (hxo x.args[i] (ai h3))
      rw[ra h2 h3] at hg
      try simp -implicitDefEqProofs only[go_sem,Z1,Z2,Z3,Z4,h2,h3]
      refine sI ?_
      have hc:=ih t.kids[i] (ai h2)
      refine e7 [] hc ?_ ?_<;>simp -implicitDefEqProofs only[go_sem,Z1,Z2,Z3,Z4,h2,h3]
      refine sJ ?_
      rcases aa ((dE s t.kids[i]).getD (-1)=x.args[i]) with hn|hn
      ·have hn2:dE s t.kids[i]=some x.args[i]:=by
        cases hk:dE s t.kids[i] with
        | none=>rw[hk] at hn;simp only[Option.getD_none] at hn;omega
        | some n=>rw[hk] at hn;simp only[bN] at hn;rw[hn]
       have hz:eH s t.kids x.args=eH s (t.kids.drop (i+1)) (x.args.drop (i+1)):=by rw[hg,hn2];simp
       have k:=eq_true hn
       try simp -implicitDefEqProofs only[go_sem,Z1,Z2,Z3,Z4,k]
       refine sJ ?_
       refine⟨i+1,?_,sL,ax [some 0,some 1,some 2] ?_ ?_ rfl rfl⟩
       rotate_left
       ·refine sB ?_
        all_goals(try exact sM)
       ·refine sB ?_
        all_goals(try exact sM)
       exact⟨by omega,hz⟩
      ·have hn2:¬dE s t.kids[i]=some x.args[i]:=fun h=>hn (by rw[h];rfl)
       have hz:eH s t.kids x.args=false:=by
        rw[hg]
        simp[hn2]
       rw[hz] at ht
       simp only[ak,if_false] at ht
       try simp -implicitDefEqProofs only[go_sem,Z1,Z2,Z3,Z4,hn]
       refine sI ?_
       refine al ?_
       refine sB ?_
       all_goals(first|done|(simp[ht];done)|(simp[ht];omega)|skip)
     ·rw[ag (by omega),ag (by omega)] at hg
      rw[hg] at ht
      simp only[eH,if_true] at ht
      try simp -implicitDefEqProofs only[go_sem,Z1,Z2,Z3,Z4,h2]
      refine sI ?_
      refine al ?_
      refine sB ?_
      all_goals(first|done|(simp[ht];done)|(simp[ht];omega)|skip)
   ·simp only[h1,decide_false,aI,ak,if_false] at ht
    try simp -implicitDefEqProofs only[go_sem,Z1,Z2,Z3,Z4,cH,bN,h1]
    refine sI ?_
    refine al ?_
    refine sB ?_
    all_goals(first|done|(simp[ht];done)|(simp[ht];omega)|skip)
theorem me(s:eD)(hs:dp s=true):∀(t:Term),C E.P 143 [av (c8 s),av (cT t)] [] (bB (iv ((dE s t).getD (-1))) []):=
 Term.ind fun n ks ih=>Aq s hs (.mk n ks) ih
theorem drop_eq{α:Type}{xs ys:List α}{i:Nat}(h:i<xs.length)(h':i<ys.length):(xs.drop i=ys.drop i)=(xs[i]=ys[i]∧xs.drop (i+1)=ys.drop (i+1)):=by
 rw[af h,af h',List.cons.injEq]
theorem s0(a b:Term)(ih:∀k∈a.kids,∀y,C E.P 184 [av (cT k),av (cT y)] [] (bB (bv (decide (k=y))) [])):C E.P 184 [av (cT a),av (cT b)] [] (bB (bv (decide (a=b))) []):=by
 refine gT (nt:=39) (rs:=[.tmp 4]) hm Tryz.func184 fun hl he cx=>?_
 rcases aa (a.name=b.name) with h|h
 ·have k:=eq_true h
  try simp -implicitDefEqProofs only[go_sem,Z1,Z2,Z3,Z4,k]
  refine sI ?_
  rcases aa (a.kids.length=b.kids.length) with h2|h2
  ·have k2:=eq_true h2
   try simp -implicitDefEqProofs only[go_sem,Z1,Z2,Z3,Z4,k2]
   refine sI ?_
   refine aG hm (fun(i:Nat)=> i≤a.kids.length∧(a.kids=b.kids↔a.kids.drop i=b.kids.drop i)) (fun(i:Nat)=> ⟨eE 39 .any [(2,.ptr 0 0),(3,.ptr 1 0),(5,iv i)],[some (.box (eZ (cT a))),some (.box (eZ (cT b)))]⟩) (fun(i:Nat)=> a.kids.length-i) (0) ?_ (ax [some 0,some 1] ?_ ?_ rfl rfl) ?_
   rotate_left
   ·refine sB ?_
    all_goals(try exact sM)
   ·refine sB ?_
    all_goals(try exact sM)
   rotate_left
   ·simp
   ·rintro i ⟨hi,hg⟩
    rcases aa (i<a.kids.length) with h3|h3
    ·have h4:i<b.kids.length:=by omega
     rw[drop_eq h3 h4] at hg
     try simp -implicitDefEqProofs only[go_sem,Z1,Z2,Z3,Z4,h3,h4]
     refine sI ?_
     have hc:=ih a.kids[i] (ai h3) b.kids[i]
     refine aD [] hc ?_
     refine sI ?_
     rcases aa (a.kids[i]=b.kids[i]) with h5|h5
     ·have k5:=eq_true h5
      try simp -implicitDefEqProofs only[go_sem,Z1,Z2,Z3,Z4,k5]
      refine sJ ?_
      refine⟨i+1,?_,sL,ax [some 0,some 1] ?_ ?_ rfl rfl⟩
      rotate_left
      ·refine sB ?_
       all_goals(try exact sM)
      ·refine sB ?_
       all_goals(try exact sM)
      refine⟨by omega,?_⟩
      rw[hg]
      simp[h5]
     ·have e:¬a.kids=b.kids:=fun hh=>h5 (hg.1 hh).1
      try simp -implicitDefEqProofs only[go_sem,Z1,Z2,Z3,Z4,h5]
      refine sI ?_
      refine al ?_
      refine sB ?_
      all_goals(first|done|(simp[j9,e];done)|(simp[j9,e];omega)|skip)
    ·rw[ag (by omega),ag (by omega)] at hg
     try simp -implicitDefEqProofs only[go_sem,Z1,Z2,Z3,Z4,h3]
     refine sI ?_
     refine al ?_
     refine sB ?_
     all_goals(first|done|(simp[j9,h,hg];done)|(simp[j9,h,hg];omega)|skip)
  ·have e:¬a.kids=b.kids:=fun hh=>h2 (by rw[hh])
   try simp -implicitDefEqProofs only[go_sem,Z1,Z2,Z3,Z4,h2]
   refine sI ?_
   refine al ?_
   refine sB ?_
   all_goals(first|done|(simp[j9,e];done)|(simp[j9,e];omega)|skip)
 ·try simp -implicitDefEqProofs only[go_sem,Z1,Z2,Z3,Z4,h]
  refine sI ?_
  refine al ?_
  refine sB ?_
  all_goals(first|done|(simp[j9,h];done)|(simp[j9,h];omega)|skip)
theorem iI:∀a b,C E.P 184 [av (cT a),av (cT b)] [] (bB (bv (decide (a=b))) []):=
 Term.ind fun n ks ih b=>s0 (.mk n ks) b ih
theorem kc(t:Term):C E.P 181 [av (cT t)] [] (bB (bv (isNone t)) []):=by
 refine gT (nt:=12) (rs:=[.tmp 2]) hm Tryz.func181 fun hl he cx=>?_
 rcases aa (t.name=[]) with h|h
 ·have k:=eq_true h
  try simp -implicitDefEqProofs only[go_sem,Z1,Z2,Z3,Z4,k]
  refine sI ?_
  refine al ?_
  refine sB ?_
  all_goals(first|done|(simp[isNone,h];done)|(simp[isNone,h];omega)|skip)
 ·try simp -implicitDefEqProofs only[go_sem,Z1,Z2,Z3,Z4,h]
  refine sI ?_
  refine al ?_
  refine sB ?_
  all_goals(first|done|(simp[isNone,h];done)|(simp[isNone,h];omega)|skip)
theorem wv(t:Term)(ih:∀k∈t.kids,C E.P 130 [av (cT k)] [] (bB (av (cT k)) [])):C E.P 130 [av (cT t)] [] (bB (av (cT t)) []):=by
 refine gT (nt:=27) (rs:=[.cell 2 28]) hm Tryz.func130 fun hl he cx=>?_
 refine aG hm (fun(i:Nat)=> i≤t.kids.length) (fun(i:Nat)=> ⟨eE 27 .any [(1,.ptr 0 0),(2,.ptr 1 0),(3,.ptr 2 0),(4,iv i)],[some (.box (eZ (cT t))),some (.box (eZ (cT eX))),some (.box [.d (.str t.name),.acc 3]),some (.acc 28 (aN (t.kids.take i)))]⟩) (fun(i:Nat)=> t.kids.length-i) (0) ?_ (ax [some 0,some 1,some 2,none] ?_ ?_ rfl rfl) ?_
 rotate_left
 ·refine sB ?_
  all_goals(try exact sM)
 ·refine sB ?_
  all_goals(try exact sM)
 rotate_left
 ·omega
 ·rintro i hi
  rcases aa (i<t.kids.length) with h1|h1
  ·try simp -implicitDefEqProofs only[go_sem,Z1,Z2,Z3,Z4,h1]
   refine sI ?_
   have hc:=ih t.kids[i] (ai h1)
   refine aD [] hc ?_
   refine sJ ?_
   refine⟨i+1,?_,sL,ax [some 0,some 1,some 2,some 4] ?_ ?_ rfl rfl⟩
   rotate_left
   ·refine sB ?_
    all_goals(first|done|(exact nH h1)|(simp[aP, *];done)|(simp[aP];done)|(simp;omega)|skip)
   ·refine sB ?_
    all_goals(first|done|(exact nH h1)|(simp[aP, *];done)|(simp[aP];done)|(simp;omega)|skip)
   exact h1
  ·have et:t.kids.take i=t.kids:=ao (by omega)
   try simp -implicitDefEqProofs only[go_sem,Z1,Z2,Z3,Z4,h1,et]
   refine sI ?_
   refine al ?_
   refine sB ?_
   all_goals(first|done|(simp;done)|(simp;omega)|skip)
theorem j8:∀t,C E.P 130 [av (cT t)] [] (bB (av (cT t)) []):=
 Term.ind fun n ks ih=>wv (.mk n ks) ih
theorem xF(ts:List Term)(t:Term):C E.P 186 [lv (aN ts),av (cT t)] [] (bB (iv (fe ts t)) []):=by
 refine gT (nt:=19) (rs:=[.tmp 4]) hm Tryz.func186 fun hl he cx=>?_
 refine aG hm (fun(i:Nat)=> i≤ts.length∧fe ts t=cI (fun u=>decide (t=u)) (ts.drop i) i) (fun(i:Nat)=> ⟨eE 19 .any [(0,lv (aN ts)),(3,.ptr 0 0),(5,iv i)],[some (.box (eZ (cT t)))]⟩) (fun(i:Nat)=> ts.length-i) (0) ?_ (ax [some 0] ?_ ?_ rfl rfl) ?_
 rotate_left
 ·refine sB ?_
  all_goals(try exact sM)
 ·refine sB ?_
  all_goals(try exact sM)
 rotate_left
 ·simp[fe,idxOf]
 ·rintro i ⟨hi,hg⟩
  rcases aa (i<ts.length) with h1|h1
  ·rw[af h1,cI] at hg
   try simp -implicitDefEqProofs only[go_sem,Z1,Z2,Z3,Z4,h1]
   refine sI ?_
   refine aD [] (iI ts[i] t) ?_
   refine sI ?_
   rcases aa (ts[i]=t) with h2|h2
   ·have k:=eq_true h2
    simp only[h2,decide_true,if_true] at hg
    try simp -implicitDefEqProofs only[go_sem,Z1,Z2,Z3,Z4,k]
    refine sI ?_
    refine al ?_
    refine sB ?_
    all_goals(first|done|(simp[hg];done)|(simp[hg];omega)|skip)
   ·have h3:¬t=ts[i]:=fun h=>h2 h.symm
    simp only[h3,decide_false,ak,if_false] at hg
    try simp -implicitDefEqProofs only[go_sem,Z1,Z2,Z3,Z4,h2]
    refine sJ ?_
    refine⟨i+1,?_,sL,ax [some 0] ?_ ?_ rfl rfl⟩
    rotate_left
    ·refine sB ?_
     all_goals(try exact sM)
    ·refine sB ?_
     all_goals(try exact sM)
    exact⟨by omega,by rw[hg];rfl⟩
  ·rw[ag (by omega),cI] at hg
   try simp -implicitDefEqProofs only[go_sem,Z1,Z2,Z3,Z4,h1]
   refine sI ?_
   refine al ?_
   refine sB ?_
   all_goals(first|done|(simp[hg];done)|(simp[hg];omega)|skip)
theorem uz(t:Term)(ih:∀k∈t.kids,∀(d:Nat)(l:List Term),d≤4→a8 k d=true→l.length≤999000+15*(4-d)→C E.P 145 [.acc 0,av (cT k)] [some (.acc 28 (aN l))] (bB (.acc 1) [some .dead,some (.acc 28 (aN (cQ l k)))]))(d:Nat)(l:List Term)
 (hd:d≤4) (hsh:a8 t d=true) (hl1:l.length≤999000+15*(4-d)) :
 C E.P 145 [.acc 0,av (cT t)] [some (.acc 28 (aN l))] (bB (.acc 1) [some .dead,some (.acc 28 (aN (cQ l t)))]):=by
 cases d with
 | zero=>cases t;simp[a8] at hsh
 | succ d=>
 have hk:=iY hsh
 have hle:=fun i=>pM (l:=l) hsh (by omega) i
 refine gT (nt:=30) (rs:=[.tmp 4]) hm Tryz.func145 fun hl he cx=>?_
 refine aG hm (fun(i:Nat)=> i≤t.kids.length) (fun(i:Nat)=> ⟨eE 30 .any [(0,.acc 2),(3,.ptr 1 0),(5,iv i)],[some .dead,some (.box (eZ (cT t))),some (.acc 28 (aN (aU l (t.kids.take i))))]⟩) (fun(i:Nat)=> t.kids.length-i) (0) ?_ (ax [some 0,some 1,some 0] ?_ ?_ rfl rfl) ?_
 rotate_left
 ·refine sB ?_
  all_goals(first|done|(simp only[aU])|(simp[aP, *];done)|(simp[aP];done)|(simp;omega)|skip)
 ·refine sB ?_
  all_goals(first|done|(simp only[aU])|(simp[aP, *];done)|(simp[aP];done)|(simp;omega)|skip)
 rotate_left
 ·omega
 ·rintro i hi
  rcases aa (i<t.kids.length) with h1|h1
  ·try simp -implicitDefEqProofs only[go_sem,Z1,Z2,Z3,Z4,h1]
   refine sI ?_
   have hc:=ih t.kids[i] (ai h1) d (aU l (t.kids.take i)) (by omega) (jc hk.2.2 _ (ai h1)) (by have:=hle i;omega)
   refine oD [] [2,3] hc ?_
   refine sJ ?_
   refine⟨i+1,?_,sL,ax [some 0,some 1,some 3] ?_ ?_ rfl rfl⟩
   rotate_left
   ·refine sB ?_
    all_goals(first|done|(simp only[kF h1])|(simp[aP, *];done)|(simp[aP];done)|(simp;omega)|skip)
   ·refine sB ?_
    all_goals(first|done|(simp only[kF h1])|(simp[aP, *];done)|(simp[aP];done)|(simp;omega)|skip)
   exact h1
  ·have e:t.kids.take i=t.kids:=ao (by omega)
   have h2:=hle i
   rw[e] at h2
   try simp -implicitDefEqProofs only[go_sem,Z1,Z2,Z3,Z4,h1,e]
   refine sI ?_
   refine iO [] [2] (xF (aU l t.kids) t) rfl ?_ ?_ ?_
   ·exact sV
   all_goals simp -implicitDefEqProofs only[go_sem,Z1,Z2,Z3,Z4]
   refine sI ?_
   rcases aa (0≤fe (aU l t.kids) t) with hx|hx
   ·have hx':¬fe (aU l t.kids) t<0:=by omega
    try simp -implicitDefEqProofs only[go_sem,Z1,Z2,Z3,Z4,hx]
    refine sI ?_
    refine bu [some 0,some 2] ?_ rfl rfl
    refine sB ?_
    rw[kS,if_neg hx']
   ·have hx':fe (aU l t.kids) t<0:=by omega
    try simp -implicitDefEqProofs only[go_sem,Z1,Z2,Z3,Z4,hx]
    refine sI ?_
    refine aD [] (j8 t) ?_
    refine sJ ?_
    refine bu [some 0,some 3] ?_ rfl rfl
    refine sB ?_
    rw[kS,if_pos hx',←hU,eB,gH]
    rfl
theorem xl:∀(t:Term)(d:Nat)(l:List Term),d≤4→a8 t d=true→l.length≤999000+15*(4-d)→C E.P 145 [.acc 0,av (cT t)] [some (.acc 28 (aN l))] (bB (.acc 1) [some .dead,some (.acc 28 (aN (cQ l t)))]):=
 Term.ind fun n ks ih d l h1 h2 h3=>uz (.mk n ks) ih d l h1 h2 h3
theorem ue:∀(xs:List lp)(x:lp),ig (xs++[x])=if xs=[] then x else ig xs++(44::x)
 | [],x=>by simp[ig]
 | [a],x=>by simp[ig]
 | a::b::xs,x=>by
   have:=ue (b::xs) x
   simp only[bM] at this
   simp[ig,this]
def jk(t:Term)(i:Nat):lp:=match i with
 | 0=>t.name
 | i+1=>t.name++(40::ig ((t.kids.take (i+1)).map aB))
theorem ud{t:Term}{i:Nat}(h:i<t.kids.length):jk t (i+1)=jk t i++((if i=0 then [40] else [44])++aB t.kids[i]):=by
 have e:(t.kids.take (i+1)).map aB=(t.kids.take i).map aB++[aB t.kids[i]]:=by
  rw[eW h,List.map_append];rfl
 cases i with
 | zero=>
   simp only[jk,e,List.take_zero,List.map_nil,List.nil_append,ig,if_true]
   rfl
 | succ i=>
   have n9:¬ (t.kids.take (i+1)).map aB=[]:=by
    intro hh
    have hz:t.kids.take (i+1)=[]:=by simpa using hh
    have hz2:(t.kids.take (i+1)).length=0:=by rw[hz];rfl
    rw[List.length_take] at hz2
    omega
   simp only[jk,e,ue,n9,if_false]
   simp
theorem qM{t:Term}(h:t.kids≠[]):aB t=jk t t.kids.length++[41]:=by
 rw[o8 t h,←oe]
 match hk:t.kids.length,h with
 | 0,h=>exact absurd (cb.1 hk) h
 | n+1,_=>
   have hk':t.kids.take (n+1)=t.kids:=ao (by omega)
   simp only[jk,hk']
   simp
theorem Dt{t:Term}{d:Nat}(h:a8 t d=true)(hd:d≤4)(i:Nat)(hi:i≤t.kids.length):(jk t i).length≤122:=by
 have key:∀k,i+k≤t.kids.length→(jk t i).length≤(jk t (i+k)).length:=by
  intro k
  induction k with
  | zero=>intro _;exact au _
  | succ k ih=>
    intro hk
    have h1:=ih (by omega)
    rw[←Nat.add_assoc,ud (by omega)]
    simp only[an]
    omega
 have h1:=key (t.kids.length-i) (by omega)
 rw[show i+(t.kids.length-i)=t.kids.length by omega] at h1
 have h2:=nE h hd
 rcases aa (t.kids=[]) with hk|hk
 ·rw[nk t hk] at h2
  have hi0:i=0:=by rw[hk] at hi;simpa using hi
  subst hi0
  simp only[jk]
  omega
 ·rw[qM hk] at h2
  simp only[an,aq,List.length_nil] at h2
  omega
theorem xi(t:Term)(ih:∀k∈t.kids,∀d:Nat,d≤4→a8 k d=true→C E.P 177 [av (cT k)] [] (bB (sv (aB k)) []))(d:Nat)(hd:d≤4)(hsh:a8 t d=true) :
 C E.P 177 [av (cT t)] [] (bB (sv (aB t)) []):=by
 cases d with
 | zero=>cases t;simp[a8] at hsh
 | succ d=>
 have hk:=iY hsh
 have db:=fun i hi=>Dt hsh hd i hi
 refine gT (nt:=34) (rs:=[.tmp 2]) hm Tryz.func177 fun hl he cx=>?_
 refine aG hm (fun(i:Nat)=> i≤t.kids.length) (fun(i:Nat)=> ⟨eE 34 .any [(1,.ptr 0 0),(3,sv (jk t i)),(4,iv i)],[some (.box (eZ (cT t)))]⟩) (fun(i:Nat)=> t.kids.length-i) (0) ?_ (ax [some 0] ?_ ?_ rfl rfl) ?_
 rotate_left
 ·refine sB ?_
  all_goals(first|done|(simp[jk])|(simp[aP, *];done)|(simp[aP];done)|(simp;omega)|skip)
 ·refine sB ?_
  all_goals(first|done|(simp[jk])|(simp[aP, *];done)|(simp[aP];done)|(simp;omega)|skip)
 rotate_left
 ·omega
 ·rintro i hi
  rcases aa (i<t.kids.length) with h1|h1
  ·have hsk:=jc hk.2.2 _ (ai h1)
   have b1:=nE hsk (by omega)
   have b2:=db i hi
   have hc:=ih t.kids[i] (ai h1) d (by omega) hsk
   have dg:=ud h1
   try simp -implicitDefEqProofs only[go_sem,Z1,Z2,Z3,Z4,h1]
   refine sI ?_
   cases i with
   | zero=>
     try simp -implicitDefEqProofs only[go_sem,Z1,Z2,Z3,Z4,h1]
     refine sJ ?_
     refine aD [] hc ?_
     refine sJ ?_
     refine⟨0+1,?_,sL,ax [some 0] ?_ ?_ rfl rfl⟩
     rotate_left
     ·refine sB ?_
      all_goals(first|done|((rw[dg];simp))|(simp[aP, *];done)|(simp[aP];done)|(simp;omega)|skip)
     ·refine sB ?_
      all_goals(first|done|((rw[dg];simp))|(simp[aP, *];done)|(simp[aP];done)|(simp;omega)|skip)
     exact h1
   | succ i=>
     have e1:¬ (i:Int)+1=0:=by omega
     have et:((i:Int)+1).toNat=i+1:=by omega
     try simp -implicitDefEqProofs only[go_sem,Z1,Z2,Z3,Z4,e1,et,h1]
     refine sJ ?_
     refine aD [] hc ?_
     refine sJ ?_
     refine⟨i+1+1,?_,sL,ax [some 0] ?_ ?_ rfl rfl⟩
     rotate_left
     ·refine sB ?_
      all_goals(first|done|((rw[dg];simp))|(simp[aP, *];done)|(simp[aP];done)|(simp;omega)|skip)
     ·refine sB ?_
      all_goals(first|done|((rw[dg];simp))|(simp[aP, *];done)|(simp[aP];done)|(simp;omega)|skip)
     exact h1
  ·have hi2:i=t.kids.length:=by omega
   subst hi2
   have b2:=db _ (au _)
   rcases aa ((0:Int)<(t.kids.length:Int)) with h3|h3
   ·have n9:t.kids≠[]:=by
     intro hh
     rw[hh] at h3
     simp at h3
    try simp -implicitDefEqProofs only[go_sem,Z1,Z2,Z3,Z4,h1,h3]
    refine sJ ?_
    refine al ?_
    refine sB ?_
    all_goals(first|done|(simp[qM n9];done)|(simp[qM n9];omega)|skip)
   ·have n9:t.kids=[]:=cb.1 (by omega)
    have e:jk t t.kids.length=aB t:=by rw[nk t n9,n9];rfl
    try simp -implicitDefEqProofs only[go_sem,Z1,Z2,Z3,Z4,h1,h3]
    refine sI ?_
    refine al ?_
    refine sB ?_
    all_goals(first|done|(simp[e];done)|(simp[e];omega)|skip)
theorem gG:∀(t:Term)(d:Nat),d≤4→a8 t d=true→C E.P 177 [av (cT t)] [] (bB (sv (aB t)) []):=
 Term.ind fun n ks ih d h1 h2=>xi (.mk n ks) ih d h1 h2
theorem oz(t:Term)(h:isTerm t=true):C E.P 177 [av (cT t)] [] (bB (sv (aB t)) []):=gG t 4 (by omega) (im h)
theorem wC(l:List Term)(xs ys:List Term):aU l (xs++ys)=aU (aU l xs) ys:=by
 rw[fl,fl,fl,List.foldl_append]
theorem kv:∀(ts l:List Term),(∀t∈ts,isTerm t=true)→(aU l ts).length≤l.length+15*ts.length
 | [],l,_=>by simp[aU]
 | t::ts,l,h=>by
   have h1:=rZ (l:=l) (im (h t (by simp))) (by omega)
   have h2:=kv ts (cQ l t) fun x hx=>h x (by simp[hx])
   simp only[aU,aq]
   omega
end Go.Proofs.YtgpjhjalfakpoaaGreat
