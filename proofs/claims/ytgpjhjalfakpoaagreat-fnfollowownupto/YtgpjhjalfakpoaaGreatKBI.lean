/-
  The reference: the walks of names, signatures, shapes and sorts. A step towards the exact laws.
-/
import Derived.Test.YtgpjhjalfakpoaaGreatKBL
set_option linter.unusedVariables false
set_option linter.unusedSimpArgs false
open Bool renaming false_eq_true→al,true_and→az,false_and→aK
open Classical renaming em→aa
open List renaming drop_eq_getElem_cons→af,drop_of_length_le→ag,getElem_mem→ah,take_of_length_le→an,length_append→ao,length_cons→aq,cons_append→bO,length_eq_zero_iff→cd,all_cons→du,all_nil→fe,find?_cons→k9
open Nat renaming le_refl→ar
open Option renaming getD_some→bP,isSome_some→cl
namespace Go.Proofs.YtgpjhjalfakpoaaGreat
open Go.Eng Go.Mod
open Int renaming reduceEq→Z1,reduceLT→Z2,reduceLE→Z3,reduceToNat→Z4
set_option maxRecDepth 100000
set_option maxHeartbeats 800000
theorem ql(s:lH):C E.P 66 [sv s] [] (bw (bv (dV s)) []):=by
 refine gS (nt:=28) (rs:=[.tmp 2]) hm Tryz.func66 fun hl he cp=>?_
 refine aI hm (fun(i:Nat)=> i≤s.length∧s.all hG=(s.drop i).all hG) (fun(i:Nat)=> ⟨eQ 28 .any [(0,sv s),(3,iv i)],[]⟩) (fun(i:Nat)=> s.length-i) (0) ?_ (ax [] ?_ ?_ rfl rfl) ?_
 rotate_left
 ·exact sC
 ·exact sC
 rotate_left
 ·simp
 ·rintro i ⟨hi,hg⟩
  rcases aa (i<s.length) with h1|h1
  ·rw[af h1,du] at hg
   refine uA ?_
   rw[wu h1]
   rcases aa ((s[i].toNat:Int)<97) with h2|h2
   ·have h3:hG s[i]=false:=by simp[hG];omega
    rw[h3,aK] at hg
    refine uB ?_
    refine ak ?_
    refine sA ?_
    all_goals(simp[dV,hg];done)
   ·simp -implicitDefEqProofs only[go_sem,h2,h1]
    rw[wu h1]
    rcases aa (122<(s[i].toNat:Int)) with h4|h4
    ·have h3:hG s[i]=false:=by simp[hG];omega
     rw[h3,aK] at hg
     refine uD ?_
     refine ak ?_
     refine sA ?_
     all_goals(simp[dV,hg];done)
    ·have h3:hG s[i]=true:=by simp[hG];omega
     rw[h3,az] at hg
     refine uD ?_
     refine sQ ?_
     refine⟨i+1,?_,sL,ax [] ?_ ?_ rfl rfl⟩
     rotate_left
     ·exact sC
     ·exact sC
     exact⟨by omega,hg⟩
  ·rw[ag (by omega),fe] at hg
   have e:dV s=(decide ((1:Int)≤(s.length:Int))&&decide ((s.length:Int)≤2)):=by simp[dV,hg,within]
   rcases aa ((1:Int)≤(s.length:Int)) with h2|h2
   ·refine uJ ?_
    refine ak ?_
    refine sA ?_
    all_goals(simp[e,h2];done)
   ·refine uJ ?_
    refine ak ?_
    refine sA ?_
    all_goals(simp[e,h2];done)
theorem mZ(n:Int):C E.P 67 [iv n] [] (bw (bv (isSort n)) []):=by
 refine gS (nt:=9) (rs:=[.tmp 2]) hm Tryz.func67 fun hl he cp=>?_
 rcases aa (n=0) with h|h
 ·have k:=eq_true h
  refine uG ?_
  refine ak ?_
  refine sA ?_
  all_goals(simp[isSort,h];done)
 ·refine uF ?_
  refine ak ?_
  refine sA ?_
  all_goals(simp[isSort,h];done)
theorem nO(s:eJ):C E.P 31 [av (dc s)] [] (bw (bv (dm s)) []):=by
 refine gS (nt:=68) (rs:=[.tmp 2]) hm Tryz.func31 fun hl he cp=>?_
 refine aI hm (fun(i:Nat)=> i≤s.syms.length∧kP none s.syms=kP (fI s.syms i) (s.syms.drop i)) (fun(i:Nat)=> ⟨eQ 68 .any [(1,.ptr 0 0),(3,iv i)],[some (.box (ff (dc s)))]⟩) (fun(i:Nat)=> s.syms.length-i) (0) ?_ (ax [some 0] ?_ ?_ rfl rfl) ?_
 rotate_left
 ·exact sC
 ·exact sC
 rotate_left
 ·simp[fI]
 ·rintro i ⟨hi,hg⟩
  rcases aa (i<s.syms.length) with h1|h1
  ·rw[af h1] at hg
   simp only[kP] at hg
   refine uA ?_
   refine aC [] (ql s.syms[i].name) ?_
   cases h2:dV s.syms[i].name
   ·have e:dm s=false:=by simp[dm,hg,jn,h2]
    refine sA ?_
    refine iK ?_
    refine ak ?_
    refine sA ?_
    all_goals(simp[e];done)
   ·refine sA ?_
    rcases aa ((2:Int)<(s.syms[i].args.length:Int)) with h3' | h3'
    ·have h3:¬s.syms[i].args.length≤2:=by omega
     have e:dm s=false:=by simp[dm,hg,jn,h3]
     simp -implicitDefEqProofs only[go_sem,h3']
     refine iK ?_
     refine ak ?_
     refine sA ?_
     all_goals(simp[e];done)
    ·have h3:s.syms[i].args.length≤2:=by omega
     simp -implicitDefEqProofs only[go_sem,h3']
     refine aC [] (mZ s.syms[i].sort) ?_
     cases h4:isSort s.syms[i].sort
     ·have e:dm s=false:=by simp[dm,hg,jn,h4]
      refine sA ?_
      refine iK ?_
      refine ak ?_
      refine sA ?_
      all_goals(simp[e];done)
     ·cases i with
      | zero=>
        simp only[fI,az] at hg
        simp -implicitDefEqProofs only[go_sem,Int.lt_irrefl]
        refine iK ?_
        refine aI hm (fun(u:Nat)=> u≤s.syms[0].args.length∧s.syms[0].args.all isSort=(s.syms[0].args.drop u).all isSort) (fun(u:Nat)=> ⟨eQ 68 .any [(1,.ptr 0 0),(3,iv (0:Nat)),(4,.ptr 1 0),(5,iv u)],[some (.box (ff (dc s))),some (.box (ff (qa s.syms[0])))]⟩) (fun(u:Nat)=> s.syms[0].args.length-u) (0) ?_ (ax [some 0,some 1] ?_ ?_ rfl rfl) ?_
        rotate_left
        ·exact sC
        ·exact sC
        rotate_left
        ·simp
        ·rintro u ⟨hu,hk⟩
         rcases aa (u<s.syms[0].args.length) with g1|g1
         ·rw[af g1,du] at hk
          refine uI ?_
          refine aC [] (mZ s.syms[0].args[u]) ?_
          cases g2:isSort s.syms[0].args[u]
          ·rw[g2,aK] at hk
           have e:dm s=false:=by simp[dm,hg,jn,hk]
           refine sA ?_
           refine ak ?_
           refine sA ?_
           all_goals(simp[e];done)
          ·rw[g2,az] at hk
           refine sA ?_
           refine sQ ?_
           refine⟨u+1,?_,sL,ax [some 0,some 1] ?_ ?_ rfl rfl⟩
           rotate_left
           ·exact sC
           ·exact sC
           exact⟨by omega,hk⟩
         ·rw[ag (by omega),fe] at hk
          have e:jn s.syms[0]=true:=by simp[jn,h2,h3,h4,hk]
          rw[e] at hg
          refine uI ?_
          refine sQ ?_
          refine⟨0+1,?_,sL,ax [some 0] ?_ ?_ rfl rfl⟩
          rotate_left
          ·refine sA ?_
           all_goals(simp[*];done)
          ·exact sC
          refine⟨by omega,?_⟩
          rw[hg]
          simp[fI,h1]
      | succ j=>
        have hj:j<s.syms.length:=by omega
        have e1:((j:Int)+1-1)=(j:Int):=by omega
        have e2:(0:Int)<(j:Int)+1:=by omega
        have e3:fI s.syms (j+1)=some s.syms[j].name:=by simp[fI,hj]
        rw[e3] at hg
        simp only at hg
        simp -implicitDefEqProofs only[go_sem,e1,e2,hj]
        refine sQ ?_
        cases q4:iE s.syms[j].name s.syms[j+1].name
        ·rw[q4,aK,Bool.and_false] at hg
         have e:dm s=false:=by simp[dm,hg]
         have h5:Op.bytesLess s.syms[j].name s.syms[j+1].name=false:=q4
         refine uE ?_
         refine ak ?_
         refine sA ?_
         all_goals(simp[e];done)
        ·rw[q4,az] at hg
         have h5:Op.bytesLess s.syms[j].name s.syms[j+1].name=true:=q4
         refine uE ?_
         refine aI hm (fun(u:Nat)=> u≤s.syms[j+1].args.length∧s.syms[j+1].args.all isSort=(s.syms[j+1].args.drop u).all isSort) (fun(u:Nat)=> ⟨eQ 68 .any [(1,.ptr 0 0),(3,iv (j+1:Nat)),(4,.ptr 1 0),(5,iv u)],[some (.box (ff (dc s))),some (.box (ff (qa s.syms[j+1])))]⟩) (fun(u:Nat)=> s.syms[j+1].args.length-u) (0) ?_ (ax [some 0,some 1] ?_ ?_ rfl rfl) ?_
         rotate_left
         ·exact sC
         ·exact sC
         rotate_left
         ·simp
         ·rintro u ⟨hu,hk⟩
          rcases aa (u<s.syms[j+1].args.length) with g1|g1
          ·rw[af g1,du] at hk
           refine uI ?_
           refine aC [] (mZ s.syms[j+1].args[u]) ?_
           cases g2:isSort s.syms[j+1].args[u]
           ·rw[g2,aK] at hk
            have e:dm s=false:=by simp[dm,hg,jn,hk]
            refine sA ?_
            refine ak ?_
            refine sA ?_
            all_goals(simp[e];done)
           ·rw[g2,az] at hk
            refine sA ?_
            refine sQ ?_
            refine⟨u+1,?_,sL,ax [some 0,some 1] ?_ ?_ rfl rfl⟩
            rotate_left
            ·exact sC
            ·exact sC
            exact⟨by omega,hk⟩
          ·rw[ag (by omega),fe] at hk
           have e:jn s.syms[j+1]=true:=by simp[jn,h2,h3,h4,hk]
           rw[e] at hg
           refine uI ?_
           refine sQ ?_
           refine⟨j+1+1,?_,sL,ax [some 0] ?_ ?_ rfl rfl⟩
           rotate_left
           ·exact sC
           ·exact sC
           refine⟨by omega,?_⟩
           rw[hg]
           simp[fI,h1]
  ·rw[ag (by omega)] at hg
   simp only[kP] at hg
   have e:dm s=decide ((s.syms.length:Int)≤7):=by simp[dm,hg];omega
   refine uA ?_
   refine ak ?_
   refine sA ?_
   all_goals(simp[e];done)
theorem Gj(t:Term)(d:Nat):a8 t (d+1)=(dV t.name&&(decide (t.kids.length≤2)&&bN t.kids d)):=by cases t;rfl
theorem AY{ts:List Term}{i:Nat}(h:i<ts.length)(d:Nat):bN (ts.drop i) d=(a8 ts[i] d&&bN (ts.drop (i+1)) d):=by rw[af h,bN]
theorem vq(t:Term)(ih:∀k∈t.kids,∀d:Nat,d≤4→C E.P 182 [av (cT k),iv d] [] (bw (bv (a8 k d)) []))(d:Nat)(hd:d≤4) :
 C E.P 182 [av (cT t),iv d] [] (bw (bv (a8 t d)) []):=by
 cases d with
 | zero=>
   have e:a8 t 0=false:=by cases t;rfl
   have cp:=CA
   refine BQ (nt:=36) (rs:=[.tmp 4]) hm Tryz.func182 rfl rfl rfl rfl rfl (fun hl he=>?_)
   simp -implicitDefEqProofs only[go_sem,Z2] at hl⊢
   refine ak ?_
   refine sA ?_
   all_goals(simp[e];done)
 | succ d=>
   have e:=Gj t d
   refine gS (nt:=36) (rs:=[.tmp 4]) hm Tryz.func182 fun hl he cp=>?_
   have h0:¬ (d:Int)+1<1:=by omega
   simp -implicitDefEqProofs only[go_sem,h0]
   refine aC [] (ql t.name) ?_
   cases h2:dV t.name
   ·refine sA ?_
    refine ak ?_
    refine sA ?_
    all_goals(simp[e,h2];done)
   ·refine sA ?_
    rcases aa ((2:Int)<(t.kids.length:Int)) with h3' | h3'
    ·have h3:¬t.kids.length≤2:=by omega
     simp -implicitDefEqProofs only[go_sem,h3']
     refine ak ?_
     refine sA ?_
     all_goals(simp[e,h3];done)
    ·have h3:t.kids.length≤2:=by omega
     have e:a8 t (d+1)=bN t.kids d:=by simp[e,h2,h3]
     simp -implicitDefEqProofs only[go_sem,h3']
     refine aI hm (fun(i:Nat)=> i≤t.kids.length∧bN t.kids d=bN (t.kids.drop i) d) (fun(i:Nat)=> ⟨eQ 36 .any [(1,iv ((d:Int)+1)),(2,.ptr 0 0),(5,iv i)],[some (.box (ff (cT t)))]⟩) (fun(i:Nat)=> t.kids.length-i) (0) ?_ (ax [some 0] ?_ ?_ rfl rfl) ?_
     rotate_left
     ·exact sC
     ·exact sC
     rotate_left
     ·simp
     ·rintro i ⟨hi,hg⟩
      rcases aa (i<t.kids.length) with h1|h1
      ·rw[AY h1] at hg
       have e2:(d:Int)+1-1=(d:Int):=by omega
       simp -implicitDefEqProofs only[go_sem,h1,e2]
       refine sQ ?_
       have hc:=ih t.kids[i] (ah h1) d (by omega)
       refine aC [] hc ?_
       cases h4:a8 t.kids[i] d
       ·rw[h4,aK] at hg
        refine sA ?_
        refine ak ?_
        refine sA ?_
        all_goals(simp[e,hg];done)
       ·rw[h4,az] at hg
        refine sA ?_
        refine sQ ?_
        refine⟨i+1,?_,sL,ax [some 0] ?_ ?_ rfl rfl⟩
        rotate_left
        ·exact sC
        ·exact sC
        exact⟨by omega,hg⟩
      ·rw[ag (by omega),bN] at hg
       refine uA ?_
       refine ak ?_
       refine sA ?_
       all_goals(simp[e,hg];done)
theorem ye:∀(t:Term)(d:Nat),d≤4→C E.P 182 [av (cT t),iv d] [] (bw (bv (a8 t d)) []):=
 Term.ind fun n ks ih d hd=>vq (.mk n ks) ih d hd
theorem Dp{ts:List Term}{i:Nat}(h:i<ts.length)(d:Nat):gO (ts.take (i+1)) d=gO (ts.take i) d+many ts[i] d:=by
 have e:ts.take (i+1)=ts.take i++[ts[i]]:=by rw[List.take_add_one,List.getElem?_eq_getElem h];rfl
 have key:∀(xs:List Term),gO (xs++[ts[i]]) d=gO xs d+many ts[i] d:=by
  intro xs
  induction xs with
  | nil=>simp[gO]
  | cons a xs ih=>simp only[bO,gO,ih];omega
 rw[e,key]
theorem xD(t:Term)(ih:∀k∈t.kids,∀d:Nat,d≤4→a8 k d=true→C E.P 183 [av (cT k),iv d] [] (bw (iv (many k d)) []))(d:Nat)(hd:d≤4)(hs:a8 t d=true) :
 C E.P 183 [av (cT t),iv d] [] (bw (iv (many t d)) []):=by
 cases d with
 | zero=>cases t;simp[a8] at hs
 | succ d=>
   have hk:=jl hs
   have e:many t (d+1)=1+gO t.kids d:=by cases t;rfl
   refine gS (nt:=29) (rs:=[.tmp 4]) hm Tryz.func183 fun hl he cp=>?_
   refine aI hm (fun(i:Nat)=> i≤t.kids.length) (fun(i:Nat)=> ⟨eQ 29 .any [(1,iv ((d:Int)+1)),(2,.ptr 0 0),(5,iv ((1+gO (t.kids.take i) d:Nat):Int)),(6,iv i)],[some (.box (ff (cT t)))]⟩) (fun(i:Nat)=> t.kids.length-i) (0) ?_ (ax [some 0] ?_ ?_ rfl rfl) ?_
   rotate_left
   ·refine sA ?_
    all_goals(simp[gO])
   ·exact sC
   rotate_left
   ·omega
   ·rintro i hi
    have b1:=s5 (t.kids.take i) d (lC hk.2.2 i)
    have b2:(t.kids.take i).length≤2:=by simp;omega
    have b3:(2:Nat) ^ d≤2 ^ 4:=Nat.pow_le_pow_right (by omega) (by omega)
    have b4:(t.kids.take i).length*(2 ^ d-1)≤2*(2 ^ d-1):=Nat.mul_le_mul_right _ b2
    rcases aa (i<t.kids.length) with h1|h1
    ·have hsk:=jk hk.2.2 _ (ah h1)
     have b5:=AI t.kids[i] d hsk
     have e2:(d:Int)+1-1=(d:Int):=by omega
     have e3:(0:Int)<(d:Int)+1:=by omega
     simp -implicitDefEqProofs only[go_sem,h1,e3,e2]
     refine sQ ?_
     have hc:=ih t.kids[i] (ah h1) d (by omega) hsk
     refine aC [] hc ?_
     refine sQ ?_
     refine⟨i+1,?_,sL,ax [some 0] ?_ ?_ rfl rfl⟩
     rotate_left
     ·refine sA ?_
      all_goals((simp only[Dp h1];simp;omega))
     ·exact sC
     exact h1
    ·have et:t.kids.take i=t.kids:=an (by omega)
     simp -implicitDefEqProofs only[go_sem,h1,et]
     refine ak ?_
     refine sA ?_
     all_goals(simp[e];done)
theorem zq:∀(t:Term)(d:Nat),d≤4→a8 t d=true→C E.P 183 [av (cT t),iv d] [] (bw (iv (many t d)) []):=
 Term.ind fun n ks ih d hd hs=>xD (.mk n ks) ih d hd hs
theorem lN(t:Term):C E.P 141 [av (cT t)] [] (bw (bv (isTerm t)) []):=by
 have e:=rR t
 unfold right at e
 refine gS (nt:=10) (rs:=[.tmp 2]) hm Tryz.func141 fun hl he cp=>?_
 have hc:=ye t 4 (by omega)
 refine aC [] hc ?_
 cases h:a8 t 4
 ·refine sA ?_
  refine ak ?_
  refine sA ?_
  all_goals(simp[←e,h];done)
 ·have hc:=zq t 4 (by omega) h
  refine sA ?_
  refine aC [] hc ?_
  refine ak ?_
  refine sA ?_
  rw[←e,h]
  simp
  omega
theorem za(s:eJ)(n:lH):C E.P 185 [av (dc s),sv n] [] (bw (.gN [av (qa ((symbol s n).getD mo)),bv (symbol s n).isSome]) []):=by
 refine gT (nt:=28) (rs:=[.cell 4 129,.tmp 5]) hm Tryz.func185 fun hl he cp=>?_
 refine aI hm (fun(i:Nat)=> i≤s.syms.length∧symbol s n=(s.syms.drop i).find? (fun x=>decide (x.name=n))) (fun(i:Nat)=> ⟨eQ 28 .any [(1,sv n),(2,.ptr 0 0),(4,.ptr 1 0),(6,iv i)],[some (.box (ff (dc s))),some (.box (ff (qa mo)))]⟩) (fun(i:Nat)=> s.syms.length-i) (0) ?_ (ax [some 0,some 1] ?_ ?_ rfl rfl) ?_
 rotate_left
 ·refine sB ?_
  all_goals(first|done|(simp[mo,aM])|(simp[aS, *];done)|(simp[aS];done)|(simp;omega)|skip)
 ·refine sB ?_
  all_goals(first|done|(simp[mo,aM])|(simp[aS, *];done)|(simp[aS];done)|(simp;omega)|skip)
 rotate_left
 ·simp[symbol]
 ·rintro i ⟨hi,hg⟩
  rcases aa (i<s.syms.length) with h1|h1
  ·rw[af h1] at hg
   rcases aa (s.syms[i].name=n) with h2|h2
   ·have e:symbol s n=some s.syms[i]:=by rw[hg];simp only[k9,h2,decide_true]
    try simp -implicitDefEqProofs only[go_sem,Z1,Z2,Z3,Z4,h1,h2]
    refine sJ ?_
    refine ak ?_
    refine sB ?_
    all_goals(first|done|(simp[e,h2];done)|(simp[e,h2];omega)|skip)
   ·have e:symbol s n=(s.syms.drop (i+1)).find? (fun x=>decide (x.name=n)):=by rw[hg];simp only[k9,h2,decide_false]
    try simp -implicitDefEqProofs only[go_sem,Z1,Z2,Z3,Z4,h1,h2]
    refine sJ ?_
    refine⟨i+1,?_,sL,ax [some 0,some 1] ?_ ?_ rfl rfl⟩
    rotate_left
    ·refine sB ?_
     all_goals(try exact sM)
    ·refine sB ?_
     all_goals(try exact sM)
    exact⟨by omega,e⟩
  ·have e:symbol s n=none:=by rw[hg,ag (by omega)];rfl
   try simp -implicitDefEqProofs only[go_sem,Z1,Z2,Z3,Z4,h1]
   refine sI ?_
   refine ak ?_
   refine sB ?_
   all_goals(first|done|(simp[e,mo,de];done)|(simp[e,mo,de];omega)|skip)
theorem Be(s:eJ)(hs:dm s=true)(t:Term)(ih:∀k∈t.kids,C E.P 143 [av (dc s),av (cT k)] [] (bw (iv ((dL s k).getD (-1))) [])) :
 C E.P 143 [av (dc s),av (cT t)] [] (bw (iv ((dL s t).getD (-1))) []):=by
 have ht:=zI s t
 refine gT (nt:=48) (rs:=[.tmp 4]) hm Tryz.func143 fun hl he cp=>?_
 refine aD [] (za s t.name) ?_
 refine sI ?_
 cases hx:symbol s t.name with
 | none=>
   rw[hx] at ht
   simp only at ht
   try simp -implicitDefEqProofs only[go_sem,Z1,Z2,Z3,Z4,Option.isSome_none]
   refine sI ?_
   refine ak ?_
   refine sB ?_
   all_goals(first|done|(simp[ht];done)|(simp[ht];omega)|skip)
 | some x=>
   rw[hx] at ht
   simp only at ht
   have hxo:=(xu (zQ hs hx)).2
   rcases aa (x.args.length=t.kids.length) with h1|h1
   ·simp only[h1,decide_true,az] at ht
    try simp -implicitDefEqProofs only[go_sem,Z1,Z2,Z3,Z4,cl,bP,h1]
    refine sI ?_
    refine aI hm (fun(i:Nat)=> i≤t.kids.length∧eZ s t.kids x.args=eZ s (t.kids.drop i) (x.args.drop i)) (fun(i:Nat)=> ⟨eQ 48 .any [(2,.ptr 0 0),(3,.ptr 1 0),(5,.ptr 2 0),(7,iv i)],[some (.box (ff (dc s))),some (.box (ff (cT t))),some (.box (ff (qa x)))]⟩) (fun(i:Nat)=> t.kids.length-i) (0) ?_ (ax [some 0,some 1,some 2] ?_ ?_ rfl rfl) ?_
    rotate_left
    ·refine sB ?_
     all_goals(try exact sM)
    ·refine sB ?_
     all_goals(try exact sM)
    rotate_left
    ·simp
    ·rintro i ⟨hi,hg⟩
     rcases aa (i<t.kids.length) with h2|h2
     ·have h3:i<x.args.length:=by omega
      have hso:=x8.1 (hxo x.args[i] (ah h3))
      rw[rD h2 h3] at hg
      try simp -implicitDefEqProofs only[go_sem,Z1,Z2,Z3,Z4,h2,h3]
      refine sI ?_
      have hc:=ih t.kids[i] (ah h2)
      refine fm [] hc ?_ ?_<;>simp -implicitDefEqProofs only[go_sem,Z1,Z2,Z3,Z4,h2,h3]
      refine sJ ?_
      rcases aa ((dL s t.kids[i]).getD (-1)=x.args[i]) with hn|hn
      ·have hn2:dL s t.kids[i]=some x.args[i]:=by
        cases hk:dL s t.kids[i] with
        | none=>rw[hk] at hn;simp only[Option.getD_none] at hn;omega
        | some n=>rw[hk] at hn;simp only[bP] at hn;rw[hn]
       have hz:eZ s t.kids x.args=eZ s (t.kids.drop (i+1)) (x.args.drop (i+1)):=by rw[hg,hn2];simp
       have k:=eq_true hn
       try simp -implicitDefEqProofs only[go_sem,Z1,Z2,Z3,Z4,k]
       refine sJ ?_
       refine⟨i+1,?_,sL,ax [some 0,some 1,some 2] ?_ ?_ rfl rfl⟩
       rotate_left
       ·refine sB ?_
        all_goals(try exact sM)
       ·refine sB ?_
        all_goals(try exact sM)
       exact⟨by omega,hz⟩
      ·have hn2:¬dL s t.kids[i]=some x.args[i]:=fun h=>hn (by rw[h];rfl)
       have hz:eZ s t.kids x.args=false:=by
        rw[hg]
        simp[hn2]
       rw[hz] at ht
       simp only[al,if_false] at ht
       try simp -implicitDefEqProofs only[go_sem,Z1,Z2,Z3,Z4,hn]
       refine sI ?_
       refine ak ?_
       refine sB ?_
       all_goals(first|done|(simp[ht];done)|(simp[ht];omega)|skip)
     ·rw[ag (by omega),ag (by omega)] at hg
      rw[hg] at ht
      simp only[eZ,if_true] at ht
      try simp -implicitDefEqProofs only[go_sem,Z1,Z2,Z3,Z4,h2]
      refine sI ?_
      refine ak ?_
      refine sB ?_
      all_goals(first|done|(simp[ht];done)|(simp[ht];omega)|skip)
   ·simp only[h1,decide_false,aK,al,if_false] at ht
    try simp -implicitDefEqProofs only[go_sem,Z1,Z2,Z3,Z4,cl,bP,h1]
    refine sI ?_
    refine ak ?_
    refine sB ?_
    all_goals(first|done|(simp[ht];done)|(simp[ht];omega)|skip)
theorem mB(s:eJ)(hs:dm s=true):∀(t:Term),C E.P 143 [av (dc s),av (cT t)] [] (bw (iv ((dL s t).getD (-1))) []):=
 Term.ind fun n ks ih=>Be s hs (.mk n ks) ih
theorem drop_eq{α:Type}{xs ys:List α}{i:Nat}(h:i<xs.length)(h':i<ys.length):(xs.drop i=ys.drop i)=(xs[i]=ys[i]∧xs.drop (i+1)=ys.drop (i+1)):=by
 rw[af h,af h',List.cons.injEq]
theorem ud(a b:Term)(ih:∀k∈a.kids,∀y,C E.P 184 [av (cT k),av (cT y)] [] (bw (bv (decide (k=y))) [])):C E.P 184 [av (cT a),av (cT b)] [] (bw (bv (decide (a=b))) []):=by
 refine gT (nt:=39) (rs:=[.tmp 4]) hm Tryz.func184 fun hl he cp=>?_
 rcases aa (a.name=b.name) with h|h
 ·have k:=eq_true h
  try simp -implicitDefEqProofs only[go_sem,Z1,Z2,Z3,Z4,k]
  refine sI ?_
  rcases aa (a.kids.length=b.kids.length) with h2|h2
  ·have k2:=eq_true h2
   try simp -implicitDefEqProofs only[go_sem,Z1,Z2,Z3,Z4,k2]
   refine sI ?_
   refine aI hm (fun(i:Nat)=> i≤a.kids.length∧(a.kids=b.kids↔a.kids.drop i=b.kids.drop i)) (fun(i:Nat)=> ⟨eQ 39 .any [(2,.ptr 0 0),(3,.ptr 1 0),(5,iv i)],[some (.box (ff (cT a))),some (.box (ff (cT b)))]⟩) (fun(i:Nat)=> a.kids.length-i) (0) ?_ (ax [some 0,some 1] ?_ ?_ rfl rfl) ?_
   rotate_left
   ·refine sB ?_
    all_goals(try exact sM)
   ·refine sB ?_
    all_goals(try exact sM)
   rotate_left
   ·simp
   ·rintro i ⟨hi,hg⟩
    rcases aa (i<a.kids.length) with h3|h3
    ·have h4:i<b.kids.length:=by omega
     rw[drop_eq h3 h4] at hg
     try simp -implicitDefEqProofs only[go_sem,Z1,Z2,Z3,Z4,h3,h4]
     refine sI ?_
     have hc:=ih a.kids[i] (ah h3) b.kids[i]
     refine aD [] hc ?_
     refine sI ?_
     rcases aa (a.kids[i]=b.kids[i]) with h5|h5
     ·have k5:=eq_true h5
      try simp -implicitDefEqProofs only[go_sem,Z1,Z2,Z3,Z4,k5]
      refine sJ ?_
      refine⟨i+1,?_,sL,ax [some 0,some 1] ?_ ?_ rfl rfl⟩
      rotate_left
      ·refine sB ?_
       all_goals(try exact sM)
      ·refine sB ?_
       all_goals(try exact sM)
      refine⟨by omega,?_⟩
      rw[hg]
      simp[h5]
     ·have e:¬a.kids=b.kids:=fun hh=>h5 (hg.1 hh).1
      try simp -implicitDefEqProofs only[go_sem,Z1,Z2,Z3,Z4,h5]
      refine sI ?_
      refine ak ?_
      refine sB ?_
      all_goals(first|done|(simp[kj,e];done)|(simp[kj,e];omega)|skip)
    ·rw[ag (by omega),ag (by omega)] at hg
     try simp -implicitDefEqProofs only[go_sem,Z1,Z2,Z3,Z4,h3]
     refine sI ?_
     refine ak ?_
     refine sB ?_
     all_goals(first|done|(simp[kj,h,hg];done)|(simp[kj,h,hg];omega)|skip)
  ·have e:¬a.kids=b.kids:=fun hh=>h2 (by rw[hh])
   try simp -implicitDefEqProofs only[go_sem,Z1,Z2,Z3,Z4,h2]
   refine sI ?_
   refine ak ?_
   refine sB ?_
   all_goals(first|done|(simp[kj,e];done)|(simp[kj,e];omega)|skip)
 ·try simp -implicitDefEqProofs only[go_sem,Z1,Z2,Z3,Z4,h]
  refine sI ?_
  refine ak ?_
  refine sB ?_
  all_goals(first|done|(simp[kj,h];done)|(simp[kj,h];omega)|skip)
theorem iW:∀a b,C E.P 184 [av (cT a),av (cT b)] [] (bw (bv (decide (a=b))) []):=
 Term.ind fun n ks ih b=>ud (.mk n ks) b ih
theorem kp(t:Term):C E.P 181 [av (cT t)] [] (bw (bv (isNone t)) []):=by
 refine gT (nt:=12) (rs:=[.tmp 2]) hm Tryz.func181 fun hl he cp=>?_
 rcases aa (t.name=[]) with h|h
 ·have k:=eq_true h
  try simp -implicitDefEqProofs only[go_sem,Z1,Z2,Z3,Z4,k]
  refine sI ?_
  refine ak ?_
  refine sB ?_
  all_goals(first|done|(simp[isNone,h];done)|(simp[isNone,h];omega)|skip)
 ·try simp -implicitDefEqProofs only[go_sem,Z1,Z2,Z3,Z4,h]
  refine sI ?_
  refine ak ?_
  refine sB ?_
  all_goals(first|done|(simp[isNone,h];done)|(simp[isNone,h];omega)|skip)
theorem xE(t:Term)(ih:∀k∈t.kids,C E.P 130 [av (cT k)] [] (bw (av (cT k)) [])):C E.P 130 [av (cT t)] [] (bw (av (cT t)) []):=by
 refine gT (nt:=27) (rs:=[.cell 2 28]) hm Tryz.func130 fun hl he cp=>?_
 refine aI hm (fun(i:Nat)=> i≤t.kids.length) (fun(i:Nat)=> ⟨eQ 27 .any [(1,.ptr 0 0),(2,.ptr 1 0),(3,.ptr 2 0),(4,iv i)],[some (.box (ff (cT t))),some (.box (ff (cT fq))),some (.box [.d (.str t.name),.acc 3]),some (.acc 28 (aQ (t.kids.take i)))]⟩) (fun(i:Nat)=> t.kids.length-i) (0) ?_ (ax [some 0,some 1,some 2,none] ?_ ?_ rfl rfl) ?_
 rotate_left
 ·refine sB ?_
  all_goals(try exact sM)
 ·refine sB ?_
  all_goals(try exact sM)
 rotate_left
 ·omega
 ·rintro i hi
  rcases aa (i<t.kids.length) with h1|h1
  ·try simp -implicitDefEqProofs only[go_sem,Z1,Z2,Z3,Z4,h1]
   refine sI ?_
   have hc:=ih t.kids[i] (ah h1)
   refine aD [] hc ?_
   refine sJ ?_
   refine⟨i+1,?_,sL,ax [some 0,some 1,some 2,some 4] ?_ ?_ rfl rfl⟩
   rotate_left
   ·refine sB ?_
    all_goals(first|done|(exact nP h1)|(simp[aS, *];done)|(simp[aS];done)|(simp;omega)|skip)
   ·refine sB ?_
    all_goals(first|done|(exact nP h1)|(simp[aS, *];done)|(simp[aS];done)|(simp;omega)|skip)
   exact h1
  ·have et:t.kids.take i=t.kids:=an (by omega)
   try simp -implicitDefEqProofs only[go_sem,Z1,Z2,Z3,Z4,h1,et]
   refine sI ?_
   refine ak ?_
   refine sB ?_
   all_goals(first|done|(simp;done)|(simp;omega)|skip)
theorem kv:∀t,C E.P 130 [av (cT t)] [] (bw (av (cT t)) []):=
 Term.ind fun n ks ih=>xE (.mk n ks) ih
theorem xT(ts:List Term)(t:Term):C E.P 186 [lv (aQ ts),av (cT t)] [] (bw (iv (fA ts t)) []):=by
 refine gT (nt:=19) (rs:=[.tmp 4]) hm Tryz.func186 fun hl he cp=>?_
 refine aI hm (fun(i:Nat)=> i≤ts.length∧fA ts t=cL (fun u=>decide (t=u)) (ts.drop i) i) (fun(i:Nat)=> ⟨eQ 19 .any [(0,lv (aQ ts)),(3,.ptr 0 0),(5,iv i)],[some (.box (ff (cT t)))]⟩) (fun(i:Nat)=> ts.length-i) (0) ?_ (ax [some 0] ?_ ?_ rfl rfl) ?_
 rotate_left
 ·refine sB ?_
  all_goals(try exact sM)
 ·refine sB ?_
  all_goals(try exact sM)
 rotate_left
 ·simp[fA,idxOf]
 ·rintro i ⟨hi,hg⟩
  rcases aa (i<ts.length) with h1|h1
  ·rw[af h1,cL] at hg
   try simp -implicitDefEqProofs only[go_sem,Z1,Z2,Z3,Z4,h1]
   refine sI ?_
   refine aD [] (iW ts[i] t) ?_
   refine sI ?_
   rcases aa (ts[i]=t) with h2|h2
   ·have k:=eq_true h2
    simp only[h2,decide_true,if_true] at hg
    try simp -implicitDefEqProofs only[go_sem,Z1,Z2,Z3,Z4,k]
    refine sI ?_
    refine ak ?_
    refine sB ?_
    all_goals(first|done|(simp[hg];done)|(simp[hg];omega)|skip)
   ·have h3:¬t=ts[i]:=fun h=>h2 h.symm
    simp only[h3,decide_false,al,if_false] at hg
    try simp -implicitDefEqProofs only[go_sem,Z1,Z2,Z3,Z4,h2]
    refine sJ ?_
    refine⟨i+1,?_,sL,ax [some 0] ?_ ?_ rfl rfl⟩
    rotate_left
    ·refine sB ?_
     all_goals(try exact sM)
    ·refine sB ?_
     all_goals(try exact sM)
    exact⟨by omega,by rw[hg];rfl⟩
  ·rw[ag (by omega),cL] at hg
   try simp -implicitDefEqProofs only[go_sem,Z1,Z2,Z3,Z4,h1]
   refine sI ?_
   refine ak ?_
   refine sB ?_
   all_goals(first|done|(simp[hg];done)|(simp[hg];omega)|skip)
theorem vH(t:Term)(ih:∀k∈t.kids,∀(d:Nat)(l:List Term),d≤4→a8 k d=true→l.length≤999000+15*(4-d)→C E.P 145 [.acc 0,av (cT k)] [some (.acc 28 (aQ l))] (bw (.acc 1) [some .dead,some (.acc 28 (aQ (cW l k)))]))(d:Nat)(l:List Term)
 (hd:d≤4) (hsh:a8 t d=true) (hl1:l.length≤999000+15*(4-d)) :
 C E.P 145 [.acc 0,av (cT t)] [some (.acc 28 (aQ l))] (bw (.acc 1) [some .dead,some (.acc 28 (aQ (cW l t)))]):=by
 cases d with
 | zero=>cases t;simp[a8] at hsh
 | succ d=>
 have hk:=jl hsh
 have hle:=fun i=>qi (l:=l) hsh (by omega) i
 refine gT (nt:=30) (rs:=[.tmp 4]) hm Tryz.func145 fun hl he cp=>?_
 refine aI hm (fun(i:Nat)=> i≤t.kids.length) (fun(i:Nat)=> ⟨eQ 30 .any [(0,.acc 2),(3,.ptr 1 0),(5,iv i)],[some .dead,some (.box (ff (cT t))),some (.acc 28 (aQ (aW l (t.kids.take i))))]⟩) (fun(i:Nat)=> t.kids.length-i) (0) ?_ (ax [some 0,some 1,some 0] ?_ ?_ rfl rfl) ?_
 rotate_left
 ·refine sB ?_
  all_goals(first|done|(simp only[aW])|(simp[aS, *];done)|(simp[aS];done)|(simp;omega)|skip)
 ·refine sB ?_
  all_goals(first|done|(simp only[aW])|(simp[aS, *];done)|(simp[aS];done)|(simp;omega)|skip)
 rotate_left
 ·omega
 ·rintro i hi
  rcases aa (i<t.kids.length) with h1|h1
  ·try simp -implicitDefEqProofs only[go_sem,Z1,Z2,Z3,Z4,h1]
   refine sI ?_
   have hc:=ih t.kids[i] (ah h1) d (aW l (t.kids.take i)) (by omega) (jk hk.2.2 _ (ah h1)) (by have:=hle i;omega)
   refine oD [] [2,3] hc ?_
   refine sJ ?_
   refine⟨i+1,?_,sL,ax [some 0,some 1,some 3] ?_ ?_ rfl rfl⟩
   rotate_left
   ·refine sB ?_
    all_goals(first|done|(simp only[kQ h1])|(simp[aS, *];done)|(simp[aS];done)|(simp;omega)|skip)
   ·refine sB ?_
    all_goals(first|done|(simp only[kQ h1])|(simp[aS, *];done)|(simp[aS];done)|(simp;omega)|skip)
   exact h1
  ·have e:t.kids.take i=t.kids:=an (by omega)
   have h2:=hle i
   rw[e] at h2
   try simp -implicitDefEqProofs only[go_sem,Z1,Z2,Z3,Z4,h1,e]
   refine sI ?_
   refine ja [] [2] (xT (aW l t.kids) t) rfl ?_ ?_ ?_
   ·exact sV
   all_goals simp -implicitDefEqProofs only[go_sem,Z1,Z2,Z3,Z4]
   refine sI ?_
   rcases aa (0≤fA (aW l t.kids) t) with hx|hx
   ·have hx':¬fA (aW l t.kids) t<0:=by omega
    try simp -implicitDefEqProofs only[go_sem,Z1,Z2,Z3,Z4,hx]
    refine sI ?_
    refine bh [some 0,some 2] ?_ rfl rfl
    refine sB ?_
    rw[lr,if_neg hx']
   ·have hx':fA (aW l t.kids) t<0:=by omega
    try simp -implicitDefEqProofs only[go_sem,Z1,Z2,Z3,Z4,hx]
    refine sI ?_
    refine aD [] (kv t) ?_
    refine sJ ?_
    refine bh [some 0,some 3] ?_ rfl rfl
    refine sB ?_
    rw[lr,if_pos hx',←iw,eW,gQ]
    rfl
theorem wU:∀(t:Term)(d:Nat)(l:List Term),d≤4→a8 t d=true→l.length≤999000+15*(4-d)→C E.P 145 [.acc 0,av (cT t)] [some (.acc 28 (aQ l))] (bw (.acc 1) [some .dead,some (.acc 28 (aQ (cW l t)))]):=
 Term.ind fun n ks ih d l h1 h2 h3=>vH (.mk n ks) ih d l h1 h2 h3
theorem uw:∀(xs:List lH)(x:lH),iA (xs++[x])=if xs=[] then x else iA xs++(44::x)
 | [],x=>by simp[iA]
 | [a],x=>by simp[iA]
 | a::b::xs,x=>by
   have:=uw (b::xs) x
   simp only[bO] at this
   simp[iA,this]
def jC(t:Term)(i:Nat):lH:=match i with
 | 0=>t.name
 | i+1=>t.name++(40::iA ((t.kids.take (i+1)).map aF))
theorem uW{t:Term}{i:Nat}(h:i<t.kids.length):jC t (i+1)=jC t i++((if i=0 then [40] else [44])++aF t.kids[i]):=by
 have e:(t.kids.take (i+1)).map aF=(t.kids.take i).map aF++[aF t.kids[i]]:=by
  rw[fl h,List.map_append];rfl
 cases i with
 | zero=>
   simp only[jC,e,List.take_zero,List.map_nil,List.nil_append,iA,if_true]
   rfl
 | succ i=>
   have mq:¬ (t.kids.take (i+1)).map aF=[]:=by
    intro hh
    have hz:t.kids.take (i+1)=[]:=by simpa using hh
    have hz2:(t.kids.take (i+1)).length=0:=by rw[hz];rfl
    rw[List.length_take] at hz2
    omega
   simp only[jC,e,uw,mq,if_false]
   simp
theorem rv{t:Term}(h:t.kids≠[]):aF t=jC t t.kids.length++[41]:=by
 rw[pf t h,←pw]
 match hk:t.kids.length,h with
 | 0,h=>exact absurd (cd.1 hk) h
 | n+1,_=>
   have hk':t.kids.take (n+1)=t.kids:=an (by omega)
   simp only[jC,hk']
   simp
theorem DG{t:Term}{d:Nat}(h:a8 t d=true)(hd:d≤4)(i:Nat)(hi:i≤t.kids.length):(jC t i).length≤122:=by
 have key:∀k,i+k≤t.kids.length→(jC t i).length≤(jC t (i+k)).length:=by
  intro k
  induction k with
  | zero=>intro _;exact ar _
  | succ k ih=>
    intro hk
    have h1:=ih (by omega)
    rw[←Nat.add_assoc,uW (by omega)]
    simp only[ao]
    omega
 have h1:=key (t.kids.length-i) (by omega)
 rw[show i+(t.kids.length-i)=t.kids.length by omega] at h1
 have h2:=nM h hd
 rcases aa (t.kids=[]) with hk|hk
 ·rw[od t hk] at h2
  have hi0:i=0:=by rw[hk] at hi;simpa using hi
  subst hi0
  simp only[jC]
  omega
 ·rw[rv hk] at h2
  simp only[ao,aq,List.length_nil] at h2
  omega
theorem wH(t:Term)(ih:∀k∈t.kids,∀d:Nat,d≤4→a8 k d=true→C E.P 177 [av (cT k)] [] (bw (sv (aF k)) []))(d:Nat)(hd:d≤4)(hsh:a8 t d=true) :
 C E.P 177 [av (cT t)] [] (bw (sv (aF t)) []):=by
 cases d with
 | zero=>cases t;simp[a8] at hsh
 | succ d=>
 have hk:=jl hsh
 have cZ:=fun i hi=>DG hsh hd i hi
 refine gT (nt:=34) (rs:=[.tmp 2]) hm Tryz.func177 fun hl he cp=>?_
 refine aI hm (fun(i:Nat)=> i≤t.kids.length) (fun(i:Nat)=> ⟨eQ 34 .any [(1,.ptr 0 0),(3,sv (jC t i)),(4,iv i)],[some (.box (ff (cT t)))]⟩) (fun(i:Nat)=> t.kids.length-i) (0) ?_ (ax [some 0] ?_ ?_ rfl rfl) ?_
 rotate_left
 ·refine sB ?_
  all_goals(first|done|(simp[jC])|(simp[aS, *];done)|(simp[aS];done)|(simp;omega)|skip)
 ·refine sB ?_
  all_goals(first|done|(simp[jC])|(simp[aS, *];done)|(simp[aS];done)|(simp;omega)|skip)
 rotate_left
 ·omega
 ·rintro i hi
  rcases aa (i<t.kids.length) with h1|h1
  ·have hsk:=jk hk.2.2 _ (ah h1)
   have b1:=nM hsk (by omega)
   have b2:=cZ i hi
   have hc:=ih t.kids[i] (ah h1) d (by omega) hsk
   have dh:=uW h1
   try simp -implicitDefEqProofs only[go_sem,Z1,Z2,Z3,Z4,h1]
   refine sI ?_
   cases i with
   | zero=>
     try simp -implicitDefEqProofs only[go_sem,Z1,Z2,Z3,Z4,h1]
     refine sJ ?_
     refine aD [] hc ?_
     refine sJ ?_
     refine⟨0+1,?_,sL,ax [some 0] ?_ ?_ rfl rfl⟩
     rotate_left
     ·refine sB ?_
      all_goals(first|done|((rw[dh];simp))|(simp[aS, *];done)|(simp[aS];done)|(simp;omega)|skip)
     ·refine sB ?_
      all_goals(first|done|((rw[dh];simp))|(simp[aS, *];done)|(simp[aS];done)|(simp;omega)|skip)
     exact h1
   | succ i=>
     have e1:¬ (i:Int)+1=0:=by omega
     have et:((i:Int)+1).toNat=i+1:=by omega
     try simp -implicitDefEqProofs only[go_sem,Z1,Z2,Z3,Z4,e1,et,h1]
     refine sJ ?_
     refine aD [] hc ?_
     refine sJ ?_
     refine⟨i+1+1,?_,sL,ax [some 0] ?_ ?_ rfl rfl⟩
     rotate_left
     ·refine sB ?_
      all_goals(first|done|((rw[dh];simp))|(simp[aS, *];done)|(simp[aS];done)|(simp;omega)|skip)
     ·refine sB ?_
      all_goals(first|done|((rw[dh];simp))|(simp[aS, *];done)|(simp[aS];done)|(simp;omega)|skip)
     exact h1
  ·have hi2:i=t.kids.length:=by omega
   subst hi2
   have b2:=cZ _ (ar _)
   rcases aa ((0:Int)<(t.kids.length:Int)) with h3|h3
   ·have mq:t.kids≠[]:=by
     intro hh
     rw[hh] at h3
     simp at h3
    try simp -implicitDefEqProofs only[go_sem,Z1,Z2,Z3,Z4,h1,h3]
    refine sJ ?_
    refine ak ?_
    refine sB ?_
    all_goals(first|done|(simp[rv mq];done)|(simp[rv mq];omega)|skip)
   ·have mq:t.kids=[]:=cd.1 (by omega)
    have e:jC t t.kids.length=aF t:=by rw[od t mq,mq];rfl
    try simp -implicitDefEqProofs only[go_sem,Z1,Z2,Z3,Z4,h1,h3]
    refine sI ?_
    refine ak ?_
    refine sB ?_
    all_goals(first|done|(simp[e];done)|(simp[e];omega)|skip)
theorem gR:∀(t:Term)(d:Nat),d≤4→a8 t d=true→C E.P 177 [av (cT t)] [] (bw (sv (aF t)) []):=
 Term.ind fun n ks ih d h1 h2=>wH (.mk n ks) ih d h1 h2
theorem oS(t:Term)(h:isTerm t=true):C E.P 177 [av (cT t)] [] (bw (sv (aF t)) []):=gR t 4 (by omega) (iJ h)
theorem yd(l:List Term)(xs ys:List Term):aW l (xs++ys)=aW (aW l xs) ys:=by
 rw[fD,fD,fD,List.foldl_append]
theorem kT:∀(ts l:List Term),(∀t∈ts,isTerm t=true)→(aW l ts).length≤l.length+15*ts.length
 | [],l,_=>by simp[aW]
 | t::ts,l,h=>by
   have h1:=sZ (l:=l) (iJ (h t (by simp))) (by omega)
   have h2:=kT ts (cW l t) fun x hx=>h x (by simp[hx])
   simp only[aW,aq]
   omega
end Go.Proofs.YtgpjhjalfakpoaaGreat
