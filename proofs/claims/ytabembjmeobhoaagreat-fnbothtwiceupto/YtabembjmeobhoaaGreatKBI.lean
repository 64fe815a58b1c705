/-
  The reference: the walks of names, signatures, shapes and sorts. A step towards the exact laws.
-/
import Derived.Test.YtabembjmeobhoaaGreatKBL
set_option linter.unusedVariables false
set_option linter.unusedSimpArgs false
open Bool renaming false_eq_true→ax,true_and→aM,false_and→aS
open Classical renaming em→aa
open List renaming drop_eq_getElem_cons→aj,getElem_mem→ak,drop_of_length_le→al,take_of_length_le→ao,length_append→aX,length_cons→a8,cons_append→bz,all_cons→b8,find?_cons→dA,all_nil→dX,length_eq_zero_iff→gx
open Nat renaming le_refl→aI
open Option renaming isSome_some→aJ,getD_some→aK
namespace Go.Proofs.YtabembjmeobhoaaGreat
open Go.Eng Go.Mod
open Int renaming reduceEq→Z1,reduceLT→Z2,reduceLE→Z3,reduceToNat→Z4
set_option maxRecDepth 100000
set_option maxHeartbeats 800000
theorem tt(s:ni):C E.P 195 [sv s] [] (bM (bv (fE s)) []):=by
 refine gS (nt:=28) (rs:=[.tmp 2]) hm Tryz.func195 fun hl he cI=>?_
 refine aO hm (fun(i:Nat)=> i≤s.length∧s.all iM=(s.drop i).all iM) (fun(i:Nat)=> ⟨dB 28 .any [(0,sv s),(3,iv i)],[]⟩) (fun(i:Nat)=> s.length-i) (0) ?_ (aw [] ?_ ?_ rfl rfl) ?_
 rotate_left
 ·exact sC
 ·exact sC
 rotate_left
 ·simp
 ·rintro i ⟨hi,hg⟩
  rcases aa (i<s.length) with h1|h1
  ·rw[aj h1,b8] at hg
   simp -implicitDefEqProofs only[go_sem,h1]
   rw[qY h1]
   rcases aa ((s[i].toNat:Int)<97) with h2|h2
   ·have h3:iM s[i]=false:=by simp[iM];omega
    rw[h3,aS] at hg
    simp -implicitDefEqProofs only[go_sem,h2]
    refine an ?_
    refine sA ?_
    all_goals(simp[fE,hg];done)
   ·simp -implicitDefEqProofs only[go_sem,h2,h1]
    rw[qY h1]
    rcases aa (122<(s[i].toNat:Int)) with h4|h4
    ·have h3:iM s[i]=false:=by simp[iM];omega
     rw[h3,aS] at hg
     simp -implicitDefEqProofs only[go_sem,h4]
     refine an ?_
     refine sA ?_
     all_goals(simp[fE,hg];done)
    ·have h3:iM s[i]=true:=by simp[iM];omega
     rw[h3,aM] at hg
     simp -implicitDefEqProofs only[go_sem,h4]
     refine sQ ?_
     refine⟨i+1,?_,sL,aw [] ?_ ?_ rfl rfl⟩
     rotate_left
     ·exact sC
     ·exact sC
     exact⟨by omega,hg⟩
  ·rw[al (by omega),dX] at hg
   have e:fE s=(decide ((1:Int)≤(s.length:Int))&&decide ((s.length:Int)≤2)):=by simp[fE,hg,within]
   rcases aa ((1:Int)≤(s.length:Int)) with h2|h2
   ·simp -implicitDefEqProofs only[go_sem,h1,h2]
    refine an ?_
    refine sA ?_
    all_goals(simp[e,h2];done)
   ·simp -implicitDefEqProofs only[go_sem,h1,h2]
    refine an ?_
    refine sA ?_
    all_goals(simp[e,h2];done)
theorem tz(n:Int):C E.P 196 [iv n] [] (bM (bv (isSort n)) []):=by
 refine gS (nt:=9) (rs:=[.tmp 2]) hm Tryz.func196 fun hl he cI=>?_
 rcases aa (n=0) with h|h
 ·have k:=eq_true h
  simp -implicitDefEqProofs only[go_sem,k]
  refine an ?_
  refine sA ?_
  all_goals(simp[isSort,h];done)
 ·simp -implicitDefEqProofs only[go_sem,h]
  refine an ?_
  refine sA ?_
  all_goals(simp[isSort,h];done)
theorem uY(s:dE):C E.P 124 [av (dZ s)] [] (bM (bv (fH s)) []):=by
 refine gS (nt:=68) (rs:=[.tmp 2]) hm Tryz.func124 fun hl he cI=>?_
 refine aO hm (fun(i:Nat)=> i≤s.syms.length∧qM none s.syms=qM (kd s.syms i) (s.syms.drop i)) (fun(i:Nat)=> ⟨dB 68 .any [(1,.ptr 0 0),(3,iv i)],[some (.box (cF (dZ s)))]⟩) (fun(i:Nat)=> s.syms.length-i) (0) ?_ (aw [some 0] ?_ ?_ rfl rfl) ?_
 rotate_left
 ·exact sC
 ·exact sC
 rotate_left
 ·simp[kd]
 ·rintro i ⟨hi,hg⟩
  rcases aa (i<s.syms.length) with h1|h1
  ·rw[aj h1] at hg
   simp only[qM] at hg
   simp -implicitDefEqProofs only[go_sem,h1]
   refine aC [] (tt s.syms[i].name) ?_
   cases h2:fE s.syms[i].name
   ·have e:fH s=false:=by simp[fH,hg,ob,h2]
    refine sA ?_
    refine iK ?_
    refine an ?_
    refine sA ?_
    all_goals(simp[e];done)
   ·refine sA ?_
    rcases aa ((2:Int)<(s.syms[i].args.length:Int)) with h3' | h3'
    ·have h3:¬s.syms[i].args.length≤2:=by omega
     have e:fH s=false:=by simp[fH,hg,ob,h3]
     simp -implicitDefEqProofs only[go_sem,h3']
     refine iK ?_
     refine an ?_
     refine sA ?_
     all_goals(simp[e];done)
    ·have h3:s.syms[i].args.length≤2:=by omega
     simp -implicitDefEqProofs only[go_sem,h3']
     refine aC [] (tz s.syms[i].sort) ?_
     cases h4:isSort s.syms[i].sort
     ·have e:fH s=false:=by simp[fH,hg,ob,h4]
      refine sA ?_
      refine iK ?_
      refine an ?_
      refine sA ?_
      all_goals(simp[e];done)
     ·cases i with
      | zero=>
        simp only[kd,aM] at hg
        simp -implicitDefEqProofs only[go_sem,Int.lt_irrefl]
        refine iK ?_
        refine aO hm (fun(u:Nat)=> u≤s.syms[0].args.length∧s.syms[0].args.all isSort=(s.syms[0].args.drop u).all isSort) (fun(u:Nat)=> ⟨dB 68 .any [(1,.ptr 0 0),(3,iv (0:Nat)),(4,.ptr 1 0),(5,iv u)],[some (.box (cF (dZ s))),some (.box (cF (vP s.syms[0])))]⟩) (fun(u:Nat)=> s.syms[0].args.length-u) (0) ?_ (aw [some 0,some 1] ?_ ?_ rfl rfl) ?_
        rotate_left
        ·exact sC
        ·exact sC
        rotate_left
        ·simp
        ·rintro u ⟨hu,hk⟩
         rcases aa (u<s.syms[0].args.length) with g1|g1
         ·rw[aj g1,b8] at hk
          simp -implicitDefEqProofs only[go_sem,g1]
          refine aC [] (tz s.syms[0].args[u]) ?_
          cases g2:isSort s.syms[0].args[u]
          ·rw[g2,aS] at hk
           have e:fH s=false:=by simp[fH,hg,ob,hk]
           refine sA ?_
           refine an ?_
           refine sA ?_
           all_goals(simp[e];done)
          ·rw[g2,aM] at hk
           refine sA ?_
           refine sQ ?_
           refine⟨u+1,?_,sL,aw [some 0,some 1] ?_ ?_ rfl rfl⟩
           rotate_left
           ·exact sC
           ·exact sC
           exact⟨by omega,hk⟩
         ·rw[al (by omega),dX] at hk
          have e:ob s.syms[0]=true:=by simp[ob,h2,h3,h4,hk]
          rw[e] at hg
          simp -implicitDefEqProofs only[go_sem,g1]
          refine sQ ?_
          refine⟨0+1,?_,sL,aw [some 0] ?_ ?_ rfl rfl⟩
          rotate_left
          ·refine sA ?_
           all_goals(simp[*];done)
          ·exact sC
          refine⟨by omega,?_⟩
          rw[hg]
          simp[kd,h1]
      | succ j=>
        have hj:j<s.syms.length:=by omega
        have e1:((j:Int)+1-1)=(j:Int):=by omega
        have e2:(0:Int)<(j:Int)+1:=by omega
        have e3:kd s.syms (j+1)=some s.syms[j].name:=by simp[kd,hj]
        rw[e3] at hg
        simp only at hg
        simp -implicitDefEqProofs only[go_sem,e1,e2,hj]
        refine sQ ?_
        cases q4:gn s.syms[j].name s.syms[j+1].name
        ·rw[q4,aS,Bool.and_false] at hg
         have e:fH s=false:=by simp[fH,hg]
         have h5:Op.bytesLess s.syms[j].name s.syms[j+1].name=false:=q4
         simp -implicitDefEqProofs only[go_sem,h5]
         refine an ?_
         refine sA ?_
         all_goals(simp[e];done)
        ·rw[q4,aM] at hg
         have h5:Op.bytesLess s.syms[j].name s.syms[j+1].name=true:=q4
         simp -implicitDefEqProofs only[go_sem,h5]
         refine aO hm (fun(u:Nat)=> u≤s.syms[j+1].args.length∧s.syms[j+1].args.all isSort=(s.syms[j+1].args.drop u).all isSort) (fun(u:Nat)=> ⟨dB 68 .any [(1,.ptr 0 0),(3,iv (j+1:Nat)),(4,.ptr 1 0),(5,iv u)],[some (.box (cF (dZ s))),some (.box (cF (vP s.syms[j+1])))]⟩) (fun(u:Nat)=> s.syms[j+1].args.length-u) (0) ?_ (aw [some 0,some 1] ?_ ?_ rfl rfl) ?_
         rotate_left
         ·exact sC
         ·exact sC
         rotate_left
         ·simp
         ·rintro u ⟨hu,hk⟩
          rcases aa (u<s.syms[j+1].args.length) with g1|g1
          ·rw[aj g1,b8] at hk
           simp -implicitDefEqProofs only[go_sem,g1]
           refine aC [] (tz s.syms[j+1].args[u]) ?_
           cases g2:isSort s.syms[j+1].args[u]
           ·rw[g2,aS] at hk
            have e:fH s=false:=by simp[fH,hg,ob,hk]
            refine sA ?_
            refine an ?_
            refine sA ?_
            all_goals(simp[e];done)
           ·rw[g2,aM] at hk
            refine sA ?_
            refine sQ ?_
            refine⟨u+1,?_,sL,aw [some 0,some 1] ?_ ?_ rfl rfl⟩
            rotate_left
            ·exact sC
            ·exact sC
            exact⟨by omega,hk⟩
          ·rw[al (by omega),dX] at hk
           have e:ob s.syms[j+1]=true:=by simp[ob,h2,h3,h4,hk]
           rw[e] at hg
           simp -implicitDefEqProofs only[go_sem,g1]
           refine sQ ?_
           refine⟨j+1+1,?_,sL,aw [some 0] ?_ ?_ rfl rfl⟩
           rotate_left
           ·exact sC
           ·exact sC
           refine⟨by omega,?_⟩
           rw[hg]
           simp[kd,h1]
  ·rw[al (by omega)] at hg
   simp only[qM] at hg
   have e:fH s=decide ((s.syms.length:Int)≤7):=by simp[fH,hg];omega
   simp -implicitDefEqProofs only[go_sem,h1]
   refine an ?_
   refine sA ?_
   all_goals(simp[e];done)
theorem R4(t:Term)(d:Nat):bK t (d+1)=(fE t.name&&(decide (t.kids.length≤2)&&cG t.kids d)):=by cases t;rfl
theorem JE{ts:List Term}{i:Nat}(h:i<ts.length)(d:Nat):cG (ts.drop i) d=(bK ts[i] d&&cG (ts.drop (i+1)) d):=by rw[aj h,cG]
theorem DI(t:Term)(ih:∀k∈t.kids,∀d:Nat,d≤4→C E.P 266 [av (cT k),iv d] [] (bM (bv (bK k d)) []))(d:Nat)(hd:d≤4) :
 C E.P 266 [av (cT t),iv d] [] (bM (bv (bK t d)) []):=by
 cases d with
 | zero=>
   have e:bK t 0=false:=by cases t;rfl
   have cI:=jQ
   refine lJ (nt:=36) (rs:=[.tmp 4]) hm Tryz.func266 rfl rfl rfl rfl rfl (fun hl he=>?_)
   simp -implicitDefEqProofs only[go_sem,Z2] at hl⊢
   refine an ?_
   refine sA ?_
   all_goals(simp[e];done)
 | succ d=>
   have e:=R4 t d
   refine gS (nt:=36) (rs:=[.tmp 4]) hm Tryz.func266 fun hl he cI=>?_
   have h0:¬ (d:Int)+1<1:=by omega
   simp -implicitDefEqProofs only[go_sem,h0]
   refine aC [] (tt t.name) ?_
   cases h2:fE t.name
   ·refine sA ?_
    refine an ?_
    refine sA ?_
    all_goals(simp[e,h2];done)
   ·refine sA ?_
    rcases aa ((2:Int)<(t.kids.length:Int)) with h3' | h3'
    ·have h3:¬t.kids.length≤2:=by omega
     simp -implicitDefEqProofs only[go_sem,h3']
     refine an ?_
     refine sA ?_
     all_goals(simp[e,h3];done)
    ·have h3:t.kids.length≤2:=by omega
     have e:bK t (d+1)=cG t.kids d:=by simp[e,h2,h3]
     simp -implicitDefEqProofs only[go_sem,h3']
     refine aO hm (fun(i:Nat)=> i≤t.kids.length∧cG t.kids d=cG (t.kids.drop i) d) (fun(i:Nat)=> ⟨dB 36 .any [(1,iv ((d:Int)+1)),(2,.ptr 0 0),(5,iv i)],[some (.box (cF (cT t)))]⟩) (fun(i:Nat)=> t.kids.length-i) (0) ?_ (aw [some 0] ?_ ?_ rfl rfl) ?_
     rotate_left
     ·exact sC
     ·exact sC
     rotate_left
     ·simp
     ·rintro i ⟨hi,hg⟩
      rcases aa (i<t.kids.length) with h1|h1
      ·rw[JE h1] at hg
       have e2:(d:Int)+1-1=(d:Int):=by omega
       simp -implicitDefEqProofs only[go_sem,h1,e2]
       refine sQ ?_
       have hc:=ih t.kids[i] (ak h1) d (by omega)
       refine aC [] hc ?_
       cases h4:bK t.kids[i] d
       ·rw[h4,aS] at hg
        refine sA ?_
        refine an ?_
        refine sA ?_
        all_goals(simp[e,hg];done)
       ·rw[h4,aM] at hg
        refine sA ?_
        refine sQ ?_
        refine⟨i+1,?_,sL,aw [some 0] ?_ ?_ rfl rfl⟩
        rotate_left
        ·exact sC
        ·exact sC
        exact⟨by omega,hg⟩
      ·rw[al (by omega),cG] at hg
       simp -implicitDefEqProofs only[go_sem,h1]
       refine an ?_
       refine sA ?_
       all_goals(simp[e,hg];done)
theorem E7:∀(t:Term)(d:Nat),d≤4→C E.P 266 [av (cT t),iv d] [] (bM (bv (bK t d)) []):=
 Term.ind fun n ks ih d hd=>DI (.mk n ks) ih d hd
theorem OO{ts:List Term}{i:Nat}(h:i<ts.length)(d:Nat):lM (ts.take (i+1)) d=lM (ts.take i) d+many ts[i] d:=by
 have e:ts.take (i+1)=ts.take i++[ts[i]]:=by rw[List.take_add_one,List.getElem?_eq_getElem h];rfl
 have key:∀(xs:List Term),lM (xs++[ts[i]]) d=lM xs d+many ts[i] d:=by
  intro xs
  induction xs with
  | nil=>simp[lM]
  | cons a xs ih=>simp only[bz,lM,ih];omega
 rw[e,key]
theorem G6(t:Term)(ih:∀k∈t.kids,∀d:Nat,d≤4→bK k d=true→C E.P 267 [av (cT k),iv d] [] (bM (iv (many k d)) []))(d:Nat)(hd:d≤4)(hs:bK t d=true) :
 C E.P 267 [av (cT t),iv d] [] (bM (iv (many t d)) []):=by
 cases d with
 | zero=>cases t;simp[bK] at hs
 | succ d=>
   have hk:=nY hs
   have e:many t (d+1)=1+lM t.kids d:=by cases t;rfl
   refine gS (nt:=29) (rs:=[.tmp 4]) hm Tryz.func267 fun hl he cI=>?_
   refine aO hm (fun(i:Nat)=> i≤t.kids.length) (fun(i:Nat)=> ⟨dB 29 .any [(1,iv ((d:Int)+1)),(2,.ptr 0 0),(5,iv ((1+lM (t.kids.take i) d:Nat):Int)),(6,iv i)],[some (.box (cF (cT t)))]⟩) (fun(i:Nat)=> t.kids.length-i) (0) ?_ (aw [some 0] ?_ ?_ rfl rfl) ?_
   rotate_left
   ·refine sA ?_
    all_goals(simp[lM])
   ·exact sC
   rotate_left
   ·omega
   ·rintro i hi
    have b1:=zT (t.kids.take i) d (rb hk.2.2 i)
    have b2:(t.kids.take i).length≤2:=by simp;omega
    have b3:(2:Nat) ^ d≤2 ^ 4:=Nat.pow_le_pow_right (by omega) (by omega)
    have b4:(t.kids.take i).length*(2 ^ d-1)≤2*(2 ^ d-1):=Nat.mul_le_mul_right _ b2
    rcases aa (i<t.kids.length) with h1|h1
    ·have hsk:=n7 hk.2.2 _ (ak h1)
     have b5:=JJ t.kids[i] d hsk
     have e2:(d:Int)+1-1=(d:Int):=by omega
     have e3:(0:Int)<(d:Int)+1:=by omega
     simp -implicitDefEqProofs only[go_sem,h1,e3,e2]
     refine sQ ?_
     have hc:=ih t.kids[i] (ak h1) d (by omega) hsk
     refine aC [] hc ?_
     refine sQ ?_
     refine⟨i+1,?_,sL,aw [some 0] ?_ ?_ rfl rfl⟩
     rotate_left
     ·refine sA ?_
      all_goals((simp only[OO h1];simp;omega))
     ·exact sC
     exact h1
    ·have et:t.kids.take i=t.kids:=ao (by omega)
     simp -implicitDefEqProofs only[go_sem,h1,et]
     refine an ?_
     refine sA ?_
     all_goals(simp[e];done)
theorem HV:∀(t:Term)(d:Nat),d≤4→bK t d=true→C E.P 267 [av (cT t),iv d] [] (bM (iv (many t d)) []):=
 Term.ind fun n ks ih d hd hs=>G6 (.mk n ks) ih d hd hs
theorem rS(t:Term):C E.P 242 [av (cT t)] [] (bM (bv (isTerm t)) []):=by
 have e:=A9 t
 unfold right at e
 refine gS (nt:=10) (rs:=[.tmp 2]) hm Tryz.func242 fun hl he cI=>?_
 have hc:=E7 t 4 (by omega)
 refine aC [] hc ?_
 cases h:bK t 4
 ·refine sA ?_
  refine an ?_
  refine sA ?_
  all_goals(simp[←e,h];done)
 ·have hc:=HV t 4 (by omega) h
  refine sA ?_
  refine aC [] hc ?_
  refine an ?_
  refine sA ?_
  rw[←e,h]
  simp
  omega
theorem yx(s:dE)(n:ni):C E.P 219 [av (dZ s),sv n] [] (bM (.jd [av (vP ((symbol s n).getD so)),bv (symbol s n).isSome]) []):=by
 refine gT (nt:=28) (rs:=[.cell 4 126,.tmp 5]) hm Tryz.func219 fun hl he cI=>?_
 refine aO hm (fun(i:Nat)=> i≤s.syms.length∧symbol s n=(s.syms.drop i).find? (fun x=>decide (x.name=n))) (fun(i:Nat)=> ⟨dB 28 .any [(1,sv n),(2,.ptr 0 0),(4,.ptr 1 0),(6,iv i)],[some (.box (cF (dZ s))),some (.box (cF (vP so)))]⟩) (fun(i:Nat)=> s.syms.length-i) (0) ?_ (aw [some 0,some 1] ?_ ?_ rfl rfl) ?_
 rotate_left
 ·refine sB ?_
  all_goals(first|done|(simp[so,bG])|(simp[aq, *];done)|(simp[aq];done)|(simp;omega)|skip)
 ·refine sB ?_
  all_goals(first|done|(simp[so,bG])|(simp[aq, *];done)|(simp[aq];done)|(simp;omega)|skip)
 rotate_left
 ·simp[symbol]
 ·rintro i ⟨hi,hg⟩
  rcases aa (i<s.syms.length) with h1|h1
  ·rw[aj h1] at hg
   rcases aa (s.syms[i].name=n) with h2|h2
   ·have e:symbol s n=some s.syms[i]:=by rw[hg];simp only[dA,h2,decide_true]
    try simp -implicitDefEqProofs only[go_sem,Z1,Z2,Z3,Z4,h1,h2]
    refine sJ ?_
    refine an ?_
    refine sB ?_
    all_goals(first|done|(simp[e,h2];done)|(simp[e,h2];omega)|skip)
   ·have e:symbol s n=(s.syms.drop (i+1)).find? (fun x=>decide (x.name=n)):=by rw[hg];simp only[dA,h2,decide_false]
    try simp -implicitDefEqProofs only[go_sem,Z1,Z2,Z3,Z4,h1,h2]
    refine sJ ?_
    refine⟨i+1,?_,sL,aw [some 0,some 1] ?_ ?_ rfl rfl⟩
    rotate_left
    ·refine sB ?_
     all_goals(first|done|(simp[aq, *];done)|(simp[aq];done)|(simp;omega)|skip)
    ·refine sB ?_
     all_goals(first|done|(simp[aq, *];done)|(simp[aq];done)|(simp;omega)|skip)
    exact⟨by omega,e⟩
  ·have e:symbol s n=none:=by rw[hg,al (by omega)];rfl
   try simp -implicitDefEqProofs only[go_sem,Z1,Z2,Z3,Z4,h1]
   refine sI ?_
   refine an ?_
   refine sB ?_
   all_goals(first|done|(simp[e,so,tO];done)|(simp[e,so,tO];omega)|skip)
theorem KB(s:dE)(hs:fH s=true)(t:Term)(ih:∀k∈t.kids,C E.P 192 [av (dZ s),av (cT k)] [] (bM (iv ((fK s k).getD (-1))) [])) :
 C E.P 192 [av (dZ s),av (cT t)] [] (bM (iv ((fK s t).getD (-1))) []):=by
 have ht:=I2 s t
 refine gT (nt:=48) (rs:=[.tmp 4]) hm Tryz.func192 fun hl he cI=>?_
 refine aD [] (yx s t.name) ?_
 refine sI ?_
 cases hx:symbol s t.name with
 | none=>
   rw[hx] at ht
   simp only at ht
   try simp -implicitDefEqProofs only[go_sem,Z1,Z2,Z3,Z4,Option.isSome_none]
   refine sI ?_
   refine an ?_
   refine sB ?_
   all_goals(first|done|(simp[ht];done)|(simp[ht];omega)|skip)
 | some x=>
   rw[hx] at ht
   simp only at ht
   have hxo:=(Gq (Ix hs hx)).2
   rcases aa (x.args.length=t.kids.length) with h1|h1
   ·simp only[h1,decide_true,aM] at ht
    try simp -implicitDefEqProofs only[go_sem,Z1,Z2,Z3,Z4,aJ,aK,h1]
    refine sI ?_
    refine aO hm (fun(i:Nat)=> i≤t.kids.length∧gy s t.kids x.args=gy s (t.kids.drop i) (x.args.drop i)) (fun(i:Nat)=> ⟨dB 48 .any [(2,.ptr 0 0),(3,.ptr 1 0),(5,.ptr 2 0),(7,iv i)],[some (.box (cF (dZ s))),some (.box (cF (cT t))),some (.box (cF (vP x)))]⟩) (fun(i:Nat)=> t.kids.length-i) (0) ?_ (aw [some 0,some 1,some 2] ?_ ?_ rfl rfl) ?_
    rotate_left
    ·refine sB ?_
     all_goals(first|done|(simp[aq, *];done)|(simp[aq];done)|(simp;omega)|skip)
    ·refine sB ?_
     all_goals(first|done|(simp[aq, *];done)|(simp[aq];done)|(simp;omega)|skip)
    rotate_left
    ·simp
    ·rintro i ⟨hi,hg⟩
     rcases aa (i<t.kids.length) with h2|h2
     ·have h3:i<x.args.length:=by omega
      have hso:=Gi.1 (hxo x.args[i] (ak h3))
      rw[Ag h2 h3] at hg
      try simp -implicitDefEqProofs only[go_sem,Z1,Z2,Z3,Z4,h2,h3]
      refine sI ?_
      have hc:=ih t.kids[i] (ak h2)
      refine bQ [] hc ?_ ?_<;>simp -implicitDefEqProofs only[go_sem,Z1,Z2,Z3,Z4,h2,h3]
      refine sJ ?_
      rcases aa ((fK s t.kids[i]).getD (-1)=x.args[i]) with hn|hn
      ·have hn2:fK s t.kids[i]=some x.args[i]:=by
        cases hk:fK s t.kids[i] with
        | none=>rw[hk] at hn;simp only[Option.getD_none] at hn;omega
        | some n=>rw[hk] at hn;simp only[aK] at hn;rw[hn]
       have hz:gy s t.kids x.args=gy s (t.kids.drop (i+1)) (x.args.drop (i+1)):=by rw[hg,hn2];simp
       have k:=eq_true hn
       try simp -implicitDefEqProofs only[go_sem,Z1,Z2,Z3,Z4,k]
       refine sJ ?_
       refine⟨i+1,?_,sL,aw [some 0,some 1,some 2] ?_ ?_ rfl rfl⟩
       rotate_left
       ·refine sB ?_
        all_goals(first|done|(simp[aq, *];done)|(simp[aq];done)|(simp;omega)|skip)
       ·refine sB ?_
        all_goals(first|done|(simp[aq, *];done)|(simp[aq];done)|(simp;omega)|skip)
       exact⟨by omega,hz⟩
      ·have hn2:¬fK s t.kids[i]=some x.args[i]:=fun h=>hn (by rw[h];rfl)
       have hz:gy s t.kids x.args=false:=by
        rw[hg]
        simp[hn2]
       rw[hz] at ht
       simp only[ax,if_false] at ht
       try simp -implicitDefEqProofs only[go_sem,Z1,Z2,Z3,Z4,hn]
       refine sI ?_
       refine an ?_
       refine sB ?_
       all_goals(first|done|(simp[ht];done)|(simp[ht];omega)|skip)
     ·rw[al (by omega),al (by omega)] at hg
      rw[hg] at ht
      simp only[gy,if_true] at ht
      try simp -implicitDefEqProofs only[go_sem,Z1,Z2,Z3,Z4,h2]
      refine sI ?_
      refine an ?_
      refine sB ?_
      all_goals(first|done|(simp[ht];done)|(simp[ht];omega)|skip)
   ·simp only[h1,decide_false,aS,ax,if_false] at ht
    try simp -implicitDefEqProofs only[go_sem,Z1,Z2,Z3,Z4,aJ,aK,h1]
    refine sI ?_
    refine an ?_
    refine sB ?_
    all_goals(first|done|(simp[ht];done)|(simp[ht];omega)|skip)
theorem th(s:dE)(hs:fH s=true):∀(t:Term),C E.P 192 [av (dZ s),av (cT t)] [] (bM (iv ((fK s t).getD (-1))) []):=
 Term.ind fun n ks ih=>KB s hs (.mk n ks) ih
theorem drop_eq{α:Type}{xs ys:List α}{i:Nat}(h:i<xs.length)(h':i<ys.length):(xs.drop i=ys.drop i)=(xs[i]=ys[i]∧xs.drop (i+1)=ys.drop (i+1)):=by
 rw[aj h,aj h',List.cons.injEq]
theorem BJ(a b:Term)(ih:∀k∈a.kids,∀y,C E.P 201 [av (cT k),av (cT y)] [] (bM (bv (decide (k=y))) [])):C E.P 201 [av (cT a),av (cT b)] [] (bM (bv (decide (a=b))) []):=by
 refine gT (nt:=39) (rs:=[.tmp 4]) hm Tryz.func201 fun hl he cI=>?_
 rcases aa (a.name=b.name) with h|h
 ·have k:=eq_true h
  try simp -implicitDefEqProofs only[go_sem,Z1,Z2,Z3,Z4,k]
  refine sI ?_
  rcases aa (a.kids.length=b.kids.length) with h2|h2
  ·have k2:=eq_true h2
   try simp -implicitDefEqProofs only[go_sem,Z1,Z2,Z3,Z4,k2]
   refine sI ?_
   refine aO hm (fun(i:Nat)=> i≤a.kids.length∧(a.kids=b.kids↔a.kids.drop i=b.kids.drop i)) (fun(i:Nat)=> ⟨dB 39 .any [(2,.ptr 0 0),(3,.ptr 1 0),(5,iv i)],[some (.box (cF (cT a))),some (.box (cF (cT b)))]⟩) (fun(i:Nat)=> a.kids.length-i) (0) ?_ (aw [some 0,some 1] ?_ ?_ rfl rfl) ?_
   rotate_left
   ·refine sB ?_
    all_goals(first|done|(simp[aq, *];done)|(simp[aq];done)|(simp;omega)|skip)
   ·refine sB ?_
    all_goals(first|done|(simp[aq, *];done)|(simp[aq];done)|(simp;omega)|skip)
   rotate_left
   ·simp
   ·rintro i ⟨hi,hg⟩
    rcases aa (i<a.kids.length) with h3|h3
    ·have h4:i<b.kids.length:=by omega
     rw[drop_eq h3 h4] at hg
     try simp -implicitDefEqProofs only[go_sem,Z1,Z2,Z3,Z4,h3,h4]
     refine sI ?_
     have hc:=ih a.kids[i] (ak h3) b.kids[i]
     refine aD [] hc ?_
     refine sI ?_
     rcases aa (a.kids[i]=b.kids[i]) with h5|h5
     ·have k5:=eq_true h5
      try simp -implicitDefEqProofs only[go_sem,Z1,Z2,Z3,Z4,k5]
      refine sJ ?_
      refine⟨i+1,?_,sL,aw [some 0,some 1] ?_ ?_ rfl rfl⟩
      rotate_left
      ·refine sB ?_
       all_goals(first|done|(simp[aq, *];done)|(simp[aq];done)|(simp;omega)|skip)
      ·refine sB ?_
       all_goals(first|done|(simp[aq, *];done)|(simp[aq];done)|(simp;omega)|skip)
      refine⟨by omega,?_⟩
      rw[hg]
      simp[h5]
     ·have e:¬a.kids=b.kids:=fun hh=>h5 (hg.1 hh).1
      try simp -implicitDefEqProofs only[go_sem,Z1,Z2,Z3,Z4,h5]
      refine sI ?_
      refine an ?_
      refine sB ?_
      all_goals(first|done|(simp[pW,e];done)|(simp[pW,e];omega)|skip)
    ·rw[al (by omega),al (by omega)] at hg
     try simp -implicitDefEqProofs only[go_sem,Z1,Z2,Z3,Z4,h3]
     refine sI ?_
     refine an ?_
     refine sB ?_
     all_goals(first|done|(simp[pW,h,hg];done)|(simp[pW,h,hg];omega)|skip)
  ·have e:¬a.kids=b.kids:=fun hh=>h2 (by rw[hh])
   try simp -implicitDefEqProofs only[go_sem,Z1,Z2,Z3,Z4,h2]
   refine sI ?_
   refine an ?_
   refine sB ?_
   all_goals(first|done|(simp[pW,e];done)|(simp[pW,e];omega)|skip)
 ·try simp -implicitDefEqProofs only[go_sem,Z1,Z2,Z3,Z4,h]
  refine sI ?_
  refine an ?_
  refine sB ?_
  all_goals(first|done|(simp[pW,h];done)|(simp[pW,h];omega)|skip)
theorem nz:∀a b,C E.P 201 [av (cT a),av (cT b)] [] (bM (bv (decide (a=b))) []):=
 Term.ind fun n ks ih b=>BJ (.mk n ks) b ih
theorem pO(t:Term):C E.P 265 [av (cT t)] [] (bM (bv (isNone t)) []):=by
 refine gT (nt:=12) (rs:=[.tmp 2]) hm Tryz.func265 fun hl he cI=>?_
 rcases aa (t.name=[]) with h|h
 ·have k:=eq_true h
  try simp -implicitDefEqProofs only[go_sem,Z1,Z2,Z3,Z4,k]
  refine sI ?_
  refine an ?_
  refine sB ?_
  all_goals(first|done|(simp[isNone,h];done)|(simp[isNone,h];omega)|skip)
 ·try simp -implicitDefEqProofs only[go_sem,Z1,Z2,Z3,Z4,h]
  refine sI ?_
  refine an ?_
  refine sB ?_
  all_goals(first|done|(simp[isNone,h];done)|(simp[isNone,h];omega)|skip)
theorem GV(t:Term)(ih:∀k∈t.kids,C E.P 60 [av (cT k)] [] (bM (av (cT k)) [])):C E.P 60 [av (cT t)] [] (bM (av (cT t)) []):=by
 refine gT (nt:=27) (rs:=[.cell 2 34]) hm Tryz.func60 fun hl he cI=>?_
 refine aO hm (fun(i:Nat)=> i≤t.kids.length) (fun(i:Nat)=> ⟨dB 27 .any [(1,.ptr 0 0),(2,.ptr 1 0),(3,.ptr 2 0),(4,iv i)],[some (.box (cF (cT t))),some (.box (cF (cT aL))),some (.box [.d (.str t.name),.acc 3]),some (.acc 34 (aP (t.kids.take i)))]⟩) (fun(i:Nat)=> t.kids.length-i) (0) ?_ (aw [some 0,some 1,some 2,none] ?_ ?_ rfl rfl) ?_
 rotate_left
 ·refine sB ?_
  all_goals(first|done|(simp[aq, *];done)|(simp[aq];done)|(simp;omega)|skip)
 ·refine sB ?_
  all_goals(first|done|(simp[aq, *];done)|(simp[aq];done)|(simp;omega)|skip)
 rotate_left
 ·omega
 ·rintro i hi
  rcases aa (i<t.kids.length) with h1|h1
  ·try simp -implicitDefEqProofs only[go_sem,Z1,Z2,Z3,Z4,h1]
   refine sI ?_
   have hc:=ih t.kids[i] (ak h1)
   refine aD [] hc ?_
   refine sJ ?_
   refine⟨i+1,?_,sL,aw [some 0,some 1,some 2,some 4] ?_ ?_ rfl rfl⟩
   rotate_left
   ·refine sB ?_
    all_goals(first|done|(exact pK h1)|(simp[aq, *];done)|(simp[aq];done)|(simp;omega)|skip)
   ·refine sB ?_
    all_goals(first|done|(exact pK h1)|(simp[aq, *];done)|(simp[aq];done)|(simp;omega)|skip)
   exact h1
  ·have et:t.kids.take i=t.kids:=ao (by omega)
   try simp -implicitDefEqProofs only[go_sem,Z1,Z2,Z3,Z4,h1,et]
   refine sI ?_
   refine an ?_
   refine sB ?_
   all_goals(first|done|(simp;done)|(simp;omega)|skip)
theorem gF:∀t,C E.P 60 [av (cT t)] [] (bM (av (cT t)) []):=
 Term.ind fun n ks ih=>GV (.mk n ks) ih
theorem cL(ts:List Term)(t:Term):C E.P 130 [lv (aP ts),av (cT t)] [] (bM (iv (bL ts t)) []):=by
 refine gT (nt:=19) (rs:=[.tmp 4]) hm Tryz.func130 fun hl he cI=>?_
 refine aO hm (fun(i:Nat)=> i≤ts.length∧bL ts t=fX (fun u=>decide (t=u)) (ts.drop i) i) (fun(i:Nat)=> ⟨dB 19 .any [(0,lv (aP ts)),(3,.ptr 0 0),(5,iv i)],[some (.box (cF (cT t)))]⟩) (fun(i:Nat)=> ts.length-i) (0) ?_ (aw [some 0] ?_ ?_ rfl rfl) ?_
 rotate_left
 ·refine sB ?_
  all_goals(first|done|(simp[aq, *];done)|(simp[aq];done)|(simp;omega)|skip)
 ·refine sB ?_
  all_goals(first|done|(simp[aq, *];done)|(simp[aq];done)|(simp;omega)|skip)
 rotate_left
 ·simp[bL,idxOf]
 ·rintro i ⟨hi,hg⟩
  rcases aa (i<ts.length) with h1|h1
  ·rw[aj h1,fX] at hg
   try simp -implicitDefEqProofs only[go_sem,Z1,Z2,Z3,Z4,h1]
   refine sI ?_
   refine aD [] (nz ts[i] t) ?_
   refine sI ?_
   rcases aa (ts[i]=t) with h2|h2
   ·have k:=eq_true h2
    simp only[h2,decide_true,if_true] at hg
    try simp -implicitDefEqProofs only[go_sem,Z1,Z2,Z3,Z4,k]
    refine sI ?_
    refine an ?_
    refine sB ?_
    all_goals(first|done|(simp[hg];done)|(simp[hg];omega)|skip)
   ·have h3:¬t=ts[i]:=fun h=>h2 h.symm
    simp only[h3,decide_false,ax,if_false] at hg
    try simp -implicitDefEqProofs only[go_sem,Z1,Z2,Z3,Z4,h2]
    refine sJ ?_
    refine⟨i+1,?_,sL,aw [some 0] ?_ ?_ rfl rfl⟩
    rotate_left
    ·refine sB ?_
     all_goals(first|done|(simp[aq, *];done)|(simp[aq];done)|(simp;omega)|skip)
    ·refine sB ?_
     all_goals(first|done|(simp[aq, *];done)|(simp[aq];done)|(simp;omega)|skip)
    exact⟨by omega,by rw[hg];rfl⟩
  ·rw[al (by omega),fX] at hg
   try simp -implicitDefEqProofs only[go_sem,Z1,Z2,Z3,Z4,h1]
   refine sI ?_
   refine an ?_
   refine sB ?_
   all_goals(first|done|(simp[hg];done)|(simp[hg];omega)|skip)
theorem DH(t:Term)(ih:∀k∈t.kids,∀(d:Nat)(l:List Term),d≤4→bK k d=true→l.length≤999000+15*(4-d)→C E.P 194 [.acc 0,av (cT k)] [some (.acc 34 (aP l))] (bM (.acc 1) [some .dead,some (.acc 34 (aP (dh l k)))]))(d:Nat)(l:List Term)
 (hd:d≤4) (hsh:bK t d=true) (hl1:l.length≤999000+15*(4-d)) :
 C E.P 194 [.acc 0,av (cT t)] [some (.acc 34 (aP l))] (bM (.acc 1) [some .dead,some (.acc 34 (aP (dh l t)))]):=by
 cases d with
 | zero=>cases t;simp[bK] at hsh
 | succ d=>
 have hk:=nY hsh
 have hle:=fun i=>yC (l:=l) hsh (by omega) i
 refine gT (nt:=30) (rs:=[.tmp 4]) hm Tryz.func194 fun hl he cI=>?_
 refine aO hm (fun(i:Nat)=> i≤t.kids.length) (fun(i:Nat)=> ⟨dB 30 .any [(0,.acc 2),(3,.ptr 1 0),(5,iv i)],[some .dead,some (.box (cF (cT t))),some (.acc 34 (aP (ba l (t.kids.take i))))]⟩) (fun(i:Nat)=> t.kids.length-i) (0) ?_ (aw [some 0,some 1,some 0] ?_ ?_ rfl rfl) ?_
 rotate_left
 ·refine sB ?_
  all_goals(first|done|(simp only[ba])|(simp[aq, *];done)|(simp[aq];done)|(simp;omega)|skip)
 ·refine sB ?_
  all_goals(first|done|(simp only[ba])|(simp[aq, *];done)|(simp[aq];done)|(simp;omega)|skip)
 rotate_left
 ·omega
 ·rintro i hi
  rcases aa (i<t.kids.length) with h1|h1
  ·try simp -implicitDefEqProofs only[go_sem,Z1,Z2,Z3,Z4,h1]
   refine sI ?_
   have hc:=ih t.kids[i] (ak h1) d (ba l (t.kids.take i)) (by omega) (n7 hk.2.2 _ (ak h1)) (by have:=hle i;omega)
   refine oD [] [2,3] hc ?_
   refine sJ ?_
   refine⟨i+1,?_,sL,aw [some 0,some 1,some 3] ?_ ?_ rfl rfl⟩
   rotate_left
   ·refine sB ?_
    all_goals(first|done|(simp only[qH h1])|(simp[aq, *];done)|(simp[aq];done)|(simp;omega)|skip)
   ·refine sB ?_
    all_goals(first|done|(simp only[qH h1])|(simp[aq, *];done)|(simp[aq];done)|(simp;omega)|skip)
   exact h1
  ·have e:t.kids.take i=t.kids:=ao (by omega)
   have h2:=hle i
   rw[e] at h2
   try simp -implicitDefEqProofs only[go_sem,Z1,Z2,Z3,Z4,h1,e]
   refine sI ?_
   refine dN [] [2] (cL (ba l t.kids) t) rfl ?_ ?_ ?_
   ·exact sV
   all_goals simp -implicitDefEqProofs only[go_sem,Z1,Z2,Z3,Z4]
   refine sI ?_
   rcases aa (0≤bL (ba l t.kids) t) with hx|hx
   ·have hx':¬bL (ba l t.kids) t<0:=by omega
    try simp -implicitDefEqProofs only[go_sem,Z1,Z2,Z3,Z4,hx]
    refine sI ?_
    refine bX [some 0,some 2] ?_ rfl rfl
    refine sB ?_
    rw[rf,if_neg hx']
   ·have hx':bL (ba l t.kids) t<0:=by omega
    try simp -implicitDefEqProofs only[go_sem,Z1,Z2,Z3,Z4,hx]
    refine sI ?_
    refine aD [] (gF t) ?_
    refine sJ ?_
    refine bX [some 0,some 3] ?_ rfl rfl
    refine sB ?_
    rw[rf,if_pos hx',←lV,dM,lW]
    rfl
theorem GJ:∀(t:Term)(d:Nat)(l:List Term),d≤4→bK t d=true→l.length≤999000+15*(4-d)→C E.P 194 [.acc 0,av (cT t)] [some (.acc 34 (aP l))] (bM (.acc 1) [some .dead,some (.acc 34 (aP (dh l t)))]):=
 Term.ind fun n ks ih d l h1 h2 h3=>DH (.mk n ks) ih d l h1 h2 h3
theorem CI:∀(xs:List ni)(x:ni),jS (xs++[x])=if xs=[] then x else jS xs++(44::x)
 | [],x=>by simp[jS]
 | [a],x=>by simp[jS]
 | a::b::xs,x=>by
   have:=CI (b::xs) x
   simp only[bz] at this
   simp[jS,this]
def oB(t:Term)(i:Nat):ni:=match i with
 | 0=>t.name
 | i+1=>t.name++(40::jS ((t.kids.take (i+1)).map aN))
theorem CP{t:Term}{i:Nat}(h:i<t.kids.length):oB t (i+1)=oB t i++((if i=0 then [40] else [44])++aN t.kids[i]):=by
 have e:(t.kids.take (i+1)).map aN=(t.kids.take i).map aN++[aN t.kids[i]]:=by
  rw[ph h,List.map_append];rfl
 cases i with
 | zero=>
   simp only[oB,e,List.take_zero,List.map_nil,List.nil_append,jS,if_true]
   rfl
 | succ i=>
   have jv:¬ (t.kids.take (i+1)).map aN=[]:=by
    intro hh
    have hz:t.kids.take (i+1)=[]:=by simpa using hh
    have hz2:(t.kids.take (i+1)).length=0:=by rw[hz];rfl
    rw[List.length_take] at hz2
    omega
   simp only[oB,e,CI,jv,if_false]
   simp
theorem zO{t:Term}(h:t.kids≠[]):aN t=oB t t.kids.length++[41]:=by
 rw[xj t h,←vS]
 match hk:t.kids.length,h with
 | 0,h=>exact absurd (gx.1 hk) h
 | n+1,_=>
   have hk':t.kids.take (n+1)=t.kids:=ao (by omega)
   simp only[oB,hk']
   simp
theorem NV{t:Term}{d:Nat}(h:bK t d=true)(hd:d≤4)(i:Nat)(hi:i≤t.kids.length):(oB t i).length≤122:=by
 have key:∀k,i+k≤t.kids.length→(oB t i).length≤(oB t (i+k)).length:=by
  intro k
  induction k with
  | zero=>intro _;exact aI _
  | succ k ih=>
    intro hk
    have h1:=ih (by omega)
    rw[←Nat.add_assoc,CP (by omega)]
    simp only[aX]
    omega
 have h1:=key (t.kids.length-i) (by omega)
 rw[show i+(t.kids.length-i)=t.kids.length by omega] at h1
 have h2:=uO h hd
 rcases aa (t.kids=[]) with hk|hk
 ·rw[ve t hk] at h2
  have hi0:i=0:=by rw[hk] at hi;simpa using hi
  subst hi0
  simp only[oB]
  omega
 ·rw[zO hk] at h2
  simp only[aX,a8,List.length_nil] at h2
  omega
theorem EI(t:Term)(ih:∀k∈t.kids,∀d:Nat,d≤4→bK k d=true→C E.P 256 [av (cT k)] [] (bM (sv (aN k)) []))(d:Nat)(hd:d≤4)(hsh:bK t d=true) :
 C E.P 256 [av (cT t)] [] (bM (sv (aN t)) []):=by
 cases d with
 | zero=>cases t;simp[bK] at hsh
 | succ d=>
 have hk:=nY hsh
 have dy:=fun i hi=>NV hsh hd i hi
 refine gT (nt:=34) (rs:=[.tmp 2]) hm Tryz.func256 fun hl he cI=>?_
 refine aO hm (fun(i:Nat)=> i≤t.kids.length) (fun(i:Nat)=> ⟨dB 34 .any [(1,.ptr 0 0),(3,sv (oB t i)),(4,iv i)],[some (.box (cF (cT t)))]⟩) (fun(i:Nat)=> t.kids.length-i) (0) ?_ (aw [some 0] ?_ ?_ rfl rfl) ?_
 rotate_left
 ·refine sB ?_
  all_goals(first|done|(simp[oB])|(simp[aq, *];done)|(simp[aq];done)|(simp;omega)|skip)
 ·refine sB ?_
  all_goals(first|done|(simp[oB])|(simp[aq, *];done)|(simp[aq];done)|(simp;omega)|skip)
 rotate_left
 ·omega
 ·rintro i hi
  rcases aa (i<t.kids.length) with h1|h1
  ·have hsk:=n7 hk.2.2 _ (ak h1)
   have b1:=uO hsk (by omega)
   have b2:=dy i hi
   have hc:=ih t.kids[i] (ak h1) d (by omega) hsk
   have ju:=CP h1
   try simp -implicitDefEqProofs only[go_sem,Z1,Z2,Z3,Z4,h1]
   refine sI ?_
   cases i with
   | zero=>
     try simp -implicitDefEqProofs only[go_sem,Z1,Z2,Z3,Z4,h1]
     refine sJ ?_
     refine aD [] hc ?_
     refine sJ ?_
     refine⟨0+1,?_,sL,aw [some 0] ?_ ?_ rfl rfl⟩
     rotate_left
     ·refine sB ?_
      all_goals(first|done|((rw[ju];simp))|(simp[aq, *];done)|(simp[aq];done)|(simp;omega)|skip)
     ·refine sB ?_
      all_goals(first|done|((rw[ju];simp))|(simp[aq, *];done)|(simp[aq];done)|(simp;omega)|skip)
     exact h1
   | succ i=>
     have e1:¬ (i:Int)+1=0:=by omega
     have et:((i:Int)+1).toNat=i+1:=by omega
     try simp -implicitDefEqProofs only[go_sem,Z1,Z2,Z3,Z4,e1,et,h1]
     refine sJ ?_
     refine aD [] hc ?_
     refine sJ ?_
     refine⟨i+1+1,?_,sL,aw [some 0] ?_ ?_ rfl rfl⟩
     rotate_left
     ·refine sB ?_
      all_goals(first|done|((rw[ju];simp))|(simp[aq, *];done)|(simp[aq];done)|(simp;omega)|skip)
     ·refine sB ?_
      all_goals(first|done|((rw[ju];simp))|(simp[aq, *];done)|(simp[aq];done)|(simp;omega)|skip)
     exact h1
  ·have hi2:i=t.kids.length:=by omega
   subst hi2
   have b2:=dy _ (aI _)
   rcases aa ((0:Int)<(t.kids.length:Int)) with h3|h3
   ·have jv:t.kids≠[]:=by
     intro hh
     rw[hh] at h3
     simp at h3
    try simp -implicitDefEqProofs only[go_sem,Z1,Z2,Z3,Z4,h1,h3]
    refine sJ ?_
    refine an ?_
    refine sB ?_
    all_goals(first|done|(simp[zO jv];done)|(simp[zO jv];omega)|skip)
   ·have jv:t.kids=[]:=gx.1 (by omega)
    have e:oB t t.kids.length=aN t:=by rw[ve t jv,jv];rfl
    try simp -implicitDefEqProofs only[go_sem,Z1,Z2,Z3,Z4,h1,h3]
    refine sI ?_
    refine an ?_
    refine sB ?_
    all_goals(first|done|(simp[e];done)|(simp[e];omega)|skip)
theorem lU:∀(t:Term)(d:Nat),d≤4→bK t d=true→C E.P 256 [av (cT t)] [] (bM (sv (aN t)) []):=
 Term.ind fun n ks ih d h1 h2=>EI (.mk n ks) ih d h1 h2
theorem iJ(t:Term)(h:isTerm t=true):C E.P 256 [av (cT t)] [] (bM (sv (aN t)) []):=lU t 4 (by omega) (iC h)
theorem ER(l:List Term)(xs ys:List Term):ba l (xs++ys)=ba (ba l xs) ys:=by
 rw[gg,gg,gg,List.foldl_append]
theorem qL:∀(ts l:List Term),(∀t∈ts,isTerm t=true)→(ba l ts).length≤l.length+15*ts.length
 | [],l,_=>by simp[ba]
 | t::ts,l,h=>by
   have h1:=Bg (l:=l) (iC (h t (by simp))) (by omega)
   have h2:=qL ts (dh l t) fun x hx=>h x (by simp[hx])
   simp only[ba,a8]
   omega
end Go.Proofs.YtabembjmeobhoaaGreat
