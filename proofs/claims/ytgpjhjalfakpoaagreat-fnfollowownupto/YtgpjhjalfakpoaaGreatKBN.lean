/-
  The walks of literals: their terms, equations and sums. A step towards the exact laws.
-/
import Derived.Test.YtgpjhjalfakpoaaGreatKBI
set_option linter.unusedVariables false
set_option linter.unusedSimpArgs false
open And renaming intro→ay
open Classical renaming em→aa
open List renaming getElem_mem→ah,take_add_one→bu,take_succ_cons→cw,filter_cons→dg,drop_drop→mi
namespace Go.Proofs.YtgpjhjalfakpoaaGreat
open Go.Eng Go.Mod
open Int renaming reduceEq→Z1,reduceLT→Z2,reduceLE→Z3,reduceToNat→Z4
set_option maxRecDepth 100000
set_option maxHeartbeats 800000
theorem ph(xs:List Term)(hx:xs.length≤1000)(mr:∀t∈xs,isTerm t=true):C E.P 82 [lv (aQ xs)] [] (bw (.acc 0) [some (.acc 28 (aQ (jq xs)))]):=by
 refine gS (nt:=20) (rs:=[.tmp 2]) hm Tryz.func82 fun hl he cp=>?_
 refine pr hm (fun(i:Nat) (out:List Term)=> i≤xs.length∧jq xs=kA (xs.drop i) out∧out.length≤15*i) (fun(i:Nat) (out:List Term)=> ⟨eQ 20 .any [(3,.acc 0),(6,lv (aQ xs)),(7,iv xs.length),(8,iv i)],[some (.acc 28 (aQ out))]⟩) (fun(i:Nat) (out:List Term)=> xs.length-i) (0) ([]) ?_ (ax [none] ?_ ?_ rfl rfl) ?_
 rotate_left
 ·exact sC
 ·exact sC
 rotate_left
 ·simp[jq]
 ·rintro i out ⟨hi,hg,ho⟩
  rcases aa (i<xs.length) with h1|h1
  ·have h2:=mr xs[i] (ah h1)
   rw[Bx h1 h2] at hg
   have hs:=iJ h2
   have hle:=sZ (l:=out) hs (by omega)
   refine uA ?_
   refine aC [] (iD xs[i]) ?_
   refine uB ?_
   refine oC [] [0,2] (tE xs[i] 4 out (by omega) hs (by omega)) ?_
   refine sQ ?_
   refine⟨i+1,cW out xs[i],?_,sL,ax [some 2] ?_ ?_ rfl rfl⟩
   rotate_left
   ·exact sC
   ·exact sC
   exact⟨by omega,hg,by omega⟩
  ·rw[List.drop_of_length_le (by omega),kA] at hg
   refine uA ?_
   refine bh [some 0] ?_ rfl rfl
   refine sA ?_
   rw[hg]
theorem oN(bb:List fB)(hl1:bb.length≤100)(hw:∀l∈bb,bW l.atom=true):C E.P 42 [lv (cH bb)] [] (bw (.acc 0) [some (.acc 28 (aQ (e7 bb)))]):=by
 obtain⟨hle,kC⟩:=iq hw
 refine gS (nt:=20) (rs:=[.tmp 2]) hm Tryz.func42 fun hl he cp=>?_
 refine aI hm (fun(i:Nat)=> i≤bb.length) (fun(i:Nat)=> ⟨eQ 20 .any [(3,.acc 0),(6,lv (cH bb)),(7,iv bb.length),(8,iv i)],[some (.acc 28 (aQ (eH (bb.take i))))]⟩) (fun(i:Nat)=> bb.length-i) (0) ?_ (ax [none] ?_ ?_ rfl rfl) ?_
 rotate_left
 ·exact sC
 ·refine sA ?_
  all_goals(rfl)
 rotate_left
 ·omega
 ·rintro i hi
  rcases aa (i<bb.length) with h1|h1
  ·have h2:=iq (bb:=bb.take i) fun l hl=>hw l (List.mem_of_mem_take hl)
   have h3:=lB (hw bb[i] (ah h1))
   have h4:(bb.take i).length≤100:=by simp;omega
   refine uA ?_
   refine aC [] (sT bb[i].atom) ?_
   refine sQ ?_
   refine⟨i+1,?_,sL,ax [some 2] ?_ ?_ rfl rfl⟩
   rotate_left
   ·exact sC
   ·refine sA ?_
    all_goals((rw[qz h1,←iw]))
   exact h1
  ·have e:bb.take i=bb:=List.take_of_length_le (by omega)
   simp -implicitDefEqProofs only[go_sem,h1,e]
   refine oC [] [0,1] (MT (e:=28) (rest:=[]) rfl (ph (eH bb) (by omega) kC)) ?_
   refine bh [some 1] ?_ rfl rfl
   refine sA ?_
   rfl
theorem og(s:eJ)(t:Term):C E.P 84 [av (cT t),.di [dc s] 0 0] [] (bw (bv (!cg s t)) []):=by
 refine gS (nt:=8) (rs:=[.tmp 3]) hm Tryz.func84 fun hl he cp=>?_
 refine aC [] (oz s t) ?_
 refine ak ?_
 exact sC
theorem G8{a:List Term}{i:Nat}(h:i<a.length)(v:Term):(aQ a).set i (pB (row (aQ a) i) 0 (cT v))=aQ (a.set i v):=by
 have e:pB (row (aQ a) i) 0 (cT v)=cT v:=by
  rw[tF h]
  simp[pB,cT]
 rw[e,iy,iy,List.map_set]
theorem wD{p:Term→Bool}:∀{xs:List Term}{i:Int},0≤i→(cL p xs i = -1∧xs.filter (fun t=>!p t)=xs)∨∃j:Nat,cL p xs i=i+j∧j<xs.length∧(xs.take (j+1)).filter (fun t=>!p t)=xs.take j
 | [],i,_=>.inl (by simp[cL])
 | x::xs,i,h=>by
   simp only[cL]
   cases hx:p x with
   | true=>
     refine .inr ⟨0,?_,by simp,by simp[hx]⟩
     simp
   | false=>
     simp only[Bool.false_eq_true,if_false]
     rcases wD (p:=p) (xs:=xs) (i:=i+1) (by omega) with⟨h1,h2⟩|⟨j,h1,h2,h3⟩
     ·exact .inl ⟨h1,by simp[hx,h2]⟩
     ·refine .inr ⟨j+1,by rw[h1];omega,by simp;omega,?_⟩
      rw[cw,dg,cw,h3]
      simp[hx]
theorem rG(s:eJ)(xs:List Term)(hl1:xs.length≤10000):C E.P 83 [.acc 0,.fn 84 [.ptr 1 0]] [some (.acc 28 (aQ xs)),some (.box (ff (dc s)))] (bw (lv (aQ (xs.filter (cg s)))) [some .dead,some (.box (ff (dc s)))]):=by
 have cp:LB=1099511627776:=rfl
 refine Ah (nt:=42) (rs:=[.tmp 4]) Tryz.func83 rfl rfl rfl rfl rfl (fun hl he=>?_)
 simp -implicitDefEqProofs only[go_sem] at hl he⊢
 refine iz (lu hm ?_)
 simp -implicitDefEqProofs only[go_sem,fp,fb]
 refine iz (lu hm ?_)
 refine sA ?_
 refine ja [] [0,1] (j5 84 [.di [dc s] 0 0] rfl (fun t=>!cg s t) xs (fun t _=>og s t)) rfl ?_ ?_ ?_
 ·exact sV
 all_goals simp -implicitDefEqProofs only[go_sem]
 simp -implicitDefEqProofs only[go_sem,fp,fb]
 rcases wD (p:=fun t=>!cg s t) (xs:=xs) (i:=0) (by omega) with⟨h1,h2⟩|⟨j0,h1,h2,h3⟩
 ·have e:idxOf (fun t=>!cg s t) xs = -1:=h1
  rw[e]
  refine iz (lu hm ?_)
  simp -implicitDefEqProofs only[go_sem,fp,vW]
  refine⟨_,z7 4 0 28 (aQ xs) rfl rfl,?_⟩
  have e2:xs.filter (cg s)=xs:=by simpa using h2
  rw[e2]
  refine bh [some 0,some 1] ?_ rfl rfl
  refine sA ?_
  all_goals simp
 ·have e:idxOf (fun t=>!cg s t) xs=(j0:Int):=by rw[idxOf,h1];omega
  rw[e]
  have n1:¬ (j0:Int) = -1:=by omega
  refine iz (lu hm ?_)
  simp -implicitDefEqProofs only[go_sem,fp,fb,n1]
  refine iz (lu hm ?_)
  refine sA ?_
  refine sQ ?_
  refine kL hm (fun(i:Nat) (j:Nat) (a:List Term)=> i≤j∧j≤xs.length∧a.length=xs.length∧a.take i=(xs.take j).filter (cg s)∧a.drop j=xs.drop j) (fun(i:Nat) (j:Nat) (a:List Term)=> ⟨eQ 42 .any [(0,.acc 0),(1,.fn 84 [.ptr 1 0]),(5,iv i),(6,iv j)],[some (.acc 28 (aQ a)),some (.box (ff (dc s)))]⟩) (fun(i:Nat) (j:Nat) (a:List Term)=> xs.length-j) (j0) (j0+1) (xs) ?_ (ax [some 0,some 1] ?_ ?_ rfl rfl) ?_
  rotate_left
  ·exact sC
  ·exact sC
  rotate_left
  ·exact⟨by omega,by omega,rfl,by simpa using h3.symm,rfl⟩
  ·rintro i j a ⟨hij,hj,hal,ht,hd⟩
   rcases aa (j<xs.length) with h1|h1
   ·have h1a:j<a.length:=by omega
    have hia:i<a.length:=by omega
    have hx:a[j]=xs[j]:=by
     have h4:(a.drop j)[0]?=(xs.drop j)[0]?:=by rw[hd]
     simpa[h1,h1a] using h4
    have hf:(xs.take (j+1)).filter (cg s)=(xs.take j).filter (cg s)++(if cg s xs[j] then [xs[j]] else []):=by
     rw[bu,List.getElem?_eq_getElem h1,List.filter_append]
     congr 1
     simp[dg]
    simp -implicitDefEqProofs only[go_sem,h1a]
    refine ja [.ptr 1 0] [1] (og s a[j]) rfl ?_ ?_ ?_
    ·exact sV
    all_goals simp -implicitDefEqProofs only[go_sem]
    rw[hx]
    cases h4:cg s xs[j]
    ·rw[h4] at hf
     refine sA ?_
     refine ay (by omega) ?_
     refine⟨i,j+1,a,?_,sL,ax [some 0,some 1] ?_ ?_ rfl rfl⟩
     rotate_left
     ·exact sC
     ·exact sC
     refine⟨by omega,by omega,hal,by rw[hf,ht];simp,?_⟩
     have h5:=congrArg (List.drop 1) hd
     simpa[mi] using h5
    ·rw[h4] at hf
     simp -implicitDefEqProofs only[go_sem,hia]
     have hset:(aQ a).set i (pB [D.str a[i].name,D.b7 (aQ a[i].kids)] 0 [D.str xs[j].name,D.b7 (aQ xs[j].kids)])=aQ (a.set i xs[j]):=by
      have h5:=G8 hia xs[j]
      rw[tF hia] at h5
      exact h5
     refine ay (by omega) (ay (by omega) ?_)
     refine⟨i+1,j+1,a.set i xs[j],?_,sL,ax [some 0,some 1] ?_ ?_ rfl rfl⟩
     rotate_left
     ·exact sC
     ·refine sA ?_
      all_goals(exact hset)
     refine⟨by omega,by omega,by simp[hal],?_,?_⟩
     ·rw[hf,←ht,bu]
      simp[hia,List.take_set_of_le]
     ·have h5:=congrArg (List.drop 1) hd
      rw[List.drop_set_of_lt (by omega)]
      simpa[mi] using h5
   ·simp -implicitDefEqProofs only[go_sem,h1,hal]
    simp only[fp,fb]
    have hjn:j=xs.length:=by omega
    refine iz (CL ?_)
    refine wh (yQ.plain rfl (Bn _)) (wh (yQ.plain rfl (Bn _)) ?_)
    refine sA ?_
    refine M6 (t:=26) (e:=28) (k:=0) (m:=(i:Int)) (xs:=aQ a) [.str [],.b7 []] _ _ rfl rfl rfl rfl ?_ ?_ ?_ (by omega) (by rw[lJ];omega) ?_ ?_
    ·exact sC
    ·exact sC
    ·exact sC
    ·simp only[sY]
     omega
    refine Jn ?_
    simp -implicitDefEqProofs only[go_sem,fb]
    refine lu hm ?_
    refine sA ?_
    refine mC (Ki (.tmp 39) (.tmp 40) 26 28 0 _ _ (Ca [.str [],.b7 []] (aQ a) i) (i:Int) rfl rfl rfl ?_ ?_ ?_ (by omega) (by rw[LC _ _ _ (by rw[lJ];omega),lJ];omega)) ?_
    ·exact sC
    ·exact sC
    ·exact sC
    simp -implicitDefEqProofs only[go_sem,fp]
    refine iu ?_
    refine bh [some 0,some 1] ?_ rfl rfl
    refine sA ?_
    rw[JO _ _ _ (by rw[lJ];omega),Ek,ht,hjn,List.take_length]
theorem zg(s:eJ)(bb:List fB)(hl1:bb.length≤100)(hw:∀l∈bb,bW l.atom=true):C E.P 43 [av (dc s),lv (cH bb)] [] (bw (lv (aQ (oT s bb))) []):=by
 have hn:(e7 bb).length≤10000:=by
  obtain⟨hle,kC⟩:=iq hw
  have h1:=kT (eH bb) [] kC
  rw[qU,mV kC]
  simp only[List.length_nil] at h1
  omega
 have e:(e7 bb).filter (cg s)=oT s bb:=rfl
 refine gS (nt:=9) (rs:=[.tmp 4]) hm Tryz.func43 fun hl he cp=>?_
 refine oC [] [1] (oN bb hl1 hw) ?_
 have hcall:=rG s (e7 bb) hn
 rw[e] at hcall
 refine bT [] [1,0] hcall ?_ ?_
 ·refine sA ?_
  rfl
 refine sA ?_
 refine ak ?_
 exact sC
end Go.Proofs.YtgpjhjalfakpoaaGreat
