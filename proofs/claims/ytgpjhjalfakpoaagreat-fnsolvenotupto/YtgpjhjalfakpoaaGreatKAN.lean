/-
  The walks of literals: their terms, equations and sums. A step towards the exact laws.
-/
import Derived.Test.YtgpjhjalfakpoaaGreatKAI
set_option linter.unusedVariables false
set_option linter.unusedSimpArgs false
open And renaming intro→aH
open Classical renaming em→aa
open List renaming getElem_mem→ai,take_add_one→br,take_succ_cons→cm,filter_cons→c7,drop_drop→lV
namespace Go.Proofs.YtgpjhjalfakpoaaGreat
open Go.Eng Go.Mod
open Int renaming reduceEq→Z1,reduceLT→Z2,reduceLE→Z3,reduceToNat→Z4
set_option maxRecDepth 100000
set_option maxHeartbeats 800000
theorem oM(xs:List Term)(hx:xs.length≤1000)(pa:∀t∈xs,isTerm t=true):C E.P 82 [lv (aN xs)] [] (bB (.acc 0) [some (.acc 28 (aN (jd xs)))]):=by
 refine gS (nt:=20) (rs:=[.tmp 2]) hm Tryz.func82 fun hl he cx=>?_
 refine o5 hm (fun(i:Nat) (out:List Term)=> i≤xs.length∧jd xs=j5 (xs.drop i) out∧out.length≤15*i) (fun(i:Nat) (out:List Term)=> ⟨eE 20 .any [(3,.acc 0),(6,lv (aN xs)),(7,iv xs.length),(8,iv i)],[some (.acc 28 (aN out))]⟩) (fun(i:Nat) (out:List Term)=> xs.length-i) (0) ([]) ?_ (ax [none] ?_ ?_ rfl rfl) ?_
 rotate_left
 ·exact sC
 ·exact sC
 rotate_left
 ·simp[jd]
 ·rintro i out ⟨hi,hg,ho⟩
  rcases aa (i<xs.length) with h1|h1
  ·have h2:=pa xs[i] (ai h1)
   rw[A6 h1 h2] at hg
   have hs:=im h2
   have hle:=rZ (l:=out) hs (by omega)
   refine uA ?_
   refine aC [] (ix xs[i]) ?_
   refine uB ?_
   refine oC [] [0,2] (tb xs[i] 4 out (by omega) hs (by omega)) ?_
   refine sQ ?_
   refine⟨i+1,cQ out xs[i],?_,sL,ax [some 2] ?_ ?_ rfl rfl⟩
   rotate_left
   ·exact sC
   ·exact sC
   exact⟨by omega,hg,by omega⟩
  ·rw[List.drop_of_length_le (by omega),j5] at hg
   refine uA ?_
   refine bu [some 0] ?_ rfl rfl
   refine sA ?_
   rw[hg]
theorem ow(bb:List fh)(hl1:bb.length≤100)(hw:∀l∈bb,bT l.atom=true):C E.P 42 [lv (cE bb)] [] (bB (.acc 0) [some (.acc 28 (aN (eJ bb)))]):=by
 obtain⟨hle,kG⟩:=hQ hw
 refine gS (nt:=20) (rs:=[.tmp 2]) hm Tryz.func42 fun hl he cx=>?_
 refine aG hm (fun(i:Nat)=> i≤bb.length) (fun(i:Nat)=> ⟨eE 20 .any [(3,.acc 0),(6,lv (cE bb)),(7,iv bb.length),(8,iv i)],[some (.acc 28 (aN (eu (bb.take i))))]⟩) (fun(i:Nat)=> bb.length-i) (0) ?_ (ax [none] ?_ ?_ rfl rfl) ?_
 rotate_left
 ·exact sC
 ·refine sA ?_
  all_goals(rfl)
 rotate_left
 ·omega
 ·rintro i hi
  rcases aa (i<bb.length) with h1|h1
  ·have h2:=hQ (bb:=bb.take i) fun l hl=>hw l (List.mem_of_mem_take hl)
   have h3:=lb (hw bb[i] (ai h1))
   have h4:(bb.take i).length≤100:=by simp;omega
   refine uA ?_
   refine aC [] (rE bb[i].atom) ?_
   refine sQ ?_
   refine⟨i+1,?_,sL,ax [some 2] ?_ ?_ rfl rfl⟩
   rotate_left
   ·exact sC
   ·refine sA ?_
    all_goals((rw[p9 h1,←hU]))
   exact h1
  ·have e:bb.take i=bb:=List.take_of_length_le (by omega)
   simp -implicitDefEqProofs only[go_sem,h1,e]
   refine oC [] [0,1] (Mm (e:=28) (rest:=[]) rfl (oM (eu bb) (by omega) kG)) ?_
   refine bu [some 1] ?_ rfl rfl
   refine sA ?_
   rfl
theorem n7(s:eD)(t:Term):C E.P 84 [av (cT t),.da [c8 s] 0 0] [] (bB (bv (!cd s t)) []):=by
 refine gS (nt:=8) (rs:=[.tmp 3]) hm Tryz.func84 fun hl he cx=>?_
 refine aC [] (nR s t) ?_
 refine al ?_
 exact sC
theorem Gg{a:List Term}{i:Nat}(h:i<a.length)(v:Term):(aN a).set i (o0 (row (aN a) i) 0 (cT v))=aN (a.set i v):=by
 have e:o0 (row (aN a) i) 0 (cT v)=cT v:=by
  rw[s5 h]
  simp[o0,cT]
 rw[e,ia,ia,List.map_set]
theorem wy{p:Term→Bool}:∀{xs:List Term}{i:Int},0≤i→(cI p xs i = -1∧xs.filter (fun t=>!p t)=xs)∨∃j:Nat,cI p xs i=i+j∧j<xs.length∧(xs.take (j+1)).filter (fun t=>!p t)=xs.take j
 | [],i,_=>.inl (by simp[cI])
 | x::xs,i,h=>by
   simp only[cI]
   cases hx:p x with
   | true=>
     refine .inr ⟨0,?_,by simp,by simp[hx]⟩
     simp
   | false=>
     simp only[Bool.false_eq_true,if_false]
     rcases wy (p:=p) (xs:=xs) (i:=i+1) (by omega) with⟨h1,h2⟩|⟨j,h1,h2,h3⟩
     ·exact .inl ⟨h1,by simp[hx,h2]⟩
     ·refine .inr ⟨j+1,by rw[h1];omega,by simp;omega,?_⟩
      rw[cm,c7,cm,h3]
      simp[hx]
theorem rL(s:eD)(xs:List Term)(hl1:xs.length≤10000):C E.P 83 [.acc 0,.fn 84 [.ptr 1 0]] [some (.acc 28 (aN xs)),some (.box (eZ (c8 s)))] (bB (lv (aN (xs.filter (cd s)))) [some .dead,some (.box (eZ (c8 s)))]):=by
 have cx:LB=1099511627776:=rfl
 refine zp (nt:=42) (rs:=[.tmp 4]) Tryz.func83 rfl rfl rfl rfl rfl (fun hl he=>?_)
 simp -implicitDefEqProofs only[go_sem] at hl he⊢
 refine ic (kT hm ?_)
 simp -implicitDefEqProofs only[go_sem,e9,eO]
 refine ic (kT hm ?_)
 refine sA ?_
 refine iO [] [0,1] (jL 84 [.da [c8 s] 0 0] rfl (fun t=>!cd s t) xs (fun t _=>n7 s t)) rfl ?_ ?_ ?_
 ·exact sV
 all_goals simp -implicitDefEqProofs only[go_sem]
 simp -implicitDefEqProofs only[go_sem,e9,eO]
 rcases wy (p:=fun t=>!cd s t) (xs:=xs) (i:=0) (by omega) with⟨h1,h2⟩|⟨j0,h1,h2,h3⟩
 ·have e:idxOf (fun t=>!cd s t) xs = -1:=h1
  rw[e]
  refine ic (kT hm ?_)
  simp -implicitDefEqProofs only[go_sem,e9,vz]
  refine⟨_,y0 4 0 28 (aN xs) rfl rfl,?_⟩
  have e2:xs.filter (cd s)=xs:=by simpa using h2
  rw[e2]
  refine bu [some 0,some 1] ?_ rfl rfl
  refine sA ?_
  all_goals simp
 ·have e:idxOf (fun t=>!cd s t) xs=(j0:Int):=by rw[idxOf,h1];omega
  rw[e]
  have n1:¬ (j0:Int) = -1:=by omega
  refine ic (kT hm ?_)
  simp -implicitDefEqProofs only[go_sem,e9,eO,n1]
  refine ic (kT hm ?_)
  refine sA ?_
  refine sQ ?_
  refine lP hm (fun(i:Nat) (j:Nat) (a:List Term)=> i≤j∧j≤xs.length∧a.length=xs.length∧a.take i=(xs.take j).filter (cd s)∧a.drop j=xs.drop j) (fun(i:Nat) (j:Nat) (a:List Term)=> ⟨eE 42 .any [(0,.acc 0),(1,.fn 84 [.ptr 1 0]),(5,iv i),(6,iv j)],[some (.acc 28 (aN a)),some (.box (eZ (c8 s)))]⟩) (fun(i:Nat) (j:Nat) (a:List Term)=> xs.length-j) (j0) (j0+1) (xs) ?_ (ax [some 0,some 1] ?_ ?_ rfl rfl) ?_
  rotate_left
  ·exact sC
  ·exact sC
  rotate_left
  ·exact⟨by omega,by omega,rfl,by simpa using h3.symm,rfl⟩
  ·rintro i j a ⟨hij,hj,hal,ht,hd⟩
   rcases aa (j<xs.length) with h1|h1
   ·have h1a:j<a.length:=by omega
    have hia:i<a.length:=by omega
    have hx:a[j]=xs[j]:=by
     have h4:(a.drop j)[0]?=(xs.drop j)[0]?:=by rw[hd]
     simpa[h1,h1a] using h4
    have hf:(xs.take (j+1)).filter (cd s)=(xs.take j).filter (cd s)++(if cd s xs[j] then [xs[j]] else []):=by
     rw[br,List.getElem?_eq_getElem h1,List.filter_append]
     congr 1
     simp[c7]
    simp -implicitDefEqProofs only[go_sem,h1a]
    refine iO [.ptr 1 0] [1] (n7 s a[j]) rfl ?_ ?_ ?_
    ·exact sV
    all_goals simp -implicitDefEqProofs only[go_sem]
    rw[hx]
    cases h4:cd s xs[j]
    ·rw[h4] at hf
     refine sA ?_
     refine aH (by omega) ?_
     refine⟨i,j+1,a,?_,sL,ax [some 0,some 1] ?_ ?_ rfl rfl⟩
     rotate_left
     ·exact sC
     ·exact sC
     refine⟨by omega,by omega,hal,by rw[hf,ht];simp,?_⟩
     have h5:=congrArg (List.drop 1) hd
     simpa[lV] using h5
    ·rw[h4] at hf
     simp -implicitDefEqProofs only[go_sem,hia]
     have hset:(aN a).set i (o0 [D.str a[i].name,D.bX (aN a[i].kids)] 0 [D.str xs[j].name,D.bX (aN xs[j].kids)])=aN (a.set i xs[j]):=by
      have h5:=Gg hia xs[j]
      rw[s5 hia] at h5
      exact h5
     refine aH (by omega) (aH (by omega) ?_)
     refine⟨i+1,j+1,a.set i xs[j],?_,sL,ax [some 0,some 1] ?_ ?_ rfl rfl⟩
     rotate_left
     ·exact sC
     ·refine sA ?_
      all_goals(exact hset)
     refine⟨by omega,by omega,by simp[hal],?_,?_⟩
     ·rw[hf,←ht,br]
      simp[hia,List.take_set_of_le]
     ·have h5:=congrArg (List.drop 1) hd
      rw[List.drop_set_of_lt (by omega)]
      simpa[lV] using h5
   ·simp -implicitDefEqProofs only[go_sem,h1,hal]
    simp only[e9,eO]
    have hjn:j=xs.length:=by omega
    refine ic (Bm ?_)
    refine vu (ya.plain rfl (AW _)) (vu (ya.plain rfl (AW _)) ?_)
    refine sA ?_
    refine Ml (t:=26) (e:=28) (k:=0) (m:=(i:Int)) (xs:=aN a) [.str [],.bX []] _ _ rfl rfl rfl rfl ?_ ?_ ?_ (by omega) (by rw[lk];omega) ?_ ?_
    ·exact sC
    ·exact sC
    ·exact sC
    ·simp only[rG]
     omega
    refine GR ?_
    simp -implicitDefEqProofs only[go_sem,eO]
    refine kT hm ?_
    refine sA ?_
    refine l8 (Ju (.tmp 39) (.tmp 40) 26 28 0 _ _ (Ck [.str [],.bX []] (aN a) i) (i:Int) rfl rfl rfl ?_ ?_ ?_ (by omega) (by rw[Jp _ _ _ (by rw[lk];omega),lk];omega)) ?_
    ·exact sC
    ·exact sC
    ·exact sC
    simp -implicitDefEqProofs only[go_sem,e9]
    refine hY ?_
    refine bu [some 0,some 1] ?_ rfl rfl
    refine sA ?_
    rw[IW _ _ _ (by rw[lk];omega),Dn,ht,hjn,List.take_length]
theorem ym(s:eD)(bb:List fh)(hl1:bb.length≤100)(hw:∀l∈bb,bT l.atom=true):C E.P 43 [av (c8 s),lv (cE bb)] [] (bB (lv (aN (oN s bb))) []):=by
 have hn:(eJ bb).length≤10000:=by
  obtain⟨hle,kG⟩:=hQ hw
  have h1:=kv (eu bb) [] kG
  rw[qx,mB kG]
  simp only[List.length_nil] at h1
  omega
 have e:(eJ bb).filter (cd s)=oN s bb:=rfl
 refine gS (nt:=9) (rs:=[.tmp 4]) hm Tryz.func43 fun hl he cx=>?_
 refine oC [] [1] (ow bb hl1 hw) ?_
 have hcall:=rL s (eJ bb) hn
 rw[e] at hcall
 refine b7 [] [1,0] hcall ?_ ?_
 ·refine sA ?_
  rfl
 refine sA ?_
 refine al ?_
 exact sC
end Go.Proofs.YtgpjhjalfakpoaaGreat
