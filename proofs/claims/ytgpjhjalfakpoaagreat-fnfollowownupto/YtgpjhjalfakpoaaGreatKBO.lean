/-
  The walk of certificates. A step towards the exact laws.
-/
import Derived.Test.YtgpjhjalfakpoaaGreatKBN
set_option linter.unusedVariables false
set_option linter.unusedSimpArgs false
open Classical renaming em→aa
namespace Go.Proofs.YtgpjhjalfakpoaaGreat
open Go.Eng Go.Mod
open Int renaming reduceEq→Z1,reduceLT→Z2,reduceLE→Z3,reduceToNat→Z4
set_option maxRecDepth 100000
set_option maxHeartbeats 800000
theorem zn(s:eJ)(bb:List fB):C E.P 16 [av (dc s),lv (cH bb)] [] (bw (bv (fQ s bb)) []):=by
 refine gT (nt:=38) (rs:=[.tmp 4]) hm Tryz.func16 fun hl he cp=>?_
 refine aD [] (lp s) ?_
 refine sI ?_
 cases h1:dm s
 ·try simp -implicitDefEqProofs only[go_sem,Z1,Z2,Z3,Z4]
  refine sI ?_
  refine ak ?_
  refine sB ?_
  all_goals(first|done|(simp[fQ,h1];done)|(simp[fQ,h1];omega)|skip)
 ·try simp -implicitDefEqProofs only[go_sem,Z1,Z2,Z3,Z4]
  refine sI ?_
  rcases aa ((6:Int)<(bb.length:Int)) with h2|h2
  ·have h2':¬bb.length≤6:=by omega
   try simp -implicitDefEqProofs only[go_sem,Z1,Z2,Z3,Z4,h2]
   refine sI ?_
   refine ak ?_
   refine sB ?_
   all_goals(first|done|(simp[fQ,h2'];done)|(simp[fQ,h2'];omega)|skip)
  ·have h2':bb.length≤6:=by omega
   try simp -implicitDefEqProofs only[go_sem,Z1,Z2,Z3,Z4,h2]
   refine sI ?_
   refine aI hm (fun(i:Nat)=> i≤bb.length∧bb.all (fun l=>fa s l.atom)=(bb.drop i).all (fun l=>fa s l.atom)) (fun(i:Nat)=> ⟨eQ 38 .any [(1,lv (cH bb)),(2,.ptr 0 0),(15,lv (cH bb)),(16,iv bb.length),(17,iv i)],[some (.box (ff (dc s)))]⟩) (fun(i:Nat)=> bb.length-i) (0) ?_ (ax [some 0] ?_ ?_ rfl rfl) ?_
   rotate_left
   ·refine sB ?_
    all_goals(try exact sM)
   ·refine sB ?_
    all_goals(try exact sM)
   rotate_left
   ·simp
   ·rintro i ⟨hi,hg⟩
    rcases aa (i<bb.length) with h3|h3
    ·rw[List.drop_eq_getElem_cons h3,List.all_cons] at hg
     try simp -implicitDefEqProofs only[go_sem,Z1,Z2,Z3,Z4,h3]
     refine sI ?_
     refine aD [] (yZ s bb[i].atom) ?_
     refine sI ?_
     cases h4:fa s bb[i].atom
     ·rw[h4,Bool.false_and] at hg
      try simp -implicitDefEqProofs only[go_sem,Z1,Z2,Z3,Z4]
      refine sI ?_
      refine ak ?_
      refine sB ?_
      all_goals(first|done|(simp[fQ,hg];done)|(simp[fQ,hg];omega)|skip)
     ·rw[h4,Bool.true_and] at hg
      try simp -implicitDefEqProofs only[go_sem,Z1,Z2,Z3,Z4]
      refine sJ ?_
      refine⟨i+1,?_,sL,ax [some 0] ?_ ?_ rfl rfl⟩
      rotate_left
      ·refine sB ?_
       all_goals(try exact sM)
      ·refine sB ?_
       all_goals(try exact sM)
      exact⟨by omega,hg⟩
    ·rw[List.drop_of_length_le (by omega),List.all_nil] at hg
     have hw:∀l∈bb,bW l.atom=true:=by
      intro l hl
      have:=List.all_eq_true.1 hg l hl
      simp only[fa,Bool.and_eq_true] at this
      exact this.2.1
     try simp -implicitDefEqProofs only[go_sem,Z1,Z2,Z3,Z4,h3]
     refine sI ?_
     refine oD [] [1] (oN bb (by omega) hw) ?_
     refine sI ?_
     rcases aa (((e7 bb).length:Int)≤24) with h5|h5
     ·have h5':(e7 bb).length≤24:=by omega
      try simp -implicitDefEqProofs only[go_sem,Z1,Z2,Z3,Z4,h5]
      refine sI ?_
      refine aD [] (zg s bb (by omega) hw) ?_
      refine sI ?_
      refine ak ?_
      refine sB ?_
      have e:decide (((oT s bb).length:Int)≤4)=decide ((oT s bb).length≤4):=decide_eq_decide.2 (by omega)
      simp[fQ,h1,h2',hg,h5',e]
     ·have h5':¬ (e7 bb).length≤24:=by omega
      try simp -implicitDefEqProofs only[go_sem,Z1,Z2,Z3,Z4,h5]
      refine sI ?_
      refine ak ?_
      refine sB ?_
      all_goals(first|done|(simp[fQ,h5'];done)|(simp[fQ,h5'];omega)|skip)
end Go.Proofs.YtgpjhjalfakpoaaGreat
