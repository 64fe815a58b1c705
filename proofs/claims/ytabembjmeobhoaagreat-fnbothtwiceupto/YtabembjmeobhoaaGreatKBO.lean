/-
  The walk of certificates. A step towards the exact laws.
-/
import Derived.Test.YtabembjmeobhoaaGreatKBN
set_option linter.unusedVariables false
set_option linter.unusedSimpArgs false
open Classical renaming em→aa
namespace Go.Proofs.YtabembjmeobhoaaGreat
open Go.Eng Go.Mod
open Int renaming reduceEq→Z1,reduceLT→Z2,reduceLE→Z3,reduceToNat→Z4
set_option maxRecDepth 100000
set_option maxHeartbeats 800000
theorem He(s:dE)(ab:List bp):C E.P 14 [av (dZ s),lv (a6 ab)] [] (bM (bv (eZ s ab)) []):=by
 refine gS (nt:=38) (rs:=[.tmp 4]) hm Tryz.func14 fun hl he cI=>?_
 refine aC [] (qX s) ?_
 cases h1:fH s
 ·refine sA ?_
  refine an ?_
  refine sA ?_
  all_goals(simp[eZ,h1];done)
 ·refine sA ?_
  rcases aa ((6:Int)<(ab.length:Int)) with h2|h2
  ·have h2':¬ab.length≤6:=by omega
   simp -implicitDefEqProofs only[go_sem,h2]
   refine an ?_
   refine sA ?_
   all_goals(simp[eZ,h2'];done)
  ·have h2':ab.length≤6:=by omega
   simp -implicitDefEqProofs only[go_sem,h2]
   refine aO hm (fun(i:Nat)=> i≤ab.length∧ab.all (fun l=>fa s l.atom)=(ab.drop i).all (fun l=>fa s l.atom)) (fun(i:Nat)=> ⟨dB 38 .any [(1,lv (a6 ab)),(2,.ptr 0 0),(15,lv (a6 ab)),(16,iv ab.length),(17,iv i)],[some (.box (cF (dZ s)))]⟩) (fun(i:Nat)=> ab.length-i) (0) ?_ (aw [some 0] ?_ ?_ rfl rfl) ?_
   rotate_left
   ·exact sC
   ·exact sC
   rotate_left
   ·simp
   ·rintro i ⟨hi,hg⟩
    rcases aa (i<ab.length) with h3|h3
    ·rw[List.drop_eq_getElem_cons h3,List.all_cons] at hg
     simp -implicitDefEqProofs only[go_sem,h3]
     refine aC [] (ye s ab[i].atom) ?_
     cases h4:fa s ab[i].atom
     ·rw[h4,Bool.false_and] at hg
      refine sA ?_
      refine an ?_
      refine sA ?_
      all_goals(simp[eZ,hg];done)
     ·rw[h4,Bool.true_and] at hg
      refine sA ?_
      refine sQ ?_
      refine⟨i+1,?_,sL,aw [some 0] ?_ ?_ rfl rfl⟩
      rotate_left
      ·exact sC
      ·exact sC
      exact⟨by omega,hg⟩
    ·rw[List.drop_of_length_le (by omega),List.all_nil] at hg
     have hw:∀l∈ab,cJ l.atom=true:=by
      intro l hl
      have:=List.all_eq_true.1 hg l hl
      simp only[fa,Bool.and_eq_true] at this
      exact this.2.1
     simp -implicitDefEqProofs only[go_sem,h3]
     refine oC [] [1] (wS ab (by omega) hw) ?_
     rcases aa (((aA ab).length:Int)≤24) with h5|h5
     ·have h5':(aA ab).length≤24:=by omega
      simp -implicitDefEqProofs only[go_sem,h5]
      refine aC [] (yi s ab (by omega) hw) ?_
      refine an ?_
      refine sA ?_
      have e:decide (((numsOf s ab).length:Int)≤4)=decide ((numsOf s ab).length≤4):=decide_eq_decide.2 (by omega)
      simp[eZ,h1,h2',hg,h5',e]
     ·have h5':¬ (aA ab).length≤24:=by omega
      simp -implicitDefEqProofs only[go_sem,h5]
      refine an ?_
      refine sA ?_
      all_goals(simp[eZ,h5'];done)
end Go.Proofs.YtabembjmeobhoaaGreat
