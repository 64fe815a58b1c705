/-
  The program: the walks of lists of formulas. A step towards the exact laws.
-/
import Derived.Test.YtgpjhjalfakpoaaGreatKAd
set_option linter.unusedVariables false
set_option linter.unusedSimpArgs false
open Classical renaming em→aa
namespace Go.Proofs.YtgpjhjalfakpoaaGreat
open Go.Eng Go.Mod
open Int renaming reduceEq→Z1,reduceLT→Z2,reduceLE→Z3,reduceToNat→Z4
set_option maxRecDepth 100000
set_option maxHeartbeats 800000
theorem jw(list:List Mod.Form):C E.P 23 [lv (a7 list)] [] (bB (.gL [lv (aK ((bZ list).getD [])),bv (bZ list).isSome]) []):=by
 have e:=mA list
 refine gS (nt:=27) (rs:=[.tmp 2,.tmp 3]) hm Tryz.func23 fun hl he cx=>?_
 rcases aa ((5:Int)<(list.length:Int)) with h0|h0
 ·rw[if_neg (fun hh=>by have:=hh.1;omega)] at e
  simp -implicitDefEqProofs only[go_sem,h0]
  refine al ?_
  refine sA ?_
  rw[e]
  exact⟨rfl,rfl⟩
 ·have h0':list.length≤5:=by omega
  simp -implicitDefEqProofs only[go_sem,h0]
  refine aG hm (fun(i:Nat)=> i≤list.length∧list.all eC=(list.drop i).all eC∧(∀f∈list.take i,eC f=true)) (fun(i:Nat)=> ⟨eE 27 .any [(4,.acc 0),(10,lv (a7 list)),(11,iv list.length),(12,iv i)],[some (.acc 31 (aK (aS [] (list.take i))))]⟩) (fun(i:Nat)=> list.length-i) (0) ?_ (ax [none] ?_ ?_ rfl rfl) ?_
  rotate_left
  ·exact sC
  ·refine sA ?_
   all_goals(simp[aS,aK])
  rotate_left
  ·simp
  ·rintro i ⟨hi,hg,hp⟩
   have hl2:(list.take i).length=i:=by rw[List.length_take];omega
   have b1:=mR (list.take i) [] hp
   simp only[List.length_nil] at b1
   rcases aa (i<list.length) with h1|h1
   ·rw[List.drop_eq_getElem_cons h1,List.all_cons] at hg
    refine uA ?_
    refine aC [] (pO list[i]) ?_
    cases h2:eC list[i]
    ·rw[h2,Bool.false_and] at hg
     rw[if_neg (fun hh=>by rw[hh.2.1] at hg;cases hg)] at e
     refine sA ?_
     refine al ?_
     refine sA ?_
     rw[e]
     exact⟨rfl,rfl⟩
    ·rw[h2,Bool.true_and] at hg
     have hs:=eL h2
     refine sA ?_
     refine oC [] [0,2] (nd list[i] 5 (aS [] (list.take i)) hs.1 (by omega)) ?_
     refine sQ ?_
     refine⟨i+1,?_,sL,ax [some 2] ?_ ?_ rfl rfl⟩
     rotate_left
     ·exact sC
     ·refine sA ?_
      all_goals(simp only[fm h1])
     refine⟨by omega,hg,fun f hf=>?_⟩
     rw[eW h1] at hf
     rcases List.mem_append.1 hf with hf|hf
     ·exact hp f hf
     ·simp only[List.mem_cons,List.not_mem_nil,or_false] at hf
      rw[hf];exact h2
   ·have et:list.take i=list:=List.take_of_length_le (by omega)
    rw[List.drop_of_length_le (by omega),List.all_nil] at hg
    rw[et] at b1
    rcases aa ((6:Int)<((aS [] list).length:Int)) with h3|h3
    ·rw[if_neg (fun hh=>by have:=hh.2.2;omega)] at e
     simp -implicitDefEqProofs only[go_sem,h1,et,h3]
     refine al ?_
     refine sA ?_
     rw[e]
     exact⟨rfl,rfl⟩
    ·rw[if_pos ⟨h0',hg,by omega⟩] at e
     simp -implicitDefEqProofs only[go_sem,h1,et,h3]
     refine al ?_
     refine sA ?_
     rw[e]
     exact⟨rfl,rfl⟩
theorem wc(s:eD)(list:List Mod.Form):C E.P 10 [av (c8 s),lv (a7 list)] [] (bB (bv (iG s list)) []):=by
 refine gS (nt:=23) (rs:=[.tmp 4]) hm Tryz.func10 fun hl he cx=>?_
 refine aC [] (jw list) ?_
 refine aC [] (k9 s) ?_
 cases h1:dp s
 ·have e2:iG s list=false:=by unfold iG;split<;>simp[h1]
  refine sA ?_
  refine iK ?_
  refine al ?_
  refine sA ?_
  all_goals(simp[e2];done)
 ·cases h2:bZ list with
  | none=>
    have e2:iG s list=false:=by unfold iG;rw[h2]
    refine uK ?_
    refine iK ?_
    refine al ?_
    refine sA ?_
    all_goals(simp[e2];done)
  | some xs=>
    have e2:iG s list=fN s (plain xs):=by unfold iG;rw[h2,h1];rfl
    have db:xs.length≤6:=by
     have e:=mA list
     rw[h2] at e
     rcases aa (list.length≤5∧list.all eC=true∧(aS [] list).length≤6) with hc|hc
     ·rw[if_pos hc] at e
      rw[Option.some.inj e];exact hc.2.2
     ·rw[if_neg hc] at e;cases e
    refine uL ?_
    refine aC [] (qZ xs (by omega)) ?_
    refine aC [] (qa s (plain xs)) ?_
    refine iK ?_
    refine al ?_
    refine sA ?_
    all_goals(simp[e2];done)
end Go.Proofs.YtgpjhjalfakpoaaGreat
