/-
  The reference: the walks of lists of formulas. A step towards the exact laws.
-/
import Derived.Test.YtgpjhjalfakpoaaGreatKBf
set_option linter.unusedVariables false
set_option linter.unusedSimpArgs false
open Classical renaming em→aa
open List renaming all_eq_true→bz
namespace Go.Proofs.YtgpjhjalfakpoaaGreat
open Go.Eng Go.Mod
open Int renaming reduceEq→Z1,reduceLT→Z2,reduceLE→Z3,reduceToNat→Z4
set_option maxRecDepth 100000
set_option maxHeartbeats 800000
theorem pt(list:List Mod.Form)(mr:∀f∈list,dI f=true)(cZ:list.length≤5):C E.P 33 [lv (aN list)] [] (bw (lv (aJ (aH [] list))) []):=by
 refine gS (nt:=19) (rs:=[.tmp 2]) hm Tryz.func33 fun hl he cp=>?_
 refine aI hm (fun(i:Nat)=> i≤list.length) (fun(i:Nat)=> ⟨eQ 19 .any [(0,lv (aN list)),(3,.acc 0),(4,iv i)],[some (.acc 31 (aJ (aH [] (list.take i))))]⟩) (fun(i:Nat)=> list.length-i) (0) ?_ (ax [some 0] ?_ ?_ rfl rfl) ?_
 rotate_left
 ·exact sC
 ·refine sA ?_
  all_goals(simp[aH,aJ])
 rotate_left
 ·omega
 ·rintro i hi
  have hl2:(list.take i).length=i:=by rw[List.length_take];omega
  have b1:=jZ (list.take i) [] (fun f hf=>mr f (List.mem_of_mem_take hf))
  simp only[List.length_nil] at b1
  rcases aa (i<list.length) with h1|h1
  ·have hs:=fJ (mr list[i] (List.getElem_mem h1))
   refine uA ?_
   refine oC [] [0,1] (o5 list[i] 5 (aH [] (list.take i)) hs.1 (by omega)) ?_
   refine sQ ?_
   refine⟨i+1,?_,sL,ax [some 1] ?_ ?_ rfl rfl⟩
   rotate_left
   ·exact sC
   ·refine sA ?_
    all_goals(simp only[eV h1])
   exact h1
  ·have e:list.take i=list:=List.take_of_length_le (by omega)
   simp -implicitDefEqProofs only[go_sem,h1,e]
   refine ak ?_
   exact sC
theorem vG(list:List Mod.Form):C E.P 32 [lv (aN list)] [] (bw (bv (bS list).isSome) []):=by
 have e:=iG list
 refine gS (nt:=25) (rs:=[.tmp 2]) hm Tryz.func32 fun hl he cp=>?_
 refine aI hm (fun(i:Nat)=> i≤list.length∧list.all dI=(list.drop i).all dI) (fun(i:Nat)=> ⟨eQ 25 .any [(0,lv (aN list)),(3,iv i)],[]⟩) (fun(i:Nat)=> list.length-i) (0) ?_ (ax [] ?_ ?_ rfl rfl) ?_
 rotate_left
 ·exact sC
 ·exact sC
 rotate_left
 ·simp
 ·rintro i ⟨hi,hg⟩
  rcases aa (i<list.length) with h1|h1
  ·rw[List.drop_eq_getElem_cons h1,List.all_cons] at hg
   refine uA ?_
   refine aC [] (wQ list[i]) ?_
   cases h2:dI list[i]
   ·rw[h2,Bool.false_and] at hg
    rw[if_neg (fun hh=>by rw[hh.2.1] at hg;cases hg)] at e
    refine sA ?_
    refine ak ?_
    refine sA ?_
    all_goals(simp[e];done)
   ·rw[h2,Bool.true_and] at hg
    refine sA ?_
    refine sQ ?_
    refine⟨i+1,?_,sL,ax [] ?_ ?_ rfl rfl⟩
    rotate_left
    ·exact sC
    ·exact sC
    exact⟨by omega,hg⟩
  ·rw[List.drop_of_length_le (by omega),List.all_nil] at hg
   have mr:∀f∈list,dI f=true:=bz.1 hg
   refine uA ?_
   rcases aa ((list.length:Int)≤5) with h3|h3
   ·have h3':list.length≤5:=by omega
    refine uC ?_
    refine aC [] (pt list mr h3') ?_
    rcases aa ((aH [] list).length≤6) with h4|h4
    ·have h4':((aH [] list).length:Int)≤6:=by omega
     rw[if_pos ⟨h3',hg,h4⟩] at e
     refine ak ?_
     refine sA ?_
     rw[e]
     simp only[h4',decide_true]
     rfl
    ·have h4':¬ ((aH [] list).length:Int)≤6:=by omega
     rw[if_neg (fun hh=>h4 hh.2.2)] at e
     refine ak ?_
     refine sA ?_
     rw[e]
     simp only[h4',decide_false]
     rfl
   ·have h3':¬list.length≤5:=by omega
    rw[if_neg (fun hh=>h3' hh.1)] at e
    refine uC ?_
    refine ak ?_
    refine sA ?_
    all_goals(simp[e];done)
theorem yt(s:eJ)(list:List Mod.Form):C E.P 11 [av (dc s),lv (aN list)] [] (bw (bv (eS s list)) []):=by
 have e:=iG list
 refine gS (nt:=18) (rs:=[.tmp 4]) hm Tryz.func11 fun hl he cp=>?_
 refine aC [] (nO s) ?_
 cases h1:dm s
 ·have e2:eS s list=false:=by unfold eS;split<;>simp[h1]
  refine sA ?_
  refine iK ?_
  refine ak ?_
  refine sA ?_
  all_goals(simp[e2];done)
 ·refine sA ?_
  refine aC [] (vG list) ?_
  cases h2:bS list with
  | none=>
    have e2:eS s list=false:=by unfold eS;rw[h2]
    simp -implicitDefEqProofs only[go_sem,Option.isSome_none]
    refine iK ?_
    refine ak ?_
    refine sA ?_
    all_goals(simp[e2];done)
  | some xs=>
    rw[h2] at e
    rcases aa (list.length≤5∧list.all dI=true∧(aH [] list).length≤6) with hc|hc
    ·rw[if_pos hc] at e
     have e3:xs=aH [] list:=Option.some.inj e
     have e2:eS s list=fQ s (plain (aH [] list)):=by unfold eS;rw[h2,h1,e3];rfl
     simp -implicitDefEqProofs only[go_sem,Option.isSome_some]
     refine aC [] (pt list (bz.1 hc.2.1) hc.1) ?_
     refine aC [] (y8 (aH [] list) (by omega)) ?_
     refine aC [] (qf s (plain (aH [] list))) ?_
     refine iK ?_
     refine ak ?_
     refine sA ?_
     all_goals(simp[e2];done)
    ·rw[if_neg hc] at e
     cases e
end Go.Proofs.YtgpjhjalfakpoaaGreat
