/-
  The program: the walks of lists of formulas. A step towards the exact laws.
-/
import Derived.Test.YtgpjhjalfakpoaaGreatKBd
set_option linter.unusedVariables false
set_option linter.unusedSimpArgs false
open Classical renaming em→aa
namespace Go.Proofs.YtgpjhjalfakpoaaGreat
open Go.Eng Go.Mod
open Int renaming reduceEq→Z1,reduceLT→Z2,reduceLE→Z3,reduceToNat→Z4
set_option maxRecDepth 100000
set_option maxHeartbeats 800000
theorem jF(list:List Mod.Form):C E.P 23 [lv (aN list)] [] (bw (.gN [lv (aJ ((bS list).getD [])),bv (bS list).isSome]) []):=by
 have e:=iG list
 refine gS (nt:=27) (rs:=[.tmp 2,.tmp 3]) hm Tryz.func23 fun hl he cp=>?_
 rcases aa ((5:Int)<(list.length:Int)) with h0|h0
 ·rw[if_neg (fun hh=>by have:=hh.1;omega)] at e
  simp -implicitDefEqProofs only[go_sem,h0]
  refine ak ?_
  refine sA ?_
  rw[e]
  exact⟨rfl,rfl⟩
 ·have h0':list.length≤5:=by omega
  simp -implicitDefEqProofs only[go_sem,h0]
  refine aI hm (fun(i:Nat)=> i≤list.length∧list.all dI=(list.drop i).all dI∧(∀f∈list.take i,dI f=true)) (fun(i:Nat)=> ⟨eQ 27 .any [(4,.acc 0),(10,lv (aN list)),(11,iv list.length),(12,iv i)],[some (.acc 31 (aJ (aH [] (list.take i))))]⟩) (fun(i:Nat)=> list.length-i) (0) ?_ (ax [none] ?_ ?_ rfl rfl) ?_
  rotate_left
  ·exact sC
  ·refine sA ?_
   all_goals(simp[aH,aJ])
  rotate_left
  ·simp
  ·rintro i ⟨hi,hg,hp⟩
   have hl2:(list.take i).length=i:=by rw[List.length_take];omega
   have b1:=jZ (list.take i) [] hp
   simp only[List.length_nil] at b1
   rcases aa (i<list.length) with h1|h1
   ·rw[List.drop_eq_getElem_cons h1,List.all_cons] at hg
    refine uA ?_
    refine aC [] (y7 list[i]) ?_
    cases h2:dI list[i]
    ·rw[h2,Bool.false_and] at hg
     rw[if_neg (fun hh=>by rw[hh.2.1] at hg;cases hg)] at e
     refine sA ?_
     refine ak ?_
     refine sA ?_
     rw[e]
     exact⟨rfl,rfl⟩
    ·rw[h2,Bool.true_and] at hg
     have hs:=fJ h2
     refine sA ?_
     refine oC [] [0,2] (nq list[i] 5 (aH [] (list.take i)) hs.1 (by omega)) ?_
     refine sQ ?_
     refine⟨i+1,?_,sL,ax [some 2] ?_ ?_ rfl rfl⟩
     rotate_left
     ·exact sC
     ·refine sA ?_
      all_goals(simp only[eV h1])
     refine⟨by omega,hg,fun f hf=>?_⟩
     rw[fl h1] at hf
     rcases List.mem_append.1 hf with hf|hf
     ·exact hp f hf
     ·simp only[List.mem_cons,List.not_mem_nil,or_false] at hf
      rw[hf];exact h2
   ·have et:list.take i=list:=List.take_of_length_le (by omega)
    rw[List.drop_of_length_le (by omega),List.all_nil] at hg
    rw[et] at b1
    rcases aa ((6:Int)<((aH [] list).length:Int)) with h3|h3
    ·rw[if_neg (fun hh=>by have:=hh.2.2;omega)] at e
     simp -implicitDefEqProofs only[go_sem,h1,et,h3]
     refine ak ?_
     refine sA ?_
     rw[e]
     exact⟨rfl,rfl⟩
    ·rw[if_pos ⟨h0',hg,by omega⟩] at e
     simp -implicitDefEqProofs only[go_sem,h1,et,h3]
     refine ak ?_
     refine sA ?_
     rw[e]
     exact⟨rfl,rfl⟩
theorem oW(s:eJ)(list:List Mod.Form):C E.P 10 [av (dc s),lv (aN list)] [] (bw (bv (eS s list)) []):=by
 refine gS (nt:=23) (rs:=[.tmp 4]) hm Tryz.func10 fun hl he cp=>?_
 refine aC [] (jF list) ?_
 refine aC [] (lp s) ?_
 cases h1:dm s
 ·have e2:eS s list=false:=by unfold eS;split<;>simp[h1]
  refine sA ?_
  refine iK ?_
  refine ak ?_
  refine sA ?_
  all_goals(simp[e2];done)
 ·cases h2:bS list with
  | none=>
    have e2:eS s list=false:=by unfold eS;rw[h2]
    refine uK ?_
    refine iK ?_
    refine ak ?_
    refine sA ?_
    all_goals(simp[e2];done)
  | some xs=>
    have e2:eS s list=fQ s (plain xs):=by unfold eS;rw[h2,h1];rfl
    have cZ:xs.length≤6:=by
     have e:=iG list
     rw[h2] at e
     rcases aa (list.length≤5∧list.all dI=true∧(aH [] list).length≤6) with hc|hc
     ·rw[if_pos hc] at e
      rw[Option.some.inj e];exact hc.2.2
     ·rw[if_neg hc] at e;cases e
    refine uL ?_
    refine aC [] (AW xs (by omega)) ?_
    refine aC [] (zn s (plain xs)) ?_
    refine iK ?_
    refine ak ?_
    refine sA ?_
    all_goals(simp[e2];done)
end Go.Proofs.YtgpjhjalfakpoaaGreat
