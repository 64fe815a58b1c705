/-
  The law FnBothEqs, walked: whatever it is given, it answers yes. A step towards the law.
-/
import Derived.Test.YtpidddienjoleaaGreatKCze
import Derived.Test.YtpidddienjoleaaGreatKCzj
import Derived.Test.YtpidddienjoleaaGreatKCzi
set_option linter.unusedVariables false
set_option linter.unusedSimpArgs false
namespace Go.Proofs.YtpidddienjoleaaGreat
open Go.Eng Go.Mod
open Int renaming reduceEq→Z1,reduceLT→Z2,reduceLE→Z3,reduceToNat→Z4
set_option maxRecDepth 100000
set_option maxHeartbeats 3200000
theorem y3(b:List Int)(hb:∀x∈b,0≤x∧x≤255):C E.P 4 [lv (IU b)] [] (aM (bv true) []):=by
 refine gS (nt:=124) (rs:=[.tmp 2]) hm Tryz.func4 fun hl he hLB=>?_
 rcases Classical.em ((1048576:Int)<(b.length:Int)) with h0|h0
 ·simp -implicitDefEqProofs only[go_sem,h0]
  refine ab ?_
  exact sC
 ·have cD:=qV b hb (by omega)
  generalize CT (b.take 2000)=g at cD
  obtain⟨s,lits⟩:=g
  simp only at cD
  have c1:=wW s lits
  have c2:=xG s lits
  have cr:=xU LD s lits
  have hyes:(gU s lits).code=0→cQ s (gU s lits).model lits=true:=Ks
  generalize gU s lits=r at cr hyes
  simp -implicitDefEqProofs only[go_sem,h0]
  refine aC [] cD ?_
  refine aC [] c1 ?_
  refine aC [] c2 ?_
  refine aC [] cr ?_
  obtain⟨es,hes⟩:∃es,jK s lits=es:=⟨_,rfl⟩
  rw[hes]
  refine al hm (fun(i:Nat)=> i≤es.length) (fun(i:Nat)=> ⟨bW 124 .any [(3,.ptr 0 0),(5,lv (bj es)),(6,lv (bj es)),(7,.ptr 1 0),(9,iv r.code),(10,iv i)],[some (.box (bn (bw s))),some (.box (bn (dX r.model)))]⟩) (fun(i:Nat)=> es.length-i) (0) ?_ (ah [some 0,some 1] ?_ ?_ rfl rfl) ?_
  rotate_left
  ·exact sC
  ·exact sC
  rotate_left
  ·omega
  ·rintro i hi
   rcases Classical.em (i<es.length) with h1|h1
   ·have hok:bO s lits=true:=by
     cases hok:bO s lits with
     | true=>rfl
     | false=>rw[jK,hok] at hes;rw[←hes] at h1;simp at h1
    have hes':aB lits=es:=by rw[←hes,jK,hok];rfl
    have hm:es[i]∈aB lits:=by rw[hes'];exact List.getElem_mem h1
    have h6:es.length≤6:=by rw[←hes'];exact uN hok
    obtain⟨sA,sB⟩:=FX hok hm
    obtain⟨ht,h24⟩:=GW hok hm
    have cS:=zo s (aB lits) es[i].A es[i].B (L4 hok) (fun t h=>by
     simp only[List.mem_cons,List.not_mem_nil,or_false] at h
     rcases h with rfl|rfl
     ·exact sA
     ·exact sB) ht h24
    have hin:∀e∈aB lits,e.A∈aH (bA (aB lits)++[es[i].A,es[i].B])∧e.B∈aH (bA (aB lits)++[es[i].A,es[i].B]):=fun e he=>
     ⟨ct ht _ (List.mem_append_left _ (gI.2 ⟨e,he,.inl rfl⟩)),ct ht _ (List.mem_append_left _ (gI.2 ⟨e,he,.inr rfl⟩))⟩
    rw[EY hin hm,hes'] at cS
    have tA:=dK es[i].A es[i].A
    have tB:=dK es[i].B es[i].B
    rw[decide_eq_true rfl] at tA tB
    have mA:=ji s r.model es[i].A
    have mB:=ji s r.model es[i].B
    rw[sA,Bool.true_and] at mA
    rw[sB,Bool.true_and] at mB
    simp -implicitDefEqProofs only[go_sem,h1]
    refine ck [] tA ?_ ?_<;>simp -implicitDefEqProofs only[go_sem,h1]
    refine ck [] tB ?_ ?_<;>simp -implicitDefEqProofs only[go_sem,h1]
    refine iK ?_
    rcases Classical.em (r.code=0) with h9|h9
    ·obtain⟨hmo,hv⟩:=EB hok (hyes h9) hm
     rw[hmo,if_pos rfl] at mA mB
     rw[←hv] at mB
     have k9:=eq_true h9
     refine ck [] mA ?_ ?_<;>simp -implicitDefEqProofs only[go_sem,h1]
     refine iK ?_
     refine aC [] mB ?_
     refine iK ?_
     simp -implicitDefEqProofs only[go_sem,k9]
     refine Nk (by kernel_rfl) (a:=(value r.model es[i].A).N) (b:=(value r.model es[i].A).D) (c:=(value r.model es[i].A).N) (e:=(value r.model es[i].A).D) (by simp -implicitDefEqProofs only[go_sem]) (by simp -implicitDefEqProofs only[go_sem]) ?_
     have ep:ij (value r.model es[i].A).N (value r.model es[i].A).D (value r.model es[i].A).N (value r.model es[i].A).D=true:=by simp[ij]
     simp -implicitDefEqProofs only[go_sem,ep,h1]
     refine aC [] cS ?_
     refine iK ?_
     repeat(with_reducible apply And.intro;exact sO)
     refine⟨i+1,?_,?_,ah [some 0,some 1] ?_ ?_ rfl rfl⟩
     rotate_left
     ·show _ < _
      omega
     ·exact sC
     ·exact sC
     exact h1
    ·generalize (if b9 s r.model=true then value r.model es[i].A else⟨0,0⟩)=x at mA
     generalize (if b9 s r.model=true then value r.model es[i].B else⟨0,0⟩)=y at mB
     refine ck [] mA ?_ ?_<;>simp -implicitDefEqProofs only[go_sem,h1]
     refine iK ?_
     refine aC [] mB ?_
     refine iK ?_
     simp -implicitDefEqProofs only[go_sem,h9,h1]
     refine aC [] cS ?_
     refine iK ?_
     repeat(with_reducible apply And.intro;exact sO)
     refine⟨i+1,?_,?_,ah [some 0,some 1] ?_ ?_ rfl rfl⟩
     rotate_left
     ·show _ < _
      omega
     ·exact sC
     ·exact sC
     exact h1
   ·simp -implicitDefEqProofs only[go_sem,h1]
    refine ab ?_
    exact sC
end Go.Proofs.YtpidddienjoleaaGreat
