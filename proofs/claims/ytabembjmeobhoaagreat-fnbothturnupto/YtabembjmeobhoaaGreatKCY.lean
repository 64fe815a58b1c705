/-
  The law FnBothTurn, walked: whatever it is given, it answers yes. A step towards the law.
-/
import Derived.Test.YtabembjmeobhoaaGreatKCze
import Derived.Test.YtabembjmeobhoaaGreatKCzd
import Derived.Test.YtabembjmeobhoaaGreatKCzj
import Derived.Test.YtabembjmeobhoaaGreatKCEn
set_option linter.unusedVariables false
set_option linter.unusedSimpArgs false
open Classical renaming em→aa
namespace Go.Proofs.YtabembjmeobhoaaGreat
open Go.Eng Go.Mod
open Int renaming reduceEq→Z1,reduceLT→Z2,reduceLE→Z3,reduceToNat→Z4
set_option maxRecDepth 100000
set_option maxHeartbeats 3200000
theorem Ts{α:Type}(l:List α)(i:Nat)(h:i<l.length):(l.drop i).reverse=(l.drop (i+1)).reverse++[l[i]]:=by
 rw[List.drop_eq_getElem_cons h,List.reverse_cons]
theorem HK(b:List Int)(hb:∀x∈b,0≤x∧x≤255):C E.P 5 [lv (Ta b)] [] (bD (bv true) []):=by
 have cq:LB=1099511627776:=rfl
 refine Eh (nt:=89) (rs:=[.tmp 2]) Tryz.func5 rfl rfl rfl rfl rfl (fun hl he=>?_)
 simp -implicitDefEqProofs only[go_sem] at hl he⊢
 refine eG (gz hm ?_)
 simp -implicitDefEqProofs only[go_sem,de,dq]
 refine eG (gz hm ?_)
 rcases aa ((1048576:Int)<(b.length:Int)) with h0|h0
 ·simp -implicitDefEqProofs only[go_sem,h0,de,vW]
  refine dR ?_
  refine an ?_
  exact sC
 have cD:=AH b hb (by omega)
 have dz:=TP (UX hb)
 generalize GX (b.take 2000)=g at cD dz
 obtain⟨s,ab⟩:=g
 simp only at cD dz
 have c1:=xC Ng s ab
 have c2:=Gu s ab
 have hs1:∀x∈ab.reverse,x∈ab:=fun x hx=>List.mem_reverse.1 hx
 have hs2:∀x∈ab,x∈ab.reverse:=fun x hx=>List.mem_reverse.2 hx
 have hf1:=Kz (s:=s) (ab:=ab)
 have hf2:=Kz (s:=s) (ab:=ab.reverse)
 have hyes:=fun h=>MM (s:=s) (ab:=ab.reverse) h
 have hcert:=fun h=>Kx (s:=s) (ab:=ab.reverse) h
 have ha1:=fun h=>FO (s:=s) (a:=ab) (b:=ab.reverse) h hs1
 have ha2:=fun h=>FO (s:=s) (a:=ab.reverse) (b:=ab) h hs2
 have kF:=SR s ab.reverse
 have cr:=xC Ng s ab.reverse
 generalize eC s ab=r at *
 generalize hq:eC s ab.reverse=q at *
 simp -implicitDefEqProofs only[go_sem,h0,de,dq]
 refine eG (gz hm ?_)
 refine sA ?_
 refine bp [] cD ?_ ?_<;>simp -implicitDefEqProofs only[go_sem,de,dq]
 refine eG (gz hm ?_)
 refine sA ?_
 refine bp [] c1 ?_ ?_<;>simp -implicitDefEqProofs only[go_sem,de,dq]
 refine eG (gz hm ?_)
 refine sA ?_
 refine bp [] c2 ?_ ?_<;>simp -implicitDefEqProofs only[go_sem,de,dq]
 refine eG (gz hm ?_)
 simp -implicitDefEqProofs only[go_sem,de,dq]
 refine eG (gz hm ?_)
 simp -implicitDefEqProofs only[go_sem,de,dq]
 refine eG (gz hm ?_)
 refine sA ?_
 refine sQ ?_
 refine aM hm (fun(i:Nat)=> i≤ab.length) (fun(i:Nat)=> ⟨dH 89 .any [(3,.ptr 0 0),(4,lv (aV ab)),(7,iv r.code),(11,.acc 1),(12,iv ((i:Int)-1))],[some (.box (cF (eu s))),some (.acc 49 (aV (ab.drop i).reverse))]⟩) (fun(i:Nat)=> i) (ab.length) ?_ (ar [some 0,some 5] ?_ ?_ rfl rfl) ?_
 rotate_left
 ·exact sC
 ·refine sA ?_
  all_goals((simp;rfl))
 rotate_left
 ·exact Nat.le_refl _
 ·rintro i hi
  rcases aa ((0:Int)≤(i:Int)-1) with h1|h1
  ·obtain⟨j,hj⟩:∃j:Nat,i=j+1:=⟨i-1,by omega⟩
   have hi1:(i:Int)-1=(j:Int):=by omega
   have hjl:j<ab.length:=by omega
   have hj0:(0:Int)≤(j:Int):=by omega
   have hs:aV (ab.drop j).reverse=aV (ab.drop i).reverse++[nI ab[j]]:=by
    rw[Ts ab j hjl,←hj,aV,List.map_append]
    rfl
   simp -implicitDefEqProofs only[go_sem,hi1,hj0,hjl]
   refine sQ ?_
   refine⟨j,?_,sL,ar [some 0,some 2] ?_ ?_ rfl rfl⟩
   rotate_left
   ·exact sC
   ·refine sA ?_
    all_goals((rw[hs];rfl))
   omega
  ·obtain rfl:i=0:=by omega
   have e:(ab.drop 0).reverse=ab.reverse:=rfl
   simp -implicitDefEqProofs only[go_sem,e]
   refine ZK (CB 11 1 49 (aV ab.reverse) rfl rfl) ?_
   refine sA ?_
   refine eG (gz hm ?_)
   refine sA ?_
   refine bp [] cr ?_ ?_<;>simp -implicitDefEqProofs only[go_sem,de,dq]
   refine gz hm ?_
   rcases aa (q.code=0) with k0|k0
   ·have k0':=eq_true k0
    have g1:¬r.code=1:=ha2 k0
    have hma:eP s q.model ab=true:=Cf (hyes k0) hs2
    have cm:=wB s q.model ab (by omega)
    rw[hma] at cm
    simp -implicitDefEqProofs only[go_sem,k0',g1]
    refine bp [] cm ?_ ?_<;>simp -implicitDefEqProofs only[go_sem,de]
    refine dR ?_
    refine an ?_
    exact sC
   rcases aa (q.code=1) with k1|k1
   ·have k1':=eq_true k1
    have g1:¬r.code=0:=fun h=>ha1 h k1
    have co:=IL s ab.reverse q.case
    rw[hcert k1] at co
    simp -implicitDefEqProofs only[go_sem,k0,k1',g1]
    refine bp [] co ?_ ?_<;>simp -implicitDefEqProofs only[go_sem,de]
    refine dR ?_
    refine an ?_
    exact sC
   have key:q.code=3↔r.code=3:=by
    rw[hf1,hf2]
    constructor
    ·intro h
     cases hb2:e6 s ab with
     | false=>rfl
     | true=>rw[HB hb2 hs1 (by have:=(rN hb2).2.2.2.1;simp;omega)] at h;cases h
    ·intro h
     cases hb2:e6 s ab.reverse with
     | false=>rfl
     | true=>rw[HB hb2 hs2 (by have:=(rN hb2).2.2.2.1;simp at this;omega)] at h;cases h
   rcases aa (q.code=3) with k3|k3
   ·have k3':=eq_true k3
    have g3:=eq_true (key.1 k3)
    simp -implicitDefEqProofs only[go_sem,k0,k1,k3',g3,de]
    refine dR ?_
    refine an ?_
    exact sC
   ·have g3:¬r.code=3:=fun h=>k3 (key.2 h)
    simp -implicitDefEqProofs only[go_sem,k0,k1,k3,g3,de]
    refine dR ?_
    refine an ?_
    exact sC
end Go.Proofs.YtabembjmeobhoaaGreat
