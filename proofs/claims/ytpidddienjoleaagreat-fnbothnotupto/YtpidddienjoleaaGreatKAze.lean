/-
  The reference: draws of literals to be decided. A step towards the laws. The reference: draws of questions to be decided. A step towards the laws.
-/
import Derived.Test.YtpidddienjoleaaGreatKAyc
import Derived.Test.YtpidddienjoleaaGreatKAP
import Derived.Test.YtpidddienjoleaaGreatKAEl
import Derived.Test.YtpidddienjoleaaGreatKAyb
set_option linter.unusedVariables false
set_option linter.unusedSimpArgs false
namespace Go.Proofs.YtpidddienjoleaaGreat
open Go.Eng Go.Mod
open Int renaming reduceEq → Z1,reduceLT → Z2,reduceLE → Z3,reduceToNat → Z4
set_option maxRecDepth 100000
set_option maxHeartbeats 1600000
theorem c_spec_l6Lit (b:List Int) (hb:OkB b) (s:Sig) (hs:SigFair s) (p:Int) (h1:0 ≤ p) (h2:p ≤ 900000000):C E.P 149 [.ptr 0 0,av (cSig s)] [some (rdE b p)] (Eq2 (av (cLit (litV b s p).1)) [some (rdE b (litV b s p).2)]):=by
 have ca:=c_spec_l6Any b hb s hs p h1 h2
 have z:=anyA_b hb hs h1
 have e1:(litV b s p).1 = ⟨(anyA b s p).1,decide (pickV b (anyA b s p).2 3 = 0)⟩:=rfl
 have e2:(litV b s p).2 = (anyA b s p).2 + 1:=rfl
 rw [e1,e2]
 generalize anyA b s p = r at *
 have hLB:=LB_eq
 refine C_goS (nt:=12) (rs:=[.cell 4 48]) hm Tryz.func149 rfl rfl rfl rfl rfl (fun hl he=>?_)
 simp -implicitDefEqProofs only [go_sem] at hl ⊢
 refine atOwn [] [0] ca ?_ ?_ <;> simp -implicitDefEqProofs only [go_sem]
 refine atOwn [] [0] (c_pick b r.2 3 hb (by omega) (by omega)) ?_ ?_ <;> simp -implicitDefEqProofs only [go_sem]
 refine finM' [some 0] ?_ rfl rfl
 simp -implicitDefEqProofs only [go_sem]
 all_goals ((repeat' apply And.intro) <;> rfl)
theorem c_spec_l8With_A (lits:List LitD) (l:LitD) (hl1:lits.length ≤ 100):C E.P 207 [.acc 0,av (cLit l)] [some (.acc 48 (rowsLit lits))] (Eq2 (lv (rowsLit (lits ++ [l]))) [some (.acc 48 (rowsLit lits))]):=by
 have hs:rowsLit (lits ++ [l]) = rowsLit lits ++ [cLit l]:=by rw [rowsLit,List.map_append]; rfl
 rw [hs]
 have hLB:=LB_eq
 refine C_goS (nt:=11) (rs:=[.tmp 4]) hm Tryz.func207 rfl rfl rfl rfl rfl (fun hl he=>?_)
 simp -implicitDefEqProofs only [go_sem] at hl ⊢
 repeat (first | with_reducible refine ind_andM (by kernel_rfl) ?_ | (with_reducible apply And.intro; case left=>first | omega | (simp; omega)))
 refine finM' [some 0] ?_ rfl rfl
 simp -implicitDefEqProofs only [go_sem]
 all_goals ((repeat' apply And.intro) <;> rfl)
theorem c_spec_l8List (b:List Int) (hb:OkB b) (s:Sig) (hs:SigFair s) (p:Int) (h1:0 ≤ p) (h2:p ≤ 800000000):C E.P 146 [.ptr 0 0,av (cSig s)] [some (rdE b p)] (Eq2 (.acc 1) [some (rdE b (listV b s p).2),some (.acc 48 (rowsLit (listV b s p).1))]):=by
 have hmem:=numV_mem hb (p:=p) (l:=[3,4,5,2,6,1,0]) h1 (by simp)
 simp only [List.mem_cons,List.not_mem_nil,or_false] at hmem
 obtain ⟨n,hn⟩:∃ n:Nat,numV b p [3,4,5,2,6,1,0] = n:=⟨(numV b p [3,4,5,2,6,1,0]).toNat,by omega⟩
 have hn6:n ≤ 6:=by omega
 have cn:=c_num b p [3,4,5,2,6,1,0] hb h1 (by omega) (by simp) (by simp)
 have e:listV b s p = litsV b s n [] (p + 1):=by rw [listV,hn]; rfl
 rw [hn] at cn
 obtain ⟨R,hR⟩:∃ R,listV b s p = R:=⟨_,rfl⟩
 rw [hR] at e ⊢
 have hLB:=LB_eq
 refine C_goS (nt:=29) (rs:=[.tmp 4]) hm Tryz.func146 rfl rfl rfl rfl rfl (fun hl he=>?_)
 simp -implicitDefEqProofs only [go_sem] at hl ⊢
 refine atOwn [] [0] cn ?_ ?_ <;> simp -implicitDefEqProofs only [go_sem]
 refine loop_go3 hm (fun (k:Nat) (out:List LitD) (q:Int)=> k ≤ n ∧ out.length + k ≤ n ∧ 0 ≤ q ∧ q + k * 61 ≤ 800001000 ∧ R = litsV b s k out q) (fun (k:Nat) (out:List LitD) (q:Int)=> ⟨mkS 29 .any [(0,.ptr 0 0),(3,.ptr 1 0),(5,.acc 2),(6,iv k)],[some (rdE b q),some (.box (pvs (cSig s))),some (.acc 48 (rowsLit out))]⟩) (fun (k:Nat) (out:List LitD) (q:Int)=> k) (n) ([]) (p + 1) ?_ (weakS [some 0,some 1,some 2] ?_ ?_ rfl rfl) ?_
 rotate_left
 ·simp -implicitDefEqProofs only [go_sem]
 ·simp -implicitDefEqProofs only [go_sem]
 rotate_left
 ·exact ⟨Nat.le_refl _,by simp,by omega,by omega,e⟩
 ·rintro k out q ⟨hk,ho,hq0,hq1,hg⟩
  cases k with
  | zero=>
    have k0:¬ (0:Int) < ((0:Nat):Int):=by omega
    rw [litsV] at hg
    simp -implicitDefEqProofs only [go_sem,Z2]
    refine finM' [some 0,some 2] ?_ rfl rfl
    simp -implicitDefEqProofs only [go_sem]
    rw [hg]
    all_goals ((repeat' apply And.intro) <;> rfl)
  | succ k=>
    have k0:(0:Int) < ((k + 1:Nat):Int):=by omega
    have hl:=c_spec_l6Lit b hb s hs q hq0 (by omega)
    have hlb:=litV_b hb hs hq0
    rw [litsV] at hg
    generalize litV b s q = r at *
    have hw:=c_spec_l8With_A out r.1 (by omega)
    have hbo:=c_spec_BothOk s (out ++ [r.1])
    have k1:(0:Int) < (k:Int) + 1:=by omega
    have hs1:rowsLit out ++ [cLit r.1] = rowsLit (out ++ [r.1]):=by rw [rowsLit,rowsLit,List.map_append]; rfl
    simp -implicitDefEqProofs only [go_sem,k1]
    refine atOwn [] [0] hl ?_ ?_ <;> simp -implicitDefEqProofs only [go_sem]
    refine atOwn [] [2] hw ?_ ?_ <;> simp -implicitDefEqProofs only [go_sem]
    refine atCall [] hbo ?_ ?_ <;> simp -implicitDefEqProofs only [go_sem]
    with_reducible refine ind_andM (by kernel_rfl) ?_
    cases h3:bothOk s (out ++ [r.1])
    ·rw [h3,if_neg (by simp)] at hg
     simp -implicitDefEqProofs only [go_sem]
     repeat (with_reducible apply And.intro; case left=>omega)
     refine ⟨k,out,r.2,?_,?_,weakS [some 0,some 1,some 2] ?_ ?_ rfl rfl⟩
     rotate_left
     ·show _ < _
      omega
     ·simp -implicitDefEqProofs only [go_sem]
      all_goals (simp [*]; done)
     ·simp -implicitDefEqProofs only [go_sem]
     exact ⟨by omega,by omega,by omega,by omega,hg⟩
    ·rw [h3,if_pos rfl] at hg
     simp -implicitDefEqProofs only [go_sem]
     repeat (with_reducible apply And.intro; case left=>omega)
     refine ⟨k,out ++ [r.1],r.2,?_,?_,weakS [some 0,some 1,some 4] ?_ ?_ rfl rfl⟩
     rotate_left
     ·show _ < _
      omega
     ·simp -implicitDefEqProofs only [go_sem]
      all_goals (simp [*]; done)
     ·simp -implicitDefEqProofs only [go_sem]
      all_goals (exact hs1)
     exact ⟨by omega,by simp; omega,by omega,by omega,hg⟩
end Go.Proofs.YtpidddienjoleaaGreat
namespace Go.Proofs.YtpidddienjoleaaGreat
open Go.Eng Go.Mod
open Int renaming reduceEq → Z1,reduceLT → Z2,reduceLE → Z3,reduceToNat → Z4
set_option maxRecDepth 100000
set_option maxHeartbeats 1600000
theorem rowsLit_snocS (lits:List LitD) (l:LitD):rowsLit (lits ++ [l]) = rowsLit lits ++ [cLit l]:=by rw [rowsLit,List.map_append]; rfl
theorem c_spec_l8Some (b:List Int) (hb:OkB b) (p:Int) (h1:0 ≤ p) (h2:p ≤ 600000000):C E.P 77 [.ptr 0 0] [some (rdE b p)] (Eq2 (.tup [av (cSig (some8 b p).1),lv (rowsLit (some8 b p).2.1)]) [some (rdE b (some8 b p).2.2)]):=by
 have cs:=c_spec_l4Sig b p hb h1 (by omega)
 have hs:SigFair (sigS b p).1:=baseS_fair _
 have hsp:(sigS b p).2 = p + 1:=rfl
 obtain ⟨R,eR⟩:∃ R,some8 b p = R:=⟨_,rfl⟩
 have hR:=eR
 unfold some8 at hR
 rw [eR]
 generalize sigS b p = g at *
 obtain ⟨s,q⟩:=g
 simp only at hs hsp hR cs
 subst hsp
 have cl:=c_spec_l8List b hb s hs (p + 1) (by omega) (by omega)
 have zl:=listV_b hb hs (p:=p + 1) (by omega)
 generalize listV b s (p + 1) = r at *
 obtain ⟨lits,q⟩:=r
 simp only at zl hR cl
 have cp:=c_pick b q 48 hb (by omega) (by omega)
 generalize pickV b q 48 = k at *
 have hLB:=LB_eq
 refine C_goS (nt:=48) (rs:=[.cell 2 25,.tmp 3]) hm Tryz.func77 rfl rfl rfl rfl rfl (fun hl he=>?_)
 simp -implicitDefEqProofs only [go_sem] at hl ⊢
 refine atOwn [] [0] cs ?_ ?_ <;> simp -implicitDefEqProofs only [go_sem]
 refine atOwn [] [0,3] cl ?_ ?_ <;> simp -implicitDefEqProofs only [go_sem]
 refine atOwn [] [0] cp ?_ ?_ <;> simp -implicitDefEqProofs only [go_sem]
 rcases Classical.em (k = 0) with k0 | k0
 ·have kk0:=eq_true k0
  rw [if_pos k0] at hR
  have ca:=c_spec_l6Some b hb s hs (q + 1) (by omega) (by omega)
  simp -implicitDefEqProofs only [go_sem,kk0]
  refine atOwn [] [0] ca ?_ ?_ <;> simp -implicitDefEqProofs only [go_sem]
  repeat (with_reducible apply And.intro; case left=>omega)
  refine finM' [some 0] ?_ rfl rfl
  simp -implicitDefEqProofs only [go_sem]
  rw [← hR]
  exact ⟨⟨rfl,rowsLit_snocS _ _,rfl⟩,rfl⟩
 rw [if_neg k0] at hR
 rcases Classical.em (k = 1) with k1 | k1
 ·have kk1:=eq_true k1
  rw [if_pos k1] at hR
  simp -implicitDefEqProofs only [go_sem,k0,kk1]
  refine loop_go3 hm (fun (n:Nat) (out:List LitD) (q2:Int)=> out.length + n = 7 ∧ 0 ≤ q2 ∧ q2 + n * 61 ≤ 700000000 ∧ R = (s,(moreV b s n out q2).1,(moreV b s n out q2).2)) (fun (n:Nat) (out:List LitD) (q2:Int)=> ⟨mkS 48 .any [(0,.ptr 0 0),(2,.ptr 1 0),(4,.ptr 2 0),(5,.acc 3)],[some (rdE b q2),some (.box [lv []]),some (.box (pvs (cSig s))),some (.acc 48 (rowsLit out))]⟩) (fun (n:Nat) (out:List LitD) (q2:Int)=> n) (7 - lits.length) (lits) (q + 1) ?_ (weakS [some 0,some 1,some 2,some 3] ?_ ?_ rfl rfl) ?_
  rotate_left
  ·simp -implicitDefEqProofs only [go_sem]
  ·simp -implicitDefEqProofs only [go_sem]
  rotate_left
  ·exact ⟨by omega,by omega,by omega,hR.symm⟩
  ·rintro n out q2 ⟨hn,hq0,hq1,hg⟩
   cases n with
   | zero=>
     have h7:¬ (out.length:Int) ≤ 6:=by omega
     rw [moreV] at hg
     simp -implicitDefEqProofs only [go_sem,h7]
     refine finM' [some 0] ?_ rfl rfl
     simp -implicitDefEqProofs only [go_sem]
     rw [hg]
     all_goals ((repeat' apply And.intro) <;> rfl)
   | succ n=>
     have h7:(out.length:Int) ≤ 6:=by omega
     have hl:=c_spec_l6Lit b hb s hs q2 hq0 (by omega)
     have hlb:=litV_b hb hs hq0
     rw [moreV] at hg
     generalize litV b s q2 = x at *
     have hs1:rowsLit out ++ [cLit x.1] = rowsLit (out ++ [x.1]):=(rowsLit_snocS _ _).symm
     simp -implicitDefEqProofs only [go_sem,h7]
     refine atOwn [] [0] hl ?_ ?_ <;> simp -implicitDefEqProofs only [go_sem]
     repeat (with_reducible apply And.intro; case left=>omega)
     refine ⟨n,out ++ [x.1],x.2,?_,?_,weakS [some 0,some 1,some 2,some 4] ?_ ?_ rfl rfl⟩
     rotate_left
     ·show _ < _
      omega
     ·simp -implicitDefEqProofs only [go_sem]
     ·simp -implicitDefEqProofs only [go_sem]
      all_goals (exact hs1)
     exact ⟨by simp; omega,by omega,by omega,hg⟩
 rw [if_neg k1] at hR
 rcases Classical.em (k = 2) with k2 | k2
 ·have kk2:=eq_true k2
  rw [if_pos k2] at hR
  have ca:=c_spec_l4Bent b hb s (fair_small hs).1 (fair_small hs).2 (q + 1) (by omega) (by omega)
  have hsm:=bentS_small (b:=b) hs (q + 1)
  have zb:=bentS_b b s (q + 1)
  have cb:=c_spec_l4Bent b hb (bentS b s (q + 1)).1 hsm.1 hsm.2 (bentS b s (q + 1)).2 (by omega) (by omega)
  simp -implicitDefEqProofs only [go_sem,k0,k1,kk2]
  refine atOwn [] [0] ca ?_ ?_ <;> simp -implicitDefEqProofs only [go_sem]
  refine atOwn [] [0] cb ?_ ?_ <;> simp -implicitDefEqProofs only [go_sem]
  refine finM' [some 0] ?_ rfl rfl
  simp -implicitDefEqProofs only [go_sem]
  rw [← hR]
  all_goals ((repeat' apply And.intro) <;> rfl)
 rw [if_neg k2] at hR
 rcases Classical.em (k = 3) with k3 | k3
 ·have kk3:=eq_true k3
  rw [if_pos k3] at hR
  simp -implicitDefEqProofs only [go_sem,k0,k1,k2,kk3]
  repeat (with_reducible apply And.intro; case left=>omega)
  refine finM' [some 0] ?_ rfl rfl
  simp -implicitDefEqProofs only [go_sem]
  rw [← hR]
  exact ⟨⟨rfl,rowsLit_snocS _ _,rfl⟩,rfl⟩
 ·rw [if_neg k3] at hR
  simp -implicitDefEqProofs only [go_sem,k0,k1,k2,k3]
  refine finM' [some 0] ?_ rfl rfl
  simp -implicitDefEqProofs only [go_sem]
  rw [← hR]
  all_goals ((repeat' apply And.intro) <;> rfl)
theorem c_spec_l8Draw (b:List Int) (hb:∀ x ∈ b,0 ≤ x ∧ x ≤ 255) (hl9:b.length ≤ 2000000):C E.P 35 [lv (byD b)] [] (Eq2 (.tup [av (cSig (draw8 (b.take 2000)).1),lv (rowsLit (draw8 (b.take 2000)).2)]) []):=by
 have hO:=openOk hb
 obtain ⟨c,hc⟩:∃ c,b.take 2000 = c:=⟨_,rfl⟩
 have c1:=c_spec_l16Open b hb hl9
 rw [hc] at hO c1 ⊢
 have c2:=c_spec_l8Some c hO 0 (by omega) (by omega)
 have hLB:=LB_eq
 refine C_goS (nt:=9) (rs:=[.cell 2 25,.tmp 3]) hm Tryz.func35 rfl rfl rfl rfl rfl (fun hl he=>?_)
 simp -implicitDefEqProofs only [go_sem] at hl ⊢
 refine atOwn [] [1] c1 ?_ ?_ <;> simp -implicitDefEqProofs only [go_sem]
 refine atOwn [] [1] c2 ?_ ?_ <;> simp -implicitDefEqProofs only [go_sem]
 refine fin1' ?_
 simp -implicitDefEqProofs only [go_sem]
 all_goals ((repeat' apply And.intro) <;> rfl)
theorem c_spec_DrawBothRun (b:List Int) (hb:∀ x ∈ b,0 ≤ x ∧ x ≤ 255) (hl9:b.length ≤ 2000000):C E.P 7 [lv (byD b)] [] (Eq2 (.tup [av (cSig (draw8 (b.take 2000)).1),lv (rowsLit (draw8 (b.take 2000)).2)]) []):=by
 have hLB:=LB_eq
 refine C_goS (nt:=8) (rs:=[.cell 2 25,.tmp 3]) hm Tryz.func7 rfl rfl rfl rfl rfl (fun hl he=>?_)
 simp -implicitDefEqProofs only [go_sem] at hl ⊢
 refine atCall [] (c_spec_l8Draw b hb hl9) ?_ ?_ <;> simp -implicitDefEqProofs only [go_sem]
 refine fin1' ?_
 simp -implicitDefEqProofs only [go_sem]
 all_goals ((repeat' apply And.intro) <;> rfl)
end Go.Proofs.YtpidddienjoleaaGreat
