/-
  The program: the model of a closure, up to the insertion of rows. A step towards the laws.
-/
import Derived.Test.YtpidddienjoleaaGreatKDzh
import Derived.Test.YtpidddienjoleaaGreatKDc
import Derived.Test.YtpidddienjoleaaGreatKDzf
import Derived.Test.YtpidddienjoleaaGreatKDEl
import Derived.Test.YtpidddienjoleaaGreatKDD
import Derived.Test.YtpidddienjoleaaGreatKDDa
import Derived.Test.YtpidddienjoleaaGreatKDN
import Derived.Test.YtpidddienjoleaaGreatKDO
set_option linter.unusedVariables false
set_option linter.unusedSimpArgs false
namespace Go.Proofs.YtpidddienjoleaaGreat
open Go.Eng Go.Mod
open Int renaming reduceEq→Z1,reduceLT→Z2,reduceLE→Z3,reduceToNat→Z4
set_option maxRecDepth 100000
set_option maxHeartbeats 3200000
theorem Im{E:Env}{o:Oper}{g g':G}{rest:jZ→Option (List Ky)→G→Prop}(hw:sj E.P g g')(h:mj E none none o g' rest):mj E none none o g rest:=by
 rcases h with⟨R,δ,h1,h2⟩|⟨_,_,g2,hw2,R,δ,h1,h2⟩
 ·exact .inr ⟨rfl,rfl,g',hw,R,δ,h1,h2⟩
 ·exact .inr ⟨rfl,rfl,g2,hw.trans hw2,R,δ,h1,h2⟩
section
variable(s:bA)(terms nums:List Term)(c:List Nat)(steps:List Step)(aw:List Mod.Rat)
theorem Ef(t:Term)(ht:t∈terms)(hc:c.length=terms.length)(h4v:aw.length=4)(h4:nums.length≤4)(hcb:∀x∈c,x≤1000):C E.P 169 [av (cT t),.ptr 0 0,.ptr 1 0,.ptr 2 0] [some (.box [.ptr 3 0]),some (.box [lv (aM aw)]),some (.box [.ptr 4 0]),some (.box (bn (fW s terms nums))),some (.box [lv (aj terms),lv (aP c),lv (ax steps)])] (aO (av (dp (gv terms nums c aw t))) [some (.box [.ptr 3 0]),some (.box [lv (aM aw)]),some (.box [.ptr 4 0]),some (.box (bn (fW s terms nums))),some (.box [lv (aj terms),lv (aP c),lv (ax steps)])]):=by
 refine gS (nt:=29) (rs:=[.cell 5 57]) hm Tryz.func169 fun hl he hLB=>?_
 refine aC [] (bz nums t) ?_
 refine iK ?_
 rcases Classical.em (t∈nums) with hn|hn
 ·have pN:=aU hn
  have cN:=bo hn
  have pN':al nums t<aw.length:=by omega
  have nn:(0:Int)≤(al nums t:Int):=by omega
  have e:gv terms nums c aw t=aw[al nums t]:=by rw[gv,if_neg (by omega),dN pN']
  simp -implicitDefEqProofs only[go_sem,cN,nn,pN']
  refine aG [some 0,some 1,some 2,some 3,some 4] ?_ rfl rfl
  refine sA ?_
  rw[e]
  all_goals((repeat' apply And.intro)<;>rfl)
 ·have h3:¬ (0:Int)≤aF nums t:=fun h=>hn (bl.1 h)
  have pT:=aU ht
  have pc:al terms t<c.length:=by omega
  have ec:c[al terms t]=cl c (al terms t):=(fh pc).symm
  have hle:=hcb _ (xW pc)
  have e:gv terms nums c aw t=whole (cl c (al terms t)):=by rw[gv,if_pos (by omega)]
  have ca:=uP terms c steps t
  rw[bo ht] at ca
  simp -implicitDefEqProofs only[go_sem,h3]
  refine bK [] [4] ca rfl ?_ ?_ ?_
  ·exact sV
  all_goals simp -implicitDefEqProofs only[go_sem,pc,ec]
  refine aC [] (bE (cl c (al terms t):Int)) ?_
  refine iK ?_
  refine aG [some 0,some 1,some 2,some 3,some 4] ?_ rfl rfl
  refine sA ?_
  rw[e]
  all_goals((repeat' apply And.intro)<;>rfl)
def sH:Prop:=∀(rows:List Mod.Row)(k:Nat)(r:Mod.Row),k≤rows.length→rows.length≤1000→C E.P 170 [.acc 0,iv k,.acc 1] [some (.acc 167 (bm rows)),some (.acc 167 [pG r])] (aO (.acc 2) [some .dead,some .dead,some (.acc 167 (bm (rows.take k++r::rows.drop k)))])
theorem C1(hIns:sH)(hk:fL terms)(hnd:terms.Nodup)(hc:c.length=terms.length)(hcb:∀x∈c,x≤1000)(h4v:aw.length=4)(hv9:∀x∈aw,aS x=true)(h4:nums.length≤4)(hl9:terms.length≤900)(hk9:∀t∈terms,t.kids.length≤1000) :
 C E.P 104 [.ptr 0 0,.ptr 1 0,lv (aM aw)] [some (.box (bn (fW s terms nums))),some (.box [lv (aj terms),lv (aP c),lv (ax steps)])] (aO (av (eO ⟨cV terms nums c aw⟩)) [some (.box (bn (fW s terms nums))),some (.box [lv (aj terms),lv (aP c),lv (ax steps)])]):=by
 refine gS (nt:=66) (rs:=[.cell 6 32]) hm Tryz.func104 fun hl he hLB=>?_
 refine bQ hm (fun(i:Nat) (rows:List Mod.Row)=> i≤terms.length∧rows.length≤i∧(∀x∈rows,bt x.args=true)∧rows.Pairwise (fun a b=>bI a b=true)∧cV terms nums c aw=(terms.drop i).foldl (fun rows t=>putRow rows (dY terms nums c aw t)) rows) (fun(i:Nat) (rows:List Mod.Row)=> ⟨b9 66 .any [(6,.ptr 5 0),(7,.fn 169 [.ptr 2 0,.ptr 4 0,.ptr 3 0]),(8,.ptr 6 0),(20,lv (aj terms)),(21,iv terms.length),(22,iv i)],[some (.box (bn (fW s terms nums))),some (.box [lv (aj terms),lv (aP c),lv (ax steps)]),some (.box [.ptr 0 0]),some (.box [.ptr 1 0]),some (.box [lv (aM aw)]),some (.box (bn (eO iU))),some (.box [.acc 7]),some (.acc 167 (bm rows))]⟩) (fun(i:Nat) (rows:List Mod.Row)=> terms.length-i) (0) ([]) ?_ (ah [some 0,some 1,some 2,some 3,some 4,some 5,some 6,none] ?_ ?_ rfl rfl) ?_
 rotate_left
 ·exact sC
 ·refine sA ?_
  all_goals(rfl)
 rotate_left
 ·exact⟨Nat.zero_le _,Nat.le_refl _,fun x hx=>(by simp at hx),List.Pairwise.nil,rfl⟩
 ·rintro i rows ⟨hi,hrl,hro,hpw,hg⟩
  rcases Classical.em (i<terms.length) with h1|h1
  ·have mt:=List.getElem_mem h1
   have kt:=hk _ mt
   have kl:=hk9 _ mt
   have hv:=Ef s terms nums c steps aw terms[i] mt hc h4v h4 hcb
   rw[List.drop_eq_getElem_cons h1,List.foldl_cons] at hg
   obtain⟨t,ht⟩:∃t,terms[i]=t:=⟨_,rfl⟩
   rw[ht] at hv hg kt kl
   simp -implicitDefEqProofs only[go_sem,h1,ht]
   refine cz [.ptr 2 0,.ptr 4 0,.ptr 3 0] [2,4,3,0,1] hv ?_ ?_
   ·refine sA ?_
    first|rfl|((repeat' apply And.intro)<;>rfl)
   refine sA ?_
   refine iK ?_
   refine au hm (fun(j:Nat)=> j≤t.kids.length) (fun(j:Nat)=> ⟨b9 66 .any [(6,.ptr 5 0),(7,.fn 169 [.ptr 2 0,.ptr 4 0,.ptr 3 0]),(8,.ptr 6 0),(11,.ptr 8 0),(20,lv (aj terms)),(21,iv terms.length),(22,iv i),(33,lv (aj t.kids)),(34,iv t.kids.length),(35,iv j)],[some (.box (bn (fW s terms nums))),some (.box [lv (aj terms),lv (aP c),lv (ax steps)]),some (.box [.ptr 0 0]),some (.box [.ptr 1 0]),some (.box [lv (aM aw)]),some (.box (bn (eO iU))),some (.box [.acc 7]),some (.acc 167 (bm rows)),some (.box [sv t.name,.acc 9,iv (gv terms nums c aw t).N,iv (gv terms nums c aw t).D]),some (.acc 57 (aM ((t.kids.take j).map (gv terms nums c aw))))]⟩) (fun(j:Nat)=> t.kids.length-j) (0) ?_ (ah [some 0,some 1,some 2,some 3,some 4,some 5,some 6,some 7,some 9,none] ?_ ?_ rfl rfl) ?_
   rotate_left
   ·exact sC
   ·exact sC
   rotate_left
   ·omega
   ·rintro j hj
    have hsl:((t.kids.take j).map (gv terms nums c aw)).length≤1000:=by simp;omega
    rcases Classical.em (j<t.kids.length) with h2|h2
    ·have mk:=kt _ (List.getElem_mem h2)
     have hvk:=Ef s terms nums c steps aw t.kids[j] mk hc h4v h4 hcb
     have hs:(t.kids.take (j+1)).map (gv terms nums c aw)=(t.kids.take j).map (gv terms nums c aw)++[gv terms nums c aw t.kids[j]]:=by
      rw[List.take_add_one,List.getElem?_eq_getElem h2,List.map_append];rfl
     simp -implicitDefEqProofs only[go_sem,h2]
     refine cz [.ptr 2 0,.ptr 4 0,.ptr 3 0] [2,4,3,0,1] hvk ?_ ?_
     ·refine sA ?_
      first|rfl|((repeat' apply And.intro)<;>rfl)
     refine sA ?_
     repeat(with_reducible apply And.intro;exact sO)
     refine⟨j+1,?_,?_,ah [some 0,some 1,some 2,some 3,some 4,some 5,some 6,some 7,some 8,some 11] ?_ ?_ rfl rfl⟩
     rotate_left
     ·show _ < _
      omega
     ·exact sC
     ·refine sA ?_
      all_goals((rw[hs,←pS,B5,wv];rfl))
     exact h2
    ·have et:t.kids.take j=t.kids:=List.take_of_length_le (by omega)
     have hrt:bt (dY terms nums c aw t).args=true:=yP hcb hv9
     have hbs:=kN rows (dY terms nums c aw t) (AX hro hpw hrt) (by omega)
     have hpc:=kR rows (dY terms nums c aw t)
     have hcl:=Hl rows (dY terms nums c aw t)
     have hlen:=GZ rows (dY terms nums c aw t)
     have hmem:∀x∈putRow rows (dY terms nums c aw t),bt x.args=true:=fun x hx=>by
      rcases GH hx with hx|hx
      ·exact hro x hx
      ·rw[hx];exact hrt
     have hpw2:=EZ hro hpw hrt
     rw[et]
     simp -implicitDefEqProofs only[go_sem,h2]
     refine bK [] [7,9] hbs rfl ?_ ?_ ?_
     ·exact sV
     all_goals simp -implicitDefEqProofs only[go_sem]
     cases hf:found rows (dY terms nums c aw t)
     ·rw[hf,if_neg (by simp)] at hpc
      have hin:=hIns rows (cut rows (dY terms nums c aw t)) (dY terms nums c aw t) hcl (by omega)
      rw[←hpc] at hin
      refine sA ?_
      refine Im (nX 10 0 [T.leaf (D.str t.name),T.ref 9,T.leaf (D.val (Value.int IntKind.i64 (gv terms nums c aw t).N)),T.leaf (D.val (Value.int IntKind.i64 (gv terms nums c aw t).D))] rfl (by simp) rfl) ?_
      refine sA ?_
      refine Im (Ir 10 (ys:=[pG (dY terms nums c aw t)]) rfl (by simp only[List.set_cons_zero,aW,b8,T.yG,gg];try rfl)) ?_
      refine sA ?_
      refine cz [] [7,10,11] hin ?_ ?_<;>simp -implicitDefEqProofs only[go_sem]
      ·rfl
      repeat(with_reducible apply And.intro;case left=>omega)
      refine⟨i+1,putRow rows (dY terms nums c aw t),?_,?_,ah [some 0,some 1,some 2,some 3,some 4,some 5,some 6,some 11] ?_ ?_ rfl rfl⟩
      rotate_left
      ·show _ < _
       omega
      ·exact sC
      ·exact sC
      exact⟨by omega,by omega,hmem,hpw2,hg⟩
     ·rw[hf,if_pos rfl] at hpc
      rw[hpc] at hg
      refine sA ?_
      repeat(with_reducible apply And.intro;exact sO)
      refine⟨i+1,rows,?_,?_,ah [some 0,some 1,some 2,some 3,some 4,some 5,some 6,some 7] ?_ ?_ rfl rfl⟩
      rotate_left
      ·show _ < _
       omega
      ·exact sC
      ·exact sC
      exact⟨by omega,by omega,hro,hpw,hg⟩
  ·rw[List.drop_of_length_le (by omega),List.foldl_nil] at hg
   simp -implicitDefEqProofs only[go_sem,h1]
   refine aG [some 0,some 1] ?_ rfl rfl
   refine sA ?_
   rw[hg]
   all_goals((repeat' apply And.intro)<;>rfl)
end
end Go.Proofs.YtpidddienjoleaaGreat
namespace Go.Proofs.YtpidddienjoleaaGreat
open Go.Eng Go.Mod
open Int renaming reduceEq→Z1,reduceLT→Z2,reduceLE→Z3,reduceToNat→Z4
set_option maxRecDepth 100000
set_option maxHeartbeats 6400000
theorem Jr(ls:List eQ):(a7 ls).code=0∨(a7 ls).code=1∨(a7 ls).code=2∨(a7 ls).code=3:=by
 unfold a7
 split
 ·split
  ·exact .inr (.inr (.inl rfl))
  ·split
   ·exact .inr (.inr (.inl rfl))
   ·split
    ·exact .inr (.inr (.inl rfl))
    ·split
     ·exact .inr (.inr (.inl rfl))
     ·unfold fC
      split
      ·split
       ·exact .inr (.inl rfl)
       ·exact .inr (.inr (.inl rfl))
      ·split
       ·exact .inr (.inr (.inl rfl))
       ·split
        ·exact .inl rfl
        ·exact .inr (.inr (.inl rfl))
 ·exact .inr (.inr (.inr rfl))
theorem xg(s:bA)(m:Mod.Model)(lits:List aE)(hl9:lits.length≤1000):C E.P 105 [av (bF s),av (eO m),lv (ay lits)] [] (aO (bv (c6 s m lits)) []):=by
 refine gS (nt:=35) (rs:=[.tmp 6]) hm Tryz.func105 fun hl he hLB=>?_
 refine aC [] (kH s m) ?_
 cases h0:de s m
 ·have e:c6 s m lits=false:=by simp[c6,h0]
  refine sA ?_
  refine ab ?_
  refine sA ?_
  all_goals(simp[e];done)
 ·have e:c6 s m lits=lits.all fun l=>decide (fK s m l=some true):=by simp[c6,h0]
  refine sA ?_
  refine au hm (fun(i:Nat)=> i≤lits.length∧c6 s m lits=(lits.drop i).all fun l=>decide (fK s m l=some true)) (fun(i:Nat)=> ⟨b9 35 .any [(3,.ptr 0 0),(4,.ptr 1 0),(15,lv (ay lits)),(16,iv lits.length),(17,iv i)],[some (.box (bn (bF s))),some (.box (bn (eO m)))]⟩) (fun(i:Nat)=> lits.length-i) (0) ?_ (ah [some 0,some 1] ?_ ?_ rfl rfl) ?_
  rotate_left
  ·exact sC
  ·exact sC
  rotate_left
  ·exact⟨Nat.zero_le _,e⟩
  ·rintro i ⟨hi,hg⟩
   rcases Classical.em (i<lits.length) with h1|h1
   ·rw[List.drop_eq_getElem_cons h1,List.all_cons] at hg
    have hco:=wB s m lits[i]
    simp -implicitDefEqProofs only[go_sem,h1]
    refine aC [] hco ?_
    cases h2:fK s m lits[i] with
    | none=>
      rw[h2] at hg
      simp -implicitDefEqProofs only[go_sem,Option.isSome_none,Option.getD_none]
      refine ab ?_
      refine sA ?_
      all_goals(simp[hg];done)
    | some b=>
      rw[h2] at hg
      cases b
      ·simp -implicitDefEqProofs only[go_sem,Option.isSome_some,Option.getD_some]
       refine ab ?_
       refine sA ?_
       all_goals(simp[hg];done)
      ·simp only[decide_true,Bool.true_and] at hg
       simp -implicitDefEqProofs only[go_sem,Option.isSome_some,Option.getD_some]
       repeat(with_reducible apply And.intro;exact sO)
       refine⟨i+1,?_,?_,ah [some 0,some 1] ?_ ?_ rfl rfl⟩
       rotate_left
       ·show _ < _
        omega
       ·exact sC
       ·exact sC
       exact⟨by omega,hg⟩
   ·rw[List.drop_of_length_le (by omega),List.all_nil] at hg
    simp -implicitDefEqProofs only[go_sem,h1]
    refine ab ?_
    refine sA ?_
    all_goals(simp[hg];done)
theorem H9(a:Case):dD [a]=[tm a]:=by rw[qS,nw]
def DG(r:xh):PV:=.eZ [av (eO r.model),av (tm r.case),iv r.code]
attribute [go_sem] DG
theorem H0(hIns:sH)(s:bA)(terms nums:List Term):∀(f:Nat)(lits:List aE),c8 s lits→ai lits=terms→numsOf s lits=nums→room nums lits<f→lits.length+f≤50→C E.P 41 [.ptr 0 0,lv (ay lits)] [some (.box (bn (fW s terms nums)))] (aO (DG (e5 s terms nums f lits)) [some (.box (bn (fW s terms nums)))]):=by
 intro f
 induction f with
 | zero=>intro lits hG _ _ h;omega
 | succ f ih=>
 intro lits hG hT hN hroom hlen
 have hel:(aI lits).length≤50:=Nat.le_trans (List.length_filterMap_le _ _) (by omega)
 have next:∀x,Mod.Next s lits x→C E.P 41 [.ptr 0 0,lv (ay (lits++[x]))] [some (.box (bn (fW s terms nums)))] (aO (DG (e5 s terms nums f (lits++[x]))) [some (.box (bn (fW s terms nums)))]):=fun x hx=>by
  obtain⟨g1,g2,g3,g4⟩:=hx
  rw[hN] at g4
  exact ih (lits++[x]) g1 (g2.trans hT) (g3.trans hN) (by omega) (by simp;omega)
 have h4:=hG.n4
 have h24:=hG.n24
 have hkids:=hG.kids
 have hein:=hG.Ig
 have hlen9:=hG.SK
 have hk9:=hG.RG
 have hkin:=hG.Qr
 have hnum:=hG.num
 have hnd:=hG.nodup
 have hcl:=hG.Sp
 have hcb:=hG.Iw
 have hfit:=hG.fit
 have hsub:∀t∈numsOf s lits,t∈ai lits:=jv
 have neq:∀i k,i<k→k<(numsOf s lits).length→Mod.linked (numsOf s lits) lits i k=false→Mod.Next s lits (eE ((numsOf s lits).getD i ao) ((numsOf s lits).getD k ao)):=fun i k h1 h2 h3=>C0 hG h1 h2 h3
 have npa:∀i k,i<k→k<(numsOf s lits).length→jQ (numsOf s lits) lits i k=true→∀l∈gL ((numsOf s lits).getD i ao) ((numsOf s lits).getD k ao),Mod.Next s lits l:=fun i k h1 h2 h3=>wi hG h1 h2 h3
 have nne:∀i k,i<k→k<(numsOf s lits).length→(numsOf s lits).getD i ao≠(numsOf s lits).getD k ao:=fun i k h1 h2=>I6 hG h1 h2
 have hkept:=lM (parts:=ai lits) (eqs:=aI lits) hein
 have hsl:(closed (ai lits) (aI lits)).2.length≤2000000:=by
  have h1:=rn hkept (closed (ai lits) (aI lits)).2.length (Nat.le_refl _)
  have h2:(List.range (ai lits).length).sum≤(List.range (ai lits).length).length*1000:=mP fun x hx=>by have:=List.mem_range.1 hx;omega
  have h3:(List.range (ai lits).length).length*1000≤1000*1000:=Nat.mul_le_mul_right _ (by simpa using hlen9)
  omega
 rw[hT] at hkept hsl h24 hkids hein hlen9 hk9 hkin hnd hcl hcb hsub
 rw[hN] at h4 hnum hfit hsub neq npa nne
 refine gS (nt:=205) (rs:=[.cell 4 32,.cell 5 42,.tmp 6]) hm Tryz.func41 fun hl he hLB=>?_
 refine aC [] (CF lits (by omega)) ?_
 rcases Classical.em ((12:Int)<((aI lits).length:Int)) with h12|h12
 ·rw[ym (by omega)]
  simp -implicitDefEqProofs only[go_sem,h12]
  refine aG [some 0] ?_ rfl rfl
  refine sA ?_
  all_goals((repeat' apply And.intro)<;>rfl)
 have h12':¬12<(aI lits).length:=by omega
 simp -implicitDefEqProofs only[go_sem,h12]
 refine oC [] [5] (AB terms (aI lits) hkids hein hlen9 hk9 (by omega)) ?_
 have ccl:=CY s terms nums (aI lits) lits hkids hein hlen9 hk9 hkin
 refine cz [] [0,5] ccl ?_ ?_
 ·refine sA ?_
  first|rfl|((repeat' apply And.intro)<;>rfl)
 refine sA ?_
 cases hc:iH (ic terms (closed terms (aI lits)).1) lits with
 | some n=>
   rw[ux h12' hc]
   simp -implicitDefEqProofs only[go_sem,Option.isSome_some]
   refine iK ?_
   refine aG [some 0] ?_ rfl rfl
   refine sA ?_
   all_goals((repeat' apply And.intro)<;>rfl)
 | none=>
 simp -implicitDefEqProofs only[go_sem,Option.isSome_none]
 refine aC [] (qK nums lits h4 (by omega) hfit) ?_
 refine aC [] (Az (bH nums lits)) ?_
 refine iK ?_
 have hcodes:=Jr (bH nums lits)
 have hfv:=zc (list:=bH nums lits)
 have l1:=yT (s:=s) (terms:=terms) (nums:=nums) (f:=f) h12' hc
 have l2:=yq (s:=s) (terms:=terms) (nums:=nums) (f:=f) h12' hc
 have l3:=fun h q=>@y7 s terms nums f lits h12' hc h q
 have l4:=fun h hp q=>@pz s terms nums f lits h12' hc h hp q
 have l5:=fun h hp=>@uY s terms nums f lits h12' hc h hp
 generalize a7 (bH nums lits)=zW at *
 obtain⟨aw,times,code⟩:=zW
 simp only at hcodes hfv l1 l2 l3 l4 l5⊢
 rcases hcodes with rfl|rfl|rfl|rfl
 ·obtain⟨v4,Sf⟩:=hfv rfl
  have co1:=Lg s terms nums (closed terms (aI lits)).1 (closed terms (aI lits)).2 lits hsub hcl h4
  simp -implicitDefEqProofs only[go_sem,Z1]
  refine oC [] [0] (Cm s terms nums (aI lits) h4 (by omega)) ?_
  refine cz [] [8,9,6,1,5,0] co1 ?_ ?_
  ·refine sA ?_
   first|rfl|((repeat' apply And.intro)<;>rfl)
  refine sA ?_
  cases hp:bj nums.length (dj true terms nums (closed terms (aI lits)).1 lits) with
  | some q=>
    obtain⟨q1,q2,q3⟩:=iB hp
    have hlk:=nC q3
    have hnx:=next _ (neq q.1 q.2 q1 q2 hlk)
    have hi:q.1<nums.length:=by omega
    have ga:nums.getD q.1 ao=nums[q.1]:=db hi
    have gb:nums.getD q.2 ao=nums[q.2]:=db q2
    have hA:=hsub _ (List.getElem_mem hi)
    have hB:=hsub _ (List.getElem_mem q2)
    have hsm:eM terms (closed terms (aI lits)).1 nums[q.1] nums[q.2]=true:=by
     rw[vY,hlk,ga,gb] at q3
     exact q3
    have hre:=mJ terms (aI lits) (closed terms (aI lits)).1 (closed terms (aI lits)).2 hkept.1 hkids hlen9 hk9 hsl nums[q.1] nums[q.2] hA hB (by rw[←hkept.2];simpa[eM] using hsm)
    rw[l3 rfl q hp]
    rw[ga,gb] at hnx⊢
    obtain⟨i,k⟩:=q
    simp only at hnx hi q2 hre⊢
    obtain⟨r,er⟩:∃r,e5 s terms nums f (lits++[eE nums[i] nums[k]])=r:=⟨_,rfl⟩
    rw[er] at hnx⊢
    simp -implicitDefEqProofs only[go_sem,Option.isSome_some,Option.getD_some,hi,q2]
    refine iK ?_
    refine aC [] (sI nums[i] nums[k]) ?_
    refine aC [] (zd lits (eE nums[i] nums[k]) (by omega)) ?_
    refine oC [] [0] hnx ?_
    refine iK ?_
    rcases Classical.em (r.code=1) with hr|hr
    ·have kr:=eq_true hr
     rw[BI,if_pos hr]
     simp -implicitDefEqProofs only[go_sem,kr]
     refine oC [] [5] hre ?_
     refine iK ?_
     refine aG [some 0] ?_ rfl rfl
     refine sA ?_
     all_goals((repeat' apply And.intro)<;>first|rfl|exact(H9 _).symm)
    ·rw[BI,if_neg hr]
     simp -implicitDefEqProofs only[go_sem,hr]
     refine aG [some 0] ?_ rfl rfl
     refine sA ?_
     all_goals((repeat' apply And.intro)<;>rfl)
  | none=>
  have co2:=L2 s terms nums (closed terms (aI lits)).1 lits hnum h4
  simp -implicitDefEqProofs only[go_sem,Option.isSome_none,Option.getD_none]
  refine cz [] [8,1,2,0] co2 ?_ ?_
  ·refine sA ?_
   first|rfl|((repeat' apply And.intro)<;>rfl)
  refine sA ?_
  cases hq:bj nums.length (dj false terms nums (closed terms (aI lits)).1 lits) with
  | some q=>
    obtain⟨q1,q2,q3⟩:=iB hq
    have hnx:=npa q.1 q.2 q1 q2 (sk q3)
    have hne:=nne q.1 q.2 q1 q2
    have hi:q.1<nums.length:=by omega
    have ga:nums.getD q.1 ao=nums[q.1]:=db hi
    have gb:nums.getD q.2 ao=nums[q.2]:=db q2
    have tA:=hnum _ (List.getElem_mem hi)
    have tB:=hnum _ (List.getElem_mem q2)
    have hR:=l4 rfl hp q hq
    rw[ga,gb] at hnx hne hR
    obtain⟨i0,k0⟩:=q
    simp only at hnx hne hi q2 tA tB hR
    obtain⟨R,eR⟩:∃R,e5 s terms nums (f+1) lits=R:=⟨_,rfl⟩
    rw[eR] at hR⊢
    have hp3:(gL nums[i0] nums[k0]).length=3:=rfl
    simp -implicitDefEqProofs only[go_sem,Option.isSome_some,Option.getD_some,hi,q2]
    refine iK ?_
    obtain⟨a,ha⟩:∃a,nums[i0]=a:=⟨_,rfl⟩
    obtain⟨b,hb⟩:∃b,nums[k0]=b:=⟨_,rfl⟩
    rw[ha] at hnx hne tA hR hp3
    rw[hb] at hnx hne tB hR hp3
    simp -implicitDefEqProofs only[go_sem,ha,hb]
    refine aC [] (dL a) ?_
    refine aC [] (dL b) ?_
    refine iK ?_
    refine aC [] (Af a b tA tB) ?_
    refine bQ hm (fun(i:Nat) (out:List Case)=> i≤3∧out.length=i∧R=pf (e5 s terms nums f) a b (((gL a b).drop i).map fun l=>lits++[l]) out) (fun(i:Nat) (out:List Case)=> ⟨b9 205 .any [(2,.ptr 1 0),(3,.ptr 2 0),(4,.ptr 3 0),(5,.ptr 4 0),(29,.ptr 5 0),(160,lv (ay (gL a b))),(161,iv (gL a b).length),(162,iv i)],[some (.box (bn (fW s terms nums))),some (.box [.ptr 0 0]),some (.box [lv (ay lits)]),some (.box (bn (eO iU))),some (.box (bn (tm ov))),some (.box [iv 4,iv 0,iv 0,iv 0,sv [],lv [],lv [],lv [],sv a.name,lv (aj a.kids),sv b.name,lv (aj b.kids),.acc 6]),some (.acc 42 (dD out))]⟩) (fun(i:Nat) (out:List Case)=> 3-i) (0) ([]) ?_ (ah [some 0,some 1,some 2,some 3,some 4,some 12,none] ?_ ?_ rfl rfl) ?_
    rotate_left
    ·exact sC
    ·refine sA ?_
     all_goals(((repeat' apply And.intro)<;>rfl))
    rotate_left
    ·exact⟨by omega,rfl,hR⟩
    ·rintro i out ⟨hi9,ho,hg⟩
     have hol:out.length≤3:=by omega
     rcases Classical.em (i<3) with h1|h1
     ·have h1':i<(gL a b).length:=by omega
      have hr:=next _ (hnx _ (List.getElem_mem h1'))
      rw[List.drop_eq_getElem_cons h1',List.map_cons,ry] at hg
      obtain⟨x,hx⟩:∃x,(gL a b)[i]=x:=⟨_,rfl⟩
      rw[hx] at hr hg
      obtain⟨r,er⟩:∃r,e5 s terms nums f (lits++[x])=r:=⟨_,rfl⟩
      rw[er] at hr hg
      simp -implicitDefEqProofs only[go_sem,h1',hx]
      refine aC [] (zd lits x (by omega)) ?_
      refine oC [] [0] hr ?_
      refine iK ?_
      rcases Classical.em (r.code=1) with hcd|hcd
      ·rw[if_pos hcd] at hg
       have kc:=eq_true hcd
       simp -implicitDefEqProofs only[go_sem,kc]
       repeat(with_reducible apply And.intro;exact sO)
       refine⟨i+1,out++[r.case],?_,?_,ah [some 0,some 1,some 2,some 3,some 4,some 5,some 10] ?_ ?_ rfl rfl⟩
       rotate_left
       ·show _ < _
        omega
       ·exact sC
       ·refine sA ?_
        all_goals((rw[←Cl,qS,nw];rfl))
       exact⟨by omega,by simp[ho],hg⟩
      ·rw[if_neg hcd] at hg
       simp -implicitDefEqProofs only[go_sem,hcd]
       refine aG [some 0] ?_ rfl rfl
       refine sA ?_
       rw[hg]
       all_goals((repeat' apply And.intro)<;>rfl)
     ·have h1':¬i<(gL a b).length:=by omega
      rw[List.drop_of_length_le (by omega),List.map_nil,uX] at hg
      simp -implicitDefEqProofs only[go_sem,h1']
      refine iK ?_
      refine aG [some 0] ?_ rfl rfl
      refine sA ?_
      rw[hg]
      all_goals((repeat' apply And.intro)<;>rfl)
  | none=>
  have cmo:=C1 s terms nums (closed terms (aI lits)).1 (closed terms (aI lits)).2 aw hIns hkids hnd hcl hcb v4 Sf h4 (by omega) hk9
  have cal:=xg s ⟨cV terms nums (closed terms (aI lits)).1 aw⟩ lits (by omega)
  rw[l5 rfl hp hq]
  simp -implicitDefEqProofs only[go_sem,Option.isSome_none,Option.getD_none]
  refine cz [] [0,5] cmo ?_ ?_
  ·refine sA ?_
   first|rfl|((repeat' apply And.intro)<;>rfl)
  refine sA ?_
  refine aC [] cal ?_
  refine iK ?_
  cases hm2:c6 s ⟨cV terms nums (closed terms (aI lits)).1 aw⟩ lits
  ·rw[if_neg (by simp)]
   refine sA ?_
   refine aG [some 0] ?_ rfl rfl
   refine sA ?_
   all_goals((repeat' apply And.intro)<;>rfl)
  ·rw[if_pos rfl]
   refine sA ?_
   refine aG [some 0] ?_ rfl rfl
   refine sA ?_
   all_goals((repeat' apply And.intro)<;>rfl)
 ·rw[l1 rfl]
  refine sA ?_
  refine aG [some 0] ?_ rfl rfl
  refine sA ?_
  all_goals((repeat' apply And.intro)<;>rfl)
 ·rw[l2 (by decide) (by decide)]
  simp -implicitDefEqProofs only[go_sem,Z1]
  refine aG [some 0] ?_ rfl rfl
  refine sA ?_
  all_goals((repeat' apply And.intro)<;>rfl)
 ·rw[l2 (by decide) (by decide)]
  simp -implicitDefEqProofs only[go_sem,Z1]
  refine aG [some 0] ?_ rfl rfl
  refine sA ?_
  all_goals((repeat' apply And.intro)<;>rfl)
end Go.Proofs.YtpidddienjoleaaGreat
namespace Go.Proofs.YtpidddienjoleaaGreat
open Go.Eng Go.Mod
open Int renaming reduceEq→Z1,reduceLT→Z2,reduceLE→Z3,reduceToNat→Z4
set_option maxRecDepth 100000
set_option maxHeartbeats 6400000
theorem vl(lits:List aE)(hl1:lits.length≤100)(hw:∀l∈lits,aZ l.atom=true):C E.P 38 [lv (ay lits)] [] (aO (lv (aj (ai lits))) []):=by
 obtain⟨hle,hok⟩:=c9 hw
 refine gS (nt:=20) (rs:=[.tmp 2]) hm Tryz.func38 fun hl he hLB=>?_
 refine au hm (fun(i:Nat)=> i≤lits.length) (fun(i:Nat)=> ⟨b9 20 .any [(3,.acc 0),(6,lv (ay lits)),(7,iv lits.length),(8,iv i)],[some (.acc 35 (aj (br (lits.take i))))]⟩) (fun(i:Nat)=> lits.length-i) (0) ?_ (ah [none] ?_ ?_ rfl rfl) ?_
 rotate_left
 ·exact sC
 ·refine sA ?_
  all_goals(rfl)
 rotate_left
 ·omega
 ·rintro i hi
  rcases Classical.em (i<lits.length) with h1|h1
  ·have h2:=c9 (lits:=lits.take i) fun l hl=>hw l (List.mem_of_mem_take hl)
   have h3:=gi (hw lits[i] (List.getElem_mem h1))
   have h4:(lits.take i).length≤100:=by simp;omega
   simp -implicitDefEqProofs only[go_sem,h1]
   refine aC [] (lG lits[i].atom) ?_
   repeat(with_reducible apply And.intro;exact sO)
   refine⟨i+1,?_,?_,ah [some 2] ?_ ?_ rfl rfl⟩
   rotate_left
   ·show _ < _
    omega
   ·exact sC
   ·refine sA ?_
    all_goals((rw[me h1,←fq]))
   exact h1
  ·have e:lits.take i=lits:=List.take_of_length_le (by omega)
   simp -implicitDefEqProofs only[go_sem,h1,e]
   refine oC [] [0,1] (MT (e:=35) (rest:=[]) rfl (jC (br lits) (by omega) hok)) ?_
   refine ab ?_
   refine sA ?_
   rfl
theorem yN(hIns:sH)(s:bA)(lits:List aE):C E.P 10 [av (bF s),lv (ay lits)] [] (aO (DG (fG s lits)) []):=by
 refine gS (nt:=28) (rs:=[.cell 4 32,.cell 5 42,.tmp 6]) hm Tryz.func10 fun hl he hLB=>?_
 refine aC [] (mz s lits) ?_
 cases hok:bG s lits
 ·have e:fG s lits=⟨iU,ov,3⟩:=by simp[fG,hok]
  rw[e]
  refine sA ?_
  refine ab ?_
  refine sA ?_
  all_goals((repeat' apply And.intro)<;>rfl)
 have e:fG s lits=e5 s (ai lits) (numsOf s lits) 13 lits:=by simp[fG,hok]
 have hG:=lj hok
 have h6:=(ju hok).2.2.2.1
 have hroom:=room_le hG.n4 lits
 have hrun:=H0 hIns s (ai lits) (numsOf s lits) 13 lits hG rfl rfl (by omega) (by omega)
 rw[e]
 refine sA ?_
 refine aC [] (vl lits (by omega) hG.wf) ?_
 refine aC [] (jm s lits (by omega) hG.wf) ?_
 refine iK ?_
 refine oC [] [3] hrun ?_
 refine ab ?_
 simp -implicitDefEqProofs only[go_sem]
 all_goals((repeat' apply And.intro)<;>rfl)
end Go.Proofs.YtpidddienjoleaaGreat
namespace Go.Proofs.YtpidddienjoleaaGreat
open Go.Eng Go.Mod
open Int renaming reduceEq→Z1,reduceLT→Z2,reduceLE→Z3,reduceToNat→Z4
set_option maxRecDepth 100000
set_option maxHeartbeats 3200000
theorem Dr(rows:List Mod.Row)(r:Mod.Row)(hl9:rows.length≤1000):C E.P 170 [.acc 0,iv (rows.length:Int),.acc 1] [some (.acc 167 (bm rows)),some (.acc 167 [pG r])] (aO (.acc 2) [some .dead,some .dead,some (.acc 167 (bm (rows.take rows.length++r::rows.drop rows.length)))]):=by
 have e:rows.take rows.length++r::rows.drop rows.length=rows++[r]:=by rw[List.take_length,List.drop_length]
 have hs:bm (rows++[r])=bm rows++[pG r]:=by simp[bm]
 rw[e,hs]
 refine gS (nt:=95) (rs:=[.tmp 6]) hm Tryz.func170 fun hl he hLB=>?_
 refine bU (Fs (.tmp 10) (.tmp 11) 30 167 0 _ _ (bm rows) (rows.length:Int) rfl rfl rfl (by simp -implicitDefEqProofs only[go_sem]) (by simp -implicitDefEqProofs only[go_sem]) (by simp -implicitDefEqProofs only[go_sem]) (by omega) (by simp[bm])) ?_
 simp -implicitDefEqProofs only[go_sem,Z1]
 repeat(with_reducible apply And.intro;exact sO)
 refine aG [some 0,some 1,some 2] ?_ rfl rfl
 exact sC
end Go.Proofs.YtpidddienjoleaaGreat
