/-
  The program: the model of a closure, up to the insertion of rows. A step towards the laws.
-/
import Derived.Test.YtpidddienjoleaaGreatKCzh
import Derived.Test.YtpidddienjoleaaGreatKCc
import Derived.Test.YtpidddienjoleaaGreatKCzf
import Derived.Test.YtpidddienjoleaaGreatKCEl
import Derived.Test.YtpidddienjoleaaGreatKCD
import Derived.Test.YtpidddienjoleaaGreatKCDa
import Derived.Test.YtpidddienjoleaaGreatKCN
import Derived.Test.YtpidddienjoleaaGreatKCO
set_option linter.unusedVariables false
set_option linter.unusedSimpArgs false
namespace Go.Proofs.YtpidddienjoleaaGreat
open Go.Eng Go.Mod
open Int renaming reduceEq→Z1,reduceLT→Z2,reduceLE→Z3,reduceToNat→Z4
set_option maxRecDepth 100000
set_option maxHeartbeats 3200000
theorem HL{E:Env}{o:Oper}{g g':G}{rest:jq→Option (List Ky)→G→Prop}(hw:rG E.P g g')(h:kP E none none o g' rest):kP E none none o g rest:=by
 rcases h with⟨R,δ,h1,h2⟩|⟨_,_,g2,hw2,R,δ,h1,h2⟩
 ·exact .inr ⟨rfl,rfl,g',hw,R,δ,h1,h2⟩
 ·exact .inr ⟨rfl,rfl,g2,hw.trans hw2,R,δ,h1,h2⟩
section
variable(s:bJ)(terms nums:List Term)(c:List Nat)(steps:List Step)(ay:List Mod.Rat)
theorem Er(t:Term)(ht:t∈terms)(hc:c.length=terms.length)(h4v:ay.length=4)(h4:nums.length≤4)(hcb:∀x∈c,x≤1000):C E.P 169 [av (cT t),.ptr 0 0,.ptr 1 0,.ptr 2 0] [some (.box [.ptr 3 0]),some (.box [lv (aP ay)]),some (.box [.ptr 4 0]),some (.box (bn (fK s terms nums))),some (.box [lv (ai terms),lv (aN c),lv (ar steps)])] (aM (av (dm (iu terms nums c ay t))) [some (.box [.ptr 3 0]),some (.box [lv (aP ay)]),some (.box [.ptr 4 0]),some (.box (bn (fK s terms nums))),some (.box [lv (ai terms),lv (aN c),lv (ar steps)])]):=by
 refine gS (nt:=29) (rs:=[.cell 5 57]) hm Tryz.func169 fun hl he hLB=>?_
 refine aC [] (bz nums t) ?_
 refine iK ?_
 rcases Classical.em (t∈nums) with hn|hn
 ·have pN:=bC hn
  have cN:=bm hn
  have pN':au nums t<ay.length:=by omega
  have nn:(0:Int)≤(au nums t:Int):=by omega
  have e:iu terms nums c ay t=ay[au nums t]:=by rw[iu,if_neg (by omega),nv pN']
  simp -implicitDefEqProofs only[go_sem,cN,nn,pN']
  refine aF [some 0,some 1,some 2,some 3,some 4] ?_ rfl rfl
  refine sA ?_
  rw[e]
  all_goals((repeat' apply And.intro)<;>rfl)
 ·have h3:¬ (0:Int)≤a8 nums t:=fun h=>hn (df.1 h)
  have pT:=bC ht
  have pc:au terms t<c.length:=by omega
  have ec:c[au terms t]=cl c (au terms t):=(fc pc).symm
  have hle:=hcb _ (yz pc)
  have e:iu terms nums c ay t=whole (cl c (au terms t)):=by rw[iu,if_pos (by omega)]
  have ca:=rh terms c steps t
  rw[bm ht] at ca
  simp -implicitDefEqProofs only[go_sem,h3]
  refine bG [] [4] ca rfl ?_ ?_ ?_
  ·exact sV
  all_goals simp -implicitDefEqProofs only[go_sem,pc,ec]
  refine aC [] (bD (cl c (au terms t):Int)) ?_
  refine iK ?_
  refine aF [some 0,some 1,some 2,some 3,some 4] ?_ rfl rfl
  refine sA ?_
  rw[e]
  all_goals((repeat' apply And.intro)<;>rfl)
def rK:Prop:=∀(rows:List Mod.Row)(k:Nat)(r:Mod.Row),k≤rows.length→rows.length≤1000→C E.P 170 [.acc 0,iv k,.acc 1] [some (.acc 167 (bh rows)),some (.acc 167 [nW r])] (aM (.acc 2) [some .dead,some .dead,some (.acc 167 (bh (rows.take k++r::rows.drop k)))])
theorem BJ(hIns:rK)(hk:dU terms)(hnd:terms.Nodup)(hc:c.length=terms.length)(hcb:∀x∈c,x≤1000)(h4v:ay.length=4)(hv9:∀x∈ay,bl x=true)(h4:nums.length≤4)(hl9:terms.length≤900)(hk9:∀t∈terms,t.kids.length≤1000) :
 C E.P 104 [.ptr 0 0,.ptr 1 0,lv (aP ay)] [some (.box (bn (fK s terms nums))),some (.box [lv (ai terms),lv (aN c),lv (ar steps)])] (aM (av (dX ⟨fS terms nums c ay⟩)) [some (.box (bn (fK s terms nums))),some (.box [lv (ai terms),lv (aN c),lv (ar steps)])]):=by
 refine gS (nt:=66) (rs:=[.cell 6 32]) hm Tryz.func104 fun hl he hLB=>?_
 refine bP hm (fun(i:Nat) (rows:List Mod.Row)=> i≤terms.length∧rows.length≤i∧(∀x∈rows,bF x.args=true)∧rows.Pairwise (fun a b=>bI a b=true)∧fS terms nums c ay=(terms.drop i).foldl (fun rows t=>putRow rows (eQ terms nums c ay t)) rows) (fun(i:Nat) (rows:List Mod.Row)=> ⟨bW 66 .any [(6,.ptr 5 0),(7,.fn 169 [.ptr 2 0,.ptr 4 0,.ptr 3 0]),(8,.ptr 6 0),(20,lv (ai terms)),(21,iv terms.length),(22,iv i)],[some (.box (bn (fK s terms nums))),some (.box [lv (ai terms),lv (aN c),lv (ar steps)]),some (.box [.ptr 0 0]),some (.box [.ptr 1 0]),some (.box [lv (aP ay)]),some (.box (bn (dX iD))),some (.box [.acc 7]),some (.acc 167 (bh rows))]⟩) (fun(i:Nat) (rows:List Mod.Row)=> terms.length-i) (0) ([]) ?_ (ah [some 0,some 1,some 2,some 3,some 4,some 5,some 6,none] ?_ ?_ rfl rfl) ?_
 rotate_left
 ·exact sC
 ·refine sA ?_
  all_goals(rfl)
 rotate_left
 ·exact⟨Nat.zero_le _,Nat.le_refl _,fun x hx=>(by simp at hx),List.Pairwise.nil,rfl⟩
 ·rintro i rows ⟨hi,hrl,hro,hpw,hg⟩
  rcases Classical.em (i<terms.length) with h1|h1
  ·have mt:=List.getElem_mem h1
   have kt:=hk _ mt
   have kl:=hk9 _ mt
   have hv:=Er s terms nums c steps ay terms[i] mt hc h4v h4 hcb
   rw[List.drop_eq_getElem_cons h1,List.foldl_cons] at hg
   obtain⟨t,ht⟩:∃t,terms[i]=t:=⟨_,rfl⟩
   rw[ht] at hv hg kt kl
   simp -implicitDefEqProofs only[go_sem,h1,ht]
   refine cm [.ptr 2 0,.ptr 4 0,.ptr 3 0] [2,4,3,0,1] hv ?_ ?_
   ·refine sA ?_
    first|rfl|((repeat' apply And.intro)<;>rfl)
   refine sA ?_
   refine iK ?_
   refine al hm (fun(j:Nat)=> j≤t.kids.length) (fun(j:Nat)=> ⟨bW 66 .any [(6,.ptr 5 0),(7,.fn 169 [.ptr 2 0,.ptr 4 0,.ptr 3 0]),(8,.ptr 6 0),(11,.ptr 8 0),(20,lv (ai terms)),(21,iv terms.length),(22,iv i),(33,lv (ai t.kids)),(34,iv t.kids.length),(35,iv j)],[some (.box (bn (fK s terms nums))),some (.box [lv (ai terms),lv (aN c),lv (ar steps)]),some (.box [.ptr 0 0]),some (.box [.ptr 1 0]),some (.box [lv (aP ay)]),some (.box (bn (dX iD))),some (.box [.acc 7]),some (.acc 167 (bh rows)),some (.box [sv t.name,.acc 9,iv (iu terms nums c ay t).N,iv (iu terms nums c ay t).D]),some (.acc 57 (aP ((t.kids.take j).map (iu terms nums c ay))))]⟩) (fun(j:Nat)=> t.kids.length-j) (0) ?_ (ah [some 0,some 1,some 2,some 3,some 4,some 5,some 6,some 7,some 9,none] ?_ ?_ rfl rfl) ?_
   rotate_left
   ·exact sC
   ·exact sC
   rotate_left
   ·omega
   ·rintro j hj
    have hsl:((t.kids.take j).map (iu terms nums c ay)).length≤1000:=by simp;omega
    rcases Classical.em (j<t.kids.length) with h2|h2
    ·have mk:=kt _ (List.getElem_mem h2)
     have hvk:=Er s terms nums c steps ay t.kids[j] mk hc h4v h4 hcb
     have hs:(t.kids.take (j+1)).map (iu terms nums c ay)=(t.kids.take j).map (iu terms nums c ay)++[iu terms nums c ay t.kids[j]]:=by
      rw[List.take_add_one,List.getElem?_eq_getElem h2,List.map_append];rfl
     simp -implicitDefEqProofs only[go_sem,h2]
     refine cm [.ptr 2 0,.ptr 4 0,.ptr 3 0] [2,4,3,0,1] hvk ?_ ?_
     ·refine sA ?_
      first|rfl|((repeat' apply And.intro)<;>rfl)
     refine sA ?_
     repeat(with_reducible apply And.intro;exact sO)
     refine⟨j+1,?_,?_,ah [some 0,some 1,some 2,some 3,some 4,some 5,some 6,some 7,some 8,some 11] ?_ ?_ rfl rfl⟩
     rotate_left
     ·show _ < _
      omega
     ·exact sC
     ·refine sA ?_
      all_goals((rw[hs,←vh,Bs,vi];rfl))
     exact h2
    ·have et:t.kids.take j=t.kids:=List.take_of_length_le (by omega)
     have hrt:bF (eQ terms nums c ay t).args=true:=EZ hcb hv9
     have hbs:=kJ rows (eQ terms nums c ay t) (AN hro hpw hrt) (by omega)
     have hpc:=yq rows (eQ terms nums c ay t)
     have hcl:=GI rows (eQ terms nums c ay t)
     have hlen:=EW rows (eQ terms nums c ay t)
     have hmem:∀x∈putRow rows (eQ terms nums c ay t),bF x.args=true:=fun x hx=>by
      rcases Ga hx with hx|hx
      ·exact hro x hx
      ·rw[hx];exact hrt
     have hpw2:=EO hro hpw hrt
     rw[et]
     simp -implicitDefEqProofs only[go_sem,h2]
     refine bG [] [7,9] hbs rfl ?_ ?_ ?_
     ·exact sV
     all_goals simp -implicitDefEqProofs only[go_sem]
     cases hf:found rows (eQ terms nums c ay t)
     ·rw[hf,if_neg (by simp)] at hpc
      have hin:=hIns rows (cut rows (eQ terms nums c ay t)) (eQ terms nums c ay t) hcl (by omega)
      rw[←hpc] at hin
      refine sA ?_
      refine HL (nD 10 0 [T.leaf (D.str t.name),T.ref 9,T.leaf (D.val (Value.int IntKind.i64 (iu terms nums c ay t).N)),T.leaf (D.val (Value.int IntKind.i64 (iu terms nums c ay t).D))] rfl (by simp) rfl) ?_
      refine sA ?_
      refine HL (Hl 10 (ys:=[nW (eQ terms nums c ay t)]) rfl (by simp only[List.set_cons_zero,aU,bX,T.yF,fQ];try rfl)) ?_
      refine sA ?_
      refine cm [] [7,10,11] hin ?_ ?_<;>simp -implicitDefEqProofs only[go_sem]
      ·rfl
      repeat(with_reducible apply And.intro;case left=>omega)
      refine⟨i+1,putRow rows (eQ terms nums c ay t),?_,?_,ah [some 0,some 1,some 2,some 3,some 4,some 5,some 6,some 11] ?_ ?_ rfl rfl⟩
      rotate_left
      ·show _ < _
       omega
      ·exact sC
      ·exact sC
      exact⟨by omega,by omega,hmem,hpw2,hg⟩
     ·rw[hf,if_pos rfl] at hpc
      rw[hpc] at hg
      refine sA ?_
      repeat(with_reducible apply And.intro;exact sO)
      refine⟨i+1,rows,?_,?_,ah [some 0,some 1,some 2,some 3,some 4,some 5,some 6,some 7] ?_ ?_ rfl rfl⟩
      rotate_left
      ·show _ < _
       omega
      ·exact sC
      ·exact sC
      exact⟨by omega,by omega,hro,hpw,hg⟩
  ·rw[List.drop_of_length_le (by omega),List.foldl_nil] at hg
   simp -implicitDefEqProofs only[go_sem,h1]
   refine aF [some 0,some 1] ?_ rfl rfl
   refine sA ?_
   rw[hg]
   all_goals((repeat' apply And.intro)<;>rfl)
end
end Go.Proofs.YtpidddienjoleaaGreat
namespace Go.Proofs.YtpidddienjoleaaGreat
open Go.Eng Go.Mod
open Int renaming reduceEq→Z1,reduceLT→Z2,reduceLE→Z3,reduceToNat→Z4
set_option maxRecDepth 100000
set_option maxHeartbeats 6400000
theorem I1(ls:List fq):(bf ls).code=0∨(bf ls).code=1∨(bf ls).code=2∨(bf ls).code=3:=by
 unfold bf
 split
 ·split
  ·exact .inr (.inr (.inl rfl))
  ·split
   ·exact .inr (.inr (.inl rfl))
   ·split
    ·exact .inr (.inr (.inl rfl))
    ·split
     ·exact .inr (.inr (.inl rfl))
     ·unfold gr
      split
      ·split
       ·exact .inr (.inl rfl)
       ·exact .inr (.inr (.inl rfl))
      ·split
       ·exact .inr (.inr (.inl rfl))
       ·split
        ·exact .inl rfl
        ·exact .inr (.inr (.inl rfl))
 ·exact .inr (.inr (.inr rfl))
theorem vW(s:bJ)(m:Mod.Model)(lits:List aG)(hl9:lits.length≤1000):C E.P 105 [av (bw s),av (dX m),lv (ax lits)] [] (aM (bv (cQ s m lits)) []):=by
 refine gS (nt:=35) (rs:=[.tmp 6]) hm Tryz.func105 fun hl he hLB=>?_
 refine aC [] (gQ s m) ?_
 cases h0:b9 s m
 ·have e:cQ s m lits=false:=by simp[cQ,h0]
  refine sA ?_
  refine ab ?_
  refine sA ?_
  all_goals(simp[e];done)
 ·have e:cQ s m lits=lits.all fun l=>decide (fa s m l=some true):=by simp[cQ,h0]
  refine sA ?_
  refine al hm (fun(i:Nat)=> i≤lits.length∧cQ s m lits=(lits.drop i).all fun l=>decide (fa s m l=some true)) (fun(i:Nat)=> ⟨bW 35 .any [(3,.ptr 0 0),(4,.ptr 1 0),(15,lv (ax lits)),(16,iv lits.length),(17,iv i)],[some (.box (bn (bw s))),some (.box (bn (dX m)))]⟩) (fun(i:Nat)=> lits.length-i) (0) ?_ (ah [some 0,some 1] ?_ ?_ rfl rfl) ?_
  rotate_left
  ·exact sC
  ·exact sC
  rotate_left
  ·exact⟨Nat.zero_le _,e⟩
  ·rintro i ⟨hi,hg⟩
   rcases Classical.em (i<lits.length) with h1|h1
   ·rw[List.drop_eq_getElem_cons h1,List.all_cons] at hg
    have hco:=wo s m lits[i]
    simp -implicitDefEqProofs only[go_sem,h1]
    refine aC [] hco ?_
    cases h2:fa s m lits[i] with
    | none=>
      rw[h2] at hg
      simp -implicitDefEqProofs only[go_sem,Option.isSome_none,Option.getD_none]
      refine ab ?_
      refine sA ?_
      all_goals(simp[hg];done)
    | some b=>
      rw[h2] at hg
      cases b
      ·simp -implicitDefEqProofs only[go_sem,Option.isSome_some,Option.getD_some]
       refine ab ?_
       refine sA ?_
       all_goals(simp[hg];done)
      ·simp only[decide_true,Bool.true_and] at hg
       simp -implicitDefEqProofs only[go_sem,Option.isSome_some,Option.getD_some]
       repeat(with_reducible apply And.intro;exact sO)
       refine⟨i+1,?_,?_,ah [some 0,some 1] ?_ ?_ rfl rfl⟩
       rotate_left
       ·show _ < _
        omega
       ·exact sC
       ·exact sC
       exact⟨by omega,hg⟩
   ·rw[List.drop_of_length_le (by omega),List.all_nil] at hg
    simp -implicitDefEqProofs only[go_sem,h1]
    refine ab ?_
    refine sA ?_
    all_goals(simp[hg];done)
theorem Fc(a:Case):dy [a]=[r8 a]:=by rw[qf,mW]
def Ct(r:vO):PV:=.eL [av (dX r.model),av (r8 r.case),iv r.code]
attribute [go_sem] Ct
theorem Ff(hIns:rK)(s:bJ)(terms nums:List Term):∀(f:Nat)(lits:List aG),dt s lits→aA lits=terms→numsOf s lits=nums→room nums lits<f→lits.length+f≤50→C E.P 41 [.ptr 0 0,lv (ax lits)] [some (.box (bn (fK s terms nums)))] (aM (Ct (gg s terms nums f lits)) [some (.box (bn (fK s terms nums)))]):=by
 intro f
 induction f with
 | zero=>intro lits hG _ _ h;omega
 | succ f ih=>
 intro lits hG hT hN hroom hlen
 have hel:(aB lits).length≤50:=Nat.le_trans (List.length_filterMap_le _ _) (by omega)
 have next:∀x,Mod.Next s lits x→C E.P 41 [.ptr 0 0,lv (ax (lits++[x]))] [some (.box (bn (fK s terms nums)))] (aM (Ct (gg s terms nums f (lits++[x]))) [some (.box (bn (fK s terms nums)))]):=fun x hx=>by
  obtain⟨g1,g2,g3,g4⟩:=hx
  rw[hN] at g4
  exact ih (lits++[x]) g1 (g2.trans hT) (g3.trans hN) (by omega) (by simp;omega)
 have h4:=hG.n4
 have h24:=hG.n24
 have hkids:=hG.kids
 have hein:=hG.Hz
 have hlen9:=hG.Rg
 have hk9:=hG.QP
 have hkin:=hG.Pr
 have hnum:=hG.num
 have hnd:=hG.nodup
 have hcl:=hG.QV
 have hcb:=hG.Nd
 have hfit:=hG.fit
 have hsub:∀t∈numsOf s lits,t∈aA lits:=mj
 have neq:∀i k,i<k→k<(numsOf s lits).length→Mod.linked (numsOf s lits) lits i k=false→Mod.Next s lits (eO ((numsOf s lits).getD i ao) ((numsOf s lits).getD k ao)):=fun i k h1 h2 h3=>HG hG h1 h2 h3
 have npa:∀i k,i<k→k<(numsOf s lits).length→jD (numsOf s lits) lits i k=true→∀l∈gu ((numsOf s lits).getD i ao) ((numsOf s lits).getD k ao),Mod.Next s lits l:=fun i k h1 h2 h3=>EE hG h1 h2 h3
 have nne:∀i k,i<k→k<(numsOf s lits).length→(numsOf s lits).getD i ao≠(numsOf s lits).getD k ao:=fun i k h1 h2=>HT hG h1 h2
 have hkept:=jg (parts:=aA lits) (eqs:=aB lits) hein
 have hsl:(closed (aA lits) (aB lits)).2.length≤2000000:=by
  have h1:=qP hkept (closed (aA lits) (aB lits)).2.length (Nat.le_refl _)
  have h2:(List.range (aA lits).length).sum≤(List.range (aA lits).length).length*1000:=ml fun x hx=>by have:=List.mem_range.1 hx;omega
  have h3:(List.range (aA lits).length).length*1000≤1000*1000:=Nat.mul_le_mul_right _ (by simpa using hlen9)
  omega
 rw[hT] at hkept hsl h24 hkids hein hlen9 hk9 hkin hnd hcl hcb hsub
 rw[hN] at h4 hnum hfit hsub neq npa nne
 refine gS (nt:=205) (rs:=[.cell 4 32,.cell 5 42,.tmp 6]) hm Tryz.func41 fun hl he hLB=>?_
 refine aC [] (sJ lits (by omega)) ?_
 rcases Classical.em ((12:Int)<((aB lits).length:Int)) with h12|h12
 ·rw[El (by omega)]
  simp -implicitDefEqProofs only[go_sem,h12]
  refine aF [some 0] ?_ rfl rfl
  refine sA ?_
  all_goals((repeat' apply And.intro)<;>rfl)
 have h12':¬12<(aB lits).length:=by omega
 simp -implicitDefEqProofs only[go_sem,h12]
 refine oC [] [5] (qh terms (aB lits) hkids hein hlen9 hk9 (by omega)) ?_
 have ccl:=BZ s terms nums (aB lits) lits hkids hein hlen9 hk9 hkin
 refine cm [] [0,5] ccl ?_ ?_
 ·refine sA ?_
  first|rfl|((repeat' apply And.intro)<;>rfl)
 refine sA ?_
 cases hc:iL (iO terms (closed terms (aB lits)).1) lits with
 | some n=>
   rw[zY h12' hc]
   simp -implicitDefEqProofs only[go_sem,Option.isSome_some]
   refine iK ?_
   refine aF [some 0] ?_ rfl rfl
   refine sA ?_
   all_goals((repeat' apply And.intro)<;>rfl)
 | none=>
 simp -implicitDefEqProofs only[go_sem,Option.isSome_none]
 refine aC [] (zp nums lits h4 (by omega) hfit) ?_
 refine aC [] (y2 (cL nums lits)) ?_
 refine iK ?_
 have hcodes:=I1 (cL nums lits)
 have hfv:=LR (list:=cL nums lits)
 have l1:=EA (s:=s) (terms:=terms) (nums:=nums) (f:=f) h12' hc
 have l2:=Ds (s:=s) (terms:=terms) (nums:=nums) (f:=f) h12' hc
 have l3:=fun h q=>@Ep s terms nums f lits h12' hc h q
 have l4:=fun h hp q=>@sF s terms nums f lits h12' hc h hp q
 have l5:=fun h hp=>@zR s terms nums f lits h12' hc h hp
 generalize bf (cL nums lits)=Jx at *
 obtain⟨ay,times,code⟩:=Jx
 simp only at hcodes hfv l1 l2 l3 l4 l5⊢
 rcases hcodes with rfl|rfl|rfl|rfl
 ·obtain⟨v4,vok⟩:=hfv rfl
  have co1:=KT s terms nums (closed terms (aB lits)).1 (closed terms (aB lits)).2 lits hsub hcl h4
  simp -implicitDefEqProofs only[go_sem,Z1]
  refine oC [] [0] (Bd s terms nums (aB lits) h4 (by omega)) ?_
  refine cm [] [8,9,6,1,5,0] co1 ?_ ?_
  ·refine sA ?_
   first|rfl|((repeat' apply And.intro)<;>rfl)
  refine sA ?_
  cases hp:bp nums.length (eF true terms nums (closed terms (aB lits)).1 lits) with
  | some q=>
    obtain⟨q1,q2,q3⟩:=oZ hp
    have hlk:=sm q3
    have hnx:=next _ (neq q.1 q.2 q1 q2 hlk)
    have hi:q.1<nums.length:=by omega
    have ga:nums.getD q.1 ao=nums[q.1]:=da hi
    have gb:nums.getD q.2 ao=nums[q.2]:=da q2
    have hA:=hsub _ (List.getElem_mem hi)
    have hB:=hsub _ (List.getElem_mem q2)
    have hsm:dG terms (closed terms (aB lits)).1 nums[q.1] nums[q.2]=true:=by
     rw[u7,hlk,ga,gb] at q3
     exact q3
    have hre:=mq terms (aB lits) (closed terms (aB lits)).1 (closed terms (aB lits)).2 hkept.1 hkids hlen9 hk9 hsl nums[q.1] nums[q.2] hA hB (by rw[←hkept.2];simpa[dG] using hsm)
    rw[l3 rfl q hp]
    rw[ga,gb] at hnx⊢
    obtain⟨i,k⟩:=q
    simp only at hnx hi q2 hre⊢
    obtain⟨r,er⟩:∃r,gg s terms nums f (lits++[eO nums[i] nums[k]])=r:=⟨_,rfl⟩
    rw[er] at hnx⊢
    simp -implicitDefEqProofs only[go_sem,Option.isSome_some,Option.getD_some,hi,q2]
    refine iK ?_
    refine aC [] (rM nums[i] nums[k]) ?_
    refine aC [] (x8 lits (eO nums[i] nums[k]) (by omega)) ?_
    refine oC [] [0] hnx ?_
    refine iK ?_
    rcases Classical.em (r.code=1) with hr|hr
    ·have kr:=eq_true hr
     rw[Dn,if_pos hr]
     simp -implicitDefEqProofs only[go_sem,kr]
     refine oC [] [5] hre ?_
     refine iK ?_
     refine aF [some 0] ?_ rfl rfl
     refine sA ?_
     all_goals((repeat' apply And.intro)<;>first|rfl|exact(Fc _).symm)
    ·rw[Dn,if_neg hr]
     simp -implicitDefEqProofs only[go_sem,hr]
     refine aF [some 0] ?_ rfl rfl
     refine sA ?_
     all_goals((repeat' apply And.intro)<;>rfl)
  | none=>
  have co2:=LW s terms nums (closed terms (aB lits)).1 lits hnum h4
  simp -implicitDefEqProofs only[go_sem,Option.isSome_none,Option.getD_none]
  refine cm [] [8,1,2,0] co2 ?_ ?_
  ·refine sA ?_
   first|rfl|((repeat' apply And.intro)<;>rfl)
  refine sA ?_
  cases hq:bp nums.length (eF false terms nums (closed terms (aB lits)).1 lits) with
  | some q=>
    obtain⟨q1,q2,q3⟩:=oZ hq
    have hnx:=npa q.1 q.2 q1 q2 (B8 q3)
    have hne:=nne q.1 q.2 q1 q2
    have hi:q.1<nums.length:=by omega
    have ga:nums.getD q.1 ao=nums[q.1]:=da hi
    have gb:nums.getD q.2 ao=nums[q.2]:=da q2
    have tA:=hnum _ (List.getElem_mem hi)
    have tB:=hnum _ (List.getElem_mem q2)
    have hR:=l4 rfl hp q hq
    rw[ga,gb] at hnx hne hR
    obtain⟨i0,k0⟩:=q
    simp only at hnx hne hi q2 tA tB hR
    obtain⟨R,eR⟩:∃R,gg s terms nums (f+1) lits=R:=⟨_,rfl⟩
    rw[eR] at hR⊢
    have hp3:(gu nums[i0] nums[k0]).length=3:=rfl
    simp -implicitDefEqProofs only[go_sem,Option.isSome_some,Option.getD_some,hi,q2]
    refine iK ?_
    obtain⟨a,ha⟩:∃a,nums[i0]=a:=⟨_,rfl⟩
    obtain⟨b,hb⟩:∃b,nums[k0]=b:=⟨_,rfl⟩
    rw[ha] at hnx hne tA hR hp3
    rw[hb] at hnx hne tB hR hp3
    simp -implicitDefEqProofs only[go_sem,ha,hb]
    refine aC [] (dJ a) ?_
    refine aC [] (dJ b) ?_
    refine iK ?_
    refine aC [] (zI a b tA tB) ?_
    refine bP hm (fun(i:Nat) (out:List Case)=> i≤3∧out.length=i∧R=ob (gg s terms nums f) a b (((gu a b).drop i).map fun l=>lits++[l]) out) (fun(i:Nat) (out:List Case)=> ⟨bW 205 .any [(2,.ptr 1 0),(3,.ptr 2 0),(4,.ptr 3 0),(5,.ptr 4 0),(29,.ptr 5 0),(160,lv (ax (gu a b))),(161,iv (gu a b).length),(162,iv i)],[some (.box (bn (fK s terms nums))),some (.box [.ptr 0 0]),some (.box [lv (ax lits)]),some (.box (bn (dX iD))),some (.box (bn (r8 oY))),some (.box [iv 4,iv 0,iv 0,iv 0,sv [],lv [],lv [],lv [],sv a.name,lv (ai a.kids),sv b.name,lv (ai b.kids),.acc 6]),some (.acc 42 (dy out))]⟩) (fun(i:Nat) (out:List Case)=> 3-i) (0) ([]) ?_ (ah [some 0,some 1,some 2,some 3,some 4,some 12,none] ?_ ?_ rfl rfl) ?_
    rotate_left
    ·exact sC
    ·refine sA ?_
     all_goals(((repeat' apply And.intro)<;>rfl))
    rotate_left
    ·exact⟨by omega,rfl,hR⟩
    ·rintro i out ⟨hi9,ho,hg⟩
     have hol:out.length≤3:=by omega
     rcases Classical.em (i<3) with h1|h1
     ·have h1':i<(gu a b).length:=by omega
      have hr:=next _ (hnx _ (List.getElem_mem h1'))
      rw[List.drop_eq_getElem_cons h1',List.map_cons,qI] at hg
      obtain⟨x,hx⟩:∃x,(gu a b)[i]=x:=⟨_,rfl⟩
      rw[hx] at hr hg
      obtain⟨r,er⟩:∃r,gg s terms nums f (lits++[x])=r:=⟨_,rfl⟩
      rw[er] at hr hg
      simp -implicitDefEqProofs only[go_sem,h1',hx]
      refine aC [] (x8 lits x (by omega)) ?_
      refine oC [] [0] hr ?_
      refine iK ?_
      rcases Classical.em (r.code=1) with hcd|hcd
      ·rw[if_pos hcd] at hg
       have kc:=eq_true hcd
       simp -implicitDefEqProofs only[go_sem,kc]
       repeat(with_reducible apply And.intro;exact sO)
       refine⟨i+1,out++[r.case],?_,?_,ah [some 0,some 1,some 2,some 3,some 4,some 5,some 10] ?_ ?_ rfl rfl⟩
       rotate_left
       ·show _ < _
        omega
       ·exact sC
       ·refine sA ?_
        all_goals((rw[←Cs,qf,mW];rfl))
       exact⟨by omega,by simp[ho],hg⟩
      ·rw[if_neg hcd] at hg
       simp -implicitDefEqProofs only[go_sem,hcd]
       refine aF [some 0] ?_ rfl rfl
       refine sA ?_
       rw[hg]
       all_goals((repeat' apply And.intro)<;>rfl)
     ·have h1':¬i<(gu a b).length:=by omega
      rw[List.drop_of_length_le (by omega),List.map_nil,uC] at hg
      simp -implicitDefEqProofs only[go_sem,h1']
      refine iK ?_
      refine aF [some 0] ?_ rfl rfl
      refine sA ?_
      rw[hg]
      all_goals((repeat' apply And.intro)<;>rfl)
  | none=>
  have cmo:=BJ s terms nums (closed terms (aB lits)).1 (closed terms (aB lits)).2 ay hIns hkids hnd hcl hcb v4 vok h4 (by omega) hk9
  have cal:=vW s ⟨fS terms nums (closed terms (aB lits)).1 ay⟩ lits (by omega)
  rw[l5 rfl hp hq]
  simp -implicitDefEqProofs only[go_sem,Option.isSome_none,Option.getD_none]
  refine cm [] [0,5] cmo ?_ ?_
  ·refine sA ?_
   first|rfl|((repeat' apply And.intro)<;>rfl)
  refine sA ?_
  refine aC [] cal ?_
  refine iK ?_
  cases hm2:cQ s ⟨fS terms nums (closed terms (aB lits)).1 ay⟩ lits
  ·rw[if_neg (by simp)]
   refine sA ?_
   refine aF [some 0] ?_ rfl rfl
   refine sA ?_
   all_goals((repeat' apply And.intro)<;>rfl)
  ·rw[if_pos rfl]
   refine sA ?_
   refine aF [some 0] ?_ rfl rfl
   refine sA ?_
   all_goals((repeat' apply And.intro)<;>rfl)
 ·rw[l1 rfl]
  refine sA ?_
  refine aF [some 0] ?_ rfl rfl
  refine sA ?_
  all_goals((repeat' apply And.intro)<;>rfl)
 ·rw[l2 (by decide) (by decide)]
  simp -implicitDefEqProofs only[go_sem,Z1]
  refine aF [some 0] ?_ rfl rfl
  refine sA ?_
  all_goals((repeat' apply And.intro)<;>rfl)
 ·rw[l2 (by decide) (by decide)]
  simp -implicitDefEqProofs only[go_sem,Z1]
  refine aF [some 0] ?_ rfl rfl
  refine sA ?_
  all_goals((repeat' apply And.intro)<;>rfl)
end Go.Proofs.YtpidddienjoleaaGreat
namespace Go.Proofs.YtpidddienjoleaaGreat
open Go.Eng Go.Mod
open Int renaming reduceEq→Z1,reduceLT→Z2,reduceLE→Z3,reduceToNat→Z4
set_option maxRecDepth 100000
set_option maxHeartbeats 6400000
theorem ug(lits:List aG)(hl1:lits.length≤100)(hw:∀l∈lits,aX l.atom=true):C E.P 38 [lv (ax lits)] [] (aM (lv (ai (aA lits))) []):=by
 obtain⟨hle,hok⟩:=c6 hw
 refine gS (nt:=20) (rs:=[.tmp 2]) hm Tryz.func38 fun hl he hLB=>?_
 refine al hm (fun(i:Nat)=> i≤lits.length) (fun(i:Nat)=> ⟨bW 20 .any [(3,.acc 0),(6,lv (ax lits)),(7,iv lits.length),(8,iv i)],[some (.acc 35 (ai (bq (lits.take i))))]⟩) (fun(i:Nat)=> lits.length-i) (0) ?_ (ah [none] ?_ ?_ rfl rfl) ?_
 rotate_left
 ·exact sC
 ·refine sA ?_
  all_goals(rfl)
 rotate_left
 ·omega
 ·rintro i hi
  rcases Classical.em (i<lits.length) with h1|h1
  ·have h2:=c6 (lits:=lits.take i) fun l hl=>hw l (List.mem_of_mem_take hl)
   have h3:=fP (hw lits[i] (List.getElem_mem h1))
   have h4:(lits.take i).length≤100:=by simp;omega
   simp -implicitDefEqProofs only[go_sem,h1]
   refine aC [] (lz lits[i].atom) ?_
   repeat(with_reducible apply And.intro;exact sO)
   refine⟨i+1,?_,?_,ah [some 2] ?_ ?_ rfl rfl⟩
   rotate_left
   ·show _ < _
    omega
   ·exact sC
   ·refine sA ?_
    all_goals((rw[lM h1,←db]))
   exact h1
  ·have e:lits.take i=lits:=List.take_of_length_le (by omega)
   simp -implicitDefEqProofs only[go_sem,h1,e]
   refine oC [] [0,1] (Kp (e:=35) (rest:=[]) rfl (jj (bq lits) (by omega) hok)) ?_
   refine ab ?_
   refine sA ?_
   rfl
theorem xU(hIns:rK)(s:bJ)(lits:List aG):C E.P 10 [av (bw s),lv (ax lits)] [] (aM (Ct (gU s lits)) []):=by
 refine gS (nt:=28) (rs:=[.cell 4 32,.cell 5 42,.tmp 6]) hm Tryz.func10 fun hl he hLB=>?_
 refine aC [] (p8 s lits) ?_
 cases hok:bO s lits
 ·have e:gU s lits=⟨iD,oY,3⟩:=by simp[gU,hok]
  rw[e]
  refine sA ?_
  refine ab ?_
  refine sA ?_
  all_goals((repeat' apply And.intro)<;>rfl)
 have e:gU s lits=gg s (aA lits) (numsOf s lits) 13 lits:=by simp[gU,hok]
 have hG:=sx hok
 have h6:=(nT hok).2.2.2.1
 have hroom:=room_le hG.n4 lits
 have hrun:=Ff hIns s (aA lits) (numsOf s lits) 13 lits hG rfl rfl (by omega) (by omega)
 rw[e]
 refine sA ?_
 refine aC [] (ug lits (by omega) hG.wf) ?_
 refine aC [] (qx s lits (by omega) hG.wf) ?_
 refine iK ?_
 refine oC [] [3] hrun ?_
 refine ab ?_
 simp -implicitDefEqProofs only[go_sem]
 all_goals((repeat' apply And.intro)<;>rfl)
end Go.Proofs.YtpidddienjoleaaGreat
namespace Go.Proofs.YtpidddienjoleaaGreat
open Go.Eng Go.Mod
open Int renaming reduceEq→Z1,reduceLT→Z2,reduceLE→Z3,reduceToNat→Z4
set_option maxRecDepth 100000
set_option maxHeartbeats 3200000
theorem Bg(rows:List Mod.Row)(r:Mod.Row)(hl9:rows.length≤1000):C E.P 170 [.acc 0,iv (rows.length:Int),.acc 1] [some (.acc 167 (bh rows)),some (.acc 167 [nW r])] (aM (.acc 2) [some .dead,some .dead,some (.acc 167 (bh (rows.take rows.length++r::rows.drop rows.length)))]):=by
 have e:rows.take rows.length++r::rows.drop rows.length=rows++[r]:=by rw[List.take_length,List.drop_length]
 have hs:bh (rows++[r])=bh rows++[nW r]:=by simp[bh]
 rw[e,hs]
 refine gS (nt:=95) (rs:=[.tmp 6]) hm Tryz.func170 fun hl he hLB=>?_
 refine bS (D4 (.tmp 10) (.tmp 11) 30 167 0 _ _ (bh rows) (rows.length:Int) rfl rfl rfl (by simp -implicitDefEqProofs only[go_sem]) (by simp -implicitDefEqProofs only[go_sem]) (by simp -implicitDefEqProofs only[go_sem]) (by omega) (by simp[bh])) ?_
 simp -implicitDefEqProofs only[go_sem,Z1]
 repeat(with_reducible apply And.intro;exact sO)
 refine aF [some 0,some 1,some 2] ?_ rfl rfl
 exact sC
end Go.Proofs.YtpidddienjoleaaGreat
