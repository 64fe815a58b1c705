/-
  The program: the model of a closure, up to the insertion of rows. A step towards the laws.
-/
import Derived.Test.YtabembjmeobhoaaGreatKBzh
import Derived.Test.YtabembjmeobhoaaGreatKBzf
set_option linter.unusedVariables false
set_option linter.unusedSimpArgs false
open And renaming intro→ar
open Classical renaming em→aa
open List renaming drop_eq_getElem_cons→aj,getElem_mem→ak,drop_of_length_le→al,take_of_length_le→ao,range→bt
open Nat renaming le_refl→aI,zero_le→bh
open Option renaming isSome_some→aJ,getD_some→aK,isSome_none→aU,getD_none→aZ
namespace Go.Proofs.YtabembjmeobhoaaGreat
open Go.Eng Go.Mod
open Int renaming reduceEq→Z1,reduceLT→Z2,reduceLE→Z3,reduceToNat→Z4
set_option maxRecDepth 100000
set_option maxHeartbeats 3200000
theorem Rk{E:Env}{o:Oper}{g g':G}{rest:qO→Option (List Ky)→G→Prop}(hw:zR E.P g g')(h:sq E none none o g' rest):sq E none none o g rest:=by
 rcases h with⟨R,δ,h1,h2⟩|⟨_,_,g2,hw2,R,δ,h1,h2⟩
 ·exact .inr ⟨rfl,rfl,g',hw,R,δ,h1,h2⟩
 ·exact .inr ⟨rfl,rfl,g2,hw.trans hw2,R,δ,h1,h2⟩
section
variable(s:dE)(au nums:List Term)(c:List Nat)(af:List Step)(aE:List Mod.Rat)
theorem M1(t:Term)(ht:t∈au)(hc:c.length=au.length)(h4v:aE.length=4)(h4:nums.length≤4)(NU:∀x∈c,x≤1000):C E.P 118 [av (cT t),.ptr 0 0,.ptr 1 0,.ptr 2 0] [some (.box [.ptr 3 0]),some (.box [lv (br aE)]),some (.box [.ptr 4 0]),some (.box (cF (mG s au nums))),some (.box [lv (aP au),lv (bO c),lv (a7 af)])] (bM (av (eO (iI au nums c aE t))) [some (.box [.ptr 3 0]),some (.box [lv (br aE)]),some (.box [.ptr 4 0]),some (.box (cF (mG s au nums))),some (.box [lv (aP au),lv (bO c),lv (a7 af)])]):=by
 refine gS (nt:=29) (rs:=[.cell 5 71]) hm Tryz.func118 fun hl he cI=>?_
 refine aC [] (eE nums t) ?_
 refine iK ?_
 rcases aa (t∈nums) with hn|hn
 ·have pN:=bx hn
  have cN:=b7 hn
  have pN':aH nums t<aE.length:=by omega
  have nn:(0:Int)≤(aH nums t:Int):=by omega
  have e:iI au nums c aE t=aE[aH nums t]:=by rw[iI,if_neg (by omega),getD_at pN']
  simp -implicitDefEqProofs only[go_sem,cN,nn,pN']
  refine bX [some 0,some 1,some 2,some 3,some 4] ?_ rfl rfl
  refine sA ?_
  rw[e]
  all_goals((repeat' apply ar)<;>rfl)
 ·have h3:¬ (0:Int)≤bL nums t:=fun h=>hn (cK.1 h)
  have pT:=bx ht
  have pc:aH au t<c.length:=by omega
  have ec:c[aH au t]=cl c (aH au t):=(gL pc).symm
  have hle:=NU _ (yV pc)
  have e:iI au nums c aE t=whole (cl c (aH au t)):=by rw[iI,if_pos (by omega)]
  have ca:=Cd au c af t
  rw[b7 ht] at ca
  simp -implicitDefEqProofs only[go_sem,h3]
  refine dN [] [4] ca rfl ?_ ?_ ?_
  ·exact sV
  all_goals simp -implicitDefEqProofs only[go_sem,pc,ec]
  refine aC [] (e9 (cl c (aH au t):Int)) ?_
  refine iK ?_
  refine bX [some 0,some 1,some 2,some 3,some 4] ?_ rfl rfl
  refine sA ?_
  rw[e]
  all_goals((repeat' apply ar)<;>rfl)
def A4:Prop:=∀(rows:List Mod.Row)(k:Nat)(r:Mod.Row),k≤rows.length→rows.length≤1000→C E.P 121 [.acc 0,iv k,.acc 1] [some (.acc 73 (bT rows)),some (.acc 73 [qC r])] (bM (.acc 2) [some .dead,some .dead,some (.acc 73 (bT (rows.take k++r::rows.drop k)))])
theorem Ks(hIns:A4)(hk:gQ au)(hnd:au.Nodup)(hc:c.length=au.length)(NU:∀x∈c,x≤1000)(h4v:aE.length=4)(hv9:∀x∈aE,bV x=true)(h4:nums.length≤4)(oW:au.length≤900)(hk9:∀t∈au,t.kids.length≤1000) :
 C E.P 58 [.ptr 0 0,.ptr 1 0,lv (br aE)] [some (.box (cF (mG s au nums))),some (.box [lv (aP au),lv (bO c),lv (a7 af)])] (bM (av (eL ⟨gY au nums c aE⟩)) [some (.box (cF (mG s au nums))),some (.box [lv (aP au),lv (bO c),lv (a7 af)])]):=by
 refine gS (nt:=66) (rs:=[.cell 6 31]) hm Tryz.func58 fun hl he cI=>?_
 refine dm hm (fun(i:Nat) (rows:List Mod.Row)=> i≤au.length∧rows.length≤i∧(∀x∈rows,dC x.args=true)∧rows.Pairwise (fun a b=>dq a b=true)∧gY au nums c aE=(au.drop i).foldl (fun rows t=>putRow rows (iA au nums c aE t)) rows) (fun(i:Nat) (rows:List Mod.Row)=> ⟨dB 66 .any [(6,.ptr 5 0),(7,.fn 118 [.ptr 2 0,.ptr 4 0,.ptr 3 0]),(8,.ptr 6 0),(20,lv (aP au)),(21,iv au.length),(22,iv i)],[some (.box (cF (mG s au nums))),some (.box [lv (aP au),lv (bO c),lv (a7 af)]),some (.box [.ptr 0 0]),some (.box [.ptr 1 0]),some (.box [lv (br aE)]),some (.box (cF (eL l8))),some (.box [.acc 7]),some (.acc 73 (bT rows))]⟩) (fun(i:Nat) (rows:List Mod.Row)=> au.length-i) (0) ([]) ?_ (aw [some 0,some 1,some 2,some 3,some 4,some 5,some 6,none] ?_ ?_ rfl rfl) ?_
 rotate_left
 ·exact sC
 ·refine sA ?_
  all_goals(rfl)
 rotate_left
 ·exact⟨bh _,aI _,fun x hx=>(by simp at hx),List.Pairwise.nil,rfl⟩
 ·rintro i rows ⟨hi,hrl,hro,hpw,hg⟩
  rcases aa (i<au.length) with h1|h1
  ·have mt:=ak h1
   have kt:=hk _ mt
   have kl:=hk9 _ mt
   have hv:=M1 s au nums c af aE au[i] mt hc h4v h4 NU
   rw[aj h1,List.foldl_cons] at hg
   obtain⟨t,ht⟩:∃t,au[i]=t:=⟨_,rfl⟩
   rw[ht] at hv hg kt kl
   simp -implicitDefEqProofs only[go_sem,h1,ht]
   refine gp [.ptr 2 0,.ptr 4 0,.ptr 3 0] [2,4,3,0,1] hv ?_ ?_
   ·refine sA ?_
    first|rfl|((repeat' apply ar)<;>rfl)
   refine sA ?_
   refine iK ?_
   refine aO hm (fun(j:Nat)=> j≤t.kids.length) (fun(j:Nat)=> ⟨dB 66 .any [(6,.ptr 5 0),(7,.fn 118 [.ptr 2 0,.ptr 4 0,.ptr 3 0]),(8,.ptr 6 0),(11,.ptr 8 0),(20,lv (aP au)),(21,iv au.length),(22,iv i),(33,lv (aP t.kids)),(34,iv t.kids.length),(35,iv j)],[some (.box (cF (mG s au nums))),some (.box [lv (aP au),lv (bO c),lv (a7 af)]),some (.box [.ptr 0 0]),some (.box [.ptr 1 0]),some (.box [lv (br aE)]),some (.box (cF (eL l8))),some (.box [.acc 7]),some (.acc 73 (bT rows)),some (.box [sv t.name,.acc 9,iv (iI au nums c aE t).N,iv (iI au nums c aE t).D]),some (.acc 71 (br ((t.kids.take j).map (iI au nums c aE))))]⟩) (fun(j:Nat)=> t.kids.length-j) (0) ?_ (aw [some 0,some 1,some 2,some 3,some 4,some 5,some 6,some 7,some 9,none] ?_ ?_ rfl rfl) ?_
   rotate_left
   ·exact sC
   ·exact sC
   rotate_left
   ·omega
   ·rintro j hj
    have hsl:((t.kids.take j).map (iI au nums c aE)).length≤1000:=by simp;omega
    rcases aa (j<t.kids.length) with h2|h2
    ·have mk:=kt _ (ak h2)
     have hvk:=M1 s au nums c af aE t.kids[j] mk hc h4v h4 NU
     have hs:(t.kids.take (j+1)).map (iI au nums c aE)=(t.kids.take j).map (iI au nums c aE)++[iI au nums c aE t.kids[j]]:=by
      rw[List.take_add_one,List.getElem?_eq_getElem h2,List.map_append];rfl
     simp -implicitDefEqProofs only[go_sem,h2]
     refine gp [.ptr 2 0,.ptr 4 0,.ptr 3 0] [2,4,3,0,1] hvk ?_ ?_
     ·refine sA ?_
      first|rfl|((repeat' apply ar)<;>rfl)
     refine sA ?_
     refine sQ ?_
     refine⟨j+1,?_,sL,aw [some 0,some 1,some 2,some 3,some 4,some 5,some 6,some 7,some 8,some 11] ?_ ?_ rfl rfl⟩
     rotate_left
     ·exact sC
     ·refine sA ?_
      all_goals((rw[hs,←sR,uW,s5];rfl))
     exact h2
    ·have et:t.kids.take j=t.kids:=ao (by omega)
     have hrt:dC (iA au nums c aE t).args=true:=rP NU hv9
     have hbs:=rT rows (iA au nums c aE t) (IC hro hpw hrt) (by omega)
     have hpc:=r7 rows (iA au nums c aE t)
     have hcl:=Pu rows (iA au nums c aE t)
     have dy:=GF rows (iA au nums c aE t)
     have hmem:∀x∈putRow rows (iA au nums c aE t),dC x.args=true:=fun x hx=>by
      rcases GY hx with hx|hx
      ·exact hro x hx
      ·rw[hx];exact hrt
     have hpw2:=NM hro hpw hrt
     rw[et]
     simp -implicitDefEqProofs only[go_sem,h2]
     refine dN [] [7,9] hbs rfl ?_ ?_ ?_
     ·exact sV
     all_goals simp -implicitDefEqProofs only[go_sem]
     cases hf:found rows (iA au nums c aE t)
     ·rw[hf,if_neg (by simp)] at hpc
      have ki:=hIns rows (cut rows (iA au nums c aE t)) (iA au nums c aE t) hcl (by omega)
      rw[←hpc] at ki
      refine sA ?_
      refine Rk (u5 10 0 [T.leaf (D.str t.name),T.ref 9,T.leaf (D.val (Value.int IntKind.i64 (iI au nums c aE t).N)),T.leaf (D.val (Value.int IntKind.i64 (iI au nums c aE t).D))] rfl (by simp) rfl) ?_
      refine sA ?_
      refine Rk (Rj 10 (ys:=[qC (iA au nums c aE t)]) rfl (by simp only[List.set_cons_zero,cR,fT,T.FD,mT];try rfl)) ?_
      refine sA ?_
      refine gp [] [7,10,11] ki ?_ ?_<;>simp -implicitDefEqProofs only[go_sem]
      ·rfl
      repeat(with_reducible apply ar;case left=>omega)
      refine⟨i+1,putRow rows (iA au nums c aE t),?_,sL,aw [some 0,some 1,some 2,some 3,some 4,some 5,some 6,some 11] ?_ ?_ rfl rfl⟩
      rotate_left
      ·exact sC
      ·exact sC
      exact⟨by omega,by omega,hmem,hpw2,hg⟩
     ·rw[hf,if_pos rfl] at hpc
      rw[hpc] at hg
      refine sA ?_
      refine sQ ?_
      refine⟨i+1,rows,?_,sL,aw [some 0,some 1,some 2,some 3,some 4,some 5,some 6,some 7] ?_ ?_ rfl rfl⟩
      rotate_left
      ·exact sC
      ·exact sC
      exact⟨by omega,by omega,hro,hpw,hg⟩
  ·rw[al (by omega),List.foldl_nil] at hg
   simp -implicitDefEqProofs only[go_sem,h1]
   refine bX [some 0,some 1] ?_ rfl rfl
   refine sA ?_
   rw[hg]
   all_goals((repeat' apply ar)<;>rfl)
end
set_option maxHeartbeats 6400000
theorem R8(ls:List ib):(bN ls).code=0∨(bN ls).code=1∨(bN ls).code=2∨(bN ls).code=3:=by
 unfold bN
 split
 ·split
  ·exact .inr (.inr (.inl rfl))
  ·split
   ·exact .inr (.inr (.inl rfl))
   ·split
    ·exact .inr (.inr (.inl rfl))
    ·split
     ·exact .inr (.inr (.inl rfl))
     ·unfold ie
      split
      ·split
       ·exact .inr (.inl rfl)
       ·exact .inr (.inr (.inl rfl))
      ·split
       ·exact .inr (.inr (.inl rfl))
       ·split
        ·exact .inl rfl
        ·exact .inr (.inr (.inl rfl))
 ·exact .inr (.inr (.inr rfl))
theorem DC(s:dE)(m:Mod.Model)(ab:List bp)(oW:ab.length≤1000):C E.P 10 [av (dZ s),av (eL m),lv (a6 ab)] [] (bM (bv (eS s m ab)) []):=by
 refine gS (nt:=35) (rs:=[.tmp 6]) hm Tryz.func10 fun hl he cI=>?_
 refine aC [] (xi s m) ?_
 cases h0:e6 s m
 ·have e:eS s m ab=false:=by simp[eS,h0]
  refine sA ?_
  refine an ?_
  refine sA ?_
  all_goals(simp[e];done)
 ·have e:eS s m ab=ab.all fun l=>decide (fW s m l=some true):=by simp[eS,h0]
  refine sA ?_
  refine aO hm (fun(i:Nat)=> i≤ab.length∧eS s m ab=(ab.drop i).all fun l=>decide (fW s m l=some true)) (fun(i:Nat)=> ⟨dB 35 .any [(3,.ptr 0 0),(4,.ptr 1 0),(15,lv (a6 ab)),(16,iv ab.length),(17,iv i)],[some (.box (cF (dZ s))),some (.box (cF (eL m)))]⟩) (fun(i:Nat)=> ab.length-i) (0) ?_ (aw [some 0,some 1] ?_ ?_ rfl rfl) ?_
  rotate_left
  ·exact sC
  ·exact sC
  rotate_left
  ·exact⟨bh _,e⟩
  ·rintro i ⟨hi,hg⟩
   rcases aa (i<ab.length) with h1|h1
   ·rw[aj h1,List.all_cons] at hg
    have hco:=Dt s m ab[i]
    simp -implicitDefEqProofs only[go_sem,h1]
    refine aC [] hco ?_
    cases h2:fW s m ab[i] with
    | none=>
      rw[h2] at hg
      simp -implicitDefEqProofs only[go_sem,aU,aZ]
      refine an ?_
      refine sA ?_
      all_goals(simp[hg];done)
    | some b=>
      rw[h2] at hg
      cases b
      ·simp -implicitDefEqProofs only[go_sem,aJ,aK]
       refine an ?_
       refine sA ?_
       all_goals(simp[hg];done)
      ·simp only[decide_true,Bool.true_and] at hg
       simp -implicitDefEqProofs only[go_sem,aJ,aK]
       refine sQ ?_
       refine⟨i+1,?_,sL,aw [some 0,some 1] ?_ ?_ rfl rfl⟩
       rotate_left
       ·exact sC
       ·exact sC
       exact⟨by omega,hg⟩
   ·rw[al (by omega),List.all_nil] at hg
    simp -implicitDefEqProofs only[go_sem,h1]
    refine an ?_
    refine sA ?_
    all_goals(simp[hg];done)
theorem Ox(a:Case):iR [a]=[tX a]:=by rw[p8,oG]
def JP(r:y6):PV:=.jd [av (eL r.model),av (tX r.case),iv r.code]
attribute [go_sem] JP
theorem Ou(hIns:A4)(s:dE)(au nums:List Term):∀(f:Nat)(ab:List bp),ia s ab→aA ab=au→numsOf s ab=nums→room nums ab<f→ab.length+f≤50→C E.P 18 [.ptr 0 0,lv (a6 ab)] [some (.box (cF (mG s au nums)))] (bM (JP (hY s au nums f ab)) [some (.box (cF (mG s au nums)))]):=by
 intro f
 induction f with
 | zero=>intro ab hG _ _ h;omega
 | succ f ih=>
 intro ab hG hT hN hroom dy
 have hel:(bc ab).length≤50:=Nat.le_trans (List.length_filterMap_le _ _) (by omega)
 have next:∀x,Mod.Next s ab x→C E.P 18 [.ptr 0 0,lv (a6 (ab++[x]))] [some (.box (cF (mG s au nums)))] (bM (JP (hY s au nums f (ab++[x]))) [some (.box (cF (mG s au nums)))]):=fun x hx=>by
  obtain⟨g1,g2,g3,g4⟩:=hx
  rw[hN] at g4
  exact ih (ab++[x]) g1 (g2.trans hT) (g3.trans hN) (by omega) (by simp;omega)
 have h4:=hG.n4
 have h24:=hG.n24
 have hkids:=hG.kids
 have hein:=hG.Aa
 have hlen9:=hG.Tg
 have hk9:=hG.Mv
 have hkin:=hG.JX
 have hnum:=hG.num
 have hnd:=hG.nodup
 have hcl:=hG.Nd
 have NU:=hG.J7
 have hfit:=hG.fit
 have mq:∀t∈numsOf s ab,t∈aA ab:=ov
 have neq:∀i k,i<k→k<(numsOf s ab).length→Mod.linked (numsOf s ab) ab i k=false→Mod.Next s ab (gJ ((numsOf s ab).getD i aL) ((numsOf s ab).getD k aL)):=fun i k h1 h2 h3=>Ev hG h1 h2 h3
 have npa:∀i k,i<k→k<(numsOf s ab).length→qE (numsOf s ab) ab i k=true→∀l∈fJ ((numsOf s ab).getD i aL) ((numsOf s ab).getD k aL),Mod.Next s ab l:=fun i k h1 h2 h3=>w9 hG h1 h2 h3
 have nne:∀i k,i<k→k<(numsOf s ab).length→(numsOf s ab).getD i aL≠(numsOf s ab).getD k aL:=fun i k h1 h2=>AL hG h1 h2
 have hkept:=mu (ae:=aA ab) (eqs:=bc ab) hein
 have hsl:(closed (aA ab) (bc ab)).2.length≤2000000:=by
  have h1:=vh hkept (closed (aA ab) (bc ab)).2.length (aI _)
  have h2:(bt (aA ab).length).sum≤(bt (aA ab).length).length*1000:=pw fun x hx=>by have:=List.mem_range.1 hx;omega
  have h3:(bt (aA ab).length).length*1000≤1000*1000:=Nat.mul_le_mul_right _ (by simpa using hlen9)
  omega
 rw[hT] at hkept hsl h24 hkids hein hlen9 hk9 hkin hnd hcl NU mq
 rw[hN] at h4 hnum hfit mq neq npa nne
 refine gS (nt:=205) (rs:=[.cell 4 31,.cell 5 41,.tmp 6]) hm Tryz.func18 fun hl he cI=>?_
 refine aC [] (K6 ab (by omega)) ?_
 rcases aa ((12:Int)<((bc ab).length:Int)) with h12|h12
 ·rw[tU (by omega)]
  simp -implicitDefEqProofs only[go_sem,h12]
  refine bX [some 0] ?_ rfl rfl
  refine sA ?_
  all_goals((repeat' apply ar)<;>rfl)
 have h12':¬12<(bc ab).length:=by omega
 simp -implicitDefEqProofs only[go_sem,h12]
 refine oC [] [5] (Hc au (bc ab) hkids hein hlen9 hk9 (by omega)) ?_
 have ccl:=Kp s au nums (bc ab) ab hkids hein hlen9 hk9 hkin
 refine gp [] [0,5] ccl ?_ ?_
 ·refine sA ?_
  first|rfl|((repeat' apply ar)<;>rfl)
 refine sA ?_
 cases hc:kf (iZ au (closed au (bc ab)).1) ab with
 | some n=>
   rw[rv h12' hc]
   simp -implicitDefEqProofs only[go_sem,aJ]
   refine iK ?_
   refine bX [some 0] ?_ rfl rfl
   refine sA ?_
   all_goals((repeat' apply ar)<;>rfl)
 | none=>
 simp -implicitDefEqProofs only[go_sem,aU]
 refine aC [] (HU nums ab h4 (by omega) hfit) ?_
 refine aC [] (HD (dQ nums ab)) ?_
 refine iK ?_
 have hcodes:=R8 (dQ nums ab)
 have hfv:=zU (list:=dQ nums ab)
 have l1:=ue (s:=s) (au:=au) (nums:=nums) (f:=f) h12' hc
 have l2:=ud (s:=s) (au:=au) (nums:=nums) (f:=f) h12' hc
 have l3:=fun h q=>@uj s au nums f ab h12' hc h q
 have l4:=fun h hp q=>@qh s au nums f ab h12' hc h hp q
 have l5:=fun h hp=>@ru s au nums f ab h12' hc h hp
 generalize bN (dQ nums ab)=IA at *
 obtain⟨aE,times,code⟩:=IA
 simp only at hcodes hfv l1 l2 l3 l4 l5⊢
 rcases hcodes with rfl|rfl|rfl|rfl
 ·obtain⟨v4,ZN⟩:=hfv rfl
  have co1:=Vi s au nums (closed au (bc ab)).1 (closed au (bc ab)).2 ab mq hcl h4
  simp -implicitDefEqProofs only[go_sem,Z1]
  refine oC [] [0] (KY s au nums (bc ab) h4 (by omega)) ?_
  refine gp [] [8,9,6,1,5,0] co1 ?_ ?_
  ·refine sA ?_
   first|rfl|((repeat' apply ar)<;>rfl)
  refine sA ?_
  cases hp:b6 nums.length (dY true au nums (closed au (bc ab)).1 ab) with
  | some q=>
    obtain⟨q1,q2,q3⟩:=kM hp
    have hlk:=q9 q3
    have hnx:=next _ (neq q.1 q.2 q1 q2 hlk)
    have hi:q.1<nums.length:=by omega
    have ga:nums.getD q.1 aL=nums[q.1]:=eX hi
    have gb:nums.getD q.2 aL=nums[q.2]:=eX q2
    have hA:=mq _ (ak hi)
    have hB:=mq _ (ak q2)
    have hsm:fS au (closed au (bc ab)).1 nums[q.1] nums[q.2]=true:=by
     rw[CH,hlk,ga,gb] at q3
     exact q3
    have hre:=tP au (bc ab) (closed au (bc ab)).1 (closed au (bc ab)).2 hkept.1 hkids hlen9 hk9 hsl nums[q.1] nums[q.2] hA hB (by rw[←hkept.2];simpa[fS] using hsm)
    rw[l3 rfl q hp]
    rw[ga,gb] at hnx⊢
    obtain⟨i,k⟩:=q
    simp only at hnx hi q2 hre⊢
    obtain⟨r,er⟩:∃r,hY s au nums f (ab++[gJ nums[i] nums[k]])=r:=⟨_,rfl⟩
    rw[er] at hnx⊢
    simp -implicitDefEqProofs only[go_sem,aJ,aK,hi,q2]
    refine iK ?_
    refine aC [] (Ai nums[i] nums[k]) ?_
    refine aC [] (Gw ab (gJ nums[i] nums[k]) (by omega)) ?_
    refine oC [] [0] hnx ?_
    refine iK ?_
    rcases aa (r.code=1) with hr|hr
    ·have kr:=eq_true hr
     rw[yd,if_pos hr]
     simp -implicitDefEqProofs only[go_sem,kr]
     refine oC [] [5] hre ?_
     refine iK ?_
     refine bX [some 0] ?_ rfl rfl
     refine sA ?_
     all_goals((repeat' apply ar)<;>first|rfl|exact(Ox _).symm)
    ·rw[yd,if_neg hr]
     simp -implicitDefEqProofs only[go_sem,hr]
     refine bX [some 0] ?_ rfl rfl
     refine sA ?_
     all_goals((repeat' apply ar)<;>rfl)
  | none=>
  have co2:=V2 s au nums (closed au (bc ab)).1 ab hnum h4
  simp -implicitDefEqProofs only[go_sem,aU,aZ]
  refine gp [] [8,1,2,0] co2 ?_ ?_
  ·refine sA ?_
   first|rfl|((repeat' apply ar)<;>rfl)
  refine sA ?_
  cases hq:b6 nums.length (dY false au nums (closed au (bc ab)).1 ab) with
  | some q=>
    obtain⟨q1,q2,q3⟩:=kM hq
    have hnx:=npa q.1 q.2 q1 q2 (uA q3)
    have jv:=nne q.1 q.2 q1 q2
    have hi:q.1<nums.length:=by omega
    have ga:nums.getD q.1 aL=nums[q.1]:=eX hi
    have gb:nums.getD q.2 aL=nums[q.2]:=eX q2
    have tA:=hnum _ (ak hi)
    have tB:=hnum _ (ak q2)
    have hR:=l4 rfl hp q hq
    rw[ga,gb] at hnx jv hR
    obtain⟨i0,k0⟩:=q
    simp only at hnx jv hi q2 tA tB hR
    obtain⟨R,eR⟩:∃R,hY s au nums (f+1) ab=R:=⟨_,rfl⟩
    rw[eR] at hR⊢
    have hp3:(fJ nums[i0] nums[k0]).length=3:=rfl
    simp -implicitDefEqProofs only[go_sem,aJ,aK,hi,q2]
    refine iK ?_
    obtain⟨a,ha⟩:∃a,nums[i0]=a:=⟨_,rfl⟩
    obtain⟨b,hb⟩:∃b,nums[k0]=b:=⟨_,rfl⟩
    rw[ha] at hnx jv tA hR hp3
    rw[hb] at hnx jv tB hR hp3
    simp -implicitDefEqProofs only[go_sem,ha,hb]
    refine aC [] (jX a) ?_
    refine aC [] (jX b) ?_
    refine iK ?_
    refine aC [] (HE a b tA tB) ?_
    refine dm hm (fun(i:Nat) (out:List Case)=> i≤3∧out.length=i∧R=n8 (hY s au nums f) a b (((fJ a b).drop i).map fun l=>ab++[l]) out) (fun(i:Nat) (out:List Case)=> ⟨dB 205 .any [(2,.ptr 1 0),(3,.ptr 2 0),(4,.ptr 3 0),(5,.ptr 4 0),(29,.ptr 5 0),(160,lv (a6 (fJ a b))),(161,iv (fJ a b).length),(162,iv i)],[some (.box (cF (mG s au nums))),some (.box [.ptr 0 0]),some (.box [lv (a6 ab)]),some (.box (cF (eL l8))),some (.box (cF (tX s7))),some (.box [iv 4,iv 0,iv 0,iv 0,sv [],lv [],lv [],lv [],sv a.name,lv (aP a.kids),sv b.name,lv (aP b.kids),.acc 6]),some (.acc 41 (iR out))]⟩) (fun(i:Nat) (out:List Case)=> 3-i) (0) ([]) ?_ (aw [some 0,some 1,some 2,some 3,some 4,some 12,none] ?_ ?_ rfl rfl) ?_
    rotate_left
    ·exact sC
    ·refine sA ?_
     all_goals(((repeat' apply ar)<;>rfl))
    rotate_left
    ·exact⟨by omega,rfl,hR⟩
    ·rintro i out ⟨hi9,ho,hg⟩
     have hol:out.length≤3:=by omega
     rcases aa (i<3) with h1|h1
     ·have h1':i<(fJ a b).length:=by omega
      have hr:=next _ (hnx _ (ak h1'))
      rw[aj h1',List.map_cons,nJ] at hg
      obtain⟨x,hx⟩:∃x,(fJ a b)[i]=x:=⟨_,rfl⟩
      rw[hx] at hr hg
      obtain⟨r,er⟩:∃r,hY s au nums f (ab++[x])=r:=⟨_,rfl⟩
      rw[er] at hr hg
      simp -implicitDefEqProofs only[go_sem,h1',hx]
      refine aC [] (Gw ab x (by omega)) ?_
      refine oC [] [0] hr ?_
      refine iK ?_
      rcases aa (r.code=1) with hcd|hcd
      ·rw[if_pos hcd] at hg
       have kc:=eq_true hcd
       simp -implicitDefEqProofs only[go_sem,kc]
       refine sQ ?_
       refine⟨i+1,out++[r.case],?_,sL,aw [some 0,some 1,some 2,some 3,some 4,some 5,some 10] ?_ ?_ rfl rfl⟩
       rotate_left
       ·exact sC
       ·refine sA ?_
        all_goals((rw[←AG,p8,oG];rfl))
       exact⟨by omega,by simp[ho],hg⟩
      ·rw[if_neg hcd] at hg
       simp -implicitDefEqProofs only[go_sem,hcd]
       refine bX [some 0] ?_ rfl rfl
       refine sA ?_
       rw[hg]
       all_goals((repeat' apply ar)<;>rfl)
     ·have h1':¬i<(fJ a b).length:=by omega
      rw[al (by omega),List.map_nil,pn] at hg
      simp -implicitDefEqProofs only[go_sem,h1']
      refine iK ?_
      refine bX [some 0] ?_ rfl rfl
      refine sA ?_
      rw[hg]
      all_goals((repeat' apply ar)<;>rfl)
  | none=>
  have cmo:=Ks s au nums (closed au (bc ab)).1 (closed au (bc ab)).2 aE hIns hkids hnd hcl NU v4 ZN h4 (by omega) hk9
  have cal:=DC s ⟨gY au nums (closed au (bc ab)).1 aE⟩ ab (by omega)
  rw[l5 rfl hp hq]
  simp -implicitDefEqProofs only[go_sem,aU,aZ]
  refine gp [] [0,5] cmo ?_ ?_
  ·refine sA ?_
   first|rfl|((repeat' apply ar)<;>rfl)
  refine sA ?_
  refine aC [] cal ?_
  refine iK ?_
  cases hm2:eS s ⟨gY au nums (closed au (bc ab)).1 aE⟩ ab
  ·rw[if_neg (by simp)]
   refine sA ?_
   refine bX [some 0] ?_ rfl rfl
   refine sA ?_
   all_goals((repeat' apply ar)<;>rfl)
  ·rw[if_pos rfl]
   refine sA ?_
   refine bX [some 0] ?_ rfl rfl
   refine sA ?_
   all_goals((repeat' apply ar)<;>rfl)
 ·rw[l1 rfl]
  refine sA ?_
  refine bX [some 0] ?_ rfl rfl
  refine sA ?_
  all_goals((repeat' apply ar)<;>rfl)
 ·rw[l2 (by decide) (by decide)]
  simp -implicitDefEqProofs only[go_sem,Z1]
  refine bX [some 0] ?_ rfl rfl
  refine sA ?_
  all_goals((repeat' apply ar)<;>rfl)
 ·rw[l2 (by decide) (by decide)]
  simp -implicitDefEqProofs only[go_sem,Z1]
  refine bX [some 0] ?_ rfl rfl
  refine sA ?_
  all_goals((repeat' apply ar)<;>rfl)
theorem Cq(ab:List bp)(hl1:ab.length≤100)(hw:∀l∈ab,cJ l.atom=true):C E.P 16 [lv (a6 ab)] [] (bM (lv (aP (aA ab))) []):=by
 obtain⟨hle,eP⟩:=iT hw
 refine gS (nt:=20) (rs:=[.tmp 2]) hm Tryz.func16 fun hl he cI=>?_
 refine aO hm (fun(i:Nat)=> i≤ab.length) (fun(i:Nat)=> ⟨dB 20 .any [(3,.acc 0),(6,lv (a6 ab)),(7,iv ab.length),(8,iv i)],[some (.acc 34 (aP (dI (ab.take i))))]⟩) (fun(i:Nat)=> ab.length-i) (0) ?_ (aw [none] ?_ ?_ rfl rfl) ?_
 rotate_left
 ·exact sC
 ·refine sA ?_
  all_goals(rfl)
 rotate_left
 ·omega
 ·rintro i hi
  rcases aa (i<ab.length) with h1|h1
  ·have h2:=iT (ab:=ab.take i) fun l hl=>hw l (List.mem_of_mem_take hl)
   have h3:=mS (hw ab[i] (ak h1))
   have h4:(ab.take i).length≤100:=by simp;omega
   simp -implicitDefEqProofs only[go_sem,h1]
   refine aC [] (tm ab[i].atom) ?_
   refine sQ ?_
   refine⟨i+1,?_,sL,aw [some 2] ?_ ?_ rfl rfl⟩
   rotate_left
   ·exact sC
   ·refine sA ?_
    all_goals((rw[tq h1,←lV]))
   exact h1
  ·have e:ab.take i=ab:=ao (by omega)
   simp -implicitDefEqProofs only[go_sem,h1,e]
   refine oC [] [0,1] (TT (e:=34) (rest:=[]) rfl (qf (dI ab) (by omega) eP)) ?_
   refine an ?_
   refine sA ?_
   rfl
theorem xh(hIns:A4)(s:dE)(ab:List bp):C E.P 8 [av (dZ s),lv (a6 ab)] [] (bM (JP (dS s ab)) []):=by
 refine gS (nt:=28) (rs:=[.cell 4 31,.cell 5 41,.tmp 6]) hm Tryz.func8 fun hl he cI=>?_
 refine aC [] (He s ab) ?_
 cases eP:eZ s ab
 ·have e:dS s ab=⟨l8,s7,3⟩:=by simp[dS,eP]
  rw[e]
  refine sA ?_
  refine an ?_
  refine sA ?_
  all_goals((repeat' apply ar)<;>rfl)
 have e:dS s ab=hY s (aA ab) (numsOf s ab) 13 ab:=by simp[dS,eP]
 have hG:=AW eP
 have h6:=(A8 eP).2.2.2.1
 have hroom:=room_le hG.n4 ab
 have lD:=Ou hIns s (aA ab) (numsOf s ab) 13 ab hG rfl rfl (by omega) (by omega)
 rw[e]
 refine sA ?_
 refine aC [] (Cq ab (by omega) hG.wf) ?_
 refine aC [] (yi s ab (by omega) hG.wf) ?_
 refine iK ?_
 refine oC [] [3] lD ?_
 refine an ?_
 simp -implicitDefEqProofs only[go_sem]
 all_goals((repeat' apply ar)<;>rfl)
theorem JT(rows:List Mod.Row)(r:Mod.Row)(oW:rows.length≤1000):C E.P 121 [.acc 0,iv (rows.length:Int),.acc 1] [some (.acc 73 (bT rows)),some (.acc 73 [qC r])] (bM (.acc 2) [some .dead,some .dead,some (.acc 73 (bT (rows.take rows.length++r::rows.drop rows.length)))]):=by
 have e:rows.take rows.length++r::rows.drop rows.length=rows++[r]:=by rw[List.take_length,List.drop_length]
 have hs:bT (rows++[r])=bT rows++[qC r]:=by simp[bT]
 rw[e,hs]
 refine gS (nt:=95) (rs:=[.tmp 6]) hm Tryz.func121 fun hl he cI=>?_
 refine fe (Mo (.tmp 10) (.tmp 11) 29 73 0 _ _ (bT rows) (rows.length:Int) rfl rfl rfl (by simp -implicitDefEqProofs only[go_sem]) (by simp -implicitDefEqProofs only[go_sem]) (by simp -implicitDefEqProofs only[go_sem]) (by omega) (by simp[bT])) ?_
 simp -implicitDefEqProofs only[go_sem,Z1]
 refine sQ ?_
 refine bX [some 0,some 1,some 2] ?_ rfl rfl
 exact sC
end Go.Proofs.YtabembjmeobhoaaGreat
