/-
  The program: the model of a closure, up to the insertion of rows. A step towards the laws.
-/
import Derived.Test.YtabembjmeobhoaaGreatKAzh
import Derived.Test.YtabembjmeobhoaaGreatKAzf
set_option linter.unusedVariables false
set_option linter.unusedSimpArgs false
open And renaming intro→ar
open Classical renaming em→aa
open List renaming drop_eq_getElem_cons→aj,getElem_mem→ak,drop_of_length_le→al,take_of_length_le→ao,range→bt
open Nat renaming le_refl→aI,zero_le→bh
open Option renaming isSome_some→aJ,getD_some→aK,isSome_none→aU,getD_none→a6
namespace Go.Proofs.YtabembjmeobhoaaGreat
open Go.Eng Go.Mod
open Int renaming reduceEq→Z1,reduceLT→Z2,reduceLE→Z3,reduceToNat→Z4
set_option maxRecDepth 100000
set_option maxHeartbeats 3200000
theorem QI{E:Env}{o:Oper}{g g':G}{rest:qF→Option (List Ky)→G→Prop}(hw:zR E.P g g')(h:sk E none none o g' rest):sk E none none o g rest:=by
 rcases h with⟨R,δ,h1,h2⟩|⟨_,_,g2,hw2,R,δ,h1,h2⟩
 ·exact .inr ⟨rfl,rfl,g',hw,R,δ,h1,h2⟩
 ·exact .inr ⟨rfl,rfl,g2,hw.trans hw2,R,δ,h1,h2⟩
section
variable(s:dG)(au nums:List Term)(c:List Nat)(af:List Step)(aB:List Mod.Rat)
theorem Mx(t:Term)(ht:t∈au)(hc:c.length=au.length)(h4v:aB.length=4)(h4:nums.length≤4)(NU:∀x∈c,x≤1000):C E.P 118 [av (cT t),.ptr 0 0,.ptr 1 0,.ptr 2 0] [some (.box [.ptr 3 0]),some (.box [lv (br aB)]),some (.box [.ptr 4 0]),some (.box (cF (mv s au nums))),some (.box [lv (aP au),lv (bO c),lv (a7 af)])] (bN (av (eO (iM au nums c aB t))) [some (.box [.ptr 3 0]),some (.box [lv (br aB)]),some (.box [.ptr 4 0]),some (.box (cF (mv s au nums))),some (.box [lv (aP au),lv (bO c),lv (a7 af)])]):=by
 refine gS (nt:=29) (rs:=[.cell 5 71]) hm Tryz.func118 fun hl he cI=>?_
 refine aC [] (eF nums t) ?_
 refine iK ?_
 rcases aa (t∈nums) with hn|hn
 ·have pN:=bx hn
  have cN:=b6 hn
  have pN':aH nums t<aB.length:=by omega
  have nn:(0:Int)≤(aH nums t:Int):=by omega
  have e:iM au nums c aB t=aB[aH nums t]:=by rw[iM,if_neg (by omega),getD_at pN']
  simp -implicitDefEqProofs only[go_sem,cN,nn,pN']
  refine bX [some 0,some 1,some 2,some 3,some 4] ?_ rfl rfl
  refine sA ?_
  rw[e]
  all_goals((repeat' apply ar)<;>rfl)
 ·have h3:¬ (0:Int)≤bM nums t:=fun h=>hn (cK.1 h)
  have pT:=bx ht
  have pc:aH au t<c.length:=by omega
  have ec:c[aH au t]=cl c (aH au t):=(gR pc).symm
  have hle:=NU _ (y0 pc)
  have e:iM au nums c aB t=whole (cl c (aH au t)):=by rw[iM,if_pos (by omega)]
  have ca:=Cu au c af t
  rw[b6 ht] at ca
  simp -implicitDefEqProofs only[go_sem,h3]
  refine dL [] [4] ca rfl ?_ ?_ ?_
  ·exact sV
  all_goals simp -implicitDefEqProofs only[go_sem,pc,ec]
  refine aC [] (eY (cl c (aH au t):Int)) ?_
  refine iK ?_
  refine bX [some 0,some 1,some 2,some 3,some 4] ?_ rfl rfl
  refine sA ?_
  rw[e]
  all_goals((repeat' apply ar)<;>rfl)
def z8:Prop:=∀(rows:List Mod.Row)(k:Nat)(r:Mod.Row),k≤rows.length→rows.length≤1000→C E.P 121 [.acc 0,iv k,.acc 1] [some (.acc 73 (bT rows)),some (.acc 73 [qm r])] (bN (.acc 2) [some .dead,some .dead,some (.acc 73 (bT (rows.take k++r::rows.drop k)))])
theorem KN(hIns:z8)(hk:gN au)(hnd:au.Nodup)(hc:c.length=au.length)(NU:∀x∈c,x≤1000)(h4v:aB.length=4)(hv9:∀x∈aB,bV x=true)(h4:nums.length≤4)(oU:au.length≤900)(hk9:∀t∈au,t.kids.length≤1000) :
 C E.P 58 [.ptr 0 0,.ptr 1 0,lv (br aB)] [some (.box (cF (mv s au nums))),some (.box [lv (aP au),lv (bO c),lv (a7 af)])] (bN (av (eP ⟨gY au nums c aB⟩)) [some (.box (cF (mv s au nums))),some (.box [lv (aP au),lv (bO c),lv (a7 af)])]):=by
 refine gS (nt:=66) (rs:=[.cell 6 31]) hm Tryz.func58 fun hl he cI=>?_
 refine dm hm (fun(i:Nat) (rows:List Mod.Row)=> i≤au.length∧rows.length≤i∧(∀x∈rows,dD x.args=true)∧rows.Pairwise (fun a b=>dt a b=true)∧gY au nums c aB=(au.drop i).foldl (fun rows t=>putRow rows (iB au nums c aB t)) rows) (fun(i:Nat) (rows:List Mod.Row)=> ⟨dB 66 .any [(6,.ptr 5 0),(7,.fn 118 [.ptr 2 0,.ptr 4 0,.ptr 3 0]),(8,.ptr 6 0),(20,lv (aP au)),(21,iv au.length),(22,iv i)],[some (.box (cF (mv s au nums))),some (.box [lv (aP au),lv (bO c),lv (a7 af)]),some (.box [.ptr 0 0]),some (.box [.ptr 1 0]),some (.box [lv (br aB)]),some (.box (cF (eP l7))),some (.box [.acc 7]),some (.acc 73 (bT rows))]⟩) (fun(i:Nat) (rows:List Mod.Row)=> au.length-i) (0) ([]) ?_ (aw [some 0,some 1,some 2,some 3,some 4,some 5,some 6,none] ?_ ?_ rfl rfl) ?_
 rotate_left
 ·exact sC
 ·refine sA ?_
  all_goals(rfl)
 rotate_left
 ·exact⟨bh _,aI _,fun x hx=>(by simp at hx),List.Pairwise.nil,rfl⟩
 ·rintro i rows ⟨hi,hrl,hro,hpw,hg⟩
  rcases aa (i<au.length) with h1|h1
  ·have mt:=ak h1
   have kt:=hk _ mt
   have kl:=hk9 _ mt
   have hv:=Mx s au nums c af aB au[i] mt hc h4v h4 NU
   rw[aj h1,List.foldl_cons] at hg
   obtain⟨t,ht⟩:∃t,au[i]=t:=⟨_,rfl⟩
   rw[ht] at hv hg kt kl
   simp -implicitDefEqProofs only[go_sem,h1,ht]
   refine gv [.ptr 2 0,.ptr 4 0,.ptr 3 0] [2,4,3,0,1] hv ?_ ?_
   ·refine sA ?_
    first|rfl|((repeat' apply ar)<;>rfl)
   refine sA ?_
   refine iK ?_
   refine aO hm (fun(j:Nat)=> j≤t.kids.length) (fun(j:Nat)=> ⟨dB 66 .any [(6,.ptr 5 0),(7,.fn 118 [.ptr 2 0,.ptr 4 0,.ptr 3 0]),(8,.ptr 6 0),(11,.ptr 8 0),(20,lv (aP au)),(21,iv au.length),(22,iv i),(33,lv (aP t.kids)),(34,iv t.kids.length),(35,iv j)],[some (.box (cF (mv s au nums))),some (.box [lv (aP au),lv (bO c),lv (a7 af)]),some (.box [.ptr 0 0]),some (.box [.ptr 1 0]),some (.box [lv (br aB)]),some (.box (cF (eP l7))),some (.box [.acc 7]),some (.acc 73 (bT rows)),some (.box [sv t.name,.acc 9,iv (iM au nums c aB t).N,iv (iM au nums c aB t).D]),some (.acc 71 (br ((t.kids.take j).map (iM au nums c aB))))]⟩) (fun(j:Nat)=> t.kids.length-j) (0) ?_ (aw [some 0,some 1,some 2,some 3,some 4,some 5,some 6,some 7,some 9,none] ?_ ?_ rfl rfl) ?_
   rotate_left
   ·exact sC
   ·exact sC
   rotate_left
   ·omega
   ·rintro j hj
    have hsl:((t.kids.take j).map (iM au nums c aB)).length≤1000:=by simp;omega
    rcases aa (j<t.kids.length) with h2|h2
    ·have mk:=kt _ (ak h2)
     have hvk:=Mx s au nums c af aB t.kids[j] mk hc h4v h4 NU
     have hs:(t.kids.take (j+1)).map (iM au nums c aB)=(t.kids.take j).map (iM au nums c aB)++[iM au nums c aB t.kids[j]]:=by
      rw[List.take_add_one,List.getElem?_eq_getElem h2,List.map_append];rfl
     simp -implicitDefEqProofs only[go_sem,h2]
     refine gv [.ptr 2 0,.ptr 4 0,.ptr 3 0] [2,4,3,0,1] hvk ?_ ?_
     ·refine sA ?_
      first|rfl|((repeat' apply ar)<;>rfl)
     refine sA ?_
     refine sQ ?_
     refine⟨j+1,?_,sL,aw [some 0,some 1,some 2,some 3,some 4,some 5,some 6,some 7,some 8,some 11] ?_ ?_ rfl rfl⟩
     rotate_left
     ·exact sC
     ·refine sA ?_
      all_goals((rw[hs,←sW,uS,s5];rfl))
     exact h2
    ·have et:t.kids.take j=t.kids:=ao (by omega)
     have hrt:dD (iB au nums c aB t).args=true:=rE NU hv9
     have hbs:=r9 rows (iB au nums c aB t) (Jf hro hpw hrt) (by omega)
     have hpc:=rM rows (iB au nums c aB t)
     have hcl:=Qb rows (iB au nums c aB t)
     have dy:=GU rows (iB au nums c aB t)
     have hmem:∀x∈putRow rows (iB au nums c aB t),dD x.args=true:=fun x hx=>by
      rcases FR hx with hx|hx
      ·exact hro x hx
      ·rw[hx];exact hrt
     have hpw2:=MU hro hpw hrt
     rw[et]
     simp -implicitDefEqProofs only[go_sem,h2]
     refine dL [] [7,9] hbs rfl ?_ ?_ ?_
     ·exact sV
     all_goals simp -implicitDefEqProofs only[go_sem]
     cases hf:found rows (iB au nums c aB t)
     ·rw[hf,if_neg (by simp)] at hpc
      have kC:=hIns rows (cut rows (iB au nums c aB t)) (iB au nums c aB t) hcl (by omega)
      rw[←hpc] at kC
      refine sA ?_
      refine QI (uN 10 0 [T.leaf (D.str t.name),T.ref 9,T.leaf (D.val (Value.int IntKind.i64 (iM au nums c aB t).N)),T.leaf (D.val (Value.int IntKind.i64 (iM au nums c aB t).D))] rfl (by simp) rfl) ?_
      refine sA ?_
      refine QI (Rx 10 (ys:=[qm (iB au nums c aB t)]) rfl (by simp only[List.set_cons_zero,cR,fW,T.Fe,mV];try rfl)) ?_
      refine sA ?_
      refine gv [] [7,10,11] kC ?_ ?_<;>simp -implicitDefEqProofs only[go_sem]
      ·rfl
      repeat(with_reducible apply ar;case left=>omega)
      refine⟨i+1,putRow rows (iB au nums c aB t),?_,sL,aw [some 0,some 1,some 2,some 3,some 4,some 5,some 6,some 11] ?_ ?_ rfl rfl⟩
      rotate_left
      ·exact sC
      ·exact sC
      exact⟨by omega,by omega,hmem,hpw2,hg⟩
     ·rw[hf,if_pos rfl] at hpc
      rw[hpc] at hg
      refine sA ?_
      refine sQ ?_
      refine⟨i+1,rows,?_,sL,aw [some 0,some 1,some 2,some 3,some 4,some 5,some 6,some 7] ?_ ?_ rfl rfl⟩
      rotate_left
      ·exact sC
      ·exact sC
      exact⟨by omega,by omega,hro,hpw,hg⟩
  ·rw[al (by omega),List.foldl_nil] at hg
   simp -implicitDefEqProofs only[go_sem,h1]
   refine bX [some 0,some 1] ?_ rfl rfl
   refine sA ?_
   rw[hg]
   all_goals((repeat' apply ar)<;>rfl)
end
set_option maxHeartbeats 6400000
theorem RJ(ls:List ia):(bR ls).code=0∨(bR ls).code=1∨(bR ls).code=2∨(bR ls).code=3:=by
 unfold bR
 split
 ·split
  ·exact .inr (.inr (.inl rfl))
  ·split
   ·exact .inr (.inr (.inl rfl))
   ·split
    ·exact .inr (.inr (.inl rfl))
    ·split
     ·exact .inr (.inr (.inl rfl))
     ·unfold ie
      split
      ·split
       ·exact .inr (.inl rfl)
       ·exact .inr (.inr (.inl rfl))
      ·split
       ·exact .inr (.inr (.inl rfl))
       ·split
        ·exact .inl rfl
        ·exact .inr (.inr (.inl rfl))
 ·exact .inr (.inr (.inr rfl))
theorem vx(s:dG)(m:Mod.Model)(ab:List bp)(oU:ab.length≤1000):C E.P 10 [av (dX s),av (eP m),lv (aZ ab)] [] (bN (bv (eE s m ab)) []):=by
 refine gS (nt:=35) (rs:=[.tmp 6]) hm Tryz.func10 fun hl he cI=>?_
 refine aC [] (w6 s m) ?_
 cases h0:e7 s m
 ·have e:eE s m ab=false:=by simp[eE,h0]
  refine sA ?_
  refine an ?_
  refine sA ?_
  all_goals(simp[e];done)
 ·have e:eE s m ab=ab.all fun l=>decide (fT s m l=some true):=by simp[eE,h0]
  refine sA ?_
  refine aO hm (fun(i:Nat)=> i≤ab.length∧eE s m ab=(ab.drop i).all fun l=>decide (fT s m l=some true)) (fun(i:Nat)=> ⟨dB 35 .any [(3,.ptr 0 0),(4,.ptr 1 0),(15,lv (aZ ab)),(16,iv ab.length),(17,iv i)],[some (.box (cF (dX s))),some (.box (cF (eP m)))]⟩) (fun(i:Nat)=> ab.length-i) (0) ?_ (aw [some 0,some 1] ?_ ?_ rfl rfl) ?_
  rotate_left
  ·exact sC
  ·exact sC
  rotate_left
  ·exact⟨bh _,e⟩
  ·rintro i ⟨hi,hg⟩
   rcases aa (i<ab.length) with h1|h1
   ·rw[aj h1,List.all_cons] at hg
    have hco:=DX s m ab[i]
    simp -implicitDefEqProofs only[go_sem,h1]
    refine aC [] hco ?_
    cases h2:fT s m ab[i] with
    | none=>
      rw[h2] at hg
      simp -implicitDefEqProofs only[go_sem,aU,a6]
      refine an ?_
      refine sA ?_
      all_goals(simp[hg];done)
    | some b=>
      rw[h2] at hg
      cases b
      ·simp -implicitDefEqProofs only[go_sem,aJ,aK]
       refine an ?_
       refine sA ?_
       all_goals(simp[hg];done)
      ·simp only[decide_true,Bool.true_and] at hg
       simp -implicitDefEqProofs only[go_sem,aJ,aK]
       refine sQ ?_
       refine⟨i+1,?_,sL,aw [some 0,some 1] ?_ ?_ rfl rfl⟩
       rotate_left
       ·exact sC
       ·exact sC
       exact⟨by omega,hg⟩
   ·rw[al (by omega),List.all_nil] at hg
    simp -implicitDefEqProofs only[go_sem,h1]
    refine an ?_
    refine sA ?_
    all_goals(simp[hg];done)
theorem Pw(a:Case):iQ [a]=[tZ a]:=by rw[pR,oq]
def JI(r:zt):PV:=.ja [av (eP r.model),av (tZ r.case),iv r.code]
attribute [go_sem] JI
theorem ON(hIns:z8)(s:dG)(au nums:List Term):∀(f:Nat)(ab:List bp),hY s ab→aE ab=au→numsOf s ab=nums→room nums ab<f→ab.length+f≤50→C E.P 18 [.ptr 0 0,lv (aZ ab)] [some (.box (cF (mv s au nums)))] (bN (JI (jw s au nums f ab)) [some (.box (cF (mv s au nums)))]):=by
 intro f
 induction f with
 | zero=>intro ab hG _ _ h;omega
 | succ f ih=>
 intro ab hG hT hN hroom dy
 have hel:(bc ab).length≤50:=Nat.le_trans (List.length_filterMap_le _ _) (by omega)
 have next:∀x,Mod.Next s ab x→C E.P 18 [.ptr 0 0,lv (aZ (ab++[x]))] [some (.box (cF (mv s au nums)))] (bN (JI (jw s au nums f (ab++[x]))) [some (.box (cF (mv s au nums)))]):=fun x hx=>by
  obtain⟨g1,g2,g3,g4⟩:=hx
  rw[hN] at g4
  exact ih (ab++[x]) g1 (g2.trans hT) (g3.trans hN) (by omega) (by simp;omega)
 have h4:=hG.n4
 have h24:=hG.n24
 have hkids:=hG.kids
 have hein:=hG.zT
 have hlen9:=hG.TJ
 have hk9:=hG.LV
 have hkin:=hG.Ks
 have hnum:=hG.num
 have hnd:=hG.nodup
 have hcl:=hG.Mt
 have NU:=hG.Lp
 have hfit:=hG.fit
 have lg:∀t∈numsOf s ab,t∈aE ab:=ow
 have neq:∀i k,i<k→k<(numsOf s ab).length→Mod.linked (numsOf s ab) ab i k=false→Mod.Next s ab (gP ((numsOf s ab).getD i aL) ((numsOf s ab).getD k aL)):=fun i k h1 h2 h3=>Ec hG h1 h2 h3
 have npa:∀i k,i<k→k<(numsOf s ab).length→qJ (numsOf s ab) ab i k=true→∀l∈fJ ((numsOf s ab).getD i aL) ((numsOf s ab).getD k aL),Mod.Next s ab l:=fun i k h1 h2 h3=>wj hG h1 h2 h3
 have nne:∀i k,i<k→k<(numsOf s ab).length→(numsOf s ab).getD i aL≠(numsOf s ab).getD k aL:=fun i k h1 h2=>AS hG h1 h2
 have hkept:=mI (ae:=aE ab) (eqs:=bc ab) hein
 have hsl:(closed (aE ab) (bc ab)).2.length≤2000000:=by
  have h1:=uE hkept (closed (aE ab) (bc ab)).2.length (aI _)
  have h2:(bt (aE ab).length).sum≤(bt (aE ab).length).length*1000:=pj fun x hx=>by have:=List.mem_range.1 hx;omega
  have h3:(bt (aE ab).length).length*1000≤1000*1000:=Nat.mul_le_mul_right _ (by simpa using hlen9)
  omega
 rw[hT] at hkept hsl h24 hkids hein hlen9 hk9 hkin hnd hcl NU lg
 rw[hN] at h4 hnum hfit lg neq npa nne
 refine gS (nt:=205) (rs:=[.cell 4 31,.cell 5 41,.tmp 6]) hm Tryz.func18 fun hl he cI=>?_
 refine aC [] (JC ab (by omega)) ?_
 rcases aa ((12:Int)<((bc ab).length:Int)) with h12|h12
 ·rw[xl (by omega)]
  simp -implicitDefEqProofs only[go_sem,h12]
  refine bX [some 0] ?_ rfl rfl
  refine sA ?_
  all_goals((repeat' apply ar)<;>rfl)
 have h12':¬12<(bc ab).length:=by omega
 simp -implicitDefEqProofs only[go_sem,h12]
 refine oC [] [5] (HX au (bc ab) hkids hein hlen9 hk9 (by omega)) ?_
 have ccl:=Kj s au nums (bc ab) ab hkids hein hlen9 hk9 hkin
 refine gv [] [0,5] ccl ?_ ?_
 ·refine sA ?_
  first|rfl|((repeat' apply ar)<;>rfl)
 refine sA ?_
 cases hc:kI (jm au (closed au (bc ab)).1) ab with
 | some n=>
   rw[uh h12' hc]
   simp -implicitDefEqProofs only[go_sem,aJ]
   refine iK ?_
   refine bX [some 0] ?_ rfl rfl
   refine sA ?_
   all_goals((repeat' apply ar)<;>rfl)
 | none=>
 simp -implicitDefEqProofs only[go_sem,aU]
 refine aC [] (Hf nums ab h4 (by omega) hfit) ?_
 refine aC [] (Hb (dY nums ab)) ?_
 refine iK ?_
 have hcodes:=RJ (dY nums ab)
 have hfv:=A8 (list:=dY nums ab)
 have l1:=wy (s:=s) (au:=au) (nums:=nums) (f:=f) h12' hc
 have l2:=v8 (s:=s) (au:=au) (nums:=nums) (f:=f) h12' hc
 have l3:=fun h q=>@xq s au nums f ab h12' hc h q
 have l4:=fun h hp q=>@rq s au nums f ab h12' hc h hp q
 have l5:=fun h hp=>@tN s au nums f ab h12' hc h hp
 generalize bR (dY nums ab)=IU at *
 obtain⟨aB,times,code⟩:=IU
 simp only at hcodes hfv l1 l2 l3 l4 l5⊢
 rcases hcodes with rfl|rfl|rfl|rfl
 ·obtain⟨v4,ZP⟩:=hfv rfl
  have co1:=VN s au nums (closed au (bc ab)).1 (closed au (bc ab)).2 ab lg hcl h4
  simp -implicitDefEqProofs only[go_sem,Z1]
  refine oC [] [0] (Kh s au nums (bc ab) h4 (by omega)) ?_
  refine gv [] [8,9,6,1,5,0] co1 ?_ ?_
  ·refine sA ?_
   first|rfl|((repeat' apply ar)<;>rfl)
  refine sA ?_
  cases hp:b9 nums.length (dZ true au nums (closed au (bc ab)).1 ab) with
  | some q=>
    obtain⟨q1,q2,q3⟩:=kL hp
    have hlk:=qV q3
    have hnx:=next _ (neq q.1 q.2 q1 q2 hlk)
    have hi:q.1<nums.length:=by omega
    have ga:nums.getD q.1 aL=nums[q.1]:=eW hi
    have gb:nums.getD q.2 aL=nums[q.2]:=eW q2
    have hA:=lg _ (ak hi)
    have hB:=lg _ (ak q2)
    have hsm:fY au (closed au (bc ab)).1 nums[q.1] nums[q.2]=true:=by
     rw[CM,hlk,ga,gb] at q3
     exact q3
    have hre:=tL au (bc ab) (closed au (bc ab)).1 (closed au (bc ab)).2 hkept.1 hkids hlen9 hk9 hsl nums[q.1] nums[q.2] hA hB (by rw[←hkept.2];simpa[fY] using hsm)
    rw[l3 rfl q hp]
    rw[ga,gb] at hnx⊢
    obtain⟨i,k⟩:=q
    simp only at hnx hi q2 hre⊢
    obtain⟨r,er⟩:∃r,jw s au nums f (ab++[gP nums[i] nums[k]])=r:=⟨_,rfl⟩
    rw[er] at hnx⊢
    simp -implicitDefEqProofs only[go_sem,aJ,aK,hi,q2]
    refine iK ?_
    refine aC [] (Bn nums[i] nums[k]) ?_
    refine aC [] (FZ ab (gP nums[i] nums[k]) (by omega)) ?_
    refine oC [] [0] hnx ?_
    refine iK ?_
    rcases aa (r.code=1) with hr|hr
    ·have kr:=eq_true hr
     rw[AM,if_pos hr]
     simp -implicitDefEqProofs only[go_sem,kr]
     refine oC [] [5] hre ?_
     refine iK ?_
     refine bX [some 0] ?_ rfl rfl
     refine sA ?_
     all_goals((repeat' apply ar)<;>first|rfl|exact(Pw _).symm)
    ·rw[AM,if_neg hr]
     simp -implicitDefEqProofs only[go_sem,hr]
     refine bX [some 0] ?_ rfl rfl
     refine sA ?_
     all_goals((repeat' apply ar)<;>rfl)
  | none=>
  have co2:=Ty s au nums (closed au (bc ab)).1 ab hnum h4
  simp -implicitDefEqProofs only[go_sem,aU,a6]
  refine gv [] [8,1,2,0] co2 ?_ ?_
  ·refine sA ?_
   first|rfl|((repeat' apply ar)<;>rfl)
  refine sA ?_
  cases hq:b9 nums.length (dZ false au nums (closed au (bc ab)).1 ab) with
  | some q=>
    obtain⟨q1,q2,q3⟩:=kL hq
    have hnx:=npa q.1 q.2 q1 q2 (uO q3)
    have ju:=nne q.1 q.2 q1 q2
    have hi:q.1<nums.length:=by omega
    have ga:nums.getD q.1 aL=nums[q.1]:=eW hi
    have gb:nums.getD q.2 aL=nums[q.2]:=eW q2
    have tA:=hnum _ (ak hi)
    have tB:=hnum _ (ak q2)
    have hR:=l4 rfl hp q hq
    rw[ga,gb] at hnx ju hR
    obtain⟨i0,k0⟩:=q
    simp only at hnx ju hi q2 tA tB hR
    obtain⟨R,eR⟩:∃R,jw s au nums (f+1) ab=R:=⟨_,rfl⟩
    rw[eR] at hR⊢
    have hp3:(fJ nums[i0] nums[k0]).length=3:=rfl
    simp -implicitDefEqProofs only[go_sem,aJ,aK,hi,q2]
    refine iK ?_
    obtain⟨a,ha⟩:∃a,nums[i0]=a:=⟨_,rfl⟩
    obtain⟨b,hb⟩:∃b,nums[k0]=b:=⟨_,rfl⟩
    rw[ha] at hnx ju tA hR hp3
    rw[hb] at hnx ju tB hR hp3
    simp -implicitDefEqProofs only[go_sem,ha,hb]
    refine aC [] (jW a) ?_
    refine aC [] (jW b) ?_
    refine iK ?_
    refine aC [] (HE a b tA tB) ?_
    refine dm hm (fun(i:Nat) (out:List Case)=> i≤3∧out.length=i∧R=qi (jw s au nums f) a b (((fJ a b).drop i).map fun l=>ab++[l]) out) (fun(i:Nat) (out:List Case)=> ⟨dB 205 .any [(2,.ptr 1 0),(3,.ptr 2 0),(4,.ptr 3 0),(5,.ptr 4 0),(29,.ptr 5 0),(160,lv (aZ (fJ a b))),(161,iv (fJ a b).length),(162,iv i)],[some (.box (cF (mv s au nums))),some (.box [.ptr 0 0]),some (.box [lv (aZ ab)]),some (.box (cF (eP l7))),some (.box (cF (tZ sF))),some (.box [iv 4,iv 0,iv 0,iv 0,sv [],lv [],lv [],lv [],sv a.name,lv (aP a.kids),sv b.name,lv (aP b.kids),.acc 6]),some (.acc 41 (iQ out))]⟩) (fun(i:Nat) (out:List Case)=> 3-i) (0) ([]) ?_ (aw [some 0,some 1,some 2,some 3,some 4,some 12,none] ?_ ?_ rfl rfl) ?_
    rotate_left
    ·exact sC
    ·refine sA ?_
     all_goals(((repeat' apply ar)<;>rfl))
    rotate_left
    ·exact⟨by omega,rfl,hR⟩
    ·rintro i out ⟨hi9,ho,hg⟩
     have hol:out.length≤3:=by omega
     rcases aa (i<3) with h1|h1
     ·have h1':i<(fJ a b).length:=by omega
      have hr:=next _ (hnx _ (ak h1'))
      rw[aj h1',List.map_cons,pr] at hg
      obtain⟨x,hx⟩:∃x,(fJ a b)[i]=x:=⟨_,rfl⟩
      rw[hx] at hr hg
      obtain⟨r,er⟩:∃r,jw s au nums f (ab++[x])=r:=⟨_,rfl⟩
      rw[er] at hr hg
      simp -implicitDefEqProofs only[go_sem,h1',hx]
      refine aC [] (FZ ab x (by omega)) ?_
      refine oC [] [0] hr ?_
      refine iK ?_
      rcases aa (r.code=1) with hcd|hcd
      ·rw[if_pos hcd] at hg
       have kc:=eq_true hcd
       simp -implicitDefEqProofs only[go_sem,kc]
       refine sQ ?_
       refine⟨i+1,out++[r.case],?_,sL,aw [some 0,some 1,some 2,some 3,some 4,some 5,some 10] ?_ ?_ rfl rfl⟩
       rotate_left
       ·exact sC
       ·refine sA ?_
        all_goals((rw[←AY,pR,oq];rfl))
       exact⟨by omega,by simp[ho],hg⟩
      ·rw[if_neg hcd] at hg
       simp -implicitDefEqProofs only[go_sem,hcd]
       refine bX [some 0] ?_ rfl rfl
       refine sA ?_
       rw[hg]
       all_goals((repeat' apply ar)<;>rfl)
     ·have h1':¬i<(fJ a b).length:=by omega
      rw[al (by omega),List.map_nil,rm] at hg
      simp -implicitDefEqProofs only[go_sem,h1']
      refine iK ?_
      refine bX [some 0] ?_ rfl rfl
      refine sA ?_
      rw[hg]
      all_goals((repeat' apply ar)<;>rfl)
  | none=>
  have cmo:=KN s au nums (closed au (bc ab)).1 (closed au (bc ab)).2 aB hIns hkids hnd hcl NU v4 ZP h4 (by omega) hk9
  have cal:=vx s ⟨gY au nums (closed au (bc ab)).1 aB⟩ ab (by omega)
  rw[l5 rfl hp hq]
  simp -implicitDefEqProofs only[go_sem,aU,a6]
  refine gv [] [0,5] cmo ?_ ?_
  ·refine sA ?_
   first|rfl|((repeat' apply ar)<;>rfl)
  refine sA ?_
  refine aC [] cal ?_
  refine iK ?_
  cases hm2:eE s ⟨gY au nums (closed au (bc ab)).1 aB⟩ ab
  ·rw[if_neg (by simp)]
   refine sA ?_
   refine bX [some 0] ?_ rfl rfl
   refine sA ?_
   all_goals((repeat' apply ar)<;>rfl)
  ·rw[if_pos rfl]
   refine sA ?_
   refine bX [some 0] ?_ rfl rfl
   refine sA ?_
   all_goals((repeat' apply ar)<;>rfl)
 ·rw[l1 rfl]
  refine sA ?_
  refine bX [some 0] ?_ rfl rfl
  refine sA ?_
  all_goals((repeat' apply ar)<;>rfl)
 ·rw[l2 (by decide) (by decide)]
  simp -implicitDefEqProofs only[go_sem,Z1]
  refine bX [some 0] ?_ rfl rfl
  refine sA ?_
  all_goals((repeat' apply ar)<;>rfl)
 ·rw[l2 (by decide) (by decide)]
  simp -implicitDefEqProofs only[go_sem,Z1]
  refine bX [some 0] ?_ rfl rfl
  refine sA ?_
  all_goals((repeat' apply ar)<;>rfl)
theorem B7(ab:List bp)(hl1:ab.length≤100)(hw:∀l∈ab,cJ l.atom=true):C E.P 16 [lv (aZ ab)] [] (bN (lv (aP (aE ab))) []):=by
 obtain⟨hle,eK⟩:=iP hw
 refine gS (nt:=20) (rs:=[.tmp 2]) hm Tryz.func16 fun hl he cI=>?_
 refine aO hm (fun(i:Nat)=> i≤ab.length) (fun(i:Nat)=> ⟨dB 20 .any [(3,.acc 0),(6,lv (aZ ab)),(7,iv ab.length),(8,iv i)],[some (.acc 34 (aP (dI (ab.take i))))]⟩) (fun(i:Nat)=> ab.length-i) (0) ?_ (aw [none] ?_ ?_ rfl rfl) ?_
 rotate_left
 ·exact sC
 ·refine sA ?_
  all_goals(rfl)
 rotate_left
 ·omega
 ·rintro i hi
  rcases aa (i<ab.length) with h1|h1
  ·have h2:=iP (ab:=ab.take i) fun l hl=>hw l (List.mem_of_mem_take hl)
   have h3:=mW (hw ab[i] (ak h1))
   have h4:(ab.take i).length≤100:=by simp;omega
   simp -implicitDefEqProofs only[go_sem,h1]
   refine aC [] (s7 ab[i].atom) ?_
   refine sQ ?_
   refine⟨i+1,?_,sL,aw [some 2] ?_ ?_ rfl rfl⟩
   rotate_left
   ·exact sC
   ·refine sA ?_
    all_goals((rw[tF h1,←lR]))
   exact h1
  ·have e:ab.take i=ab:=ao (by omega)
   simp -implicitDefEqProofs only[go_sem,h1,e]
   refine oC [] [0,1] (Vs (e:=34) (rest:=[]) rfl (qp (dI ab) (by omega) eK)) ?_
   refine an ?_
   refine sA ?_
   rfl
theorem wB(hIns:z8)(s:dG)(ab:List bp):C E.P 8 [av (dX s),lv (aZ ab)] [] (bN (JI (fk s ab)) []):=by
 refine gS (nt:=28) (rs:=[.cell 4 31,.cell 5 41,.tmp 6]) hm Tryz.func8 fun hl he cI=>?_
 refine aC [] (HQ s ab) ?_
 cases eK:fa s ab
 ·have e:fk s ab=⟨l7,sF,3⟩:=by simp[fk,eK]
  rw[e]
  refine sA ?_
  refine an ?_
  refine sA ?_
  all_goals((repeat' apply ar)<;>rfl)
 have e:fk s ab=jw s (aE ab) (numsOf s ab) 13 ab:=by simp[fk,eK]
 have hG:=Am eK
 have h6:=(xf eK).2.2.2.1
 have hroom:=room_le hG.n4 ab
 have mf:=ON hIns s (aE ab) (numsOf s ab) 13 ab hG rfl rfl (by omega) (by omega)
 rw[e]
 refine sA ?_
 refine aC [] (B7 ab (by omega) hG.wf) ?_
 refine aC [] (yK s ab (by omega) hG.wf) ?_
 refine iK ?_
 refine oC [] [3] mf ?_
 refine an ?_
 simp -implicitDefEqProofs only[go_sem]
 all_goals((repeat' apply ar)<;>rfl)
theorem La(rows:List Mod.Row)(r:Mod.Row)(oU:rows.length≤1000):C E.P 121 [.acc 0,iv (rows.length:Int),.acc 1] [some (.acc 73 (bT rows)),some (.acc 73 [qm r])] (bN (.acc 2) [some .dead,some .dead,some (.acc 73 (bT (rows.take rows.length++r::rows.drop rows.length)))]):=by
 have e:rows.take rows.length++r::rows.drop rows.length=rows++[r]:=by rw[List.take_length,List.drop_length]
 have hs:bT (rows++[r])=bT rows++[qm r]:=by simp[bT]
 rw[e,hs]
 refine gS (nt:=95) (rs:=[.tmp 6]) hm Tryz.func121 fun hl he cI=>?_
 refine fc (NP (.tmp 10) (.tmp 11) 29 73 0 _ _ (bT rows) (rows.length:Int) rfl rfl rfl (by simp -implicitDefEqProofs only[go_sem]) (by simp -implicitDefEqProofs only[go_sem]) (by simp -implicitDefEqProofs only[go_sem]) (by omega) (by simp[bT])) ?_
 simp -implicitDefEqProofs only[go_sem,Z1]
 refine sQ ?_
 refine bX [some 0,some 1,some 2] ?_ rfl rfl
 exact sC
end Go.Proofs.YtabembjmeobhoaaGreat
