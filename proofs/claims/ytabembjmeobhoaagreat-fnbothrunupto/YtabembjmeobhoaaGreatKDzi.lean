/-
  The program: the model of a closure, up to the insertion of rows. A step towards the laws.
-/
import Derived.Test.YtabembjmeobhoaaGreatKDzh
import Derived.Test.YtabembjmeobhoaaGreatKDzf
set_option linter.unusedVariables false
set_option linter.unusedSimpArgs false
open And renaming intro→au
open Classical renaming em→aa
open List renaming drop_eq_getElem_cons→ae,drop_of_length_le→ai,getElem_mem→ak,take_of_length_le→ao,range→bx
open Nat renaming le_refl→aJ,zero_le→bc
open Option renaming isSome_some→aW,getD_some→aX
namespace Go.Proofs.YtabembjmeobhoaaGreat
open Go.Eng Go.Mod
open Int renaming reduceEq→Z1,reduceLT→Z2,reduceLE→Z3,reduceToNat→Z4
set_option maxRecDepth 100000
set_option maxHeartbeats 3200000
theorem RU{E:Env}{o:Oper}{g g':G}{rest:qQ→Option (List Ky)→G→Prop}(hw:AH E.P g g')(h:sR E none none o g' rest):sR E none none o g rest:=by
 rcases h with⟨R,δ,h1,h2⟩|⟨_,_,g2,hw2,R,δ,h1,h2⟩
 ·exact .inr ⟨rfl,rfl,g',hw,R,δ,h1,h2⟩
 ·exact .inr ⟨rfl,rfl,g2,hw.trans hw2,R,δ,h1,h2⟩
section
variable(s:dK)(aq nums:List Term)(c:List Nat)(aj:List Step)(aH:List Mod.Rat)
theorem M0(t:Term)(ht:t∈aq)(hc:c.length=aq.length)(h4v:aH.length=4)(h4:nums.length≤4)(OL:∀x∈c,x≤1000):C E.P 118 [av (cT t),.ptr 0 0,.ptr 1 0,.ptr 2 0] [some (.box [.ptr 3 0]),some (.box [lv (bp aH)]),some (.box [.ptr 4 0]),some (.box (cE (mI s aq nums))),some (.box [lv (aN aq),lv (bQ c),lv (aY aj)])] (bz (av (eU (iJ aq nums c aH t))) [some (.box [.ptr 3 0]),some (.box [lv (bp aH)]),some (.box [.ptr 4 0]),some (.box (cE (mI s aq nums))),some (.box [lv (aN aq),lv (bQ c),lv (aY aj)])]):=by
 refine gS (nt:=29) (rs:=[.cell 5 71]) hm Tryz.func118 fun hl he cq=>?_
 refine aC [] (dE nums t) ?_
 refine iK ?_
 rcases aa (t∈nums) with hn|hn
 ·have pN:=bA hn
  have cN:=cd hn
  have pN':aG nums t<aH.length:=by omega
  have nn:(0:Int)≤(aG nums t:Int):=by omega
  have e:iJ aq nums c aH t=aH[aG nums t]:=by rw[iJ,if_neg (by omega),getD_at pN']
  simp -implicitDefEqProofs only[go_sem,cN,nn,pN']
  refine bZ [some 0,some 1,some 2,some 3,some 4] ?_ rfl rfl
  refine sA ?_
  rw[e]
  all_goals((repeat' apply au)<;>rfl)
 ·have h3:¬ (0:Int)≤bK nums t:=fun h=>hn (cV.1 h)
  have pT:=bA ht
  have pc:aG aq t<c.length:=by omega
  have ec:c[aG aq t]=cl c (aG aq t):=(gX pc).symm
  have hle:=OL _ (Ai pc)
  have e:iJ aq nums c aH t=whole (cl c (aG aq t)):=by rw[iJ,if_pos (by omega)]
  have ca:=CB aq c aj t
  rw[cd ht] at ca
  refine uC ?_
  refine dH [] [4] ca rfl ?_ ?_ ?_
  ·exact sV
  all_goals simp -implicitDefEqProofs only[go_sem,pc,ec]
  refine aC [] (fa (cl c (aG aq t):Int)) ?_
  refine iK ?_
  refine bZ [some 0,some 1,some 2,some 3,some 4] ?_ rfl rfl
  refine sA ?_
  rw[e]
  all_goals((repeat' apply au)<;>rfl)
def BH:Prop:=∀(rows:List Mod.Row)(k:Nat)(r:Mod.Row),k≤rows.length→rows.length≤1000→C E.P 121 [.acc 0,iv k,.acc 1] [some (.acc 73 (bM rows)),some (.acc 73 [om r])] (bz (.acc 2) [some .dead,some .dead,some (.acc 73 (bM (rows.take k++r::rows.drop k)))])
theorem Lo(hIns:BH)(hk:gR aq)(hnd:aq.Nodup)(hc:c.length=aq.length)(OL:∀x∈c,x≤1000)(h4v:aH.length=4)(hv9:∀x∈aH,bX x=true)(h4:nums.length≤4)(o5:aq.length≤900)(hk9:∀t∈aq,t.kids.length≤1000) :
 C E.P 58 [.ptr 0 0,.ptr 1 0,lv (bp aH)] [some (.box (cE (mI s aq nums))),some (.box [lv (aN aq),lv (bQ c),lv (aY aj)])] (bz (av (ez ⟨hJ aq nums c aH⟩)) [some (.box (cE (mI s aq nums))),some (.box [lv (aN aq),lv (bQ c),lv (aY aj)])]):=by
 refine gS (nt:=66) (rs:=[.cell 6 31]) hm Tryz.func58 fun hl he cq=>?_
 refine cM hm (fun(i:Nat) (rows:List Mod.Row)=> i≤aq.length∧rows.length≤i∧(∀x∈rows,dI x.args=true)∧rows.Pairwise (fun a b=>dv a b=true)∧hJ aq nums c aH=(aq.drop i).foldl (fun rows t=>putRow rows (iB aq nums c aH t)) rows) (fun(i:Nat) (rows:List Mod.Row)=> ⟨dx 66 .any [(6,.ptr 5 0),(7,.fn 118 [.ptr 2 0,.ptr 4 0,.ptr 3 0]),(8,.ptr 6 0),(20,lv (aN aq)),(21,iv aq.length),(22,iv i)],[some (.box (cE (mI s aq nums))),some (.box [lv (aN aq),lv (bQ c),lv (aY aj)]),some (.box [.ptr 0 0]),some (.box [.ptr 1 0]),some (.box [lv (bp aH)]),some (.box (cE (ez jo))),some (.box [.acc 7]),some (.acc 73 (bM rows))]⟩) (fun(i:Nat) (rows:List Mod.Row)=> aq.length-i) (0) ([]) ?_ (ar [some 0,some 1,some 2,some 3,some 4,some 5,some 6,none] ?_ ?_ rfl rfl) ?_
 rotate_left
 ·exact sC
 ·refine sA ?_
  all_goals(rfl)
 rotate_left
 ·exact⟨bc _,aJ _,fun x hx=>(by simp at hx),List.Pairwise.nil,rfl⟩
 ·rintro i rows ⟨hi,hrl,hro,hpw,hg⟩
  rcases aa (i<aq.length) with h1|h1
  ·have mt:=ak h1
   have kt:=hk _ mt
   have kl:=hk9 _ mt
   have hv:=M0 s aq nums c aj aH aq[i] mt hc h4v h4 OL
   rw[ae h1,List.foldl_cons] at hg
   obtain⟨t,ht⟩:∃t,aq[i]=t:=⟨_,rfl⟩
   rw[ht] at hv hg kt kl
   simp -implicitDefEqProofs only[go_sem,h1,ht]
   refine gw [.ptr 2 0,.ptr 4 0,.ptr 3 0] [2,4,3,0,1] hv ?_ ?_
   ·refine sA ?_
    first|rfl|((repeat' apply au)<;>rfl)
   refine sA ?_
   refine iK ?_
   refine aL hm (fun(j:Nat)=> j≤t.kids.length) (fun(j:Nat)=> ⟨dx 66 .any [(6,.ptr 5 0),(7,.fn 118 [.ptr 2 0,.ptr 4 0,.ptr 3 0]),(8,.ptr 6 0),(11,.ptr 8 0),(20,lv (aN aq)),(21,iv aq.length),(22,iv i),(33,lv (aN t.kids)),(34,iv t.kids.length),(35,iv j)],[some (.box (cE (mI s aq nums))),some (.box [lv (aN aq),lv (bQ c),lv (aY aj)]),some (.box [.ptr 0 0]),some (.box [.ptr 1 0]),some (.box [lv (bp aH)]),some (.box (cE (ez jo))),some (.box [.acc 7]),some (.acc 73 (bM rows)),some (.box [sv t.name,.acc 9,iv (iJ aq nums c aH t).N,iv (iJ aq nums c aH t).D]),some (.acc 71 (bp ((t.kids.take j).map (iJ aq nums c aH))))]⟩) (fun(j:Nat)=> t.kids.length-j) (0) ?_ (ar [some 0,some 1,some 2,some 3,some 4,some 5,some 6,some 7,some 9,none] ?_ ?_ rfl rfl) ?_
   rotate_left
   ·exact sC
   ·exact sC
   rotate_left
   ·omega
   ·rintro j hj
    have hsl:((t.kids.take j).map (iJ aq nums c aH)).length≤1000:=by simp;omega
    rcases aa (j<t.kids.length) with h2|h2
    ·have mk:=kt _ (ak h2)
     have hvk:=M0 s aq nums c aj aH t.kids[j] mk hc h4v h4 OL
     have hs:(t.kids.take (j+1)).map (iJ aq nums c aH)=(t.kids.take j).map (iJ aq nums c aH)++[iJ aq nums c aH t.kids[j]]:=by
      rw[List.take_add_one,List.getElem?_eq_getElem h2,List.map_append];rfl
     refine uB ?_
     refine gw [.ptr 2 0,.ptr 4 0,.ptr 3 0] [2,4,3,0,1] hvk ?_ ?_
     ·refine sA ?_
      first|rfl|((repeat' apply au)<;>rfl)
     refine sA ?_
     refine sQ ?_
     refine⟨j+1,?_,sL,ar [some 0,some 1,some 2,some 3,some 4,some 5,some 6,some 7,some 8,some 11] ?_ ?_ rfl rfl⟩
     rotate_left
     ·exact sC
     ·refine sA ?_
      all_goals((rw[hs,←tf,wm,tD];rfl))
     exact h2
    ·have et:t.kids.take j=t.kids:=ao (by omega)
     have hrt:dI (iB aq nums c aH t).args=true:=rU OL hv9
     have hbs:=rQ rows (iB aq nums c aH t) (JV hro hpw hrt) (by omega)
     have hpc:=sr rows (iB aq nums c aH t)
     have hcl:=OS rows (iB aq nums c aH t)
     have dy:=Hn rows (iB aq nums c aH t)
     have hmem:∀x∈putRow rows (iB aq nums c aH t),dI x.args=true:=fun x hx=>by
      rcases Gt hx with hx|hx
      ·exact hro x hx
      ·rw[hx];exact hrt
     have hpw2:=NW hro hpw hrt
     rw[et]
     refine uB ?_
     refine dH [] [7,9] hbs rfl ?_ ?_ ?_
     ·exact sV
     all_goals simp -implicitDefEqProofs only[go_sem]
     cases hf:found rows (iB aq nums c aH t)
     ·rw[hf,if_neg (by simp)] at hpc
      have kG:=hIns rows (cut rows (iB aq nums c aH t)) (iB aq nums c aH t) hcl (by omega)
      rw[←hpc] at kG
      refine sA ?_
      refine RU (vR 10 0 [T.leaf (D.str t.name),T.ref 9,T.leaf (D.val (Value.int IntKind.i64 (iJ aq nums c aH t).N)),T.leaf (D.val (Value.int IntKind.i64 (iJ aq nums c aH t).D))] rfl (by simp) rfl) ?_
      refine sA ?_
      refine RU (Rv 10 (ys:=[om (iB aq nums c aH t)]) rfl (by simp only[List.set_cons_zero,cX,gi,T.G0,nc];try rfl)) ?_
      refine sA ?_
      refine gw [] [7,10,11] kG ?_ ?_<;>simp -implicitDefEqProofs only[go_sem]
      ·rfl
      repeat(with_reducible apply au;case left=>omega)
      refine⟨i+1,putRow rows (iB aq nums c aH t),?_,sL,ar [some 0,some 1,some 2,some 3,some 4,some 5,some 6,some 11] ?_ ?_ rfl rfl⟩
      rotate_left
      ·exact sC
      ·exact sC
      exact⟨by omega,by omega,hmem,hpw2,hg⟩
     ·rw[hf,if_pos rfl] at hpc
      rw[hpc] at hg
      refine sA ?_
      refine sQ ?_
      refine⟨i+1,rows,?_,sL,ar [some 0,some 1,some 2,some 3,some 4,some 5,some 6,some 7] ?_ ?_ rfl rfl⟩
      rotate_left
      ·exact sC
      ·exact sC
      exact⟨by omega,by omega,hro,hpw,hg⟩
  ·rw[ai (by omega),List.foldl_nil] at hg
   refine uA ?_
   refine bZ [some 0,some 1] ?_ rfl rfl
   refine sA ?_
   rw[hg]
   all_goals((repeat' apply au)<;>rfl)
end
set_option maxHeartbeats 6400000
theorem Ta(ls:List iV):(bL ls).code=0∨(bL ls).code=1∨(bL ls).code=2∨(bL ls).code=3:=by
 unfold bL
 split
 ·split
  ·exact .inr (.inr (.inl rfl))
  ·split
   ·exact .inr (.inr (.inl rfl))
   ·split
    ·exact .inr (.inr (.inl rfl))
    ·split
     ·exact .inr (.inr (.inl rfl))
     ·unfold ik
      split
      ·split
       ·exact .inr (.inl rfl)
       ·exact .inr (.inr (.inl rfl))
      ·split
       ·exact .inr (.inr (.inl rfl))
       ·split
        ·exact .inl rfl
        ·exact .inr (.inr (.inl rfl))
 ·exact .inr (.inr (.inr rfl))
theorem wA(s:dK)(m:Mod.Model)(ab:List bm)(o5:ab.length≤1000):C E.P 10 [av (dV s),av (ez m),lv (aV ab)] [] (bz (bv (ie s m ab)) []):=by
 refine gS (nt:=35) (rs:=[.tmp 6]) hm Tryz.func10 fun hl he cq=>?_
 refine aC [] (xo s m) ?_
 cases h0:fh s m
 ·have e:ie s m ab=false:=by simp[ie,h0]
  refine sA ?_
  refine an ?_
  refine sA ?_
  all_goals(simp[e];done)
 ·have e:ie s m ab=ab.all fun l=>decide (gO s m l=some true):=by simp[ie,h0]
  refine sA ?_
  refine aL hm (fun(i:Nat)=> i≤ab.length∧ie s m ab=(ab.drop i).all fun l=>decide (gO s m l=some true)) (fun(i:Nat)=> ⟨dx 35 .any [(3,.ptr 0 0),(4,.ptr 1 0),(15,lv (aV ab)),(16,iv ab.length),(17,iv i)],[some (.box (cE (dV s))),some (.box (cE (ez m)))]⟩) (fun(i:Nat)=> ab.length-i) (0) ?_ (ar [some 0,some 1] ?_ ?_ rfl rfl) ?_
  rotate_left
  ·exact sC
  ·exact sC
  rotate_left
  ·exact⟨bc _,e⟩
  ·rintro i ⟨hi,hg⟩
   rcases aa (i<ab.length) with h1|h1
   ·rw[ae h1,List.all_cons] at hg
    have hco:=EC s m ab[i]
    refine uA ?_
    refine aC [] hco ?_
    cases h2:gO s m ab[i] with
    | none=>
      rw[h2] at hg
      refine uK ?_
      refine an ?_
      refine sA ?_
      all_goals(simp[hg];done)
    | some b=>
      rw[h2] at hg
      cases b
      ·refine uL ?_
       refine an ?_
       refine sA ?_
       all_goals(simp[hg];done)
      ·simp only[decide_true,Bool.true_and] at hg
       refine uL ?_
       refine sQ ?_
       refine⟨i+1,?_,sL,ar [some 0,some 1] ?_ ?_ rfl rfl⟩
       rotate_left
       ·exact sC
       ·exact sC
       exact⟨by omega,hg⟩
   ·rw[ai (by omega),List.all_nil] at hg
    refine uA ?_
    refine an ?_
    refine sA ?_
    all_goals(simp[hg];done)
theorem QB(a:Case):fN [a]=[gH a]:=by rw[pY,oX]
def Lt(r:Ag):PV:=.gV [av (ez r.model),av (gH r.case),iv r.code]
attribute [go_sem] Lt
theorem O3(hIns:BH)(s:dK)(aq nums:List Term):∀(f:Nat)(ab:List bm),ic s ab→aw ab=aq→numsOf s ab=nums→room nums ab<f→ab.length+f≤50→C E.P 18 [.ptr 0 0,lv (aV ab)] [some (.box (cE (mI s aq nums)))] (bz (Lt (fW s aq nums f ab)) [some (.box (cE (mI s aq nums)))]):=by
 intro f
 induction f with
 | zero=>intro ab hG _ _ h;omega
 | succ f ih=>
 intro ab hG hT hN hroom dy
 have hel:(aZ ab).length≤50:=Nat.le_trans (List.length_filterMap_le _ _) (by omega)
 have next:∀x,Mod.Next s ab x→C E.P 18 [.ptr 0 0,lv (aV (ab++[x]))] [some (.box (cE (mI s aq nums)))] (bz (Lt (fW s aq nums f (ab++[x]))) [some (.box (cE (mI s aq nums)))]):=fun x hx=>by
  obtain⟨g1,g2,g3,g4⟩:=hx
  rw[hN] at g4
  exact ih (ab++[x]) g1 (g2.trans hT) (g3.trans hN) (by omega) (by simp;omega)
 have h4:=hG.n4
 have h24:=hG.n24
 have hkids:=hG.kids
 have hein:=hG.Bx
 have hlen9:=hG.U5
 have hk9:=hG.NF
 have hkin:=hG.K1
 have hnum:=hG.num
 have hnd:=hG.nodup
 have hcl:=hG.MP
 have OL:=hG.K3
 have hfit:=hG.fit
 have nq:∀t∈numsOf s ab,t∈aw ab:=oK
 have neq:∀i k,i<k→k<(numsOf s ab).length→Mod.linked (numsOf s ab) ab i k=false→Mod.Next s ab (hU ((numsOf s ab).getD i aM) ((numsOf s ab).getD k aM)):=fun i k h1 h2 h3=>E2 hG h1 h2 h3
 have npa:∀i k,i<k→k<(numsOf s ab).length→qS (numsOf s ab) ab i k=true→∀l∈fS ((numsOf s ab).getD i aM) ((numsOf s ab).getD k aM),Mod.Next s ab l:=fun i k h1 h2 h3=>xw hG h1 h2 h3
 have nne:∀i k,i<k→k<(numsOf s ab).length→(numsOf s ab).getD i aM≠(numsOf s ab).getD k aM:=fun i k h1 h2=>A8 hG h1 h2
 have hkept:=mO (af:=aw ab) (eqs:=aZ ab) hein
 have hsl:(closed (aw ab) (aZ ab)).2.length≤2000000:=by
  have h1:=u9 hkept (closed (aw ab) (aZ ab)).2.length (aJ _)
  have h2:(bx (aw ab).length).sum≤(bx (aw ab).length).length*1000:=pq fun x hx=>by have:=List.mem_range.1 hx;omega
  have h3:(bx (aw ab).length).length*1000≤1000*1000:=Nat.mul_le_mul_right _ (by simpa using hlen9)
  omega
 rw[hT] at hkept hsl h24 hkids hein hlen9 hk9 hkin hnd hcl OL nq
 rw[hN] at h4 hnum hfit nq neq npa nne
 refine gS (nt:=205) (rs:=[.cell 4 31,.cell 5 41,.tmp 6]) hm Tryz.func18 fun hl he cq=>?_
 refine aC [] (vX ab (by omega)) ?_
 rcases aa ((12:Int)<((aZ ab).length:Int)) with h12|h12
 ·rw[so (by omega)]
  simp -implicitDefEqProofs only[go_sem,h12]
  refine bZ [some 0] ?_ rfl rfl
  refine sA ?_
  all_goals((repeat' apply au)<;>rfl)
 have h12':¬12<(aZ ab).length:=by omega
 simp -implicitDefEqProofs only[go_sem,h12]
 refine oC [] [5] (Ir aq (aZ ab) hkids hein hlen9 hk9 (by omega)) ?_
 have ccl:=Lg s aq nums (aZ ab) ab hkids hein hlen9 hk9 hkin
 refine gw [] [0,5] ccl ?_ ?_
 ·refine sA ?_
  first|rfl|((repeat' apply au)<;>rfl)
 refine sA ?_
 cases hc:jQ (iA aq (closed aq (aZ ab)).1) ab with
 | some n=>
   rw[pQ h12' hc]
   simp -implicitDefEqProofs only[go_sem,aW]
   refine iK ?_
   refine bZ [some 0] ?_ rfl rfl
   refine sA ?_
   all_goals((repeat' apply au)<;>rfl)
 | none=>
 simp -implicitDefEqProofs only[go_sem,Option.isSome_none]
 refine aC [] (zG nums ab h4 (by omega) hfit) ?_
 refine aC [] (IA (dF nums ab)) ?_
 refine iK ?_
 have hcodes:=Ta (dF nums ab)
 have hfv:=A5 (list:=dF nums ab)
 have l1:=sn (s:=s) (aq:=aq) (nums:=nums) (f:=f) h12' hc
 have l2:=rY (s:=s) (aq:=aq) (nums:=nums) (f:=f) h12' hc
 have l3:=fun h q=>@rF s aq nums f ab h12' hc h q
 have l4:=fun h hp q=>@oT s aq nums f ab h12' hc h hp q
 have l5:=fun h hp=>@pL s aq nums f ab h12' hc h hp
 generalize bL (dF nums ab)=Ju at *
 obtain⟨aH,times,code⟩:=Ju
 simp only at hcodes hfv l1 l2 l3 l4 l5⊢
 rcases hcodes with rfl|rfl|rfl|rfl
 ·obtain⟨v4,vok⟩:=hfv rfl
  have co1:=Vh s aq nums (closed aq (aZ ab)).1 (closed aq (aZ ab)).2 ab nq hcl h4
  simp -implicitDefEqProofs only[go_sem,Z1]
  refine oC [] [0] (Kp s aq nums (aZ ab) h4 (by omega)) ?_
  refine gw [] [8,9,6,1,5,0] co1 ?_ ?_
  ·refine sA ?_
   first|rfl|((repeat' apply au)<;>rfl)
  refine sA ?_
  cases hp:bW nums.length (dU true aq nums (closed aq (aZ ab)).1 ab) with
  | some q=>
    obtain⟨q1,q2,q3⟩:=kY hp
    have hlk:=rl q3
    have hnx:=next _ (neq q.1 q.2 q1 q2 hlk)
    have hi:q.1<nums.length:=by omega
    have ga:nums.getD q.1 aM=nums[q.1]:=e7 hi
    have gb:nums.getD q.2 aM=nums[q.2]:=e7 q2
    have hA:=nq _ (ak hi)
    have hB:=nq _ (ak q2)
    have hsm:gg aq (closed aq (aZ ab)).1 nums[q.1] nums[q.2]=true:=by
     rw[Dm,hlk,ga,gb] at q3
     exact q3
    have hre:=uQ aq (aZ ab) (closed aq (aZ ab)).1 (closed aq (aZ ab)).2 hkept.1 hkids hlen9 hk9 hsl nums[q.1] nums[q.2] hA hB (by rw[←hkept.2];simpa[gg] using hsm)
    rw[l3 rfl q hp]
    rw[ga,gb] at hnx⊢
    obtain⟨i,k⟩:=q
    simp only at hnx hi q2 hre⊢
    obtain⟨r,er⟩:∃r,fW s aq nums f (ab++[hU nums[i] nums[k]])=r:=⟨_,rfl⟩
    rw[er] at hnx⊢
    simp -implicitDefEqProofs only[go_sem,aW,aX,hi,q2]
    refine iK ?_
    refine aC [] (vy nums[i] nums[k]) ?_
    refine aC [] (vJ ab (hU nums[i] nums[k]) (by omega)) ?_
    refine oC [] [0] hnx ?_
    refine iK ?_
    rcases aa (r.code=1) with hr|hr
    ·have kr:=eq_true hr
     rw[wW,if_pos hr]
     simp -implicitDefEqProofs only[go_sem,kr]
     refine oC [] [5] hre ?_
     refine iK ?_
     refine bZ [some 0] ?_ rfl rfl
     refine sA ?_
     all_goals((repeat' apply au)<;>first|rfl|exact(QB _).symm)
    ·rw[wW,if_neg hr]
     simp -implicitDefEqProofs only[go_sem,hr]
     refine bZ [some 0] ?_ rfl rfl
     refine sA ?_
     all_goals((repeat' apply au)<;>rfl)
  | none=>
  have co2:=TL s aq nums (closed aq (aZ ab)).1 ab hnum h4
  refine uK ?_
  refine gw [] [8,1,2,0] co2 ?_ ?_
  ·refine sA ?_
   first|rfl|((repeat' apply au)<;>rfl)
  refine sA ?_
  cases hq:bW nums.length (dU false aq nums (closed aq (aZ ab)).1 ab) with
  | some q=>
    obtain⟨q1,q2,q3⟩:=kY hq
    have hnx:=npa q.1 q.2 q1 q2 (vS q3)
    have jJ:=nne q.1 q.2 q1 q2
    have hi:q.1<nums.length:=by omega
    have ga:nums.getD q.1 aM=nums[q.1]:=e7 hi
    have gb:nums.getD q.2 aM=nums[q.2]:=e7 q2
    have tA:=hnum _ (ak hi)
    have tB:=hnum _ (ak q2)
    have hR:=l4 rfl hp q hq
    rw[ga,gb] at hnx jJ hR
    obtain⟨i0,k0⟩:=q
    simp only at hnx jJ hi q2 tA tB hR
    obtain⟨R,eR⟩:∃R,fW s aq nums (f+1) ab=R:=⟨_,rfl⟩
    rw[eR] at hR⊢
    have hp3:(fS nums[i0] nums[k0]).length=3:=rfl
    simp -implicitDefEqProofs only[go_sem,aW,aX,hi,q2]
    refine iK ?_
    obtain⟨a,ha⟩:∃a,nums[i0]=a:=⟨_,rfl⟩
    obtain⟨b,hb⟩:∃b,nums[k0]=b:=⟨_,rfl⟩
    rw[ha] at hnx jJ tA hR hp3
    rw[hb] at hnx jJ tB hR hp3
    simp -implicitDefEqProofs only[go_sem,ha,hb]
    refine aC [] (hQ a) ?_
    refine aC [] (hQ b) ?_
    refine iK ?_
    refine aC [] (zm a b tA tB) ?_
    refine cM hm (fun(i:Nat) (out:List Case)=> i≤3∧out.length=i∧R=mj (fW s aq nums f) a b (((fS a b).drop i).map fun l=>ab++[l]) out) (fun(i:Nat) (out:List Case)=> ⟨dx 205 .any [(2,.ptr 1 0),(3,.ptr 2 0),(4,.ptr 3 0),(5,.ptr 4 0),(29,.ptr 5 0),(160,lv (aV (fS a b))),(161,iv (fS a b).length),(162,iv i)],[some (.box (cE (mI s aq nums))),some (.box [.ptr 0 0]),some (.box [lv (aV ab)]),some (.box (cE (ez jo))),some (.box (cE (gH ng))),some (.box [iv 4,iv 0,iv 0,iv 0,sv [],lv [],lv [],lv [],sv a.name,lv (aN a.kids),sv b.name,lv (aN b.kids),.acc 6]),some (.acc 41 (fN out))]⟩) (fun(i:Nat) (out:List Case)=> 3-i) (0) ([]) ?_ (ar [some 0,some 1,some 2,some 3,some 4,some 12,none] ?_ ?_ rfl rfl) ?_
    rotate_left
    ·exact sC
    ·refine sA ?_
     all_goals(((repeat' apply au)<;>rfl))
    rotate_left
    ·exact⟨by omega,rfl,hR⟩
    ·rintro i out ⟨hi9,ho,hg⟩
     have hol:out.length≤3:=by omega
     rcases aa (i<3) with h1|h1
     ·have h1':i<(fS a b).length:=by omega
      have hr:=next _ (hnx _ (ak h1'))
      rw[ae h1',List.map_cons,mF] at hg
      obtain⟨x,hx⟩:∃x,(fS a b)[i]=x:=⟨_,rfl⟩
      rw[hx] at hr hg
      obtain⟨r,er⟩:∃r,fW s aq nums f (ab++[x])=r:=⟨_,rfl⟩
      rw[er] at hr hg
      simp -implicitDefEqProofs only[go_sem,h1',hx]
      refine aC [] (vJ ab x (by omega)) ?_
      refine oC [] [0] hr ?_
      refine iK ?_
      rcases aa (r.code=1) with hcd|hcd
      ·rw[if_pos hcd] at hg
       have kc:=eq_true hcd
       simp -implicitDefEqProofs only[go_sem,kc]
       refine sQ ?_
       refine⟨i+1,out++[r.case],?_,sL,ar [some 0,some 1,some 2,some 3,some 4,some 5,some 10] ?_ ?_ rfl rfl⟩
       rotate_left
       ·exact sC
       ·refine sA ?_
        all_goals((rw[←B6,pY,oX];rfl))
       exact⟨by omega,by simp[ho],hg⟩
      ·rw[if_neg hcd] at hg
       simp -implicitDefEqProofs only[go_sem,hcd]
       refine bZ [some 0] ?_ rfl rfl
       refine sA ?_
       rw[hg]
       all_goals((repeat' apply au)<;>rfl)
     ·have h1':¬i<(fS a b).length:=by omega
      rw[ai (by omega),List.map_nil,ob] at hg
      simp -implicitDefEqProofs only[go_sem,h1']
      refine iK ?_
      refine bZ [some 0] ?_ rfl rfl
      refine sA ?_
      rw[hg]
      all_goals((repeat' apply au)<;>rfl)
  | none=>
  have cmo:=Lo s aq nums (closed aq (aZ ab)).1 (closed aq (aZ ab)).2 aH hIns hkids hnd hcl OL v4 vok h4 (by omega) hk9
  have cal:=wA s ⟨hJ aq nums (closed aq (aZ ab)).1 aH⟩ ab (by omega)
  rw[l5 rfl hp hq]
  refine uK ?_
  refine gw [] [0,5] cmo ?_ ?_
  ·refine sA ?_
   first|rfl|((repeat' apply au)<;>rfl)
  refine sA ?_
  refine aC [] cal ?_
  refine iK ?_
  cases hm2:ie s ⟨hJ aq nums (closed aq (aZ ab)).1 aH⟩ ab
  ·rw[if_neg (by simp)]
   refine sA ?_
   refine bZ [some 0] ?_ rfl rfl
   refine sA ?_
   all_goals((repeat' apply au)<;>rfl)
  ·rw[if_pos rfl]
   refine sA ?_
   refine bZ [some 0] ?_ rfl rfl
   refine sA ?_
   all_goals((repeat' apply au)<;>rfl)
 ·rw[l1 rfl]
  refine sA ?_
  refine bZ [some 0] ?_ rfl rfl
  refine sA ?_
  all_goals((repeat' apply au)<;>rfl)
 ·rw[l2 (by decide) (by decide)]
  simp -implicitDefEqProofs only[go_sem,Z1]
  refine bZ [some 0] ?_ rfl rfl
  refine sA ?_
  all_goals((repeat' apply au)<;>rfl)
 ·rw[l2 (by decide) (by decide)]
  simp -implicitDefEqProofs only[go_sem,Z1]
  refine bZ [some 0] ?_ rfl rfl
  refine sA ?_
  all_goals((repeat' apply au)<;>rfl)
theorem Dd(ab:List bm)(hl1:ab.length≤100)(hw:∀l∈ab,cQ l.atom=true):C E.P 16 [lv (aV ab)] [] (bz (lv (aN (aw ab))) []):=by
 obtain⟨hle,eW⟩:=iQ hw
 refine gS (nt:=20) (rs:=[.tmp 2]) hm Tryz.func16 fun hl he cq=>?_
 refine aL hm (fun(i:Nat)=> i≤ab.length) (fun(i:Nat)=> ⟨dx 20 .any [(3,.acc 0),(6,lv (aV ab)),(7,iv ab.length),(8,iv i)],[some (.acc 34 (aN (eF (ab.take i))))]⟩) (fun(i:Nat)=> ab.length-i) (0) ?_ (ar [none] ?_ ?_ rfl rfl) ?_
 rotate_left
 ·exact sC
 ·refine sA ?_
  all_goals(rfl)
 rotate_left
 ·omega
 ·rintro i hi
  rcases aa (i<ab.length) with h1|h1
  ·have h2:=iQ (ab:=ab.take i) fun l hl=>hw l (List.mem_of_mem_take hl)
   have h3:=mX (hw ab[i] (ak h1))
   have h4:(ab.take i).length≤100:=by simp;omega
   refine uA ?_
   refine aC [] (tt ab[i].atom) ?_
   refine sQ ?_
   refine⟨i+1,?_,sL,ar [some 2] ?_ ?_ rfl rfl⟩
   rotate_left
   ·exact sC
   ·refine sA ?_
    all_goals((rw[tL h1,←kW]))
   exact h1
  ·have e:ab.take i=ab:=ao (by omega)
   simp -implicitDefEqProofs only[go_sem,h1,e]
   refine oC [] [0,1] (TQ (e:=34) (rest:=[]) rfl (qy (eF ab) (by omega) eW)) ?_
   refine an ?_
   refine sA ?_
   rfl
theorem Gr(hIns:BH)(s:dK)(ab:List bm):C E.P 8 [av (dV s),lv (aV ab)] [] (bz (Lt (dL s ab)) []):=by
 refine gS (nt:=28) (rs:=[.cell 4 31,.cell 5 41,.tmp 6]) hm Tryz.func8 fun hl he cq=>?_
 refine aC [] (tQ s ab) ?_
 cases eW:fe s ab
 ·have e:dL s ab=⟨jo,ng,3⟩:=by simp[dL,eW]
  rw[e]
  refine sA ?_
  refine an ?_
  refine sA ?_
  all_goals((repeat' apply au)<;>rfl)
 have e:dL s ab=fW s (aw ab) (numsOf s ab) 13 ab:=by simp[dL,eW]
 have hG:=FM eW
 have h6:=(xk eW).2.2.2.1
 have hroom:=room_le hG.n4 ab
 have lh:=O3 hIns s (aw ab) (numsOf s ab) 13 ab hG rfl rfl (by omega) (by omega)
 rw[e]
 refine sA ?_
 refine aC [] (Dd ab (by omega) hG.wf) ?_
 refine aC [] (tS s ab (by omega) hG.wf) ?_
 refine iK ?_
 refine oC [] [3] lh ?_
 refine an ?_
 simp -implicitDefEqProofs only[go_sem]
 all_goals((repeat' apply au)<;>rfl)
theorem Mo(rows:List Mod.Row)(r:Mod.Row)(o5:rows.length≤1000):C E.P 121 [.acc 0,iv (rows.length:Int),.acc 1] [some (.acc 73 (bM rows)),some (.acc 73 [om r])] (bz (.acc 2) [some .dead,some .dead,some (.acc 73 (bM (rows.take rows.length++r::rows.drop rows.length)))]):=by
 have e:rows.take rows.length++r::rows.drop rows.length=rows++[r]:=by rw[List.take_length,List.drop_length]
 have hs:bM (rows++[r])=bM rows++[om r]:=by simp[bM]
 rw[e,hs]
 refine gS (nt:=95) (rs:=[.tmp 6]) hm Tryz.func121 fun hl he cq=>?_
 refine fg (M3 (.tmp 10) (.tmp 11) 29 73 0 _ _ (bM rows) (rows.length:Int) rfl rfl rfl (by simp -implicitDefEqProofs only[go_sem]) (by simp -implicitDefEqProofs only[go_sem]) (by simp -implicitDefEqProofs only[go_sem]) (by omega) (by simp[bM])) ?_
 simp -implicitDefEqProofs only[go_sem,Z1]
 refine sQ ?_
 refine bZ [some 0,some 1,some 2] ?_ rfl rfl
 exact sC
end Go.Proofs.YtabembjmeobhoaaGreat
