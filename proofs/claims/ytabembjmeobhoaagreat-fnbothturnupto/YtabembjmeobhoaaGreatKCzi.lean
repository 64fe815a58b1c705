/-
  The program: the model of a closure, up to the insertion of rows. A step towards the laws.
-/
import Derived.Test.YtabembjmeobhoaaGreatKCzh
import Derived.Test.YtabembjmeobhoaaGreatKCzf
set_option linter.unusedVariables false
set_option linter.unusedSimpArgs false
open And renaming intro→au
open Classical renaming em→aa
open List renaming drop_eq_getElem_cons→ah,getElem_mem→ak,drop_of_length_le→al,take_of_length_le→ao,range→bu
open Nat renaming le_refl→aJ,zero_le→bc
open Option renaming getD_some→aX,isSome_some→aY
namespace Go.Proofs.YtabembjmeobhoaaGreat
open Go.Eng Go.Mod
open Int renaming reduceEq→Z1,reduceLT→Z2,reduceLE→Z3,reduceToNat→Z4
set_option maxRecDepth 100000
set_option maxHeartbeats 3200000
theorem Sb{E:Env}{o:Oper}{g g':G}{rest:qT→Option (List Ky)→G→Prop}(hw:AR E.P g g')(h:sU E none none o g' rest):sU E none none o g rest:=by
 rcases h with⟨R,δ,h1,h2⟩|⟨_,_,g2,hw2,R,δ,h1,h2⟩
 ·exact .inr ⟨rfl,rfl,g',hw,R,δ,h1,h2⟩
 ·exact .inr ⟨rfl,rfl,g2,hw.trans hw2,R,δ,h1,h2⟩
section
variable(s:dI)(aq nums:List Term)(c:List Nat)(aj:List Step)(aB:List Mod.Rat)
theorem MX(t:Term)(ht:t∈aq)(hc:c.length=aq.length)(h4v:aB.length=4)(h4:nums.length≤4)(Pb:∀x∈c,x≤1000):C E.P 118 [av (cT t),.ptr 0 0,.ptr 1 0,.ptr 2 0] [some (.box [.ptr 3 0]),some (.box [lv (br aB)]),some (.box [.ptr 4 0]),some (.box (cF (mL s aq nums))),some (.box [lv (aN aq),lv (bP c),lv (aZ aj)])] (bD (av (eY (iT aq nums c aB t))) [some (.box [.ptr 3 0]),some (.box [lv (br aB)]),some (.box [.ptr 4 0]),some (.box (cF (mL s aq nums))),some (.box [lv (aN aq),lv (bP c),lv (aZ aj)])]):=by
 refine gS (nt:=29) (rs:=[.cell 5 71]) hm Tryz.func118 fun hl he cq=>?_
 refine aC [] (dK nums t) ?_
 refine iK ?_
 rcases aa (t∈nums) with hn|hn
 ·have pN:=bz hn
  have cN:=b9 hn
  have pN':aH nums t<aB.length:=by omega
  have nn:(0:Int)≤(aH nums t:Int):=by omega
  have e:iT aq nums c aB t=aB[aH nums t]:=by rw[iT,if_neg (by omega),getD_at pN']
  simp -implicitDefEqProofs only[go_sem,cN,nn,pN']
  refine bZ [some 0,some 1,some 2,some 3,some 4] ?_ rfl rfl
  refine sA ?_
  rw[e]
  all_goals((repeat' apply au)<;>rfl)
 ·have h3:¬ (0:Int)≤bL nums t:=fun h=>hn (cR.1 h)
  have pT:=bz ht
  have pc:aH aq t<c.length:=by omega
  have ec:c[aH aq t]=cl c (aH aq t):=(gQ pc).symm
  have hle:=Pb _ (AL pc)
  have e:iT aq nums c aB t=whole (cl c (aH aq t)):=by rw[iT,if_pos (by omega)]
  have ca:=Db aq c aj t
  rw[b9 ht] at ca
  refine uC ?_
  refine dQ [] [4] ca rfl ?_ ?_ ?_
  ·exact sV
  all_goals simp -implicitDefEqProofs only[go_sem,pc,ec]
  refine aC [] (fj (cl c (aH aq t):Int)) ?_
  refine iK ?_
  refine bZ [some 0,some 1,some 2,some 3,some 4] ?_ rfl rfl
  refine sA ?_
  rw[e]
  all_goals((repeat' apply au)<;>rfl)
def BP:Prop:=∀(rows:List Mod.Row)(k:Nat)(r:Mod.Row),k≤rows.length→rows.length≤1000→C E.P 121 [.acc 0,iv k,.acc 1] [some (.acc 73 (bU rows)),some (.acc 73 [qo r])] (bD (.acc 2) [some .dead,some .dead,some (.acc 73 (bU (rows.take k++r::rows.drop k)))])
theorem Lu(hIns:BP)(hk:gU aq)(hnd:aq.Nodup)(hc:c.length=aq.length)(Pb:∀x∈c,x≤1000)(h4v:aB.length=4)(hv9:∀x∈aB,bW x=true)(h4:nums.length≤4)(o6:aq.length≤900)(hk9:∀t∈aq,t.kids.length≤1000) :
 C E.P 58 [.ptr 0 0,.ptr 1 0,lv (br aB)] [some (.box (cF (mL s aq nums))),some (.box [lv (aN aq),lv (bP c),lv (aZ aj)])] (bD (av (eZ ⟨ia aq nums c aB⟩)) [some (.box (cF (mL s aq nums))),some (.box [lv (aN aq),lv (bP c),lv (aZ aj)])]):=by
 refine gS (nt:=66) (rs:=[.cell 6 31]) hm Tryz.func58 fun hl he cq=>?_
 refine cQ hm (fun(i:Nat) (rows:List Mod.Row)=> i≤aq.length∧rows.length≤i∧(∀x∈rows,dN x.args=true)∧rows.Pairwise (fun a b=>dA a b=true)∧ia aq nums c aB=(aq.drop i).foldl (fun rows t=>putRow rows (iH aq nums c aB t)) rows) (fun(i:Nat) (rows:List Mod.Row)=> ⟨dH 66 .any [(6,.ptr 5 0),(7,.fn 118 [.ptr 2 0,.ptr 4 0,.ptr 3 0]),(8,.ptr 6 0),(20,lv (aN aq)),(21,iv aq.length),(22,iv i)],[some (.box (cF (mL s aq nums))),some (.box [lv (aN aq),lv (bP c),lv (aZ aj)]),some (.box [.ptr 0 0]),some (.box [.ptr 1 0]),some (.box [lv (br aB)]),some (.box (cF (eZ mj))),some (.box [.acc 7]),some (.acc 73 (bU rows))]⟩) (fun(i:Nat) (rows:List Mod.Row)=> aq.length-i) (0) ([]) ?_ (ar [some 0,some 1,some 2,some 3,some 4,some 5,some 6,none] ?_ ?_ rfl rfl) ?_
 rotate_left
 ·exact sC
 ·refine sA ?_
  all_goals(rfl)
 rotate_left
 ·exact⟨bc _,aJ _,fun x hx=>(by simp at hx),List.Pairwise.nil,rfl⟩
 ·rintro i rows ⟨hi,hrl,hro,hpw,hg⟩
  rcases aa (i<aq.length) with h1|h1
  ·have mt:=ak h1
   have kt:=hk _ mt
   have kl:=hk9 _ mt
   have hv:=MX s aq nums c aj aB aq[i] mt hc h4v h4 Pb
   rw[ah h1,List.foldl_cons] at hg
   obtain⟨t,ht⟩:∃t,aq[i]=t:=⟨_,rfl⟩
   rw[ht] at hv hg kt kl
   simp -implicitDefEqProofs only[go_sem,h1,ht]
   refine gE [.ptr 2 0,.ptr 4 0,.ptr 3 0] [2,4,3,0,1] hv ?_ ?_
   ·refine sA ?_
    first|rfl|((repeat' apply au)<;>rfl)
   refine sA ?_
   refine iK ?_
   refine aM hm (fun(j:Nat)=> j≤t.kids.length) (fun(j:Nat)=> ⟨dH 66 .any [(6,.ptr 5 0),(7,.fn 118 [.ptr 2 0,.ptr 4 0,.ptr 3 0]),(8,.ptr 6 0),(11,.ptr 8 0),(20,lv (aN aq)),(21,iv aq.length),(22,iv i),(33,lv (aN t.kids)),(34,iv t.kids.length),(35,iv j)],[some (.box (cF (mL s aq nums))),some (.box [lv (aN aq),lv (bP c),lv (aZ aj)]),some (.box [.ptr 0 0]),some (.box [.ptr 1 0]),some (.box [lv (br aB)]),some (.box (cF (eZ mj))),some (.box [.acc 7]),some (.acc 73 (bU rows)),some (.box [sv t.name,.acc 9,iv (iT aq nums c aB t).N,iv (iT aq nums c aB t).D]),some (.acc 71 (br ((t.kids.take j).map (iT aq nums c aB))))]⟩) (fun(j:Nat)=> t.kids.length-j) (0) ?_ (ar [some 0,some 1,some 2,some 3,some 4,some 5,some 6,some 7,some 9,none] ?_ ?_ rfl rfl) ?_
   rotate_left
   ·exact sC
   ·exact sC
   rotate_left
   ·omega
   ·rintro j hj
    have hsl:((t.kids.take j).map (iT aq nums c aB)).length≤1000:=by simp;omega
    rcases aa (j<t.kids.length) with h2|h2
    ·have mk:=kt _ (ak h2)
     have hvk:=MX s aq nums c aj aB t.kids[j] mk hc h4v h4 Pb
     have hs:(t.kids.take (j+1)).map (iT aq nums c aB)=(t.kids.take j).map (iT aq nums c aB)++[iT aq nums c aB t.kids[j]]:=by
      rw[List.take_add_one,List.getElem?_eq_getElem h2,List.map_append];rfl
     refine uB ?_
     refine gE [.ptr 2 0,.ptr 4 0,.ptr 3 0] [2,4,3,0,1] hvk ?_ ?_
     ·refine sA ?_
      first|rfl|((repeat' apply au)<;>rfl)
     refine sA ?_
     refine sQ ?_
     refine⟨j+1,?_,sL,ar [some 0,some 1,some 2,some 3,some 4,some 5,some 6,some 7,some 8,some 11] ?_ ?_ rfl rfl⟩
     rotate_left
     ·exact sC
     ·refine sA ?_
      all_goals((rw[hs,←tl,vp,tD];rfl))
     exact h2
    ·have et:t.kids.take j=t.kids:=ao (by omega)
     have hrt:dN (iH aq nums c aB t).args=true:=rV Pb hv9
     have hbs:=rY rows (iH aq nums c aB t) (J6 hro hpw hrt) (by omega)
     have hpc:=sr rows (iH aq nums c aB t)
     have hcl:=QF rows (iH aq nums c aB t)
     have dz:=Gf rows (iH aq nums c aB t)
     have hmem:∀x∈putRow rows (iH aq nums c aB t),dN x.args=true:=fun x hx=>by
      rcases G6 hx with hx|hx
      ·exact hro x hx
      ·rw[hx];exact hrt
     have hpw2:=Ob hro hpw hrt
     rw[et]
     refine uB ?_
     refine dQ [] [7,9] hbs rfl ?_ ?_ ?_
     ·exact sV
     all_goals simp -implicitDefEqProofs only[go_sem]
     cases hf:found rows (iH aq nums c aB t)
     ·rw[hf,if_neg (by simp)] at hpc
      have kF:=hIns rows (cut rows (iH aq nums c aB t)) (iH aq nums c aB t) hcl (by omega)
      rw[←hpc] at kF
      refine sA ?_
      refine Sb (wj 10 0 [T.leaf (D.str t.name),T.ref 9,T.leaf (D.val (Value.int IntKind.i64 (iT aq nums c aB t).N)),T.leaf (D.val (Value.int IntKind.i64 (iT aq nums c aB t).D))] rfl (by simp) rfl) ?_
      refine sA ?_
      refine Sb (RS 10 (ys:=[qo (iH aq nums c aB t)]) rfl (by simp only[List.set_cons_zero,cZ,gm,T.Gl,nh];try rfl)) ?_
      refine sA ?_
      refine gE [] [7,10,11] kF ?_ ?_<;>simp -implicitDefEqProofs only[go_sem]
      ·rfl
      repeat(with_reducible apply au;case left=>omega)
      refine⟨i+1,putRow rows (iH aq nums c aB t),?_,sL,ar [some 0,some 1,some 2,some 3,some 4,some 5,some 6,some 11] ?_ ?_ rfl rfl⟩
      rotate_left
      ·exact sC
      ·exact sC
      exact⟨by omega,by omega,hmem,hpw2,hg⟩
     ·rw[hf,if_pos rfl] at hpc
      rw[hpc] at hg
      refine sA ?_
      refine sQ ?_
      refine⟨i+1,rows,?_,sL,ar [some 0,some 1,some 2,some 3,some 4,some 5,some 6,some 7] ?_ ?_ rfl rfl⟩
      rotate_left
      ·exact sC
      ·exact sC
      exact⟨by omega,by omega,hro,hpw,hg⟩
  ·rw[al (by omega),List.foldl_nil] at hg
   refine uA ?_
   refine bZ [some 0,some 1] ?_ rfl rfl
   refine sA ?_
   rw[hg]
   all_goals((repeat' apply au)<;>rfl)
end
set_option maxHeartbeats 6400000
theorem TG(ls:List ir):(bO ls).code=0∨(bO ls).code=1∨(bO ls).code=2∨(bO ls).code=3:=by
 unfold bO
 split
 ·split
  ·exact .inr (.inr (.inl rfl))
  ·split
   ·exact .inr (.inr (.inl rfl))
   ·split
    ·exact .inr (.inr (.inl rfl))
    ·split
     ·exact .inr (.inr (.inl rfl))
     ·unfold iy
      split
      ·split
       ·exact .inr (.inl rfl)
       ·exact .inr (.inr (.inl rfl))
      ·split
       ·exact .inr (.inr (.inl rfl))
       ·split
        ·exact .inl rfl
        ·exact .inr (.inr (.inl rfl))
 ·exact .inr (.inr (.inr rfl))
theorem wB(s:dI)(m:Mod.Model)(ab:List bl)(o6:ab.length≤1000):C E.P 10 [av (eu s),av (eZ m),lv (aV ab)] [] (bD (bv (eP s m ab)) []):=by
 refine gS (nt:=35) (rs:=[.tmp 6]) hm Tryz.func10 fun hl he cq=>?_
 refine aC [] (xF s m) ?_
 cases h0:fg s m
 ·have e:eP s m ab=false:=by simp[eP,h0]
  refine sA ?_
  refine an ?_
  refine sA ?_
  all_goals(simp[e];done)
 ·have e:eP s m ab=ab.all fun l=>decide (gn s m l=some true):=by simp[eP,h0]
  refine sA ?_
  refine aM hm (fun(i:Nat)=> i≤ab.length∧eP s m ab=(ab.drop i).all fun l=>decide (gn s m l=some true)) (fun(i:Nat)=> ⟨dH 35 .any [(3,.ptr 0 0),(4,.ptr 1 0),(15,lv (aV ab)),(16,iv ab.length),(17,iv i)],[some (.box (cF (eu s))),some (.box (cF (eZ m)))]⟩) (fun(i:Nat)=> ab.length-i) (0) ?_ (ar [some 0,some 1] ?_ ?_ rfl rfl) ?_
  rotate_left
  ·exact sC
  ·exact sC
  rotate_left
  ·exact⟨bc _,e⟩
  ·rintro i ⟨hi,hg⟩
   rcases aa (i<ab.length) with h1|h1
   ·rw[ah h1,List.all_cons] at hg
    have hco:=Eu s m ab[i]
    refine uA ?_
    refine aC [] hco ?_
    cases h2:gn s m ab[i] with
    | none=>
      rw[h2] at hg
      refine uK ?_
      refine an ?_
      refine sA ?_
      all_goals(simp[hg];done)
    | some b=>
      rw[h2] at hg
      cases b
      ·refine uL ?_
       refine an ?_
       refine sA ?_
       all_goals(simp[hg];done)
      ·simp only[decide_true,Bool.true_and] at hg
       refine uL ?_
       refine sQ ?_
       refine⟨i+1,?_,sL,ar [some 0,some 1] ?_ ?_ rfl rfl⟩
       rotate_left
       ·exact sC
       ·exact sC
       exact⟨by omega,hg⟩
   ·rw[al (by omega),List.all_nil] at hg
    refine uA ?_
    refine an ?_
    refine sA ?_
    all_goals(simp[hg];done)
theorem Pq(a:Case):im [a]=[jJ a]:=by rw[p8,oI]
def K2(r:zV):PV:=.gV [av (eZ r.model),av (jJ r.case),iv r.code]
attribute [go_sem] K2
theorem QW(hIns:BP)(s:dI)(aq nums:List Term):∀(f:Nat)(ab:List bl),iq s ab→az ab=aq→numsOf s ab=nums→room nums ab<f→ab.length+f≤50→C E.P 18 [.ptr 0 0,lv (aV ab)] [some (.box (cF (mL s aq nums)))] (bD (K2 (il s aq nums f ab)) [some (.box (cF (mL s aq nums)))]):=by
 intro f
 induction f with
 | zero=>intro ab hG _ _ h;omega
 | succ f ih=>
 intro ab hG hT hN hroom dz
 have hel:(a7 ab).length≤50:=Nat.le_trans (List.length_filterMap_le _ _) (by omega)
 have next:∀x,Mod.Next s ab x→C E.P 18 [.ptr 0 0,lv (aV (ab++[x]))] [some (.box (cF (mL s aq nums)))] (bD (K2 (il s aq nums f (ab++[x]))) [some (.box (cF (mL s aq nums)))]):=fun x hx=>by
  obtain⟨g1,g2,g3,g4⟩:=hx
  rw[hN] at g4
  exact ih (ab++[x]) g1 (g2.trans hT) (g3.trans hN) (by omega) (by simp;omega)
 have h4:=hG.n4
 have h24:=hG.n24
 have hkids:=hG.kids
 have hein:=hG.Bm
 have hlen9:=hG.Wg
 have hk9:=hG.MW
 have hkin:=hG.Mu
 have hnum:=hG.num
 have hnd:=hG.nodup
 have hcl:=hG.Nv
 have Pb:=hG.L6
 have hfit:=hG.fit
 have mG:∀t∈numsOf s ab,t∈az ab:=oA
 have neq:∀i k,i<k→k<(numsOf s ab).length→Mod.linked (numsOf s ab) ab i k=false→Mod.Next s ab (gx ((numsOf s ab).getD i aL) ((numsOf s ab).getD k aL)):=fun i k h1 h2 h3=>FA hG h1 h2 h3
 have npa:∀i k,i<k→k<(numsOf s ab).length→qQ (numsOf s ab) ab i k=true→∀l∈fm ((numsOf s ab).getD i aL) ((numsOf s ab).getD k aL),Mod.Next s ab l:=fun i k h1 h2 h3=>xv hG h1 h2 h3
 have nne:∀i k,i<k→k<(numsOf s ab).length→(numsOf s ab).getD i aL≠(numsOf s ab).getD k aL:=fun i k h1 h2=>Ct hG h1 h2
 have hkept:=mH (ae:=az ab) (eqs:=a7 ab) hein
 have hsl:(closed (az ab) (a7 ab)).2.length≤2000000:=by
  have h1:=vz hkept (closed (az ab) (a7 ab)).2.length (aJ _)
  have h2:(bu (az ab).length).sum≤(bu (az ab).length).length*1000:=pJ fun x hx=>by have:=List.mem_range.1 hx;omega
  have h3:(bu (az ab).length).length*1000≤1000*1000:=Nat.mul_le_mul_right _ (by simpa using hlen9)
  omega
 rw[hT] at hkept hsl h24 hkids hein hlen9 hk9 hkin hnd hcl Pb mG
 rw[hN] at h4 hnum hfit mG neq npa nne
 refine gS (nt:=205) (rs:=[.cell 4 31,.cell 5 41,.tmp 6]) hm Tryz.func18 fun hl he cq=>?_
 refine aC [] (vO ab (by omega)) ?_
 rcases aa ((12:Int)<((a7 ab).length:Int)) with h12|h12
 ·rw[ux (by omega)]
  simp -implicitDefEqProofs only[go_sem,h12]
  refine bZ [some 0] ?_ rfl rfl
  refine sA ?_
  all_goals((repeat' apply au)<;>rfl)
 have h12':¬12<(a7 ab).length:=by omega
 simp -implicitDefEqProofs only[go_sem,h12]
 refine oC [] [5] (Iy aq (a7 ab) hkids hein hlen9 hk9 (by omega)) ?_
 have ccl:=KX s aq nums (a7 ab) ab hkids hein hlen9 hk9 hkin
 refine gE [] [0,5] ccl ?_ ?_
 ·refine sA ?_
  first|rfl|((repeat' apply au)<;>rfl)
 refine sA ?_
 cases hc:kg (jh aq (closed aq (a7 ab)).1) ab with
 | some n=>
   rw[rD h12' hc]
   simp -implicitDefEqProofs only[go_sem,aY]
   refine iK ?_
   refine bZ [some 0] ?_ rfl rfl
   refine sA ?_
   all_goals((repeat' apply au)<;>rfl)
 | none=>
 simp -implicitDefEqProofs only[go_sem,Option.isSome_none]
 refine aC [] (zh nums ab h4 (by omega) hfit) ?_
 refine aC [] (IB (dX nums ab)) ?_
 refine iK ?_
 have hcodes:=TG (dX nums ab)
 have hfv:=Cv (list:=dX nums ab)
 have l1:=uf (s:=s) (aq:=aq) (nums:=nums) (f:=f) h12' hc
 have l2:=uP (s:=s) (aq:=aq) (nums:=nums) (f:=f) h12' hc
 have l3:=fun h q=>@ue s aq nums f ab h12' hc h q
 have l4:=fun h hp q=>@qH s aq nums f ab h12' hc h hp q
 have l5:=fun h hp=>@rE s aq nums f ab h12' hc h hp
 generalize bO (dX nums ab)=Jn at *
 obtain⟨aB,times,code⟩:=Jn
 simp only at hcodes hfv l1 l2 l3 l4 l5⊢
 rcases hcodes with rfl|rfl|rfl|rfl
 ·obtain⟨v4,vok⟩:=hfv rfl
  have co1:=WJ s aq nums (closed aq (a7 ab)).1 (closed aq (a7 ab)).2 ab mG hcl h4
  simp -implicitDefEqProofs only[go_sem,Z1]
  refine oC [] [0] (LJ s aq nums (a7 ab) h4 (by omega)) ?_
  refine gE [] [8,9,6,1,5,0] co1 ?_ ?_
  ·refine sA ?_
   first|rfl|((repeat' apply au)<;>rfl)
  refine sA ?_
  cases hp:b7 nums.length (eK true aq nums (closed aq (a7 ab)).1 ab) with
  | some q=>
    obtain⟨q1,q2,q3⟩:=lp hp
    have hlk:=rq q3
    have hnx:=next _ (neq q.1 q.2 q1 q2 hlk)
    have hi:q.1<nums.length:=by omega
    have ga:nums.getD q.1 aL=nums[q.1]:=fc hi
    have gb:nums.getD q.2 aL=nums[q.2]:=fc q2
    have hA:=mG _ (ak hi)
    have hB:=mG _ (ak q2)
    have hsm:gh aq (closed aq (a7 ab)).1 nums[q.1] nums[q.2]=true:=by
     rw[Dt,hlk,ga,gb] at q3
     exact q3
    have hre:=uo aq (a7 ab) (closed aq (a7 ab)).1 (closed aq (a7 ab)).2 hkept.1 hkids hlen9 hk9 hsl nums[q.1] nums[q.2] hA hB (by rw[←hkept.2];simpa[gh] using hsm)
    rw[l3 rfl q hp]
    rw[ga,gb] at hnx⊢
    obtain⟨i,k⟩:=q
    simp only at hnx hi q2 hre⊢
    obtain⟨r,er⟩:∃r,il s aq nums f (ab++[gx nums[i] nums[k]])=r:=⟨_,rfl⟩
    rw[er] at hnx⊢
    simp -implicitDefEqProofs only[go_sem,aY,aX,hi,q2]
    refine iK ?_
    refine aC [] (vJ nums[i] nums[k]) ?_
    refine aC [] (vZ ab (gx nums[i] nums[k]) (by omega)) ?_
    refine oC [] [0] hnx ?_
    refine iK ?_
    rcases aa (r.code=1) with hr|hr
    ·have kr:=eq_true hr
     rw[zf,if_pos hr]
     simp -implicitDefEqProofs only[go_sem,kr]
     refine oC [] [5] hre ?_
     refine iK ?_
     refine bZ [some 0] ?_ rfl rfl
     refine sA ?_
     all_goals((repeat' apply au)<;>first|rfl|exact(Pq _).symm)
    ·rw[zf,if_neg hr]
     simp -implicitDefEqProofs only[go_sem,hr]
     refine bZ [some 0] ?_ rfl rfl
     refine sA ?_
     all_goals((repeat' apply au)<;>rfl)
  | none=>
  have co2:=Wc s aq nums (closed aq (a7 ab)).1 ab hnum h4
  refine uK ?_
  refine gE [] [8,1,2,0] co2 ?_ ?_
  ·refine sA ?_
   first|rfl|((repeat' apply au)<;>rfl)
  refine sA ?_
  cases hq:b7 nums.length (eK false aq nums (closed aq (a7 ab)).1 ab) with
  | some q=>
    obtain⟨q1,q2,q3⟩:=lp hq
    have hnx:=npa q.1 q.2 q1 q2 (vR q3)
    have jD:=nne q.1 q.2 q1 q2
    have hi:q.1<nums.length:=by omega
    have ga:nums.getD q.1 aL=nums[q.1]:=fc hi
    have gb:nums.getD q.2 aL=nums[q.2]:=fc q2
    have tA:=hnum _ (ak hi)
    have tB:=hnum _ (ak q2)
    have hR:=l4 rfl hp q hq
    rw[ga,gb] at hnx jD hR
    obtain⟨i0,k0⟩:=q
    simp only at hnx jD hi q2 tA tB hR
    obtain⟨R,eR⟩:∃R,il s aq nums (f+1) ab=R:=⟨_,rfl⟩
    rw[eR] at hR⊢
    have hp3:(fm nums[i0] nums[k0]).length=3:=rfl
    simp -implicitDefEqProofs only[go_sem,aY,aX,hi,q2]
    refine iK ?_
    obtain⟨a,ha⟩:∃a,nums[i0]=a:=⟨_,rfl⟩
    obtain⟨b,hb⟩:∃b,nums[k0]=b:=⟨_,rfl⟩
    rw[ha] at hnx jD tA hR hp3
    rw[hb] at hnx jD tB hR hp3
    simp -implicitDefEqProofs only[go_sem,ha,hb]
    refine aC [] (ic a) ?_
    refine aC [] (ic b) ?_
    refine iK ?_
    refine aC [] (y7 a b tA tB) ?_
    refine cQ hm (fun(i:Nat) (out:List Case)=> i≤3∧out.length=i∧R=oc (il s aq nums f) a b (((fm a b).drop i).map fun l=>ab++[l]) out) (fun(i:Nat) (out:List Case)=> ⟨dH 205 .any [(2,.ptr 1 0),(3,.ptr 2 0),(4,.ptr 3 0),(5,.ptr 4 0),(29,.ptr 5 0),(160,lv (aV (fm a b))),(161,iv (fm a b).length),(162,iv i)],[some (.box (cF (mL s aq nums))),some (.box [.ptr 0 0]),some (.box [lv (aV ab)]),some (.box (cF (eZ mj))),some (.box (cF (jJ tg))),some (.box [iv 4,iv 0,iv 0,iv 0,sv [],lv [],lv [],lv [],sv a.name,lv (aN a.kids),sv b.name,lv (aN b.kids),.acc 6]),some (.acc 41 (im out))]⟩) (fun(i:Nat) (out:List Case)=> 3-i) (0) ([]) ?_ (ar [some 0,some 1,some 2,some 3,some 4,some 12,none] ?_ ?_ rfl rfl) ?_
    rotate_left
    ·exact sC
    ·refine sA ?_
     all_goals(((repeat' apply au)<;>rfl))
    rotate_left
    ·exact⟨by omega,rfl,hR⟩
    ·rintro i out ⟨hi9,ho,hg⟩
     have hol:out.length≤3:=by omega
     rcases aa (i<3) with h1|h1
     ·have h1':i<(fm a b).length:=by omega
      have hr:=next _ (hnx _ (ak h1'))
      rw[ah h1',List.map_cons,nU] at hg
      obtain⟨x,hx⟩:∃x,(fm a b)[i]=x:=⟨_,rfl⟩
      rw[hx] at hr hg
      obtain⟨r,er⟩:∃r,il s aq nums f (ab++[x])=r:=⟨_,rfl⟩
      rw[er] at hr hg
      simp -implicitDefEqProofs only[go_sem,h1',hx]
      refine aC [] (vZ ab x (by omega)) ?_
      refine oC [] [0] hr ?_
      refine iK ?_
      rcases aa (r.code=1) with hcd|hcd
      ·rw[if_pos hcd] at hg
       have kc:=eq_true hcd
       simp -implicitDefEqProofs only[go_sem,kc]
       refine sQ ?_
       refine⟨i+1,out++[r.case],?_,sL,ar [some 0,some 1,some 2,some 3,some 4,some 5,some 10] ?_ ?_ rfl rfl⟩
       rotate_left
       ·exact sC
       ·refine sA ?_
        all_goals((rw[←Cp,p8,oI];rfl))
       exact⟨by omega,by simp[ho],hg⟩
      ·rw[if_neg hcd] at hg
       simp -implicitDefEqProofs only[go_sem,hcd]
       refine bZ [some 0] ?_ rfl rfl
       refine sA ?_
       rw[hg]
       all_goals((repeat' apply au)<;>rfl)
     ·have h1':¬i<(fm a b).length:=by omega
      rw[al (by omega),List.map_nil,pC] at hg
      simp -implicitDefEqProofs only[go_sem,h1']
      refine iK ?_
      refine bZ [some 0] ?_ rfl rfl
      refine sA ?_
      rw[hg]
      all_goals((repeat' apply au)<;>rfl)
  | none=>
  have cmo:=Lu s aq nums (closed aq (a7 ab)).1 (closed aq (a7 ab)).2 aB hIns hkids hnd hcl Pb v4 vok h4 (by omega) hk9
  have cal:=wB s ⟨ia aq nums (closed aq (a7 ab)).1 aB⟩ ab (by omega)
  rw[l5 rfl hp hq]
  refine uK ?_
  refine gE [] [0,5] cmo ?_ ?_
  ·refine sA ?_
   first|rfl|((repeat' apply au)<;>rfl)
  refine sA ?_
  refine aC [] cal ?_
  refine iK ?_
  cases hm2:eP s ⟨ia aq nums (closed aq (a7 ab)).1 aB⟩ ab
  ·rw[if_neg (by simp)]
   refine sA ?_
   refine bZ [some 0] ?_ rfl rfl
   refine sA ?_
   all_goals((repeat' apply au)<;>rfl)
  ·rw[if_pos rfl]
   refine sA ?_
   refine bZ [some 0] ?_ rfl rfl
   refine sA ?_
   all_goals((repeat' apply au)<;>rfl)
 ·rw[l1 rfl]
  refine sA ?_
  refine bZ [some 0] ?_ rfl rfl
  refine sA ?_
  all_goals((repeat' apply au)<;>rfl)
 ·rw[l2 (by decide) (by decide)]
  simp -implicitDefEqProofs only[go_sem,Z1]
  refine bZ [some 0] ?_ rfl rfl
  refine sA ?_
  all_goals((repeat' apply au)<;>rfl)
 ·rw[l2 (by decide) (by decide)]
  simp -implicitDefEqProofs only[go_sem,Z1]
  refine bZ [some 0] ?_ rfl rfl
  refine sA ?_
  all_goals((repeat' apply au)<;>rfl)
theorem Dc(ab:List bl)(hl1:ab.length≤100)(hw:∀l∈ab,cP l.atom=true):C E.P 16 [lv (aV ab)] [] (bD (lv (aN (az ab))) []):=by
 obtain⟨hle,e7⟩:=iW hw
 refine gS (nt:=20) (rs:=[.tmp 2]) hm Tryz.func16 fun hl he cq=>?_
 refine aM hm (fun(i:Nat)=> i≤ab.length) (fun(i:Nat)=> ⟨dH 20 .any [(3,.acc 0),(6,lv (aV ab)),(7,iv ab.length),(8,iv i)],[some (.acc 34 (aN (dZ (ab.take i))))]⟩) (fun(i:Nat)=> ab.length-i) (0) ?_ (ar [none] ?_ ?_ rfl rfl) ?_
 rotate_left
 ·exact sC
 ·refine sA ?_
  all_goals(rfl)
 rotate_left
 ·omega
 ·rintro i hi
  rcases aa (i<ab.length) with h1|h1
  ·have h2:=iW (ab:=ab.take i) fun l hl=>hw l (List.mem_of_mem_take hl)
   have h3:=na (hw ab[i] (ak h1))
   have h4:(ab.take i).length≤100:=by simp;omega
   refine uA ?_
   refine aC [] (tf ab[i].atom) ?_
   refine sQ ?_
   refine⟨i+1,?_,sL,ar [some 2] ?_ ?_ rfl rfl⟩
   rotate_left
   ·exact sC
   ·refine sA ?_
    all_goals((rw[tS h1,←lg]))
   exact h1
  ·have e:ab.take i=ab:=ao (by omega)
   simp -implicitDefEqProofs only[go_sem,h1,e]
   refine oC [] [0,1] (Wb (e:=34) (rest:=[]) rfl (qG (dZ ab) (by omega) e7)) ?_
   refine an ?_
   refine sA ?_
   rfl
theorem xC(hIns:BP)(s:dI)(ab:List bl):C E.P 8 [av (eu s),lv (aV ab)] [] (bD (K2 (eC s ab)) []):=by
 refine gS (nt:=28) (rs:=[.cell 4 31,.cell 5 41,.tmp 6]) hm Tryz.func8 fun hl he cq=>?_
 refine aC [] (zF s ab) ?_
 cases e7:e6 s ab
 ·have e:eC s ab=⟨mj,tg,3⟩:=by simp[eC,e7]
  rw[e]
  refine sA ?_
  refine an ?_
  refine sA ?_
  all_goals((repeat' apply au)<;>rfl)
 have e:eC s ab=il s (az ab) (numsOf s ab) 13 ab:=by simp[eC,e7]
 have hG:=BZ e7
 have h6:=(rN e7).2.2.2.1
 have hroom:=room_le hG.n4 ab
 have lO:=QW hIns s (az ab) (numsOf s ab) 13 ab hG rfl rfl (by omega) (by omega)
 rw[e]
 refine sA ?_
 refine aC [] (Dc ab (by omega) hG.wf) ?_
 refine aC [] (tO s ab (by omega) hG.wf) ?_
 refine iK ?_
 refine oC [] [3] lO ?_
 refine an ?_
 simp -implicitDefEqProofs only[go_sem]
 all_goals((repeat' apply au)<;>rfl)
theorem Lt(rows:List Mod.Row)(r:Mod.Row)(o6:rows.length≤1000):C E.P 121 [.acc 0,iv (rows.length:Int),.acc 1] [some (.acc 73 (bU rows)),some (.acc 73 [qo r])] (bD (.acc 2) [some .dead,some .dead,some (.acc 73 (bU (rows.take rows.length++r::rows.drop rows.length)))]):=by
 have e:rows.take rows.length++r::rows.drop rows.length=rows++[r]:=by rw[List.take_length,List.drop_length]
 have hs:bU (rows++[r])=bU rows++[qo r]:=by simp[bU]
 rw[e,hs]
 refine gS (nt:=95) (rs:=[.tmp 6]) hm Tryz.func121 fun hl he cq=>?_
 refine fu (Oe (.tmp 10) (.tmp 11) 29 73 0 _ _ (bU rows) (rows.length:Int) rfl rfl rfl (by simp -implicitDefEqProofs only[go_sem]) (by simp -implicitDefEqProofs only[go_sem]) (by simp -implicitDefEqProofs only[go_sem]) (by omega) (by simp[bU])) ?_
 simp -implicitDefEqProofs only[go_sem,Z1]
 refine sQ ?_
 refine bZ [some 0,some 1,some 2] ?_ rfl rfl
 exact sC
end Go.Proofs.YtabembjmeobhoaaGreat
