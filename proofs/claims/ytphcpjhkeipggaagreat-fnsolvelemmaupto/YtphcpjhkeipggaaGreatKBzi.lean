/-
  The program: the model of a closure, up to the insertion of rows. A step towards the laws.
-/
import Derived.Test.YtphcpjhkeipggaaGreatKBzh
import Derived.Test.YtphcpjhkeipggaaGreatKBzf
set_option linter.unusedVariables false
set_option linter.unusedSimpArgs false
open Int renaming reduceEq→Z1,reduceLT→Z2,reduceLE→Z3,reduceToNat→Z4
open And renaming intro→an
open Classical renaming em→aa
open List renaming drop_eq_getElem_cons→ae,getElem_mem→aj,drop_of_length_le→ak,take_of_length_le→aq,range→bK
open Nat renaming le_refl→aK,zero_le→bo
open Option renaming getD_some→cg,isSome_some→dw
namespace Go.Proofs.YtphcpjhkeipggaaGreat
open Go.Eng Go.Mod
set_option maxRecDepth 100000
set_option maxHeartbeats 3200000
theorem WR{E:Env}{o:Oper}{g g':G}{rest:uW→Option (List Ky)→G→Prop}(hw:DZ E.P g g')(h:tR E none none o g' rest):tR E none none o g rest:=by rcases h with⟨R,δ,h1,h2⟩|⟨_,_,g2,hw2,R,δ,h1,h2⟩;exact .inr ⟨rfl,rfl,g',hw,R,δ,h1,h2⟩;exact .inr ⟨rfl,rfl,g2,hw.trans hw2,R,δ,h1,h2⟩
section
variable(s:eM)(ay ai:List ax)(c:List Nat)(ao:List Step)(aF:List Mod.Rat)
theorem Ts(t:ax)(ht:t∈ay)(hc:c.length=ay.length)(h4v:aF.length=4)(h4:ai.length≤4)(TV:∀x∈c,x≤1000):CP 210 [av (cT t),.bA 0 0,.bA 1 0,.bA 2 0] [some (.box [.bA 3 0]),some (.box [lv (bQ aF)]),some (.box [.bA 4 0]),some (.box (dm (uR s ay ai))),some (.box [lv (aU ay),lv (db c),lv (bD ao)])] (av (fZ (kG ay ai c aF t))):=by
 refine gS 29 [.cell 5 151] hm Tryz.func210 fun hl he cf=>?_;refine sa [] (e9 ai t) ?_;rcases aa (t∈ai) with hn|hn;have pN:=bT hn;have cN:=cX hn;have pN':aM ai t<aF.length:=oM;have nn:(0:Int)≤(aM ai t:Int):=oM;have e:kG ay ai c aF t=aF[aM ai t]:=by rw[kG,if_neg oM,getD_at pN']
 simp -implicitDefEqProofs only[go_sem,cN,nn,pN'];refine bX im5 ?_ rfl rfl;exact dD e;have h3:¬ (0:Int)≤b8 ai t:=fun h=>hn (dE.1 h);have pT:=bT ht;have pc:aM ay t<c.length:=oM;have ec:c[aM ay t]=cl c (aM ay t):=(jt pc).symm;have hle:=TV _ (DU pc);have e:kG ay ai c aF t=whole (cl c (aM ay t)):=by rw[kG,if_pos oM]
 have ca:=GQ ay c ao t;rw[cX ht] at ca;refine bH h3 ?_;refine AQ [] [4] ca ?_;refine iI pc ec ?_;refine sa [] (gk (cl c (aM ay t):Int)) ?_;refine bX im5 ?_ rfl rfl;exact dD e
def Et:Prop:=∀(aw:List Mod.Row)(k:Nat)(r:Mod.Row),k≤aw.length→aw.length≤1000→C E.P 212 [.aX 0,iv k,.aX 1] [some (.aX 153 (cu aw)),some (.aX 153 [tn r])] (jF (.aX 2) [some .dead,some .dead,some (.aX 153 (cu (aw.take k++r::aw.drop k)))])
theorem QY(hIns:Et)(hk:jv ay)(hnd:ay.Nodup)(hc:c.length=ay.length)(TV:∀x∈c,x≤1000)(h4v:aF.length=4)(hv9:∀x∈aF,cP x=true)(h4:ai.length≤4)(qF:ay.length≤900)(hk9:∀t∈ay,t.ar.length≤1000) :
 CP 127 [.bA 0 0,.bA 1 0,lv (bQ aF)] [some (.box (dm (uR s ay ai))),some (.box [lv (aU ay),lv (db c),lv (bD ao)])] (av (fX ⟨jT ay ai c aF⟩)):=by
 refine gS 66 [.cell 6 51] hm Tryz.func127 fun hl he cf=>?_
 refine ry hm ay.length (fun(i:Nat) (aw:List Mod.Row)=>aw.length≤i∧(∀x∈aw,fg x.args=true)∧aw.Pairwise (fun a b=>eS a b=true)∧jT ay ai c aF=(ay.drop i).foldl (fun aw t=>putRow aw (j9 ay ai c aF t)) aw) (fun i aw=>⟨dN 66 .any [(6,.bA 5 0),(7,.fn 210 [.bA 2 0,.bA 4 0,.bA 3 0]),(8,.bA 6 0),(20,lv (aU ay)),(21,iv ay.length),(22,iv i)],[some (.box (dm (uR s ay ai))),some (.box [lv (aU ay),lv (db c),lv (bD ao)]),some (.box [.bA 0 0]),some (.box [.bA 1 0]),some (.box [lv (bQ aF)]),some (.box (dm (fX oo))),some (.box [.aX 7]),some (.aX 153 (cu aw))]⟩) ([]) ?_ (cM [some 0,some 1,some 2,some 3,some 4,some 5,some 6,none]) ?_
 ·exact⟨bo _,aK _,fun x hx=>(by simp at hx),List.Pairwise.nil,rfl⟩
 ·rintro i aw ⟨hi,hrl,hro,hpw,hg⟩
  rcases aa (i<ay.length) with h1|h1
  ·have mt:=aj h1
   have kt:=hk _ mt
   have kl:=hk9 _ mt
   have hv:=Ts s ay ai c ao aF ay[i] mt hc h4v h4 TV
   rw[ae h1,List.foldl_cons] at hg
   obtain⟨t,ht⟩:∃t,ay[i]=t:=⟨_,rfl⟩
   rw[ht] at hv hg kt kl
   refine iI h1 ht ?_
   refine lx [.bA 2 0,.bA 4 0,.bA 3 0] [2,4,3,0,1] hv ?_ ?_
   ·refine sA ?_
    first|rfl|((repeat' apply an)<;>rfl)
   refine bt ?_
   refine jr hm t.ar.length (fun j=>⟨dN 66 .any [(6,.bA 5 0),(7,.fn 210 [.bA 2 0,.bA 4 0,.bA 3 0]),(8,.bA 6 0),(11,.bA 8 0),(20,lv (aU ay)),(21,iv ay.length),(22,iv i),(33,lv (aU t.ar)),(34,iv t.ar.length),(35,iv j)],[some (.box (dm (uR s ay ai))),some (.box [lv (aU ay),lv (db c),lv (bD ao)]),some (.box [.bA 0 0]),some (.box [.bA 1 0]),some (.box [lv (bQ aF)]),some (.box (dm (fX oo))),some (.box [.aX 7]),some (.aX 153 (cu aw)),some (.box [sv t.name,.aX 9,iv (kG ay ai c aF t).N,iv (kG ay ai c aF t).D]),some (.aX 151 (bQ ((t.ar.take j).map (kG ay ai c aF))))]⟩) (cM [some 0,some 1,some 2,some 3,some 4,some 5,some 6,some 7,some 9,none]) ?_
   ·rintro j hj
    have hsl:((t.ar.take j).map (kG ay ai c aF)).length≤1000:=by simp;omega
    rcases aa (j<t.ar.length) with h2|h2
    ·have mk:=kt _ (aj h2)
     have hvk:=Ts s ay ai c ao aF t.ar[j] mk hc h4v h4 TV
     have hs:(t.ar.take (j+1)).map (kG ay ai c aF)=(t.ar.take j).map (kG ay ai c aF)++[kG ay ai c aF t.ar[j]]:=by rw[List.take_add_one,List.getElem?_eq_getElem h2,List.map_append];rfl
     refine uB ?_
     refine lx [.bA 2 0,.bA 4 0,.bA 3 0] [2,4,3,0,1] hvk ?_ ?_
     ·refine sA ?_
      first|rfl|((repeat' apply an)<;>rfl)
     refine bt ?_
     exact⟨j+1,h2,sL,aZ [some 0,some 1,some 2,some 3,some 4,some 5,some 6,some 7,some 8,some 11] sC (by refine sA ?_;(rw[hs,←wY,zr,w5];rfl)) rfl rfl⟩
    ·have et:t.ar.take j=t.ar:=aq oM
     have hrt:fg (j9 ay ai c aF t).args=true:=vS TV hv9
     have hbs:=vW aw (j9 ay ai c aF t) (Oo hro hpw hrt) oM
     have hpc:=ve aw (j9 ay ai c aF t)
     have hcl:=VI aw (j9 ay ai c aF t)
     have eO:=J2 aw (j9 ay ai c aF t)
     have hmem:∀x∈putRow aw (j9 ay ai c aF t),fg x.args=true:=fun x hx=>by rcases Lb hx with hx|hx;exact hro x hx;rw[hx];exact hrt
     have hpw2:=RV hro hpw hrt
     rw[et]
     refine bH h2 ?_
     refine AQ [] [7,9] hbs ?_
     cases hf:found aw (j9 ay ai c aF t)
     ·rw[hf,if_neg (by simp)] at hpc
      have kI:=hIns aw (cut aw (j9 ay ai c aF t)) (j9 ay ai c aF t) hcl oM
      rw[←hpc] at kI
      refine sA ?_
      refine WR (yq 10 0 [T.fM (D.str t.name),T.ref 9,T.fM (D.val (Value.int IntKind.i64 (kG ay ai c aF t).N)),T.fM (D.val (Value.int IntKind.i64 (kG ay ai c aF t).D))] rfl (by simp) rfl) ?_
      refine sA ?_
      refine WR (W7 10 (ys:=[tn (j9 ay ai c aF t)]) rfl (by simp only[List.set_cons_zero,dP,iz,T.Kj,o9];try rfl)) ?_
      refine sA ?_
      refine lx [] [7,10,11] kI ?_ ?_<;>simp -implicitDefEqProofs only[go_sem]
      ·rfl
      repeat(with_reducible apply an;case left=>omega)
      exact⟨i+1,putRow aw (j9 ay ai c aF t),⟨oM,oM,hmem,hpw2,hg⟩,sL,cM [some 0,some 1,some 2,some 3,some 4,some 5,some 6,some 11]⟩
     ·rw[hf,if_pos rfl] at hpc
      rw[hpc] at hg
      refine bt ?_
      exact⟨i+1,aw,⟨oM,oM,hro,hpw,hg⟩,sL,cM im8⟩
  ·rw[ak oM,List.foldl_nil] at hg
   refine bH h1 ?_
   refine bX kR ?_ rfl rfl
   exact dD hg
end
set_option maxHeartbeats 3200000
theorem Yj(ls:List j8):(cE ls).code=0∨(cE ls).code=1∨(cE ls).code=2∨(cE ls).code=3:=by unfold cE;split;split;exact .inr (.inr (.inl rfl));split;exact .inr (.inr (.inl rfl));split;exact .inr (.inr (.inl rfl));split;exact .inr (.inr (.inl rfl));unfold jS;split;split;exact .inr (.inl rfl);exact .inr (.inr (.inl rfl));split;exact .inr (.inr (.inl rfl));split;exact .inl rfl;exact .inr (.inr (.inl rfl));exact .inr (.inr (.inr rfl))
theorem I9(s:eM)(m:Mod.dQ)(ab:List bL)(qF:ab.length≤1000):CN 128 [av (eP s),av (fX m),lv (bh ab)] (bv (jH s m ab)):=by
 refine gS 35 [.tmp 6] hm Tryz.func128 fun hl he cf=>?_;refine aC [] (Bq s m) ?_;cases h0:fR s m;have e:jH s m ab=false:=by simp[jH,h0]
 exact dD e;have e:jH s m ab=ab.all fun l=>decide (iy s m l=some true):=by simp[jH,h0]
 refine sA ?_;refine kC hm ab.length (fun(i:Nat)=>jH s m ab=(ab.drop i).all fun l=>decide (iy s m l=some true)) (fun i=>⟨dN 35 .any [(3,.bA 0 0),(4,.bA 1 0),(15,lv (bh ab)),(16,iv ab.length),(17,iv i)],[some (.box (dm (eP s))),some (.box (dm (fX m)))]⟩) ?_ (cM kR) ?_;exact⟨bo _,e⟩;rintro i ⟨hi,hg⟩;rcases aa (i<ab.length) with h1|h1
 ·rw[ae h1,List.all_cons] at hg;have hco:=IW s m ab[i];refine uA ?_;refine aC [] hco ?_;cases h2:iy s m ab[i] with
  | none=>rw[h2] at hg;exact dD hg
  | some b=>rw[h2] at hg;cases b;exact dD hg;simp only[decide_true,Bool.true_and] at hg;refine bt ?_;exact⟨i+1,⟨oM,hg⟩,sL,cM kR⟩
 rw[ak oM,List.all_nil] at hg;exact gG h1 hg
theorem Wg(a:eJ):ia [a]=[iL a]:=by rw[sX,qO]
def PW(r:FY):PV:=.iZ [av (fX r.model),av (iL r.case),iv r.code]
attribute [go_sem] PW
theorem UN(hIns:Et)(s:eM)(ay ai:List ax):∀(f:Nat)(ab:List bL),jK s ab→aL ab=ay→aG s ab=ai→room ai ab<f→ab.length+f≤50→CP 58 [.bA 0 0,lv (bh ab)] [some (.box (dm (uR s ay ai)))] (PW (mL s ay ai f ab)):=by
 intro f;induction f with
 | zero=>intro ab hG _ _ h;omega
 | succ f ih=>
 intro ab hG hT hN hroom eO;have hel:(br ab).length≤50:=Nat.le_trans (List.length_filterMap_le _ _) oM;have next:∀x,Mod.Next s ab x→CP 58 [.bA 0 0,lv (bh (ab++[x]))] [some (.box (dm (uR s ay ai)))] (PW (mL s ay ai f (ab++[x]))):=fun x hx=>by obtain⟨g1,g2,g3,g4⟩:=hx;rw[hN] at g4;exact ih (ab++[x]) g1 (g2.trans hT) (g3.trans hN) oM (by simp;omega)
 have h4:=hG.n4;have h24:=hG.n24;have hkids:=hG.ar;have hein:=hG.ER;have hlen9:=hG.Zs;have hk9:=hG.R5;have hkin:=hG.Rl;have hnum:=hG.num;have hnd:=hG.nodup;have hcl:=hG.TJ;have TV:=hG.PD;have hfit:=hG.fit;have o4:∀t∈aG s ab,t∈aL ab:=rr;have neq:∀i k,i<k→k<(aG s ab).length→Mod.gp (aG s ab) ab i k=false→Mod.Next s ab (jf ((aG s ab).getD i aQ) ((aG s ab).getD k aQ)):=fun i k h1 h2 h3=>Jr hG h1 h2 h3;have npa:∀i k,i<k→k<(aG s ab).length→tO (aG s ab) ab i k=true→∀l∈gv ((aG s ab).getD i aQ) ((aG s ab).getD k aQ),Mod.Next s ab l:=fun i k h1 h2 h3=>AP hG h1 h2 h3;have nne:∀i k,i<k→k<(aG s ab).length→(aG s ab).getD i aQ≠(aG s ab).getD k aQ:=fun i k h1 h2=>D3 hG h1 h2;have hkept:=oL (al:=aL ab) (bB:=br ab) hein;have hsl:(closed (aL ab) (br ab)).2.length≤2000000:=by
  have h1:=yU hkept (closed (aL ab) (br ab)).2.length (aK _);have h2:(bK (aL ab).length).sum≤(bK (aL ab).length).length*1000:=rU fun x hx=>by have:=List.mem_range.1 hx;omega
  have h3:(bK (aL ab).length).length*1000≤1000*1000:=Nat.mul_le_mul_right _ (by simpa using hlen9);omega
 rw[hT] at hkept hsl h24 hkids hein hlen9 hk9 hkin hnd hcl TV o4;rw[hN] at h4 hnum hfit o4 neq npa nne;refine gS 205 [.cell 4 51,.cell 5 38,.tmp 6] hm Tryz.func58 fun hl he cf=>?_;refine aC [] (zC ab oM) ?_;rcases aa ((12:Int)<((br ab).length:Int)) with h12|h12;rw[EB oM];refine bH h12 ?_;refine bX fe ?_ rfl rfl;exact tY;have h12':¬12<(br ab).length:=oM;refine bH h12 ?_;refine oC [] [5] (M5 ay (br ab) hkids hein hlen9 hk9 oM) ?_;have ccl:=QH s ay ai (br ab) ab hkids hein hlen9 hk9 hkin;refine lx [] [0,5] ccl ?_ ?_
 ·refine sA ?_;first|rfl|((repeat' apply an)<;>rfl)
 refine sA ?_;cases hc:nE (lV ay (closed ay (br ab)).1) ab with
 | some n=>rw[BK h12' hc];refine bt ?_;refine bX fe ?_ rfl rfl;exact tY
 | none=>
 refine zx ?_;refine aC [] (C3 ai ab h4 oM hfit) ?_;refine sa [] (MF (fN ai ab)) ?_;have hcodes:=Yj (fN ai ab);have hfv:=D4 (aS:=fN ai ab);have l1:=FE (s:=s) (ay:=ay) (ai:=ai) (f:=f) h12' hc;have l2:=Fg (s:=s) (ay:=ay) (ai:=ai) (f:=f) h12' hc;have l3:=fun h q=>@Eb s ay ai f ab h12' hc h q;have l4:=fun h hp q=>@yh s ay ai f ab h12' hc h hp q;have l5:=fun h hp=>@BI s ay ai f ab h12' hc h hp;generalize cE (fN ai ab)=N1 at *;obtain⟨aF,a8,code⟩:=N1;simp only at hcodes hfv l1 l2 l3 l4 l5⊢;rcases hcodes with rfl|rfl|rfl|rfl
 ·obtain⟨v4,vok⟩:=hfv rfl;have co1:=acK s ay ai (closed ay (br ab)).1 (closed ay (br ab)).2 ab o4 hcl h4;simp -implicitDefEqProofs only[go_sem,Z1];refine oC [] [0] (QC s ay ai (br ab) h4 oM) ?_;refine lx [] [8,9,6,1,5,0] co1 ?_ ?_
  ·refine sA ?_;first|rfl|((repeat' apply an)<;>rfl)
  refine sA ?_;cases hp:dj ai.length (fU true ay ai (closed ay (br ab)).1 ab) with
  | some q=>
   obtain⟨q1,q2,q3⟩:=nf hp;have hlk:=uU q3;have hnx:=next _ (neq q.1 q.2 q1 q2 hlk)
   have hi:q.1<ai.length:=oM;have ga:ai.getD q.1 aQ=ai[q.1]:=gi hi;have gb:ai.getD q.2 aQ=ai[q.2]:=gi q2;have hA:=o4 _ (aj hi);have hB:=o4 _ (aj q2);have hsm:ix ay (closed ay (br ab)).1 ai[q.1] ai[q.2]=true:=(by rw[HK,hlk,ga,gb] at q3;exact q3);have hre:=xM ay (br ab) (closed ay (br ab)).1 (closed ay (br ab)).2 hkept.1 hkids hlen9 hk9 hsl ai[q.1] ai[q.2] hA hB (by rw[←hkept.2];simpa[ix] using hsm);rw[l3 rfl q hp];rw[ga,gb] at hnx⊢;obtain⟨i,k⟩:=q;simp only at hnx hi q2 hre⊢;obtain⟨r,er⟩:∃r,mL s ay ai f (ab++[jf ai[i] ai[k]])=r:=⟨_,rfl⟩;rw[er] at hnx⊢;simp -implicitDefEqProofs only[go_sem,dw,cg,hi,q2];refine iK ?_;refine aC [] (yV ai[i] ai[k]) ?_;refine aC [] (zA ab (jf ai[i] ai[k]) oM) ?_;refine Mw [] [0] hnx ?_;rcases aa (r.code=1) with hr|hr
   ·have kr:=eq_true hr;rw[H0,if_pos hr];refine bH kr ?_;refine Mw [] [5] hre ?_;refine bX fe ?_ rfl rfl;refine sA ?_;all_goals((repeat' apply an)<;>first|rfl|exact(Wg _).symm)
   rw[H0,if_neg hr];refine bH hr ?_;refine bX fe ?_ rfl rfl;exact tY
  | none=>
  have co2:=abX s ay ai (closed ay (br ab)).1 ab hnum h4;refine zx ?_;refine lx [] [8,1,2,0] co2 ?_ ?_
  ·refine sA ?_;first|rfl|((repeat' apply an)<;>rfl)
  refine sA ?_;cases hq:dj ai.length (fU false ay ai (closed ay (br ab)).1 ab) with
  | some q=>
   obtain⟨q1,q2,q3⟩:=nf hq;have hnx:=npa q.1 q.2 q1 q2 (zj q3);have lj:=nne q.1 q.2 q1 q2;have hi:q.1<ai.length:=oM;have ga:ai.getD q.1 aQ=ai[q.1]:=gi hi;have gb:ai.getD q.2 aQ=ai[q.2]:=gi q2;have tA:=hnum _ (aj hi);have tB:=hnum _ (aj q2);have hR:=l4 rfl hp q hq;rw[ga,gb] at hnx lj hR;obtain⟨i0,k0⟩:=q;simp only at hnx lj hi q2 tA tB hR;obtain⟨R,eR⟩:∃R,mL s ay ai (f+1) ab=R:=⟨_,rfl⟩;rw[eR] at hR⊢;have hp3:(gv ai[i0] ai[k0]).length=3:=rfl;simp -implicitDefEqProofs only[go_sem,dw,cg,hi,q2];refine iK ?_;obtain⟨a,ha⟩:∃a,ai[i0]=a:=⟨_,rfl⟩;obtain⟨b,hb⟩:∃b,ai[k0]=b:=⟨_,rfl⟩;rw[ha] at hnx lj tA hR hp3;rw[hb] at hnx lj tB hR hp3;simp -implicitDefEqProofs only[go_sem,ha,hb];refine aC [] (gq a) ?_;refine sa [] (gq b) ?_;refine aC [] (CH a b tA tB) ?_;refine ry hm 3 (fun(i:Nat) (out:List eJ)=>out.length=i∧R=yg (mL s ay ai f) a b (((gv a b).drop i).map fun l=>ab++[l]) out) (fun i out=>⟨dN 205 .any [(2,.bA 1 0),(3,.bA 2 0),(4,.bA 3 0),(5,.bA 4 0),(29,.bA 5 0),(160,lv (bh (gv a b))),(161,iv (gv a b).length),(162,iv i)],[some (.box (dm (uR s ay ai))),some (.box [.bA 0 0]),some (.box [lv (bh ab)]),some (.box (dm (fX oo))),some (.box (dm (iL th))),some (.box [iv 4,iv 0,iv 0,iv 0,sv [],lv [],lv [],lv [],sv a.name,lv (aU a.ar),sv b.name,lv (aU b.ar),.aX 6]),some (.aX 38 (ia out))]⟩) ([]) ?_ (cM [some 0,some 1,some 2,some 3,some 4,some 12,none]) ?_;exact⟨oM,rfl,hR⟩;rintro i out ⟨hi9,ho,hg⟩;have hol:out.length≤3:=oM;rcases aa (i<3) with h1|h1
   ·have h1':i<(gv a b).length:=oM;have hr:=next _ (hnx _ (aj h1'))
    rw[ae h1',List.map_cons,yX] at hg;obtain⟨x,hx⟩:∃x,(gv a b)[i]=x:=⟨_,rfl⟩;rw[hx] at hr hg;obtain⟨r,er⟩:∃r,mL s ay ai f (ab++[x])=r:=⟨_,rfl⟩;rw[er] at hr hg;refine iI h1' hx ?_;refine aC [] (zA ab x oM) ?_;refine Mw [] [0] hr ?_;rcases aa (r.code=1) with hcd|hcd
    ·rw[if_pos hcd] at hg;have kc:=eq_true hcd;refine du kc ?_;exact⟨i+1,out++[r.case],⟨oM,by simp[ho],hg⟩,sL,aZ [some 0,some 1,some 2,some 3,some 4,some 5,some 10] sC (by refine sA ?_;(rw[←Ea,sX,qO];rfl)) rfl rfl⟩
    rw[if_neg hcd] at hg;refine bH hcd ?_;refine bX fe ?_ rfl rfl;exact dD hg
   have h1':¬i<(gv a b).length:=oM;rw[ak oM,List.map_nil,BQ] at hg;refine du h1' ?_;refine bX fe ?_ rfl rfl;exact dD hg
  | none=>
  have cmo:=QY s ay ai (closed ay (br ab)).1 (closed ay (br ab)).2 aF hIns hkids hnd hcl TV v4 vok h4 oM hk9;have cal:=I9 s ⟨jT ay ai (closed ay (br ab)).1 aF⟩ ab oM;rw[l5 rfl hp hq];refine zx ?_;refine lx [] [0,5] cmo ?_ ?_
  ·refine sA ?_;first|rfl|((repeat' apply an)<;>rfl)
  refine sA ?_;refine sa [] cal ?_;cases hm2:jH s ⟨jT ay ai (closed ay (br ab)).1 aF⟩ ab;rw[if_neg (by simp)];refine sA ?_;refine bX fe ?_ rfl rfl;exact tY;rw[if_pos rfl];refine sA ?_;refine bX fe ?_ rfl rfl;exact tY
 rw[l1 rfl];refine sA ?_;refine bX fe ?_ rfl rfl;exact tY;rw[l2 (by decide) (by decide)];simp -implicitDefEqProofs only[go_sem,Z1];refine bX fe ?_ rfl rfl;exact tY;rw[l2 (by decide) (by decide)];simp -implicitDefEqProofs only[go_sem,Z1];refine bX fe ?_ rfl rfl;exact tY
theorem Gf(ab:List bL)(hl1:ab.length≤100)(hw:∀l∈ab,dq l.aN=true):CN 56 [lv (bh ab)] (lv (aU (aL ab))):=by
 obtain⟨hle,fy⟩:=kp hw;refine gS 20 [.tmp 2] hm Tryz.func56 fun hl he cf=>?_;refine jr hm ab.length (fun i=>⟨dN 20 .any [(3,.aX 0),(6,lv (bh ab)),(7,iv ab.length),(8,iv i)],[some (.aX 32 (aU (fO (ab.take i))))]⟩) (cM [none]) ?_;rintro i hi;rcases aa (i<ab.length) with h1|h1;have h2:=kp (ab:=ab.take i) fun l hl=>hw l (List.mem_of_mem_take hl);have h3:=pr (hw ab[i] (aj h1));have h4:(ab.take i).length≤100:=by simp;omega
 refine uA ?_;refine aC [] (wH ab[i].aN) ?_;refine bt ?_;exact⟨i+1,h1,sL,aZ [some 2] sC (by refine sA ?_;(rw[xu h1,←ng])) rfl rfl⟩;have e:ab.take i=ab:=aq oM;refine iI h1 e ?_;refine Mw [] [0,1] (Zx (e:=32) (rest:=[]) rfl (tt (fO ab) oM fy)) ?_;rfl
theorem AW(hIns:Et)(s:eM)(ab:List bL):CN 26 [av (eP s),lv (bh ab)] (PW (eh s ab)):=by
 refine gS 28 [.cell 4 51,.cell 5 38,.tmp 6] hm Tryz.func26 fun hl he cf=>?_;refine aC [] (xx s ab) ?_;cases fy:gn s ab;have e:eh s ab=⟨oo,th,3⟩:=by simp[eh,fy]
 rw[e];exact tY;have e:eh s ab=mL s (aL ab) (aG s ab) 13 ab:=by simp[eh,fy]
 have hG:=LD fy;have h6:=(xS fy).2.2.2.1;have hroom:=room_le hG.n4 ab;have ou:=UN hIns s (aL ab) (aG s ab) 13 ab hG rfl rfl oM oM;rw[e];refine sA ?_;refine aC [] (Gf ab oM hG.wf) ?_;refine sa [] (xl s ab oM hG.wf) ?_;refine oC [] [3] ou ?_;exact tY
theorem P5(aw:List Mod.Row)(r:Mod.Row)(qF:aw.length≤1000):C E.P 212 [.aX 0,iv (aw.length:Int),.aX 1] [some (.aX 153 (cu aw)),some (.aX 153 [tn r])] (jF (.aX 2) [some .dead,some .dead,some (.aX 153 (cu (aw.take aw.length++r::aw.drop aw.length)))]):=by
 have e:aw.take aw.length++r::aw.drop aw.length=aw++[r]:=by rw[List.take_length,List.drop_length]
 have hs:cu (aw++[r])=cu aw++[tn r]:=by simp[cu]
 rw[e,hs];refine gS 95 [.tmp 6] hm Tryz.func212 fun hl he cf=>?_;refine gm (S9 (.tmp 10) (.tmp 11) 49 153 0 _ _ (cu aw) (aw.length:Int) rfl rfl rfl (by simp -implicitDefEqProofs only[go_sem]) (by simp -implicitDefEqProofs only[go_sem]) (by simp -implicitDefEqProofs only[go_sem]) oM (by simp[cu])) ?_;simp -implicitDefEqProofs only[go_sem,Z1];refine sQ ?_;refine bX rC ?_ rfl rfl;exact sC
end Go.Proofs.YtphcpjhkeipggaaGreat
