/-
  The program: the model of a closure, up to the insertion of rows. A step towards the laws.
-/
import Derived.Test.YtnhdminpjihbnaaGreatKAzh
import Derived.Test.YtnhdminpjihbnaaGreatKAzf
set_option linter.unusedVariables false
set_option linter.unusedSimpArgs false
open Int renaming reduceEq→Z1,reduceLT→Z2,reduceLE→Z3,reduceToNat→Z4
open And renaming intro→aq
open Classical renaming em→aa
open List renaming getElem_mem→ah,drop_eq_getElem_cons→ai,take_of_length_le→ak,drop_of_length_le→al,range→cK
open Nat renaming le_refl→aH,zero_le→bT
open Option renaming getD_some→dG,isSome_some→gw
namespace Go.Proofs.YtnhdminpjihbnaaGreat
open Go.Eng Go.Mod
set_option maxRecDepth 100000
set_option maxHeartbeats 3200000
theorem Yw{E:Env}{o:Oper}{g g':G}{rest:sH→Option (List Ky)→G→Prop}(hw:wQ E.P g g')(h:tm E none none o g' rest):tm E none none o g rest:=by rcases h with⟨R,δ,h1,h2⟩|⟨_,_,g2,hw2,R,δ,h1,h2⟩;exact .inr ⟨rfl,rfl,g',hw,R,δ,h1,h2⟩;exact .inr ⟨rfl,rfl,g2,hw.trans hw2,R,δ,h1,h2⟩
section
variable(s:eV)(aI an:List az)(c:List Nat)(ao:List Step)(aV:List Mod.Rat)
theorem S8(t:az)(ht:t∈aI)(hc:c.length=aI.length)(h4v:aV.length=4)(h4:an.length≤4)(hcb:∀x∈c,x≤1000):CP 172 [av (cT t),.bK 0 0,.bK 1 0,.bK 2 0] [some (.box [.bK 3 0]),some (.box [lv (dC aV)]),some (.box [.bK 4 0]),some (.box (fy (ux s aI an))),some (.box [lv (ba aI),lv (eZ c),lv (b8 ao)])] (av (lM (qc aI an c aV t))):=by
 refine gS 29 [.cell 5 229] hm Tryz.func172 fun hl he cV=>?_;refine oL [] (fX an t) ?_;rcases aa (t∈an) with hn|hn;have pN:=df hn;have cN:=fP hn;have pN':a8 an t<aV.length:=oM;have nn:(0:Int)≤(a8 an t:Int):=oM;have e:qc aI an c aV t=aV[a8 an t]:=by rw[qc,if_neg oM,ji pN']
 simp -implicitDefEqProofs only[go_sem,cN,nn,pN'];refine bM im5 ?_ rfl rfl;exact fA e;have h3:¬ (0:Int)≤dN an t:=fun h=>hn (gm.1 h);have pT:=df ht;have pc:a8 aI t<c.length:=oM;have ec:c[a8 aI t]=cl c (a8 aI t):=(nN pc).symm;have hle:=hcb _ (KY pc);have e:qc aI an c aV t=whole (cl c (a8 aI t)):=by rw[qc,if_pos oM]
 have ca:=HW aI c ao t;rw[fP ht] at ca;refine bS h3 ?_;refine CM [] [4] ca ?_;refine lf pc ec ?_;refine oL [] (gp (cl c (a8 aI t):Int)) ?_;refine bM im5 ?_ rfl rfl;exact fA e
def Ev:Prop:=∀(aK:List Mod.Row)(k:Nat)(r:Mod.Row),k≤aK.length→aK.length≤1000→C E.P 175 [.aW 0,iv k,.aW 1] [some (.aW 242 (fm aK)),some (.aW 242 [BJ r])] (gR (.aW 2) [some .dead,some .dead,some (.aW 242 (fm (aK.take k++r::aK.drop k)))])
theorem Qp(hIns:Ev)(hk:mo aI)(hnd:aI.Nodup)(hc:c.length=aI.length)(hcb:∀x∈c,x≤1000)(h4v:aV.length=4)(hv9:∀x∈aV,eC x=true)(h4:an.length≤4)(rP:aI.length≤900)(hk9:∀t∈aI,t.ar.length≤1000) :
 CP 119 [.bK 0 0,.bK 1 0,lv (dC aV)] [some (.box (fy (ux s aI an))),some (.box [lv (ba aI),lv (eZ c),lv (b8 ao)])] (av (nY ⟨mv aI an c aV⟩)):=by
 refine gS 66 [.cell 6 63] hm Tryz.func119 fun hl he cV=>?_
 refine Ag hm aI.length (fun(i:Nat) (aK:List Mod.Row)=>aK.length≤i∧(∀x∈aK,fN x.args=true)∧aK.Pairwise (fun a b=>gL a b=true)∧mv aI an c aV=(aI.drop i).foldl (fun aK t=>putRow aK (nb aI an c aV t)) aK) (fun i aK=>⟨fk 66 .any [(6,.bK 5 0),(7,.fn 172 [.bK 2 0,.bK 4 0,.bK 3 0]),(8,.bK 6 0),(20,lv (ba aI)),(21,iv aI.length),(22,iv i)],[some (.box (fy (ux s aI an))),some (.box [lv (ba aI),lv (eZ c),lv (b8 ao)]),some (.box [.bK 0 0]),some (.box [.bK 1 0]),some (.box [lv (dC aV)]),some (.box (fy (nY sw))),some (.box [.aW 7]),some (.aW 242 (fm aK))]⟩) ([]) ?_ (c9 [some 0,some 1,some 2,some 3,some 4,some 5,some 6,none]) ?_
 ·exact⟨bT _,aH _,fun x hx=>(by simp at hx),List.Pairwise.nil,rfl⟩
 ·rintro i aK ⟨hi,hrl,hro,hpw,hg⟩
  rcases aa (i<aI.length) with h1|h1
  ·have mt:=ah h1
   have kt:=hk _ mt
   have kl:=hk9 _ mt
   have hv:=S8 s aI an c ao aV aI[i] mt hc h4v h4 hcb
   rw[ai h1,List.foldl_cons] at hg
   obtain⟨t,ht⟩:∃t,aI[i]=t:=⟨_,rfl⟩
   rw[ht] at hv hg kt kl
   refine lf h1 ht ?_
   refine ff [.bK 2 0,.bK 4 0,.bK 3 0] [2,4,3,0,1] hv ?_ ?_
   ·refine sA ?_
    first|rfl|((repeat' apply aq)<;>rfl)
   refine bI ?_
   refine jf hm t.ar.length (fun j=>⟨fk 66 .any [(6,.bK 5 0),(7,.fn 172 [.bK 2 0,.bK 4 0,.bK 3 0]),(8,.bK 6 0),(11,.bK 8 0),(20,lv (ba aI)),(21,iv aI.length),(22,iv i),(33,lv (ba t.ar)),(34,iv t.ar.length),(35,iv j)],[some (.box (fy (ux s aI an))),some (.box [lv (ba aI),lv (eZ c),lv (b8 ao)]),some (.box [.bK 0 0]),some (.box [.bK 1 0]),some (.box [lv (dC aV)]),some (.box (fy (nY sw))),some (.box [.aW 7]),some (.aW 242 (fm aK)),some (.box [sv t.name,.aW 9,iv (qc aI an c aV t).N,iv (qc aI an c aV t).D]),some (.aW 229 (dC ((t.ar.take j).map (qc aI an c aV))))]⟩) (c9 [some 0,some 1,some 2,some 3,some 4,some 5,some 6,some 7,some 9,none]) ?_
   ·rintro j hj
    have hsl:((t.ar.take j).map (qc aI an c aV)).length≤1000:=by simp;omega
    rcases aa (j<t.ar.length) with h2|h2
    ·have mk:=kt _ (ah h2)
     have hvk:=S8 s aI an c ao aV t.ar[j] mk hc h4v h4 hcb
     have hs:(t.ar.take (j+1)).map (qc aI an c aV)=(t.ar.take j).map (qc aI an c aV)++[qc aI an c aV t.ar[j]]:=by rw[List.take_add_one,List.getElem?_eq_getElem h2,List.map_append];rfl
     refine uB ?_
     refine ff [.bK 2 0,.bK 4 0,.bK 3 0] [2,4,3,0,1] hvk ?_ ?_
     ·refine sA ?_
      first|rfl|((repeat' apply aq)<;>rfl)
     refine bI ?_
     exact⟨j+1,h2,sL,bW [some 0,some 1,some 2,some 3,some 4,some 5,some 6,some 7,some 8,some 11] sC (by refine sA ?_;(rw[hs,←Ie,Rj,Ic];rfl)) rfl rfl⟩
    ·have et:t.ar.take j=t.ar:=ak oM
     have hrt:fN (nb aI an c aV t).args=true:=Lk hcb hv9
     have hbs:=vJ aK (nb aI an c aV t) (OT hro hpw hrt) oM
     have hpc:=vH aK (nb aI an c aV t)
     have hcl:=VT aK (nb aI an c aV t)
     have fj:=Wh aK (nb aI an c aV t)
     have hmem:∀x∈putRow aK (nb aI an c aV t),fN x.args=true:=fun x hx=>by rcases VY hx with hx|hx;exact hro x hx;rw[hx];exact hrt
     have hpw2:=Sm hro hpw hrt
     rw[et]
     refine bS h2 ?_
     refine CM [] [7,9] hbs ?_
     cases hf:found aK (nb aI an c aV t)
     ·rw[hf,if_neg (by simp)] at hpc
      have jY:=hIns aK (cut aK (nb aI an c aV t)) (nb aI an c aV t) hcl oM
      rw[←hpc] at jY
      refine sA ?_
      refine Yw (nc 10 0 [T.eK (D.str t.name),T.ref 9,T.eK (D.val (Value.int IntKind.i64 (qc aI an c aV t).N)),T.eK (D.val (Value.int IntKind.i64 (qc aI an c aV t).D))] rfl (by simp) rfl) ?_
      refine sA ?_
      refine Yw (R8 10 (ys:=[BJ (nb aI an c aV t)]) rfl (by simp only[List.set_cons_zero,bA,dJ,T.Ah,jy];try rfl)) ?_
      refine sA ?_
      refine ff [] [7,10,11] jY ?_ ?_<;>simp -implicitDefEqProofs only[go_sem]
      ·rfl
      repeat(with_reducible apply aq;case left=>omega)
      exact⟨i+1,putRow aK (nb aI an c aV t),⟨oM,oM,hmem,hpw2,hg⟩,sL,c9 [some 0,some 1,some 2,some 3,some 4,some 5,some 6,some 11]⟩
     ·rw[hf,if_pos rfl] at hpc
      rw[hpc] at hg
      refine bI ?_
      exact⟨i+1,aK,⟨oM,oM,hro,hpw,hg⟩,sL,c9 im8⟩
  ·rw[al oM,List.foldl_nil] at hg
   refine bS h1 ?_
   refine bM qR ?_ rfl rfl
   exact fA hg
end
set_option maxHeartbeats 6400000
theorem ZQ(ls:List mM):(dX ls).code=0∨(dX ls).code=1∨(dX ls).code=2∨(dX ls).code=3:=by unfold dX;split;split;exact .inr (.inr (.inl rfl));split;exact .inr (.inr (.inl rfl));split;exact .inr (.inr (.inl rfl));split;exact .inr (.inr (.inl rfl));unfold mO;split;split;exact .inr (.inl rfl);exact .inr (.inr (.inl rfl));split;exact .inr (.inr (.inl rfl));split;exact .inl rfl;exact .inr (.inr (.inl rfl));exact .inr (.inr (.inr rfl))
theorem JL(s:eV)(m:Mod.dZ)(af:List cC)(rP:af.length≤1000):CN 120 [av (gi s),av (nY m),lv (cO af)] (bv (gK s m af)):=by
 refine gS 35 [.tmp 6] hm Tryz.func120 fun hl he cV=>?_;refine aC [] (A7 s m) ?_;cases h0:ly s m;have e:gK s m af=false:=by simp[gK,h0]
 exact fA e;have e:gK s m af=af.all fun l=>decide (gj s m l=some true):=by simp[gK,h0]
 refine sA ?_;refine lZ hm af.length (fun(i:Nat)=>gK s m af=(af.drop i).all fun l=>decide (gj s m l=some true)) (fun i=>⟨fk 35 .any [(3,.bK 0 0),(4,.bK 1 0),(15,lv (cO af)),(16,iv af.length),(17,iv i)],[some (.box (fy (gi s))),some (.box (fy (nY m)))]⟩) ?_ (c9 qR) ?_;exact⟨bT _,e⟩;rintro i ⟨hi,hg⟩;rcases aa (i<af.length) with h1|h1
 ·rw[ai h1,List.all_cons] at hg;have hco:=Jm s m af[i];refine uA ?_;refine aC [] hco ?_;cases h2:gj s m af[i] with
  | none=>rw[h2] at hg;exact fA hg
  | some b=>rw[h2] at hg;cases b;exact fA hg;simp only[decide_true,Bool.true_and] at hg;refine bI ?_;exact⟨i+1,⟨oM,hg⟩,sL,c9 qR⟩
 rw[al oM,List.all_nil] at hg;exact lJ h1 hg
theorem Xz(a:fL):lX [a]=[Df a]:=by rw[Dj,ze]
def Qd(r:HO):PV:=.ko [av (nY r.model),av (Df r.case),iv r.code]
attribute [go_sem] Qd
theorem Wz(hIns:Ev)(s:eV)(aI an:List az):∀(f:Nat)(af:List cC),kO s af→aQ af=aI→aO s af=an→room an af<f→af.length+f≤50→CP 73 [.bK 0 0,lv (cO af)] [some (.box (fy (ux s aI an)))] (Qd (nO s aI an f af)):=by
 intro f;induction f with
 | zero=>intro af hG _ _ h;omega
 | succ f ih=>
 intro af hG hT hN hroom fj;have hel:(cG af).length≤50:=Nat.le_trans (List.length_filterMap_le _ _) oM;have next:∀x,Mod.Next s af x→CP 73 [.bK 0 0,lv (cO (af++[x]))] [some (.box (fy (ux s aI an)))] (Qd (nO s aI an f (af++[x]))):=fun x hx=>by obtain⟨g1,g2,g3,g4⟩:=hx;rw[hN] at g4;exact ih (af++[x]) g1 (g2.trans hT) (g3.trans hN) oM (by simp;omega)
 have h4:=hG.n4;have h24:=hG.n24;have hkids:=hG.ar;have hein:=hG.OM;have hlen9:=hG.aj0;have hk9:=hG.ai0;have hkin:=hG.acG;have hnum:=hG.num;have hnd:=hG.nodup;have hcl:=hG.ajA;have hcb:=hG.Yb;have hfit:=hG.fit;have vi:∀t∈aO s af,t∈aQ af:=tw;have neq:∀i k,i<k→k<(aO s af).length→Mod.iH (aO s af) af i k=false→Mod.Next s af (kQ ((aO s af).getD i aX) ((aO s af).getD k aX)):=fun i k h1 h2 h3=>Q2 hG h1 h2 h3;have npa:∀i k,i<k→k<(aO s af).length→tQ (aO s af) af i k=true→∀l∈lr ((aO s af).getD i aX) ((aO s af).getD k aX),Mod.Next s af l:=fun i k h1 h2 h3=>IG hG h1 h2 h3;have nne:∀i k,i<k→k<(aO s af).length→(aO s af).getD i aX≠(aO s af).getD k aX:=fun i k h1 h2=>Ks hG h1 h2;have hkept:=qF (aj:=aQ af) (dx:=cG af) hein;have hsl:(closed (aQ af) (cG af)).2.length≤2000000:=by
  have h1:=DY hkept (closed (aQ af) (cG af)).2.length (aH _);have h2:(cK (aQ af).length).sum≤(cK (aQ af).length).length*1000:=yq fun x hx=>by have:=List.mem_range.1 hx;omega
  have h3:(cK (aQ af).length).length*1000≤1000*1000:=Nat.mul_le_mul_right _ (by simpa using hlen9);omega
 rw[hT] at hkept hsl h24 hkids hein hlen9 hk9 hkin hnd hcl hcb vi;rw[hN] at h4 hnum hfit vi neq npa nne;refine gS 205 [.cell 4 63,.cell 5 100,.tmp 6] hm Tryz.func73 fun hl he cV=>?_;refine aC [] (P6 af oM) ?_;rcases aa ((12:Int)<((cG af).length:Int)) with h12|h12;rw[KE oM];refine bS h12 ?_;refine bM gE ?_ rfl rfl;exact qE;have h12':¬12<(cG af).length:=oM;refine bS h12 ?_;refine oC [] [5] (N6 aI (cG af) hkids hein hlen9 hk9 oM) ?_;have ccl:=Re s aI an (cG af) af hkids hein hlen9 hk9 hkin;refine ff [] [0,5] ccl ?_ ?_
 ·refine sA ?_;first|rfl|((repeat' apply aq)<;>rfl)
 refine sA ?_;cases hc:qj (qq aI (closed aI (cG af)).1) af with
 | some n=>rw[Hr h12' hc];refine bI ?_;refine bM gE ?_ rfl rfl;exact qE
 | none=>
 refine CJ ?_;refine aC [] (NK an af h4 oM hfit) ?_;refine oL [] (Ol (iL an af)) ?_;have hcodes:=ZQ (iL an af);have hfv:=LF (au:=iL an af);have l1:=Lf (s:=s) (aI:=aI) (an:=an) (f:=f) h12' hc;have l2:=Mw (s:=s) (aI:=aI) (an:=an) (f:=f) h12' hc;have l3:=fun h q=>@K5 s aI an f af h12' hc h q;have l4:=fun h hp q=>@Bb s aI an f af h12' hc h hp q;have l5:=fun h hp=>@HK s aI an f af h12' hc h hp;generalize dX (iL an af)=OU at *;obtain⟨aV,bt,code⟩:=OU;simp only at hcodes hfv l1 l2 l3 l4 l5⊢;rcases hcodes with rfl|rfl|rfl|rfl
 ·obtain⟨v4,vok⟩:=hfv rfl;have co1:=abz s aI an (closed aI (cG af)).1 (closed aI (cG af)).2 af vi hcl h4;simp -implicitDefEqProofs only[go_sem,Z1];refine oC [] [0] (Rt s aI an (cG af) h4 oM) ?_;refine ff [] [8,9,6,1,5,0] co1 ?_ ?_
  ·refine sA ?_;first|rfl|((repeat' apply aq)<;>rfl)
  refine sA ?_;cases hp:eW an.length (kR true aI an (closed aI (cG af)).1 af) with
  | some q=>
   obtain⟨q1,q2,q3⟩:=rh hp;have hlk:=yR q3;have hnx:=next _ (neq q.1 q.2 q1 q2 hlk)
   have hi:q.1<an.length:=oM;have ga:an.getD q.1 aX=an[q.1]:=kN hi;have gb:an.getD q.2 aX=an[q.2]:=kN q2;have hA:=vi _ (ah hi);have hB:=vi _ (ah q2);have hsm:lV aI (closed aI (cG af)).1 an[q.1] an[q.2]=true:=(by rw[Ih,hlk,ga,gb] at q3;exact q3);have hre:=xZ aI (cG af) (closed aI (cG af)).1 (closed aI (cG af)).2 hkept.1 hkids hlen9 hk9 hsl an[q.1] an[q.2] hA hB (by rw[←hkept.2];simpa[lV] using hsm);rw[l3 rfl q hp];rw[ga,gb] at hnx⊢;obtain⟨i,k⟩:=q;simp only at hnx hi q2 hre⊢;obtain⟨r,er⟩:∃r,nO s aI an f (af++[kQ an[i] an[k]])=r:=⟨_,rfl⟩;rw[er] at hnx⊢;simp -implicitDefEqProofs only[go_sem,gw,dG,hi,q2];refine iK ?_;refine aC [] (EF an[i] an[k]) ?_;refine aC [] (LR af (kQ an[i] an[k]) oM) ?_;refine xN [] [0] hnx ?_;rcases aa (r.code=1) with hr|hr
   ·have kr:=eq_true hr;rw[PK,if_pos hr];refine bS kr ?_;refine xN [] [5] hre ?_;refine bM gE ?_ rfl rfl;refine sA ?_;all_goals((repeat' apply aq)<;>first|rfl|exact(Xz _).symm)
   rw[PK,if_neg hr];refine bS hr ?_;refine bM gE ?_ rfl rfl;exact qE
  | none=>
  have co2:=acB s aI an (closed aI (cG af)).1 af hnum h4;refine CJ ?_;refine ff [] [8,1,2,0] co2 ?_ ?_
  ·refine sA ?_;first|rfl|((repeat' apply aq)<;>rfl)
  refine sA ?_;cases hq:eW an.length (kR false aI an (closed aI (cG af)).1 af) with
  | some q=>
   obtain⟨q1,q2,q3⟩:=rh hq;have hnx:=npa q.1 q.2 q1 q2 (Gn q3);have nI:=nne q.1 q.2 q1 q2;have hi:q.1<an.length:=oM;have ga:an.getD q.1 aX=an[q.1]:=kN hi;have gb:an.getD q.2 aX=an[q.2]:=kN q2;have tA:=hnum _ (ah hi);have tB:=hnum _ (ah q2);have hR:=l4 rfl hp q hq;rw[ga,gb] at hnx nI hR;obtain⟨i0,k0⟩:=q;simp only at hnx nI hi q2 tA tB hR;obtain⟨R,eR⟩:∃R,nO s aI an (f+1) af=R:=⟨_,rfl⟩;rw[eR] at hR⊢;have hp3:(lr an[i0] an[k0]).length=3:=rfl;simp -implicitDefEqProofs only[go_sem,gw,dG,hi,q2];refine iK ?_;obtain⟨a,ha⟩:∃a,an[i0]=a:=⟨_,rfl⟩;obtain⟨b,hb⟩:∃b,an[k0]=b:=⟨_,rfl⟩;rw[ha] at hnx nI tA hR hp3;rw[hb] at hnx nI tB hR hp3;simp -implicitDefEqProofs only[go_sem,ha,hb];refine aC [] (iU a) ?_;refine oL [] (iU b) ?_;refine aC [] (Oe a b tA tB) ?_;refine Ag hm 3 (fun(i:Nat) (out:List fL)=>out.length=i∧R=yi (nO s aI an f) a b (((lr a b).drop i).map fun l=>af++[l]) out) (fun i out=>⟨fk 205 .any [(2,.bK 1 0),(3,.bK 2 0),(4,.bK 3 0),(5,.bK 4 0),(29,.bK 5 0),(160,lv (cO (lr a b))),(161,iv (lr a b).length),(162,iv i)],[some (.box (fy (ux s aI an))),some (.box [.bK 0 0]),some (.box [lv (cO af)]),some (.box (fy (nY sw))),some (.box (fy (Df Bk))),some (.box [iv 4,iv 0,iv 0,iv 0,sv [],lv [],lv [],lv [],sv a.name,lv (ba a.ar),sv b.name,lv (ba b.ar),.aW 6]),some (.aW 100 (lX out))]⟩) ([]) ?_ (c9 [some 0,some 1,some 2,some 3,some 4,some 12,none]) ?_;exact⟨oM,rfl,hR⟩;rintro i out ⟨hi9,ho,hg⟩;have hol:out.length≤3:=oM;rcases aa (i<3) with h1|h1
   ·have h1':i<(lr a b).length:=oM;have hr:=next _ (hnx _ (ah h1'))
    rw[ai h1',List.map_cons,zb] at hg;obtain⟨x,hx⟩:∃x,(lr a b)[i]=x:=⟨_,rfl⟩;rw[hx] at hr hg;obtain⟨r,er⟩:∃r,nO s aI an f (af++[x])=r:=⟨_,rfl⟩;rw[er] at hr hg;refine lf h1' hx ?_;refine aC [] (LR af x oM) ?_;refine xN [] [0] hr ?_;rcases aa (r.code=1) with hcd|hcd
    ·rw[if_pos hcd] at hg;have kc:=eq_true hcd;refine dB kc ?_;exact⟨i+1,out++[r.case],⟨oM,by simp[ho],hg⟩,sL,bW [some 0,some 1,some 2,some 3,some 4,some 5,some 10] sC (by refine sA ?_;(rw[←Qg,Dj,ze];rfl)) rfl rfl⟩
    rw[if_neg hcd] at hg;refine bS hcd ?_;refine bM gE ?_ rfl rfl;exact fA hg
   have h1':¬i<(lr a b).length:=oM;rw[al oM,List.map_nil,Cw] at hg;refine dB h1' ?_;refine bM gE ?_ rfl rfl;exact fA hg
  | none=>
  have cmo:=Qp s aI an (closed aI (cG af)).1 (closed aI (cG af)).2 aV hIns hkids hnd hcl hcb v4 vok h4 oM hk9;have cal:=JL s ⟨mv aI an (closed aI (cG af)).1 aV⟩ af oM;rw[l5 rfl hp hq];refine CJ ?_;refine ff [] [0,5] cmo ?_ ?_
  ·refine sA ?_;first|rfl|((repeat' apply aq)<;>rfl)
  refine sA ?_;refine oL [] cal ?_;cases hm2:gK s ⟨mv aI an (closed aI (cG af)).1 aV⟩ af;rw[if_neg (by simp)];refine sA ?_;refine bM gE ?_ rfl rfl;exact qE;rw[if_pos rfl];refine sA ?_;refine bM gE ?_ rfl rfl;exact qE
 rw[l1 rfl];refine sA ?_;refine bM gE ?_ rfl rfl;exact qE;rw[l2 (by decide) (by decide)];simp -implicitDefEqProofs only[go_sem,Z1];refine bM gE ?_ rfl rfl;exact qE;rw[l2 (by decide) (by decide)];simp -implicitDefEqProofs only[go_sem,Z1];refine bM gE ?_ rfl rfl;exact qE
theorem HC(af:List cC)(hl1:af.length≤100)(hw:∀l∈af,dh l.aY=true):CN 71 [lv (cO af)] (lv (ba (aQ af))):=by
 obtain⟨hle,dL⟩:=kC hw;refine gS 20 [.tmp 2] hm Tryz.func71 fun hl he cV=>?_;refine jf hm af.length (fun i=>⟨fk 20 .any [(3,.aW 0),(6,lv (cO af)),(7,iv af.length),(8,iv i)],[some (.aW 31 (ba (fC (af.take i))))]⟩) (c9 [none]) ?_;rintro i hi;rcases aa (i<af.length) with h1|h1;have h2:=kC (af:=af.take i) fun l hl=>hw l (List.mem_of_mem_take hl);have h3:=nX (hw af[i] (ah h1));have h4:(af.take i).length≤100:=by simp;omega
 refine uA ?_;refine aC [] (wX af[i].aY) ?_;refine bI ?_;exact⟨i+1,h1,sL,bW [some 2] sC (by refine sA ?_;(rw[xF h1,←oq])) rfl rfl⟩;have e:af.take i=af:=ak oM;refine lf h1 e ?_;refine xN [] [0,1] (acp (e:=31) (rest:=[]) rfl (tJ (fC af) oM dL)) ?_;rfl
theorem A0(hIns:Ev)(s:eV)(af:List cC):CN 43 [av (gi s),lv (cO af)] (Qd (gf s af)):=by
 refine gS 28 [.cell 4 63,.cell 5 100,.tmp 6] hm Tryz.func43 fun hl he cV=>?_;refine aC [] (De s af) ?_;cases dL:gO s af;have e:gf s af=⟨sw,Bk,3⟩:=by simp[gf,dL]
 rw[e];exact qE;have e:gf s af=nO s (aQ af) (aO s af) 13 af:=by simp[gf,dL]
 have hG:=M3 dL;have h6:=(KZ dL).2.2.2.1;have hroom:=room_le hG.n4 af;have pI:=Wz hIns s (aQ af) (aO s af) 13 af hG rfl rfl oM oM;rw[e];refine sA ?_;refine aC [] (HC af oM hG.wf) ?_;refine oL [] (Dv s af oM hG.wf) ?_;refine oC [] [3] pI ?_;exact qE
theorem Q1(aK:List Mod.Row)(r:Mod.Row)(rP:aK.length≤1000):C E.P 175 [.aW 0,iv (aK.length:Int),.aW 1] [some (.aW 242 (fm aK)),some (.aW 242 [BJ r])] (gR (.aW 2) [some .dead,some .dead,some (.aW 242 (fm (aK.take aK.length++r::aK.drop aK.length)))]):=by
 have e:aK.take aK.length++r::aK.drop aK.length=aK++[r]:=by rw[List.take_length,List.drop_length]
 have hs:fm (aK++[r])=fm aK++[BJ r]:=by simp[fm]
 rw[e,hs];refine gS 95 [.tmp 6] hm Tryz.func175 fun hl he cV=>?_;refine hY (SU (.tmp 10) (.tmp 11) 61 242 0 _ _ (fm aK) (aK.length:Int) rfl rfl rfl (by simp -implicitDefEqProofs only[go_sem]) (by simp -implicitDefEqProofs only[go_sem]) (by simp -implicitDefEqProofs only[go_sem]) oM (by simp[fm])) ?_;simp -implicitDefEqProofs only[go_sem,Z1];refine sQ ?_;refine bM sa ?_ rfl rfl;exact sC
end Go.Proofs.YtnhdminpjihbnaaGreat
