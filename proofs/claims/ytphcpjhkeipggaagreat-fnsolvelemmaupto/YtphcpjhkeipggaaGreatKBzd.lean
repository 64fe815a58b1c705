/-
  The reference: the walk of decisions. A step towards the laws.
-/
import Derived.Test.YtphcpjhkeipggaaGreatKBzc
import Derived.Test.YtphcpjhkeipggaaGreatKBza
import Derived.Test.YtphcpjhkeipggaaGreatKBye
set_option linter.unusedVariables false
set_option linter.unusedSimpArgs false
open Int renaming reduceEq→Z1,reduceLT→Z2,reduceLE→Z3,reduceToNat→Z4
open And renaming intro→an
open Classical renaming em→aa
open List renaming getElem_mem→aj,length_filterMap_le→km
open Nat renaming le_trans→fv
open Option renaming getD_some→cg,isSome_some→dw
namespace Go.Proofs.YtphcpjhkeipggaaGreat
open Go.Eng Go.Mod
set_option maxRecDepth 100000
set_option maxHeartbeats 3200000
theorem TS(s:eM)(ab:List bL)(h:jK s ab)(qF:ab.length≤100):CN 134 [av (eP s),lv (bh ab)] (av (uc (aL ab) (aG s ab) (br ab) (closed (aL ab) (br ab)).1)):=by have hel:(br ab).length≤1000:=fv (km _ _) oM;have h9:=h.Zs;refine gS 26 [.cell 4 208] hm Tryz.func134 fun hl he cf=>?_;refine aC [] (A8 ab qF h.wf) ?_;refine aC [] (EW ab qF) ?_;refine aC [] (Cy s (aL ab) h.sig h.term oM) ?_;rw[KV];refine aC [] (FQ (aL ab) (br ab) h.ar h.ER h9 h.R5 hel) ?_;refine fD ?_;exact sC
def OD(r:FY):PV:=.iZ [av (fX r.model),av (iL r.case),iv r.code]
attribute [go_sem] OD
theorem No(s:eM)(ab:List bL)(a b:ax)(run:List bL→FY)(qF:ab.length≤99)(ta:bG a=true)(tb:bG b=true)(lj:a≠b)
 (ou:∀l∈gv a b,CN 70 [av (eP s),lv (bh (ab++[l]))] (OD (run (ab++[l])))) :
 CN 142 [av (eP s),lv (bh ab),av (cT a),av (cT b)] (OD (yg run a b ((gv a b).map fun l=>ab++[l]) [])):=by
 have hp3:(gv a b).length=3:=rfl
 obtain⟨R,hR⟩:∃R,yg run a b ((gv a b).map fun l=>ab++[l]) []=R:=⟨_,rfl⟩
 rw[hR]
 refine gS 63 [.cell 8 51,.cell 9 38,.tmp 10] hm Tryz.func142 fun hl he cf=>?_
 refine aC [] (ji a) ?_
 refine aC [] (ji b) ?_
 refine iK ?_
 refine aC [] (EG a b) ?_
 refine aC [] (sH a b ta tb lj) ?_
 refine aC [] (sH b a tb ta (Ne.symm lj)) ?_
 refine iK ?_
 refine jI hm (fun(i:Nat) (out:List eJ)=> i≤3∧out.length=i∧R=yg run a b (((gv a b).drop i).map fun l=>ab++[l]) out) (fun(i:Nat) (out:List eJ)=> ⟨dN 63 .any [(1,lv (bh ab)),(4,.bA 0 0),(8,.bA 1 0),(9,.bA 2 0),(11,.bA 3 0),(12,lv (bh (gv a b))),(13,iv i)],[some (.box (dm (eP s))),some (.box (dm (fX oo))),some (.box (dm (iL th))),some (.box [iv 4,iv 0,iv 0,iv 0,sv [],lv [],lv [],lv [],sv a.name,lv (aU a.ar),sv b.name,lv (aU b.ar),.aX 4]),some (.aX 38 (ia out))]⟩) (fun(i:Nat) (out:List eJ)=> 3-i) (0) ([]) ?_ (aZ [some 0,some 3,some 4,some 5,none] ?_ ?_ rfl rfl) ?_
 rotate_left
 ·refine sA ?_
  all_goals(((repeat' apply an)<;>rfl))
 ·refine sA ?_
  all_goals(((repeat' apply an)<;>rfl))
 rotate_left
 ·exact⟨oM,rfl,hR.symm⟩
 ·rintro i out ⟨hi,ho,hg⟩
  have hol:out.length≤3:=oM
  rcases aa (i<3) with h1|h1
  ·have h1':i<(gv a b).length:=oM
   have hr:=ou _ (aj h1')
   rw[List.drop_eq_getElem_cons h1',List.map_cons,yX] at hg
   obtain⟨x,hx⟩:∃x,(gv a b)[i]=x:=⟨_,rfl⟩
   rw[hx] at hr hg
   obtain⟨r,er⟩:∃r,run (ab++[x])=r:=⟨_,rfl⟩
   rw[er] at hr hg
   simp -implicitDefEqProofs only[go_sem,h1',hx]
   refine aC [] (Cq ab x oM) ?_
   refine aC [] hr ?_
   refine iK ?_
   rcases aa (r.code=1) with hc|hc
   ·rw[if_pos hc] at hg
    have kc:=eq_true hc
    simp -implicitDefEqProofs only[go_sem,kc]
    refine sQ ?_
    refine⟨i+1,out++[r.case],?_,sL,aZ [some 0,some 1,some 2,some 3,some 7] ?_ ?_ rfl rfl⟩
    rotate_left
    ·exact sC
    ·refine sA ?_
     all_goals((rw[←Ea,sX,qO];rfl))
    exact⟨oM,by simp[ho],hg⟩
   ·rw[if_neg hc] at hg
    simp -implicitDefEqProofs only[go_sem,hc]
    refine gZ ?_
    rw[hg]
    ((repeat' apply an)<;>rfl)
  ·have h1':¬i<(gv a b).length:=oM
   rw[List.drop_of_length_le oM,List.map_nil,BQ] at hg
   simp -implicitDefEqProofs only[go_sem,h1']
   refine iK ?_
   refine gZ ?_
   rw[hg]
   ((repeat' apply an)<;>rfl)
theorem Zg(a:eJ):ia [a]=[iL a]:=by rw[sX,qO]
theorem QA(s:eM):∀(f:Nat)(ab:List bL),jK s ab→room (aG s ab) ab<f→ab.length+f≤50→CN 70 [av (eP s),lv (bh ab)] (OD (mL s (aL ab) (aG s ab) f ab)):=by
 intro f;induction f with
 | zero=>intro ab hG h;omega
 | succ f ih=>
 intro ab hG hroom eO;have hel:(br ab).length≤50:=fv (km _ _) oM;have next:∀x,Mod.Next s ab x→CN 70 [av (eP s),lv (bh (ab++[x]))] (OD (mL s (aL ab) (aG s ab) f (ab++[x]))):=fun x hx=>by obtain⟨g1,g2,g3,g4⟩:=hx;have h1:=ih (ab++[x]) g1 (by rw[g3];omega) (by simp;omega);rw[g2,g3] at h1;exact h1
 have h4:=hG.n4;refine gS 154 [.cell 4 51,.cell 5 38,.tmp 6] hm Tryz.func70 fun hl he cf=>?_;refine aC [] (TS s ab hG oM) ?_;rcases aa ((12:Int)<((br ab).length:Int)) with h12|h12
 ·rw[EB oM];simp -implicitDefEqProofs only[go_sem,h12];refine gZ ?_;((repeat' apply an)<;>rfl)
 have h12':¬12<(br ab).length:=oM;have ccl:=LK (aL ab) (aG s ab) (br ab) (closed (aL ab) (br ab)).1 ab hG.TJ hG.Rl;simp -implicitDefEqProofs only[go_sem,h12];refine aC [] ccl ?_;cases hc:nE (lV (aL ab) (closed (aL ab) (br ab)).1) ab with
 | some n=>obtain⟨hn,hcl⟩:=Fl hc;have hgd:ab.getD n Gq=ab[n]:=getD_at hn;have hcl2:=hcl;simp only[lV,Bool.and_eq_true,decide_eq_true_eq] at hcl2;obtain⟨hA,hB⟩:=hG.Rl _ (aj hn) hcl2.2.1;have hre:=zI (aL ab) (aG s ab) (br ab) (closed (aL ab) (br ab)).1 ab[n].aN.A ab[n].aN.B hG.ar hG.ER hG.Zs hG.R5 oM hA hB hcl2.2.2;have nn:(0:Int)≤(n:Int):=oM;rw[BK h12' hc,hgd];simp -implicitDefEqProofs only[go_sem,ab3,nn,hn];refine aC [] hre ?_;refine iK ?_;refine gZ ?_;((repeat' apply an)<;>rfl)
 | none=>
 simp -implicitDefEqProofs only[go_sem,Z3,abD];refine aC [] (Ng (aG s ab) ab h4 oM hG.fit) ?_;refine aC [] (Nz (fN (aG s ab) ab)) ?_;rcases aa ((cE (fN (aG s ab) ab)).code=1) with hf1|hf1
 ·have k1:=eq_true hf1;rw[FE h12' hc hf1];simp -implicitDefEqProofs only[go_sem,k1];refine gZ ?_;((repeat' apply an)<;>rfl)
 rcases aa (¬ (cE (fN (aG s ab) ab)).code=0) with hf0|hf0
 ·rw[Fg h12' hc hf1 hf0];simp -implicitDefEqProofs only[go_sem,hf1,hf0];refine gZ ?_;((repeat' apply an)<;>rfl)
 have hf0:=Classical.not_not.1 hf0;have k0:=eq_true hf0;have o4:∀t∈aG s ab,t∈aL ab:=rr;have co1:=Dr (aL ab) (aG s ab) (br ab) (closed (aL ab) (br ab)).1 ab hG.TJ h4 oM hG.wh hG.num o4 hG.aba;simp -implicitDefEqProofs only[go_sem,hf1,k0];refine aC [] co1 ?_;cases hp:dj (aG s ab).length (fU true (aL ab) (aG s ab) (closed (aL ab) (br ab)).1 ab) with
 | some q=>
  obtain⟨q1,q2,q3⟩:=nf hp;have hlk:=uU q3;have hnx:=next _ (Jr hG q1 q2 hlk)
  have hi:q.1<(aG s ab).length:=oM;have ga:(aG s ab).getD q.1 aQ=(aG s ab)[q.1]:=gi hi;have gb:(aG s ab).getD q.2 aQ=(aG s ab)[q.2]:=gi q2;have hA:=o4 _ (aj hi);have hB:=o4 _ (aj q2);have hsm:ix (aL ab) (closed (aL ab) (br ab)).1 (aG s ab)[q.1] (aG s ab)[q.2]=true:=(by rw[DM,hlk,ga,gb] at q3;exact q3);have hre:=zI (aL ab) (aG s ab) (br ab) (closed (aL ab) (br ab)).1 (aG s ab)[q.1] (aG s ab)[q.2] hG.ar hG.ER hG.Zs hG.R5 oM hA hB hsm;rw[Eb h12' hc hf0 hp];rw[ga,gb] at hnx⊢;obtain⟨i,k⟩:=q;simp only at *;obtain⟨r,er⟩:∃r,mL s (aL ab) (aG s ab) f (ab++[jf (aG s ab)[i] (aG s ab)[k]])=r:=⟨_,rfl⟩;rw[er] at hnx⊢;simp -implicitDefEqProofs only[go_sem,dw,cg,hi,q2];refine aC [] (EG (aG s ab)[i] (aG s ab)[k]) ?_;refine aC [] (Cq ab (jf (aG s ab)[i] (aG s ab)[k]) oM) ?_;refine aC [] hnx ?_;refine iK ?_;rcases aa (r.code=1) with hr|hr
  ·have kr:=eq_true hr;rw[H0,if_pos hr];simp -implicitDefEqProofs only[go_sem,kr,hi,q2];refine aC [] hre ?_;refine iK ?_;refine gZ ?_;((repeat' apply an)<;>first|rfl|exact(Zg _).symm)
  rw[H0,if_neg hr];simp -implicitDefEqProofs only[go_sem,hr];refine gZ ?_;((repeat' apply an)<;>rfl)
 | none=>
 have co2:=Ch (aL ab) (aG s ab) (br ab) (closed (aL ab) (br ab)).1 ab hG.TJ h4 oM hG.wh hG.num o4 hG.aba;refine uK ?_;refine aC [] co2 ?_;cases hq:dj (aG s ab).length (fU false (aL ab) (aG s ab) (closed (aL ab) (br ab)).1 ab) with
 | some q=>obtain⟨q1,q2,q3⟩:=nf hq;have hnx:=AP hG q1 q2 (zj q3);have hi:q.1<(aG s ab).length:=oM;have lj:=D3 hG q1 q2;have ga:(aG s ab).getD q.1 aQ=(aG s ab)[q.1]:=gi hi;have gb:(aG s ab).getD q.2 aQ=(aG s ab)[q.2]:=gi q2;have tA:=hG.num _ (aj hi);have tB:=hG.num _ (aj q2);rw[yh h12' hc hf0 hp hq];rw[ga,gb] at hnx lj⊢;have hpart:=No s ab (aG s ab)[q.1] (aG s ab)[q.2] (mL s (aL ab) (aG s ab) f) oM tA tB lj (fun x hx=>next x (hnx x hx));obtain⟨i,k⟩:=q;simp only at *;simp -implicitDefEqProofs only[go_sem,dw,cg,hi,q2];refine aC [] hpart ?_;refine iK ?_;refine fD ?_;exact sC
 | none=>
 obtain⟨v4,vok⟩:=D4 hf0;have cmo:=Ks (aL ab) (aG s ab) (br ab) (closed (aL ab) (br ab)).1 (cE (fN (aG s ab) ab)).aF hG.ar hG.nodup hG.TJ hG.PD v4 vok h4 hG.Zs hG.R5;have cal:=IL s ⟨jT (aL ab) (aG s ab) (closed (aL ab) (br ab)).1 (cE (fN (aG s ab) ab)).aF⟩ ab;rw[BI h12' hc hf0 hp hq];refine uK ?_;refine aC [] cmo ?_;refine aC [] cal ?_;cases hm2:jH s ⟨jT (aL ab) (aG s ab) (closed (aL ab) (br ab)).1 (cE (fN (aG s ab) ab)).aF⟩ ab
 ·rw[if_neg (by simp)];refine sA ?_;refine gZ ?_;((repeat' apply an)<;>rfl)
 rw[if_pos rfl];refine sA ?_;refine gZ ?_;((repeat' apply an)<;>rfl)
theorem Ai(s:eM)(ab:List bL):CN 31 [av (eP s),lv (bh ab)] (OD (eh s ab)):=by
 refine gS 43 [.cell 4 51,.cell 5 38,.tmp 6] hm Tryz.func31 fun hl he cf=>?_;refine aC [] (xi s ab) ?_;cases fy:gn s ab
 ·have e:eh s ab=⟨oo,th,3⟩:=(by simp[eh,fy]);rw[e];refine sA ?_;refine gZ ?_;((repeat' apply an)<;>rfl)
 have e:eh s ab=mL s (aL ab) (aG s ab) 13 ab:=by simp[eh,fy]
 have hG:=LD fy;have h6:=(xS fy).2.2.2.1;have hroom:=room_le hG.n4 ab;have ou:=QA s 13 ab hG oM oM;rw[e];refine sA ?_;refine cS hm (fun(i:Nat)=> i≤ab.length) (fun(i:Nat)=> ⟨dN 43 .any [(1,lv (bh ab)),(2,.bA 0 0),(4,.bA 1 0),(5,.bA 2 0),(7,.aX 3),(8,iv i)],[some (.box (dm (eP s))),some (.box (dm (fX oo))),some (.box (dm (iL th))),some (.aX 61 (bh (ab.take i)))]⟩) (fun(i:Nat)=> ab.length-i) (0) ?_ (aZ wM ?_ ?_ rfl rfl) ?_;rotate_left;exact sC
 ·refine sA ?_;all_goals(((repeat' apply an)<;>rfl))
 rotate_left;omega;rintro i hi;have htl:(ab.take i).length≤6:=by rw[List.length_take];omega
 rcases aa (i<ab.length) with h1|h1
 ·have ht:=uf (hG.wf _ (aj h1));have es:ab.take (i+1)=ab.take i++[ab[i]]:=(by rw[List.take_add_one,List.getElem?_eq_getElem h1];rfl);have hsn:bh (ab.take (i+1))=bh (ab.take i)++[r9 ab[i]]:=(by rw[es,bh,List.map_append];rfl);refine uA ?_;refine dy [] (I1 ab[i].aN oM) ?_ ?_<;>simp -implicitDefEqProofs only[go_sem,h1];refine sQ ?_;refine⟨i+1,?_,sL,aZ [some 0,some 1,some 2,some 4] ?_ ?_ rfl rfl⟩;rotate_left;exact sC
  ·refine sA ?_;all_goals(exact hsn.symm)
  exact h1
 have et:ab.take i=ab:=List.take_of_length_le oM;rw[et];refine uA ?_;refine oC [] [3] (xn (e:=61) (args:=[av (eP s),.aX 0]) sV rfl ou) ?_;refine fD ?_;exact sC
end Go.Proofs.YtphcpjhkeipggaaGreat
