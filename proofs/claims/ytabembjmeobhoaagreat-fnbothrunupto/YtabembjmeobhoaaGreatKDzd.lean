/-
  The reference: the walk of decisions. A step towards the laws.
-/
import Derived.Test.YtabembjmeobhoaaGreatKDzc
import Derived.Test.YtabembjmeobhoaaGreatKDza
import Derived.Test.YtabembjmeobhoaaGreatKDye
set_option linter.unusedVariables false
set_option linter.unusedSimpArgs false
open And renaming intro→au
open Classical renaming em→aa,not_not→o0
open List renaming getElem_mem→ak,length_filterMap_le→iG
open Nat renaming le_trans→eH
open Option renaming isSome_some→aW,getD_some→aX
namespace Go.Proofs.YtabembjmeobhoaaGreat
open Go.Eng Go.Mod
open Int renaming reduceEq→Z1,reduceLT→Z2,reduceLE→Z3,reduceToNat→Z4
set_option maxRecDepth 100000
set_option maxHeartbeats 6400000
theorem Oj(s:dK)(ab:List bm)(h:ic s ab)(o5:ab.length≤100):C E.P 61 [av (dV s),lv (aV ab)] [] (bz (av (re (aw ab) (numsOf s ab) (aZ ab) (closed (aw ab) (aZ ab)).1)) []):=by
 have hel:(aZ ab).length≤1000:=eH (iG _ _) (by omega)
 have h9:=h.U5
 refine gS (nt:=26) (rs:=[.cell 4 117]) hm Tryz.func61 fun hl he cq=>?_
 refine aC [] (w8 ab o5 h.wf) ?_
 refine aC [] (AR ab o5) ?_
 refine aC [] (y5 s (aw ab) h.sig h.term (by omega)) ?_
 rw[FD]
 refine aC [] (BI (aw ab) (aZ ab) h.kids h.Bx h9 h.NF hel) ?_
 refine an ?_
 exact sC
def Ki(r:Ag):PV:=.gV [av (ez r.model),av (gH r.case),iv r.code]
attribute [go_sem] Ki
theorem IT(s:dK)(ab:List bm)(a b:Term)(run:List bm→Ag)(o5:ab.length≤99)(ta:isTerm a=true)(tb:isTerm b=true)(jJ:a≠b)
 (lh:∀l∈fS a b,C E.P 21 [av (dV s),lv (aV (ab++[l]))] [] (bz (Ki (run (ab++[l]))) [])) :
 C E.P 69 [av (dV s),lv (aV ab),av (cT a),av (cT b)] [] (bz (Ki (mj run a b ((fS a b).map fun l=>ab++[l]) [])) []):=by
 have hp3:(fS a b).length=3:=rfl
 obtain⟨R,hR⟩:∃R,mj run a b ((fS a b).map fun l=>ab++[l]) []=R:=⟨_,rfl⟩
 rw[hR]
 refine gS (nt:=63) (rs:=[.cell 8 31,.cell 9 41,.tmp 10]) hm Tryz.func69 fun hl he cq=>?_
 refine aC [] (gJ a) ?_
 refine aC [] (gJ b) ?_
 refine iK ?_
 refine aC [] (Bf a b) ?_
 refine aC [] (qe a b ta tb jJ) ?_
 refine aC [] (qe b a tb ta (Ne.symm jJ)) ?_
 refine iK ?_
 refine cM hm (fun(i:Nat) (out:List Case)=> i≤3∧out.length=i∧R=mj run a b (((fS a b).drop i).map fun l=>ab++[l]) out) (fun(i:Nat) (out:List Case)=> ⟨dx 63 .any [(1,lv (aV ab)),(4,.ptr 0 0),(8,.ptr 1 0),(9,.ptr 2 0),(11,.ptr 3 0),(12,lv (aV (fS a b))),(13,iv i)],[some (.box (cE (dV s))),some (.box (cE (ez jo))),some (.box (cE (gH ng))),some (.box [iv 4,iv 0,iv 0,iv 0,sv [],lv [],lv [],lv [],sv a.name,lv (aN a.kids),sv b.name,lv (aN b.kids),.acc 4]),some (.acc 41 (fN out))]⟩) (fun(i:Nat) (out:List Case)=> 3-i) (0) ([]) ?_ (ar [some 0,some 3,some 4,some 5,none] ?_ ?_ rfl rfl) ?_
 rotate_left
 ·refine sA ?_
  all_goals(((repeat' apply au)<;>rfl))
 ·refine sA ?_
  all_goals(((repeat' apply au)<;>rfl))
 rotate_left
 ·exact⟨by omega,rfl,hR.symm⟩
 ·rintro i out ⟨hi,ho,hg⟩
  have hol:out.length≤3:=by omega
  rcases aa (i<3) with h1|h1
  ·have h1':i<(fS a b).length:=by omega
   have hr:=lh _ (ak h1')
   rw[List.drop_eq_getElem_cons h1',List.map_cons,mF] at hg
   obtain⟨x,hx⟩:∃x,(fS a b)[i]=x:=⟨_,rfl⟩
   rw[hx] at hr hg
   obtain⟨r,er⟩:∃r,run (ab++[x])=r:=⟨_,rfl⟩
   rw[er] at hr hg
   simp -implicitDefEqProofs only[go_sem,h1',hx]
   refine aC [] (zA ab x (by omega)) ?_
   refine aC [] hr ?_
   refine iK ?_
   rcases aa (r.code=1) with hc|hc
   ·rw[if_pos hc] at hg
    have kc:=eq_true hc
    simp -implicitDefEqProofs only[go_sem,kc]
    refine sQ ?_
    refine⟨i+1,out++[r.case],?_,sL,ar [some 0,some 1,some 2,some 3,some 7] ?_ ?_ rfl rfl⟩
    rotate_left
    ·exact sC
    ·refine sA ?_
     all_goals((rw[←B6,pY,oX];rfl))
    exact⟨by omega,by simp[ho],hg⟩
   ·rw[if_neg hc] at hg
    simp -implicitDefEqProofs only[go_sem,hc]
    refine an ?_
    refine sA ?_
    rw[hg]
    ((repeat' apply au)<;>rfl)
  ·have h1':¬i<(fS a b).length:=by omega
   rw[List.drop_of_length_le (by omega),List.map_nil,ob] at hg
   simp -implicitDefEqProofs only[go_sem,h1']
   refine iK ?_
   refine an ?_
   refine sA ?_
   rw[hg]
   ((repeat' apply au)<;>rfl)
theorem Tx(a:Case):fN [a]=[gH a]:=by rw[pY,oX]
theorem K8(s:dK):∀(f:Nat)(ab:List bm),ic s ab→room (numsOf s ab) ab<f→ab.length+f≤50→C E.P 21 [av (dV s),lv (aV ab)] [] (bz (Ki (fW s (aw ab) (numsOf s ab) f ab)) []):=by
 intro f
 induction f with
 | zero=>intro ab hG h;omega
 | succ f ih=>
 intro ab hG hroom dy
 have hel:(aZ ab).length≤50:=eH (iG _ _) (by omega)
 have next:∀x,Mod.Next s ab x→C E.P 21 [av (dV s),lv (aV (ab++[x]))] [] (bz (Ki (fW s (aw ab) (numsOf s ab) f (ab++[x]))) []):=fun x hx=>by
  obtain⟨g1,g2,g3,g4⟩:=hx
  have h1:=ih (ab++[x]) g1 (by rw[g3];omega) (by simp;omega)
  rw[g2,g3] at h1
  exact h1
 have h4:=hG.n4
 refine gS (nt:=154) (rs:=[.cell 4 31,.cell 5 41,.tmp 6]) hm Tryz.func21 fun hl he cq=>?_
 refine aC [] (Oj s ab hG (by omega)) ?_
 rcases aa ((12:Int)<((aZ ab).length:Int)) with h12|h12
 ·rw[so (by omega)]
  simp -implicitDefEqProofs only[go_sem,h12]
  refine an ?_
  refine sA ?_
  ((repeat' apply au)<;>rfl)
 have h12':¬12<(aZ ab).length:=by omega
 have ccl:=Hr (aw ab) (numsOf s ab) (aZ ab) (closed (aw ab) (aZ ab)).1 ab hG.MP hG.K1
 simp -implicitDefEqProofs only[go_sem,h12]
 refine aC [] ccl ?_
 cases hc:jQ (iA (aw ab) (closed (aw ab) (aZ ab)).1) ab with
 | some n=>
   obtain⟨hn,hcl⟩:=BB hc
   have hgd:ab.getD n ED=ab[n]:=getD_at hn
   have hcl2:=hcl
   simp only[iA,Bool.and_eq_true,decide_eq_true_eq] at hcl2
   obtain⟨hA,hB⟩:=hG.K1 _ (ak hn) hcl2.2.1
   have hre:=wv (aw ab) (numsOf s ab) (aZ ab) (closed (aw ab) (aZ ab)).1 ab[n].atom.A ab[n].atom.B hG.kids hG.Bx hG.U5 hG.NF (by omega) hA hB hcl2.2.2
   have nn:(0:Int)≤(n:Int):=by omega
   rw[pQ h12' hc,hgd]
   simp -implicitDefEqProofs only[go_sem,V5,nn,hn]
   refine aC [] hre ?_
   refine iK ?_
   refine an ?_
   refine sA ?_
   ((repeat' apply au)<;>rfl)
 | none=>
 simp -implicitDefEqProofs only[go_sem,Z3,TO]
 refine aC [] (I1 (numsOf s ab) ab h4 (by omega) hG.fit) ?_
 refine aC [] (H4 (dF (numsOf s ab) ab)) ?_
 rcases aa ((bL (dF (numsOf s ab) ab)).code=1) with hf1|hf1
 ·have k1:=eq_true hf1
  rw[sn h12' hc hf1]
  simp -implicitDefEqProofs only[go_sem,k1]
  refine an ?_
  refine sA ?_
  ((repeat' apply au)<;>rfl)
 rcases aa (¬ (bL (dF (numsOf s ab) ab)).code=0) with hf0|hf0
 ·rw[rY h12' hc hf1 hf0]
  simp -implicitDefEqProofs only[go_sem,hf1,hf0]
  refine an ?_
  refine sA ?_
  ((repeat' apply au)<;>rfl)
 have hf0:=o0.1 hf0
 have k0:=eq_true hf0
 have nq:∀t∈numsOf s ab,t∈aw ab:=oK
 have co1:=zP (aw ab) (numsOf s ab) (aZ ab) (closed (aw ab) (aZ ab)).1 ab hG.MP h4 (by omega) hG.sj hG.num nq hG.Vy
 simp -implicitDefEqProofs only[go_sem,hf1,k0]
 refine aC [] co1 ?_
 cases hp:bW (numsOf s ab).length (dU true (aw ab) (numsOf s ab) (closed (aw ab) (aZ ab)).1 ab) with
 | some q=>
   obtain⟨q1,q2,q3⟩:=kY hp
   have hlk:=rl q3
   have hnx:=next _ (E2 hG q1 q2 hlk)
   have hi:q.1<(numsOf s ab).length:=by omega
   have ga:(numsOf s ab).getD q.1 aM=(numsOf s ab)[q.1]:=e7 hi
   have gb:(numsOf s ab).getD q.2 aM=(numsOf s ab)[q.2]:=e7 q2
   have hA:=nq _ (ak hi)
   have hB:=nq _ (ak q2)
   have hsm:gg (aw ab) (closed (aw ab) (aZ ab)).1 (numsOf s ab)[q.1] (numsOf s ab)[q.2]=true:=by
    rw[Ae,hlk,ga,gb] at q3
    exact q3
   have hre:=wv (aw ab) (numsOf s ab) (aZ ab) (closed (aw ab) (aZ ab)).1 (numsOf s ab)[q.1] (numsOf s ab)[q.2] hG.kids hG.Bx hG.U5 hG.NF (by omega) hA hB hsm
   rw[rF h12' hc hf0 hp]
   rw[ga,gb] at hnx⊢
   obtain⟨i,k⟩:=q
   simp only at *
   obtain⟨r,er⟩:∃r,fW s (aw ab) (numsOf s ab) f (ab++[hU (numsOf s ab)[i] (numsOf s ab)[k]])=r:=⟨_,rfl⟩
   rw[er] at hnx⊢
   simp -implicitDefEqProofs only[go_sem,aW,aX,hi,q2]
   refine aC [] (Bf (numsOf s ab)[i] (numsOf s ab)[k]) ?_
   refine aC [] (zA ab (hU (numsOf s ab)[i] (numsOf s ab)[k]) (by omega)) ?_
   refine aC [] hnx ?_
   refine iK ?_
   rcases aa (r.code=1) with hr|hr
   ·have kr:=eq_true hr
    rw[wW,if_pos hr]
    simp -implicitDefEqProofs only[go_sem,kr,hi,q2]
    refine aC [] hre ?_
    refine iK ?_
    refine an ?_
    refine sA ?_
    ((repeat' apply au)<;>first|rfl|exact(Tx _).symm)
   ·rw[wW,if_neg hr]
    simp -implicitDefEqProofs only[go_sem,hr]
    refine an ?_
    refine sA ?_
    ((repeat' apply au)<;>rfl)
 | none=>
 have co2:=yP (aw ab) (numsOf s ab) (aZ ab) (closed (aw ab) (aZ ab)).1 ab hG.MP h4 (by omega) hG.sj hG.num nq hG.Vy
 refine uK ?_
 refine aC [] co2 ?_
 cases hq:bW (numsOf s ab).length (dU false (aw ab) (numsOf s ab) (closed (aw ab) (aZ ab)).1 ab) with
 | some q=>
   obtain⟨q1,q2,q3⟩:=kY hq
   have hnx:=xw hG q1 q2 (vS q3)
   have hi:q.1<(numsOf s ab).length:=by omega
   have jJ:=A8 hG q1 q2
   have ga:(numsOf s ab).getD q.1 aM=(numsOf s ab)[q.1]:=e7 hi
   have gb:(numsOf s ab).getD q.2 aM=(numsOf s ab)[q.2]:=e7 q2
   have tA:=hG.num _ (ak hi)
   have tB:=hG.num _ (ak q2)
   rw[oT h12' hc hf0 hp hq]
   rw[ga,gb] at hnx jJ⊢
   have hpart:=IT s ab (numsOf s ab)[q.1] (numsOf s ab)[q.2] (fW s (aw ab) (numsOf s ab) f) (by omega) tA tB jJ (fun x hx=>next x (hnx x hx))
   obtain⟨i,k⟩:=q
   simp only at *
   simp -implicitDefEqProofs only[go_sem,aW,aX,hi,q2]
   refine aC [] hpart ?_
   refine iK ?_
   refine an ?_
   exact sC
 | none=>
 obtain⟨v4,vok⟩:=A5 hf0
 have cmo:=FZ (aw ab) (numsOf s ab) (aZ ab) (closed (aw ab) (aZ ab)).1 (bL (dF (numsOf s ab) ab)).aH hG.kids hG.nodup hG.MP hG.K3 v4 vok h4 hG.U5 hG.NF
 have cal:=EA s ⟨hJ (aw ab) (numsOf s ab) (closed (aw ab) (aZ ab)).1 (bL (dF (numsOf s ab) ab)).aH⟩ ab
 rw[pL h12' hc hf0 hp hq]
 refine uK ?_
 refine aC [] cmo ?_
 refine aC [] cal ?_
 cases hm2:ie s ⟨hJ (aw ab) (numsOf s ab) (closed (aw ab) (aZ ab)).1 (bL (dF (numsOf s ab) ab)).aH⟩ ab
 ·rw[if_neg (by simp)]
  refine sA ?_
  refine an ?_
  refine sA ?_
  ((repeat' apply au)<;>rfl)
 ·rw[if_pos rfl]
  refine sA ?_
  refine an ?_
  refine sA ?_
  ((repeat' apply au)<;>rfl)
theorem Gs(s:dK)(ab:List bm):C E.P 9 [av (dV s),lv (aV ab)] [] (bz (Ki (dL s ab)) []):=by
 refine gS (nt:=43) (rs:=[.cell 4 31,.cell 5 41,.tmp 6]) hm Tryz.func9 fun hl he cq=>?_
 refine aC [] (yZ s ab) ?_
 cases eW:fe s ab
 ·have e:dL s ab=⟨jo,ng,3⟩:=by simp[dL,eW]
  rw[e]
  refine sA ?_
  refine an ?_
  refine sA ?_
  ((repeat' apply au)<;>rfl)
 have e:dL s ab=fW s (aw ab) (numsOf s ab) 13 ab:=by simp[dL,eW]
 have hG:=FM eW
 have h6:=(xk eW).2.2.2.1
 have hroom:=room_le hG.n4 ab
 have lh:=K8 s 13 ab hG (by omega) (by omega)
 rw[e]
 refine sA ?_
 refine aL hm (fun(i:Nat)=> i≤ab.length) (fun(i:Nat)=> ⟨dx 43 .any [(1,lv (aV ab)),(2,.ptr 0 0),(4,.ptr 1 0),(5,.ptr 2 0),(7,.acc 3),(8,iv i)],[some (.box (cE (dV s))),some (.box (cE (ez jo))),some (.box (cE (gH ng))),some (.acc 49 (aV (ab.take i)))]⟩) (fun(i:Nat)=> ab.length-i) (0) ?_ (ar [some 0,some 1,some 2,some 3] ?_ ?_ rfl rfl) ?_
 rotate_left
 ·exact sC
 ·refine sA ?_
  all_goals(((repeat' apply au)<;>rfl))
 rotate_left
 ·omega
 ·rintro i hi
  have htl:(ab.take i).length≤6:=by rw[List.length_take];omega
  rcases aa (i<ab.length) with h1|h1
  ·have ht:=BA (hG.wf _ (ak h1))
   have es:ab.take (i+1)=ab.take i++[ab[i]]:=by
    rw[List.take_add_one,List.getElem?_eq_getElem h1];rfl
   have hsn:aV (ab.take (i+1))=aV (ab.take i)++[nW ab[i]]:=by rw[es,aV,List.map_append];rfl
   refine uA ?_
   refine bw [] (Ez ab[i].atom (by omega)) ?_ ?_<;>simp -implicitDefEqProofs only[go_sem,h1]
   refine sQ ?_
   refine⟨i+1,?_,sL,ar [some 0,some 1,some 2,some 4] ?_ ?_ rfl rfl⟩
   rotate_left
   ·exact sC
   ·refine sA ?_
    all_goals(exact hsn.symm)
   exact h1
  ·have et:ab.take i=ab:=List.take_of_length_le (by omega)
   rw[et]
   refine uA ?_
   refine oC [] [3] (vt (e:=49) (args:=[av (dV s),.acc 0]) (iH.cons (Vw.same rfl) (iH.cons (Vw.acc rfl rfl) iH.nil)) rfl lh) ?_
   refine an ?_
   exact sC
end Go.Proofs.YtabembjmeobhoaaGreat
