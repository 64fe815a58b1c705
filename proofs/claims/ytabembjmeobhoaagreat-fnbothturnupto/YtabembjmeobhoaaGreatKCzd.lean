/-
  The reference: the walk of decisions. A step towards the laws.
-/
import Derived.Test.YtabembjmeobhoaaGreatKCzc
import Derived.Test.YtabembjmeobhoaaGreatKCza
import Derived.Test.YtabembjmeobhoaaGreatKCye
set_option linter.unusedVariables false
set_option linter.unusedSimpArgs false
open And renaming intro→au
open Classical renaming em→aa,not_not→o4
open List renaming getElem_mem→ak,length_filterMap_le→iQ
open Nat renaming le_trans→eO
open Option renaming getD_some→aX,isSome_some→aY
namespace Go.Proofs.YtabembjmeobhoaaGreat
open Go.Eng Go.Mod
open Int renaming reduceEq→Z1,reduceLT→Z2,reduceLE→Z3,reduceToNat→Z4
set_option maxRecDepth 100000
set_option maxHeartbeats 6400000
theorem Om(s:dI)(ab:List bl)(h:iq s ab)(o6:ab.length≤100):C E.P 61 [av (eu s),lv (aV ab)] [] (bD (av (rh (az ab) (numsOf s ab) (a7 ab) (closed (az ab) (a7 ab)).1)) []):=by
 have hel:(a7 ab).length≤1000:=eO (iQ _ _) (by omega)
 have h9:=h.Wg
 refine gS (nt:=26) (rs:=[.cell 4 117]) hm Tryz.func61 fun hl he cq=>?_
 refine aC [] (yd ab o6 h.wf) ?_
 refine aC [] (BK ab o6) ?_
 refine aC [] (zH s (az ab) h.sig h.term (by omega)) ?_
 rw[Ah]
 refine aC [] (Bs (az ab) (a7 ab) h.kids h.Bm h9 h.MW hel) ?_
 refine an ?_
 exact sC
def JK(r:zV):PV:=.gV [av (eZ r.model),av (jJ r.case),iv r.code]
attribute [go_sem] JK
theorem Jh(s:dI)(ab:List bl)(a b:Term)(run:List bl→zV)(o6:ab.length≤99)(ta:isTerm a=true)(tb:isTerm b=true)(jD:a≠b)
 (lO:∀l∈fm a b,C E.P 21 [av (eu s),lv (aV (ab++[l]))] [] (bD (JK (run (ab++[l]))) [])) :
 C E.P 69 [av (eu s),lv (aV ab),av (cT a),av (cT b)] [] (bD (JK (oc run a b ((fm a b).map fun l=>ab++[l]) [])) []):=by
 have hp3:(fm a b).length=3:=rfl
 obtain⟨R,hR⟩:∃R,oc run a b ((fm a b).map fun l=>ab++[l]) []=R:=⟨_,rfl⟩
 rw[hR]
 refine gS (nt:=63) (rs:=[.cell 8 31,.cell 9 41,.tmp 10]) hm Tryz.func69 fun hl he cq=>?_
 refine aC [] (gO a) ?_
 refine aC [] (gO b) ?_
 refine iK ?_
 refine aC [] (BA a b) ?_
 refine aC [] (qe a b ta tb jD) ?_
 refine aC [] (qe b a tb ta (Ne.symm jD)) ?_
 refine iK ?_
 refine cQ hm (fun(i:Nat) (out:List Case)=> i≤3∧out.length=i∧R=oc run a b (((fm a b).drop i).map fun l=>ab++[l]) out) (fun(i:Nat) (out:List Case)=> ⟨dH 63 .any [(1,lv (aV ab)),(4,.ptr 0 0),(8,.ptr 1 0),(9,.ptr 2 0),(11,.ptr 3 0),(12,lv (aV (fm a b))),(13,iv i)],[some (.box (cF (eu s))),some (.box (cF (eZ mj))),some (.box (cF (jJ tg))),some (.box [iv 4,iv 0,iv 0,iv 0,sv [],lv [],lv [],lv [],sv a.name,lv (aN a.kids),sv b.name,lv (aN b.kids),.acc 4]),some (.acc 41 (im out))]⟩) (fun(i:Nat) (out:List Case)=> 3-i) (0) ([]) ?_ (ar [some 0,some 3,some 4,some 5,none] ?_ ?_ rfl rfl) ?_
 rotate_left
 ·refine sA ?_
  all_goals(((repeat' apply au)<;>rfl))
 ·refine sA ?_
  all_goals(((repeat' apply au)<;>rfl))
 rotate_left
 ·exact⟨by omega,rfl,hR.symm⟩
 ·rintro i out ⟨hi,ho,hg⟩
  have hol:out.length≤3:=by omega
  rcases aa (i<3) with h1|h1
  ·have h1':i<(fm a b).length:=by omega
   have hr:=lO _ (ak h1')
   rw[List.drop_eq_getElem_cons h1',List.map_cons,nU] at hg
   obtain⟨x,hx⟩:∃x,(fm a b)[i]=x:=⟨_,rfl⟩
   rw[hx] at hr hg
   obtain⟨r,er⟩:∃r,run (ab++[x])=r:=⟨_,rfl⟩
   rw[er] at hr hg
   simp -implicitDefEqProofs only[go_sem,h1',hx]
   refine aC [] (zJ ab x (by omega)) ?_
   refine aC [] hr ?_
   refine iK ?_
   rcases aa (r.code=1) with hc|hc
   ·rw[if_pos hc] at hg
    have kc:=eq_true hc
    simp -implicitDefEqProofs only[go_sem,kc]
    refine sQ ?_
    refine⟨i+1,out++[r.case],?_,sL,ar [some 0,some 1,some 2,some 3,some 7] ?_ ?_ rfl rfl⟩
    rotate_left
    ·exact sC
    ·refine sA ?_
     all_goals((rw[←Cp,p8,oI];rfl))
    exact⟨by omega,by simp[ho],hg⟩
   ·rw[if_neg hc] at hg
    simp -implicitDefEqProofs only[go_sem,hc]
    refine an ?_
    refine sA ?_
    rw[hg]
    ((repeat' apply au)<;>rfl)
  ·have h1':¬i<(fm a b).length:=by omega
   rw[List.drop_of_length_le (by omega),List.map_nil,pC] at hg
   simp -implicitDefEqProofs only[go_sem,h1']
   refine iK ?_
   refine an ?_
   refine sA ?_
   rw[hg]
   ((repeat' apply au)<;>rfl)
theorem TD(a:Case):im [a]=[jJ a]:=by rw[p8,oI]
theorem L5(s:dI):∀(f:Nat)(ab:List bl),iq s ab→room (numsOf s ab) ab<f→ab.length+f≤50→C E.P 21 [av (eu s),lv (aV ab)] [] (bD (JK (il s (az ab) (numsOf s ab) f ab)) []):=by
 intro f
 induction f with
 | zero=>intro ab hG h;omega
 | succ f ih=>
 intro ab hG hroom dz
 have hel:(a7 ab).length≤50:=eO (iQ _ _) (by omega)
 have next:∀x,Mod.Next s ab x→C E.P 21 [av (eu s),lv (aV (ab++[x]))] [] (bD (JK (il s (az ab) (numsOf s ab) f (ab++[x]))) []):=fun x hx=>by
  obtain⟨g1,g2,g3,g4⟩:=hx
  have h1:=ih (ab++[x]) g1 (by rw[g3];omega) (by simp;omega)
  rw[g2,g3] at h1
  exact h1
 have h4:=hG.n4
 refine gS (nt:=154) (rs:=[.cell 4 31,.cell 5 41,.tmp 6]) hm Tryz.func21 fun hl he cq=>?_
 refine aC [] (Om s ab hG (by omega)) ?_
 rcases aa ((12:Int)<((a7 ab).length:Int)) with h12|h12
 ·rw[ux (by omega)]
  simp -implicitDefEqProofs only[go_sem,h12]
  refine an ?_
  refine sA ?_
  ((repeat' apply au)<;>rfl)
 have h12':¬12<(a7 ab).length:=by omega
 have ccl:=HM (az ab) (numsOf s ab) (a7 ab) (closed (az ab) (a7 ab)).1 ab hG.Nv hG.Mu
 simp -implicitDefEqProofs only[go_sem,h12]
 refine aC [] ccl ?_
 cases hc:kg (jh (az ab) (closed (az ab) (a7 ab)).1) ab with
 | some n=>
   obtain⟨hn,hcl⟩:=Bi hc
   have hgd:ab.getD n EF=ab[n]:=getD_at hn
   have hcl2:=hcl
   simp only[jh,Bool.and_eq_true,decide_eq_true_eq] at hcl2
   obtain⟨hA,hB⟩:=hG.Mu _ (ak hn) hcl2.2.1
   have hre:=wz (az ab) (numsOf s ab) (a7 ab) (closed (az ab) (a7 ab)).1 ab[n].atom.A ab[n].atom.B hG.kids hG.Bm hG.Wg hG.MW (by omega) hA hB hcl2.2.2
   have nn:(0:Int)≤(n:Int):=by omega
   rw[rD h12' hc,hgd]
   simp -implicitDefEqProofs only[go_sem,Vf,nn,hn]
   refine aC [] hre ?_
   refine iK ?_
   refine an ?_
   refine sA ?_
   ((repeat' apply au)<;>rfl)
 | none=>
 simp -implicitDefEqProofs only[go_sem,Z3,V0]
 refine aC [] (I6 (numsOf s ab) ab h4 (by omega) hG.fit) ?_
 refine aC [] (Ip (dX (numsOf s ab) ab)) ?_
 rcases aa ((bO (dX (numsOf s ab) ab)).code=1) with hf1|hf1
 ·have k1:=eq_true hf1
  rw[uf h12' hc hf1]
  simp -implicitDefEqProofs only[go_sem,k1]
  refine an ?_
  refine sA ?_
  ((repeat' apply au)<;>rfl)
 rcases aa (¬ (bO (dX (numsOf s ab) ab)).code=0) with hf0|hf0
 ·rw[uP h12' hc hf1 hf0]
  simp -implicitDefEqProofs only[go_sem,hf1,hf0]
  refine an ?_
  refine sA ?_
  ((repeat' apply au)<;>rfl)
 have hf0:=o4.1 hf0
 have k0:=eq_true hf0
 have mG:∀t∈numsOf s ab,t∈az ab:=oA
 have co1:=Ak (az ab) (numsOf s ab) (a7 ab) (closed (az ab) (a7 ab)).1 ab hG.Nv h4 (by omega) hG.so hG.num mG hG.WH
 simp -implicitDefEqProofs only[go_sem,hf1,k0]
 refine aC [] co1 ?_
 cases hp:b7 (numsOf s ab).length (eK true (az ab) (numsOf s ab) (closed (az ab) (a7 ab)).1 ab) with
 | some q=>
   obtain⟨q1,q2,q3⟩:=lp hp
   have hlk:=rq q3
   have hnx:=next _ (FA hG q1 q2 hlk)
   have hi:q.1<(numsOf s ab).length:=by omega
   have ga:(numsOf s ab).getD q.1 aL=(numsOf s ab)[q.1]:=fc hi
   have gb:(numsOf s ab).getD q.2 aL=(numsOf s ab)[q.2]:=fc q2
   have hA:=mG _ (ak hi)
   have hB:=mG _ (ak q2)
   have hsm:gh (az ab) (closed (az ab) (a7 ab)).1 (numsOf s ab)[q.1] (numsOf s ab)[q.2]=true:=by
    rw[AF,hlk,ga,gb] at q3
    exact q3
   have hre:=wz (az ab) (numsOf s ab) (a7 ab) (closed (az ab) (a7 ab)).1 (numsOf s ab)[q.1] (numsOf s ab)[q.2] hG.kids hG.Bm hG.Wg hG.MW (by omega) hA hB hsm
   rw[ue h12' hc hf0 hp]
   rw[ga,gb] at hnx⊢
   obtain⟨i,k⟩:=q
   simp only at *
   obtain⟨r,er⟩:∃r,il s (az ab) (numsOf s ab) f (ab++[gx (numsOf s ab)[i] (numsOf s ab)[k]])=r:=⟨_,rfl⟩
   rw[er] at hnx⊢
   simp -implicitDefEqProofs only[go_sem,aY,aX,hi,q2]
   refine aC [] (BA (numsOf s ab)[i] (numsOf s ab)[k]) ?_
   refine aC [] (zJ ab (gx (numsOf s ab)[i] (numsOf s ab)[k]) (by omega)) ?_
   refine aC [] hnx ?_
   refine iK ?_
   rcases aa (r.code=1) with hr|hr
   ·have kr:=eq_true hr
    rw[zf,if_pos hr]
    simp -implicitDefEqProofs only[go_sem,kr,hi,q2]
    refine aC [] hre ?_
    refine iK ?_
    refine an ?_
    refine sA ?_
    ((repeat' apply au)<;>first|rfl|exact(TD _).symm)
   ·rw[zf,if_neg hr]
    simp -implicitDefEqProofs only[go_sem,hr]
    refine an ?_
    refine sA ?_
    ((repeat' apply au)<;>rfl)
 | none=>
 have co2:=yX (az ab) (numsOf s ab) (a7 ab) (closed (az ab) (a7 ab)).1 ab hG.Nv h4 (by omega) hG.so hG.num mG hG.WH
 refine uK ?_
 refine aC [] co2 ?_
 cases hq:b7 (numsOf s ab).length (eK false (az ab) (numsOf s ab) (closed (az ab) (a7 ab)).1 ab) with
 | some q=>
   obtain⟨q1,q2,q3⟩:=lp hq
   have hnx:=xv hG q1 q2 (vR q3)
   have hi:q.1<(numsOf s ab).length:=by omega
   have jD:=Ct hG q1 q2
   have ga:(numsOf s ab).getD q.1 aL=(numsOf s ab)[q.1]:=fc hi
   have gb:(numsOf s ab).getD q.2 aL=(numsOf s ab)[q.2]:=fc q2
   have tA:=hG.num _ (ak hi)
   have tB:=hG.num _ (ak q2)
   rw[qH h12' hc hf0 hp hq]
   rw[ga,gb] at hnx jD⊢
   have hpart:=Jh s ab (numsOf s ab)[q.1] (numsOf s ab)[q.2] (il s (az ab) (numsOf s ab) f) (by omega) tA tB jD (fun x hx=>next x (hnx x hx))
   obtain⟨i,k⟩:=q
   simp only at *
   simp -implicitDefEqProofs only[go_sem,aY,aX,hi,q2]
   refine aC [] hpart ?_
   refine iK ?_
   refine an ?_
   exact sC
 | none=>
 obtain⟨v4,vok⟩:=Cv hf0
 have cmo:=HW (az ab) (numsOf s ab) (a7 ab) (closed (az ab) (a7 ab)).1 (bO (dX (numsOf s ab) ab)).aB hG.kids hG.nodup hG.Nv hG.L6 v4 vok h4 hG.Wg hG.MW
 have cal:=ED s ⟨ia (az ab) (numsOf s ab) (closed (az ab) (a7 ab)).1 (bO (dX (numsOf s ab) ab)).aB⟩ ab
 rw[rE h12' hc hf0 hp hq]
 refine uK ?_
 refine aC [] cmo ?_
 refine aC [] cal ?_
 cases hm2:eP s ⟨ia (az ab) (numsOf s ab) (closed (az ab) (a7 ab)).1 (bO (dX (numsOf s ab) ab)).aB⟩ ab
 ·rw[if_neg (by simp)]
  refine sA ?_
  refine an ?_
  refine sA ?_
  ((repeat' apply au)<;>rfl)
 ·rw[if_pos rfl]
  refine sA ?_
  refine an ?_
  refine sA ?_
  ((repeat' apply au)<;>rfl)
theorem Gu(s:dI)(ab:List bl):C E.P 9 [av (eu s),lv (aV ab)] [] (bD (JK (eC s ab)) []):=by
 refine gS (nt:=43) (rs:=[.cell 4 31,.cell 5 41,.tmp 6]) hm Tryz.func9 fun hl he cq=>?_
 refine aC [] (zm s ab) ?_
 cases e7:e6 s ab
 ·have e:eC s ab=⟨mj,tg,3⟩:=by simp[eC,e7]
  rw[e]
  refine sA ?_
  refine an ?_
  refine sA ?_
  ((repeat' apply au)<;>rfl)
 have e:eC s ab=il s (az ab) (numsOf s ab) 13 ab:=by simp[eC,e7]
 have hG:=BZ e7
 have h6:=(rN e7).2.2.2.1
 have hroom:=room_le hG.n4 ab
 have lO:=L5 s 13 ab hG (by omega) (by omega)
 rw[e]
 refine sA ?_
 refine aM hm (fun(i:Nat)=> i≤ab.length) (fun(i:Nat)=> ⟨dH 43 .any [(1,lv (aV ab)),(2,.ptr 0 0),(4,.ptr 1 0),(5,.ptr 2 0),(7,.acc 3),(8,iv i)],[some (.box (cF (eu s))),some (.box (cF (eZ mj))),some (.box (cF (jJ tg))),some (.acc 49 (aV (ab.take i)))]⟩) (fun(i:Nat)=> ab.length-i) (0) ?_ (ar [some 0,some 1,some 2,some 3] ?_ ?_ rfl rfl) ?_
 rotate_left
 ·exact sC
 ·refine sA ?_
  all_goals(((repeat' apply au)<;>rfl))
 rotate_left
 ·omega
 ·rintro i hi
  have htl:(ab.take i).length≤6:=by rw[List.length_take];omega
  rcases aa (i<ab.length) with h1|h1
  ·have ht:=Bz (hG.wf _ (ak h1))
   have es:ab.take (i+1)=ab.take i++[ab[i]]:=by
    rw[List.take_add_one,List.getElem?_eq_getElem h1];rfl
   have hsn:aV (ab.take (i+1))=aV (ab.take i)++[nI ab[i]]:=by rw[es,aV,List.map_append];rfl
   refine uA ?_
   refine bp [] (E0 ab[i].atom (by omega)) ?_ ?_<;>simp -implicitDefEqProofs only[go_sem,h1]
   refine sQ ?_
   refine⟨i+1,?_,sL,ar [some 0,some 1,some 2,some 4] ?_ ?_ rfl rfl⟩
   rotate_left
   ·exact sC
   ·refine sA ?_
    all_goals(exact hsn.symm)
   exact h1
  ·have et:ab.take i=ab:=List.take_of_length_le (by omega)
   rw[et]
   refine uA ?_
   refine oC [] [3] (vd (e:=49) (args:=[av (eu s),.acc 0]) (iR.cons (Vw.same rfl) (iR.cons (Vw.acc rfl rfl) iR.nil)) rfl lO) ?_
   refine an ?_
   exact sC
end Go.Proofs.YtabembjmeobhoaaGreat
