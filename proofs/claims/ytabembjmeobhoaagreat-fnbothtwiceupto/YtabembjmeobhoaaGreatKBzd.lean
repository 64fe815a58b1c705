/-
  The reference: the walk of decisions. A step towards the laws.
-/
import Derived.Test.YtabembjmeobhoaaGreatKBzc
import Derived.Test.YtabembjmeobhoaaGreatKBza
import Derived.Test.YtabembjmeobhoaaGreatKBye
set_option linter.unusedVariables false
set_option linter.unusedSimpArgs false
open And renaming intro→ar
open Classical renaming em→aa,not_not→oS
open List renaming getElem_mem→ak,length_filterMap_le→iG
open Nat renaming le_trans→eu
open Option renaming isSome_some→aJ,getD_some→aK,isSome_none→aU,getD_none→aZ
namespace Go.Proofs.YtabembjmeobhoaaGreat
open Go.Eng Go.Mod
open Int renaming reduceEq→Z1,reduceLT→Z2,reduceLE→Z3,reduceToNat→Z4
set_option maxRecDepth 100000
set_option maxHeartbeats 6400000
theorem Mh(s:dE)(ab:List bp)(h:ia s ab)(oW:ab.length≤100):C E.P 61 [av (dZ s),lv (a6 ab)] [] (bM (av (qV (aA ab) (numsOf s ab) (bc ab) (closed (aA ab) (bc ab)).1)) []):=by
 have hel:(bc ab).length≤1000:=eu (iG _ _) (by omega)
 have h9:=h.Tg
 refine gS (nt:=26) (rs:=[.cell 4 117]) hm Tryz.func61 fun hl he cI=>?_
 refine aC [] (wA ab oW h.wf) ?_
 refine aC [] (Bz ab oW) ?_
 refine aC [] (yJ s (aA ab) h.sig h.term (by omega)) ?_
 rw[zC]
 refine aC [] (BA (aA ab) (bc ab) h.kids h.Aa h9 h.Mv hel) ?_
 refine an ?_
 exact sC
def Jr(r:y6):PV:=.jd [av (eL r.model),av (tX r.case),iv r.code]
attribute [go_sem] Jr
theorem Hm(s:dE)(ab:List bp)(a b:Term)(run:List bp→y6)(oW:ab.length≤99)(ta:isTerm a=true)(tb:isTerm b=true)(jv:a≠b)
 (lD:∀l∈fJ a b,C E.P 21 [av (dZ s),lv (a6 (ab++[l]))] [] (bM (Jr (run (ab++[l]))) [])) :
 C E.P 69 [av (dZ s),lv (a6 ab),av (cT a),av (cT b)] [] (bM (Jr (n8 run a b ((fJ a b).map fun l=>ab++[l]) [])) []):=by
 have hp3:(fJ a b).length=3:=rfl
 obtain⟨R,hR⟩:∃R,n8 run a b ((fJ a b).map fun l=>ab++[l]) []=R:=⟨_,rfl⟩
 rw[hR]
 refine gS (nt:=63) (rs:=[.cell 8 31,.cell 9 41,.tmp 10]) hm Tryz.func69 fun hl he cI=>?_
 refine aC [] (gF a) ?_
 refine aC [] (gF b) ?_
 refine iK ?_
 refine aC [] (Ac a b) ?_
 refine aC [] (pX a b ta tb jv) ?_
 refine aC [] (pX b a tb ta (Ne.symm jv)) ?_
 refine iK ?_
 refine dm hm (fun(i:Nat) (out:List Case)=> i≤3∧out.length=i∧R=n8 run a b (((fJ a b).drop i).map fun l=>ab++[l]) out) (fun(i:Nat) (out:List Case)=> ⟨dB 63 .any [(1,lv (a6 ab)),(4,.ptr 0 0),(8,.ptr 1 0),(9,.ptr 2 0),(11,.ptr 3 0),(12,lv (a6 (fJ a b))),(13,iv i)],[some (.box (cF (dZ s))),some (.box (cF (eL l8))),some (.box (cF (tX s7))),some (.box [iv 4,iv 0,iv 0,iv 0,sv [],lv [],lv [],lv [],sv a.name,lv (aP a.kids),sv b.name,lv (aP b.kids),.acc 4]),some (.acc 41 (iR out))]⟩) (fun(i:Nat) (out:List Case)=> 3-i) (0) ([]) ?_ (aw [some 0,some 3,some 4,some 5,none] ?_ ?_ rfl rfl) ?_
 rotate_left
 ·refine sA ?_
  all_goals(((repeat' apply ar)<;>rfl))
 ·refine sA ?_
  all_goals(((repeat' apply ar)<;>rfl))
 rotate_left
 ·exact⟨by omega,rfl,hR.symm⟩
 ·rintro i out ⟨hi,ho,hg⟩
  have hol:out.length≤3:=by omega
  rcases aa (i<3) with h1|h1
  ·have h1':i<(fJ a b).length:=by omega
   have hr:=lD _ (ak h1')
   rw[List.drop_eq_getElem_cons h1',List.map_cons,nJ] at hg
   obtain⟨x,hx⟩:∃x,(fJ a b)[i]=x:=⟨_,rfl⟩
   rw[hx] at hr hg
   obtain⟨r,er⟩:∃r,run (ab++[x])=r:=⟨_,rfl⟩
   rw[er] at hr hg
   simp -implicitDefEqProofs only[go_sem,h1',hx]
   refine aC [] (yw ab x (by omega)) ?_
   refine aC [] hr ?_
   refine iK ?_
   rcases aa (r.code=1) with hc|hc
   ·rw[if_pos hc] at hg
    have kc:=eq_true hc
    simp -implicitDefEqProofs only[go_sem,kc]
    refine sQ ?_
    refine⟨i+1,out++[r.case],?_,sL,aw [some 0,some 1,some 2,some 3,some 7] ?_ ?_ rfl rfl⟩
    rotate_left
    ·exact sC
    ·refine sA ?_
     all_goals((rw[←AG,p8,oG];rfl))
    exact⟨by omega,by simp[ho],hg⟩
   ·rw[if_neg hc] at hg
    simp -implicitDefEqProofs only[go_sem,hc]
    refine an ?_
    refine sA ?_
    rw[hg]
    ((repeat' apply ar)<;>rfl)
  ·have h1':¬i<(fJ a b).length:=by omega
   rw[List.drop_of_length_le (by omega),List.map_nil,pn] at hg
   simp -implicitDefEqProofs only[go_sem,h1']
   refine iK ?_
   refine an ?_
   refine sA ?_
   rw[hg]
   ((repeat' apply ar)<;>rfl)
theorem RE(a:Case):iR [a]=[tX a]:=by rw[p8,oG]
theorem JG(s:dE):∀(f:Nat)(ab:List bp),ia s ab→room (numsOf s ab) ab<f→ab.length+f≤50→C E.P 21 [av (dZ s),lv (a6 ab)] [] (bM (Jr (hY s (aA ab) (numsOf s ab) f ab)) []):=by
 intro f
 induction f with
 | zero=>intro ab hG h;omega
 | succ f ih=>
 intro ab hG hroom dy
 have hel:(bc ab).length≤50:=eu (iG _ _) (by omega)
 have next:∀x,Mod.Next s ab x→C E.P 21 [av (dZ s),lv (a6 (ab++[x]))] [] (bM (Jr (hY s (aA ab) (numsOf s ab) f (ab++[x]))) []):=fun x hx=>by
  obtain⟨g1,g2,g3,g4⟩:=hx
  have h1:=ih (ab++[x]) g1 (by rw[g3];omega) (by simp;omega)
  rw[g2,g3] at h1
  exact h1
 have h4:=hG.n4
 refine gS (nt:=154) (rs:=[.cell 4 31,.cell 5 41,.tmp 6]) hm Tryz.func21 fun hl he cI=>?_
 refine aC [] (Mh s ab hG (by omega)) ?_
 rcases aa ((12:Int)<((bc ab).length:Int)) with h12|h12
 ·rw[tU (by omega)]
  simp -implicitDefEqProofs only[go_sem,h12]
  refine an ?_
  refine sA ?_
  ((repeat' apply ar)<;>rfl)
 have h12':¬12<(bc ab).length:=by omega
 have ccl:=GH (aA ab) (numsOf s ab) (bc ab) (closed (aA ab) (bc ab)).1 ab hG.Nd hG.JX
 simp -implicitDefEqProofs only[go_sem,h12]
 refine aC [] ccl ?_
 cases hc:kf (iZ (aA ab) (closed (aA ab) (bc ab)).1) ab with
 | some n=>
   obtain⟨hn,hcl⟩:=AZ hc
   have hgd:ab.getD n Dq=ab[n]:=getD_at hn
   have hcl2:=hcl
   simp only[iZ,Bool.and_eq_true,decide_eq_true_eq] at hcl2
   obtain⟨hA,hB⟩:=hG.JX _ (ak hn) hcl2.2.1
   have hre:=vH (aA ab) (numsOf s ab) (bc ab) (closed (aA ab) (bc ab)).1 ab[n].atom.A ab[n].atom.B hG.kids hG.Aa hG.Tg hG.Mv (by omega) hA hB hcl2.2.2
   have nn:(0:Int)≤(n:Int):=by omega
   rw[rv h12' hc,hgd]
   simp -implicitDefEqProofs only[go_sem,UQ,nn,hn]
   refine aC [] hre ?_
   refine iK ?_
   refine an ?_
   refine sA ?_
   ((repeat' apply ar)<;>rfl)
 | none=>
 simp -implicitDefEqProofs only[go_sem,Z3,TR]
 refine aC [] (HN (numsOf s ab) ab h4 (by omega) hG.fit) ?_
 refine aC [] (Hl (dQ (numsOf s ab) ab)) ?_
 rcases aa ((bN (dQ (numsOf s ab) ab)).code=1) with hf1|hf1
 ·have k1:=eq_true hf1
  rw[ue h12' hc hf1]
  simp -implicitDefEqProofs only[go_sem,k1]
  refine an ?_
  refine sA ?_
  ((repeat' apply ar)<;>rfl)
 rcases aa (¬ (bN (dQ (numsOf s ab) ab)).code=0) with hf0|hf0
 ·rw[ud h12' hc hf1 hf0]
  simp -implicitDefEqProofs only[go_sem,hf1,hf0]
  refine an ?_
  refine sA ?_
  ((repeat' apply ar)<;>rfl)
 have hf0:=oS.1 hf0
 have k0:=eq_true hf0
 have mq:∀t∈numsOf s ab,t∈aA ab:=ov
 have co1:=zm (aA ab) (numsOf s ab) (bc ab) (closed (aA ab) (bc ab)).1 ab hG.Nd h4 (by omega) hG.rM hG.num mq hG.VU
 simp -implicitDefEqProofs only[go_sem,hf1,k0]
 refine aC [] co1 ?_
 cases hp:b6 (numsOf s ab).length (dY true (aA ab) (numsOf s ab) (closed (aA ab) (bc ab)).1 ab) with
 | some q=>
   obtain⟨q1,q2,q3⟩:=kM hp
   have hlk:=q9 q3
   have hnx:=next _ (Ev hG q1 q2 hlk)
   have hi:q.1<(numsOf s ab).length:=by omega
   have ga:(numsOf s ab).getD q.1 aL=(numsOf s ab)[q.1]:=eX hi
   have gb:(numsOf s ab).getD q.2 aL=(numsOf s ab)[q.2]:=eX q2
   have hA:=mq _ (ak hi)
   have hB:=mq _ (ak q2)
   have hsm:fS (aA ab) (closed (aA ab) (bc ab)).1 (numsOf s ab)[q.1] (numsOf s ab)[q.2]=true:=by
    rw[zu,hlk,ga,gb] at q3
    exact q3
   have hre:=vH (aA ab) (numsOf s ab) (bc ab) (closed (aA ab) (bc ab)).1 (numsOf s ab)[q.1] (numsOf s ab)[q.2] hG.kids hG.Aa hG.Tg hG.Mv (by omega) hA hB hsm
   rw[uj h12' hc hf0 hp]
   rw[ga,gb] at hnx⊢
   obtain⟨i,k⟩:=q
   simp only at *
   obtain⟨r,er⟩:∃r,hY s (aA ab) (numsOf s ab) f (ab++[gJ (numsOf s ab)[i] (numsOf s ab)[k]])=r:=⟨_,rfl⟩
   rw[er] at hnx⊢
   simp -implicitDefEqProofs only[go_sem,aJ,aK,hi,q2]
   refine aC [] (Ac (numsOf s ab)[i] (numsOf s ab)[k]) ?_
   refine aC [] (yw ab (gJ (numsOf s ab)[i] (numsOf s ab)[k]) (by omega)) ?_
   refine aC [] hnx ?_
   refine iK ?_
   rcases aa (r.code=1) with hr|hr
   ·have kr:=eq_true hr
    rw[yd,if_pos hr]
    simp -implicitDefEqProofs only[go_sem,kr,hi,q2]
    refine aC [] hre ?_
    refine iK ?_
    refine an ?_
    refine sA ?_
    ((repeat' apply ar)<;>first|rfl|exact(RE _).symm)
   ·rw[yd,if_neg hr]
    simp -implicitDefEqProofs only[go_sem,hr]
    refine an ?_
    refine sA ?_
    ((repeat' apply ar)<;>rfl)
 | none=>
 have co2:=x7 (aA ab) (numsOf s ab) (bc ab) (closed (aA ab) (bc ab)).1 ab hG.Nd h4 (by omega) hG.rM hG.num mq hG.VU
 simp -implicitDefEqProofs only[go_sem,aU,aZ]
 refine aC [] co2 ?_
 cases hq:b6 (numsOf s ab).length (dY false (aA ab) (numsOf s ab) (closed (aA ab) (bc ab)).1 ab) with
 | some q=>
   obtain⟨q1,q2,q3⟩:=kM hq
   have hnx:=w9 hG q1 q2 (uA q3)
   have hi:q.1<(numsOf s ab).length:=by omega
   have jv:=AL hG q1 q2
   have ga:(numsOf s ab).getD q.1 aL=(numsOf s ab)[q.1]:=eX hi
   have gb:(numsOf s ab).getD q.2 aL=(numsOf s ab)[q.2]:=eX q2
   have tA:=hG.num _ (ak hi)
   have tB:=hG.num _ (ak q2)
   rw[qh h12' hc hf0 hp hq]
   rw[ga,gb] at hnx jv⊢
   have hpart:=Hm s ab (numsOf s ab)[q.1] (numsOf s ab)[q.2] (hY s (aA ab) (numsOf s ab) f) (by omega) tA tB jv (fun x hx=>next x (hnx x hx))
   obtain⟨i,k⟩:=q
   simp only at *
   simp -implicitDefEqProofs only[go_sem,aJ,aK,hi,q2]
   refine aC [] hpart ?_
   refine iK ?_
   refine an ?_
   exact sC
 | none=>
 obtain⟨v4,ZN⟩:=zU hf0
 have cmo:=Gb (aA ab) (numsOf s ab) (bc ab) (closed (aA ab) (bc ab)).1 (bN (dQ (numsOf s ab) ab)).aE hG.kids hG.nodup hG.Nd hG.J7 v4 ZN h4 hG.Tg hG.Mv
 have cal:=DZ s ⟨gY (aA ab) (numsOf s ab) (closed (aA ab) (bc ab)).1 (bN (dQ (numsOf s ab) ab)).aE⟩ ab
 rw[ru h12' hc hf0 hp hq]
 simp -implicitDefEqProofs only[go_sem,aU,aZ]
 refine aC [] cmo ?_
 refine aC [] cal ?_
 cases hm2:eS s ⟨gY (aA ab) (numsOf s ab) (closed (aA ab) (bc ab)).1 (bN (dQ (numsOf s ab) ab)).aE⟩ ab
 ·rw[if_neg (by simp)]
  refine sA ?_
  refine an ?_
  refine sA ?_
  ((repeat' apply ar)<;>rfl)
 ·rw[if_pos rfl]
  refine sA ?_
  refine an ?_
  refine sA ?_
  ((repeat' apply ar)<;>rfl)
theorem E0(s:dE)(ab:List bp):C E.P 9 [av (dZ s),lv (a6 ab)] [] (bM (Jr (dS s ab)) []):=by
 refine gS (nt:=43) (rs:=[.cell 4 31,.cell 5 41,.tmp 6]) hm Tryz.func9 fun hl he cI=>?_
 refine aC [] (yp s ab) ?_
 cases eP:eZ s ab
 ·have e:dS s ab=⟨l8,s7,3⟩:=by simp[dS,eP]
  rw[e]
  refine sA ?_
  refine an ?_
  refine sA ?_
  ((repeat' apply ar)<;>rfl)
 have e:dS s ab=hY s (aA ab) (numsOf s ab) 13 ab:=by simp[dS,eP]
 have hG:=AW eP
 have h6:=(A8 eP).2.2.2.1
 have hroom:=room_le hG.n4 ab
 have lD:=JG s 13 ab hG (by omega) (by omega)
 rw[e]
 refine sA ?_
 refine aO hm (fun(i:Nat)=> i≤ab.length) (fun(i:Nat)=> ⟨dB 43 .any [(1,lv (a6 ab)),(2,.ptr 0 0),(4,.ptr 1 0),(5,.ptr 2 0),(7,.acc 3),(8,iv i)],[some (.box (cF (dZ s))),some (.box (cF (eL l8))),some (.box (cF (tX s7))),some (.acc 49 (a6 (ab.take i)))]⟩) (fun(i:Nat)=> ab.length-i) (0) ?_ (aw [some 0,some 1,some 2,some 3] ?_ ?_ rfl rfl) ?_
 rotate_left
 ·exact sC
 ·refine sA ?_
  all_goals(((repeat' apply ar)<;>rfl))
 rotate_left
 ·omega
 ·rintro i hi
  have htl:(ab.take i).length≤6:=by rw[List.length_take];omega
  rcases aa (i<ab.length) with h1|h1
  ·have ht:=Ab (hG.wf _ (ak h1))
   have es:ab.take (i+1)=ab.take i++[ab[i]]:=by
    rw[List.take_add_one,List.getElem?_eq_getElem h1];rfl
   have hsn:a6 (ab.take (i+1))=a6 (ab.take i)++[np ab[i]]:=by rw[es,a6,List.map_append];rfl
   simp -implicitDefEqProofs only[go_sem,h1]
   refine bQ [] (DJ ab[i].atom (by omega)) ?_ ?_<;>simp -implicitDefEqProofs only[go_sem,h1]
   refine sQ ?_
   refine⟨i+1,?_,sL,aw [some 0,some 1,some 2,some 4] ?_ ?_ rfl rfl⟩
   rotate_left
   ·exact sC
   ·refine sA ?_
    all_goals(exact hsn.symm)
   exact h1
  ·have et:ab.take i=ab:=List.take_of_length_le (by omega)
   rw[et]
   simp -implicitDefEqProofs only[go_sem,h1]
   refine oC [] [3] (tH (e:=49) (args:=[av (dZ s),.acc 0]) (ik.cons (Vw.same rfl) (ik.cons (Vw.acc rfl rfl) ik.nil)) rfl lD) ?_
   refine an ?_
   exact sC
end Go.Proofs.YtabembjmeobhoaaGreat
