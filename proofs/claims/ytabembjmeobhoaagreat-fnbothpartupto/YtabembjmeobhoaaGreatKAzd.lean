/-
  The reference: the walk of decisions. A step towards the laws.
-/
import Derived.Test.YtabembjmeobhoaaGreatKAzc
import Derived.Test.YtabembjmeobhoaaGreatKAza
import Derived.Test.YtabembjmeobhoaaGreatKAye
set_option linter.unusedVariables false
set_option linter.unusedSimpArgs false
open And renaming intro→ar
open Classical renaming em→aa,not_not→oP
open List renaming getElem_mem→ak,length_filterMap_le→iD
open Nat renaming le_trans→eu
open Option renaming isSome_some→aJ,getD_some→aK,isSome_none→aU,getD_none→a6
namespace Go.Proofs.YtabembjmeobhoaaGreat
open Go.Eng Go.Mod
open Int renaming reduceEq→Z1,reduceLT→Z2,reduceLE→Z3,reduceToNat→Z4
set_option maxRecDepth 100000
set_option maxHeartbeats 6400000
theorem LM(s:dG)(ab:List bp)(h:hY s ab)(oU:ab.length≤100):C E.P 61 [av (dX s),lv (aZ ab)] [] (bN (av (qP (aE ab) (numsOf s ab) (bc ab) (closed (aE ab) (bc ab)).1)) []):=by
 have hel:(bc ab).length≤1000:=eu (iD _ _) (by omega)
 have h9:=h.TJ
 refine gS (nt:=26) (rs:=[.cell 4 117]) hm Tryz.func61 fun hl he cI=>?_
 refine aC [] (w7 ab oU h.wf) ?_
 refine aC [] (Bw ab oU) ?_
 refine aC [] (yH s (aE ab) h.sig h.term (by omega)) ?_
 rw[zJ]
 refine aC [] (An (aE ab) (bc ab) h.kids h.zT h9 h.LV hel) ?_
 refine an ?_
 exact sC
def IK(r:zt):PV:=.ja [av (eP r.model),av (tZ r.case),iv r.code]
attribute [go_sem] IK
theorem Hq(s:dG)(ab:List bp)(a b:Term)(run:List bp→zt)(oU:ab.length≤99)(ta:isTerm a=true)(tb:isTerm b=true)(ju:a≠b)
 (mf:∀l∈fJ a b,C E.P 21 [av (dX s),lv (aZ (ab++[l]))] [] (bN (IK (run (ab++[l]))) [])) :
 C E.P 69 [av (dX s),lv (aZ ab),av (cT a),av (cT b)] [] (bN (IK (qi run a b ((fJ a b).map fun l=>ab++[l]) [])) []):=by
 have hp3:(fJ a b).length=3:=rfl
 obtain⟨R,hR⟩:∃R,qi run a b ((fJ a b).map fun l=>ab++[l]) []=R:=⟨_,rfl⟩
 rw[hR]
 refine gS (nt:=63) (rs:=[.cell 8 31,.cell 9 41,.tmp 10]) hm Tryz.func69 fun hl he cI=>?_
 refine aC [] (gF a) ?_
 refine aC [] (gF b) ?_
 refine iK ?_
 refine aC [] (Ac a b) ?_
 refine aC [] (pU a b ta tb ju) ?_
 refine aC [] (pU b a tb ta (Ne.symm ju)) ?_
 refine iK ?_
 refine dm hm (fun(i:Nat) (out:List Case)=> i≤3∧out.length=i∧R=qi run a b (((fJ a b).drop i).map fun l=>ab++[l]) out) (fun(i:Nat) (out:List Case)=> ⟨dB 63 .any [(1,lv (aZ ab)),(4,.ptr 0 0),(8,.ptr 1 0),(9,.ptr 2 0),(11,.ptr 3 0),(12,lv (aZ (fJ a b))),(13,iv i)],[some (.box (cF (dX s))),some (.box (cF (eP l7))),some (.box (cF (tZ sF))),some (.box [iv 4,iv 0,iv 0,iv 0,sv [],lv [],lv [],lv [],sv a.name,lv (aP a.kids),sv b.name,lv (aP b.kids),.acc 4]),some (.acc 41 (iQ out))]⟩) (fun(i:Nat) (out:List Case)=> 3-i) (0) ([]) ?_ (aw [some 0,some 3,some 4,some 5,none] ?_ ?_ rfl rfl) ?_
 rotate_left
 ·refine sA ?_
  all_goals(((repeat' apply ar)<;>rfl))
 ·refine sA ?_
  all_goals(((repeat' apply ar)<;>rfl))
 rotate_left
 ·exact⟨by omega,rfl,hR.symm⟩
 ·rintro i out ⟨hi,ho,hg⟩
  have hol:out.length≤3:=by omega
  rcases aa (i<3) with h1|h1
  ·have h1':i<(fJ a b).length:=by omega
   have hr:=mf _ (ak h1')
   rw[List.drop_eq_getElem_cons h1',List.map_cons,pr] at hg
   obtain⟨x,hx⟩:∃x,(fJ a b)[i]=x:=⟨_,rfl⟩
   rw[hx] at hr hg
   obtain⟨r,er⟩:∃r,run (ab++[x])=r:=⟨_,rfl⟩
   rw[er] at hr hg
   simp -implicitDefEqProofs only[go_sem,h1',hx]
   refine aC [] (yS ab x (by omega)) ?_
   refine aC [] hr ?_
   refine iK ?_
   rcases aa (r.code=1) with hc|hc
   ·rw[if_pos hc] at hg
    have kc:=eq_true hc
    simp -implicitDefEqProofs only[go_sem,kc]
    refine sQ ?_
    refine⟨i+1,out++[r.case],?_,sL,aw [some 0,some 1,some 2,some 3,some 7] ?_ ?_ rfl rfl⟩
    rotate_left
    ·exact sC
    ·refine sA ?_
     all_goals((rw[←AY,pR,oq];rfl))
    exact⟨by omega,by simp[ho],hg⟩
   ·rw[if_neg hc] at hg
    simp -implicitDefEqProofs only[go_sem,hc]
    refine an ?_
    refine sA ?_
    rw[hg]
    ((repeat' apply ar)<;>rfl)
  ·have h1':¬i<(fJ a b).length:=by omega
   rw[List.drop_of_length_le (by omega),List.map_nil,rm] at hg
   simp -implicitDefEqProofs only[go_sem,h1']
   refine iK ?_
   refine an ?_
   refine sA ?_
   rw[hg]
   ((repeat' apply ar)<;>rfl)
theorem Sr(a:Case):iQ [a]=[tZ a]:=by rw[pR,oq]
theorem JB(s:dG):∀(f:Nat)(ab:List bp),hY s ab→room (numsOf s ab) ab<f→ab.length+f≤50→C E.P 21 [av (dX s),lv (aZ ab)] [] (bN (IK (jw s (aE ab) (numsOf s ab) f ab)) []):=by
 intro f
 induction f with
 | zero=>intro ab hG h;omega
 | succ f ih=>
 intro ab hG hroom dy
 have hel:(bc ab).length≤50:=eu (iD _ _) (by omega)
 have next:∀x,Mod.Next s ab x→C E.P 21 [av (dX s),lv (aZ (ab++[x]))] [] (bN (IK (jw s (aE ab) (numsOf s ab) f (ab++[x]))) []):=fun x hx=>by
  obtain⟨g1,g2,g3,g4⟩:=hx
  have h1:=ih (ab++[x]) g1 (by rw[g3];omega) (by simp;omega)
  rw[g2,g3] at h1
  exact h1
 have h4:=hG.n4
 refine gS (nt:=154) (rs:=[.cell 4 31,.cell 5 41,.tmp 6]) hm Tryz.func21 fun hl he cI=>?_
 refine aC [] (LM s ab hG (by omega)) ?_
 rcases aa ((12:Int)<((bc ab).length:Int)) with h12|h12
 ·rw[xl (by omega)]
  simp -implicitDefEqProofs only[go_sem,h12]
  refine an ?_
  refine sA ?_
  ((repeat' apply ar)<;>rfl)
 have h12':¬12<(bc ab).length:=by omega
 have ccl:=G0 (aE ab) (numsOf s ab) (bc ab) (closed (aE ab) (bc ab)).1 ab hG.Mt hG.Ks
 simp -implicitDefEqProofs only[go_sem,h12]
 refine aC [] ccl ?_
 cases hc:kI (jm (aE ab) (closed (aE ab) (bc ab)).1) ab with
 | some n=>
   obtain⟨hn,hcl⟩:=Az hc
   have hgd:ab.getD n DN=ab[n]:=getD_at hn
   have hcl2:=hcl
   simp only[jm,Bool.and_eq_true,decide_eq_true_eq] at hcl2
   obtain⟨hA,hB⟩:=hG.Ks _ (ak hn) hcl2.2.1
   have hre:=vI (aE ab) (numsOf s ab) (bc ab) (closed (aE ab) (bc ab)).1 ab[n].atom.A ab[n].atom.B hG.kids hG.zT hG.TJ hG.LV (by omega) hA hB hcl2.2.2
   have nn:(0:Int)≤(n:Int):=by omega
   rw[uh h12' hc,hgd]
   simp -implicitDefEqProofs only[go_sem,Ve,nn,hn]
   refine aC [] hre ?_
   refine iK ?_
   refine an ?_
   refine sA ?_
   ((repeat' apply ar)<;>rfl)
 | none=>
 simp -implicitDefEqProofs only[go_sem,Z3,UJ]
 refine aC [] (HU (numsOf s ab) ab h4 (by omega) hG.fit) ?_
 refine aC [] (Ho (dY (numsOf s ab) ab)) ?_
 rcases aa ((bR (dY (numsOf s ab) ab)).code=1) with hf1|hf1
 ·have k1:=eq_true hf1
  rw[wy h12' hc hf1]
  simp -implicitDefEqProofs only[go_sem,k1]
  refine an ?_
  refine sA ?_
  ((repeat' apply ar)<;>rfl)
 rcases aa (¬ (bR (dY (numsOf s ab) ab)).code=0) with hf0|hf0
 ·rw[v8 h12' hc hf1 hf0]
  simp -implicitDefEqProofs only[go_sem,hf1,hf0]
  refine an ?_
  refine sA ?_
  ((repeat' apply ar)<;>rfl)
 have hf0:=oP.1 hf0
 have k0:=eq_true hf0
 have lg:∀t∈numsOf s ab,t∈aE ab:=ow
 have co1:=zF (aE ab) (numsOf s ab) (bc ab) (closed (aE ab) (bc ab)).1 ab hG.Mt h4 (by omega) hG.rO hG.num lg hG.TT
 simp -implicitDefEqProofs only[go_sem,hf1,k0]
 refine aC [] co1 ?_
 cases hp:b9 (numsOf s ab).length (dZ true (aE ab) (numsOf s ab) (closed (aE ab) (bc ab)).1 ab) with
 | some q=>
   obtain⟨q1,q2,q3⟩:=kL hp
   have hlk:=qV q3
   have hnx:=next _ (Ec hG q1 q2 hlk)
   have hi:q.1<(numsOf s ab).length:=by omega
   have ga:(numsOf s ab).getD q.1 aL=(numsOf s ab)[q.1]:=eW hi
   have gb:(numsOf s ab).getD q.2 aL=(numsOf s ab)[q.2]:=eW q2
   have hA:=lg _ (ak hi)
   have hB:=lg _ (ak q2)
   have hsm:fY (aE ab) (closed (aE ab) (bc ab)).1 (numsOf s ab)[q.1] (numsOf s ab)[q.2]=true:=by
    rw[zM,hlk,ga,gb] at q3
    exact q3
   have hre:=vI (aE ab) (numsOf s ab) (bc ab) (closed (aE ab) (bc ab)).1 (numsOf s ab)[q.1] (numsOf s ab)[q.2] hG.kids hG.zT hG.TJ hG.LV (by omega) hA hB hsm
   rw[xq h12' hc hf0 hp]
   rw[ga,gb] at hnx⊢
   obtain⟨i,k⟩:=q
   simp only at *
   obtain⟨r,er⟩:∃r,jw s (aE ab) (numsOf s ab) f (ab++[gP (numsOf s ab)[i] (numsOf s ab)[k]])=r:=⟨_,rfl⟩
   rw[er] at hnx⊢
   simp -implicitDefEqProofs only[go_sem,aJ,aK,hi,q2]
   refine aC [] (Ac (numsOf s ab)[i] (numsOf s ab)[k]) ?_
   refine aC [] (yS ab (gP (numsOf s ab)[i] (numsOf s ab)[k]) (by omega)) ?_
   refine aC [] hnx ?_
   refine iK ?_
   rcases aa (r.code=1) with hr|hr
   ·have kr:=eq_true hr
    rw[AM,if_pos hr]
    simp -implicitDefEqProofs only[go_sem,kr,hi,q2]
    refine aC [] hre ?_
    refine iK ?_
    refine an ?_
    refine sA ?_
    ((repeat' apply ar)<;>first|rfl|exact(Sr _).symm)
   ·rw[AM,if_neg hr]
    simp -implicitDefEqProofs only[go_sem,hr]
    refine an ?_
    refine sA ?_
    ((repeat' apply ar)<;>rfl)
 | none=>
 have co2:=yc (aE ab) (numsOf s ab) (bc ab) (closed (aE ab) (bc ab)).1 ab hG.Mt h4 (by omega) hG.rO hG.num lg hG.TT
 simp -implicitDefEqProofs only[go_sem,aU,a6]
 refine aC [] co2 ?_
 cases hq:b9 (numsOf s ab).length (dZ false (aE ab) (numsOf s ab) (closed (aE ab) (bc ab)).1 ab) with
 | some q=>
   obtain⟨q1,q2,q3⟩:=kL hq
   have hnx:=wj hG q1 q2 (uO q3)
   have hi:q.1<(numsOf s ab).length:=by omega
   have ju:=AS hG q1 q2
   have ga:(numsOf s ab).getD q.1 aL=(numsOf s ab)[q.1]:=eW hi
   have gb:(numsOf s ab).getD q.2 aL=(numsOf s ab)[q.2]:=eW q2
   have tA:=hG.num _ (ak hi)
   have tB:=hG.num _ (ak q2)
   rw[rq h12' hc hf0 hp hq]
   rw[ga,gb] at hnx ju⊢
   have hpart:=Hq s ab (numsOf s ab)[q.1] (numsOf s ab)[q.2] (jw s (aE ab) (numsOf s ab) f) (by omega) tA tB ju (fun x hx=>next x (hnx x hx))
   obtain⟨i,k⟩:=q
   simp only at *
   simp -implicitDefEqProofs only[go_sem,aJ,aK,hi,q2]
   refine aC [] hpart ?_
   refine iK ?_
   refine an ?_
   exact sC
 | none=>
 obtain⟨v4,ZP⟩:=A8 hf0
 have cmo:=FP (aE ab) (numsOf s ab) (bc ab) (closed (aE ab) (bc ab)).1 (bR (dY (numsOf s ab) ab)).aB hG.kids hG.nodup hG.Mt hG.Lp v4 ZP h4 hG.TJ hG.LV
 have cal:=DW s ⟨gY (aE ab) (numsOf s ab) (closed (aE ab) (bc ab)).1 (bR (dY (numsOf s ab) ab)).aB⟩ ab
 rw[tN h12' hc hf0 hp hq]
 simp -implicitDefEqProofs only[go_sem,aU,a6]
 refine aC [] cmo ?_
 refine aC [] cal ?_
 cases hm2:eE s ⟨gY (aE ab) (numsOf s ab) (closed (aE ab) (bc ab)).1 (bR (dY (numsOf s ab) ab)).aB⟩ ab
 ·rw[if_neg (by simp)]
  refine sA ?_
  refine an ?_
  refine sA ?_
  ((repeat' apply ar)<;>rfl)
 ·rw[if_pos rfl]
  refine sA ?_
  refine an ?_
  refine sA ?_
  ((repeat' apply ar)<;>rfl)
theorem EI(s:dG)(ab:List bp):C E.P 9 [av (dX s),lv (aZ ab)] [] (bN (IK (fk s ab)) []):=by
 refine gS (nt:=43) (rs:=[.cell 4 31,.cell 5 41,.tmp 6]) hm Tryz.func9 fun hl he cI=>?_
 refine aC [] (yx s ab) ?_
 cases eK:fa s ab
 ·have e:fk s ab=⟨l7,sF,3⟩:=by simp[fk,eK]
  rw[e]
  refine sA ?_
  refine an ?_
  refine sA ?_
  ((repeat' apply ar)<;>rfl)
 have e:fk s ab=jw s (aE ab) (numsOf s ab) 13 ab:=by simp[fk,eK]
 have hG:=Am eK
 have h6:=(xf eK).2.2.2.1
 have hroom:=room_le hG.n4 ab
 have mf:=JB s 13 ab hG (by omega) (by omega)
 rw[e]
 refine sA ?_
 refine aO hm (fun(i:Nat)=> i≤ab.length) (fun(i:Nat)=> ⟨dB 43 .any [(1,lv (aZ ab)),(2,.ptr 0 0),(4,.ptr 1 0),(5,.ptr 2 0),(7,.acc 3),(8,iv i)],[some (.box (cF (dX s))),some (.box (cF (eP l7))),some (.box (cF (tZ sF))),some (.acc 49 (aZ (ab.take i)))]⟩) (fun(i:Nat)=> ab.length-i) (0) ?_ (aw [some 0,some 1,some 2,some 3] ?_ ?_ rfl rfl) ?_
 rotate_left
 ·exact sC
 ·refine sA ?_
  all_goals(((repeat' apply ar)<;>rfl))
 rotate_left
 ·omega
 ·rintro i hi
  have htl:(ab.take i).length≤6:=by rw[List.length_take];omega
  rcases aa (i<ab.length) with h1|h1
  ·have ht:=AX (hG.wf _ (ak h1))
   have es:ab.take (i+1)=ab.take i++[ab[i]]:=by
    rw[List.take_add_one,List.getElem?_eq_getElem h1];rfl
   have hsn:aZ (ab.take (i+1))=aZ (ab.take i)++[nO ab[i]]:=by rw[es,aZ,List.map_append];rfl
   simp -implicitDefEqProofs only[go_sem,h1]
   refine bQ [] (Dr ab[i].atom (by omega)) ?_ ?_<;>simp -implicitDefEqProofs only[go_sem,h1]
   refine sQ ?_
   refine⟨i+1,?_,sL,aw [some 0,some 1,some 2,some 4] ?_ ?_ rfl rfl⟩
   rotate_left
   ·exact sC
   ·refine sA ?_
    all_goals(exact hsn.symm)
   exact h1
  ·have et:ab.take i=ab:=List.take_of_length_le (by omega)
   rw[et]
   simp -implicitDefEqProofs only[go_sem,h1]
   refine oC [] [3] (vt (e:=49) (args:=[av (dX s),.acc 0]) (iE.cons (Vw.same rfl) (iE.cons (Vw.acc rfl rfl) iE.nil)) rfl mf) ?_
   refine an ?_
   exact sC
end Go.Proofs.YtabembjmeobhoaaGreat
