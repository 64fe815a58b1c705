/-
  The walk of certificates. A step towards the exact laws.
-/
import Derived.Test.YtabembjmeobhoaaGreatKCN
set_option linter.unusedVariables false
set_option linter.unusedSimpArgs false
open Bool renaming and_eq_true→ai,true_and→aE,false_and→aK
open Classical renaming em→aa
open List renaming drop_eq_getElem_cons→ah,getElem_mem→ak,drop_of_length_le→al,mem_cons→ax,mem_append→aP,not_mem_nil→ba
open Option renaming isSome_none→bE
namespace Go.Proofs.YtabembjmeobhoaaGreat
open Go.Eng Go.Mod
open Int renaming reduceEq→Z1,reduceLT→Z2,reduceLE→Z3,reduceToNat→Z4
set_option maxRecDepth 100000
set_option maxHeartbeats 800000
theorem zF(s:dI)(ab:List bl):C E.P 14 [av (eu s),lv (aV ab)] [] (bD (bv (e6 s ab)) []):=by
 refine gS (nt:=38) (rs:=[.tmp 4]) hm Tryz.func14 fun hl he cq=>?_
 refine aC [] (oE s) ?_
 cases h1:fO s
 ·refine sA ?_
  refine an ?_
  refine sA ?_
  all_goals(simp[e6,h1];done)
 ·refine sA ?_
  rcases aa ((6:Int)<(ab.length:Int)) with h2|h2
  ·have h2':¬ab.length≤6:=by omega
   refine uB ?_
   refine an ?_
   refine sA ?_
   all_goals(simp[e6,h2'];done)
  ·have h2':ab.length≤6:=by omega
   refine uB ?_
   refine aM hm (fun(i:Nat)=> i≤ab.length∧ab.all (fun l=>fk s l.atom)=(ab.drop i).all (fun l=>fk s l.atom)) (fun(i:Nat)=> ⟨dH 38 .any [(1,lv (aV ab)),(2,.ptr 0 0),(15,lv (aV ab)),(16,iv ab.length),(17,iv i)],[some (.box (cF (eu s)))]⟩) (fun(i:Nat)=> ab.length-i) (0) ?_ (ar [some 0] ?_ ?_ rfl rfl) ?_
   rotate_left
   ·exact sC
   ·exact sC
   rotate_left
   ·simp
   ·rintro i ⟨hi,hg⟩
    rcases aa (i<ab.length) with h3|h3
    ·rw[ah h3,List.all_cons] at hg
     refine uC ?_
     refine aC [] (zS s ab[i].atom) ?_
     cases h4:fk s ab[i].atom
     ·rw[h4,aK] at hg
      refine sA ?_
      refine an ?_
      refine sA ?_
      all_goals(simp[e6,hg];done)
     ·rw[h4,aE] at hg
      refine sA ?_
      refine sQ ?_
      refine⟨i+1,?_,sL,ar [some 0] ?_ ?_ rfl rfl⟩
      rotate_left
      ·exact sC
      ·exact sC
      exact⟨by omega,hg⟩
    ·rw[al (by omega),List.all_nil] at hg
     have hw:∀l∈ab,cP l.atom=true:=by
      intro l hl
      have:=List.all_eq_true.1 hg l hl
      simp only[fk,ai] at this
      exact this.2.1
     refine uC ?_
     refine oC [] [1] (xo ab (by omega) hw) ?_
     rcases aa (((az ab).length:Int)≤24) with h5|h5
     ·have h5':(az ab).length≤24:=by omega
      refine uE ?_
      refine aC [] (tO s ab (by omega) hw) ?_
      refine an ?_
      refine sA ?_
      have e:decide (((numsOf s ab).length:Int)≤4)=decide ((numsOf s ab).length≤4):=decide_eq_decide.2 (by omega)
      simp[e6,h1,h2',hg,h5',e]
     ·have h5':¬ (az ab).length≤24:=by omega
      refine uE ?_
      refine an ?_
      refine sA ?_
      all_goals(simp[e6,h5'];done)
theorem Iw(s:dI)(nums:List Term)(hn4:nums.length≤4)(hnt:∀t∈nums,isTerm t=true)(c:Case)(ih:∀k∈c.kids,∀(ab:List bl)(bt:Nat),1≤bt→bt≤15→ab.length+(15-bt)≤30→(∀l∈ab,Fit nums l)→C E.P 24 [.agg [.d (.dC (eF s.syms)),.d (.dC (aN nums))],lv (aV ab),av (jJ k),iv bt] [] (bD (bv (ie s nums k ab bt)) []))
 (ab:List bl) (bt:Nat) (Jj:1≤bt) (hd:bt≤14) (hll:ab.length+(15-bt)≤30) (hf:∀l∈ab,Fit nums l) (k:c.kind=1) :
 C E.P 24 [.agg [.d (.dC (eF s.syms)),.d (.dC (aN nums))],lv (aV ab),av (jJ c),iv bt] [] (bD (bv (ie s nums c ab bt)) []):=by
 have hx:=rC s nums c ab bt
 rw[if_neg (by omega)] at hx
 have x1:¬ (14:Int)<(bt:Int):=by omega
 refine gS (nt:=169) (rs:=[.tmp 8]) hm Tryz.func24 fun hl he cq=>?_
 rw[if_pos k] at hx
 simp -implicitDefEqProofs only[go_sem,x1,k]
 refine bp [] (ID c) ?_ ?_<;>simp -implicitDefEqProofs only[go_sem,k]
 cases hb:bare c true true false false 0
 ·rw[hb,aK] at hx
  refine sA ?_
  refine an ?_
  refine sA ?_
  all_goals(simp[hx];done)
 ·rw[hb,aE] at hx
  refine sA ?_
  refine sQ ?_
  refine aC [] (fv c.n 0 ((ab.length:Int)-1)) ?_
  cases hw:within c.n 0 (ab.length-1)
  ·rw[hw,aK] at hx
   refine sA ?_
   refine an ?_
   refine sA ?_
   all_goals(simp[hx];done)
  ·have hw':=dk.1 hw
   have n0:0≤c.n:=hw'.1
   have lQ:c.n.toNat<ab.length:=by omega
   rw[hw,aE,List.getElem?_eq_getElem lQ] at hx
   simp -implicitDefEqProofs only[go_sem,n0,lQ]
   refine aC [] (vO ab (by omega)) ?_
   refine aC [] (wA s (a7 ab) c.sP) ?_
   refine iK ?_
   cases hq:ko s (a7 ab) c.sP with
   | none=>
     rw[hq] at hx
     simp only at hx
     simp -implicitDefEqProofs only[go_sem,bE]
     refine an ?_
     simp -implicitDefEqProofs only[go_sem]
     all_goals(simp[hx];done)
   | some q=>
     rw[hq] at hx
     simp only at hx
     refine uL ?_
     cases h6:ab[c.n.toNat].no
     ·rw[h6,aK] at hx
      simp -implicitDefEqProofs only[go_sem]
      refine an ?_
      refine sA ?_
      all_goals(simp[hx];done)
     ·rw[h6,aE] at hx
      rcases aa (ab[c.n.toNat].atom.kind=1) with h7|h7
      ·have k7:=eq_true h7
       have hc1:=ib q.A ab[c.n.toNat].atom.A
       have hc2:=ib q.B ab[c.n.toNat].atom.B
       simp only[k7,decide_true,aE] at hx
       simp -implicitDefEqProofs only[go_sem,k7]
       refine aC [] hc1 ?_
       rcases aa (q.A=ab[c.n.toNat].atom.A) with h8|h8
       ·have k8:=eq_true h8
        simp only[k8,decide_true,aE] at hx
        simp -implicitDefEqProofs only[go_sem,k8]
        refine aC [] hc2 ?_
        refine an ?_
        refine sA ?_
        all_goals(simp[hx];done)
       ·have k8:=eq_false h8
        simp only[k8,decide_false,aK] at hx
        simp -implicitDefEqProofs only[go_sem,k8]
        refine an ?_
        refine sA ?_
        all_goals(simp[hx];done)
      ·have k7:=eq_false h7
       simp only[k7,decide_false,aK] at hx
       simp -implicitDefEqProofs only[go_sem,k7]
       refine an ?_
       refine sA ?_
       all_goals(simp[hx];done)
theorem Ix(s:dI)(nums:List Term)(hn4:nums.length≤4)(hnt:∀t∈nums,isTerm t=true)(c:Case)(ih:∀k∈c.kids,∀(ab:List bl)(bt:Nat),1≤bt→bt≤15→ab.length+(15-bt)≤30→(∀l∈ab,Fit nums l)→C E.P 24 [.agg [.d (.dC (eF s.syms)),.d (.dC (aN nums))],lv (aV ab),av (jJ k),iv bt] [] (bD (bv (ie s nums k ab bt)) []))
 (ab:List bl) (bt:Nat) (Jj:1≤bt) (hd:bt≤14) (hll:ab.length+(15-bt)≤30) (hf:∀l∈ab,Fit nums l) (k:c.kind=2) :
 C E.P 24 [.agg [.d (.dC (eF s.syms)),.d (.dC (aN nums))],lv (aV ab),av (jJ c),iv bt] [] (bD (bv (ie s nums c ab bt)) []):=by
 have hx:=rC s nums c ab bt
 rw[if_neg (by omega)] at hx
 have x1:¬ (14:Int)<(bt:Int):=by omega
 refine gS (nt:=169) (rs:=[.tmp 8]) hm Tryz.func24 fun hl he cq=>?_
 rw[if_neg (by omega),if_pos k] at hx
 simp -implicitDefEqProofs only[go_sem,Z1,x1,k]
 refine bp [] (IH c) ?_ ?_<;>simp -implicitDefEqProofs only[go_sem,k]
 cases hb:bare c false false true false 0
 ·rw[hb,aK] at hx
  refine sA ?_
  refine iK ?_
  refine an ?_
  refine sA ?_
  all_goals(simp[hx];done)
 ·rw[hb,aE] at hx
  refine sA ?_
  refine aC [] (zh nums ab hn4 (by omega) hf) ?_
  refine aC [] (BQ (dX nums ab) c.times) ?_
  refine iK ?_
  refine an ?_
  refine sA ?_
  all_goals(simp[hx];done)
theorem Eo(s:dI)(nums:List Term)(hn4:nums.length≤4)(hnt:∀t∈nums,isTerm t=true)(c:Case)(ih:∀k∈c.kids,∀(ab:List bl)(bt:Nat),1≤bt→bt≤15→ab.length+(15-bt)≤30→(∀l∈ab,Fit nums l)→C E.P 24 [.agg [.d (.dC (eF s.syms)),.d (.dC (aN nums))],lv (aV ab),av (jJ k),iv bt] [] (bD (bv (ie s nums k ab bt)) []))
 (ab:List bl) (bt:Nat) (Jj:1≤bt) (hd:bt≤14) (hll:ab.length+(15-bt)≤30) (hf:∀l∈ab,Fit nums l) (k:c.kind=3) :
 C E.P 24 [.agg [.d (.dC (eF s.syms)),.d (.dC (aN nums))],lv (aV ab),av (jJ c),iv bt] [] (bD (bv (ie s nums c ab bt)) []):=by
 have hx:=rC s nums c ab bt
 rw[if_neg (by omega)] at hx
 have x1:¬ (14:Int)<(bt:Int):=by omega
 refine gS (nt:=169) (rs:=[.tmp 8]) hm Tryz.func24 fun hl he cq=>?_
 rw[if_neg (by omega),if_neg (by omega),if_pos k] at hx
 simp -implicitDefEqProofs only[go_sem,Z1,x1,k]
 refine bp [] (IZ c) ?_ ?_<;>simp -implicitDefEqProofs only[go_sem,k]
 cases hb:bare c false true false false 1
 ·rw[hb,aK] at hx
  refine sA ?_
  refine an ?_
  refine sA ?_
  all_goals(simp[hx];done)
 ·have z':c.kids.length=1:=by
   simp only[bare,ai,decide_eq_true_eq] at hb
   exact hb.2.2.2.2
  have z0:0<c.kids.length:=by omega
  rw[hb,aE] at hx
  refine sA ?_
  refine aC [] (vO ab (by omega)) ?_
  refine aC [] (wA s (a7 ab) c.sP) ?_
  refine iK ?_
  cases hq:ko s (a7 ab) c.sP with
  | none=>
    rw[hq] at hx
    simp only at hx
    simp -implicitDefEqProofs only[go_sem,bE]
    refine iK ?_
    refine an ?_
    simp -implicitDefEqProofs only[go_sem]
    all_goals(simp[hx];done)
  | some q=>
    rw[hq] at hx
    simp only at hx
    refine uL ?_
    refine aC [] (zg s nums q.A q.B) ?_
    cases h8:Mod.differ nums q.A q.B
    ·rw[h8,aK] at hx
     simp -implicitDefEqProofs only[go_sem]
     refine iK ?_
     refine an ?_
     refine sA ?_
     all_goals(simp[hx];done)
    ·have hdf:=pV.1 h8
     have hi:=ih c.kids[0] (ak z0) (ab++[gx q.A q.B]) (bt+1) (by omega) (by omega) (by simp;omega) (fun l hl=>by
      rcases aP.1 hl with hl|hl
      ·exact hf l hl
      ·simp only[ax,ba,or_false] at hl
       rw[hl]
       exact Gr hdf.1 hdf.2.1 (hnt _ hdf.1) (hnt _ hdf.2.1))
     rw[h8,aE,SQ s nums c.kids[0] c.kids _ _ (aao z' z0)] at hx
     refine sA ?_
     refine aC [] (vJ q.A q.B) ?_
     refine bp [] (vZ ab (gx q.A q.B) (by omega)) ?_ ?_<;>simp -implicitDefEqProofs only[go_sem,z0]
     refine sQ ?_
     refine aC [] hi ?_
     refine iK ?_
     refine an ?_
     refine sA ?_
     all_goals(simp[hx];done)
theorem KP{s:dI}{nums:List Term}{cs:List Case}{ls:List (List bl)}{i:Nat}(h:i<cs.length)(h':i<ls.length)(d:Nat):iI s nums (cs.drop i) (ls.drop i) d=(ie s nums cs[i] ls[i] d&&iI s nums (cs.drop (i+1)) (ls.drop (i+1)) d):=by
 rw[ah h,ah h',iI]
theorem F9(s:dI)(nums:List Term)(hn4:nums.length≤4)(hnt:∀t∈nums,isTerm t=true)(c:Case)(ih:∀k∈c.kids,∀(ab:List bl)(bt:Nat),1≤bt→bt≤15→ab.length+(15-bt)≤30→(∀l∈ab,Fit nums l)→C E.P 24 [.agg [.d (.dC (eF s.syms)),.d (.dC (aN nums))],lv (aV ab),av (jJ k),iv bt] [] (bD (bv (ie s nums k ab bt)) []))
 (ab:List bl) (bt:Nat) (Jj:1≤bt) (hd:bt≤14) (hll:ab.length+(15-bt)≤30) (hf:∀l∈ab,Fit nums l) (k:c.kind=4) :
 C E.P 24 [.agg [.d (.dC (eF s.syms)),.d (.dC (aN nums))],lv (aV ab),av (jJ c),iv bt] [] (bD (bv (ie s nums c ab bt)) []):=by
 have hx:=rC s nums c ab bt
 rw[if_neg (by omega)] at hx
 have x1:¬ (14:Int)<(bt:Int):=by omega
 refine gS (nt:=169) (rs:=[.tmp 8]) hm Tryz.func24 fun hl he cq=>?_
 rw[if_neg (by omega),if_neg (by omega),if_neg (by omega),if_pos k] at hx
 simp -implicitDefEqProofs only[go_sem,Z1,x1,k]
 refine bp [] (I1 c) ?_ ?_<;>simp -implicitDefEqProofs only[go_sem,k]
 cases hb:bare c false false false true 3
 ·rw[hb,aK] at hx
  refine sA ?_
  refine an ?_
  refine sA ?_
  all_goals(simp[hx];done)
 ·have z':c.kids.length=3:=by
   simp only[bare,ai,decide_eq_true_eq] at hb
   exact hb.2.2.2.2
  rw[hb,aE] at hx
  refine sA ?_
  refine aC [] (zg s nums c.A c.B) ?_
  cases h8:Mod.differ nums c.A c.B
  ·rw[h8,aK] at hx
   refine sA ?_
   refine an ?_
   refine sA ?_
   all_goals(simp[hx];done)
  ·have hdf:=pV.1 h8
   have tA:=hnt _ hdf.1
   have tB:=hnt _ hdf.2.1
   rw[h8,aE] at hx
   have hfp:∀x∈fm c.A c.B,Fit nums x:=by
    intro x hx
    simp only[fm,ax,ba,or_false] at hx
    rcases hx with rfl|rfl|rfl
    ·exact Gr hdf.1 hdf.2.1 tA tB
    ·exact xm hdf.1 hdf.2.1 tA tB hdf.2.2
    ·exact xm hdf.2.1 hdf.1 tB tA (Ne.symm hdf.2.2)
   have hc:=y7 c.A c.B tA tB
   have hp3:(fm c.A c.B).length=3:=rfl
   generalize fm c.A c.B=ps at *
   refine sA ?_
   refine aC [] hc ?_
   refine aM hm (fun(i:Nat)=> i≤ps.length∧ie s nums c ab bt=iI s nums (c.kids.drop i) ((ps.map fun l=>ab++[l]).drop i) (bt+1)) (fun(i:Nat)=> ⟨dH 169 .any [(1,lv (aV ab)),(3,iv bt),(4,.ptr 0 0),(6,.ptr 1 0),(148,lv (aV ps)),(149,iv ps.length),(150,iv i)],[some (.box [.d (.dC (eF s.syms)),.d (.dC (aN nums))]),some (.box (cF (jJ c)))]⟩) (fun(i:Nat)=> ps.length-i) (0) ?_ (ar [some 0,some 1] ?_ ?_ rfl rfl) ?_
   rotate_left
   ·exact sC
   ·refine sA ?_
    all_goals(simp[*];done)
   rotate_left
   ·simp[hx]
   ·rintro i ⟨hi,hg⟩
    rcases aa (i<ps.length) with g1|g1
    ·have g2:i<c.kids.length:=by omega
     have g3:i<(ps.map fun l=>ab++[l]).length:=by simp;omega
     rw[KP g2 g3] at hg
     simp only[List.getElem_map] at hg
     have hi1:=ih c.kids[i] (ak g2) (ab++[ps[i]]) (bt+1) (by omega) (by omega) (by simp;omega) (fun l hl=>by
      rcases aP.1 hl with hl|hl
      ·exact hf l hl
      ·simp only[ax,ba,or_false] at hl
       rw[hl]
       exact hfp _ (ak g1))
     refine uI ?_
     refine bp [] (vZ ab ps[i] (by omega)) ?_ ?_<;>simp -implicitDefEqProofs only[go_sem,g2]
     refine sQ ?_
     refine aC [] hi1 ?_
     refine iK ?_
     cases q1:ie s nums c.kids[i] (ab++[ps[i]]) (bt+1)
     ·rw[q1,aK] at hg
      refine sA ?_
      refine an ?_
      refine sA ?_
      all_goals(simp[hg];done)
     ·rw[q1,aE] at hg
      refine sA ?_
      refine sQ ?_
      refine⟨i+1,?_,sL,ar [some 0,some 1] ?_ ?_ rfl rfl⟩
      rotate_left
      ·exact sC
      ·exact sC
      exact⟨by omega,hg⟩
    ·have e0:c.kids.drop i=[]:=al (by omega)
     have hg:ie s nums c ab bt=true:=by rw[hg,e0];simp[iI]
     refine uI ?_
     refine an ?_
     refine sA ?_
     all_goals(simp[hg];done)
theorem QS(s:dI)(nums:List Term)(hn4:nums.length≤4)(hnt:∀t∈nums,isTerm t=true)(c:Case)(ih:∀k∈c.kids,∀(ab:List bl)(bt:Nat),1≤bt→bt≤15→ab.length+(15-bt)≤30→(∀l∈ab,Fit nums l)→C E.P 24 [.agg [.d (.dC (eF s.syms)),.d (.dC (aN nums))],lv (aV ab),av (jJ k),iv bt] [] (bD (bv (ie s nums k ab bt)) []))
 (ab:List bl) (bt:Nat) (Jj:1≤bt) (hd:bt≤15) (hll:ab.length+(15-bt)≤30) (hf:∀l∈ab,Fit nums l) :
 C E.P 24 [.agg [.d (.dC (eF s.syms)),.d (.dC (aN nums))],lv (aV ab),av (jJ c),iv bt] [] (bD (bv (ie s nums c ab bt)) []):=by
 rcases aa (bt=15) with h15|h15
 ·have hx:=rC s nums c ab bt
  rw[if_pos (by omega)] at hx
  have x1:(14:Int)<(bt:Int):=by omega
  refine gS (nt:=169) (rs:=[.tmp 8]) hm Tryz.func24 fun hl he cq=>?_
  simp -implicitDefEqProofs only[go_sem,x1]
  refine an ?_
  refine sA ?_
  all_goals(simp[hx];done)
 ·have hd':bt≤14:=by omega
  rcases aa (c.kind=1) with k1|k1
  ·exact Iw s nums hn4 hnt c ih ab bt Jj hd' hll hf k1
  rcases aa (c.kind=2) with k2|k2
  ·exact Ix s nums hn4 hnt c ih ab bt Jj hd' hll hf k2
  rcases aa (c.kind=3) with k3|k3
  ·exact Eo s nums hn4 hnt c ih ab bt Jj hd' hll hf k3
  rcases aa (c.kind=4) with k4|k4
  ·exact F9 s nums hn4 hnt c ih ab bt Jj hd' hll hf k4
  ·have hx:=rC s nums c ab bt
   rw[if_neg (by omega),if_neg k1,if_neg k2,if_neg k3,if_neg k4] at hx
   have x1:¬ (14:Int)<(bt:Int):=by omega
   refine gS (nt:=169) (rs:=[.tmp 8]) hm Tryz.func24 fun hl he cq=>?_
   simp -implicitDefEqProofs only[go_sem,x1,k1,k2,k3,k4]
   refine an ?_
   refine sA ?_
   all_goals(simp[hx];done)
theorem SX(s:dI)(nums:List Term)(hn4:nums.length≤4)(hnt:∀t∈nums,isTerm t=true):∀(c:Case)(ab:List bl)(bt:Nat),1≤bt→bt≤15→ab.length+(15-bt)≤30→(∀l∈ab,Fit nums l)→C E.P 24 [.agg [.d (.dC (eF s.syms)),.d (.dC (aN nums))],lv (aV ab),av (jJ c),iv bt] [] (bD (bv (ie s nums c ab bt)) []):=
 Case.ind fun k n w ts a b ks ih ab bt h1 h2 h3 h4=>QS s nums hn4 hnt (.mk k n w ts a b ks) ih ab bt h1 h2 h3 h4
theorem IL(s:dI)(ab:List bl)(c:Case):C E.P 11 [av (eu s),lv (aV ab),av (jJ c)] [] (bD (bv (xr s ab c)) []):=by
 refine gS (nt:=20) (rs:=[.tmp 6]) hm Tryz.func11 fun hl he cq=>?_
 refine aC [] (zF s ab) ?_
 cases h:e6 s ab
 ·refine sA ?_
  refine iK ?_
  refine an ?_
  refine sA ?_
  all_goals(simp[xr,h];done)
 ·obtain⟨hf,ht,h4,h6,hs,hw,htt,h24⟩:=rN h
  have hc:=SX s (numsOf s ab) h4 ht c ab 1 (by omega) (by omega) (by omega) hf
  refine sA ?_
  refine aC [] (tO s ab (by omega) hw) ?_
  refine bp [] hc ?_ ?_<;>simp -implicitDefEqProofs only[go_sem,xX]
  refine iK ?_
  refine an ?_
  refine sA ?_
  rw[xr,h]
  simp
end Go.Proofs.YtabembjmeobhoaaGreat
