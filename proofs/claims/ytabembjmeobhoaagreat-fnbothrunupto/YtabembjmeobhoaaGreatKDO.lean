/-
  The walk of certificates. A step towards the exact laws.
-/
import Derived.Test.YtabembjmeobhoaaGreatKDN
set_option linter.unusedVariables false
set_option linter.unusedSimpArgs false
open Bool renaming and_eq_true→al,true_and→aB,false_and→aK
open Classical renaming em→aa
open List renaming drop_eq_getElem_cons→ae,drop_of_length_le→ai,getElem_mem→ak,mem_cons→ay,mem_append→aP,not_mem_nil→ba
open Option renaming isSome_none→bE
namespace Go.Proofs.YtabembjmeobhoaaGreat
open Go.Eng Go.Mod
open Int renaming reduceEq→Z1,reduceLT→Z2,reduceLE→Z3,reduceToNat→Z4
set_option maxRecDepth 100000
set_option maxHeartbeats 800000
theorem tQ(s:dK)(ab:List bm):C E.P 14 [av (dV s),lv (aV ab)] [] (bz (bv (fe s ab)) []):=by
 refine gS (nt:=38) (rs:=[.tmp 4]) hm Tryz.func14 fun hl he cq=>?_
 refine aC [] (ou s) ?_
 cases h1:fI s
 ·refine sA ?_
  refine an ?_
  refine sA ?_
  all_goals(simp[fe,h1];done)
 ·refine sA ?_
  rcases aa ((6:Int)<(ab.length:Int)) with h2|h2
  ·have h2':¬ab.length≤6:=by omega
   refine uB ?_
   refine an ?_
   refine sA ?_
   all_goals(simp[fe,h2'];done)
  ·have h2':ab.length≤6:=by omega
   refine uB ?_
   refine aL hm (fun(i:Nat)=> i≤ab.length∧ab.all (fun l=>fq s l.atom)=(ab.drop i).all (fun l=>fq s l.atom)) (fun(i:Nat)=> ⟨dx 38 .any [(1,lv (aV ab)),(2,.ptr 0 0),(15,lv (aV ab)),(16,iv ab.length),(17,iv i)],[some (.box (cE (dV s)))]⟩) (fun(i:Nat)=> ab.length-i) (0) ?_ (ar [some 0] ?_ ?_ rfl rfl) ?_
   rotate_left
   ·exact sC
   ·exact sC
   rotate_left
   ·simp
   ·rintro i ⟨hi,hg⟩
    rcases aa (i<ab.length) with h3|h3
    ·rw[ae h3,List.all_cons] at hg
     refine uC ?_
     refine aC [] (zc s ab[i].atom) ?_
     cases h4:fq s ab[i].atom
     ·rw[h4,aK] at hg
      refine sA ?_
      refine an ?_
      refine sA ?_
      all_goals(simp[fe,hg];done)
     ·rw[h4,aB] at hg
      refine sA ?_
      refine sQ ?_
      refine⟨i+1,?_,sL,ar [some 0] ?_ ?_ rfl rfl⟩
      rotate_left
      ·exact sC
      ·exact sC
      exact⟨by omega,hg⟩
    ·rw[ai (by omega),List.all_nil] at hg
     have hw:∀l∈ab,cQ l.atom=true:=by
      intro l hl
      have:=List.all_eq_true.1 hg l hl
      simp only[fq,al] at this
      exact this.2.1
     refine uC ?_
     refine oC [] [1] (xS ab (by omega) hw) ?_
     rcases aa (((aw ab).length:Int)≤24) with h5|h5
     ·have h5':(aw ab).length≤24:=by omega
      refine uE ?_
      refine aC [] (tS s ab (by omega) hw) ?_
      refine an ?_
      refine sA ?_
      have e:decide (((numsOf s ab).length:Int)≤4)=decide ((numsOf s ab).length≤4):=decide_eq_decide.2 (by omega)
      simp[fe,h1,h2',hg,h5',e]
     ·have h5':¬ (aw ab).length≤24:=by omega
      refine uE ?_
      refine an ?_
      refine sA ?_
      all_goals(simp[fe,h5'];done)
theorem H8(s:dK)(nums:List Term)(hn4:nums.length≤4)(hnt:∀t∈nums,isTerm t=true)(c:Case)(ih:∀k∈c.kids,∀(ab:List bm)(bD:Nat),1≤bD→bD≤15→ab.length+(15-bD)≤30→(∀l∈ab,Fit nums l)→C E.P 24 [.agg [.d (.dt (dY s.syms)),.d (.dt (aN nums))],lv (aV ab),av (gH k),iv bD] [] (bz (bv (iP s nums k ab bD)) []))
 (ab:List bm) (bD:Nat) (JX:1≤bD) (hd:bD≤14) (hll:ab.length+(15-bD)≤30) (hf:∀l∈ab,Fit nums l) (k:c.kind=1) :
 C E.P 24 [.agg [.d (.dt (dY s.syms)),.d (.dt (aN nums))],lv (aV ab),av (gH c),iv bD] [] (bz (bv (iP s nums c ab bD)) []):=by
 have hx:=rz s nums c ab bD
 rw[if_neg (by omega)] at hx
 have x1:¬ (14:Int)<(bD:Int):=by omega
 refine gS (nt:=169) (rs:=[.tmp 8]) hm Tryz.func24 fun hl he cq=>?_
 rw[if_pos k] at hx
 simp -implicitDefEqProofs only[go_sem,x1,k]
 refine bw [] (Ig c) ?_ ?_<;>simp -implicitDefEqProofs only[go_sem,k]
 cases hb:bare c true true false false 0
 ·rw[hb,aK] at hx
  refine sA ?_
  refine an ?_
  refine sA ?_
  all_goals(simp[hx];done)
 ·rw[hb,aB] at hx
  refine sA ?_
  refine sQ ?_
  refine aC [] (fj c.n 0 ((ab.length:Int)-1)) ?_
  cases hw:within c.n 0 (ab.length-1)
  ·rw[hw,aK] at hx
   refine sA ?_
   refine an ?_
   refine sA ?_
   all_goals(simp[hx];done)
  ·have hw':=dj.1 hw
   have n0:0≤c.n:=hw'.1
   have lL:c.n.toNat<ab.length:=by omega
   rw[hw,aB,List.getElem?_eq_getElem lL] at hx
   simp -implicitDefEqProofs only[go_sem,n0,lL]
   refine aC [] (vX ab (by omega)) ?_
   refine aC [] (wy s (aZ ab) c.qk) ?_
   refine iK ?_
   cases hq:lN s (aZ ab) c.qk with
   | none=>
     rw[hq] at hx
     simp only at hx
     simp -implicitDefEqProofs only[go_sem,bE]
     refine an ?_
     simp -implicitDefEqProofs only[go_sem]
     all_goals(simp[hx];done)
   | some q=>
     rw[hq] at hx
     simp only at hx
     refine uL ?_
     cases h6:ab[c.n.toNat].no
     ·rw[h6,aK] at hx
      simp -implicitDefEqProofs only[go_sem]
      refine an ?_
      refine sA ?_
      all_goals(simp[hx];done)
     ·rw[h6,aB] at hx
      rcases aa (ab[c.n.toNat].atom.kind=1) with h7|h7
      ·have k7:=eq_true h7
       have hc1:=fG q.A ab[c.n.toNat].atom.A
       have hc2:=fG q.B ab[c.n.toNat].atom.B
       simp only[k7,decide_true,aB] at hx
       simp -implicitDefEqProofs only[go_sem,k7]
       refine aC [] hc1 ?_
       rcases aa (q.A=ab[c.n.toNat].atom.A) with h8|h8
       ·have k8:=eq_true h8
        simp only[k8,decide_true,aB] at hx
        simp -implicitDefEqProofs only[go_sem,k8]
        refine aC [] hc2 ?_
        refine an ?_
        refine sA ?_
        all_goals(simp[hx];done)
       ·have k8:=eq_false h8
        simp only[k8,decide_false,aK] at hx
        simp -implicitDefEqProofs only[go_sem,k8]
        refine an ?_
        refine sA ?_
        all_goals(simp[hx];done)
      ·have k7:=eq_false h7
       simp only[k7,decide_false,aK] at hx
       simp -implicitDefEqProofs only[go_sem,k7]
       refine an ?_
       refine sA ?_
       all_goals(simp[hx];done)
theorem II(s:dK)(nums:List Term)(hn4:nums.length≤4)(hnt:∀t∈nums,isTerm t=true)(c:Case)(ih:∀k∈c.kids,∀(ab:List bm)(bD:Nat),1≤bD→bD≤15→ab.length+(15-bD)≤30→(∀l∈ab,Fit nums l)→C E.P 24 [.agg [.d (.dt (dY s.syms)),.d (.dt (aN nums))],lv (aV ab),av (gH k),iv bD] [] (bz (bv (iP s nums k ab bD)) []))
 (ab:List bm) (bD:Nat) (JX:1≤bD) (hd:bD≤14) (hll:ab.length+(15-bD)≤30) (hf:∀l∈ab,Fit nums l) (k:c.kind=2) :
 C E.P 24 [.agg [.d (.dt (dY s.syms)),.d (.dt (aN nums))],lv (aV ab),av (gH c),iv bD] [] (bz (bv (iP s nums c ab bD)) []):=by
 have hx:=rz s nums c ab bD
 rw[if_neg (by omega)] at hx
 have x1:¬ (14:Int)<(bD:Int):=by omega
 refine gS (nt:=169) (rs:=[.tmp 8]) hm Tryz.func24 fun hl he cq=>?_
 rw[if_neg (by omega),if_pos k] at hx
 simp -implicitDefEqProofs only[go_sem,Z1,x1,k]
 refine bw [] (Im c) ?_ ?_<;>simp -implicitDefEqProofs only[go_sem,k]
 cases hb:bare c false false true false 0
 ·rw[hb,aK] at hx
  refine sA ?_
  refine iK ?_
  refine an ?_
  refine sA ?_
  all_goals(simp[hx];done)
 ·rw[hb,aB] at hx
  refine sA ?_
  refine aC [] (zG nums ab hn4 (by omega) hf) ?_
  refine aC [] (BZ (dF nums ab) c.times) ?_
  refine iK ?_
  refine an ?_
  refine sA ?_
  all_goals(simp[hx];done)
theorem EG(s:dK)(nums:List Term)(hn4:nums.length≤4)(hnt:∀t∈nums,isTerm t=true)(c:Case)(ih:∀k∈c.kids,∀(ab:List bm)(bD:Nat),1≤bD→bD≤15→ab.length+(15-bD)≤30→(∀l∈ab,Fit nums l)→C E.P 24 [.agg [.d (.dt (dY s.syms)),.d (.dt (aN nums))],lv (aV ab),av (gH k),iv bD] [] (bz (bv (iP s nums k ab bD)) []))
 (ab:List bm) (bD:Nat) (JX:1≤bD) (hd:bD≤14) (hll:ab.length+(15-bD)≤30) (hf:∀l∈ab,Fit nums l) (k:c.kind=3) :
 C E.P 24 [.agg [.d (.dt (dY s.syms)),.d (.dt (aN nums))],lv (aV ab),av (gH c),iv bD] [] (bz (bv (iP s nums c ab bD)) []):=by
 have hx:=rz s nums c ab bD
 rw[if_neg (by omega)] at hx
 have x1:¬ (14:Int)<(bD:Int):=by omega
 refine gS (nt:=169) (rs:=[.tmp 8]) hm Tryz.func24 fun hl he cq=>?_
 rw[if_neg (by omega),if_neg (by omega),if_pos k] at hx
 simp -implicitDefEqProofs only[go_sem,Z1,x1,k]
 refine bw [] (IW c) ?_ ?_<;>simp -implicitDefEqProofs only[go_sem,k]
 cases hb:bare c false true false false 1
 ·rw[hb,aK] at hx
  refine sA ?_
  refine an ?_
  refine sA ?_
  all_goals(simp[hx];done)
 ·have z':c.kids.length=1:=by
   simp only[bare,al,decide_eq_true_eq] at hb
   exact hb.2.2.2.2
  have z0:0<c.kids.length:=by omega
  rw[hb,aB] at hx
  refine sA ?_
  refine aC [] (vX ab (by omega)) ?_
  refine aC [] (wy s (aZ ab) c.qk) ?_
  refine iK ?_
  cases hq:lN s (aZ ab) c.qk with
  | none=>
    rw[hq] at hx
    simp only at hx
    simp -implicitDefEqProofs only[go_sem,bE]
    refine iK ?_
    refine an ?_
    simp -implicitDefEqProofs only[go_sem]
    all_goals(simp[hx];done)
  | some q=>
    rw[hq] at hx
    simp only at hx
    refine uL ?_
    refine aC [] (yW s nums q.A q.B) ?_
    cases h8:Mod.differ nums q.A q.B
    ·rw[h8,aK] at hx
     simp -implicitDefEqProofs only[go_sem]
     refine iK ?_
     refine an ?_
     refine sA ?_
     all_goals(simp[hx];done)
    ·have hdf:=vm.1 h8
     have hi:=ih c.kids[0] (ak z0) (ab++[hU q.A q.B]) (bD+1) (by omega) (by omega) (by simp;omega) (fun l hl=>by
      rcases aP.1 hl with hl|hl
      ·exact hf l hl
      ·simp only[ay,ba,or_false] at hl
       rw[hl]
       exact PS hdf.1 hdf.2.1 (hnt _ hdf.1) (hnt _ hdf.2.1))
     rw[h8,aB,Th s nums c.kids[0] c.kids _ _ (aao z' z0)] at hx
     refine sA ?_
     refine aC [] (vy q.A q.B) ?_
     refine bw [] (vJ ab (hU q.A q.B) (by omega)) ?_ ?_<;>simp -implicitDefEqProofs only[go_sem,z0]
     refine sQ ?_
     refine aC [] hi ?_
     refine iK ?_
     refine an ?_
     refine sA ?_
     all_goals(simp[hx];done)
theorem Mc{s:dK}{nums:List Term}{cs:List Case}{ls:List (List bm)}{i:Nat}(h:i<cs.length)(h':i<ls.length)(d:Nat):jl s nums (cs.drop i) (ls.drop i) d=(iP s nums cs[i] ls[i] d&&jl s nums (cs.drop (i+1)) (ls.drop (i+1)) d):=by
 rw[ae h,ae h',jl]
theorem F9(s:dK)(nums:List Term)(hn4:nums.length≤4)(hnt:∀t∈nums,isTerm t=true)(c:Case)(ih:∀k∈c.kids,∀(ab:List bm)(bD:Nat),1≤bD→bD≤15→ab.length+(15-bD)≤30→(∀l∈ab,Fit nums l)→C E.P 24 [.agg [.d (.dt (dY s.syms)),.d (.dt (aN nums))],lv (aV ab),av (gH k),iv bD] [] (bz (bv (iP s nums k ab bD)) []))
 (ab:List bm) (bD:Nat) (JX:1≤bD) (hd:bD≤14) (hll:ab.length+(15-bD)≤30) (hf:∀l∈ab,Fit nums l) (k:c.kind=4) :
 C E.P 24 [.agg [.d (.dt (dY s.syms)),.d (.dt (aN nums))],lv (aV ab),av (gH c),iv bD] [] (bz (bv (iP s nums c ab bD)) []):=by
 have hx:=rz s nums c ab bD
 rw[if_neg (by omega)] at hx
 have x1:¬ (14:Int)<(bD:Int):=by omega
 refine gS (nt:=169) (rs:=[.tmp 8]) hm Tryz.func24 fun hl he cq=>?_
 rw[if_neg (by omega),if_neg (by omega),if_neg (by omega),if_pos k] at hx
 simp -implicitDefEqProofs only[go_sem,Z1,x1,k]
 refine bw [] (ID c) ?_ ?_<;>simp -implicitDefEqProofs only[go_sem,k]
 cases hb:bare c false false false true 3
 ·rw[hb,aK] at hx
  refine sA ?_
  refine an ?_
  refine sA ?_
  all_goals(simp[hx];done)
 ·have z':c.kids.length=3:=by
   simp only[bare,al,decide_eq_true_eq] at hb
   exact hb.2.2.2.2
  rw[hb,aB] at hx
  refine sA ?_
  refine aC [] (yW s nums c.A c.B) ?_
  cases h8:Mod.differ nums c.A c.B
  ·rw[h8,aK] at hx
   refine sA ?_
   refine an ?_
   refine sA ?_
   all_goals(simp[hx];done)
  ·have hdf:=vm.1 h8
   have tA:=hnt _ hdf.1
   have tB:=hnt _ hdf.2.1
   rw[h8,aB] at hx
   have hfp:∀x∈fS c.A c.B,Fit nums x:=by
    intro x hx
    simp only[fS,ay,ba,or_false] at hx
    rcases hx with rfl|rfl|rfl
    ·exact PS hdf.1 hdf.2.1 tA tB
    ·exact GP hdf.1 hdf.2.1 tA tB hdf.2.2
    ·exact GP hdf.2.1 hdf.1 tB tA (Ne.symm hdf.2.2)
   have hc:=zm c.A c.B tA tB
   have hp3:(fS c.A c.B).length=3:=rfl
   generalize fS c.A c.B=ps at *
   refine sA ?_
   refine aC [] hc ?_
   refine aL hm (fun(i:Nat)=> i≤ps.length∧iP s nums c ab bD=jl s nums (c.kids.drop i) ((ps.map fun l=>ab++[l]).drop i) (bD+1)) (fun(i:Nat)=> ⟨dx 169 .any [(1,lv (aV ab)),(3,iv bD),(4,.ptr 0 0),(6,.ptr 1 0),(148,lv (aV ps)),(149,iv ps.length),(150,iv i)],[some (.box [.d (.dt (dY s.syms)),.d (.dt (aN nums))]),some (.box (cE (gH c)))]⟩) (fun(i:Nat)=> ps.length-i) (0) ?_ (ar [some 0,some 1] ?_ ?_ rfl rfl) ?_
   rotate_left
   ·exact sC
   ·refine sA ?_
    all_goals(simp[*];done)
   rotate_left
   ·simp[hx]
   ·rintro i ⟨hi,hg⟩
    rcases aa (i<ps.length) with g1|g1
    ·have g2:i<c.kids.length:=by omega
     have g3:i<(ps.map fun l=>ab++[l]).length:=by simp;omega
     rw[Mc g2 g3] at hg
     simp only[List.getElem_map] at hg
     have hi1:=ih c.kids[i] (ak g2) (ab++[ps[i]]) (bD+1) (by omega) (by omega) (by simp;omega) (fun l hl=>by
      rcases aP.1 hl with hl|hl
      ·exact hf l hl
      ·simp only[ay,ba,or_false] at hl
       rw[hl]
       exact hfp _ (ak g1))
     refine uI ?_
     refine bw [] (vJ ab ps[i] (by omega)) ?_ ?_<;>simp -implicitDefEqProofs only[go_sem,g2]
     refine sQ ?_
     refine aC [] hi1 ?_
     refine iK ?_
     cases q1:iP s nums c.kids[i] (ab++[ps[i]]) (bD+1)
     ·rw[q1,aK] at hg
      refine sA ?_
      refine an ?_
      refine sA ?_
      all_goals(simp[hg];done)
     ·rw[q1,aB] at hg
      refine sA ?_
      refine sQ ?_
      refine⟨i+1,?_,sL,ar [some 0,some 1] ?_ ?_ rfl rfl⟩
      rotate_left
      ·exact sC
      ·exact sC
      exact⟨by omega,hg⟩
    ·have e0:c.kids.drop i=[]:=ai (by omega)
     have hg:iP s nums c ab bD=true:=by rw[hg,e0];simp[jl]
     refine uI ?_
     refine an ?_
     refine sA ?_
     all_goals(simp[hg];done)
theorem Py(s:dK)(nums:List Term)(hn4:nums.length≤4)(hnt:∀t∈nums,isTerm t=true)(c:Case)(ih:∀k∈c.kids,∀(ab:List bm)(bD:Nat),1≤bD→bD≤15→ab.length+(15-bD)≤30→(∀l∈ab,Fit nums l)→C E.P 24 [.agg [.d (.dt (dY s.syms)),.d (.dt (aN nums))],lv (aV ab),av (gH k),iv bD] [] (bz (bv (iP s nums k ab bD)) []))
 (ab:List bm) (bD:Nat) (JX:1≤bD) (hd:bD≤15) (hll:ab.length+(15-bD)≤30) (hf:∀l∈ab,Fit nums l) :
 C E.P 24 [.agg [.d (.dt (dY s.syms)),.d (.dt (aN nums))],lv (aV ab),av (gH c),iv bD] [] (bz (bv (iP s nums c ab bD)) []):=by
 rcases aa (bD=15) with h15|h15
 ·have hx:=rz s nums c ab bD
  rw[if_pos (by omega)] at hx
  have x1:(14:Int)<(bD:Int):=by omega
  refine gS (nt:=169) (rs:=[.tmp 8]) hm Tryz.func24 fun hl he cq=>?_
  simp -implicitDefEqProofs only[go_sem,x1]
  refine an ?_
  refine sA ?_
  all_goals(simp[hx];done)
 ·have hd':bD≤14:=by omega
  rcases aa (c.kind=1) with k1|k1
  ·exact H8 s nums hn4 hnt c ih ab bD JX hd' hll hf k1
  rcases aa (c.kind=2) with k2|k2
  ·exact II s nums hn4 hnt c ih ab bD JX hd' hll hf k2
  rcases aa (c.kind=3) with k3|k3
  ·exact EG s nums hn4 hnt c ih ab bD JX hd' hll hf k3
  rcases aa (c.kind=4) with k4|k4
  ·exact F9 s nums hn4 hnt c ih ab bD JX hd' hll hf k4
  ·have hx:=rz s nums c ab bD
   rw[if_neg (by omega),if_neg k1,if_neg k2,if_neg k3,if_neg k4] at hx
   have x1:¬ (14:Int)<(bD:Int):=by omega
   refine gS (nt:=169) (rs:=[.tmp 8]) hm Tryz.func24 fun hl he cq=>?_
   simp -implicitDefEqProofs only[go_sem,x1,k1,k2,k3,k4]
   refine an ?_
   refine sA ?_
   all_goals(simp[hx];done)
theorem SU(s:dK)(nums:List Term)(hn4:nums.length≤4)(hnt:∀t∈nums,isTerm t=true):∀(c:Case)(ab:List bm)(bD:Nat),1≤bD→bD≤15→ab.length+(15-bD)≤30→(∀l∈ab,Fit nums l)→C E.P 24 [.agg [.d (.dt (dY s.syms)),.d (.dt (aN nums))],lv (aV ab),av (gH c),iv bD] [] (bz (bv (iP s nums c ab bD)) []):=
 Case.ind fun k n w ts a b ks ih ab bD h1 h2 h3 h4=>Py s nums hn4 hnt (.mk k n w ts a b ks) ih ab bD h1 h2 h3 h4
theorem H0(s:dK)(ab:List bm)(c:Case):C E.P 11 [av (dV s),lv (aV ab),av (gH c)] [] (bz (bv (CC s ab c)) []):=by
 refine gS (nt:=20) (rs:=[.tmp 6]) hm Tryz.func11 fun hl he cq=>?_
 refine aC [] (tQ s ab) ?_
 cases h:fe s ab
 ·refine sA ?_
  refine iK ?_
  refine an ?_
  refine sA ?_
  all_goals(simp[CC,h];done)
 ·obtain⟨hf,ht,h4,h6,hs,hw,htt,h24⟩:=xk h
  have hc:=SU s (numsOf s ab) h4 ht c ab 1 (by omega) (by omega) (by omega) hf
  refine sA ?_
  refine aC [] (tS s ab (by omega) hw) ?_
  refine bw [] hc ?_ ?_<;>simp -implicitDefEqProofs only[go_sem,xM]
  refine iK ?_
  refine an ?_
  refine sA ?_
  rw[CC,h]
  simp
end Go.Proofs.YtabembjmeobhoaaGreat
