/-
  The walks of literals: their terms, equations and sums. A step towards the exact laws.
-/
import Derived.Test.YtabembjmeobhoaaGreatKCM
import Derived.Test.YtabembjmeobhoaaGreatKCI
set_option linter.unusedVariables false
set_option linter.unusedSimpArgs false
open And renaming intro→au
open Bool renaming false_eq_true→aw
open Classical renaming em→aa
open List renaming getElem_mem→ak,take_of_length_le→ao,append_nil→bm,take_add_one→bq,length_eq_zero_iff→dW,take_succ_cons→dY,mem_of_mem_take→fb,drop→fC,filter_cons→jH,drop_drop→m0
namespace Go.Proofs.YtabembjmeobhoaaGreat
open Go.Eng Go.Mod
open Int renaming reduceEq→Z1,reduceLT→Z2,reduceLE→Z3,reduceToNat→Z4
set_option maxRecDepth 100000
set_option maxHeartbeats 800000
theorem qG(xs:List Term)(hx:xs.length≤1000)(l7:∀t∈xs,isTerm t=true):C E.P 37 [lv (aN xs)] [] (bD (.acc 0) [some (.acc 34 (aN (je xs)))]):=by
 refine gS (nt:=20) (rs:=[.tmp 2]) hm Tryz.func37 fun hl he cq=>?_
 refine cQ hm (fun(i:Nat) (out:List Term)=> i≤xs.length∧je xs=mu (xs.drop i) out∧out.length≤15*i) (fun(i:Nat) (out:List Term)=> ⟨dH 20 .any [(3,.acc 0),(6,lv (aN xs)),(7,iv xs.length),(8,iv i)],[some (.acc 34 (aN out))]⟩) (fun(i:Nat) (out:List Term)=> xs.length-i) (0) ([]) ?_ (ar [none] ?_ ?_ rfl rfl) ?_
 rotate_left
 ·exact sC
 ·exact sC
 rotate_left
 ·simp[je]
 ·rintro i out ⟨hi,hg,ho⟩
  rcases aa (i<xs.length) with h1|h1
  ·have h2:=l7 xs[i] (ak h1)
   rw[BW h1 h2] at hg
   have hs:=gN h2
   have hle:=wh (l:=out) hs (by omega)
   refine uA ?_
   refine aC [] (iM xs[i]) ?_
   refine uB ?_
   refine oC [] [0,2] (uu xs[i] 4 out (by omega) hs (by omega)) ?_
   refine sQ ?_
   refine⟨i+1,dh out xs[i],?_,sL,ar [some 2] ?_ ?_ rfl rfl⟩
   rotate_left
   ·exact sC
   ·exact sC
   exact⟨by omega,hg,by omega⟩
  ·rw[List.drop_of_length_le (by omega),mu] at hg
   refine uA ?_
   refine bZ [some 0] ?_ rfl rfl
   refine sA ?_
   rw[hg]
theorem xo(ab:List bl)(hl1:ab.length≤100)(hw:∀l∈ab,cP l.atom=true):C E.P 16 [lv (aV ab)] [] (bD (.acc 0) [some (.acc 34 (aN (az ab)))]):=by
 obtain⟨hle,e7⟩:=iW hw
 refine gS (nt:=20) (rs:=[.tmp 2]) hm Tryz.func16 fun hl he cq=>?_
 refine aM hm (fun(i:Nat)=> i≤ab.length) (fun(i:Nat)=> ⟨dH 20 .any [(3,.acc 0),(6,lv (aV ab)),(7,iv ab.length),(8,iv i)],[some (.acc 34 (aN (dZ (ab.take i))))]⟩) (fun(i:Nat)=> ab.length-i) (0) ?_ (ar [none] ?_ ?_ rfl rfl) ?_
 rotate_left
 ·exact sC
 ·refine sA ?_
  all_goals(rfl)
 rotate_left
 ·omega
 ·rintro i hi
  rcases aa (i<ab.length) with h1|h1
  ·have h2:=iW (ab:=ab.take i) fun l hl=>hw l (fb hl)
   have h3:=na (hw ab[i] (ak h1))
   have h4:(ab.take i).length≤100:=by simp;omega
   refine uA ?_
   refine aC [] (tf ab[i].atom) ?_
   refine sQ ?_
   refine⟨i+1,?_,sL,ar [some 2] ?_ ?_ rfl rfl⟩
   rotate_left
   ·exact sC
   ·refine sA ?_
    all_goals((rw[tS h1,←lg]))
   exact h1
  ·have e:ab.take i=ab:=ao (by omega)
   simp -implicitDefEqProofs only[go_sem,h1,e]
   refine oC [] [0,1] (Wb (e:=34) (rest:=[]) rfl (qG (dZ ab) (by omega) e7)) ?_
   refine bZ [some 1] ?_ rfl rfl
   refine sA ?_
   rfl
theorem vO(ab:List bl)(hl1:ab.length≤100):C E.P 41 [lv (aV ab)] [] (bD (lv (cS (a7 ab))) []):=by
 refine gS (nt:=35) (rs:=[.tmp 2]) hm Tryz.func41 fun hl he cq=>?_
 refine aM hm (fun(i:Nat)=> i≤ab.length) (fun(i:Nat)=> ⟨dH 35 .any [(3,.acc 0),(6,lv (aV ab)),(7,iv ab.length),(8,iv i)],[some (.acc 134 (cS (a7 (ab.take i))))]⟩) (fun(i:Nat)=> ab.length-i) (0) ?_ (ar [none] ?_ ?_ rfl rfl) ?_
 rotate_left
 ·exact sC
 ·refine sA ?_
  all_goals(rfl)
 rotate_left
 ·omega
 ·rintro i hi
  rcases aa (i<ab.length) with h1|h1
  ·have h2:=Kg (ab.take i)
   have h4:(ab.take i).length≤100:=by simp;omega
   have hs:=Gq h1
   rcases aa (ab[i].atom.kind=1) with h5|h5
   ·have k5:=eq_true h5
    cases h6:ab[i].no
    ·rw[if_pos ⟨h5,h6⟩] at hs
     simp -implicitDefEqProofs only[go_sem,h1,k5,h6]
     refine aC [] (ic ab[i].atom.A) ?_
     refine aC [] (ic ab[i].atom.B) ?_
     refine sQ ?_
     refine⟨i+1,?_,sL,ar [some 2] ?_ ?_ rfl rfl⟩
     rotate_left
     ·exact sC
     ·refine sA ?_
      all_goals((rw[hs,←lK,jA,jL];rfl))
     exact h1
    ·rw[if_neg (by simp[h6]),bm] at hs
     simp -implicitDefEqProofs only[go_sem,h1,k5,h6]
     refine sQ ?_
     refine⟨i+1,?_,sL,ar [some 0] ?_ ?_ rfl rfl⟩
     rotate_left
     ·exact sC
     ·refine sA ?_
      all_goals((rw[hs]))
     exact h1
   ·rw[if_neg (by simp[h5]),bm] at hs
    simp -implicitDefEqProofs only[go_sem,h1,h5]
    refine sQ ?_
    refine⟨i+1,?_,sL,ar [some 0] ?_ ?_ rfl rfl⟩
    rotate_left
    ·exact sC
    ·refine sA ?_
     all_goals((rw[hs]))
    exact h1
  ·refine uA ?_
   refine an ?_
   refine sA ?_
   rw[ao (by omega)]
theorem vQ(nums ts:List Term)(ns:List Int)(b:Int)(st:Bool)(h4:nums.length≤4)(kF:∀t∈ts,t∈nums)(hn:ns.length=ts.length)(hb:∀n∈ns,-50≤n∧n≤50)(hl4:ts.length≤4) :
 C E.P 108 [lv (aN nums),lv (aN ts),lv (bI ns),iv b,bv st] [] (bD (av (eS (lW nums ts ns b st))) []):=by
 have cq:=jZ
 refine lU (nt:=40) (rs:=[.cell 10 162]) hm Tryz.func108 rfl rfl rfl rfl rfl (fun hl he=>?_)
 simp -implicitDefEqProofs only[go_sem,Z3,Z4] at hl⊢
 refine sQ ?_
 refine aM hm (fun(i:Nat)=> i≤ts.length) (fun(i:Nat)=> ⟨dH 40 .any [(0,lv (aN nums)),(2,lv (bI ns)),(10,.ptr 0 0),(11,.ptr 1 0),(18,lv (aN ts)),(19,iv ts.length),(20,iv i)],[some (.box (cF (eS mO))),some (.box [.acc 2,.d (.val (.int .i64 b)),.d (.val (.bool st))]),some (.acc 3 (bI (jY nums (ts.take i) (ns.take i) [0,0,0,0])))]⟩) (fun(i:Nat)=> ts.length-i) (0) ?_ (ar [some 0,some 2,some 1] ?_ ?_ rfl rfl) ?_
 rotate_left
 ·exact sC
 ·refine sA ?_
  all_goals(simp[bI,List.replicate,jY])
 rotate_left
 ·omega
 ·rintro i hi
  rcases aa (i<ts.length) with h1|h1
  ·have h2:i<ns.length:=by omega
   have kF:=kF ts[i] (ak h1)
   have x1:=cR.2 kF
   have x2:=nZ kF
   have hL:(jY nums (ts.take i) (ns.take i) [0,0,0,0]).length=4:=JV
   have x3:(bL nums ts[i]).toNat<(jY nums (ts.take i) (ns.take i) [0,0,0,0]).length:=by omega
   have hB:=Dw (nums:=nums) (ts:=ts.take i) (ns:=ns.take i) (cs:=[0,0,0,0]) (m:=0) (by simp) (fun n hn=>hb n (fb hn)) (by omega) _ (ak x3)
   have hB2:((ts.take i).length:Int)≤4:=by simp;omega
   have hB3:=hb ns[i] (ak h2)
   refine uA ?_
   refine bp [] (dK nums ts[i]) ?_ ?_<;>simp -implicitDefEqProofs only[go_sem,x3,h2]
   refine sQ ?_
   refine⟨i+1,?_,sL,ar [some 0,some 1,some 2] ?_ ?_ rfl rfl⟩
   rotate_left
   ·exact sC
   ·refine sA ?_
    all_goals((rw[GU h1 h2,uM _ x1,←CC x3,m9 x3];simp[sS]))
   exact h1
  ·have e1:ts.take i=ts:=ao (by omega)
   have e2:ns.take i=ns:=ao (by omega)
   simp -implicitDefEqProofs only[go_sem,h1,e1,e2]
   refine an ?_
   refine sA ?_
   all_goals(simp[lW];done)
theorem zh(nums:List Term)(ab:List bl)(h4:nums.length≤4)(hl1:ab.length≤100)(hf:∀l∈ab,Fit nums l):C E.P 45 [lv (aN nums),lv (aV ab)] [] (bD (lv (dm (dX nums ab))) []):=by
 refine gS (nt:=70) (rs:=[.tmp 4]) hm Tryz.func45 fun hl he cq=>?_
 refine aM hm (fun(i:Nat)=> i≤ab.length) (fun(i:Nat)=> ⟨dH 70 .any [(0,lv (aN nums)),(5,.acc 0),(11,lv (aV ab)),(12,iv ab.length),(13,iv i)],[some (.acc 162 (dm (dX nums (ab.take i))))]⟩) (fun(i:Nat)=> ab.length-i) (0) ?_ (ar [none] ?_ ?_ rfl rfl) ?_
 rotate_left
 ·exact sC
 ·refine sA ?_
  all_goals(rfl)
 rotate_left
 ·omega
 ·rintro i hi
  rcases aa (i<ab.length) with h1|h1
  ·have h2:=Aq nums (ab.take i)
   have h3:(ab.take i).length≤100:=by simp;omega
   have hs:=DB (nums:=nums) h1
   have hF:=hf ab[i] (ak h1)
   rcases aa (ab[i].atom.kind=2) with k2|k2
   ·have k:=eq_true k2
    have hw:=mT hF.wf k2
    have hc:=vQ nums ab[i].atom.nums ab[i].atom.times ab[i].atom.bound ab[i].atom.strict h4 (hF.sum k2) hw.2.2.2.1 (vV hw.2.2.2.2.2 hw.2.2.2.1).2 hw.2.2.1
    simp -implicitDefEqProofs only[go_sem,h1,k]
    refine aC [] hc ?_
    cases h6:ab[i].no
    ·rw[jf,if_pos k2,h6] at hs
     simp only[aw,if_false] at hs
     refine sA ?_
     refine sQ ?_
     refine⟨i+1,?_,sL,ar [some 4] ?_ ?_ rfl rfl⟩
     rotate_left
     ·exact sC
     ·refine sA ?_
      all_goals((rw[hs,←mX,iO,ly];rfl))
     exact h1
    ·rw[jf,if_pos k2,h6] at hs
     simp only[if_true] at hs
     refine sA ?_
     refine aC [] (Iu (lW nums ab[i].atom.nums ab[i].atom.times ab[i].atom.bound ab[i].atom.strict)) ?_
     refine sQ ?_
     refine⟨i+1,?_,sL,ar [some 4] ?_ ?_ rfl rfl⟩
     rotate_left
     ·exact sC
     ·refine sA ?_
      all_goals((rw[hs,←mX,iO,ly];rfl))
     exact h1
   ·have k1:ab[i].atom.kind=1:=(kh hF.wf).resolve_right k2
    cases h6:ab[i].no
    ·simp -implicitDefEqProofs only[go_sem,h1,k2,h6]
     refine aC [] (dK nums ab[i].atom.A) ?_
     rcases aa (0≤bL nums ab[i].atom.A) with h7|h7
     ·rw[jf,if_neg k2,if_pos ⟨h6,h7⟩] at hs
      have hA:=cR.1 h7
      have hB:=(hF.eq k1).1 hA
      have hm:∀t∈[ab[i].atom.A,ab[i].atom.B],t∈nums:=by
       intro t ht
       simp only[List.mem_cons,List.not_mem_nil,or_false] at ht
       rcases ht with rfl|rfl
       ·exact hA
       ·exact hB
      have c1:=vQ nums [ab[i].atom.A,ab[i].atom.B] [1,-1] 0 false h4 hm rfl (by intro n hn;simp at hn;omega) (by simp)
      have c2:=vQ nums [ab[i].atom.A,ab[i].atom.B] [-1,1] 0 false h4 hm rfl (by intro n hn;simp at hn;omega) (by simp)
      clear hm
      simp -implicitDefEqProofs only[go_sem,h7]
      refine bp [] c1 ?_ ?_<;>simp -implicitDefEqProofs only[go_sem,dJ,jR]
      refine bp [] c2 ?_ ?_<;>simp -implicitDefEqProofs only[go_sem,dJ,jR]
      refine sQ ?_
      refine⟨i+1,?_,sL,ar [some 3] ?_ ?_ rfl rfl⟩
      rotate_left
      ·exact sC
      ·refine sA ?_
       all_goals((rw[hs,←mX,iO,iO,ly];rfl))
      exact h1
     ·rw[jf,if_neg k2,if_neg (by simp[h6,h7]),bm] at hs
      simp -implicitDefEqProofs only[go_sem,h7]
      refine sQ ?_
      refine⟨i+1,?_,sL,ar [some 0] ?_ ?_ rfl rfl⟩
      rotate_left
      ·exact sC
      ·refine sA ?_
       all_goals((rw[hs]))
      exact h1
    ·rw[jf,if_neg k2,if_neg (by simp[h6]),bm] at hs
     simp -implicitDefEqProofs only[go_sem,h1,k2,h6]
     refine sQ ?_
     refine⟨i+1,?_,sL,ar [some 0] ?_ ?_ rfl rfl⟩
     rotate_left
     ·exact sC
     ·refine sA ?_
      all_goals((rw[hs]))
     exact h1
  ·refine uA ?_
   refine an ?_
   refine sA ?_
   rw[ao (by omega)]
theorem vJ(a b:Term):C E.P 52 [av (cT a),av (cT b)] [] (bD (av (nI (gx a b))) []):=by
 refine gS (nt:=9) (rs:=[.cell 4 49]) hm Tryz.func52 fun hl he cq=>?_
 refine an ?_
 refine sA ?_
 all_goals(simp[gx,xj];done)
theorem rP(a b:Term)(ha:isTerm a=true)(hb:isTerm b=true):C E.P 113 [av (cT a),av (cT b)] [] (bD (av (nI (dL a b))) []):=by
 refine gS (nt:=24) (rs:=[.cell 4 49]) hm Tryz.func113 fun hl he cq=>?_
 refine aC [] (nc a ha) ?_
 refine bp [] (nc b hb) ?_ ?_<;>simp -implicitDefEqProofs only[go_sem,Fj]
 refine iK ?_
 cases q:gC (aO b) (aO a)
 ·have h5:Op.bytesLess (aO b) (aO a)=false:=q
  refine uE ?_
  refine an ?_
  refine sA ?_
  all_goals(simp[dL,q,dJ,jR,cT];done)
 ·have h5:Op.bytesLess (aO b) (aO a)=true:=q
  refine uE ?_
  refine an ?_
  refine sA ?_
  all_goals(simp[dL,q,dJ,jR,cT];done)
theorem Er:C E.P 111 [.b6] [] (bD (.acc 0) [some (.acc 49 [])]):=by
 refine gS (nt:=8) (rs:=[.tmp 2]) hm Tryz.func111 fun hl he cq=>?_
 refine Jo 49 _ true rfl rfl (by simp -implicitDefEqProofs only[go_sem]) J3 ?_
 refine sA ?_
 refine bZ [none] ?_ rfl rfl
 exact sC
theorem EB(a:Addr)(c:Nat):C E.P 111 [.d (.val (.slice (some a) 0 c))] [] (bD (.acc 0) [some (.acc 49 [])]):=by
 refine gS (nt:=8) (rs:=[.tmp 2]) hm Tryz.func111 fun hl he cq=>?_
 refine Jo 49 _ false rfl rfl (p:=.d (.val (.slice (some a) 0 c))) (by simp -implicitDefEqProofs only[go_sem]) (JG _ _ _) ?_
 refine sA ?_
 refine sQ ?_
 refine bZ [some 1] ?_ rfl rfl
 exact sC
theorem Dk(r:List D)(rs:List (List D))(hl1:rs.length≤1000)(h1:∀y∈r::rs,y.length=10):C E.P 111 [.d (.dC (r::rs))] [] (bD (.acc 0) [some (.acc 49 (r::rs))]):=by
 refine gS (nt:=8) (rs:=[.tmp 2]) hm Tryz.func111 fun hl he cq=>?_
 refine Jo 49 _ false rfl rfl (p:=.d (.dC (r::rs))) (by simp -implicitDefEqProofs only[go_sem]) JU ?_
 refine sA ?_
 refine au ⟨?_,by omega,by omega⟩ ?_
 ·simpa using h1
 refine bZ [some 1] ?_ rfl rfl
 exact sC
theorem M0(ab:List bl)(hl1:ab.length≤1000):C E.P 111 [lv (aV ab)] [] (bD (.acc 0) [some (.acc 49 (aV ab))]):=by
 cases ab with
 | nil=>exact RD Er EB
 | cons x xs=>
   have h1:=DX (x::xs)
   rw[ni] at h1⊢
   exact Dk (nI x) (aV xs) (by rw[Du];simp at hl1;omega) h1
theorem vZ(ab:List bl)(l:bl)(hl1:ab.length≤100):C E.P 51 [lv (aV ab),av (nI l)] [] (bD (lv (aV (ab++[l]))) []):=by
 refine gS (nt:=10) (rs:=[.tmp 4]) hm Tryz.func51 fun hl he cq=>?_
 refine oC [] [1] (M0 ab (by omega)) ?_
 refine sQ ?_
 refine an ?_
 refine sA ?_
 rw[←DH,ni,s9]
 rfl
theorem y7(a b:Term)(ta:isTerm a=true)(tb:isTerm b=true):C E.P 57 [av (cT a),av (cT b)] [] (bD (lv (aV (fm a b))) []):=by
 refine gS (nt:=15) (rs:=[.tmp 4]) hm Tryz.func57 fun hl he cq=>?_
 refine aC [] (vJ a b) ?_
 refine aC [] (rP a b ta tb) ?_
 refine aC [] (rP b a tb ta) ?_
 refine iK ?_
 refine an ?_
 refine sA ?_
 rw[fm,ni,ni,ni,s9]
 rfl
theorem zg(s:dI)(nums:List Term)(a b:Term):C E.P 80 [.agg [.d (.dC (eF s.syms)),.d (.dC (aN nums))],av (cT a),av (cT b)] [] (bD (bv (Mod.differ nums a b)) []):=by
 refine gS (nt:=28) (rs:=[.tmp 6]) hm Tryz.func80 fun hl he cq=>?_
 refine aC [] (dK nums a) ?_
 refine aC [] (dK nums b) ?_
 refine iK ?_
 rcases aa (0≤bL nums a) with h1|h1
 ·rcases aa (0≤bL nums b) with h2|h2
  ·refine uJ ?_
   refine an ?_
   refine sA ?_
   simp only[Mod.differ,h1,h2,decide_true,Bool.true_and]
   simp
  ·refine uJ ?_
   refine an ?_
   refine sA ?_
   all_goals(simp[Mod.differ,h1,h2];done)
 ·refine uA ?_
  refine an ?_
  refine sA ?_
  all_goals(simp[Mod.differ,h1];done)
theorem ID(c:Case):C E.P 76 [av (jJ c),bv true,bv true,bv false,bv false,iv 0] [] (bD (bv (bare c true true false false 0)) []):=by
 refine gS (nt:=57) (rs:=[.tmp 12]) hm Tryz.func76 fun hl he cq=>?_
 rcases aa ((c.times.length:Int)=0) with t0|t0
 rotate_left
 ·have t1:¬c.times=[]:=fun e=>t0 (by rw[e];rfl)
  simp -implicitDefEqProofs only[go_sem,t0]
  refine an ?_
  refine sA ?_
  all_goals(simp[bare,t1];done)
 have t1:c.times=[]:=dW.1 (by omega)
 have kt:=eq_true t0
 simp -implicitDefEqProofs only[go_sem,kt]
 refine aC [] (fN c.A) ?_
 cases pA:isNone c.A
 ·refine sA ?_
  refine an ?_
  refine sA ?_
  all_goals(simp[bare,pA];done)
 refine sA ?_
 refine aC [] (fN c.B) ?_
 cases pB:isNone c.B
 ·refine sA ?_
  refine an ?_
  refine sA ?_
  all_goals(simp[bare,pB];done)
 refine sA ?_
 have e:decide ((c.kids.length:Int)=0)=decide (c.kids.length=0):=decide_eq_decide.2 (by omega)
 refine an ?_
 refine sA ?_
 have eb:bare c true true false false 0=decide (c.kids.length=0):=by simp[bare,t1,pA,pB]
 rw[eb,←e]
theorem IH(c:Case):C E.P 76 [av (jJ c),bv false,bv false,bv true,bv false,iv 0] [] (bD (bv (bare c false false true false 0)) []):=by
 refine gS (nt:=57) (rs:=[.tmp 12]) hm Tryz.func76 fun hl he cq=>?_
 rcases aa (c.n=0) with n0|n0
 rotate_left
 ·simp -implicitDefEqProofs only[go_sem,n0]
  refine an ?_
  refine sA ?_
  all_goals(simp[bare,n0];done)
 have kn:=eq_true n0
 simp -implicitDefEqProofs only[go_sem,kn]
 refine aC [] (xI c.sP sY) ?_
 rcases aa (c.sP=sY) with hw|hw
 rotate_left
 ·simp -implicitDefEqProofs only[go_sem,hw]
  refine an ?_
  refine sA ?_
  all_goals(simp[bare,hw];done)
 have kw:=eq_true hw
 simp -implicitDefEqProofs only[go_sem,kw]
 refine aC [] (fN c.A) ?_
 cases pA:isNone c.A
 ·refine sA ?_
  refine an ?_
  refine sA ?_
  all_goals(simp[bare,pA];done)
 refine sA ?_
 refine aC [] (fN c.B) ?_
 cases pB:isNone c.B
 ·refine sA ?_
  refine an ?_
  refine sA ?_
  all_goals(simp[bare,pB];done)
 refine sA ?_
 have e:decide ((c.kids.length:Int)=0)=decide (c.kids.length=0):=decide_eq_decide.2 (by omega)
 refine an ?_
 refine sA ?_
 have eb:bare c false false true false 0=decide (c.kids.length=0):=by simp[bare,n0,hw,pA,pB]
 rw[eb,←e]
theorem IZ(c:Case):C E.P 76 [av (jJ c),bv false,bv true,bv false,bv false,iv 1] [] (bD (bv (bare c false true false false 1)) []):=by
 refine gS (nt:=57) (rs:=[.tmp 12]) hm Tryz.func76 fun hl he cq=>?_
 rcases aa (c.n=0) with n0|n0
 rotate_left
 ·simp -implicitDefEqProofs only[go_sem,n0]
  refine an ?_
  refine sA ?_
  all_goals(simp[bare,n0];done)
 have kn:=eq_true n0
 simp -implicitDefEqProofs only[go_sem,kn]
 rcases aa ((c.times.length:Int)=0) with t0|t0
 rotate_left
 ·have t1:¬c.times=[]:=fun e=>t0 (by rw[e];rfl)
  simp -implicitDefEqProofs only[go_sem,t0]
  refine an ?_
  refine sA ?_
  all_goals(simp[bare,t1];done)
 have t1:c.times=[]:=dW.1 (by omega)
 have kt:=eq_true t0
 simp -implicitDefEqProofs only[go_sem,kt]
 refine aC [] (fN c.A) ?_
 cases pA:isNone c.A
 ·refine sA ?_
  refine an ?_
  refine sA ?_
  all_goals(simp[bare,pA];done)
 refine sA ?_
 refine aC [] (fN c.B) ?_
 cases pB:isNone c.B
 ·refine sA ?_
  refine an ?_
  refine sA ?_
  all_goals(simp[bare,pB];done)
 refine sA ?_
 have e:decide ((c.kids.length:Int)=1)=decide (c.kids.length=1):=decide_eq_decide.2 (by omega)
 refine an ?_
 refine sA ?_
 have eb:bare c false true false false 1=decide (c.kids.length=1):=by simp[bare,n0,t1,pA,pB]
 rw[eb,←e]
theorem I1(c:Case):C E.P 76 [av (jJ c),bv false,bv false,bv false,bv true,iv 3] [] (bD (bv (bare c false false false true 3)) []):=by
 refine gS (nt:=57) (rs:=[.tmp 12]) hm Tryz.func76 fun hl he cq=>?_
 rcases aa (c.n=0) with n0|n0
 rotate_left
 ·simp -implicitDefEqProofs only[go_sem,n0]
  refine an ?_
  refine sA ?_
  all_goals(simp[bare,n0];done)
 have kn:=eq_true n0
 simp -implicitDefEqProofs only[go_sem,kn]
 refine aC [] (xI c.sP sY) ?_
 rcases aa (c.sP=sY) with hw|hw
 rotate_left
 ·simp -implicitDefEqProofs only[go_sem,hw]
  refine an ?_
  refine sA ?_
  all_goals(simp[bare,hw];done)
 have kw:=eq_true hw
 simp -implicitDefEqProofs only[go_sem,kw]
 rcases aa ((c.times.length:Int)=0) with t0|t0
 rotate_left
 ·have t1:¬c.times=[]:=fun e=>t0 (by rw[e];rfl)
  simp -implicitDefEqProofs only[go_sem,t0]
  refine an ?_
  refine sA ?_
  all_goals(simp[bare,t1];done)
 have t1:c.times=[]:=dW.1 (by omega)
 have kt:=eq_true t0
 simp -implicitDefEqProofs only[go_sem,kt]
 have e:decide ((c.kids.length:Int)=3)=decide (c.kids.length=3):=decide_eq_decide.2 (by omega)
 refine an ?_
 refine sA ?_
 have eb:bare c false false false true 3=decide (c.kids.length=3):=by simp[bare,n0,hw,t1]
 rw[eb,←e]
theorem wE(s:dI)(t:Term):C E.P 39 [av (cT t),.gy [eu s] 0 0] [] (bD (bv (!dx s t)) []):=by
 refine gS (nt:=8) (rs:=[.tmp 3]) hm Tryz.func39 fun hl he cq=>?_
 refine aC [] (wy s t) ?_
 refine an ?_
 exact sC
theorem TV{a:List Term}{i:Nat}(h:i<a.length)(v:Term):(aN a).set i (sS (row (aN a) i) 0 (cT v))=aN (a.set i v):=by
 have e:sS (row (aN a) i) 0 (cT v)=cT v:=by
  rw[C7 h]
  simp[sS,cT]
 rw[e,lf,lf,List.map_set]
theorem Gv{p:Term→Bool}:∀{xs:List Term}{i:Int},0≤i→(gi p xs i = -1∧xs.filter (fun t=>!p t)=xs)∨∃j:Nat,gi p xs i=i+j∧j<xs.length∧(xs.take (j+1)).filter (fun t=>!p t)=xs.take j
 | [],i,_=>.inl (by simp[gi])
 | x::xs,i,h=>by
   simp only[gi]
   cases hx:p x with
   | true=>
     refine .inr ⟨0,?_,by simp,by simp[hx]⟩
     simp
   | false=>
     simp only[aw,if_false]
     rcases Gv (p:=p) (xs:=xs) (i:=i+1) (by omega) with⟨h1,h2⟩|⟨j,h1,h2,h3⟩
     ·exact .inl ⟨h1,by simp[hx,h2]⟩
     ·refine .inr ⟨j+1,by rw[h1];omega,by simp;omega,?_⟩
      rw[dY,jH,dY,h3]
      simp[hx]
theorem Cd(s:dI)(xs:List Term)(hl1:xs.length≤10000):C E.P 38 [.acc 0,.fn 39 [.ptr 1 0]] [some (.acc 34 (aN xs)),some (.box (cF (eu s)))] (bD (lv (aN (xs.filter (dx s)))) [some .dead,some (.box (cF (eu s)))]):=by
 have cq:LB=1099511627776:=rfl
 refine Eh (nt:=42) (rs:=[.tmp 4]) Tryz.func38 rfl rfl rfl rfl rfl (fun hl he=>?_)
 simp -implicitDefEqProofs only[go_sem] at hl he⊢
 refine eG (gz hm ?_)
 simp -implicitDefEqProofs only[go_sem,de,dq]
 refine eG (gz hm ?_)
 refine sA ?_
 refine dQ [] [0,1] (pK 39 [.gy [eu s] 0 0] rfl (fun t=>!dx s t) xs (fun t _=>wE s t)) rfl ?_ ?_ ?_
 ·exact sV
 all_goals simp -implicitDefEqProofs only[go_sem]
 simp -implicitDefEqProofs only[go_sem,de,dq]
 rcases Gv (p:=fun t=>!dx s t) (xs:=xs) (i:=0) (by omega) with⟨h1,h2⟩|⟨j0,h1,h2,h3⟩
 ·have e:idxOf (fun t=>!dx s t) xs = -1:=h1
  rw[e]
  refine eG (gz hm ?_)
  simp -implicitDefEqProofs only[go_sem,de,vW]
  refine⟨_,CB 4 0 34 (aN xs) rfl rfl,?_⟩
  have e2:xs.filter (dx s)=xs:=by simpa using h2
  rw[e2]
  refine bZ [some 0,some 1] ?_ rfl rfl
  refine sA ?_
  all_goals simp
 ·have e:idxOf (fun t=>!dx s t) xs=(j0:Int):=by rw[idxOf,h1];omega
  rw[e]
  have n1:¬ (j0:Int) = -1:=by omega
  refine eG (gz hm ?_)
  simp -implicitDefEqProofs only[go_sem,de,dq,n1]
  refine eG (gz hm ?_)
  refine sA ?_
  refine sQ ?_
  refine kS hm (fun(i:Nat) (j:Nat) (a:List Term)=> i≤j∧j≤xs.length∧a.length=xs.length∧a.take i=(xs.take j).filter (dx s)∧a.drop j=xs.drop j) (fun(i:Nat) (j:Nat) (a:List Term)=> ⟨dH 42 .any [(0,.acc 0),(1,.fn 39 [.ptr 1 0]),(5,iv i),(6,iv j)],[some (.acc 34 (aN a)),some (.box (cF (eu s)))]⟩) (fun(i:Nat) (j:Nat) (a:List Term)=> xs.length-j) (j0) (j0+1) (xs) ?_ (ar [some 0,some 1] ?_ ?_ rfl rfl) ?_
  rotate_left
  ·exact sC
  ·exact sC
  rotate_left
  ·exact⟨by omega,by omega,rfl,by simpa using h3.symm,rfl⟩
  ·rintro i j a ⟨hij,hj,hal,ht,hd⟩
   rcases aa (j<xs.length) with h1|h1
   ·have h1a:j<a.length:=by omega
    have hia:i<a.length:=by omega
    have hx:a[j]=xs[j]:=by
     have h4:(a.drop j)[0]?=(xs.drop j)[0]?:=by rw[hd]
     simpa[h1,h1a] using h4
    have hf:(xs.take (j+1)).filter (dx s)=(xs.take j).filter (dx s)++(if dx s xs[j] then [xs[j]] else []):=by
     rw[bq,List.getElem?_eq_getElem h1,List.filter_append]
     congr 1
     simp[jH]
    simp -implicitDefEqProofs only[go_sem,h1a]
    refine dQ [.ptr 1 0] [1] (wE s a[j]) rfl ?_ ?_ ?_
    ·exact sV
    all_goals simp -implicitDefEqProofs only[go_sem]
    rw[hx]
    cases h4:dx s xs[j]
    ·rw[h4] at hf
     refine sA ?_
     refine au (by omega) ?_
     refine⟨i,j+1,a,?_,sL,ar [some 0,some 1] ?_ ?_ rfl rfl⟩
     rotate_left
     ·exact sC
     ·exact sC
     refine⟨by omega,by omega,hal,by rw[hf,ht];simp,?_⟩
     have h5:=congrArg (fC 1) hd
     simpa[m0] using h5
    ·rw[h4] at hf
     simp -implicitDefEqProofs only[go_sem,hia]
     have hset:(aN a).set i (sS [D.str a[i].name,D.dC (aN a[i].kids)] 0 [D.str xs[j].name,D.dC (aN xs[j].kids)])=aN (a.set i xs[j]):=by
      have h5:=TV hia xs[j]
      rw[C7 hia] at h5
      exact h5
     refine au (by omega) (au (by omega) ?_)
     refine⟨i+1,j+1,a.set i xs[j],?_,sL,ar [some 0,some 1] ?_ ?_ rfl rfl⟩
     rotate_left
     ·exact sC
     ·refine sA ?_
      all_goals(exact hset)
     refine⟨by omega,by omega,by simp[hal],?_,?_⟩
     ·rw[hf,←ht,bq]
      simp[hia,List.take_set_of_le]
     ·have h5:=congrArg (fC 1) hd
      rw[List.drop_set_of_lt (by omega)]
      simpa[m0] using h5
   ·simp -implicitDefEqProofs only[go_sem,h1,hal]
    simp only[de,dq]
    have hjn:j=xs.length:=by omega
    refine eG (oU ?_)
    refine yM (H4.plain rfl (MD _)) (yM (H4.plain rfl (MD _)) ?_)
    refine sA ?_
    refine aaE (t:=32) (e:=34) (k:=0) (m:=(i:Int)) (xs:=aN a) [.str [],.dC []] _ _ rfl rfl rfl rfl ?_ ?_ ?_ (by omega) (by rw[rF];omega) ?_ ?_
    ·exact sC
    ·exact sC
    ·exact sC
    ·simp only[BC]
     omega
    refine vk ?_
    simp -implicitDefEqProofs only[go_sem,dq]
    refine gz hm ?_
    refine sA ?_
    refine fu (Zf (.tmp 39) (.tmp 40) 32 34 0 _ _ (NJ [.str [],.dC []] (aN a) i) (i:Int) rfl rfl rfl ?_ ?_ ?_ (by omega) (by rw[Yt _ _ _ (by rw[rF];omega),rF];omega)) ?_
    ·exact sC
    ·exact sC
    ·exact sC
    simp -implicitDefEqProofs only[go_sem,de]
    refine dR ?_
    refine bZ [some 0,some 1] ?_ rfl rfl
    refine sA ?_
    rw[Xr _ _ _ (by rw[rF];omega),Q1,ht,hjn,List.take_length]
theorem tO(s:dI)(ab:List bl)(hl1:ab.length≤100)(hw:∀l∈ab,cP l.atom=true):C E.P 17 [av (eu s),lv (aV ab)] [] (bD (lv (aN (numsOf s ab))) []):=by
 have hn:(az ab).length≤10000:=by
  obtain⟨hle,e7⟩:=iW hw
  have h1:=qU (dZ ab) [] e7
  rw[jP,iL e7]
  simp only[List.length_nil] at h1
  omega
 have e:(az ab).filter (dx s)=numsOf s ab:=rfl
 refine gS (nt:=9) (rs:=[.tmp 4]) hm Tryz.func17 fun hl he cq=>?_
 refine oC [] [1] (xo ab hl1 hw) ?_
 have hcall:=Cd s (az ab) hn
 rw[e] at hcall
 refine gE [] [1,0] hcall ?_ ?_
 ·refine sA ?_
  rfl
 refine sA ?_
 refine an ?_
 exact sC
end Go.Proofs.YtabembjmeobhoaaGreat
