/-
  The walks of literals: their terms, equations and sums. A step towards the exact laws.
-/
import Derived.Test.YtabembjmeobhoaaGreatKDM
import Derived.Test.YtabembjmeobhoaaGreatKDI
set_option linter.unusedVariables false
set_option linter.unusedSimpArgs false
open And renaming intro→au
open Bool renaming false_eq_true→ax
open Classical renaming em→aa
open List renaming getElem_mem→ak,take_of_length_le→ao,append_nil→bl,take_add_one→bq,length_eq_zero_iff→dP,take_succ_cons→dQ,mem_of_mem_take→eZ,drop→fx,filter_cons→jB,drop_drop→mV
namespace Go.Proofs.YtabembjmeobhoaaGreat
open Go.Eng Go.Mod
open Int renaming reduceEq→Z1,reduceLT→Z2,reduceLE→Z3,reduceToNat→Z4
set_option maxRecDepth 100000
set_option maxHeartbeats 800000
theorem qy(xs:List Term)(hx:xs.length≤1000)(mR:∀t∈xs,isTerm t=true):C E.P 37 [lv (aN xs)] [] (bz (.acc 0) [some (.acc 34 (aN (iX xs)))]):=by
 refine gS (nt:=20) (rs:=[.tmp 2]) hm Tryz.func37 fun hl he cq=>?_
 refine cM hm (fun(i:Nat) (out:List Term)=> i≤xs.length∧iX xs=mg (xs.drop i) out∧out.length≤15*i) (fun(i:Nat) (out:List Term)=> ⟨dx 20 .any [(3,.acc 0),(6,lv (aN xs)),(7,iv xs.length),(8,iv i)],[some (.acc 34 (aN out))]⟩) (fun(i:Nat) (out:List Term)=> xs.length-i) (0) ([]) ?_ (ar [none] ?_ ?_ rfl rfl) ?_
 rotate_left
 ·exact sC
 ·exact sC
 rotate_left
 ·simp[iX]
 ·rintro i out ⟨hi,hg,ho⟩
  rcases aa (i<xs.length) with h1|h1
  ·have h2:=mR xs[i] (ak h1)
   rw[Ci h1 h2] at hg
   have hs:=gK h2
   have hle:=vT (l:=out) hs (by omega)
   refine uA ?_
   refine aC [] (iz xs[i]) ?_
   refine uB ?_
   refine oC [] [0,2] (uu xs[i] 4 out (by omega) hs (by omega)) ?_
   refine sQ ?_
   refine⟨i+1,de out xs[i],?_,sL,ar [some 2] ?_ ?_ rfl rfl⟩
   rotate_left
   ·exact sC
   ·exact sC
   exact⟨by omega,hg,by omega⟩
  ·rw[List.drop_of_length_le (by omega),mg] at hg
   refine uA ?_
   refine bZ [some 0] ?_ rfl rfl
   refine sA ?_
   rw[hg]
theorem xS(ab:List bm)(hl1:ab.length≤100)(hw:∀l∈ab,cQ l.atom=true):C E.P 16 [lv (aV ab)] [] (bz (.acc 0) [some (.acc 34 (aN (aw ab)))]):=by
 obtain⟨hle,eW⟩:=iQ hw
 refine gS (nt:=20) (rs:=[.tmp 2]) hm Tryz.func16 fun hl he cq=>?_
 refine aL hm (fun(i:Nat)=> i≤ab.length) (fun(i:Nat)=> ⟨dx 20 .any [(3,.acc 0),(6,lv (aV ab)),(7,iv ab.length),(8,iv i)],[some (.acc 34 (aN (eF (ab.take i))))]⟩) (fun(i:Nat)=> ab.length-i) (0) ?_ (ar [none] ?_ ?_ rfl rfl) ?_
 rotate_left
 ·exact sC
 ·refine sA ?_
  all_goals(rfl)
 rotate_left
 ·omega
 ·rintro i hi
  rcases aa (i<ab.length) with h1|h1
  ·have h2:=iQ (ab:=ab.take i) fun l hl=>hw l (eZ hl)
   have h3:=mX (hw ab[i] (ak h1))
   have h4:(ab.take i).length≤100:=by simp;omega
   refine uA ?_
   refine aC [] (tt ab[i].atom) ?_
   refine sQ ?_
   refine⟨i+1,?_,sL,ar [some 2] ?_ ?_ rfl rfl⟩
   rotate_left
   ·exact sC
   ·refine sA ?_
    all_goals((rw[tL h1,←kW]))
   exact h1
  ·have e:ab.take i=ab:=ao (by omega)
   simp -implicitDefEqProofs only[go_sem,h1,e]
   refine oC [] [0,1] (TQ (e:=34) (rest:=[]) rfl (qy (eF ab) (by omega) eW)) ?_
   refine bZ [some 1] ?_ rfl rfl
   refine sA ?_
   rfl
theorem vX(ab:List bm)(hl1:ab.length≤100):C E.P 41 [lv (aV ab)] [] (bz (lv (cO (aZ ab))) []):=by
 refine gS (nt:=35) (rs:=[.tmp 2]) hm Tryz.func41 fun hl he cq=>?_
 refine aL hm (fun(i:Nat)=> i≤ab.length) (fun(i:Nat)=> ⟨dx 35 .any [(3,.acc 0),(6,lv (aV ab)),(7,iv ab.length),(8,iv i)],[some (.acc 134 (cO (aZ (ab.take i))))]⟩) (fun(i:Nat)=> ab.length-i) (0) ?_ (ar [none] ?_ ?_ rfl rfl) ?_
 rotate_left
 ·exact sC
 ·refine sA ?_
  all_goals(rfl)
 rotate_left
 ·omega
 ·rintro i hi
  rcases aa (i<ab.length) with h1|h1
  ·have h2:=JK (ab.take i)
   have h4:(ab.take i).length≤100:=by simp;omega
   have hs:=HC h1
   rcases aa (ab[i].atom.kind=1) with h5|h5
   ·have k5:=eq_true h5
    cases h6:ab[i].no
    ·rw[if_pos ⟨h5,h6⟩] at hs
     simp -implicitDefEqProofs only[go_sem,h1,k5,h6]
     refine aC [] (hQ ab[i].atom.A) ?_
     refine aC [] (hQ ab[i].atom.B) ?_
     refine sQ ?_
     refine⟨i+1,?_,sL,ar [some 2] ?_ ?_ rfl rfl⟩
     rotate_left
     ·exact sC
     ·refine sA ?_
      all_goals((rw[hs,←lC,ju,jI];rfl))
     exact h1
    ·rw[if_neg (by simp[h6]),bl] at hs
     simp -implicitDefEqProofs only[go_sem,h1,k5,h6]
     refine sQ ?_
     refine⟨i+1,?_,sL,ar [some 0] ?_ ?_ rfl rfl⟩
     rotate_left
     ·exact sC
     ·refine sA ?_
      all_goals((rw[hs]))
     exact h1
   ·rw[if_neg (by simp[h5]),bl] at hs
    simp -implicitDefEqProofs only[go_sem,h1,h5]
    refine sQ ?_
    refine⟨i+1,?_,sL,ar [some 0] ?_ ?_ rfl rfl⟩
    rotate_left
    ·exact sC
    ·refine sA ?_
     all_goals((rw[hs]))
    exact h1
  ·refine uA ?_
   refine an ?_
   refine sA ?_
   rw[ao (by omega)]
theorem vh(nums ts:List Term)(ns:List Int)(b:Int)(st:Bool)(h4:nums.length≤4)(kG:∀t∈ts,t∈nums)(hn:ns.length=ts.length)(hb:∀n∈ns,-50≤n∧n≤50)(hl4:ts.length≤4) :
 C E.P 108 [lv (aN nums),lv (aN ts),lv (bF ns),iv b,bv st] [] (bz (av (eL (mh nums ts ns b st))) []):=by
 have cq:=jT
 refine lQ (nt:=40) (rs:=[.cell 10 162]) hm Tryz.func108 rfl rfl rfl rfl rfl (fun hl he=>?_)
 simp -implicitDefEqProofs only[go_sem,Z3,Z4] at hl⊢
 refine sQ ?_
 refine aL hm (fun(i:Nat)=> i≤ts.length) (fun(i:Nat)=> ⟨dx 40 .any [(0,lv (aN nums)),(2,lv (bF ns)),(10,.ptr 0 0),(11,.ptr 1 0),(18,lv (aN ts)),(19,iv ts.length),(20,iv i)],[some (.box (cE (eL m8))),some (.box [.acc 2,.d (.val (.int .i64 b)),.d (.val (.bool st))]),some (.acc 3 (bF (jU nums (ts.take i) (ns.take i) [0,0,0,0])))]⟩) (fun(i:Nat)=> ts.length-i) (0) ?_ (ar [some 0,some 2,some 1] ?_ ?_ rfl rfl) ?_
 rotate_left
 ·exact sC
 ·refine sA ?_
  all_goals(simp[bF,List.replicate,jU])
 rotate_left
 ·omega
 ·rintro i hi
  rcases aa (i<ts.length) with h1|h1
  ·have h2:i<ns.length:=by omega
   have kG:=kG ts[i] (ak h1)
   have x1:=cV.2 kG
   have x2:=nQ kG
   have hL:(jU nums (ts.take i) (ns.take i) [0,0,0,0]).length=4:=JF
   have x3:(bK nums ts[i]).toNat<(jU nums (ts.take i) (ns.take i) [0,0,0,0]).length:=by omega
   have hB:=DV (nums:=nums) (ts:=ts.take i) (ns:=ns.take i) (cs:=[0,0,0,0]) (m:=0) (by simp) (fun n hn=>hb n (eZ hn)) (by omega) _ (ak x3)
   have hB2:((ts.take i).length:Int)≤4:=by simp;omega
   have hB3:=hb ns[i] (ak h2)
   refine uA ?_
   refine bw [] (dE nums ts[i]) ?_ ?_<;>simp -implicitDefEqProofs only[go_sem,x3,h2]
   refine sQ ?_
   refine⟨i+1,?_,sL,ar [some 0,some 1,some 2] ?_ ?_ rfl rfl⟩
   rotate_left
   ·exact sC
   ·refine sA ?_
    all_goals((rw[Fv h1 h2,uR _ x1,←Cr x3,m9 x3];simp[sS]))
   exact h1
  ·have e1:ts.take i=ts:=ao (by omega)
   have e2:ns.take i=ns:=ao (by omega)
   simp -implicitDefEqProofs only[go_sem,h1,e1,e2]
   refine an ?_
   refine sA ?_
   all_goals(simp[mh];done)
theorem zG(nums:List Term)(ab:List bm)(h4:nums.length≤4)(hl1:ab.length≤100)(hf:∀l∈ab,Fit nums l):C E.P 45 [lv (aN nums),lv (aV ab)] [] (bz (lv (di (dF nums ab))) []):=by
 refine gS (nt:=70) (rs:=[.tmp 4]) hm Tryz.func45 fun hl he cq=>?_
 refine aL hm (fun(i:Nat)=> i≤ab.length) (fun(i:Nat)=> ⟨dx 70 .any [(0,lv (aN nums)),(5,.acc 0),(11,lv (aV ab)),(12,iv ab.length),(13,iv i)],[some (.acc 162 (di (dF nums (ab.take i))))]⟩) (fun(i:Nat)=> ab.length-i) (0) ?_ (ar [none] ?_ ?_ rfl rfl) ?_
 rotate_left
 ·exact sC
 ·refine sA ?_
  all_goals(rfl)
 rotate_left
 ·omega
 ·rintro i hi
  rcases aa (i<ab.length) with h1|h1
  ·have h2:=Av nums (ab.take i)
   have h3:(ab.take i).length≤100:=by simp;omega
   have hs:=Dx (nums:=nums) h1
   have hF:=hf ab[i] (ak h1)
   rcases aa (ab[i].atom.kind=2) with k2|k2
   ·have k:=eq_true k2
    have hw:=mM hF.wf k2
    have hc:=vh nums ab[i].atom.nums ab[i].atom.times ab[i].atom.bound ab[i].atom.strict h4 (hF.sum k2) hw.2.2.2.1 (vI hw.2.2.2.2.2 hw.2.2.2.1).2 hw.2.2.1
    simp -implicitDefEqProofs only[go_sem,h1,k]
    refine aC [] hc ?_
    cases h6:ab[i].no
    ·rw[jP,if_pos k2,h6] at hs
     simp only[ax,if_false] at hs
     refine sA ?_
     refine sQ ?_
     refine⟨i+1,?_,sL,ar [some 4] ?_ ?_ rfl rfl⟩
     rotate_left
     ·exact sC
     ·refine sA ?_
      all_goals((rw[hs,←mD,iD,lp];rfl))
     exact h1
    ·rw[jP,if_pos k2,h6] at hs
     simp only[if_true] at hs
     refine sA ?_
     refine aC [] (Ib (mh nums ab[i].atom.nums ab[i].atom.times ab[i].atom.bound ab[i].atom.strict)) ?_
     refine sQ ?_
     refine⟨i+1,?_,sL,ar [some 4] ?_ ?_ rfl rfl⟩
     rotate_left
     ·exact sC
     ·refine sA ?_
      all_goals((rw[hs,←mD,iD,lp];rfl))
     exact h1
   ·have k1:ab[i].atom.kind=1:=(mH hF.wf).resolve_right k2
    cases h6:ab[i].no
    ·simp -implicitDefEqProofs only[go_sem,h1,k2,h6]
     refine aC [] (dE nums ab[i].atom.A) ?_
     rcases aa (0≤bK nums ab[i].atom.A) with h7|h7
     ·rw[jP,if_neg k2,if_pos ⟨h6,h7⟩] at hs
      have hA:=cV.1 h7
      have hB:=(hF.eq k1).1 hA
      have hm:∀t∈[ab[i].atom.A,ab[i].atom.B],t∈nums:=by
       intro t ht
       simp only[List.mem_cons,List.not_mem_nil,or_false] at ht
       rcases ht with rfl|rfl
       ·exact hA
       ·exact hB
      have c1:=vh nums [ab[i].atom.A,ab[i].atom.B] [1,-1] 0 false h4 hm rfl (by intro n hn;simp at hn;omega) (by simp)
      have c2:=vh nums [ab[i].atom.A,ab[i].atom.B] [-1,1] 0 false h4 hm rfl (by intro n hn;simp at hn;omega) (by simp)
      clear hm
      simp -implicitDefEqProofs only[go_sem,h7]
      refine bw [] c1 ?_ ?_<;>simp -implicitDefEqProofs only[go_sem,dC,jF]
      refine bw [] c2 ?_ ?_<;>simp -implicitDefEqProofs only[go_sem,dC,jF]
      refine sQ ?_
      refine⟨i+1,?_,sL,ar [some 3] ?_ ?_ rfl rfl⟩
      rotate_left
      ·exact sC
      ·refine sA ?_
       all_goals((rw[hs,←mD,iD,iD,lp];rfl))
      exact h1
     ·rw[jP,if_neg k2,if_neg (by simp[h6,h7]),bl] at hs
      simp -implicitDefEqProofs only[go_sem,h7]
      refine sQ ?_
      refine⟨i+1,?_,sL,ar [some 0] ?_ ?_ rfl rfl⟩
      rotate_left
      ·exact sC
      ·refine sA ?_
       all_goals((rw[hs]))
      exact h1
    ·rw[jP,if_neg k2,if_neg (by simp[h6]),bl] at hs
     simp -implicitDefEqProofs only[go_sem,h1,k2,h6]
     refine sQ ?_
     refine⟨i+1,?_,sL,ar [some 0] ?_ ?_ rfl rfl⟩
     rotate_left
     ·exact sC
     ·refine sA ?_
      all_goals((rw[hs]))
     exact h1
  ·refine uA ?_
   refine an ?_
   refine sA ?_
   rw[ao (by omega)]
theorem vy(a b:Term):C E.P 52 [av (cT a),av (cT b)] [] (bz (av (nW (hU a b))) []):=by
 refine gS (nt:=9) (rs:=[.cell 4 49]) hm Tryz.func52 fun hl he cq=>?_
 refine an ?_
 refine sA ?_
 all_goals(simp[hU,zS];done)
theorem rM(a b:Term)(ha:isTerm a=true)(hb:isTerm b=true):C E.P 113 [av (cT a),av (cT b)] [] (bz (av (nW (eE a b))) []):=by
 refine gS (nt:=24) (rs:=[.cell 4 49]) hm Tryz.func113 fun hl he cq=>?_
 refine aC [] (na a ha) ?_
 refine bw [] (na b hb) ?_ ?_<;>simp -implicitDefEqProofs only[go_sem,E7]
 refine iK ?_
 cases q:gy (aO b) (aO a)
 ·have h5:Op.bytesLess (aO b) (aO a)=false:=q
  refine uE ?_
  refine an ?_
  refine sA ?_
  all_goals(simp[eE,q,dC,jF,cT];done)
 ·have h5:Op.bytesLess (aO b) (aO a)=true:=q
  refine uE ?_
  refine an ?_
  refine sA ?_
  all_goals(simp[eE,q,dC,jF,cT];done)
theorem Ew:C E.P 111 [.b8] [] (bz (.acc 0) [some (.acc 49 [])]):=by
 refine gS (nt:=8) (rs:=[.tmp 2]) hm Tryz.func111 fun hl he cq=>?_
 refine Kn 49 _ true rfl rfl (by simp -implicitDefEqProofs only[go_sem]) Kj ?_
 refine sA ?_
 refine bZ [none] ?_ rfl rfl
 exact sC
theorem Eh(a:Addr)(c:Nat):C E.P 111 [.d (.val (.slice (some a) 0 c))] [] (bz (.acc 0) [some (.acc 49 [])]):=by
 refine gS (nt:=8) (rs:=[.tmp 2]) hm Tryz.func111 fun hl he cq=>?_
 refine Kn 49 _ false rfl rfl (p:=.d (.val (.slice (some a) 0 c))) (by simp -implicitDefEqProofs only[go_sem]) (J9 _ _ _) ?_
 refine sA ?_
 refine sQ ?_
 refine bZ [some 1] ?_ rfl rfl
 exact sC
theorem CP(r:List D)(rs:List (List D))(hl1:rs.length≤1000)(h1:∀y∈r::rs,y.length=10):C E.P 111 [.d (.dt (r::rs))] [] (bz (.acc 0) [some (.acc 49 (r::rs))]):=by
 refine gS (nt:=8) (rs:=[.tmp 2]) hm Tryz.func111 fun hl he cq=>?_
 refine Kn 49 _ false rfl rfl (p:=.d (.dt (r::rs))) (by simp -implicitDefEqProofs only[go_sem]) Kd ?_
 refine sA ?_
 refine au ⟨?_,by omega,by omega⟩ ?_
 ·simpa using h1
 refine bZ [some 1] ?_ rfl rfl
 exact sC
theorem Nu(ab:List bm)(hl1:ab.length≤1000):C E.P 111 [lv (aV ab)] [] (bz (.acc 0) [some (.acc 49 (aV ab))]):=by
 cases ab with
 | nil=>exact RK Ew Eh
 | cons x xs=>
   have h1:=Ds (x::xs)
   rw[m0] at h1⊢
   exact CP (nW x) (aV xs) (by rw[Dt];simp at hl1;omega) h1
theorem vJ(ab:List bm)(l:bm)(hl1:ab.length≤100):C E.P 51 [lv (aV ab),av (nW l)] [] (bz (lv (aV (ab++[l]))) []):=by
 refine gS (nt:=10) (rs:=[.tmp 4]) hm Tryz.func51 fun hl he cq=>?_
 refine oC [] [1] (Nu ab (by omega)) ?_
 refine sQ ?_
 refine an ?_
 refine sA ?_
 rw[←DW,m0,tE]
 rfl
theorem zm(a b:Term)(ta:isTerm a=true)(tb:isTerm b=true):C E.P 57 [av (cT a),av (cT b)] [] (bz (lv (aV (fS a b))) []):=by
 refine gS (nt:=15) (rs:=[.tmp 4]) hm Tryz.func57 fun hl he cq=>?_
 refine aC [] (vy a b) ?_
 refine aC [] (rM a b ta tb) ?_
 refine aC [] (rM b a tb ta) ?_
 refine iK ?_
 refine an ?_
 refine sA ?_
 rw[fS,m0,m0,m0,tE]
 rfl
theorem yW(s:dK)(nums:List Term)(a b:Term):C E.P 80 [.agg [.d (.dt (dY s.syms)),.d (.dt (aN nums))],av (cT a),av (cT b)] [] (bz (bv (Mod.differ nums a b)) []):=by
 refine gS (nt:=28) (rs:=[.tmp 6]) hm Tryz.func80 fun hl he cq=>?_
 refine aC [] (dE nums a) ?_
 refine aC [] (dE nums b) ?_
 refine iK ?_
 rcases aa (0≤bK nums a) with h1|h1
 ·rcases aa (0≤bK nums b) with h2|h2
  ·refine uJ ?_
   refine an ?_
   refine sA ?_
   simp only[Mod.differ,h1,h2,decide_true,Bool.true_and]
   simp
  ·refine uJ ?_
   refine an ?_
   refine sA ?_
   all_goals(simp[Mod.differ,h1,h2];done)
 ·refine uA ?_
  refine an ?_
  refine sA ?_
  all_goals(simp[Mod.differ,h1];done)
theorem Ig(c:Case):C E.P 76 [av (gH c),bv true,bv true,bv false,bv false,iv 0] [] (bz (bv (bare c true true false false 0)) []):=by
 refine gS (nt:=57) (rs:=[.tmp 12]) hm Tryz.func76 fun hl he cq=>?_
 rcases aa ((c.times.length:Int)=0) with t0|t0
 rotate_left
 ·have t1:¬c.times=[]:=fun e=>t0 (by rw[e];rfl)
  simp -implicitDefEqProofs only[go_sem,t0]
  refine an ?_
  refine sA ?_
  all_goals(simp[bare,t1];done)
 have t1:c.times=[]:=dP.1 (by omega)
 have kt:=eq_true t0
 simp -implicitDefEqProofs only[go_sem,kt]
 refine aC [] (fH c.A) ?_
 cases pA:isNone c.A
 ·refine sA ?_
  refine an ?_
  refine sA ?_
  all_goals(simp[bare,pA];done)
 refine sA ?_
 refine aC [] (fH c.B) ?_
 cases pB:isNone c.B
 ·refine sA ?_
  refine an ?_
  refine sA ?_
  all_goals(simp[bare,pB];done)
 refine sA ?_
 have e:decide ((c.kids.length:Int)=0)=decide (c.kids.length=0):=decide_eq_decide.2 (by omega)
 refine an ?_
 refine sA ?_
 have eb:bare c true true false false 0=decide (c.kids.length=0):=by simp[bare,t1,pA,pB]
 rw[eb,←e]
theorem Im(c:Case):C E.P 76 [av (gH c),bv false,bv false,bv true,bv false,iv 0] [] (bz (bv (bare c false false true false 0)) []):=by
 refine gS (nt:=57) (rs:=[.tmp 12]) hm Tryz.func76 fun hl he cq=>?_
 rcases aa (c.n=0) with n0|n0
 rotate_left
 ·simp -implicitDefEqProofs only[go_sem,n0]
  refine an ?_
  refine sA ?_
  all_goals(simp[bare,n0];done)
 have kn:=eq_true n0
 simp -implicitDefEqProofs only[go_sem,kn]
 refine aC [] (rI c.qk sU) ?_
 rcases aa (c.qk=sU) with hw|hw
 rotate_left
 ·simp -implicitDefEqProofs only[go_sem,hw]
  refine an ?_
  refine sA ?_
  all_goals(simp[bare,hw];done)
 have kw:=eq_true hw
 simp -implicitDefEqProofs only[go_sem,kw]
 refine aC [] (fH c.A) ?_
 cases pA:isNone c.A
 ·refine sA ?_
  refine an ?_
  refine sA ?_
  all_goals(simp[bare,pA];done)
 refine sA ?_
 refine aC [] (fH c.B) ?_
 cases pB:isNone c.B
 ·refine sA ?_
  refine an ?_
  refine sA ?_
  all_goals(simp[bare,pB];done)
 refine sA ?_
 have e:decide ((c.kids.length:Int)=0)=decide (c.kids.length=0):=decide_eq_decide.2 (by omega)
 refine an ?_
 refine sA ?_
 have eb:bare c false false true false 0=decide (c.kids.length=0):=by simp[bare,n0,hw,pA,pB]
 rw[eb,←e]
theorem IW(c:Case):C E.P 76 [av (gH c),bv false,bv true,bv false,bv false,iv 1] [] (bz (bv (bare c false true false false 1)) []):=by
 refine gS (nt:=57) (rs:=[.tmp 12]) hm Tryz.func76 fun hl he cq=>?_
 rcases aa (c.n=0) with n0|n0
 rotate_left
 ·simp -implicitDefEqProofs only[go_sem,n0]
  refine an ?_
  refine sA ?_
  all_goals(simp[bare,n0];done)
 have kn:=eq_true n0
 simp -implicitDefEqProofs only[go_sem,kn]
 rcases aa ((c.times.length:Int)=0) with t0|t0
 rotate_left
 ·have t1:¬c.times=[]:=fun e=>t0 (by rw[e];rfl)
  simp -implicitDefEqProofs only[go_sem,t0]
  refine an ?_
  refine sA ?_
  all_goals(simp[bare,t1];done)
 have t1:c.times=[]:=dP.1 (by omega)
 have kt:=eq_true t0
 simp -implicitDefEqProofs only[go_sem,kt]
 refine aC [] (fH c.A) ?_
 cases pA:isNone c.A
 ·refine sA ?_
  refine an ?_
  refine sA ?_
  all_goals(simp[bare,pA];done)
 refine sA ?_
 refine aC [] (fH c.B) ?_
 cases pB:isNone c.B
 ·refine sA ?_
  refine an ?_
  refine sA ?_
  all_goals(simp[bare,pB];done)
 refine sA ?_
 have e:decide ((c.kids.length:Int)=1)=decide (c.kids.length=1):=decide_eq_decide.2 (by omega)
 refine an ?_
 refine sA ?_
 have eb:bare c false true false false 1=decide (c.kids.length=1):=by simp[bare,n0,t1,pA,pB]
 rw[eb,←e]
theorem ID(c:Case):C E.P 76 [av (gH c),bv false,bv false,bv false,bv true,iv 3] [] (bz (bv (bare c false false false true 3)) []):=by
 refine gS (nt:=57) (rs:=[.tmp 12]) hm Tryz.func76 fun hl he cq=>?_
 rcases aa (c.n=0) with n0|n0
 rotate_left
 ·simp -implicitDefEqProofs only[go_sem,n0]
  refine an ?_
  refine sA ?_
  all_goals(simp[bare,n0];done)
 have kn:=eq_true n0
 simp -implicitDefEqProofs only[go_sem,kn]
 refine aC [] (rI c.qk sU) ?_
 rcases aa (c.qk=sU) with hw|hw
 rotate_left
 ·simp -implicitDefEqProofs only[go_sem,hw]
  refine an ?_
  refine sA ?_
  all_goals(simp[bare,hw];done)
 have kw:=eq_true hw
 simp -implicitDefEqProofs only[go_sem,kw]
 rcases aa ((c.times.length:Int)=0) with t0|t0
 rotate_left
 ·have t1:¬c.times=[]:=fun e=>t0 (by rw[e];rfl)
  simp -implicitDefEqProofs only[go_sem,t0]
  refine an ?_
  refine sA ?_
  all_goals(simp[bare,t1];done)
 have t1:c.times=[]:=dP.1 (by omega)
 have kt:=eq_true t0
 simp -implicitDefEqProofs only[go_sem,kt]
 have e:decide ((c.kids.length:Int)=3)=decide (c.kids.length=3):=decide_eq_decide.2 (by omega)
 refine an ?_
 refine sA ?_
 have eb:bare c false false false true 3=decide (c.kids.length=3):=by simp[bare,n0,hw,t1]
 rw[eb,←e]
theorem wE(s:dK)(t:Term):C E.P 39 [av (cT t),.gq [dV s] 0 0] [] (bz (bv (!dw s t)) []):=by
 refine gS (nt:=8) (rs:=[.tmp 3]) hm Tryz.func39 fun hl he cq=>?_
 refine aC [] (wD s t) ?_
 refine an ?_
 exact sC
theorem SG{a:List Term}{i:Nat}(h:i<a.length)(v:Term):(aN a).set i (sS (row (aN a) i) 0 (cT v))=aN (a.set i v):=by
 have e:sS (row (aN a) i) 0 (cT v)=cT v:=by
  rw[CY h]
  simp[sS,cT]
 rw[e,kN,kN,List.map_set]
theorem FC{p:Term→Bool}:∀{xs:List Term}{i:Int},0≤i→(gh p xs i = -1∧xs.filter (fun t=>!p t)=xs)∨∃j:Nat,gh p xs i=i+j∧j<xs.length∧(xs.take (j+1)).filter (fun t=>!p t)=xs.take j
 | [],i,_=>.inl (by simp[gh])
 | x::xs,i,h=>by
   simp only[gh]
   cases hx:p x with
   | true=>
     refine .inr ⟨0,?_,by simp,by simp[hx]⟩
     simp
   | false=>
     simp only[ax,if_false]
     rcases FC (p:=p) (xs:=xs) (i:=i+1) (by omega) with⟨h1,h2⟩|⟨j,h1,h2,h3⟩
     ·exact .inl ⟨h1,by simp[hx,h2]⟩
     ·refine .inr ⟨j+1,by rw[h1];omega,by simp;omega,?_⟩
      rw[dQ,jB,dQ,h3]
      simp[hx]
theorem A0(s:dK)(xs:List Term)(hl1:xs.length≤10000):C E.P 38 [.acc 0,.fn 39 [.ptr 1 0]] [some (.acc 34 (aN xs)),some (.box (cE (dV s)))] (bz (lv (aN (xs.filter (dw s)))) [some .dead,some (.box (cE (dV s)))]):=by
 have cq:LB=1099511627776:=rfl
 refine HA (nt:=42) (rs:=[.tmp 4]) Tryz.func38 rfl rfl rfl rfl rfl (fun hl he=>?_)
 simp -implicitDefEqProofs only[go_sem] at hl he⊢
 refine fl (iI hm ?_)
 simp -implicitDefEqProofs only[go_sem,dW,dS]
 refine fl (iI hm ?_)
 refine sA ?_
 refine dH [] [0,1] (pO 39 [.gq [dV s] 0 0] rfl (fun t=>!dw s t) xs (fun t _=>wE s t)) rfl ?_ ?_ ?_
 ·exact sV
 all_goals simp -implicitDefEqProofs only[go_sem]
 simp -implicitDefEqProofs only[go_sem,dW,dS]
 rcases FC (p:=fun t=>!dw s t) (xs:=xs) (i:=0) (by omega) with⟨h1,h2⟩|⟨j0,h1,h2,h3⟩
 ·have e:idxOf (fun t=>!dw s t) xs = -1:=h1
  rw[e]
  refine fl (iI hm ?_)
  simp -implicitDefEqProofs only[go_sem,dW,yo]
  refine⟨_,JS 4 0 34 (aN xs) rfl rfl,?_⟩
  have e2:xs.filter (dw s)=xs:=by simpa using h2
  rw[e2]
  refine bZ [some 0,some 1] ?_ rfl rfl
  refine sA ?_
  all_goals simp
 ·have e:idxOf (fun t=>!dw s t) xs=(j0:Int):=by rw[idxOf,h1];omega
  rw[e]
  have n1:¬ (j0:Int) = -1:=by omega
  refine fl (iI hm ?_)
  simp -implicitDefEqProofs only[go_sem,dW,dS,n1]
  refine fl (iI hm ?_)
  refine sA ?_
  refine sQ ?_
  refine kS hm (fun(i:Nat) (j:Nat) (a:List Term)=> i≤j∧j≤xs.length∧a.length=xs.length∧a.take i=(xs.take j).filter (dw s)∧a.drop j=xs.drop j) (fun(i:Nat) (j:Nat) (a:List Term)=> ⟨dx 42 .any [(0,.acc 0),(1,.fn 39 [.ptr 1 0]),(5,iv i),(6,iv j)],[some (.acc 34 (aN a)),some (.box (cE (dV s)))]⟩) (fun(i:Nat) (j:Nat) (a:List Term)=> xs.length-j) (j0) (j0+1) (xs) ?_ (ar [some 0,some 1] ?_ ?_ rfl rfl) ?_
  rotate_left
  ·exact sC
  ·exact sC
  rotate_left
  ·exact⟨by omega,by omega,rfl,by simpa using h3.symm,rfl⟩
  ·rintro i j a ⟨hij,hj,hal,ht,hd⟩
   rcases aa (j<xs.length) with h1|h1
   ·have h1a:j<a.length:=by omega
    have hia:i<a.length:=by omega
    have hx:a[j]=xs[j]:=by
     have h4:(a.drop j)[0]?=(xs.drop j)[0]?:=by rw[hd]
     simpa[h1,h1a] using h4
    have hf:(xs.take (j+1)).filter (dw s)=(xs.take j).filter (dw s)++(if dw s xs[j] then [xs[j]] else []):=by
     rw[bq,List.getElem?_eq_getElem h1,List.filter_append]
     congr 1
     simp[jB]
    simp -implicitDefEqProofs only[go_sem,h1a]
    refine dH [.ptr 1 0] [1] (wE s a[j]) rfl ?_ ?_ ?_
    ·exact sV
    all_goals simp -implicitDefEqProofs only[go_sem]
    rw[hx]
    cases h4:dw s xs[j]
    ·rw[h4] at hf
     refine sA ?_
     refine au (by omega) ?_
     refine⟨i,j+1,a,?_,sL,ar [some 0,some 1] ?_ ?_ rfl rfl⟩
     rotate_left
     ·exact sC
     ·exact sC
     refine⟨by omega,by omega,hal,by rw[hf,ht];simp,?_⟩
     have h5:=congrArg (fx 1) hd
     simpa[mV] using h5
    ·rw[h4] at hf
     simp -implicitDefEqProofs only[go_sem,hia]
     have hset:(aN a).set i (sS [D.str a[i].name,D.dt (aN a[i].kids)] 0 [D.str xs[j].name,D.dt (aN xs[j].kids)])=aN (a.set i xs[j]):=by
      have h5:=SG hia xs[j]
      rw[CY hia] at h5
      exact h5
     refine au (by omega) (au (by omega) ?_)
     refine⟨i+1,j+1,a.set i xs[j],?_,sL,ar [some 0,some 1] ?_ ?_ rfl rfl⟩
     rotate_left
     ·exact sC
     ·refine sA ?_
      all_goals(exact hset)
     refine⟨by omega,by omega,by simp[hal],?_,?_⟩
     ·rw[hf,←ht,bq]
      simp[hia,List.take_set_of_le]
     ·have h5:=congrArg (fx 1) hd
      rw[List.drop_set_of_lt (by omega)]
      simpa[mV] using h5
   ·simp -implicitDefEqProofs only[go_sem,h1,hal]
    simp only[dW,dS]
    have hjn:j=xs.length:=by omega
    refine fl (oB ?_)
    refine yh (FP.plain rfl (LK _)) (yh (FP.plain rfl (LK _)) ?_)
    refine sA ?_
    refine aau (t:=32) (e:=34) (k:=0) (m:=(i:Int)) (xs:=aN a) [.str [],.dt []] _ _ rfl rfl rfl rfl ?_ ?_ ?_ (by omega) (by rw[rA];omega) ?_ ?_
    ·exact sC
    ·exact sC
    ·exact sC
    ·simp only[Bw]
     omega
    refine wc ?_
    simp -implicitDefEqProofs only[go_sem,dS]
    refine iI hm ?_
    refine sA ?_
    refine fg (YH (.tmp 39) (.tmp 40) 32 34 0 _ _ (Oh [.str [],.dt []] (aN a) i) (i:Int) rfl rfl rfl ?_ ?_ ?_ (by omega) (by rw[XB _ _ _ (by rw[rA];omega),rA];omega)) ?_
    ·exact sC
    ·exact sC
    ·exact sC
    simp -implicitDefEqProofs only[go_sem,dW]
    refine eP ?_
    refine bZ [some 0,some 1] ?_ rfl rfl
    refine sA ?_
    rw[VP _ _ _ (by rw[rA];omega),Qo,ht,hjn,List.take_length]
theorem tS(s:dK)(ab:List bm)(hl1:ab.length≤100)(hw:∀l∈ab,cQ l.atom=true):C E.P 17 [av (dV s),lv (aV ab)] [] (bz (lv (aN (numsOf s ab))) []):=by
 have hn:(aw ab).length≤10000:=by
  obtain⟨hle,eW⟩:=iQ hw
  have h1:=qN (eF ab) [] eW
  rw[lD,kC eW]
  simp only[List.length_nil] at h1
  omega
 have e:(aw ab).filter (dw s)=numsOf s ab:=rfl
 refine gS (nt:=9) (rs:=[.tmp 4]) hm Tryz.func17 fun hl he cq=>?_
 refine oC [] [1] (xS ab hl1 hw) ?_
 have hcall:=A0 s (aw ab) hn
 rw[e] at hcall
 refine gw [] [1,0] hcall ?_ ?_
 ·refine sA ?_
  rfl
 refine sA ?_
 refine an ?_
 exact sC
end Go.Proofs.YtabembjmeobhoaaGreat
