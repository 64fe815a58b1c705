/-
  The walks of literals: their terms, equations and sums. A step towards the exact laws.
-/
import Derived.Test.YtabembjmeobhoaaGreatKBM
import Derived.Test.YtabembjmeobhoaaGreatKBI
set_option linter.unusedVariables false
set_option linter.unusedSimpArgs false
open And renaming intro→ar
open Bool renaming false_eq_true→ax
open Classical renaming em→aa
open List renaming getElem_mem→ak,take_of_length_le→ao,take_add_one→bC,append_nil→bF,take_succ_cons→dH,mem_of_mem_take→eV,drop→fm,filter_cons→jz,drop_drop→mP
namespace Go.Proofs.YtabembjmeobhoaaGreat
open Go.Eng Go.Mod
open Int renaming reduceEq→Z1,reduceLT→Z2,reduceLE→Z3,reduceToNat→Z4
set_option maxRecDepth 100000
set_option maxHeartbeats 800000
theorem qf(xs:List Term)(hx:xs.length≤1000)(lP:∀t∈xs,isTerm t=true):C E.P 37 [lv (aP xs)] [] (bM (.acc 0) [some (.acc 34 (aP (lQ xs)))]):=by
 refine gS (nt:=20) (rs:=[.tmp 2]) hm Tryz.func37 fun hl he cI=>?_
 refine dm hm (fun(i:Nat) (out:List Term)=> i≤xs.length∧lQ xs=pV (xs.drop i) out∧out.length≤15*i) (fun(i:Nat) (out:List Term)=> ⟨dB 20 .any [(3,.acc 0),(6,lv (aP xs)),(7,iv xs.length),(8,iv i)],[some (.acc 34 (aP out))]⟩) (fun(i:Nat) (out:List Term)=> xs.length-i) (0) ([]) ?_ (aw [none] ?_ ?_ rfl rfl) ?_
 rotate_left
 ·exact sC
 ·exact sC
 rotate_left
 ·simp[lQ]
 ·rintro i out ⟨hi,hg,ho⟩
  rcases aa (i<xs.length) with h1|h1
  ·have h2:=lP xs[i] (ak h1)
   rw[Lp h1 h2] at hg
   have hs:=iC h2
   have hle:=Bg (l:=out) hs (by omega)
   simp -implicitDefEqProofs only[go_sem,h1]
   refine aC [] (nj xs[i]) ?_
   simp -implicitDefEqProofs only[go_sem,h2]
   refine oC [] [0,2] (B3 xs[i] 4 out (by omega) hs (by omega)) ?_
   refine sQ ?_
   refine⟨i+1,dh out xs[i],?_,sL,aw [some 2] ?_ ?_ rfl rfl⟩
   rotate_left
   ·exact sC
   ·exact sC
   exact⟨by omega,hg,by omega⟩
  ·rw[List.drop_of_length_le (by omega),pV] at hg
   simp -implicitDefEqProofs only[go_sem,h1]
   refine bX [some 0] ?_ rfl rfl
   refine sA ?_
   rw[hg]
theorem wS(ab:List bp)(hl1:ab.length≤100)(hw:∀l∈ab,cJ l.atom=true):C E.P 16 [lv (a6 ab)] [] (bM (.acc 0) [some (.acc 34 (aP (aA ab)))]):=by
 obtain⟨hle,eP⟩:=iT hw
 refine gS (nt:=20) (rs:=[.tmp 2]) hm Tryz.func16 fun hl he cI=>?_
 refine aO hm (fun(i:Nat)=> i≤ab.length) (fun(i:Nat)=> ⟨dB 20 .any [(3,.acc 0),(6,lv (a6 ab)),(7,iv ab.length),(8,iv i)],[some (.acc 34 (aP (dI (ab.take i))))]⟩) (fun(i:Nat)=> ab.length-i) (0) ?_ (aw [none] ?_ ?_ rfl rfl) ?_
 rotate_left
 ·exact sC
 ·refine sA ?_
  all_goals(rfl)
 rotate_left
 ·omega
 ·rintro i hi
  rcases aa (i<ab.length) with h1|h1
  ·have h2:=iT (ab:=ab.take i) fun l hl=>hw l (eV hl)
   have h3:=mS (hw ab[i] (ak h1))
   have h4:(ab.take i).length≤100:=by simp;omega
   simp -implicitDefEqProofs only[go_sem,h1]
   refine aC [] (tm ab[i].atom) ?_
   refine sQ ?_
   refine⟨i+1,?_,sL,aw [some 2] ?_ ?_ rfl rfl⟩
   rotate_left
   ·exact sC
   ·refine sA ?_
    all_goals((rw[tq h1,←lV]))
   exact h1
  ·have e:ab.take i=ab:=ao (by omega)
   simp -implicitDefEqProofs only[go_sem,h1,e]
   refine oC [] [0,1] (TT (e:=34) (rest:=[]) rfl (qf (dI ab) (by omega) eP)) ?_
   refine bX [some 1] ?_ rfl rfl
   refine sA ?_
   rfl
theorem K6(ab:List bp)(hl1:ab.length≤100):C E.P 41 [lv (a6 ab)] [] (bM (lv (gP (bc ab))) []):=by
 refine gS (nt:=35) (rs:=[.tmp 2]) hm Tryz.func41 fun hl he cI=>?_
 refine aO hm (fun(i:Nat)=> i≤ab.length) (fun(i:Nat)=> ⟨dB 35 .any [(3,.acc 0),(6,lv (a6 ab)),(7,iv ab.length),(8,iv i)],[some (.acc 134 (gP (bc (ab.take i))))]⟩) (fun(i:Nat)=> ab.length-i) (0) ?_ (aw [none] ?_ ?_ rfl rfl) ?_
 rotate_left
 ·exact sC
 ·refine sA ?_
  all_goals(rfl)
 rotate_left
 ·omega
 ·rintro i hi
  rcases aa (i<ab.length) with h1|h1
  ·have h2:=Iv (ab.take i)
   have h4:(ab.take i).length≤100:=by simp;omega
   have hs:=E8 h1
   rcases aa (ab[i].atom.kind=1) with h5|h5
   ·have k5:=eq_true h5
    cases h6:ab[i].no
    ·rw[if_pos ⟨h5,h6⟩] at hs
     simp -implicitDefEqProofs only[go_sem,h1,k5,h6]
     refine aC [] (jX ab[i].atom.A) ?_
     refine aC [] (jX ab[i].atom.B) ?_
     refine sQ ?_
     refine⟨i+1,?_,sL,aw [some 2] ?_ ?_ rfl rfl⟩
     rotate_left
     ·exact sC
     ·refine sA ?_
      all_goals((rw[hs,←yX,xu,rL];rfl))
     exact h1
    ·rw[if_neg (by simp[h6]),bF] at hs
     simp -implicitDefEqProofs only[go_sem,h1,k5,h6]
     refine sQ ?_
     refine⟨i+1,?_,sL,aw [some 0] ?_ ?_ rfl rfl⟩
     rotate_left
     ·exact sC
     ·refine sA ?_
      all_goals((rw[hs]))
     exact h1
   ·rw[if_neg (by simp[h5]),bF] at hs
    simp -implicitDefEqProofs only[go_sem,h1,h5]
    refine sQ ?_
    refine⟨i+1,?_,sL,aw [some 0] ?_ ?_ rfl rfl⟩
    rotate_left
    ·exact sC
    ·refine sA ?_
     all_goals((rw[hs]))
    exact h1
  ·simp -implicitDefEqProofs only[go_sem,h1]
   refine an ?_
   refine sA ?_
   rw[ao (by omega)]
theorem vy(nums ts:List Term)(ns:List Int)(b:Int)(st:Bool)(h4:nums.length≤4)(ki:∀t∈ts,t∈nums)(hn:ns.length=ts.length)(hb:∀n∈ns,-50≤n∧n≤50)(hl4:ts.length≤4) :
 C E.P 108 [lv (aP nums),lv (aP ts),lv (bG ns),iv b,bv st] [] (bM (av (eF (lN nums ts ns b st))) []):=by
 have cI:=jQ
 refine lJ (nt:=40) (rs:=[.cell 10 162]) hm Tryz.func108 rfl rfl rfl rfl rfl (fun hl he=>?_)
 simp -implicitDefEqProofs only[go_sem,Z3,Z4] at hl⊢
 refine sQ ?_
 refine aO hm (fun(i:Nat)=> i≤ts.length) (fun(i:Nat)=> ⟨dB 40 .any [(0,lv (aP nums)),(2,lv (bG ns)),(10,.ptr 0 0),(11,.ptr 1 0),(18,lv (aP ts)),(19,iv ts.length),(20,iv i)],[some (.box (cF (eF mC))),some (.box [.acc 2,.d (.val (.int .i64 b)),.d (.val (.bool st))]),some (.acc 3 (bG (jP nums (ts.take i) (ns.take i) [0,0,0,0])))]⟩) (fun(i:Nat)=> ts.length-i) (0) ?_ (aw [some 0,some 2,some 1] ?_ ?_ rfl rfl) ?_
 rotate_left
 ·exact sC
 ·refine sA ?_
  all_goals(simp[bG,List.replicate,jP])
 rotate_left
 ·omega
 ·rintro i hi
  rcases aa (i<ts.length) with h1|h1
  ·have h2:i<ns.length:=by omega
   have ki:=ki ts[i] (ak h1)
   have x1:=cK.2 ki
   have x2:=nP ki
   have hL:(jP nums (ts.take i) (ns.take i) [0,0,0,0]).length=4:=IJ
   have x3:(bL nums ts[i]).toNat<(jP nums (ts.take i) (ns.take i) [0,0,0,0]).length:=by omega
   have hB:=CF (nums:=nums) (ts:=ts.take i) (ns:=ns.take i) (cs:=[0,0,0,0]) (m:=0) (by simp) (fun n hn=>hb n (eV hn)) (by omega) _ (ak x3)
   have hB2:((ts.take i).length:Int)≤4:=by simp;omega
   have hB3:=hb ns[i] (ak h2)
   simp -implicitDefEqProofs only[go_sem,h1]
   refine bQ [] (eE nums ts[i]) ?_ ?_<;>simp -implicitDefEqProofs only[go_sem,x3,h2]
   refine sQ ?_
   refine⟨i+1,?_,sL,aw [some 0,some 1,some 2] ?_ ?_ rfl rfl⟩
   rotate_left
   ·exact sC
   ·refine sA ?_
    all_goals((rw[GI h1 h2,tV _ x1,←BZ x3,qY x3];simp[sr]))
   exact h1
  ·have e1:ts.take i=ts:=ao (by omega)
   have e2:ns.take i=ns:=ao (by omega)
   simp -implicitDefEqProofs only[go_sem,h1,e1,e2]
   refine an ?_
   refine sA ?_
   all_goals(simp[lN];done)
theorem HU(nums:List Term)(ab:List bp)(h4:nums.length≤4)(hl1:ab.length≤100)(hf:∀l∈ab,Fit nums l):C E.P 45 [lv (aP nums),lv (a6 ab)] [] (bM (lv (db (dQ nums ab))) []):=by
 refine gS (nt:=70) (rs:=[.tmp 4]) hm Tryz.func45 fun hl he cI=>?_
 refine aO hm (fun(i:Nat)=> i≤ab.length) (fun(i:Nat)=> ⟨dB 70 .any [(0,lv (aP nums)),(5,.acc 0),(11,lv (a6 ab)),(12,iv ab.length),(13,iv i)],[some (.acc 162 (db (dQ nums (ab.take i))))]⟩) (fun(i:Nat)=> ab.length-i) (0) ?_ (aw [none] ?_ ?_ rfl rfl) ?_
 rotate_left
 ·exact sC
 ·refine sA ?_
  all_goals(rfl)
 rotate_left
 ·omega
 ·rintro i hi
  rcases aa (i<ab.length) with h1|h1
  ·have h2:=ze nums (ab.take i)
   have h3:(ab.take i).length≤100:=by simp;omega
   have hs:=CT (nums:=nums) h1
   have hF:=hf ab[i] (ak h1)
   rcases aa (ab[i].atom.kind=2) with k2|k2
   ·have k:=eq_true k2
    have hw:=mF hF.wf k2
    have hc:=vy nums ab[i].atom.nums ab[i].atom.times ab[i].atom.bound ab[i].atom.strict h4 (hF.sum k2) hw.2.2.2.1 (uz hw.2.2.2.2.2 hw.2.2.2.1).2 hw.2.2.1
    simp -implicitDefEqProofs only[go_sem,h1,k]
    refine aC [] hc ?_
    cases h6:ab[i].no
    ·rw[iV,if_pos k2,h6] at hs
     simp only[ax,if_false] at hs
     refine sA ?_
     refine sQ ?_
     refine⟨i+1,?_,sL,aw [some 4] ?_ ?_ rfl rfl⟩
     rotate_left
     ·exact sC
     ·refine sA ?_
      all_goals((rw[hs,←mL,iz,lk];rfl))
     exact h1
    ·rw[iV,if_pos k2,h6] at hs
     simp only[if_true] at hs
     refine sA ?_
     refine aC [] (HP (lN nums ab[i].atom.nums ab[i].atom.times ab[i].atom.bound ab[i].atom.strict)) ?_
     refine sQ ?_
     refine⟨i+1,?_,sL,aw [some 4] ?_ ?_ rfl rfl⟩
     rotate_left
     ·exact sC
     ·refine sA ?_
      all_goals((rw[hs,←mL,iz,lk];rfl))
     exact h1
   ·have k1:ab[i].atom.kind=1:=(j6 hF.wf).resolve_right k2
    cases h6:ab[i].no
    ·simp -implicitDefEqProofs only[go_sem,h1,k2,h6]
     refine aC [] (eE nums ab[i].atom.A) ?_
     rcases aa (0≤bL nums ab[i].atom.A) with h7|h7
     ·rw[iV,if_neg k2,if_pos ⟨h6,h7⟩] at hs
      have hA:=cK.1 h7
      have hB:=(hF.eq k1).1 hA
      have hm:∀t∈[ab[i].atom.A,ab[i].atom.B],t∈nums:=by
       intro t ht
       simp only[List.mem_cons,List.not_mem_nil,or_false] at ht
       rcases ht with rfl|rfl
       ·exact hA
       ·exact hB
      have c1:=vy nums [ab[i].atom.A,ab[i].atom.B] [1,-1] 0 false h4 hm rfl (by intro n hn;simp at hn;omega) (by simp)
      have c2:=vy nums [ab[i].atom.A,ab[i].atom.B] [-1,1] 0 false h4 hm rfl (by intro n hn;simp at hn;omega) (by simp)
      clear hm
      simp -implicitDefEqProofs only[go_sem,h7]
      refine bQ [] c1 ?_ ?_<;>simp -implicitDefEqProofs only[go_sem,dM,jG]
      refine bQ [] c2 ?_ ?_<;>simp -implicitDefEqProofs only[go_sem,dM,jG]
      refine sQ ?_
      refine⟨i+1,?_,sL,aw [some 3] ?_ ?_ rfl rfl⟩
      rotate_left
      ·exact sC
      ·refine sA ?_
       all_goals((rw[hs,←mL,iz,iz,lk];rfl))
      exact h1
     ·rw[iV,if_neg k2,if_neg (by simp[h6,h7]),bF] at hs
      simp -implicitDefEqProofs only[go_sem,h7]
      refine sQ ?_
      refine⟨i+1,?_,sL,aw [some 0] ?_ ?_ rfl rfl⟩
      rotate_left
      ·exact sC
      ·refine sA ?_
       all_goals((rw[hs]))
      exact h1
    ·rw[iV,if_neg k2,if_neg (by simp[h6]),bF] at hs
     simp -implicitDefEqProofs only[go_sem,h1,k2,h6]
     refine sQ ?_
     refine⟨i+1,?_,sL,aw [some 0] ?_ ?_ rfl rfl⟩
     rotate_left
     ·exact sC
     ·refine sA ?_
      all_goals((rw[hs]))
     exact h1
  ·simp -implicitDefEqProofs only[go_sem,h1]
   refine an ?_
   refine sA ?_
   rw[ao (by omega)]
theorem Ai(a b:Term):C E.P 52 [av (cT a),av (cT b)] [] (bM (av (np (gJ a b))) []):=by
 refine gS (nt:=9) (rs:=[.cell 4 49]) hm Tryz.func52 fun hl he cI=>?_
 refine an ?_
 refine sA ?_
 all_goals(simp[gJ,xo];done)
theorem r8(a b:Term)(ha:isTerm a=true)(hb:isTerm b=true):C E.P 113 [av (cT a),av (cT b)] [] (bM (av (np (dz a b))) []):=by
 refine gS (nt:=24) (rs:=[.cell 4 49]) hm Tryz.func113 fun hl he cI=>?_
 refine aC [] (mX a ha) ?_
 refine bQ [] (mX b hb) ?_ ?_<;>simp -implicitDefEqProofs only[go_sem,Et]
 refine iK ?_
 cases q:gn (aN b) (aN a)
 ·have h5:Op.bytesLess (aN b) (aN a)=false:=q
  simp -implicitDefEqProofs only[go_sem,h5]
  refine an ?_
  refine sA ?_
  all_goals(simp[dz,q,dM,jG,cT];done)
 ·have h5:Op.bytesLess (aN b) (aN a)=true:=q
  simp -implicitDefEqProofs only[go_sem,h5]
  refine an ?_
  refine sA ?_
  all_goals(simp[dz,q,dM,jG,cT];done)
theorem Dp:C E.P 111 [.bZ] [] (bM (.acc 0) [some (.acc 49 [])]):=by
 refine gS (nt:=8) (rs:=[.tmp 2]) hm Tryz.func111 fun hl he cI=>?_
 refine JA 49 _ true rfl rfl (by simp -implicitDefEqProofs only[go_sem]) Iz ?_
 refine sA ?_
 refine bX [none] ?_ rfl rfl
 exact sC
theorem DN(a:Addr)(c:Nat):C E.P 111 [.d (.val (.slice (some a) 0 c))] [] (bM (.acc 0) [some (.acc 49 [])]):=by
 refine gS (nt:=8) (rs:=[.tmp 2]) hm Tryz.func111 fun hl he cI=>?_
 refine JA 49 _ false rfl rfl (p:=.d (.val (.slice (some a) 0 c))) (by simp -implicitDefEqProofs only[go_sem]) (IL _ _ _) ?_
 refine sA ?_
 refine sQ ?_
 refine bX [some 1] ?_ rfl rfl
 exact sC
theorem Ce(r:List D)(rs:List (List D))(hl1:rs.length≤1000)(h1:∀y∈r::rs,y.length=10):C E.P 111 [.d (.dP (r::rs))] [] (bM (.acc 0) [some (.acc 49 (r::rs))]):=by
 refine gS (nt:=8) (rs:=[.tmp 2]) hm Tryz.func111 fun hl he cI=>?_
 refine JA 49 _ false rfl rfl (p:=.d (.dP (r::rs))) (by simp -implicitDefEqProofs only[go_sem]) Ir ?_
 refine sA ?_
 refine ar ⟨?_,by omega,by omega⟩ ?_
 ·simpa using h1
 refine bX [some 1] ?_ rfl rfl
 exact sC
theorem LS(ab:List bp)(hl1:ab.length≤1000):C E.P 111 [lv (a6 ab)] [] (bM (.acc 0) [some (.acc 49 (a6 ab))]):=by
 cases ab with
 | nil=>exact Qt Dp DN
 | cons x xs=>
   have h1:=gv (x::xs)
   rw[mW] at h1⊢
   exact Ce (np x) (a6 xs) (by rw[CQ];simp at hl1;omega) h1
theorem Gw(ab:List bp)(l:bp)(hl1:ab.length≤100):C E.P 51 [lv (a6 ab),av (np l)] [] (bM (lv (a6 (ab++[l]))) []):=by
 refine gS (nt:=10) (rs:=[.tmp 4]) hm Tryz.func51 fun hl he cI=>?_
 refine oC [] [1] (LS ab (by omega)) ?_
 refine sQ ?_
 refine an ?_
 refine sA ?_
 rw[←CU,mW,s6]
 rfl
theorem HE(a b:Term)(ta:isTerm a=true)(tb:isTerm b=true):C E.P 57 [av (cT a),av (cT b)] [] (bM (lv (a6 (fJ a b))) []):=by
 refine gS (nt:=15) (rs:=[.tmp 4]) hm Tryz.func57 fun hl he cI=>?_
 refine aC [] (Ai a b) ?_
 refine aC [] (r8 a b ta tb) ?_
 refine aC [] (r8 b a tb ta) ?_
 refine iK ?_
 refine an ?_
 refine sA ?_
 rw[fJ,mW,mW,mW,s6]
 rfl
theorem vJ(s:dE)(t:Term):C E.P 39 [av (cT t),.gm [dZ s] 0 0] [] (bM (bv (!dk s t)) []):=by
 refine gS (nt:=8) (rs:=[.tmp 3]) hm Tryz.func39 fun hl he cI=>?_
 refine aC [] (vL s t) ?_
 refine an ?_
 exact sC
theorem Sg{a:List Term}{i:Nat}(h:i<a.length)(v:Term):(aP a).set i (sr (row (aP a) i) 0 (cT v))=aP (a.set i v):=by
 have e:sr (row (aP a) i) 0 (cT v)=cT v:=by
  rw[Ct h]
  simp[sr,cT]
 rw[e,mY,mY,List.map_set]
theorem FY{p:Term→Bool}:∀{xs:List Term}{i:Int},0≤i→(fX p xs i = -1∧xs.filter (fun t=>!p t)=xs)∨∃j:Nat,fX p xs i=i+j∧j<xs.length∧(xs.take (j+1)).filter (fun t=>!p t)=xs.take j
 | [],i,_=>.inl (by simp[fX])
 | x::xs,i,h=>by
   simp only[fX]
   cases hx:p x with
   | true=>
     refine .inr ⟨0,?_,by simp,by simp[hx]⟩
     simp
   | false=>
     simp only[ax,if_false]
     rcases FY (p:=p) (xs:=xs) (i:=i+1) (by omega) with⟨h1,h2⟩|⟨j,h1,h2,h3⟩
     ·exact .inl ⟨h1,by simp[hx,h2]⟩
     ·refine .inr ⟨j+1,by rw[h1];omega,by simp;omega,?_⟩
      rw[dH,jz,dH,h3]
      simp[hx]
theorem Bx(s:dE)(xs:List Term)(hl1:xs.length≤10000):C E.P 38 [.acc 0,.fn 39 [.ptr 1 0]] [some (.acc 34 (aP xs)),some (.box (cF (dZ s)))] (bM (lv (aP (xs.filter (dk s)))) [some .dead,some (.box (cF (dZ s)))]):=by
 have cI:LB=1099511627776:=rfl
 refine F0 (nt:=42) (rs:=[.tmp 4]) Tryz.func38 rfl rfl rfl rfl rfl (fun hl he=>?_)
 simp -implicitDefEqProofs only[go_sem] at hl he⊢
 refine ff (iQ hm ?_)
 simp -implicitDefEqProofs only[go_sem,dR,dK]
 refine ff (iQ hm ?_)
 refine sA ?_
 refine dN [] [0,1] (pE 39 [.gm [dZ s] 0 0] rfl (fun t=>!dk s t) xs (fun t _=>vJ s t)) rfl ?_ ?_ ?_
 ·exact sV
 all_goals simp -implicitDefEqProofs only[go_sem]
 simp -implicitDefEqProofs only[go_sem,dR,dK]
 rcases FY (p:=fun t=>!dk s t) (xs:=xs) (i:=0) (by omega) with⟨h1,h2⟩|⟨j0,h1,h2,h3⟩
 ·have e:idxOf (fun t=>!dk s t) xs = -1:=h1
  rw[e]
  refine ff (iQ hm ?_)
  simp -implicitDefEqProofs only[go_sem,dR,xV]
  refine⟨_,Iu 4 0 34 (aP xs) rfl rfl,?_⟩
  have e2:xs.filter (dk s)=xs:=by simpa using h2
  rw[e2]
  refine bX [some 0,some 1] ?_ rfl rfl
  refine sA ?_
  all_goals simp
 ·have e:idxOf (fun t=>!dk s t) xs=(j0:Int):=by rw[idxOf,h1];omega
  rw[e]
  have n1:¬ (j0:Int) = -1:=by omega
  refine ff (iQ hm ?_)
  simp -implicitDefEqProofs only[go_sem,dR,dK,n1]
  refine ff (iQ hm ?_)
  refine sA ?_
  refine sQ ?_
  refine kS hm (fun(i:Nat) (j:Nat) (a:List Term)=> i≤j∧j≤xs.length∧a.length=xs.length∧a.take i=(xs.take j).filter (dk s)∧a.drop j=xs.drop j) (fun(i:Nat) (j:Nat) (a:List Term)=> ⟨dB 42 .any [(0,.acc 0),(1,.fn 39 [.ptr 1 0]),(5,iv i),(6,iv j)],[some (.acc 34 (aP a)),some (.box (cF (dZ s)))]⟩) (fun(i:Nat) (j:Nat) (a:List Term)=> xs.length-j) (j0) (j0+1) (xs) ?_ (aw [some 0,some 1] ?_ ?_ rfl rfl) ?_
  rotate_left
  ·exact sC
  ·exact sC
  rotate_left
  ·exact⟨by omega,by omega,rfl,by simpa using h3.symm,rfl⟩
  ·rintro i j a ⟨hij,hj,hal,ht,hd⟩
   rcases aa (j<xs.length) with h1|h1
   ·have h1a:j<a.length:=by omega
    have hia:i<a.length:=by omega
    have hx:a[j]=xs[j]:=by
     have h4:(a.drop j)[0]?=(xs.drop j)[0]?:=by rw[hd]
     simpa[h1,h1a] using h4
    have hf:(xs.take (j+1)).filter (dk s)=(xs.take j).filter (dk s)++(if dk s xs[j] then [xs[j]] else []):=by
     rw[bC,List.getElem?_eq_getElem h1,List.filter_append]
     congr 1
     simp[jz]
    simp -implicitDefEqProofs only[go_sem,h1a]
    refine dN [.ptr 1 0] [1] (vJ s a[j]) rfl ?_ ?_ ?_
    ·exact sV
    all_goals simp -implicitDefEqProofs only[go_sem]
    rw[hx]
    cases h4:dk s xs[j]
    ·rw[h4] at hf
     refine sA ?_
     refine ar (by omega) ?_
     refine⟨i,j+1,a,?_,sL,aw [some 0,some 1] ?_ ?_ rfl rfl⟩
     rotate_left
     ·exact sC
     ·exact sC
     refine⟨by omega,by omega,hal,by rw[hf,ht];simp,?_⟩
     have h5:=congrArg (fm 1) hd
     simpa[mP] using h5
    ·rw[h4] at hf
     simp -implicitDefEqProofs only[go_sem,hia]
     have hset:(aP a).set i (sr [D.str a[i].name,D.dP (aP a[i].kids)] 0 [D.str xs[j].name,D.dP (aP xs[j].kids)])=aP (a.set i xs[j]):=by
      have h5:=Sg hia xs[j]
      rw[Ct hia] at h5
      exact h5
     refine ar (by omega) (ar (by omega) ?_)
     refine⟨i+1,j+1,a.set i xs[j],?_,sL,aw [some 0,some 1] ?_ ?_ rfl rfl⟩
     rotate_left
     ·exact sC
     ·refine sA ?_
      all_goals(exact hset)
     refine⟨by omega,by omega,by simp[hal],?_,?_⟩
     ·rw[hf,←ht,bC]
      simp[hia,List.take_set_of_le]
     ·have h5:=congrArg (fm 1) hd
      rw[List.drop_set_of_lt (by omega)]
      simpa[mP] using h5
   ·simp -implicitDefEqProofs only[go_sem,h1,hal]
    simp only[dR,dK]
    have hjn:j=xs.length:=by omega
    refine ff (oz ?_)
    refine xG (Fs.plain rfl (Kf _)) (xG (Fs.plain rfl (Kf _)) ?_)
    refine sA ?_
    refine Zv (t:=32) (e:=34) (k:=0) (m:=(i:Int)) (xs:=aP a) [.str [],.dP []] _ _ rfl rfl rfl rfl ?_ ?_ ?_ (by omega) (by rw[rq];omega) ?_ ?_
    ·exact sC
    ·exact sC
    ·exact sC
    ·simp only[Bs]
     omega
    refine uB ?_
    simp -implicitDefEqProofs only[go_sem,dK]
    refine iQ hm ?_
    refine sA ?_
    refine fe (Xm (.tmp 39) (.tmp 40) 32 34 0 _ _ (MQ [.str [],.dP []] (aP a) i) (i:Int) rfl rfl rfl ?_ ?_ ?_ (by omega) (by rw[Xt _ _ _ (by rw[rq];omega),rq];omega)) ?_
    ·exact sC
    ·exact sC
    ·exact sC
    simp -implicitDefEqProofs only[go_sem,dR]
    refine eJ ?_
    refine bX [some 0,some 1] ?_ rfl rfl
    refine sA ?_
    rw[Tu _ _ _ (by rw[rq];omega),Od,ht,hjn,List.take_length]
theorem yi(s:dE)(ab:List bp)(hl1:ab.length≤100)(hw:∀l∈ab,cJ l.atom=true):C E.P 17 [av (dZ s),lv (a6 ab)] [] (bM (lv (aP (numsOf s ab))) []):=by
 have hn:(aA ab).length≤10000:=by
  obtain⟨hle,eP⟩:=iT hw
  have h1:=qL (dI ab) [] eP
  rw[jD,iB eP]
  simp only[List.length_nil] at h1
  omega
 have e:(aA ab).filter (dk s)=numsOf s ab:=rfl
 refine gS (nt:=9) (rs:=[.tmp 4]) hm Tryz.func17 fun hl he cI=>?_
 refine oC [] [1] (wS ab hl1 hw) ?_
 have hcall:=Bx s (aA ab) hn
 rw[e] at hcall
 refine gp [] [1,0] hcall ?_ ?_
 ·refine sA ?_
  rfl
 refine sA ?_
 refine an ?_
 exact sC
end Go.Proofs.YtabembjmeobhoaaGreat
