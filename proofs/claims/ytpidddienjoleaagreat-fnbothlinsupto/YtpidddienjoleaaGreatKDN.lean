/-
  The walks of literals: their terms, equations and sums. A step towards the exact laws.
-/
import Derived.Test.YtpidddienjoleaaGreatKDH
import Derived.Test.YtpidddienjoleaaGreatKDL
import Derived.Test.YtpidddienjoleaaGreatKDM
import Derived.Test.YtpidddienjoleaaGreatKDE
import Derived.Test.YtpidddienjoleaaGreatKDD
import Derived.Test.YtpidddienjoleaaGreatKDI
set_option linter.unusedVariables false
set_option linter.unusedSimpArgs false
namespace Go.Proofs.YtpidddienjoleaaGreat
open Go.Eng Go.Mod
open Int renaming reduceEq→Z1,reduceLT→Z2,reduceLE→Z3,reduceToNat→Z4
set_option maxRecDepth 100000
set_option maxHeartbeats 800000
theorem jC(xs:List Term)(hx:xs.length≤1000)(hall:∀t∈xs,isTerm t=true):C E.P 85 [lv (aj xs)] [] (aO (.acc 0) [some (.acc 35 (aj (gh xs)))]):=by
 refine gS (nt:=20) (rs:=[.tmp 2]) hm Tryz.func85 fun hl he hLB=>?_
 refine bQ hm (fun(i:Nat) (out:List Term)=> i≤xs.length∧gh xs=jq (xs.drop i) out∧out.length≤15*i) (fun(i:Nat) (out:List Term)=> ⟨b9 20 .any [(3,.acc 0),(6,lv (aj xs)),(7,iv xs.length),(8,iv i)],[some (.acc 35 (aj out))]⟩) (fun(i:Nat) (out:List Term)=> xs.length-i) (0) ([]) ?_ (ah [none] ?_ ?_ rfl rfl) ?_
 rotate_left
 ·exact sC
 ·exact sC
 rotate_left
 ·simp[gh]
 ·rintro i out ⟨hi,hg,ho⟩
  rcases Classical.em (i<xs.length) with h1|h1
  ·have h2:=hall xs[i] (List.getElem_mem h1)
   rw[Dg h1 h2] at hg
   have hs:=du h2
   have hle:=tq (l:=out) hs (by omega)
   simp -implicitDefEqProofs only[go_sem,h1]
   refine aC [] (gz xs[i]) ?_
   simp -implicitDefEqProofs only[go_sem,h2]
   refine oC [] [0,2] (uV xs[i] 4 out (by omega) hs (by omega)) ?_
   repeat(with_reducible apply And.intro;exact sO)
   refine⟨i+1,a8 out xs[i],?_,?_,ah [some 2] ?_ ?_ rfl rfl⟩
   rotate_left
   ·show _ < _
    omega
   ·exact sC
   ·exact sC
   exact⟨by omega,hg,by omega⟩
  ·rw[List.drop_of_length_le (by omega),jq] at hg
   simp -implicitDefEqProofs only[go_sem,h1]
   refine aG [some 0] ?_ rfl rfl
   refine sA ?_
   rw[hg]
theorem oB(lits:List aE)(hl1:lits.length≤100)(hw:∀l∈lits,aZ l.atom=true):C E.P 38 [lv (ay lits)] [] (aO (.acc 0) [some (.acc 35 (aj (ai lits)))]):=by
 obtain⟨hle,hok⟩:=c9 hw
 refine gS (nt:=20) (rs:=[.tmp 2]) hm Tryz.func38 fun hl he hLB=>?_
 refine au hm (fun(i:Nat)=> i≤lits.length) (fun(i:Nat)=> ⟨b9 20 .any [(3,.acc 0),(6,lv (ay lits)),(7,iv lits.length),(8,iv i)],[some (.acc 35 (aj (br (lits.take i))))]⟩) (fun(i:Nat)=> lits.length-i) (0) ?_ (ah [none] ?_ ?_ rfl rfl) ?_
 rotate_left
 ·exact sC
 ·refine sA ?_
  all_goals(rfl)
 rotate_left
 ·omega
 ·rintro i hi
  rcases Classical.em (i<lits.length) with h1|h1
  ·have h2:=c9 (lits:=lits.take i) fun l hl=>hw l (List.mem_of_mem_take hl)
   have h3:=gi (hw lits[i] (List.getElem_mem h1))
   have h4:(lits.take i).length≤100:=by simp;omega
   simp -implicitDefEqProofs only[go_sem,h1]
   refine aC [] (lG lits[i].atom) ?_
   repeat(with_reducible apply And.intro;exact sO)
   refine⟨i+1,?_,?_,ah [some 2] ?_ ?_ rfl rfl⟩
   rotate_left
   ·show _ < _
    omega
   ·exact sC
   ·refine sA ?_
    all_goals((rw[me h1,←fq]))
   exact h1
  ·have e:lits.take i=lits:=List.take_of_length_le (by omega)
   simp -implicitDefEqProofs only[go_sem,h1,e]
   refine oC [] [0,1] (MT (e:=35) (rest:=[]) rfl (jC (br lits) (by omega) hok)) ?_
   refine aG [some 1] ?_ rfl rfl
   refine sA ?_
   rfl
theorem CF(lits:List aE)(hl1:lits.length≤100):C E.P 44 [lv (ay lits)] [] (aO (lv (dz (aI lits))) []):=by
 refine gS (nt:=35) (rs:=[.tmp 2]) hm Tryz.func44 fun hl he hLB=>?_
 refine au hm (fun(i:Nat)=> i≤lits.length) (fun(i:Nat)=> ⟨b9 35 .any [(3,.acc 0),(6,lv (ay lits)),(7,iv lits.length),(8,iv i)],[some (.acc 55 (dz (aI (lits.take i))))]⟩) (fun(i:Nat)=> lits.length-i) (0) ?_ (ah [none] ?_ ?_ rfl rfl) ?_
 rotate_left
 ·exact sC
 ·refine sA ?_
  all_goals(rfl)
 rotate_left
 ·omega
 ·rintro i hi
  rcases Classical.em (i<lits.length) with h1|h1
  ·have h2:=Kw (lits.take i)
   have h4:(lits.take i).length≤100:=by simp;omega
   have hs:=Ia h1
   rcases Classical.em (lits[i].atom.kind=1) with h5|h5
   ·have k5:=eq_true h5
    cases h6:lits[i].no
    ·rw[if_pos ⟨h5,h6⟩] at hs
     simp -implicitDefEqProofs only[go_sem,h1,k5,h6]
     refine aC [] (dL lits[i].atom.A) ?_
     refine aC [] (dL lits[i].atom.B) ?_
     repeat(with_reducible apply And.intro;exact sO)
     refine⟨i+1,?_,?_,ah [some 2] ?_ ?_ rfl rfl⟩
     rotate_left
     ·show _ < _
      omega
     ·exact sC
     ·refine sA ?_
      all_goals((rw[hs,←Gw,DX,rB];rfl))
     exact h1
    ·rw[if_neg (by simp[h6]),List.append_nil] at hs
     simp -implicitDefEqProofs only[go_sem,h1,k5,h6]
     repeat(with_reducible apply And.intro;exact sO)
     refine⟨i+1,?_,?_,ah [some 0] ?_ ?_ rfl rfl⟩
     rotate_left
     ·show _ < _
      omega
     ·exact sC
     ·refine sA ?_
      all_goals((rw[hs]))
     exact h1
   ·rw[if_neg (by simp[h5]),List.append_nil] at hs
    simp -implicitDefEqProofs only[go_sem,h1,h5]
    repeat(with_reducible apply And.intro;exact sO)
    refine⟨i+1,?_,?_,ah [some 0] ?_ ?_ rfl rfl⟩
    rotate_left
    ·show _ < _
     omega
    ·exact sC
    ·refine sA ?_
     all_goals((rw[hs]))
    exact h1
  ·simp -implicitDefEqProofs only[go_sem,h1]
   refine ab ?_
   refine sA ?_
   rw[List.take_of_length_le (by omega)]
theorem nz(nums ts:List Term)(ns:List Int)(b:Int)(st:Bool)(h4:nums.length≤4)(hin:∀t∈ts,t∈nums)(hn:ns.length=ts.length)(hb:∀n∈ns,-50≤n∧n≤50)(hl4:ts.length≤4) :
 C E.P 119 [lv (aj nums),lv (aj ts),lv (aJ ns),iv b,bv st] [] (aO (av (cX (ez nums ts ns b st))) []):=by
 have hLB:=vP
 refine Ik (nt:=40) (rs:=[.cell 10 66]) hm Tryz.func119 rfl rfl rfl rfl rfl (fun hl he=>?_)
 simp -implicitDefEqProofs only[go_sem,Z3,Z4] at hl⊢
 repeat(with_reducible apply And.intro;exact sO)
 refine au hm (fun(i:Nat)=> i≤ts.length) (fun(i:Nat)=> ⟨b9 40 .any [(0,lv (aj nums)),(2,lv (aJ ns)),(10,.ptr 0 0),(11,.ptr 1 0),(18,lv (aj ts)),(19,iv ts.length),(20,iv i)],[some (.box (bn (cX jE))),some (.box [.acc 2,.d (.val (.int .i64 b)),.d (.val (.bool st))]),some (.acc 3 (aJ (df nums (ts.take i) (ns.take i) [0,0,0,0])))]⟩) (fun(i:Nat)=> ts.length-i) (0) ?_ (ah [some 0,some 2,some 1] ?_ ?_ rfl rfl) ?_
 rotate_left
 ·exact sC
 ·refine sA ?_
  all_goals(simp[aJ,List.replicate,df])
 rotate_left
 ·omega
 ·rintro i hi
  rcases Classical.em (i<ts.length) with h1|h1
  ·have h2:i<ns.length:=by omega
   have hin:=hin ts[i] (List.getElem_mem h1)
   have x1:=bl.2 hin
   have x2:=gJ hin
   have hL:(df nums (ts.take i) (ns.take i) [0,0,0,0]).length=4:=Bn
   have x3:(aF nums ts[i]).toNat<(df nums (ts.take i) (ns.take i) [0,0,0,0]).length:=by omega
   have hB:=vu (nums:=nums) (ts:=ts.take i) (ns:=ns.take i) (cs:=[0,0,0,0]) (m:=0) (by simp) (fun n hn=>hb n (List.mem_of_mem_take hn)) (by omega) _ (List.getElem_mem x3)
   have hB2:((ts.take i).length:Int)≤4:=by simp;omega
   have hB3:=hb ns[i] (List.getElem_mem h2)
   simp -implicitDefEqProofs only[go_sem,h1]
   refine cL [] (bz nums ts[i]) ?_ ?_<;>simp -implicitDefEqProofs only[go_sem,x3,h2]
   repeat(with_reducible apply And.intro;exact sO)
   refine⟨i+1,?_,?_,ah [some 0,some 1,some 2] ?_ ?_ rfl rfl⟩
   rotate_left
   ·show _ < _
    omega
   ·exact sC
   ·refine sA ?_
    all_goals((rw[yh h1 h2,mF _ x1,←vp x3,j6 x3];simp[mg]))
   exact h1
  ·have e1:ts.take i=ts:=List.take_of_length_le (by omega)
   have e2:ns.take i=ns:=List.take_of_length_le (by omega)
   simp -implicitDefEqProofs only[go_sem,h1,e1,e2]
   refine ab ?_
   refine sA ?_
   all_goals(simp[ez];done)
theorem qK(nums:List Term)(lits:List aE)(h4:nums.length≤4)(hl1:lits.length≤100)(hf:∀l∈lits,Fit nums l):C E.P 52 [lv (aj nums),lv (ay lits)] [] (aO (lv (bh (bH nums lits))) []):=by
 refine gS (nt:=70) (rs:=[.tmp 4]) hm Tryz.func52 fun hl he hLB=>?_
 refine au hm (fun(i:Nat)=> i≤lits.length) (fun(i:Nat)=> ⟨b9 70 .any [(0,lv (aj nums)),(5,.acc 0),(11,lv (ay lits)),(12,iv lits.length),(13,iv i)],[some (.acc 66 (bh (bH nums (lits.take i))))]⟩) (fun(i:Nat)=> lits.length-i) (0) ?_ (ah [none] ?_ ?_ rfl rfl) ?_
 rotate_left
 ·exact sC
 ·refine sA ?_
  all_goals(rfl)
 rotate_left
 ·omega
 ·rintro i hi
  rcases Classical.em (i<lits.length) with h1|h1
  ·have h2:=nG nums (lits.take i)
   have h3:(lits.take i).length≤100:=by simp;omega
   have hs:=vD (nums:=nums) h1
   have hF:=hf lits[i] (List.getElem_mem h1)
   rcases Classical.em (lits[i].atom.kind=2) with k2|k2
   ·have k:=eq_true k2
    have hw:=kU hF.wf k2
    have hc:=nz nums lits[i].atom.nums lits[i].atom.times lits[i].atom.bound lits[i].atom.strict h4 (hF.sum k2) hw.2.2.2.1 (nx hw.2.2.2.2.2 hw.2.2.2.1).2 hw.2.2.1
    simp -implicitDefEqProofs only[go_sem,h1,k]
    refine aC [] hc ?_
    cases h6:lits[i].no
    ·rw[dq,if_pos k2,h6] at hs
     simp only[Bool.false_eq_true,if_false] at hs
     refine sA ?_
     repeat(with_reducible apply And.intro;exact sO)
     refine⟨i+1,?_,?_,ah [some 4] ?_ ?_ rfl rfl⟩
     rotate_left
     ·show _ < _
      omega
     ·exact sC
     ·refine sA ?_
      all_goals((rw[hs,←fZ,cY,eV];rfl))
     exact h1
    ·rw[dq,if_pos k2,h6] at hs
     simp only[if_true] at hs
     refine sA ?_
     refine aC [] (Ap (ez nums lits[i].atom.nums lits[i].atom.times lits[i].atom.bound lits[i].atom.strict)) ?_
     repeat(with_reducible apply And.intro;exact sO)
     refine⟨i+1,?_,?_,ah [some 4] ?_ ?_ rfl rfl⟩
     rotate_left
     ·show _ < _
      omega
     ·exact sC
     ·refine sA ?_
      all_goals((rw[hs,←fZ,cY,eV];rfl))
     exact h1
   ·have k1:lits[i].atom.kind=1:=(gQ hF.wf).resolve_right k2
    cases h6:lits[i].no
    ·simp -implicitDefEqProofs only[go_sem,h1,k2,h6]
     refine aC [] (bz nums lits[i].atom.A) ?_
     rcases Classical.em (0≤aF nums lits[i].atom.A) with h7|h7
     ·rw[dq,if_neg k2,if_pos ⟨h6,h7⟩] at hs
      have hA:=bl.1 h7
      have hB:=(hF.eq k1).1 hA
      have hm:∀t∈[lits[i].atom.A,lits[i].atom.B],t∈nums:=by
       intro t ht
       simp only[List.mem_cons,List.not_mem_nil,or_false] at ht
       rcases ht with rfl|rfl
       ·exact hA
       ·exact hB
      have c1:=nz nums [lits[i].atom.A,lits[i].atom.B] [1,-1] 0 false h4 hm rfl (by intro n hn;simp at hn;omega) (by simp)
      have c2:=nz nums [lits[i].atom.A,lits[i].atom.B] [-1,1] 0 false h4 hm rfl (by intro n hn;simp at hn;omega) (by simp)
      clear hm
      simp -implicitDefEqProofs only[go_sem,h7]
      refine cL [] c1 ?_ ?_<;>simp -implicitDefEqProofs only[go_sem,bT,kW]
      refine cL [] c2 ?_ ?_<;>simp -implicitDefEqProofs only[go_sem,bT,kW]
      repeat(with_reducible apply And.intro;exact sO)
      refine⟨i+1,?_,?_,ah [some 3] ?_ ?_ rfl rfl⟩
      rotate_left
      ·show _ < _
       omega
      ·exact sC
      ·refine sA ?_
       all_goals((rw[hs,←fZ,cY,cY,eV];rfl))
      exact h1
     ·rw[dq,if_neg k2,if_neg (by simp[h6,h7]),List.append_nil] at hs
      simp -implicitDefEqProofs only[go_sem,h7]
      repeat(with_reducible apply And.intro;exact sO)
      refine⟨i+1,?_,?_,ah [some 0] ?_ ?_ rfl rfl⟩
      rotate_left
      ·show _ < _
       omega
      ·exact sC
      ·refine sA ?_
       all_goals((rw[hs]))
      exact h1
    ·rw[dq,if_neg k2,if_neg (by simp[h6]),List.append_nil] at hs
     simp -implicitDefEqProofs only[go_sem,h1,k2,h6]
     repeat(with_reducible apply And.intro;exact sO)
     refine⟨i+1,?_,?_,ah [some 0] ?_ ?_ rfl rfl⟩
     rotate_left
     ·show _ < _
      omega
     ·exact sC
     ·refine sA ?_
      all_goals((rw[hs]))
     exact h1
  ·simp -implicitDefEqProofs only[go_sem,h1]
   refine ab ?_
   refine sA ?_
   rw[List.take_of_length_le (by omega)]
theorem sI(a b:Term):C E.P 98 [av (cT a),av (cT b)] [] (aO (av (kh (eE a b))) []):=by
 refine gS (nt:=9) (rs:=[.cell 4 48]) hm Tryz.func98 fun hl he hLB=>?_
 refine ab ?_
 refine sA ?_
 all_goals(simp[eE,zM];done)
theorem lu(a b:Term)(ha:isTerm a=true)(hb:isTerm b=true):C E.P 166 [av (cT a),av (cT b)] [] (aO (av (kh (ct a b))) []):=by
 refine gS (nt:=24) (rs:=[.cell 4 48]) hm Tryz.func166 fun hl he hLB=>?_
 refine aC [] (gj a ha) ?_
 refine cL [] (gj b hb) ?_ ?_<;>simp -implicitDefEqProofs only[go_sem,xt]
 refine iK ?_
 cases q:cR (ak b) (ak a)
 ·have h5:Op.bytesLess (ak b) (ak a)=false:=q
  simp -implicitDefEqProofs only[go_sem,h5]
  refine ab ?_
  refine sA ?_
  all_goals(simp[ct,q,bT,kW,cT];done)
 ·have h5:Op.bytesLess (ak b) (ak a)=true:=q
  simp -implicitDefEqProofs only[go_sem,h5]
  refine ab ?_
  refine sA ?_
  all_goals(simp[ct,q,bT,kW,cT];done)
end Go.Proofs.YtpidddienjoleaaGreat
namespace Go.Proofs.YtpidddienjoleaaGreat
open Go.Eng Go.Mod
open Int renaming reduceEq→Z1,reduceLT→Z2,reduceLE→Z3,reduceToNat→Z4
set_option maxRecDepth 100000
set_option maxHeartbeats 800000
theorem w7:C E.P 164 [.aK] [] (aO (.acc 0) [some (.acc 48 [])]):=by
 refine gT (nt:=8) (rs:=[.tmp 2]) hm Tryz.func164 fun hl he hLB=>?_
 refine Bq 48 _ true rfl rfl (by simp -implicitDefEqProofs only[go_sem,Z1,Z2,Z3,Z4]) BS ?_
 try simp -implicitDefEqProofs only[go_sem,Z1,Z2,Z3,Z4]
 try with_reducible refine iK ?_
 refine aG [none] ?_ rfl rfl
 exact sD
theorem wP(a:Addr)(c:Nat):C E.P 164 [.d (.val (.slice (some a) 0 c))] [] (aO (.acc 0) [some (.acc 48 [])]):=by
 refine gT (nt:=8) (rs:=[.tmp 2]) hm Tryz.func164 fun hl he hLB=>?_
 refine Bq 48 _ false rfl rfl (p:=.d (.val (.slice (some a) 0 c))) (by simp -implicitDefEqProofs only[go_sem,Z1,Z2,Z3,Z4]) (Bl _ _ _) ?_
 try simp -implicitDefEqProofs only[go_sem,Z1,Z2,Z3,Z4]
 try with_reducible refine iK ?_
 repeat(with_reducible apply And.intro;exact sO)
 refine aG [some 1] ?_ rfl rfl
 exact sD
theorem uU(r:List D)(rs:List (List D))(hl1:rs.length≤1000)(h1:∀y∈r::rs,y.length=10):C E.P 164 [.d (.bx (r::rs))] [] (aO (.acc 0) [some (.acc 48 (r::rs))]):=by
 refine gT (nt:=8) (rs:=[.tmp 2]) hm Tryz.func164 fun hl he hLB=>?_
 refine Bq 48 _ false rfl rfl (p:=.d (.bx (r::rs))) (by simp -implicitDefEqProofs only[go_sem,Z1,Z2,Z3,Z4]) BK ?_
 try simp -implicitDefEqProofs only[go_sem,Z1,Z2,Z3,Z4]
 try with_reducible refine iK ?_
 refine And.intro ⟨?_,by omega,by omega⟩ ?_
 ·simpa using h1
 refine aG [some 1] ?_ rfl rfl
 exact sD
theorem E6(lits:List aE)(hl1:lits.length≤1000):C E.P 164 [lv (ay lits)] [] (aO (.acc 0) [some (.acc 48 (ay lits))]):=by
 cases lits with
 | nil=>exact IA w7 wP
 | cons x xs=>
   have h1:=wo (x::xs)
   rw[iy] at h1⊢
   exact uU (kh x) (ay xs) (by rw[wm];simp at hl1;omega) h1
theorem zd(lits:List aE)(l:aE)(hl1:lits.length≤100):C E.P 97 [lv (ay lits),av (kh l)] [] (aO (lv (ay (lits++[l]))) []):=by
 refine gT (nt:=10) (rs:=[.tmp 4]) hm Tryz.func97 fun hl he hLB=>?_
 refine oD [] [1] (E6 lits (by omega)) ?_
 try with_reducible refine iK ?_
 repeat(with_reducible apply And.intro;exact sO)
 refine ab ?_
 refine sB ?_
 rw[←Fh,iy,pd]
 rfl
theorem Af(a b:Term)(ta:isTerm a=true)(tb:isTerm b=true):C E.P 103 [av (cT a),av (cT b)] [] (aO (lv (ay (gL a b))) []):=by
 refine gT (nt:=15) (rs:=[.tmp 4]) hm Tryz.func103 fun hl he hLB=>?_
 refine aD [] (sI a b) ?_
 try with_reducible refine iK ?_
 refine aD [] (lu a b ta tb) ?_
 try with_reducible refine iK ?_
 refine aD [] (lu b a tb ta) ?_
 try with_reducible refine iK ?_
 repeat(with_reducible apply And.intro;exact sO)
 refine ab ?_
 refine sB ?_
 rw[gL,iy,iy,iy,pd]
 rfl
end Go.Proofs.YtpidddienjoleaaGreat
namespace Go.Proofs.YtpidddienjoleaaGreat
open Go.Eng Go.Mod
open Int renaming reduceEq→Z1,reduceLT→Z2,reduceLE→Z3,reduceToNat→Z4
set_option maxRecDepth 100000
set_option maxHeartbeats 800000
theorem oi(s:bA)(t:Term):C E.P 87 [av (cT t),.cf [bF s] 0 0] [] (aO (bv (!aY s t)) []):=by
 refine gS (nt:=8) (rs:=[.tmp 3]) hm Tryz.func87 fun hl he hLB=>?_
 refine aC [] (oj s t) ?_
 refine ab ?_
 exact sC
theorem JX{a:List Term}{i:Nat}(h:i<a.length)(v:Term):(aj a).set i (mg (row (aj a) i) 0 (cT v))=aj (a.set i v):=by
 have e:mg (row (aj a) i) 0 (cT v)=cT v:=by
  rw[uN h]
  simp[mg,cT]
 rw[e,gf,gf,List.map_set]
theorem y0{p:Term→Bool}:∀{xs:List Term}{i:Int},0≤i→(bZ p xs i = -1∧xs.filter (fun t=>!p t)=xs)∨∃j:Nat,bZ p xs i=i+j∧j<xs.length∧(xs.take (j+1)).filter (fun t=>!p t)=xs.take j
 | [],i,_=>.inl (by simp[bZ])
 | x::xs,i,h=>by
   simp only[bZ]
   cases hx:p x with
   | true=>
     refine .inr ⟨0,?_,by simp,by simp[hx]⟩
     simp
   | false=>
     simp only[Bool.false_eq_true,if_false]
     rcases y0 (p:=p) (xs:=xs) (i:=i+1) (by omega) with⟨h1,h2⟩|⟨j,h1,h2,h3⟩
     ·exact .inl ⟨h1,by simp[hx,h2]⟩
     ·refine .inr ⟨j+1,by rw[h1];omega,by simp;omega,?_⟩
      rw[List.take_succ_cons,List.filter_cons,List.take_succ_cons,h3]
      simp[hx]
theorem tf(s:bA)(xs:List Term)(hl1:xs.length≤10000):C E.P 86 [.acc 0,.fn 87 [.ptr 1 0]] [some (.acc 35 (aj xs)),some (.box (bn (bF s)))] (aO (lv (aj (xs.filter (aY s)))) [some .dead,some (.box (bn (bF s)))]):=by
 have hLB:LB=1099511627776:=rfl
 refine AU (nt:=42) (rs:=[.tmp 4]) Tryz.func86 rfl rfl rfl rfl rfl (fun hl he=>?_)
 simp -implicitDefEqProofs only[go_sem] at hl he⊢
 refine gV (m0 hm ?_)
 simp -implicitDefEqProofs only[go_sem,ik,gE]
 refine gV (m0 hm ?_)
 refine sA ?_
 refine bK [] [0,1] (iR 87 [.cf [bF s] 0 0] rfl (fun t=>!aY s t) xs (fun t _=>oi s t)) rfl ?_ ?_ ?_
 ·exact sV
 all_goals simp -implicitDefEqProofs only[go_sem]
 simp -implicitDefEqProofs only[go_sem,ik,gE]
 rcases y0 (p:=fun t=>!aY s t) (xs:=xs) (i:=0) (by omega) with⟨h1,h2⟩|⟨j0,h1,h2,h3⟩
 ·have e:idxOf (fun t=>!aY s t) xs = -1:=h1
  rw[e]
  refine gV (m0 hm ?_)
  simp -implicitDefEqProofs only[go_sem,ik,CK]
  refine⟨_,AV 4 0 35 (aj xs) rfl rfl,?_⟩
  have e2:xs.filter (aY s)=xs:=by simpa using h2
  rw[e2]
  refine aG [some 0,some 1] ?_ rfl rfl
  refine sA ?_
  all_goals simp
 ·have e:idxOf (fun t=>!aY s t) xs=(j0:Int):=by rw[idxOf,h1];omega
  rw[e]
  have n1:¬ (j0:Int) = -1:=by omega
  refine gV (m0 hm ?_)
  simp -implicitDefEqProofs only[go_sem,ik,gE,n1]
  refine gV (m0 hm ?_)
  refine sA ?_
  repeat(with_reducible apply And.intro;exact sO)
  refine ie hm (fun(i:Nat) (j:Nat) (a:List Term)=> i≤j∧j≤xs.length∧a.length=xs.length∧a.take i=(xs.take j).filter (aY s)∧a.drop j=xs.drop j) (fun(i:Nat) (j:Nat) (a:List Term)=> ⟨b9 42 .any [(0,.acc 0),(1,.fn 87 [.ptr 1 0]),(5,iv i),(6,iv j)],[some (.acc 35 (aj a)),some (.box (bn (bF s)))]⟩) (fun(i:Nat) (j:Nat) (a:List Term)=> xs.length-j) (j0) (j0+1) (xs) ?_ (ah [some 0,some 1] ?_ ?_ rfl rfl) ?_
  rotate_left
  ·exact sC
  ·exact sC
  rotate_left
  ·exact⟨by omega,by omega,rfl,by simpa using h3.symm,rfl⟩
  ·rintro i j a ⟨hij,hj,hal,ht,hd⟩
   rcases Classical.em (j<xs.length) with h1|h1
   ·have h1a:j<a.length:=by omega
    have hia:i<a.length:=by omega
    have hx:a[j]=xs[j]:=by
     have h4:(a.drop j)[0]?=(xs.drop j)[0]?:=by rw[hd]
     simpa[h1,h1a] using h4
    have hf:(xs.take (j+1)).filter (aY s)=(xs.take j).filter (aY s)++(if aY s xs[j] then [xs[j]] else []):=by
     rw[List.take_add_one,List.getElem?_eq_getElem h1,List.filter_append]
     congr 1
     simp[List.filter_cons]
    simp -implicitDefEqProofs only[go_sem,h1a]
    refine bK [.ptr 1 0] [1] (oi s a[j]) rfl ?_ ?_ ?_
    ·exact sV
    all_goals simp -implicitDefEqProofs only[go_sem]
    rw[hx]
    cases h4:aY s xs[j]
    ·rw[h4] at hf
     refine sA ?_
     refine And.intro (by omega) ?_
     refine⟨i,j+1,a,?_,?_,ah [some 0,some 1] ?_ ?_ rfl rfl⟩
     rotate_left
     ·show _ < _
      omega
     ·exact sC
     ·exact sC
     refine⟨by omega,by omega,hal,by rw[hf,ht];simp,?_⟩
     have h5:=congrArg (List.drop 1) hd
     simpa[List.drop_drop] using h5
    ·rw[h4] at hf
     simp -implicitDefEqProofs only[go_sem,hia]
     have hset:(aj a).set i (mg [D.str a[i].name,D.bx (aj a[i].kids)] 0 [D.str xs[j].name,D.bx (aj xs[j].kids)])=aj (a.set i xs[j]):=by
      have h5:=JX hia xs[j]
      rw[uN hia] at h5
      exact h5
     refine And.intro (by omega) (And.intro (by omega) ?_)
     refine⟨i+1,j+1,a.set i xs[j],?_,?_,ah [some 0,some 1] ?_ ?_ rfl rfl⟩
     rotate_left
     ·show _ < _
      omega
     ·exact sC
     ·refine sA ?_
      all_goals(exact hset)
     refine⟨by omega,by omega,by simp[hal],?_,?_⟩
     ·rw[hf,←ht,List.take_add_one]
      simp[hia,List.take_set_of_le]
     ·have h5:=congrArg (List.drop 1) hd
      rw[List.drop_set_of_lt (by omega)]
      simpa[List.drop_drop] using h5
   ·simp -implicitDefEqProofs only[go_sem,h1,hal]
    simp only[ik,gE]
    have hjn:j=xs.length:=by omega
    refine gV (mY ?_)
    refine pW (xU.plain rfl (CJ _)) (pW (xU.plain rfl (CJ _)) ?_)
    refine sA ?_
    refine QV (t:=33) (e:=35) (k:=0) (m:=(i:Int)) (xs:=aj a) [.str [],.bx []] _ _ rfl rfl rfl rfl ?_ ?_ ?_ (by omega) (by rw[kp];omega) ?_ ?_
    ·exact sC
    ·exact sC
    ·exact sC
    ·simp only[sn]
     omega
    refine vf ?_
    simp -implicitDefEqProofs only[go_sem,gE]
    refine m0 hm ?_
    refine sA ?_
    refine bU (Pz (.tmp 39) (.tmp 40) 33 35 0 _ _ (EM [.str [],.bx []] (aj a) i) (i:Int) rfl rfl rfl ?_ ?_ ?_ (by omega) (by rw[Od _ _ _ (by rw[kp];omega),kp];omega)) ?_
    ·exact sC
    ·exact sC
    ·exact sC
    simp -implicitDefEqProofs only[go_sem,ik]
    refine bO ?_
    refine aG [some 0,some 1] ?_ rfl rfl
    refine sA ?_
    rw[Lo _ _ _ (by rw[kp];omega),HP,ht,hjn,List.take_length]
theorem jm(s:bA)(lits:List aE)(hl1:lits.length≤100)(hw:∀l∈lits,aZ l.atom=true):C E.P 39 [av (bF s),lv (ay lits)] [] (aO (lv (aj (numsOf s lits))) []):=by
 have hn:(ai lits).length≤10000:=by
  obtain⟨hle,hok⟩:=c9 hw
  have h1:=jT (br lits) [] hok
  rw[eY,fw hok]
  simp only[List.length_nil] at h1
  omega
 have e:(ai lits).filter (aY s)=numsOf s lits:=rfl
 refine gS (nt:=9) (rs:=[.tmp 4]) hm Tryz.func39 fun hl he hLB=>?_
 refine oC [] [1] (oB lits hl1 hw) ?_
 have hcall:=tf s (ai lits) hn
 rw[e] at hcall
 refine cz [] [1,0] hcall ?_ ?_
 ·refine sA ?_
  rfl
 refine sA ?_
 refine ab ?_
 exact sC
end Go.Proofs.YtpidddienjoleaaGreat
