/-
  The walks of literals: their terms, equations and sums. A step towards the exact laws.
-/
import Derived.Test.YtpidddienjoleaaGreatKCH
import Derived.Test.YtpidddienjoleaaGreatKCL
import Derived.Test.YtpidddienjoleaaGreatKCM
import Derived.Test.YtpidddienjoleaaGreatKCE
import Derived.Test.YtpidddienjoleaaGreatKCD
import Derived.Test.YtpidddienjoleaaGreatKCI
set_option linter.unusedVariables false
set_option linter.unusedSimpArgs false
namespace Go.Proofs.YtpidddienjoleaaGreat
open Go.Eng Go.Mod
open Int renaming reduceEq→Z1,reduceLT→Z2,reduceLE→Z3,reduceToNat→Z4
set_option maxRecDepth 100000
set_option maxHeartbeats 800000
theorem jj(xs:List Term)(hx:xs.length≤1000)(hall:∀t∈xs,isTerm t=true):C E.P 85 [lv (ai xs)] [] (aM (.acc 0) [some (.acc 35 (ai (aH xs)))]):=by
 refine gS (nt:=20) (rs:=[.tmp 2]) hm Tryz.func85 fun hl he hLB=>?_
 refine bP hm (fun(i:Nat) (out:List Term)=> i≤xs.length∧aH xs=fy (xs.drop i) out∧out.length≤15*i) (fun(i:Nat) (out:List Term)=> ⟨bW 20 .any [(3,.acc 0),(6,lv (ai xs)),(7,iv xs.length),(8,iv i)],[some (.acc 35 (ai out))]⟩) (fun(i:Nat) (out:List Term)=> xs.length-i) (0) ([]) ?_ (ah [none] ?_ ?_ rfl rfl) ?_
 rotate_left
 ·exact sC
 ·exact sC
 rotate_left
 ·simp[aH]
 ·rintro i out ⟨hi,hg,ho⟩
  rcases Classical.em (i<xs.length) with h1|h1
  ·have h2:=hall xs[i] (List.getElem_mem h1)
   rw[rV h1 h2] at hg
   have hs:=cZ h2
   have hle:=nH (l:=out) hs (by omega)
   simp -implicitDefEqProofs only[go_sem,h1]
   refine aC [] (ff xs[i]) ?_
   simp -implicitDefEqProofs only[go_sem,h2]
   refine oC [] [0,2] (mu xs[i] 4 out (by omega) hs (by omega)) ?_
   repeat(with_reducible apply And.intro;exact sO)
   refine⟨i+1,aW out xs[i],?_,?_,ah [some 2] ?_ ?_ rfl rfl⟩
   rotate_left
   ·show _ < _
    omega
   ·exact sC
   ·exact sC
   exact⟨by omega,hg,by omega⟩
  ·rw[List.drop_of_length_le (by omega),fy] at hg
   simp -implicitDefEqProofs only[go_sem,h1]
   refine aF [some 0] ?_ rfl rfl
   refine sA ?_
   rw[hg]
theorem oJ(lits:List aG)(hl1:lits.length≤100)(hw:∀l∈lits,aX l.atom=true):C E.P 38 [lv (ax lits)] [] (aM (.acc 0) [some (.acc 35 (ai (aA lits)))]):=by
 obtain⟨hle,hok⟩:=c6 hw
 refine gS (nt:=20) (rs:=[.tmp 2]) hm Tryz.func38 fun hl he hLB=>?_
 refine al hm (fun(i:Nat)=> i≤lits.length) (fun(i:Nat)=> ⟨bW 20 .any [(3,.acc 0),(6,lv (ax lits)),(7,iv lits.length),(8,iv i)],[some (.acc 35 (ai (bq (lits.take i))))]⟩) (fun(i:Nat)=> lits.length-i) (0) ?_ (ah [none] ?_ ?_ rfl rfl) ?_
 rotate_left
 ·exact sC
 ·refine sA ?_
  all_goals(rfl)
 rotate_left
 ·omega
 ·rintro i hi
  rcases Classical.em (i<lits.length) with h1|h1
  ·have h2:=c6 (lits:=lits.take i) fun l hl=>hw l (List.mem_of_mem_take hl)
   have h3:=fP (hw lits[i] (List.getElem_mem h1))
   have h4:(lits.take i).length≤100:=by simp;omega
   simp -implicitDefEqProofs only[go_sem,h1]
   refine aC [] (lz lits[i].atom) ?_
   repeat(with_reducible apply And.intro;exact sO)
   refine⟨i+1,?_,?_,ah [some 2] ?_ ?_ rfl rfl⟩
   rotate_left
   ·show _ < _
    omega
   ·exact sC
   ·refine sA ?_
    all_goals((rw[lM h1,←db]))
   exact h1
  ·have e:lits.take i=lits:=List.take_of_length_le (by omega)
   simp -implicitDefEqProofs only[go_sem,h1,e]
   refine oC [] [0,1] (Kp (e:=35) (rest:=[]) rfl (jj (bq lits) (by omega) hok)) ?_
   refine aF [some 1] ?_ rfl rfl
   refine sA ?_
   rfl
theorem sJ(lits:List aG)(hl1:lits.length≤100):C E.P 44 [lv (ax lits)] [] (aM (lv (bj (aB lits))) []):=by
 refine gS (nt:=35) (rs:=[.tmp 2]) hm Tryz.func44 fun hl he hLB=>?_
 refine al hm (fun(i:Nat)=> i≤lits.length) (fun(i:Nat)=> ⟨bW 35 .any [(3,.acc 0),(6,lv (ax lits)),(7,iv lits.length),(8,iv i)],[some (.acc 55 (bj (aB (lits.take i))))]⟩) (fun(i:Nat)=> lits.length-i) (0) ?_ (ah [none] ?_ ?_ rfl rfl) ?_
 rotate_left
 ·exact sC
 ·refine sA ?_
  all_goals(rfl)
 rotate_left
 ·omega
 ·rintro i hi
  rcases Classical.em (i<lits.length) with h1|h1
  ·have h2:=pr (lits.take i)
   have h4:(lits.take i).length≤100:=by simp;omega
   have hs:=yQ h1
   rcases Classical.em (lits[i].atom.kind=1) with h5|h5
   ·have k5:=eq_true h5
    cases h6:lits[i].no
    ·rw[if_pos ⟨h5,h6⟩] at hs
     simp -implicitDefEqProofs only[go_sem,h1,k5,h6]
     refine aC [] (dJ lits[i].atom.A) ?_
     refine aC [] (dJ lits[i].atom.B) ?_
     repeat(with_reducible apply And.intro;exact sO)
     refine⟨i+1,?_,?_,ah [some 2] ?_ ?_ rfl rfl⟩
     rotate_left
     ·show _ < _
      omega
     ·exact sC
     ·refine sA ?_
      all_goals((rw[hs,←nG,ow,jZ];rfl))
     exact h1
    ·rw[if_neg (by simp[h6]),List.append_nil] at hs
     simp -implicitDefEqProofs only[go_sem,h1,k5,h6]
     repeat(with_reducible apply And.intro;exact sO)
     refine⟨i+1,?_,?_,ah [some 0] ?_ ?_ rfl rfl⟩
     rotate_left
     ·show _ < _
      omega
     ·exact sC
     ·refine sA ?_
      all_goals((rw[hs]))
     exact h1
   ·rw[if_neg (by simp[h5]),List.append_nil] at hs
    simp -implicitDefEqProofs only[go_sem,h1,h5]
    repeat(with_reducible apply And.intro;exact sO)
    refine⟨i+1,?_,?_,ah [some 0] ?_ ?_ rfl rfl⟩
    rotate_left
    ·show _ < _
     omega
    ·exact sC
    ·refine sA ?_
     all_goals((rw[hs]))
    exact h1
  ·simp -implicitDefEqProofs only[go_sem,h1]
   refine ab ?_
   refine sA ?_
   rw[List.take_of_length_le (by omega)]
theorem nI(nums ts:List Term)(ns:List Int)(b:Int)(st:Bool)(h4:nums.length≤4)(hin:∀t∈ts,t∈nums)(hn:ns.length=ts.length)(hb:∀n∈ns,-50≤n∧n≤50)(hl4:ts.length≤4) :
 C E.P 119 [lv (ai nums),lv (ai ts),lv (aO ns),iv b,bv st] [] (aM (av (dZ (yl nums ts ns b st))) []):=by
 have hLB:=uO
 refine H8 (nt:=40) (rs:=[.cell 10 66]) hm Tryz.func119 rfl rfl rfl rfl rfl (fun hl he=>?_)
 simp -implicitDefEqProofs only[go_sem,Z3,Z4] at hl⊢
 repeat(with_reducible apply And.intro;exact sO)
 refine al hm (fun(i:Nat)=> i≤ts.length) (fun(i:Nat)=> ⟨bW 40 .any [(0,lv (ai nums)),(2,lv (aO ns)),(10,.ptr 0 0),(11,.ptr 1 0),(18,lv (ai ts)),(19,iv ts.length),(20,iv i)],[some (.box (bn (dZ kf))),some (.box [.acc 2,.d (.val (.int .i64 b)),.d (.val (.bool st))]),some (.acc 3 (aO (iw nums (ts.take i) (ns.take i) [0,0,0,0])))]⟩) (fun(i:Nat)=> ts.length-i) (0) ?_ (ah [some 0,some 2,some 1] ?_ ?_ rfl rfl) ?_
 rotate_left
 ·exact sC
 ·refine sA ?_
  all_goals(simp[aO,List.replicate,iw])
 rotate_left
 ·omega
 ·rintro i hi
  rcases Classical.em (i<ts.length) with h1|h1
  ·have h2:i<ns.length:=by omega
   have hin:=hin ts[i] (List.getElem_mem h1)
   have x1:=df.2 hin
   have x2:=ny hin
   have hL:(iw nums (ts.take i) (ns.take i) [0,0,0,0]).length=4:=AI
   have x3:(a8 nums ts[i]).toNat<(iw nums (ts.take i) (ns.take i) [0,0,0,0]).length:=by omega
   have hB:=uV (nums:=nums) (ts:=ts.take i) (ns:=ns.take i) (cs:=[0,0,0,0]) (m:=0) (by simp) (fun n hn=>hb n (List.mem_of_mem_take hn)) (by omega) _ (List.getElem_mem x3)
   have hB2:((ts.take i).length:Int)≤4:=by simp;omega
   have hB3:=hb ns[i] (List.getElem_mem h2)
   simp -implicitDefEqProofs only[go_sem,h1]
   refine ck [] (bz nums ts[i]) ?_ ?_<;>simp -implicitDefEqProofs only[go_sem,x3,h2]
   repeat(with_reducible apply And.intro;exact sO)
   refine⟨i+1,?_,?_,ah [some 0,some 1,some 2] ?_ ?_ rfl rfl⟩
   rotate_left
   ·show _ < _
    omega
   ·exact sC
   ·refine sA ?_
    all_goals((rw[w7 h1 h2,zZ _ x1,←uv x3,r3 x3];simp[lS]))
   exact h1
  ·have e1:ts.take i=ts:=List.take_of_length_le (by omega)
   have e2:ns.take i=ns:=List.take_of_length_le (by omega)
   simp -implicitDefEqProofs only[go_sem,h1,e1,e2]
   refine ab ?_
   refine sA ?_
   all_goals(simp[yl];done)
theorem zp(nums:List Term)(lits:List aG)(h4:nums.length≤4)(hl1:lits.length≤100)(hf:∀l∈lits,Fit nums l):C E.P 52 [lv (ai nums),lv (ax lits)] [] (aM (lv (bE (cL nums lits))) []):=by
 refine gS (nt:=70) (rs:=[.tmp 4]) hm Tryz.func52 fun hl he hLB=>?_
 refine al hm (fun(i:Nat)=> i≤lits.length) (fun(i:Nat)=> ⟨bW 70 .any [(0,lv (ai nums)),(5,.acc 0),(11,lv (ax lits)),(12,iv lits.length),(13,iv i)],[some (.acc 66 (bE (cL nums (lits.take i))))]⟩) (fun(i:Nat)=> lits.length-i) (0) ?_ (ah [none] ?_ ?_ rfl rfl) ?_
 rotate_left
 ·exact sC
 ·refine sA ?_
  all_goals(rfl)
 rotate_left
 ·omega
 ·rintro i hi
  rcases Classical.em (i<lits.length) with h1|h1
  ·have h2:=xt nums (lits.take i)
   have h3:(lits.take i).length≤100:=by simp;omega
   have hs:=DA (nums:=nums) h1
   have hF:=hf lits[i] (List.getElem_mem h1)
   rcases Classical.em (lits[i].atom.kind=2) with k2|k2
   ·have k:=eq_true k2
    have hw:=mJ hF.wf k2
    have hc:=nI nums lits[i].atom.nums lits[i].atom.times lits[i].atom.bound lits[i].atom.strict h4 (hF.sum k2) hw.2.2.2.1 (mO hw.2.2.2.2.2 hw.2.2.2.1).2 hw.2.2.1
    simp -implicitDefEqProofs only[go_sem,h1,k]
    refine aC [] hc ?_
    cases h6:lits[i].no
    ·rw[jG,if_pos k2,h6] at hs
     simp only[Bool.false_eq_true,if_false] at hs
     refine sA ?_
     repeat(with_reducible apply And.intro;exact sO)
     refine⟨i+1,?_,?_,ah [some 4] ?_ ?_ rfl rfl⟩
     rotate_left
     ·show _ < _
      omega
     ·exact sC
     ·refine sA ?_
      all_goals((rw[hs,←nZ,jQ,lj];rfl))
     exact h1
    ·rw[jG,if_pos k2,h6] at hs
     simp only[if_true] at hs
     refine sA ?_
     refine aC [] (zu (yl nums lits[i].atom.nums lits[i].atom.times lits[i].atom.bound lits[i].atom.strict)) ?_
     repeat(with_reducible apply And.intro;exact sO)
     refine⟨i+1,?_,?_,ah [some 4] ?_ ?_ rfl rfl⟩
     rotate_left
     ·show _ < _
      omega
     ·exact sC
     ·refine sA ?_
      all_goals((rw[hs,←nZ,jQ,lj];rfl))
     exact h1
   ·have k1:lits[i].atom.kind=1:=(kT hF.wf).resolve_right k2
    cases h6:lits[i].no
    ·simp -implicitDefEqProofs only[go_sem,h1,k2,h6]
     refine aC [] (bz nums lits[i].atom.A) ?_
     rcases Classical.em (0≤a8 nums lits[i].atom.A) with h7|h7
     ·rw[jG,if_neg k2,if_pos ⟨h6,h7⟩] at hs
      have hA:=df.1 h7
      have hB:=(hF.eq k1).1 hA
      have hm:∀t∈[lits[i].atom.A,lits[i].atom.B],t∈nums:=by
       intro t ht
       simp only[List.mem_cons,List.not_mem_nil,or_false] at ht
       rcases ht with rfl|rfl
       ·exact hA
       ·exact hB
      have c1:=nI nums [lits[i].atom.A,lits[i].atom.B] [1,-1] 0 false h4 hm rfl (by intro n hn;simp at hn;omega) (by simp)
      have c2:=nI nums [lits[i].atom.A,lits[i].atom.B] [-1,1] 0 false h4 hm rfl (by intro n hn;simp at hn;omega) (by simp)
      clear hm
      simp -implicitDefEqProofs only[go_sem,h7]
      refine ck [] c1 ?_ ?_<;>simp -implicitDefEqProofs only[go_sem,ba,j8]
      refine ck [] c2 ?_ ?_<;>simp -implicitDefEqProofs only[go_sem,ba,j8]
      repeat(with_reducible apply And.intro;exact sO)
      refine⟨i+1,?_,?_,ah [some 3] ?_ ?_ rfl rfl⟩
      rotate_left
      ·show _ < _
       omega
      ·exact sC
      ·refine sA ?_
       all_goals((rw[hs,←nZ,jQ,jQ,lj];rfl))
      exact h1
     ·rw[jG,if_neg k2,if_neg (by simp[h6,h7]),List.append_nil] at hs
      simp -implicitDefEqProofs only[go_sem,h7]
      repeat(with_reducible apply And.intro;exact sO)
      refine⟨i+1,?_,?_,ah [some 0] ?_ ?_ rfl rfl⟩
      rotate_left
      ·show _ < _
       omega
      ·exact sC
      ·refine sA ?_
       all_goals((rw[hs]))
      exact h1
    ·rw[jG,if_neg k2,if_neg (by simp[h6]),List.append_nil] at hs
     simp -implicitDefEqProofs only[go_sem,h1,k2,h6]
     repeat(with_reducible apply And.intro;exact sO)
     refine⟨i+1,?_,?_,ah [some 0] ?_ ?_ rfl rfl⟩
     rotate_left
     ·show _ < _
      omega
     ·exact sC
     ·refine sA ?_
      all_goals((rw[hs]))
     exact h1
  ·simp -implicitDefEqProofs only[go_sem,h1]
   refine ab ?_
   refine sA ?_
   rw[List.take_of_length_le (by omega)]
theorem rM(a b:Term):C E.P 98 [av (cT a),av (cT b)] [] (aM (av (kO (eO a b))) []):=by
 refine gS (nt:=9) (rs:=[.cell 4 48]) hm Tryz.func98 fun hl he hLB=>?_
 refine ab ?_
 refine sA ?_
 all_goals(simp[eO,xB];done)
theorem kC(a b:Term)(ha:isTerm a=true)(hb:isTerm b=true):C E.P 166 [av (cT a),av (cT b)] [] (aM (av (kO (cP a b))) []):=by
 refine gS (nt:=24) (rs:=[.cell 4 48]) hm Tryz.func166 fun hl he hLB=>?_
 refine aC [] (fO a ha) ?_
 refine ck [] (fO b hb) ?_ ?_<;>simp -implicitDefEqProofs only[go_sem,wT]
 refine iK ?_
 cases q:cX (aj b) (aj a)
 ·have h5:Op.bytesLess (aj b) (aj a)=false:=q
  simp -implicitDefEqProofs only[go_sem,h5]
  refine ab ?_
  refine sA ?_
  all_goals(simp[cP,q,ba,j8,cT];done)
 ·have h5:Op.bytesLess (aj b) (aj a)=true:=q
  simp -implicitDefEqProofs only[go_sem,h5]
  refine ab ?_
  refine sA ?_
  all_goals(simp[cP,q,ba,j8,cT];done)
end Go.Proofs.YtpidddienjoleaaGreat
namespace Go.Proofs.YtpidddienjoleaaGreat
open Go.Eng Go.Mod
open Int renaming reduceEq→Z1,reduceLT→Z2,reduceLE→Z3,reduceToNat→Z4
set_option maxRecDepth 100000
set_option maxHeartbeats 800000
theorem wg:C E.P 164 [.aJ] [] (aM (.acc 0) [some (.acc 48 [])]):=by
 refine gT (nt:=8) (rs:=[.tmp 2]) hm Tryz.func164 fun hl he hLB=>?_
 refine zN 48 _ true rfl rfl (by simp -implicitDefEqProofs only[go_sem,Z1,Z2,Z3,Z4]) Aj ?_
 try simp -implicitDefEqProofs only[go_sem,Z1,Z2,Z3,Z4]
 try with_reducible refine iK ?_
 refine aF [none] ?_ rfl rfl
 exact sD
theorem v7(a:Addr)(c:Nat):C E.P 164 [.d (.val (.slice (some a) 0 c))] [] (aM (.acc 0) [some (.acc 48 [])]):=by
 refine gT (nt:=8) (rs:=[.tmp 2]) hm Tryz.func164 fun hl he hLB=>?_
 refine zN 48 _ false rfl rfl (p:=.d (.val (.slice (some a) 0 c))) (by simp -implicitDefEqProofs only[go_sem,Z1,Z2,Z3,Z4]) (As _ _ _) ?_
 try simp -implicitDefEqProofs only[go_sem,Z1,Z2,Z3,Z4]
 try with_reducible refine iK ?_
 repeat(with_reducible apply And.intro;exact sO)
 refine aF [some 1] ?_ rfl rfl
 exact sD
theorem tz(r:List D)(rs:List (List D))(hl1:rs.length≤1000)(h1:∀y∈r::rs,y.length=10):C E.P 164 [.d (.bu (r::rs))] [] (aM (.acc 0) [some (.acc 48 (r::rs))]):=by
 refine gT (nt:=8) (rs:=[.tmp 2]) hm Tryz.func164 fun hl he hLB=>?_
 refine zN 48 _ false rfl rfl (p:=.d (.bu (r::rs))) (by simp -implicitDefEqProofs only[go_sem,Z1,Z2,Z3,Z4]) A3 ?_
 try simp -implicitDefEqProofs only[go_sem,Z1,Z2,Z3,Z4]
 try with_reducible refine iK ?_
 refine And.intro ⟨?_,by omega,by omega⟩ ?_
 ·simpa using h1
 refine aF [some 1] ?_ rfl rfl
 exact sD
theorem EN(lits:List aG)(hl1:lits.length≤1000):C E.P 164 [lv (ax lits)] [] (aM (.acc 0) [some (.acc 48 (ax lits))]):=by
 cases lits with
 | nil=>exact Hi wg v7
 | cons x xs=>
   have h1:=vC (x::xs)
   rw[hY] at h1⊢
   exact tz (kO x) (ax xs) (by rw[u5];simp at hl1;omega) h1
theorem x8(lits:List aG)(l:aG)(hl1:lits.length≤100):C E.P 97 [lv (ax lits),av (kO l)] [] (aM (lv (ax (lits++[l]))) []):=by
 refine gT (nt:=10) (rs:=[.tmp 4]) hm Tryz.func97 fun hl he hLB=>?_
 refine oD [] [1] (EN lits (by omega)) ?_
 try with_reducible refine iK ?_
 repeat(with_reducible apply And.intro;exact sO)
 refine ab ?_
 refine sB ?_
 rw[←Dh,hY,oU]
 rfl
theorem zI(a b:Term)(ta:isTerm a=true)(tb:isTerm b=true):C E.P 103 [av (cT a),av (cT b)] [] (aM (lv (ax (gu a b))) []):=by
 refine gT (nt:=15) (rs:=[.tmp 4]) hm Tryz.func103 fun hl he hLB=>?_
 refine aD [] (rM a b) ?_
 try with_reducible refine iK ?_
 refine aD [] (kC a b ta tb) ?_
 try with_reducible refine iK ?_
 refine aD [] (kC b a tb ta) ?_
 try with_reducible refine iK ?_
 repeat(with_reducible apply And.intro;exact sO)
 refine ab ?_
 refine sB ?_
 rw[gu,hY,hY,hY,oU]
 rfl
end Go.Proofs.YtpidddienjoleaaGreat
namespace Go.Proofs.YtpidddienjoleaaGreat
open Go.Eng Go.Mod
open Int renaming reduceEq→Z1,reduceLT→Z2,reduceLE→Z3,reduceToNat→Z4
set_option maxRecDepth 100000
set_option maxHeartbeats 800000
theorem nL(s:bJ)(t:Term):C E.P 87 [av (cT t),.cf [bw s] 0 0] [] (aM (bv (!bc s t)) []):=by
 refine gS (nt:=8) (rs:=[.tmp 3]) hm Tryz.func87 fun hl he hLB=>?_
 refine aC [] (nM s t) ?_
 refine ab ?_
 exact sC
theorem Jc{a:List Term}{i:Nat}(h:i<a.length)(v:Term):(ai a).set i (lS (row (ai a) i) 0 (cT v))=ai (a.set i v):=by
 have e:lS (row (ai a) i) 0 (cT v)=cT v:=by
  rw[tw h]
  simp[lS,cT]
 rw[e,fM,fM,List.map_set]
theorem xS{p:Term→Bool}:∀{xs:List Term}{i:Int},0≤i→(bZ p xs i = -1∧xs.filter (fun t=>!p t)=xs)∨∃j:Nat,bZ p xs i=i+j∧j<xs.length∧(xs.take (j+1)).filter (fun t=>!p t)=xs.take j
 | [],i,_=>.inl (by simp[bZ])
 | x::xs,i,h=>by
   simp only[bZ]
   cases hx:p x with
   | true=>
     refine .inr ⟨0,?_,by simp,by simp[hx]⟩
     simp
   | false=>
     simp only[Bool.false_eq_true,if_false]
     rcases xS (p:=p) (xs:=xs) (i:=i+1) (by omega) with⟨h1,h2⟩|⟨j,h1,h2,h3⟩
     ·exact .inl ⟨h1,by simp[hx,h2]⟩
     ·refine .inr ⟨j+1,by rw[h1];omega,by simp;omega,?_⟩
      rw[List.take_succ_cons,List.filter_cons,List.take_succ_cons,h3]
      simp[hx]
theorem tc(s:bJ)(xs:List Term)(hl1:xs.length≤10000):C E.P 86 [.acc 0,.fn 87 [.ptr 1 0]] [some (.acc 35 (ai xs)),some (.box (bn (bw s)))] (aM (lv (ai (xs.filter (bc s)))) [some .dead,some (.box (bn (bw s)))]):=by
 have hLB:LB=1099511627776:=rfl
 refine Ak (nt:=42) (rs:=[.tmp 4]) Tryz.func86 rfl rfl rfl rfl rfl (fun hl he=>?_)
 simp -implicitDefEqProofs only[go_sem] at hl he⊢
 refine gG (lW hm ?_)
 simp -implicitDefEqProofs only[go_sem,gZ,gi]
 refine gG (lW hm ?_)
 refine sA ?_
 refine bG [] [0,1] (iz 87 [.cf [bw s] 0 0] rfl (fun t=>!bc s t) xs (fun t _=>nL s t)) rfl ?_ ?_ ?_
 ·exact sV
 all_goals simp -implicitDefEqProofs only[go_sem]
 simp -implicitDefEqProofs only[go_sem,gZ,gi]
 rcases xS (p:=fun t=>!bc s t) (xs:=xs) (i:=0) (by omega) with⟨h1,h2⟩|⟨j0,h1,h2,h3⟩
 ·have e:idxOf (fun t=>!bc s t) xs = -1:=h1
  rw[e]
  refine gG (lW hm ?_)
  simp -implicitDefEqProofs only[go_sem,gZ,Ce]
  refine⟨_,AK 4 0 35 (ai xs) rfl rfl,?_⟩
  have e2:xs.filter (bc s)=xs:=by simpa using h2
  rw[e2]
  refine aF [some 0,some 1] ?_ rfl rfl
  refine sA ?_
  all_goals simp
 ·have e:idxOf (fun t=>!bc s t) xs=(j0:Int):=by rw[idxOf,h1];omega
  rw[e]
  have n1:¬ (j0:Int) = -1:=by omega
  refine gG (lW hm ?_)
  simp -implicitDefEqProofs only[go_sem,gZ,gi,n1]
  refine gG (lW hm ?_)
  refine sA ?_
  repeat(with_reducible apply And.intro;exact sO)
  refine gX hm (fun(i:Nat) (j:Nat) (a:List Term)=> i≤j∧j≤xs.length∧a.length=xs.length∧a.take i=(xs.take j).filter (bc s)∧a.drop j=xs.drop j) (fun(i:Nat) (j:Nat) (a:List Term)=> ⟨bW 42 .any [(0,.acc 0),(1,.fn 87 [.ptr 1 0]),(5,iv i),(6,iv j)],[some (.acc 35 (ai a)),some (.box (bn (bw s)))]⟩) (fun(i:Nat) (j:Nat) (a:List Term)=> xs.length-j) (j0) (j0+1) (xs) ?_ (ah [some 0,some 1] ?_ ?_ rfl rfl) ?_
  rotate_left
  ·exact sC
  ·exact sC
  rotate_left
  ·exact⟨by omega,by omega,rfl,by simpa using h3.symm,rfl⟩
  ·rintro i j a ⟨hij,hj,hal,ht,hd⟩
   rcases Classical.em (j<xs.length) with h1|h1
   ·have h1a:j<a.length:=by omega
    have hia:i<a.length:=by omega
    have hx:a[j]=xs[j]:=by
     have h4:(a.drop j)[0]?=(xs.drop j)[0]?:=by rw[hd]
     simpa[h1,h1a] using h4
    have hf:(xs.take (j+1)).filter (bc s)=(xs.take j).filter (bc s)++(if bc s xs[j] then [xs[j]] else []):=by
     rw[List.take_add_one,List.getElem?_eq_getElem h1,List.filter_append]
     congr 1
     simp[List.filter_cons]
    simp -implicitDefEqProofs only[go_sem,h1a]
    refine bG [.ptr 1 0] [1] (nL s a[j]) rfl ?_ ?_ ?_
    ·exact sV
    all_goals simp -implicitDefEqProofs only[go_sem]
    rw[hx]
    cases h4:bc s xs[j]
    ·rw[h4] at hf
     refine sA ?_
     refine And.intro (by omega) ?_
     refine⟨i,j+1,a,?_,?_,ah [some 0,some 1] ?_ ?_ rfl rfl⟩
     rotate_left
     ·show _ < _
      omega
     ·exact sC
     ·exact sC
     refine⟨by omega,by omega,hal,by rw[hf,ht];simp,?_⟩
     have h5:=congrArg (List.drop 1) hd
     simpa[List.drop_drop] using h5
    ·rw[h4] at hf
     simp -implicitDefEqProofs only[go_sem,hia]
     have hset:(ai a).set i (lS [D.str a[i].name,D.bu (ai a[i].kids)] 0 [D.str xs[j].name,D.bu (ai xs[j].kids)])=ai (a.set i xs[j]):=by
      have h5:=Jc hia xs[j]
      rw[tw hia] at h5
      exact h5
     refine And.intro (by omega) (And.intro (by omega) ?_)
     refine⟨i+1,j+1,a.set i xs[j],?_,?_,ah [some 0,some 1] ?_ ?_ rfl rfl⟩
     rotate_left
     ·show _ < _
      omega
     ·exact sC
     ·refine sA ?_
      all_goals(exact hset)
     refine⟨by omega,by omega,by simp[hal],?_,?_⟩
     ·rw[hf,←ht,List.take_add_one]
      simp[hia,List.take_set_of_le]
     ·have h5:=congrArg (List.drop 1) hd
      rw[List.drop_set_of_lt (by omega)]
      simpa[List.drop_drop] using h5
   ·simp -implicitDefEqProofs only[go_sem,h1,hal]
    simp only[gZ,gi]
    have hjn:j=xs.length:=by omega
    refine gG (mw ?_)
    refine pP (x7.plain rfl (Ca _)) (pP (x7.plain rfl (Ca _)) ?_)
    refine sA ?_
    refine Pc (t:=33) (e:=35) (k:=0) (m:=(i:Int)) (xs:=ai a) [.str [],.bu []] _ _ rfl rfl rfl rfl ?_ ?_ ?_ (by omega) (by rw[jU];omega) ?_ ?_
    ·exact sC
    ·exact sC
    ·exact sC
    ·simp only[sj]
     omega
    refine tY ?_
    simp -implicitDefEqProofs only[go_sem,gi]
    refine lW hm ?_
    refine sA ?_
    refine bS (M8 (.tmp 39) (.tmp 40) 33 35 0 _ _ (Eb [.str [],.bu []] (ai a) i) (i:Int) rfl rfl rfl ?_ ?_ ?_ (by omega) (by rw[N6 _ _ _ (by rw[jU];omega),jU];omega)) ?_
    ·exact sC
    ·exact sC
    ·exact sC
    simp -implicitDefEqProofs only[go_sem,gZ]
    refine bR ?_
    refine aF [some 0,some 1] ?_ rfl rfl
    refine sA ?_
    rw[KI _ _ _ (by rw[jU];omega),Fy,ht,hjn,List.take_length]
theorem qx(s:bJ)(lits:List aG)(hl1:lits.length≤100)(hw:∀l∈lits,aX l.atom=true):C E.P 39 [av (bw s),lv (ax lits)] [] (aM (lv (ai (numsOf s lits))) []):=by
 have hn:(aA lits).length≤10000:=by
  obtain⟨hle,hok⟩:=c6 hw
  have h1:=jA (bq lits) [] hok
  rw[eY,dq hok]
  simp only[List.length_nil] at h1
  omega
 have e:(aA lits).filter (bc s)=numsOf s lits:=rfl
 refine gS (nt:=9) (rs:=[.tmp 4]) hm Tryz.func39 fun hl he hLB=>?_
 refine oC [] [1] (oJ lits hl1 hw) ?_
 have hcall:=tc s (aA lits) hn
 rw[e] at hcall
 refine cm [] [1,0] hcall ?_ ?_
 ·refine sA ?_
  rfl
 refine sA ?_
 refine ab ?_
 exact sC
end Go.Proofs.YtpidddienjoleaaGreat
