/-
  The reference: the walks of what is told of numbers. A step towards the exact laws.
-/
import Derived.Test.YtabembjmeobhoaaGreatKCP
import Derived.Test.YtabembjmeobhoaaGreatKCQ
set_option linter.unusedVariables false
set_option linter.unusedSimpArgs false
open Classical renaming em→aa
open Int renaming lt_irrefl→jE
open List renaming getElem_mem→ak,take_of_length_le→ao,replicate→aU,append_nil→bm
namespace Go.Proofs.YtabembjmeobhoaaGreat
open Go.Eng Go.Mod
open Int renaming reduceEq→Z1,reduceLT→Z2,reduceLE→Z3,reduceToNat→Z4
set_option maxRecDepth 100000
set_option maxHeartbeats 800000
theorem BK(ab:List bl)(hl1:ab.length≤100):C E.P 126 [lv (aV ab)] [] (bD (lv (cS (a7 ab))) []):=by
 refine gT (nt:=44) (rs:=[.tmp 2]) hm Tryz.func126 fun hl he cq=>?_
 refine aM hm (fun(i:Nat)=> i≤ab.length) (fun(i:Nat)=> ⟨dH 44 .any [(0,lv (aV ab)),(3,.acc 0),(4,iv i)],[some (.acc 134 (cS (a7 (ab.take i))))]⟩) (fun(i:Nat)=> ab.length-i) (0) ?_ (ar [some 0] ?_ ?_ rfl rfl) ?_
 rotate_left
 ·refine sB ?_
  all_goals(first|done|(rfl)|(simp[aI, *];done)|(simp[aI];done)|(simp;omega)|skip)
 ·refine sB ?_
  all_goals(first|done|(rfl)|(simp[aI, *];done)|(simp[aI];done)|(simp;omega)|skip)
 rotate_left
 ·omega
 ·rintro i hi
  rcases aa (i<ab.length) with h1|h1
  ·have h2:=Kg (ab.take i)
   have h4:(ab.take i).length≤100:=by simp;omega
   have hs:=Gq h1
   rcases aa (ab[i].atom.kind=1) with h5|h5
   ·have k5:=eq_true h5
    cases h6:ab[i].no
    ·rw[if_pos ⟨h5,h6⟩] at hs
     try simp -implicitDefEqProofs only[go_sem,Z1,Z2,Z3,Z4,h1,k5,h6]
     refine sJ ?_
     refine⟨i+1,?_,sL,ar [some 1] ?_ ?_ rfl rfl⟩
     rotate_left
     ·refine sB ?_
      all_goals(first|done|((rw[hs,←lK,jA,jL];rfl))|(simp[aI, *];done)|(simp[aI];done)|(simp;omega)|skip)
     ·refine sB ?_
      all_goals(first|done|((rw[hs,←lK,jA,jL];rfl))|(simp[aI, *];done)|(simp[aI];done)|(simp;omega)|skip)
     exact h1
    ·rw[if_neg (by simp[h6]),bm] at hs
     try simp -implicitDefEqProofs only[go_sem,Z1,Z2,Z3,Z4,h1,k5,h6]
     refine sJ ?_
     refine⟨i+1,?_,sL,ar [some 0] ?_ ?_ rfl rfl⟩
     rotate_left
     ·refine sB ?_
      all_goals(first|done|((rw[hs]))|(simp[aI, *];done)|(simp[aI];done)|(simp;omega)|skip)
     ·refine sB ?_
      all_goals(first|done|((rw[hs]))|(simp[aI, *];done)|(simp[aI];done)|(simp;omega)|skip)
     exact h1
   ·rw[if_neg (by simp[h5]),bm] at hs
    try simp -implicitDefEqProofs only[go_sem,Z1,Z2,Z3,Z4,h1,h5]
    refine sJ ?_
    refine⟨i+1,?_,sL,ar [some 0] ?_ ?_ rfl rfl⟩
    rotate_left
    ·refine sB ?_
     all_goals(first|done|((rw[hs]))|(simp[aI, *];done)|(simp[aI];done)|(simp;omega)|skip)
    ·refine sB ?_
     all_goals(first|done|((rw[hs]))|(simp[aI, *];done)|(simp[aI];done)|(simp;omega)|skip)
    exact h1
  ·try simp -implicitDefEqProofs only[go_sem,Z1,Z2,Z3,Z4,h1]
   refine sI ?_
   refine an ?_
   refine sB ?_
   rw[ao (by omega)]
theorem Lg(a b:D):sS [a] 0 [b]=[b]:=rfl
theorem C2(cs:List Int)(i:Nat)(v:Int):(bI cs).set i [.val (.int .i64 v)]=bI (cs.set i v):=by
 simp[bI,List.map_set]
theorem zp(nums:List Term)(a b:Term)(h4:nums.length≤4)(ha:a∈nums)(hb:b∈nums):C E.P 132 [lv (aN nums),av (cT a),av (cT b)] [] (bD (av (eS (lW nums [a,b] [1,-1] 0 false))) []):=by
 have xa:=cR.2 ha
 have xb:=cR.2 hb
 have ya:=nZ ha
 have yb:=nZ hb
 obtain⟨z,hz⟩:∃z:List Int,z=[0,0,0,0]:=⟨_,rfl⟩
 have hr:aU 4 [D.val (Value.int IntKind.i64 0)]=bI z:=by rw[hz];rfl
 have hzl:z.length=4:=by rw[hz];rfl
 have za:(bL nums a).toNat<z.length:=by omega
 have va:z[(bL nums a).toNat]=0:=by
  have:=VD (bL nums a).toNat
  rw[←hz,m9 za] at this
  exact this
 obtain⟨v,hv⟩:∃v:Int,v=z[(bL nums a).toNat]+1:=⟨_,rfl⟩
 have zb:(bL nums b).toNat<(z.set (bL nums a).toNat v).length:=by rw[List.length_set];omega
 have vb:(z.set (bL nums a).toNat v)[(bL nums b).toNat]=0∨(z.set (bL nums a).toNat v)[(bL nums b).toNat]=1:=by
  rw[List.getElem_set]
  split
  ·right;omega
  ·left
   have:=VD (bL nums b).toNat
   rw[←hz,m9 (by omega)] at this
   exact this
 have el:lW nums [a,b] [1,-1] 0 false=⟨(z.set (bL nums a).toNat v).set (bL nums b).toNat ((z.set (bL nums a).toNat v)[(bL nums b).toNat] - 1),0,false⟩:=by
  simp only[lW,jY]
  rw[←hz,uM _ xa,m9 za,←hv,uM _ xb,m9 zb]
  rfl
 rw[el]
 refine gT (nt:=39) (rs:=[.cell 6 162]) hm Tryz.func132 fun hl he cq=>?_
 refine sQ ?_
 refine aD [] (cV nums a) ?_
 refine sI ?_
 refine bp [] (cV nums b) ?_ ?_<;>simp -implicitDefEqProofs only[go_sem,Z1,Z2,Z3,Z4,hr,za]
 refine sJ ?_
 have hv':=hv.symm
 try simp -implicitDefEqProofs only[go_sem,Z1,Z2,Z3,Z4,Lg,C2,za,hv',zb]
 refine sJ ?_
 try simp -implicitDefEqProofs only[go_sem,Z1,Z2,Z3,Z4,Lg,C2,zb]
 refine sJ ?_
 refine an ?_
 refine sB ?_
 all_goals(first|done|(simp;done)|(simp;omega)|skip)
theorem Lj(nums:List Term)(l:bl)(h4:nums.length≤4)(hF:Fit nums l)(k2:l.atom.kind=2):C E.P 131 [lv (aN nums),av (nI l)] [] (bD (av (eS (if l.no then pS (lW nums l.atom.nums l.atom.times l.atom.bound l.atom.strict) else lW nums l.atom.nums l.atom.times l.atom.bound l.atom.strict))) []):=by
 have hw:=mT hF.wf k2
 have kF:=hF.sum k2
 rw[Te hw.2.2.2.2.2 hw.2.2.2.1 kF]
 obtain⟨ts,hts⟩:∃ts,ts=l.atom.nums:=⟨_,rfl⟩
 obtain⟨ns,hns⟩:∃ns,ns=l.atom.times:=⟨_,rfl⟩
 refine gT (nt:=45) (rs:=[.cell 4 162]) hm Tryz.func131 fun hl he cq=>?_
 refine sQ ?_
 refine aM hm (fun(i:Nat)=> i≤l.atom.nums.length) (fun(i:Nat)=> ⟨dH 45 .any [(0,lv (aN nums)),(3,.ptr 0 0),(4,.ptr 1 0),(5,.ptr 2 0),(6,iv i)],[some (.box (cF (nI l))),some (.box (cF (eS mO))),some (.box [.acc 3,.d (.val (.int .i64 l.atom.bound)),.d (.val (.bool l.atom.strict))]),some (.acc 3 (bI (ob nums (l.atom.nums.take i) (l.atom.times.take i) [0,0,0,0])))]⟩) (fun(i:Nat)=> l.atom.nums.length-i) (0) ?_ (ar [some 0,some 1,some 3,some 2] ?_ ?_ rfl rfl) ?_
 rotate_left
 ·refine sB ?_
  all_goals(first|done|(simp[bI,aU,ob])|(simp[aI, *];done)|(simp[aI];done)|(simp;omega)|skip)
 ·refine sB ?_
  all_goals(first|done|(simp[bI,aU,ob])|(simp[aI, *];done)|(simp[aI];done)|(simp;omega)|skip)
 rotate_left
 ·omega
 ·rintro i hi
  have dz:=hw.2.2.2.1
  rcases aa (i<l.atom.nums.length) with h1|h1
  ·have h2:i<l.atom.times.length:=by omega
   have hin':=kF l.atom.nums[i] (ak h1)
   have x1:=cR.2 hin'
   have x2:=nZ hin'
   have hL:(ob nums (l.atom.nums.take i) (l.atom.times.take i) [0,0,0,0]).length=4:=KG
   have x3:(bL nums l.atom.nums[i]).toNat<(ob nums (l.atom.nums.take i) (l.atom.times.take i) [0,0,0,0]).length:=by omega
   try simp -implicitDefEqProofs only[go_sem,Z1,Z2,Z3,Z4,h1,h2]
   refine sI ?_
   refine bp [] (cV nums l.atom.nums[i]) ?_ ?_<;>simp -implicitDefEqProofs only[go_sem,Z1,Z2,Z3,Z4,x3,h2,Lg,C2]
   refine sJ ?_
   refine⟨i+1,?_,sL,ar [some 0,some 1,some 2,some 3] ?_ ?_ rfl rfl⟩
   rotate_left
   ·refine sB ?_
    all_goals(first|done|((rw[AD h1 h2]))|(simp[aI, *];done)|(simp[aI];done)|(simp;omega)|skip)
   ·refine sB ?_
    all_goals(first|done|((rw[AD h1 h2]))|(simp[aI, *];done)|(simp[aI];done)|(simp;omega)|skip)
   exact h1
  ·have e1:l.atom.nums.take i=l.atom.nums:=ao (by omega)
   have e2:l.atom.times.take i=l.atom.times:=ao (by omega)
   cases h6:l.no
   ·try simp -implicitDefEqProofs only[go_sem,Z1,Z2,Z3,Z4,h1,e1,e2,h6]
    refine sI ?_
    refine an ?_
    refine sB ?_
    all_goals(first|done|(simp;done)|(simp;omega)|skip)
   ·try simp -implicitDefEqProofs only[go_sem,Z1,Z2,Z3,Z4,h1,e1,e2,h6]
    refine sI ?_
    have hc:=IG ⟨ob nums l.atom.nums l.atom.times [0,0,0,0],l.atom.bound,l.atom.strict⟩
    refine oD [] [3] (vd (e:=3) (args:=[.agg [.acc 0,.d (.val (.int .i64 l.atom.bound)),.d (.val (.bool l.atom.strict))]]) (iR.cons (Vw.agg (iR.cons (Vw.acc rfl rfl) (iR.cons (Vw.same rfl) (iR.cons (Vw.same rfl) iR.nil)))) iR.nil) (abu _) hc) ?_
    refine sI ?_
    refine an ?_
    refine sB ?_
    all_goals(first|done|(simp;done)|(simp;omega)|skip)
theorem I6(nums:List Term)(ab:List bl)(h4:nums.length≤4)(hl1:ab.length≤100)(hf:∀l∈ab,Fit nums l):C E.P 64 [lv (aN nums),lv (aV ab)] [] (bD (lv (dm (dX nums ab))) []):=by
 refine gT (nt:=63) (rs:=[.tmp 4]) hm Tryz.func64 fun hl he cq=>?_
 refine aM hm (fun(i:Nat)=> i≤ab.length) (fun(i:Nat)=> ⟨dH 63 .any [(0,lv (aN nums)),(1,lv (aV ab)),(5,.acc 0),(6,iv i)],[some (.acc 162 (dm (dX nums (ab.take i))))]⟩) (fun(i:Nat)=> ab.length-i) (0) ?_ (ar [some 0] ?_ ?_ rfl rfl) ?_
 rotate_left
 ·refine sB ?_
  all_goals(first|done|(rfl)|(simp[aI, *];done)|(simp[aI];done)|(simp;omega)|skip)
 ·refine sB ?_
  all_goals(first|done|(rfl)|(simp[aI, *];done)|(simp[aI];done)|(simp;omega)|skip)
 rotate_left
 ·omega
 ·rintro i hi
  rcases aa (i<ab.length) with h1|h1
  ·have h2:=Aq nums (ab.take i)
   have h3:(ab.take i).length≤100:=by simp;omega
   have hs:=DB (nums:=nums) h1
   have hF:=hf ab[i] (ak h1)
   rcases aa (ab[i].atom.kind=2) with k2|k2
   ·have k:=eq_true k2
    rw[jf,if_pos k2] at hs
    try simp -implicitDefEqProofs only[go_sem,Z1,Z2,Z3,Z4,h1,k]
    refine sI ?_
    refine aD [] (Lj nums ab[i] h4 hF k2) ?_
    refine sJ ?_
    refine⟨i+1,?_,sL,ar [some 2] ?_ ?_ rfl rfl⟩
    rotate_left
    ·refine sB ?_
     all_goals(first|done|((rw[hs,←mX,iO,ly];rfl))|(simp[aI, *];done)|(simp[aI];done)|(simp;omega)|skip)
    ·refine sB ?_
     all_goals(first|done|((rw[hs,←mX,iO,ly];rfl))|(simp[aI, *];done)|(simp[aI];done)|(simp;omega)|skip)
    exact h1
   ·have k1:ab[i].atom.kind=1:=(kh hF.wf).resolve_right k2
    cases h6:ab[i].no
    ·try simp -implicitDefEqProofs only[go_sem,Z1,Z2,Z3,Z4,h1,k2,h6]
     refine sI ?_
     refine aD [] (cV nums ab[i].atom.A) ?_
     refine sI ?_
     rcases aa (0≤bL nums ab[i].atom.A) with h7|h7
     ·rw[jf,if_neg k2,if_pos ⟨h6,h7⟩] at hs
      have hA:=cR.1 h7
      have hB:=(hF.eq k1).1 hA
      rw[Qk] at hs
      try simp -implicitDefEqProofs only[go_sem,Z1,Z2,Z3,Z4,h7]
      refine sI ?_
      refine aD [] (zp nums ab[i].atom.A ab[i].atom.B h4 hA hB) ?_
      refine sI ?_
      refine aD [] (zp nums ab[i].atom.B ab[i].atom.A h4 hB hA) ?_
      refine sJ ?_
      refine⟨i+1,?_,sL,ar [some 2] ?_ ?_ rfl rfl⟩
      rotate_left
      ·refine sB ?_
       all_goals(first|done|((rw[hs,←mX,iO,iO,ly];rfl))|(simp[aI, *];done)|(simp[aI];done)|(simp;omega)|skip)
      ·refine sB ?_
       all_goals(first|done|((rw[hs,←mX,iO,iO,ly];rfl))|(simp[aI, *];done)|(simp[aI];done)|(simp;omega)|skip)
      exact h1
     ·rw[jf,if_neg k2,if_neg (by simp[h6,h7]),bm] at hs
      try simp -implicitDefEqProofs only[go_sem,Z1,Z2,Z3,Z4,h7]
      refine sJ ?_
      refine⟨i+1,?_,sL,ar [some 0] ?_ ?_ rfl rfl⟩
      rotate_left
      ·refine sB ?_
       all_goals(first|done|((rw[hs]))|(simp[aI, *];done)|(simp[aI];done)|(simp;omega)|skip)
      ·refine sB ?_
       all_goals(first|done|((rw[hs]))|(simp[aI, *];done)|(simp[aI];done)|(simp;omega)|skip)
      exact h1
    ·rw[jf,if_neg k2,if_neg (by simp[h6]),bm] at hs
     try simp -implicitDefEqProofs only[go_sem,Z1,Z2,Z3,Z4,h1,k2,h6]
     refine sJ ?_
     refine⟨i+1,?_,sL,ar [some 0] ?_ ?_ rfl rfl⟩
     rotate_left
     ·refine sB ?_
      all_goals(first|done|((rw[hs]))|(simp[aI, *];done)|(simp[aI];done)|(simp;omega)|skip)
     ·refine sB ?_
      all_goals(first|done|((rw[hs]))|(simp[aI, *];done)|(simp[aI];done)|(simp;omega)|skip)
     exact h1
  ·try simp -implicitDefEqProofs only[go_sem,Z1,Z2,Z3,Z4,h1]
   refine sI ?_
   refine an ?_
   refine sB ?_
   rw[ao (by omega)]
theorem BA(a b:Term):C E.P 68 [av (cT a),av (cT b)] [] (bD (av (nI (gx a b))) []):=by
 refine gT (nt:=9) (rs:=[.cell 4 49]) hm Tryz.func68 fun hl he cq=>?_
 refine an ?_
 refine sB ?_
 all_goals(first|done|(simp[gx,xj];done)|(simp[gx,xj];omega)|skip)
theorem zJ(ab:List bl)(l:bl)(hl1:ab.length≤100):C E.P 67 [lv (aV ab),av (nI l)] [] (bD (lv (aV (ab++[l]))) []):=by
 refine gT (nt:=11) (rs:=[.tmp 4]) hm Tryz.func67 fun hl he cq=>?_
 refine sQ ?_
 refine an ?_
 refine sB ?_
 rw[←DH,ni,s9]
 rfl
def zj{α:Type}(i:Nat)(xs:List α):List α:=match i with
 | 0=>[]
 | _+1=>xs
def Oj(i:Nat)(b:Bool):Bool:=match i with
 | 0=>false
 | _+1=>b
theorem RY{α:Type}(xs:List α):zj 0 xs=[]:=rfl
theorem St{α:Type}(xs:List α):zj 1 xs=xs:=rfl
theorem YI(b:Bool):Oj 0 b=false:=rfl
theorem Zh(b:Bool):Oj 1 b=b:=rfl
theorem IT(t:Term)(n:Int):C E.P 212 [av (fW ⟨2,aL,aL,[],[],0,true⟩),av (cT t),iv n] [] (bD (av (fW ⟨2,aL,aL,[t],[n],0,true⟩)) []):=by
 refine gS (nt:=90) (rs:=[.cell 6 47]) hm Tryz.func212 fun hl he cq=>?_
 refine aM hm (fun(i:Nat)=> i=0) (fun(i:Nat)=> ⟨dH 90 .any [(2,iv n),(3,.ptr 0 0),(4,.ptr 1 0),(6,.ptr 2 0),(7,.ptr 3 0),(8,bv false),(9,iv i)],[some (.box (cF (fW ⟨2,aL,aL,[],[],0,true⟩))),some (.box (cF (cT t))),some (.box (cF (fW xe))),some (.box [.d (.val (.int .i64 2)),.d (.str []),.d (.dC []),.d (.str []),.d (.dC []),.acc 4,.acc 5,.d (.val (.int .i64 0)),.d (.val (.bool true))]),some (.acc 34 (aN [])),some (.acc 3 (bI []))]⟩) (fun(i:Nat)=> 0-i) (0) ?_ (ar [some 0,some 1,some 2,some 3,none,none] ?_ ?_ rfl rfl) ?_
 rotate_left
 ·exact sC
 ·refine sA ?_
  all_goals(simp[xe])
 rotate_left
 ·rfl
 ·rintro i rfl
  simp -implicitDefEqProofs only[go_sem,jE]
  refine sQ ?_
  refine an ?_
  refine sA ?_
  simp[dJ,jR,cT]
theorem IE(a b:Term)(k n:Int)(ta:isTerm a=true)(tb:isTerm b=true)(lQ:gC (aO b) (aO a)=true) :
 C E.P 212 [av (fW ⟨2,aL,aL,[a],[k],0,true⟩),av (cT b),iv n] [] (bD (av (fW ⟨2,aL,aL,[b,a],[n,k],0,true⟩)) []):=by
 have hl1:Op.bytesLess (aO b) (aO a)=true:=lQ
 have jD:¬aO a=aO b:=fun h=>Mf hl1 h.symm
 have hl2:Op.bytesLess (aO a) (aO b)=false:=by
  cases h:Op.bytesLess (aO a) (aO b)
  ·rfl
  ·have:=vU h hl1
   rw[tc] at this
   cases this
 refine gS (nt:=90) (rs:=[.cell 6 47]) hm Tryz.func212 fun hl he cq=>?_
 refine aM hm (fun(i:Nat)=> i=0∨i=1) (fun(i:Nat)=> ⟨dH 90 .any [(2,iv n),(3,.ptr 0 0),(4,.ptr 1 0),(6,.ptr 2 0),(7,.ptr 3 0),(8,bv (Oj i true)),(9,iv i)],[some (.box (cF (fW ⟨2,aL,aL,[a],[k],0,true⟩))),some (.box (cF (cT b))),some (.box (cF (fW xe))),some (.box [.d (.val (.int .i64 2)),.d (.str []),.d (.dC []),.d (.str []),.d (.dC []),.acc 4,.acc 5,.d (.val (.int .i64 0)),.d (.val (.bool true))]),some (.acc 34 (aN (zj i [b,a]))),some (.acc 3 (bI (zj i [n,k])))]⟩) (fun(i:Nat)=> 1-i) (0) ?_ (ar [some 0,some 1,some 2,some 3,none,none] ?_ ?_ rfl rfl) ?_
 rotate_left
 ·refine sA ?_
  all_goals(simp[Oj])
 ·refine sA ?_
  all_goals(simp[xe,zj])
 rotate_left
 ·left;rfl
 ·rintro i (rfl|rfl)
  ·simp -implicitDefEqProofs only[go_sem,Z2,RY,YI,dJ,jR,yg]
   refine aC [] (ja a ta) ?_
   refine bp [] (ja b tb) ?_ ?_<;>simp -implicitDefEqProofs only[go_sem,hl2]
   refine sQ ?_
   refine bp [] (ja b tb) ?_ ?_<;>simp -implicitDefEqProofs only[go_sem,jD,yg]
   refine sQ ?_
   refine⟨1,?_,sL,ar [some 0,some 1,some 2,some 3,some 8,some 9] ?_ ?_ rfl rfl⟩
   rotate_left
   ·refine sA ?_
    all_goals(simp[Oj])
   ·refine sA ?_
    all_goals(simp[zj,dJ,jR,cT])
   right;rfl
  ·simp -implicitDefEqProofs only[go_sem,St,Zh,jE]
   refine an ?_
   exact sC
theorem IM(a b:Term)(k n:Int)(ta:isTerm a=true)(tb:isTerm b=true)(hgt:gC (aO b) (aO a)=false)(jD:¬aO a=aO b) :
 C E.P 212 [av (fW ⟨2,aL,aL,[a],[k],0,true⟩),av (cT b),iv n] [] (bD (av (fW ⟨2,aL,aL,[a,b],[k,n],0,true⟩)) []):=by
 have hl2:Op.bytesLess (aO a) (aO b)=true:=Af (a:=aO b) (b:=aO a) (fun e=>jD e.symm) hgt
 refine gS (nt:=90) (rs:=[.cell 6 47]) hm Tryz.func212 fun hl he cq=>?_
 refine aM hm (fun(i:Nat)=> i=0∨i=1) (fun(i:Nat)=> ⟨dH 90 .any [(2,iv n),(3,.ptr 0 0),(4,.ptr 1 0),(6,.ptr 2 0),(7,.ptr 3 0),(8,bv false),(9,iv i)],[some (.box (cF (fW ⟨2,aL,aL,[a],[k],0,true⟩))),some (.box (cF (cT b))),some (.box (cF (fW xe))),some (.box [.d (.val (.int .i64 2)),.d (.str []),.d (.dC []),.d (.str []),.d (.dC []),.acc 4,.acc 5,.d (.val (.int .i64 0)),.d (.val (.bool true))]),some (.acc 34 (aN (zj i [a]))),some (.acc 3 (bI (zj i [k])))]⟩) (fun(i:Nat)=> 1-i) (0) ?_ (ar [some 0,some 1,some 2,some 3,none,none] ?_ ?_ rfl rfl) ?_
 rotate_left
 ·exact sC
 ·refine sA ?_
  all_goals(simp[xe,zj])
 rotate_left
 ·left;rfl
 ·rintro i (rfl|rfl)
  ·simp -implicitDefEqProofs only[go_sem,Z2,RY,dJ,jR,yg]
   refine aC [] (ja a ta) ?_
   refine bp [] (ja b tb) ?_ ?_<;>simp -implicitDefEqProofs only[go_sem,hl2]
   refine bp [] (ja b tb) ?_ ?_<;>simp -implicitDefEqProofs only[go_sem,jD,yg]
   refine sQ ?_
   refine⟨1,?_,sL,ar [some 0,some 1,some 2,some 3,some 6,some 7] ?_ ?_ rfl rfl⟩
   rotate_left
   ·refine sA ?_
    all_goals(simp[])
   ·refine sA ?_
    all_goals(simp[zj,dJ,jR,cT])
   right;rfl
  ·simp -implicitDefEqProofs only[go_sem,St,jE]
   refine sQ ?_
   refine an ?_
   refine sA ?_
   all_goals(simp[dJ,jR,cT];done)
theorem qe(a b:Term)(ta:isTerm a=true)(tb:isTerm b=true)(jD:a≠b):C E.P 142 [av (cT a),av (cT b)] [] (bD (av (nI (dL a b))) []):=by
 have ht:¬aO a=aO b:=fun h=>jD (Bp ta tb h)
 refine gS (nt:=13) (rs:=[.cell 4 49]) hm Tryz.func142 fun hl he cq=>?_
 refine aC [] (IT a 1) ?_
 cases h:gC (aO b) (aO a)
 ·refine aC [] (IM a b 1 (-1) ta tb h ht) ?_
  refine an ?_
  refine sA ?_
  all_goals(simp[dL,h];done)
 ·refine aC [] (IE a b 1 (-1) ta tb h) ?_
  refine an ?_
  refine sA ?_
  all_goals(simp[dL,h];done)
end Go.Proofs.YtabembjmeobhoaaGreat
