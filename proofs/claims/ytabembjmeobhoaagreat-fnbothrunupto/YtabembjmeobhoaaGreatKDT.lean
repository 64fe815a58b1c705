/-
  The reference: the walks of what is told of numbers. A step towards the exact laws.
-/
import Derived.Test.YtabembjmeobhoaaGreatKDP
import Derived.Test.YtabembjmeobhoaaGreatKDQ
set_option linter.unusedVariables false
set_option linter.unusedSimpArgs false
open Classical renaming em→aa
open Int renaming lt_irrefl→jx
open List renaming getElem_mem→ak,take_of_length_le→ao,replicate→aS,append_nil→bl
namespace Go.Proofs.YtabembjmeobhoaaGreat
open Go.Eng Go.Mod
open Int renaming reduceEq→Z1,reduceLT→Z2,reduceLE→Z3,reduceToNat→Z4
set_option maxRecDepth 100000
set_option maxHeartbeats 800000
theorem AR(ab:List bm)(hl1:ab.length≤100):C E.P 126 [lv (aV ab)] [] (bz (lv (cO (aZ ab))) []):=by
 refine gT (nt:=44) (rs:=[.tmp 2]) hm Tryz.func126 fun hl he cq=>?_
 refine aL hm (fun(i:Nat)=> i≤ab.length) (fun(i:Nat)=> ⟨dx 44 .any [(0,lv (aV ab)),(3,.acc 0),(4,iv i)],[some (.acc 134 (cO (aZ (ab.take i))))]⟩) (fun(i:Nat)=> ab.length-i) (0) ?_ (ar [some 0] ?_ ?_ rfl rfl) ?_
 rotate_left
 ·refine sB ?_
  all_goals(first|done|(rfl)|(simp[aI, *];done)|(simp[aI];done)|(simp;omega)|skip)
 ·refine sB ?_
  all_goals(first|done|(rfl)|(simp[aI, *];done)|(simp[aI];done)|(simp;omega)|skip)
 rotate_left
 ·omega
 ·rintro i hi
  rcases aa (i<ab.length) with h1|h1
  ·have h2:=JK (ab.take i)
   have h4:(ab.take i).length≤100:=by simp;omega
   have hs:=HC h1
   rcases aa (ab[i].atom.kind=1) with h5|h5
   ·have k5:=eq_true h5
    cases h6:ab[i].no
    ·rw[if_pos ⟨h5,h6⟩] at hs
     try simp -implicitDefEqProofs only[go_sem,Z1,Z2,Z3,Z4,h1,k5,h6]
     refine sJ ?_
     refine⟨i+1,?_,sL,ar [some 1] ?_ ?_ rfl rfl⟩
     rotate_left
     ·refine sB ?_
      all_goals(first|done|((rw[hs,←lC,ju,jI];rfl))|(simp[aI, *];done)|(simp[aI];done)|(simp;omega)|skip)
     ·refine sB ?_
      all_goals(first|done|((rw[hs,←lC,ju,jI];rfl))|(simp[aI, *];done)|(simp[aI];done)|(simp;omega)|skip)
     exact h1
    ·rw[if_neg (by simp[h6]),bl] at hs
     try simp -implicitDefEqProofs only[go_sem,Z1,Z2,Z3,Z4,h1,k5,h6]
     refine sJ ?_
     refine⟨i+1,?_,sL,ar [some 0] ?_ ?_ rfl rfl⟩
     rotate_left
     ·refine sB ?_
      all_goals(first|done|((rw[hs]))|(simp[aI, *];done)|(simp[aI];done)|(simp;omega)|skip)
     ·refine sB ?_
      all_goals(first|done|((rw[hs]))|(simp[aI, *];done)|(simp[aI];done)|(simp;omega)|skip)
     exact h1
   ·rw[if_neg (by simp[h5]),bl] at hs
    try simp -implicitDefEqProofs only[go_sem,Z1,Z2,Z3,Z4,h1,h5]
    refine sJ ?_
    refine⟨i+1,?_,sL,ar [some 0] ?_ ?_ rfl rfl⟩
    rotate_left
    ·refine sB ?_
     all_goals(first|done|((rw[hs]))|(simp[aI, *];done)|(simp[aI];done)|(simp;omega)|skip)
    ·refine sB ?_
     all_goals(first|done|((rw[hs]))|(simp[aI, *];done)|(simp[aI];done)|(simp;omega)|skip)
    exact h1
  ·try simp -implicitDefEqProofs only[go_sem,Z1,Z2,Z3,Z4,h1]
   refine sI ?_
   refine an ?_
   refine sB ?_
   rw[ao (by omega)]
theorem Mi(a b:D):sS [a] 0 [b]=[b]:=rfl
theorem CL(cs:List Int)(i:Nat)(v:Int):(bF cs).set i [.val (.int .i64 v)]=bF (cs.set i v):=by
 simp[bF,List.map_set]
theorem zz(nums:List Term)(a b:Term)(h4:nums.length≤4)(ha:a∈nums)(hb:b∈nums):C E.P 132 [lv (aN nums),av (cT a),av (cT b)] [] (bz (av (eL (mh nums [a,b] [1,-1] 0 false))) []):=by
 have xa:=cV.2 ha
 have xb:=cV.2 hb
 have ya:=nQ ha
 have yb:=nQ hb
 obtain⟨z,hz⟩:∃z:List Int,z=[0,0,0,0]:=⟨_,rfl⟩
 have hr:aS 4 [D.val (Value.int IntKind.i64 0)]=bF z:=by rw[hz];rfl
 have hzl:z.length=4:=by rw[hz];rfl
 have za:(bK nums a).toNat<z.length:=by omega
 have va:z[(bK nums a).toNat]=0:=by
  have:=UR (bK nums a).toNat
  rw[←hz,m9 za] at this
  exact this
 obtain⟨v,hv⟩:∃v:Int,v=z[(bK nums a).toNat]+1:=⟨_,rfl⟩
 have zb:(bK nums b).toNat<(z.set (bK nums a).toNat v).length:=by rw[List.length_set];omega
 have vb:(z.set (bK nums a).toNat v)[(bK nums b).toNat]=0∨(z.set (bK nums a).toNat v)[(bK nums b).toNat]=1:=by
  rw[List.getElem_set]
  split
  ·right;omega
  ·left
   have:=UR (bK nums b).toNat
   rw[←hz,m9 (by omega)] at this
   exact this
 have el:mh nums [a,b] [1,-1] 0 false=⟨(z.set (bK nums a).toNat v).set (bK nums b).toNat ((z.set (bK nums a).toNat v)[(bK nums b).toNat] - 1),0,false⟩:=by
  simp only[mh,jU]
  rw[←hz,uR _ xa,m9 za,←hv,uR _ xb,m9 zb]
  rfl
 rw[el]
 refine gT (nt:=39) (rs:=[.cell 6 162]) hm Tryz.func132 fun hl he cq=>?_
 refine sQ ?_
 refine aD [] (cP nums a) ?_
 refine sI ?_
 refine bw [] (cP nums b) ?_ ?_<;>simp -implicitDefEqProofs only[go_sem,Z1,Z2,Z3,Z4,hr,za]
 refine sJ ?_
 have hv':=hv.symm
 try simp -implicitDefEqProofs only[go_sem,Z1,Z2,Z3,Z4,Mi,CL,za,hv',zb]
 refine sJ ?_
 try simp -implicitDefEqProofs only[go_sem,Z1,Z2,Z3,Z4,Mi,CL,zb]
 refine sJ ?_
 refine an ?_
 refine sB ?_
 all_goals(first|done|(simp;done)|(simp;omega)|skip)
theorem Le(nums:List Term)(l:bm)(h4:nums.length≤4)(hF:Fit nums l)(k2:l.atom.kind=2):C E.P 131 [lv (aN nums),av (nW l)] [] (bz (av (eL (if l.no then rO (mh nums l.atom.nums l.atom.times l.atom.bound l.atom.strict) else mh nums l.atom.nums l.atom.times l.atom.bound l.atom.strict))) []):=by
 have hw:=mM hF.wf k2
 have kG:=hF.sum k2
 rw[S8 hw.2.2.2.2.2 hw.2.2.2.1 kG]
 obtain⟨ts,hts⟩:∃ts,ts=l.atom.nums:=⟨_,rfl⟩
 obtain⟨ns,hns⟩:∃ns,ns=l.atom.times:=⟨_,rfl⟩
 refine gT (nt:=45) (rs:=[.cell 4 162]) hm Tryz.func131 fun hl he cq=>?_
 refine sQ ?_
 refine aL hm (fun(i:Nat)=> i≤l.atom.nums.length) (fun(i:Nat)=> ⟨dx 45 .any [(0,lv (aN nums)),(3,.ptr 0 0),(4,.ptr 1 0),(5,.ptr 2 0),(6,iv i)],[some (.box (cE (nW l))),some (.box (cE (eL m8))),some (.box [.acc 3,.d (.val (.int .i64 l.atom.bound)),.d (.val (.bool l.atom.strict))]),some (.acc 3 (bF (oe nums (l.atom.nums.take i) (l.atom.times.take i) [0,0,0,0])))]⟩) (fun(i:Nat)=> l.atom.nums.length-i) (0) ?_ (ar [some 0,some 1,some 3,some 2] ?_ ?_ rfl rfl) ?_
 rotate_left
 ·refine sB ?_
  all_goals(first|done|(simp[bF,aS,oe])|(simp[aI, *];done)|(simp[aI];done)|(simp;omega)|skip)
 ·refine sB ?_
  all_goals(first|done|(simp[bF,aS,oe])|(simp[aI, *];done)|(simp[aI];done)|(simp;omega)|skip)
 rotate_left
 ·omega
 ·rintro i hi
  have dy:=hw.2.2.2.1
  rcases aa (i<l.atom.nums.length) with h1|h1
  ·have h2:i<l.atom.times.length:=by omega
   have hin':=kG l.atom.nums[i] (ak h1)
   have x1:=cV.2 hin'
   have x2:=nQ hin'
   have hL:(oe nums (l.atom.nums.take i) (l.atom.times.take i) [0,0,0,0]).length=4:=JY
   have x3:(bK nums l.atom.nums[i]).toNat<(oe nums (l.atom.nums.take i) (l.atom.times.take i) [0,0,0,0]).length:=by omega
   try simp -implicitDefEqProofs only[go_sem,Z1,Z2,Z3,Z4,h1,h2]
   refine sI ?_
   refine bw [] (cP nums l.atom.nums[i]) ?_ ?_<;>simp -implicitDefEqProofs only[go_sem,Z1,Z2,Z3,Z4,x3,h2,Mi,CL]
   refine sJ ?_
   refine⟨i+1,?_,sL,ar [some 0,some 1,some 2,some 3] ?_ ?_ rfl rfl⟩
   rotate_left
   ·refine sB ?_
    all_goals(first|done|((rw[Au h1 h2]))|(simp[aI, *];done)|(simp[aI];done)|(simp;omega)|skip)
   ·refine sB ?_
    all_goals(first|done|((rw[Au h1 h2]))|(simp[aI, *];done)|(simp[aI];done)|(simp;omega)|skip)
   exact h1
  ·have e1:l.atom.nums.take i=l.atom.nums:=ao (by omega)
   have e2:l.atom.times.take i=l.atom.times:=ao (by omega)
   cases h6:l.no
   ·try simp -implicitDefEqProofs only[go_sem,Z1,Z2,Z3,Z4,h1,e1,e2,h6]
    refine sI ?_
    refine an ?_
    refine sB ?_
    all_goals(first|done|(simp;done)|(simp;omega)|skip)
   ·try simp -implicitDefEqProofs only[go_sem,Z1,Z2,Z3,Z4,h1,e1,e2,h6]
    refine sI ?_
    have hc:=H3 ⟨oe nums l.atom.nums l.atom.times [0,0,0,0],l.atom.bound,l.atom.strict⟩
    refine oD [] [3] (vt (e:=3) (args:=[.agg [.acc 0,.d (.val (.int .i64 l.atom.bound)),.d (.val (.bool l.atom.strict))]]) (iH.cons (Vw.agg (iH.cons (Vw.acc rfl rfl) (iH.cons (Vw.same rfl) (iH.cons (Vw.same rfl) iH.nil)))) iH.nil) (aaU _) hc) ?_
    refine sI ?_
    refine an ?_
    refine sB ?_
    all_goals(first|done|(simp;done)|(simp;omega)|skip)
theorem I1(nums:List Term)(ab:List bm)(h4:nums.length≤4)(hl1:ab.length≤100)(hf:∀l∈ab,Fit nums l):C E.P 64 [lv (aN nums),lv (aV ab)] [] (bz (lv (di (dF nums ab))) []):=by
 refine gT (nt:=63) (rs:=[.tmp 4]) hm Tryz.func64 fun hl he cq=>?_
 refine aL hm (fun(i:Nat)=> i≤ab.length) (fun(i:Nat)=> ⟨dx 63 .any [(0,lv (aN nums)),(1,lv (aV ab)),(5,.acc 0),(6,iv i)],[some (.acc 162 (di (dF nums (ab.take i))))]⟩) (fun(i:Nat)=> ab.length-i) (0) ?_ (ar [some 0] ?_ ?_ rfl rfl) ?_
 rotate_left
 ·refine sB ?_
  all_goals(first|done|(rfl)|(simp[aI, *];done)|(simp[aI];done)|(simp;omega)|skip)
 ·refine sB ?_
  all_goals(first|done|(rfl)|(simp[aI, *];done)|(simp[aI];done)|(simp;omega)|skip)
 rotate_left
 ·omega
 ·rintro i hi
  rcases aa (i<ab.length) with h1|h1
  ·have h2:=Av nums (ab.take i)
   have h3:(ab.take i).length≤100:=by simp;omega
   have hs:=Dx (nums:=nums) h1
   have hF:=hf ab[i] (ak h1)
   rcases aa (ab[i].atom.kind=2) with k2|k2
   ·have k:=eq_true k2
    rw[jP,if_pos k2] at hs
    try simp -implicitDefEqProofs only[go_sem,Z1,Z2,Z3,Z4,h1,k]
    refine sI ?_
    refine aD [] (Le nums ab[i] h4 hF k2) ?_
    refine sJ ?_
    refine⟨i+1,?_,sL,ar [some 2] ?_ ?_ rfl rfl⟩
    rotate_left
    ·refine sB ?_
     all_goals(first|done|((rw[hs,←mD,iD,lp];rfl))|(simp[aI, *];done)|(simp[aI];done)|(simp;omega)|skip)
    ·refine sB ?_
     all_goals(first|done|((rw[hs,←mD,iD,lp];rfl))|(simp[aI, *];done)|(simp[aI];done)|(simp;omega)|skip)
    exact h1
   ·have k1:ab[i].atom.kind=1:=(mH hF.wf).resolve_right k2
    cases h6:ab[i].no
    ·try simp -implicitDefEqProofs only[go_sem,Z1,Z2,Z3,Z4,h1,k2,h6]
     refine sI ?_
     refine aD [] (cP nums ab[i].atom.A) ?_
     refine sI ?_
     rcases aa (0≤bK nums ab[i].atom.A) with h7|h7
     ·rw[jP,if_neg k2,if_pos ⟨h6,h7⟩] at hs
      have hA:=cV.1 h7
      have hB:=(hF.eq k1).1 hA
      rw[Qp] at hs
      try simp -implicitDefEqProofs only[go_sem,Z1,Z2,Z3,Z4,h7]
      refine sI ?_
      refine aD [] (zz nums ab[i].atom.A ab[i].atom.B h4 hA hB) ?_
      refine sI ?_
      refine aD [] (zz nums ab[i].atom.B ab[i].atom.A h4 hB hA) ?_
      refine sJ ?_
      refine⟨i+1,?_,sL,ar [some 2] ?_ ?_ rfl rfl⟩
      rotate_left
      ·refine sB ?_
       all_goals(first|done|((rw[hs,←mD,iD,iD,lp];rfl))|(simp[aI, *];done)|(simp[aI];done)|(simp;omega)|skip)
      ·refine sB ?_
       all_goals(first|done|((rw[hs,←mD,iD,iD,lp];rfl))|(simp[aI, *];done)|(simp[aI];done)|(simp;omega)|skip)
      exact h1
     ·rw[jP,if_neg k2,if_neg (by simp[h6,h7]),bl] at hs
      try simp -implicitDefEqProofs only[go_sem,Z1,Z2,Z3,Z4,h7]
      refine sJ ?_
      refine⟨i+1,?_,sL,ar [some 0] ?_ ?_ rfl rfl⟩
      rotate_left
      ·refine sB ?_
       all_goals(first|done|((rw[hs]))|(simp[aI, *];done)|(simp[aI];done)|(simp;omega)|skip)
      ·refine sB ?_
       all_goals(first|done|((rw[hs]))|(simp[aI, *];done)|(simp[aI];done)|(simp;omega)|skip)
      exact h1
    ·rw[jP,if_neg k2,if_neg (by simp[h6]),bl] at hs
     try simp -implicitDefEqProofs only[go_sem,Z1,Z2,Z3,Z4,h1,k2,h6]
     refine sJ ?_
     refine⟨i+1,?_,sL,ar [some 0] ?_ ?_ rfl rfl⟩
     rotate_left
     ·refine sB ?_
      all_goals(first|done|((rw[hs]))|(simp[aI, *];done)|(simp[aI];done)|(simp;omega)|skip)
     ·refine sB ?_
      all_goals(first|done|((rw[hs]))|(simp[aI, *];done)|(simp[aI];done)|(simp;omega)|skip)
     exact h1
  ·try simp -implicitDefEqProofs only[go_sem,Z1,Z2,Z3,Z4,h1]
   refine sI ?_
   refine an ?_
   refine sB ?_
   rw[ao (by omega)]
theorem Bf(a b:Term):C E.P 68 [av (cT a),av (cT b)] [] (bz (av (nW (hU a b))) []):=by
 refine gT (nt:=9) (rs:=[.cell 4 49]) hm Tryz.func68 fun hl he cq=>?_
 refine an ?_
 refine sB ?_
 all_goals(first|done|(simp[hU,zS];done)|(simp[hU,zS];omega)|skip)
theorem zA(ab:List bm)(l:bm)(hl1:ab.length≤100):C E.P 67 [lv (aV ab),av (nW l)] [] (bz (lv (aV (ab++[l]))) []):=by
 refine gT (nt:=11) (rs:=[.tmp 4]) hm Tryz.func67 fun hl he cq=>?_
 refine sQ ?_
 refine an ?_
 refine sB ?_
 rw[←DW,m0,tE]
 rfl
def y6{α:Type}(i:Nat)(xs:List α):List α:=match i with
 | 0=>[]
 | _+1=>xs
def Ot(i:Nat)(b:Bool):Bool:=match i with
 | 0=>false
 | _+1=>b
theorem Q9{α:Type}(xs:List α):y6 0 xs=[]:=rfl
theorem Rh{α:Type}(xs:List α):y6 1 xs=xs:=rfl
theorem XE(b:Bool):Ot 0 b=false:=rfl
theorem Yt(b:Bool):Ot 1 b=b:=rfl
theorem Ip(t:Term)(n:Int):C E.P 212 [av (fT ⟨2,aM,aM,[],[],0,true⟩),av (cT t),iv n] [] (bz (av (fT ⟨2,aM,aM,[t],[n],0,true⟩)) []):=by
 refine gS (nt:=90) (rs:=[.cell 6 47]) hm Tryz.func212 fun hl he cq=>?_
 refine aL hm (fun(i:Nat)=> i=0) (fun(i:Nat)=> ⟨dx 90 .any [(2,iv n),(3,.ptr 0 0),(4,.ptr 1 0),(6,.ptr 2 0),(7,.ptr 3 0),(8,bv false),(9,iv i)],[some (.box (cE (fT ⟨2,aM,aM,[],[],0,true⟩))),some (.box (cE (cT t))),some (.box (cE (fT xh))),some (.box [.d (.val (.int .i64 2)),.d (.str []),.d (.dt []),.d (.str []),.d (.dt []),.acc 4,.acc 5,.d (.val (.int .i64 0)),.d (.val (.bool true))]),some (.acc 34 (aN [])),some (.acc 3 (bF []))]⟩) (fun(i:Nat)=> 0-i) (0) ?_ (ar [some 0,some 1,some 2,some 3,none,none] ?_ ?_ rfl rfl) ?_
 rotate_left
 ·exact sC
 ·refine sA ?_
  all_goals(simp[xh])
 rotate_left
 ·rfl
 ·rintro i rfl
  simp -implicitDefEqProofs only[go_sem,jx]
  refine sQ ?_
  refine an ?_
  refine sA ?_
  simp[dC,jF,cT]
theorem Ih(a b:Term)(k n:Int)(ta:isTerm a=true)(tb:isTerm b=true)(lL:gy (aO b) (aO a)=true) :
 C E.P 212 [av (fT ⟨2,aM,aM,[a],[k],0,true⟩),av (cT b),iv n] [] (bz (av (fT ⟨2,aM,aM,[b,a],[n,k],0,true⟩)) []):=by
 have hl1:Op.bytesLess (aO b) (aO a)=true:=lL
 have jJ:¬aO a=aO b:=fun h=>Lj hl1 h.symm
 have hl2:Op.bytesLess (aO a) (aO b)=false:=by
  cases h:Op.bytesLess (aO a) (aO b)
  ·rfl
  ·have:=v8 h hl1
   rw[s5] at this
   cases this
 refine gS (nt:=90) (rs:=[.cell 6 47]) hm Tryz.func212 fun hl he cq=>?_
 refine aL hm (fun(i:Nat)=> i=0∨i=1) (fun(i:Nat)=> ⟨dx 90 .any [(2,iv n),(3,.ptr 0 0),(4,.ptr 1 0),(6,.ptr 2 0),(7,.ptr 3 0),(8,bv (Ot i true)),(9,iv i)],[some (.box (cE (fT ⟨2,aM,aM,[a],[k],0,true⟩))),some (.box (cE (cT b))),some (.box (cE (fT xh))),some (.box [.d (.val (.int .i64 2)),.d (.str []),.d (.dt []),.d (.str []),.d (.dt []),.acc 4,.acc 5,.d (.val (.int .i64 0)),.d (.val (.bool true))]),some (.acc 34 (aN (y6 i [b,a]))),some (.acc 3 (bF (y6 i [n,k])))]⟩) (fun(i:Nat)=> 1-i) (0) ?_ (ar [some 0,some 1,some 2,some 3,none,none] ?_ ?_ rfl rfl) ?_
 rotate_left
 ·refine sA ?_
  all_goals(simp[Ot])
 ·refine sA ?_
  all_goals(simp[xh,y6])
 rotate_left
 ·left;rfl
 ·rintro i (rfl|rfl)
  ·simp -implicitDefEqProofs only[go_sem,Z2,Q9,XE,dC,jF,xC]
   refine aC [] (iM a ta) ?_
   refine bw [] (iM b tb) ?_ ?_<;>simp -implicitDefEqProofs only[go_sem,hl2]
   refine sQ ?_
   refine bw [] (iM b tb) ?_ ?_<;>simp -implicitDefEqProofs only[go_sem,jJ,xC]
   refine sQ ?_
   refine⟨1,?_,sL,ar [some 0,some 1,some 2,some 3,some 8,some 9] ?_ ?_ rfl rfl⟩
   rotate_left
   ·refine sA ?_
    all_goals(simp[Ot])
   ·refine sA ?_
    all_goals(simp[y6,dC,jF,cT])
   right;rfl
  ·simp -implicitDefEqProofs only[go_sem,Rh,Yt,jx]
   refine an ?_
   exact sC
theorem HZ(a b:Term)(k n:Int)(ta:isTerm a=true)(tb:isTerm b=true)(hgt:gy (aO b) (aO a)=false)(jJ:¬aO a=aO b) :
 C E.P 212 [av (fT ⟨2,aM,aM,[a],[k],0,true⟩),av (cT b),iv n] [] (bz (av (fT ⟨2,aM,aM,[a,b],[k,n],0,true⟩)) []):=by
 have hl2:Op.bytesLess (aO a) (aO b)=true:=zV (a:=aO b) (b:=aO a) (fun e=>jJ e.symm) hgt
 refine gS (nt:=90) (rs:=[.cell 6 47]) hm Tryz.func212 fun hl he cq=>?_
 refine aL hm (fun(i:Nat)=> i=0∨i=1) (fun(i:Nat)=> ⟨dx 90 .any [(2,iv n),(3,.ptr 0 0),(4,.ptr 1 0),(6,.ptr 2 0),(7,.ptr 3 0),(8,bv false),(9,iv i)],[some (.box (cE (fT ⟨2,aM,aM,[a],[k],0,true⟩))),some (.box (cE (cT b))),some (.box (cE (fT xh))),some (.box [.d (.val (.int .i64 2)),.d (.str []),.d (.dt []),.d (.str []),.d (.dt []),.acc 4,.acc 5,.d (.val (.int .i64 0)),.d (.val (.bool true))]),some (.acc 34 (aN (y6 i [a]))),some (.acc 3 (bF (y6 i [k])))]⟩) (fun(i:Nat)=> 1-i) (0) ?_ (ar [some 0,some 1,some 2,some 3,none,none] ?_ ?_ rfl rfl) ?_
 rotate_left
 ·exact sC
 ·refine sA ?_
  all_goals(simp[xh,y6])
 rotate_left
 ·left;rfl
 ·rintro i (rfl|rfl)
  ·simp -implicitDefEqProofs only[go_sem,Z2,Q9,dC,jF,xC]
   refine aC [] (iM a ta) ?_
   refine bw [] (iM b tb) ?_ ?_<;>simp -implicitDefEqProofs only[go_sem,hl2]
   refine bw [] (iM b tb) ?_ ?_<;>simp -implicitDefEqProofs only[go_sem,jJ,xC]
   refine sQ ?_
   refine⟨1,?_,sL,ar [some 0,some 1,some 2,some 3,some 6,some 7] ?_ ?_ rfl rfl⟩
   rotate_left
   ·refine sA ?_
    all_goals(simp[])
   ·refine sA ?_
    all_goals(simp[y6,dC,jF,cT])
   right;rfl
  ·simp -implicitDefEqProofs only[go_sem,Rh,jx]
   refine sQ ?_
   refine an ?_
   refine sA ?_
   all_goals(simp[dC,jF,cT];done)
theorem qe(a b:Term)(ta:isTerm a=true)(tb:isTerm b=true)(jJ:a≠b):C E.P 142 [av (cT a),av (cT b)] [] (bz (av (nW (eE a b))) []):=by
 have ht:¬aO a=aO b:=fun h=>jJ (Bh ta tb h)
 refine gS (nt:=13) (rs:=[.cell 4 49]) hm Tryz.func142 fun hl he cq=>?_
 refine aC [] (Ip a 1) ?_
 cases h:gy (aO b) (aO a)
 ·refine aC [] (HZ a b 1 (-1) ta tb h ht) ?_
  refine an ?_
  refine sA ?_
  all_goals(simp[eE,h];done)
 ·refine aC [] (Ih a b 1 (-1) ta tb h) ?_
  refine an ?_
  refine sA ?_
  all_goals(simp[eE,h];done)
end Go.Proofs.YtabembjmeobhoaaGreat
