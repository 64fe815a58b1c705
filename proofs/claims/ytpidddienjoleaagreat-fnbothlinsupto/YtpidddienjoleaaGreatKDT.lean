/-
  The reference: the walks of what is told of numbers. A step towards the exact laws.
-/
import Derived.Test.YtpidddienjoleaaGreatKDP
import Derived.Test.YtpidddienjoleaaGreatKDQ
import Derived.Test.YtpidddienjoleaaGreatKDE
import Derived.Test.YtpidddienjoleaaGreatKDD
set_option linter.unusedVariables false
set_option linter.unusedSimpArgs false
namespace Go.Proofs.YtpidddienjoleaaGreat
open Go.Eng Go.Mod
open Int renaming reduceEq→Z1,reduceLT→Z2,reduceLE→Z3,reduceToNat→Z4
set_option maxRecDepth 100000
set_option maxHeartbeats 800000
theorem B6(a b:D):mg [a] 0 [b]=[b]:=rfl
theorem uy(cs:List Int)(i:Nat)(v:Int):(aJ cs).set i [.val (.int .i64 v)]=aJ (cs.set i v):=by
 simp[aJ,List.map_set]
theorem qP(nums:List Term)(a b:Term)(h4:nums.length≤4)(ha:a∈nums)(hb:b∈nums):C E.P 124 [lv (aj nums),av (cT a),av (cT b)] [] (aO (av (cX (ez nums [a,b] [1,-1] 0 false))) []):=by
 have xa:=bl.2 ha
 have xb:=bl.2 hb
 have ya:=gJ ha
 have yb:=gJ hb
 obtain⟨z,hz⟩:∃z:List Int,z=[0,0,0,0]:=⟨_,rfl⟩
 have hr:List.replicate 4 [D.val (Value.int IntKind.i64 0)]=aJ z:=by rw[hz];rfl
 have hzl:z.length=4:=by rw[hz];rfl
 have za:(aF nums a).toNat<z.length:=by omega
 have va:z[(aF nums a).toNat]=0:=by
  have:=Na (aF nums a).toNat
  rw[←hz,j6 za] at this
  exact this
 obtain⟨v,hv⟩:∃v:Int,v=z[(aF nums a).toNat]+1:=⟨_,rfl⟩
 have zb:(aF nums b).toNat<(z.set (aF nums a).toNat v).length:=by rw[List.length_set];omega
 have vb:(z.set (aF nums a).toNat v)[(aF nums b).toNat]=0∨(z.set (aF nums a).toNat v)[(aF nums b).toNat]=1:=by
  rw[List.getElem_set]
  split
  ·right;omega
  ·left
   have:=Na (aF nums b).toNat
   rw[←hz,j6 (by omega)] at this
   exact this
 have el:ez nums [a,b] [1,-1] 0 false=⟨(z.set (aF nums a).toNat v).set (aF nums b).toNat ((z.set (aF nums a).toNat v)[(aF nums b).toNat] - 1),0,false⟩:=by
  simp only[ez,df]
  rw[←hz,mF _ xa,j6 za,←hv,mF _ xb,j6 zb]
  rfl
 rw[el]
 refine gT (nt:=39) (rs:=[.cell 6 66]) hm Tryz.func124 fun hl he hLB=>?_
 repeat(with_reducible apply And.intro;exact sO)
 refine aD [] (fM nums a) ?_
 try with_reducible refine iK ?_
 refine cL [] (fM nums b) ?_ ?_<;>simp -implicitDefEqProofs only[go_sem,Z1,Z2,Z3,Z4,hr,za]
 try with_reducible refine iK ?_
 repeat(with_reducible apply And.intro;exact sO)
 have hv':=hv.symm
 try simp -implicitDefEqProofs only[go_sem,Z1,Z2,Z3,Z4,B6,uy,za,hv',zb]
 try with_reducible refine iK ?_
 repeat(with_reducible apply And.intro;exact sO)
 try simp -implicitDefEqProofs only[go_sem,Z1,Z2,Z3,Z4,B6,uy,zb]
 try with_reducible refine iK ?_
 repeat(with_reducible apply And.intro;exact sO)
 refine ab ?_
 refine sB ?_
 all_goals(first|done|(simp;done)|(simp;omega)|skip)
theorem Cz(nums:List Term)(l:aE)(h4:nums.length≤4)(hF:Fit nums l)(k2:l.atom.kind=2):C E.P 122 [lv (aj nums),av (kh l)] [] (aO (av (cX (if l.no then iY (ez nums l.atom.nums l.atom.times l.atom.bound l.atom.strict) else ez nums l.atom.nums l.atom.times l.atom.bound l.atom.strict))) []):=by
 have hw:=kU hF.wf k2
 have hin:=hF.sum k2
 rw[JY hw.2.2.2.2.2 hw.2.2.2.1 hin]
 obtain⟨ts,hts⟩:∃ts,ts=l.atom.nums:=⟨_,rfl⟩
 obtain⟨ns,hns⟩:∃ns,ns=l.atom.times:=⟨_,rfl⟩
 refine gT (nt:=45) (rs:=[.cell 4 66]) hm Tryz.func122 fun hl he hLB=>?_
 repeat(with_reducible apply And.intro;exact sO)
 refine au hm (fun(i:Nat)=> i≤l.atom.nums.length) (fun(i:Nat)=> ⟨b9 45 .any [(0,lv (aj nums)),(3,.ptr 0 0),(4,.ptr 1 0),(5,.ptr 2 0),(6,iv i)],[some (.box (bn (kh l))),some (.box (bn (cX jE))),some (.box [.acc 3,.d (.val (.int .i64 l.atom.bound)),.d (.val (.bool l.atom.strict))]),some (.acc 3 (aJ (gX nums (l.atom.nums.take i) (l.atom.times.take i) [0,0,0,0])))]⟩) (fun(i:Nat)=> l.atom.nums.length-i) (0) ?_ (ah [some 0,some 1,some 3,some 2] ?_ ?_ rfl rfl) ?_
 rotate_left
 ·refine sB ?_
  all_goals(first|done|(simp[aJ,List.replicate,gX])|(simp[aa, *];done)|(simp[aa];done)|(simp;omega)|skip)
 ·refine sB ?_
  all_goals(first|done|(simp[aJ,List.replicate,gX])|(simp[aa, *];done)|(simp[aa];done)|(simp;omega)|skip)
 rotate_left
 ·omega
 ·rintro i hi
  have hlen:=hw.2.2.2.1
  rcases Classical.em (i<l.atom.nums.length) with h1|h1
  ·have h2:i<l.atom.times.length:=by omega
   have hin':=hin l.atom.nums[i] (List.getElem_mem h1)
   have x1:=bl.2 hin'
   have x2:=gJ hin'
   have hL:(gX nums (l.atom.nums.take i) (l.atom.times.take i) [0,0,0,0]).length=4:=A4
   have x3:(aF nums l.atom.nums[i]).toNat<(gX nums (l.atom.nums.take i) (l.atom.times.take i) [0,0,0,0]).length:=by omega
   try simp -implicitDefEqProofs only[go_sem,Z1,Z2,Z3,Z4,h1,h2]
   try with_reducible refine iK ?_
   refine cL [] (fM nums l.atom.nums[i]) ?_ ?_<;>simp -implicitDefEqProofs only[go_sem,Z1,Z2,Z3,Z4,x3,h2,B6,uy]
   try with_reducible refine iK ?_
   repeat(with_reducible apply And.intro;exact sO)
   refine⟨i+1,?_,?_,ah [some 0,some 1,some 2,some 3] ?_ ?_ rfl rfl⟩
   rotate_left
   ·show _ < _
    omega
   ·refine sB ?_
    all_goals(first|done|((rw[ru h1 h2]))|(simp[aa, *];done)|(simp[aa];done)|(simp;omega)|skip)
   ·refine sB ?_
    all_goals(first|done|((rw[ru h1 h2]))|(simp[aa, *];done)|(simp[aa];done)|(simp;omega)|skip)
   exact h1
  ·have e1:l.atom.nums.take i=l.atom.nums:=List.take_of_length_le (by omega)
   have e2:l.atom.times.take i=l.atom.times:=List.take_of_length_le (by omega)
   cases h6:l.no
   ·try simp -implicitDefEqProofs only[go_sem,Z1,Z2,Z3,Z4,h1,e1,e2,h6]
    try with_reducible refine iK ?_
    refine ab ?_
    refine sB ?_
    all_goals(first|done|(simp;done)|(simp;omega)|skip)
   ·try simp -implicitDefEqProofs only[go_sem,Z1,Z2,Z3,Z4,h1,e1,e2,h6]
    try with_reducible refine iK ?_
    have hc:=zY ⟨gX nums l.atom.nums l.atom.times [0,0,0,0],l.atom.bound,l.atom.strict⟩
    refine oD [] [3] (KR (e:=3) (args:=[.agg [.acc 0,.d (.val (.int .i64 l.atom.bound)),.d (.val (.bool l.atom.strict))]]) (lR.cons (Vw.agg (lR.cons (Vw.acc rfl rfl) (lR.cons (Vw.same rfl) (lR.cons (Vw.same rfl) lR.nil)))) lR.nil) (RI _) hc) ?_
    try with_reducible refine iK ?_
    refine ab ?_
    refine sB ?_
    all_goals(first|done|(simp;done)|(simp;omega)|skip)
theorem Ak(nums:List Term)(lits:List aE)(h4:nums.length≤4)(hl1:lits.length≤100)(hf:∀l∈lits,Fit nums l):C E.P 53 [lv (aj nums),lv (ay lits)] [] (aO (lv (bh (bH nums lits))) []):=by
 refine gT (nt:=63) (rs:=[.tmp 4]) hm Tryz.func53 fun hl he hLB=>?_
 refine au hm (fun(i:Nat)=> i≤lits.length) (fun(i:Nat)=> ⟨b9 63 .any [(0,lv (aj nums)),(1,lv (ay lits)),(5,.acc 0),(6,iv i)],[some (.acc 66 (bh (bH nums (lits.take i))))]⟩) (fun(i:Nat)=> lits.length-i) (0) ?_ (ah [some 0] ?_ ?_ rfl rfl) ?_
 rotate_left
 ·refine sB ?_
  all_goals(first|done|(rfl)|(simp[aa, *];done)|(simp[aa];done)|(simp;omega)|skip)
 ·refine sB ?_
  all_goals(first|done|(rfl)|(simp[aa, *];done)|(simp[aa];done)|(simp;omega)|skip)
 rotate_left
 ·omega
 ·rintro i hi
  rcases Classical.em (i<lits.length) with h1|h1
  ·have h2:=nG nums (lits.take i)
   have h3:(lits.take i).length≤100:=by simp;omega
   have hs:=vD (nums:=nums) h1
   have hF:=hf lits[i] (List.getElem_mem h1)
   rcases Classical.em (lits[i].atom.kind=2) with k2|k2
   ·have k:=eq_true k2
    rw[dq,if_pos k2] at hs
    try simp -implicitDefEqProofs only[go_sem,Z1,Z2,Z3,Z4,h1,k]
    try with_reducible refine iK ?_
    refine aD [] (Cz nums lits[i] h4 hF k2) ?_
    try with_reducible refine iK ?_
    repeat(with_reducible apply And.intro;exact sO)
    refine⟨i+1,?_,?_,ah [some 2] ?_ ?_ rfl rfl⟩
    rotate_left
    ·show _ < _
     omega
    ·refine sB ?_
     all_goals(first|done|((rw[hs,←fZ,cY,eV];rfl))|(simp[aa, *];done)|(simp[aa];done)|(simp;omega)|skip)
    ·refine sB ?_
     all_goals(first|done|((rw[hs,←fZ,cY,eV];rfl))|(simp[aa, *];done)|(simp[aa];done)|(simp;omega)|skip)
    exact h1
   ·have k1:lits[i].atom.kind=1:=(gQ hF.wf).resolve_right k2
    cases h6:lits[i].no
    ·try simp -implicitDefEqProofs only[go_sem,Z1,Z2,Z3,Z4,h1,k2,h6]
     try with_reducible refine iK ?_
     refine aD [] (fM nums lits[i].atom.A) ?_
     try with_reducible refine iK ?_
     rcases Classical.em (0≤aF nums lits[i].atom.A) with h7|h7
     ·rw[dq,if_neg k2,if_pos ⟨h6,h7⟩] at hs
      have hA:=bl.1 h7
      have hB:=(hF.eq k1).1 hA
      rw[HW] at hs
      try simp -implicitDefEqProofs only[go_sem,Z1,Z2,Z3,Z4,h7]
      try with_reducible refine iK ?_
      refine aD [] (qP nums lits[i].atom.A lits[i].atom.B h4 hA hB) ?_
      try with_reducible refine iK ?_
      refine aD [] (qP nums lits[i].atom.B lits[i].atom.A h4 hB hA) ?_
      try with_reducible refine iK ?_
      repeat(with_reducible apply And.intro;exact sO)
      refine⟨i+1,?_,?_,ah [some 2] ?_ ?_ rfl rfl⟩
      rotate_left
      ·show _ < _
       omega
      ·refine sB ?_
       all_goals(first|done|((rw[hs,←fZ,cY,cY,eV];rfl))|(simp[aa, *];done)|(simp[aa];done)|(simp;omega)|skip)
      ·refine sB ?_
       all_goals(first|done|((rw[hs,←fZ,cY,cY,eV];rfl))|(simp[aa, *];done)|(simp[aa];done)|(simp;omega)|skip)
      exact h1
     ·rw[dq,if_neg k2,if_neg (by simp[h6,h7]),List.append_nil] at hs
      try simp -implicitDefEqProofs only[go_sem,Z1,Z2,Z3,Z4,h7]
      try with_reducible refine iK ?_
      repeat(with_reducible apply And.intro;exact sO)
      refine⟨i+1,?_,?_,ah [some 0] ?_ ?_ rfl rfl⟩
      rotate_left
      ·show _ < _
       omega
      ·refine sB ?_
       all_goals(first|done|((rw[hs]))|(simp[aa, *];done)|(simp[aa];done)|(simp;omega)|skip)
      ·refine sB ?_
       all_goals(first|done|((rw[hs]))|(simp[aa, *];done)|(simp[aa];done)|(simp;omega)|skip)
      exact h1
    ·rw[dq,if_neg k2,if_neg (by simp[h6]),List.append_nil] at hs
     try simp -implicitDefEqProofs only[go_sem,Z1,Z2,Z3,Z4,h1,k2,h6]
     try with_reducible refine iK ?_
     repeat(with_reducible apply And.intro;exact sO)
     refine⟨i+1,?_,?_,ah [some 0] ?_ ?_ rfl rfl⟩
     rotate_left
     ·show _ < _
      omega
     ·refine sB ?_
      all_goals(first|done|((rw[hs]))|(simp[aa, *];done)|(simp[aa];done)|(simp;omega)|skip)
     ·refine sB ?_
      all_goals(first|done|((rw[hs]))|(simp[aa, *];done)|(simp[aa];done)|(simp;omega)|skip)
     exact h1
  ·try simp -implicitDefEqProofs only[go_sem,Z1,Z2,Z3,Z4,h1]
   try with_reducible refine iK ?_
   refine ab ?_
   refine sB ?_
   rw[List.take_of_length_le (by omega)]
end Go.Proofs.YtpidddienjoleaaGreat
