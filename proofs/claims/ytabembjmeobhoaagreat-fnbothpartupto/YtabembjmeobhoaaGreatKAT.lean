/-
  The reference: the walks of what is told of numbers. A step towards the exact laws.
-/
import Derived.Test.YtabembjmeobhoaaGreatKAP
import Derived.Test.YtabembjmeobhoaaGreatKAQ
set_option linter.unusedVariables false
set_option linter.unusedSimpArgs false
open Classical renaming em→aa
open Int renaming lt_irrefl→jv
open List renaming getElem_mem→ak,take_of_length_le→ao,replicate→aW,append_nil→bF
namespace Go.Proofs.YtabembjmeobhoaaGreat
open Go.Eng Go.Mod
open Int renaming reduceEq→Z1,reduceLT→Z2,reduceLE→Z3,reduceToNat→Z4
set_option maxRecDepth 100000
set_option maxHeartbeats 800000
theorem Bw(ab:List bp)(hl1:ab.length≤100):C E.P 126 [lv (aZ ab)] [] (bN (lv (gM (bc ab))) []):=by
 refine gT (nt:=44) (rs:=[.tmp 2]) hm Tryz.func126 fun hl he cI=>?_
 refine aO hm (fun(i:Nat)=> i≤ab.length) (fun(i:Nat)=> ⟨dB 44 .any [(0,lv (aZ ab)),(3,.acc 0),(4,iv i)],[some (.acc 134 (gM (bc (ab.take i))))]⟩) (fun(i:Nat)=> ab.length-i) (0) ?_ (aw [some 0] ?_ ?_ rfl rfl) ?_
 rotate_left
 ·refine sB ?_
  all_goals(first|done|(rfl)|(simp[aq, *];done)|(simp[aq];done)|(simp;omega)|skip)
 ·refine sB ?_
  all_goals(first|done|(rfl)|(simp[aq, *];done)|(simp[aq];done)|(simp;omega)|skip)
 rotate_left
 ·omega
 ·rintro i hi
  rcases aa (i<ab.length) with h1|h1
  ·have h2:=IG (ab.take i)
   have h4:(ab.take i).length≤100:=by simp;omega
   have hs:=GX h1
   rcases aa (ab[i].atom.kind=1) with h5|h5
   ·have k5:=eq_true h5
    cases h6:ab[i].no
    ·rw[if_pos ⟨h5,h6⟩] at hs
     try simp -implicitDefEqProofs only[go_sem,Z1,Z2,Z3,Z4,h1,k5,h6]
     refine sJ ?_
     refine⟨i+1,?_,sL,aw [some 1] ?_ ?_ rfl rfl⟩
     rotate_left
     ·refine sB ?_
      all_goals(first|done|((rw[hs,←yX,w8,rH];rfl))|(simp[aq, *];done)|(simp[aq];done)|(simp;omega)|skip)
     ·refine sB ?_
      all_goals(first|done|((rw[hs,←yX,w8,rH];rfl))|(simp[aq, *];done)|(simp[aq];done)|(simp;omega)|skip)
     exact h1
    ·rw[if_neg (by simp[h6]),bF] at hs
     try simp -implicitDefEqProofs only[go_sem,Z1,Z2,Z3,Z4,h1,k5,h6]
     refine sJ ?_
     refine⟨i+1,?_,sL,aw [some 0] ?_ ?_ rfl rfl⟩
     rotate_left
     ·refine sB ?_
      all_goals(first|done|((rw[hs]))|(simp[aq, *];done)|(simp[aq];done)|(simp;omega)|skip)
     ·refine sB ?_
      all_goals(first|done|((rw[hs]))|(simp[aq, *];done)|(simp[aq];done)|(simp;omega)|skip)
     exact h1
   ·rw[if_neg (by simp[h5]),bF] at hs
    try simp -implicitDefEqProofs only[go_sem,Z1,Z2,Z3,Z4,h1,h5]
    refine sJ ?_
    refine⟨i+1,?_,sL,aw [some 0] ?_ ?_ rfl rfl⟩
    rotate_left
    ·refine sB ?_
     all_goals(first|done|((rw[hs]))|(simp[aq, *];done)|(simp[aq];done)|(simp;omega)|skip)
    ·refine sB ?_
     all_goals(first|done|((rw[hs]))|(simp[aq, *];done)|(simp[aq];done)|(simp;omega)|skip)
    exact h1
  ·try simp -implicitDefEqProofs only[go_sem,Z1,Z2,Z3,Z4,h1]
   refine sI ?_
   refine an ?_
   refine sB ?_
   rw[ao (by omega)]
theorem J7(a b:D):sj [a] 0 [b]=[b]:=rfl
theorem Cj(cs:List Int)(i:Nat)(v:Int):(bG cs).set i [.val (.int .i64 v)]=bG (cs.set i v):=by
 simp[bG,List.map_set]
theorem yg(nums:List Term)(a b:Term)(h4:nums.length≤4)(ha:a∈nums)(hb:b∈nums):C E.P 132 [lv (aP nums),av (cT a),av (cT b)] [] (bN (av (eG (lJ nums [a,b] [1,-1] 0 false))) []):=by
 have xa:=cK.2 ha
 have xb:=cK.2 hb
 have ya:=nI ha
 have yb:=nI hb
 obtain⟨z,hz⟩:∃z:List Int,z=[0,0,0,0]:=⟨_,rfl⟩
 have hr:aW 4 [D.val (Value.int IntKind.i64 0)]=bG z:=by rw[hz];rfl
 have hzl:z.length=4:=by rw[hz];rfl
 have za:(bM nums a).toNat<z.length:=by omega
 have va:z[(bM nums a).toNat]=0:=by
  have:=Va (bM nums a).toNat
  rw[←hz,rj za] at this
  exact this
 obtain⟨v,hv⟩:∃v:Int,v=z[(bM nums a).toNat]+1:=⟨_,rfl⟩
 have zb:(bM nums b).toNat<(z.set (bM nums a).toNat v).length:=by rw[List.length_set];omega
 have vb:(z.set (bM nums a).toNat v)[(bM nums b).toNat]=0∨(z.set (bM nums a).toNat v)[(bM nums b).toNat]=1:=by
  rw[List.getElem_set]
  split
  ·right;omega
  ·left
   have:=Va (bM nums b).toNat
   rw[←hz,rj (by omega)] at this
   exact this
 have el:lJ nums [a,b] [1,-1] 0 false=⟨(z.set (bM nums a).toNat v).set (bM nums b).toNat ((z.set (bM nums a).toNat v)[(bM nums b).toNat] - 1),0,false⟩:=by
  simp only[lJ,jQ]
  rw[←hz,ud _ xa,rj za,←hv,ud _ xb,rj zb]
  rfl
 rw[el]
 refine gT (nt:=39) (rs:=[.cell 6 162]) hm Tryz.func132 fun hl he cI=>?_
 refine sQ ?_
 refine aD [] (cL nums a) ?_
 refine sI ?_
 refine bQ [] (cL nums b) ?_ ?_<;>simp -implicitDefEqProofs only[go_sem,Z1,Z2,Z3,Z4,hr,za]
 refine sJ ?_
 have hv':=hv.symm
 try simp -implicitDefEqProofs only[go_sem,Z1,Z2,Z3,Z4,J7,Cj,za,hv',zb]
 refine sJ ?_
 try simp -implicitDefEqProofs only[go_sem,Z1,Z2,Z3,Z4,J7,Cj,zb]
 refine sJ ?_
 refine an ?_
 refine sB ?_
 all_goals(first|done|(simp;done)|(simp;omega)|skip)
theorem Kq(nums:List Term)(l:bp)(h4:nums.length≤4)(hF:Fit nums l)(k2:l.atom.kind=2):C E.P 131 [lv (aP nums),av (nO l)] [] (bN (av (eG (if l.no then pf (lJ nums l.atom.nums l.atom.times l.atom.bound l.atom.strict) else lJ nums l.atom.nums l.atom.times l.atom.bound l.atom.strict))) []):=by
 have hw:=mu hF.wf k2
 have kC:=hF.sum k2
 rw[RS hw.2.2.2.2.2 hw.2.2.2.1 kC]
 obtain⟨ts,hts⟩:∃ts,ts=l.atom.nums:=⟨_,rfl⟩
 obtain⟨ns,hns⟩:∃ns,ns=l.atom.times:=⟨_,rfl⟩
 refine gT (nt:=45) (rs:=[.cell 4 162]) hm Tryz.func131 fun hl he cI=>?_
 refine sQ ?_
 refine aO hm (fun(i:Nat)=> i≤l.atom.nums.length) (fun(i:Nat)=> ⟨dB 45 .any [(0,lv (aP nums)),(3,.ptr 0 0),(4,.ptr 1 0),(5,.ptr 2 0),(6,iv i)],[some (.box (cF (nO l))),some (.box (cF (eG mC))),some (.box [.acc 3,.d (.val (.int .i64 l.atom.bound)),.d (.val (.bool l.atom.strict))]),some (.acc 3 (bG (nX nums (l.atom.nums.take i) (l.atom.times.take i) [0,0,0,0])))]⟩) (fun(i:Nat)=> l.atom.nums.length-i) (0) ?_ (aw [some 0,some 1,some 3,some 2] ?_ ?_ rfl rfl) ?_
 rotate_left
 ·refine sB ?_
  all_goals(first|done|(simp[bG,aW,nX])|(simp[aq, *];done)|(simp[aq];done)|(simp;omega)|skip)
 ·refine sB ?_
  all_goals(first|done|(simp[bG,aW,nX])|(simp[aq, *];done)|(simp[aq];done)|(simp;omega)|skip)
 rotate_left
 ·omega
 ·rintro i hi
  have dy:=hw.2.2.2.1
  rcases aa (i<l.atom.nums.length) with h1|h1
  ·have h2:i<l.atom.times.length:=by omega
   have hin':=kC l.atom.nums[i] (ak h1)
   have x1:=cK.2 hin'
   have x2:=nI hin'
   have hL:(nX nums (l.atom.nums.take i) (l.atom.times.take i) [0,0,0,0]).length=4:=Iy
   have x3:(bM nums l.atom.nums[i]).toNat<(nX nums (l.atom.nums.take i) (l.atom.times.take i) [0,0,0,0]).length:=by omega
   try simp -implicitDefEqProofs only[go_sem,Z1,Z2,Z3,Z4,h1,h2]
   refine sI ?_
   refine bQ [] (cL nums l.atom.nums[i]) ?_ ?_<;>simp -implicitDefEqProofs only[go_sem,Z1,Z2,Z3,Z4,x3,h2,J7,Cj]
   refine sJ ?_
   refine⟨i+1,?_,sL,aw [some 0,some 1,some 2,some 3] ?_ ?_ rfl rfl⟩
   rotate_left
   ·refine sB ?_
    all_goals(first|done|((rw[zH h1 h2]))|(simp[aq, *];done)|(simp[aq];done)|(simp;omega)|skip)
   ·refine sB ?_
    all_goals(first|done|((rw[zH h1 h2]))|(simp[aq, *];done)|(simp[aq];done)|(simp;omega)|skip)
   exact h1
  ·have e1:l.atom.nums.take i=l.atom.nums:=ao (by omega)
   have e2:l.atom.times.take i=l.atom.times:=ao (by omega)
   cases h6:l.no
   ·try simp -implicitDefEqProofs only[go_sem,Z1,Z2,Z3,Z4,h1,e1,e2,h6]
    refine sI ?_
    refine an ?_
    refine sB ?_
    all_goals(first|done|(simp;done)|(simp;omega)|skip)
   ·try simp -implicitDefEqProofs only[go_sem,Z1,Z2,Z3,Z4,h1,e1,e2,h6]
    refine sI ?_
    have hc:=HW ⟨nX nums l.atom.nums l.atom.times [0,0,0,0],l.atom.bound,l.atom.strict⟩
    refine oD [] [3] (vt (e:=3) (args:=[.agg [.acc 0,.d (.val (.int .i64 l.atom.bound)),.d (.val (.bool l.atom.strict))]]) (iE.cons (Vw.agg (iE.cons (Vw.acc rfl rfl) (iE.cons (Vw.same rfl) (iE.cons (Vw.same rfl) iE.nil)))) iE.nil) (ZV _) hc) ?_
    refine sI ?_
    refine an ?_
    refine sB ?_
    all_goals(first|done|(simp;done)|(simp;omega)|skip)
theorem HU(nums:List Term)(ab:List bp)(h4:nums.length≤4)(hl1:ab.length≤100)(hf:∀l∈ab,Fit nums l):C E.P 64 [lv (aP nums),lv (aZ ab)] [] (bN (lv (c9 (dY nums ab))) []):=by
 refine gT (nt:=63) (rs:=[.tmp 4]) hm Tryz.func64 fun hl he cI=>?_
 refine aO hm (fun(i:Nat)=> i≤ab.length) (fun(i:Nat)=> ⟨dB 63 .any [(0,lv (aP nums)),(1,lv (aZ ab)),(5,.acc 0),(6,iv i)],[some (.acc 162 (c9 (dY nums (ab.take i))))]⟩) (fun(i:Nat)=> ab.length-i) (0) ?_ (aw [some 0] ?_ ?_ rfl rfl) ?_
 rotate_left
 ·refine sB ?_
  all_goals(first|done|(rfl)|(simp[aq, *];done)|(simp[aq];done)|(simp;omega)|skip)
 ·refine sB ?_
  all_goals(first|done|(rfl)|(simp[aq, *];done)|(simp[aq];done)|(simp;omega)|skip)
 rotate_left
 ·omega
 ·rintro i hi
  rcases aa (i<ab.length) with h1|h1
  ·have h2:=zD nums (ab.take i)
   have h3:(ab.take i).length≤100:=by simp;omega
   have hs:=CZ (nums:=nums) h1
   have hF:=hf ab[i] (ak h1)
   rcases aa (ab[i].atom.kind=2) with k2|k2
   ·have k:=eq_true k2
    rw[iW,if_pos k2] at hs
    try simp -implicitDefEqProofs only[go_sem,Z1,Z2,Z3,Z4,h1,k]
    refine sI ?_
    refine aD [] (Kq nums ab[i] h4 hF k2) ?_
    refine sJ ?_
    refine⟨i+1,?_,sL,aw [some 2] ?_ ?_ rfl rfl⟩
    rotate_left
    ·refine sB ?_
     all_goals(first|done|((rw[hs,←mM,ix,ll];rfl))|(simp[aq, *];done)|(simp[aq];done)|(simp;omega)|skip)
    ·refine sB ?_
     all_goals(first|done|((rw[hs,←mM,ix,ll];rfl))|(simp[aq, *];done)|(simp[aq];done)|(simp;omega)|skip)
    exact h1
   ·have k1:ab[i].atom.kind=1:=(j8 hF.wf).resolve_right k2
    cases h6:ab[i].no
    ·try simp -implicitDefEqProofs only[go_sem,Z1,Z2,Z3,Z4,h1,k2,h6]
     refine sI ?_
     refine aD [] (cL nums ab[i].atom.A) ?_
     refine sI ?_
     rcases aa (0≤bM nums ab[i].atom.A) with h7|h7
     ·rw[iW,if_neg k2,if_pos ⟨h6,h7⟩] at hs
      have hA:=cK.1 h7
      have hB:=(hF.eq k1).1 hA
      rw[OY] at hs
      try simp -implicitDefEqProofs only[go_sem,Z1,Z2,Z3,Z4,h7]
      refine sI ?_
      refine aD [] (yg nums ab[i].atom.A ab[i].atom.B h4 hA hB) ?_
      refine sI ?_
      refine aD [] (yg nums ab[i].atom.B ab[i].atom.A h4 hB hA) ?_
      refine sJ ?_
      refine⟨i+1,?_,sL,aw [some 2] ?_ ?_ rfl rfl⟩
      rotate_left
      ·refine sB ?_
       all_goals(first|done|((rw[hs,←mM,ix,ix,ll];rfl))|(simp[aq, *];done)|(simp[aq];done)|(simp;omega)|skip)
      ·refine sB ?_
       all_goals(first|done|((rw[hs,←mM,ix,ix,ll];rfl))|(simp[aq, *];done)|(simp[aq];done)|(simp;omega)|skip)
      exact h1
     ·rw[iW,if_neg k2,if_neg (by simp[h6,h7]),bF] at hs
      try simp -implicitDefEqProofs only[go_sem,Z1,Z2,Z3,Z4,h7]
      refine sJ ?_
      refine⟨i+1,?_,sL,aw [some 0] ?_ ?_ rfl rfl⟩
      rotate_left
      ·refine sB ?_
       all_goals(first|done|((rw[hs]))|(simp[aq, *];done)|(simp[aq];done)|(simp;omega)|skip)
      ·refine sB ?_
       all_goals(first|done|((rw[hs]))|(simp[aq, *];done)|(simp[aq];done)|(simp;omega)|skip)
      exact h1
    ·rw[iW,if_neg k2,if_neg (by simp[h6]),bF] at hs
     try simp -implicitDefEqProofs only[go_sem,Z1,Z2,Z3,Z4,h1,k2,h6]
     refine sJ ?_
     refine⟨i+1,?_,sL,aw [some 0] ?_ ?_ rfl rfl⟩
     rotate_left
     ·refine sB ?_
      all_goals(first|done|((rw[hs]))|(simp[aq, *];done)|(simp[aq];done)|(simp;omega)|skip)
     ·refine sB ?_
      all_goals(first|done|((rw[hs]))|(simp[aq, *];done)|(simp[aq];done)|(simp;omega)|skip)
     exact h1
  ·try simp -implicitDefEqProofs only[go_sem,Z1,Z2,Z3,Z4,h1]
   refine sI ?_
   refine an ?_
   refine sB ?_
   rw[ao (by omega)]
theorem Ac(a b:Term):C E.P 68 [av (cT a),av (cT b)] [] (bN (av (nO (gP a b))) []):=by
 refine gT (nt:=9) (rs:=[.cell 4 49]) hm Tryz.func68 fun hl he cI=>?_
 refine an ?_
 refine sB ?_
 all_goals(first|done|(simp[gP,xo];done)|(simp[gP,xo];omega)|skip)
theorem yS(ab:List bp)(l:bp)(hl1:ab.length≤100):C E.P 67 [lv (aZ ab),av (nO l)] [] (bN (lv (aZ (ab++[l]))) []):=by
 refine gT (nt:=11) (rs:=[.tmp 4]) hm Tryz.func67 fun hl he cI=>?_
 refine sQ ?_
 refine an ?_
 refine sB ?_
 rw[←De,mY,sN]
 rfl
def yq{α:Type}(i:Nat)(xs:List α):List α:=match i with
 | 0=>[]
 | _+1=>xs
def LX(i:Nat)(b:Bool):Bool:=match i with
 | 0=>false
 | _+1=>b
theorem Rl{α:Type}(xs:List α):yq 0 xs=[]:=rfl
theorem Q3{α:Type}(xs:List α):yq 1 xs=xs:=rfl
theorem XS(b:Bool):LX 0 b=false:=rfl
theorem W5(b:Bool):LX 1 b=b:=rfl
theorem Hs(t:Term)(n:Int):C E.P 212 [av (fN ⟨2,aL,aL,[],[],0,true⟩),av (cT t),iv n] [] (bN (av (fN ⟨2,aL,aL,[t],[n],0,true⟩)) []):=by
 refine gS (nt:=90) (rs:=[.cell 6 47]) hm Tryz.func212 fun hl he cI=>?_
 refine aO hm (fun(i:Nat)=> i=0) (fun(i:Nat)=> ⟨dB 90 .any [(2,iv n),(3,.ptr 0 0),(4,.ptr 1 0),(6,.ptr 2 0),(7,.ptr 3 0),(8,bv false),(9,iv i)],[some (.box (cF (fN ⟨2,aL,aL,[],[],0,true⟩))),some (.box (cF (cT t))),some (.box (cF (fN vY))),some (.box [.d (.val (.int .i64 2)),.d (.str []),.d (.dP []),.d (.str []),.d (.dP []),.acc 4,.acc 5,.d (.val (.int .i64 0)),.d (.val (.bool true))]),some (.acc 34 (aP [])),some (.acc 3 (bG []))]⟩) (fun(i:Nat)=> 0-i) (0) ?_ (aw [some 0,some 1,some 2,some 3,none,none] ?_ ?_ rfl rfl) ?_
 rotate_left
 ·exact sC
 ·refine sA ?_
  all_goals(simp[vY])
 rotate_left
 ·rfl
 ·rintro i rfl
  simp -implicitDefEqProofs only[go_sem,jv]
  refine sQ ?_
  refine an ?_
  refine sA ?_
  simp[dM,jB,cT]
theorem HA(a b:Term)(k n:Int)(ta:isTerm a=true)(tb:isTerm b=true)(mr:gr (aN b) (aN a)=true) :
 C E.P 212 [av (fN ⟨2,aL,aL,[a],[k],0,true⟩),av (cT b),iv n] [] (bN (av (fN ⟨2,aL,aL,[b,a],[n,k],0,true⟩)) []):=by
 have hl1:Op.bytesLess (aN b) (aN a)=true:=mr
 have ju:¬aN a=aN b:=fun h=>KF hl1 h.symm
 have hl2:Op.bytesLess (aN a) (aN b)=false:=by
  cases h:Op.bytesLess (aN a) (aN b)
  ·rfl
  ·have:=uv h hl1
   rw[tg] at this
   cases this
 refine gS (nt:=90) (rs:=[.cell 6 47]) hm Tryz.func212 fun hl he cI=>?_
 refine aO hm (fun(i:Nat)=> i=0∨i=1) (fun(i:Nat)=> ⟨dB 90 .any [(2,iv n),(3,.ptr 0 0),(4,.ptr 1 0),(6,.ptr 2 0),(7,.ptr 3 0),(8,bv (LX i true)),(9,iv i)],[some (.box (cF (fN ⟨2,aL,aL,[a],[k],0,true⟩))),some (.box (cF (cT b))),some (.box (cF (fN vY))),some (.box [.d (.val (.int .i64 2)),.d (.str []),.d (.dP []),.d (.str []),.d (.dP []),.acc 4,.acc 5,.d (.val (.int .i64 0)),.d (.val (.bool true))]),some (.acc 34 (aP (yq i [b,a]))),some (.acc 3 (bG (yq i [n,k])))]⟩) (fun(i:Nat)=> 1-i) (0) ?_ (aw [some 0,some 1,some 2,some 3,none,none] ?_ ?_ rfl rfl) ?_
 rotate_left
 ·refine sA ?_
  all_goals(simp[LX])
 ·refine sA ?_
  all_goals(simp[vY,yq])
 rotate_left
 ·left;rfl
 ·rintro i (rfl|rfl)
  ·simp -implicitDefEqProofs only[go_sem,Z2,Rl,XS,dM,jB,wN]
   refine aC [] (iO a ta) ?_
   refine bQ [] (iO b tb) ?_ ?_<;>simp -implicitDefEqProofs only[go_sem,hl2]
   refine sQ ?_
   refine bQ [] (iO b tb) ?_ ?_<;>simp -implicitDefEqProofs only[go_sem,ju,wN]
   refine sQ ?_
   refine⟨1,?_,sL,aw [some 0,some 1,some 2,some 3,some 8,some 9] ?_ ?_ rfl rfl⟩
   rotate_left
   ·refine sA ?_
    all_goals(simp[LX])
   ·refine sA ?_
    all_goals(simp[yq,dM,jB,cT])
   right;rfl
  ·simp -implicitDefEqProofs only[go_sem,Q3,W5,jv]
   refine an ?_
   exact sC
theorem HH(a b:Term)(k n:Int)(ta:isTerm a=true)(tb:isTerm b=true)(hgt:gr (aN b) (aN a)=false)(ju:¬aN a=aN b) :
 C E.P 212 [av (fN ⟨2,aL,aL,[a],[k],0,true⟩),av (cT b),iv n] [] (bN (av (fN ⟨2,aL,aL,[a,b],[k,n],0,true⟩)) []):=by
 have hl2:Op.bytesLess (aN a) (aN b)=true:=zd (a:=aN b) (b:=aN a) (fun e=>ju e.symm) hgt
 refine gS (nt:=90) (rs:=[.cell 6 47]) hm Tryz.func212 fun hl he cI=>?_
 refine aO hm (fun(i:Nat)=> i=0∨i=1) (fun(i:Nat)=> ⟨dB 90 .any [(2,iv n),(3,.ptr 0 0),(4,.ptr 1 0),(6,.ptr 2 0),(7,.ptr 3 0),(8,bv false),(9,iv i)],[some (.box (cF (fN ⟨2,aL,aL,[a],[k],0,true⟩))),some (.box (cF (cT b))),some (.box (cF (fN vY))),some (.box [.d (.val (.int .i64 2)),.d (.str []),.d (.dP []),.d (.str []),.d (.dP []),.acc 4,.acc 5,.d (.val (.int .i64 0)),.d (.val (.bool true))]),some (.acc 34 (aP (yq i [a]))),some (.acc 3 (bG (yq i [k])))]⟩) (fun(i:Nat)=> 1-i) (0) ?_ (aw [some 0,some 1,some 2,some 3,none,none] ?_ ?_ rfl rfl) ?_
 rotate_left
 ·exact sC
 ·refine sA ?_
  all_goals(simp[vY,yq])
 rotate_left
 ·left;rfl
 ·rintro i (rfl|rfl)
  ·simp -implicitDefEqProofs only[go_sem,Z2,Rl,dM,jB,wN]
   refine aC [] (iO a ta) ?_
   refine bQ [] (iO b tb) ?_ ?_<;>simp -implicitDefEqProofs only[go_sem,hl2]
   refine bQ [] (iO b tb) ?_ ?_<;>simp -implicitDefEqProofs only[go_sem,ju,wN]
   refine sQ ?_
   refine⟨1,?_,sL,aw [some 0,some 1,some 2,some 3,some 6,some 7] ?_ ?_ rfl rfl⟩
   rotate_left
   ·refine sA ?_
    all_goals(simp[])
   ·refine sA ?_
    all_goals(simp[yq,dM,jB,cT])
   right;rfl
  ·simp -implicitDefEqProofs only[go_sem,Q3,jv]
   refine sQ ?_
   refine an ?_
   refine sA ?_
   all_goals(simp[dM,jB,cT];done)
theorem pU(a b:Term)(ta:isTerm a=true)(tb:isTerm b=true)(ju:a≠b):C E.P 142 [av (cT a),av (cT b)] [] (bN (av (nO (dz a b))) []):=by
 have ht:¬aN a=aN b:=fun h=>ju (AB ta tb h)
 refine gS (nt:=13) (rs:=[.cell 4 49]) hm Tryz.func142 fun hl he cI=>?_
 refine aC [] (Hs a 1) ?_
 cases h:gr (aN b) (aN a)
 ·refine aC [] (HH a b 1 (-1) ta tb h ht) ?_
  refine an ?_
  refine sA ?_
  all_goals(simp[dz,h];done)
 ·refine aC [] (HA a b 1 (-1) ta tb h) ?_
  refine an ?_
  refine sA ?_
  all_goals(simp[dz,h];done)
end Go.Proofs.YtabembjmeobhoaaGreat
