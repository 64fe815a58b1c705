/-
  The reference: the walks of what is told of numbers. A step towards the exact laws.
-/
import Derived.Test.YtabembjmeobhoaaGreatKBP
import Derived.Test.YtabembjmeobhoaaGreatKBQ
set_option linter.unusedVariables false
set_option linter.unusedSimpArgs false
open Classical renaming em→aa
open Int renaming lt_irrefl→jw
open List renaming getElem_mem→ak,take_of_length_le→ao,replicate→aW,append_nil→bF
namespace Go.Proofs.YtabembjmeobhoaaGreat
open Go.Eng Go.Mod
open Int renaming reduceEq→Z1,reduceLT→Z2,reduceLE→Z3,reduceToNat→Z4
set_option maxRecDepth 100000
set_option maxHeartbeats 800000
theorem Bz(ab:List bp)(hl1:ab.length≤100):C E.P 126 [lv (a6 ab)] [] (bM (lv (gP (bc ab))) []):=by
 refine gT (nt:=44) (rs:=[.tmp 2]) hm Tryz.func126 fun hl he cI=>?_
 refine aO hm (fun(i:Nat)=> i≤ab.length) (fun(i:Nat)=> ⟨dB 44 .any [(0,lv (a6 ab)),(3,.acc 0),(4,iv i)],[some (.acc 134 (gP (bc (ab.take i))))]⟩) (fun(i:Nat)=> ab.length-i) (0) ?_ (aw [some 0] ?_ ?_ rfl rfl) ?_
 rotate_left
 ·refine sB ?_
  all_goals(first|done|(rfl)|(simp[aq, *];done)|(simp[aq];done)|(simp;omega)|skip)
 ·refine sB ?_
  all_goals(first|done|(rfl)|(simp[aq, *];done)|(simp[aq];done)|(simp;omega)|skip)
 rotate_left
 ·omega
 ·rintro i hi
  rcases aa (i<ab.length) with h1|h1
  ·have h2:=Iv (ab.take i)
   have h4:(ab.take i).length≤100:=by simp;omega
   have hs:=E8 h1
   rcases aa (ab[i].atom.kind=1) with h5|h5
   ·have k5:=eq_true h5
    cases h6:ab[i].no
    ·rw[if_pos ⟨h5,h6⟩] at hs
     try simp -implicitDefEqProofs only[go_sem,Z1,Z2,Z3,Z4,h1,k5,h6]
     refine sJ ?_
     refine⟨i+1,?_,sL,aw [some 1] ?_ ?_ rfl rfl⟩
     rotate_left
     ·refine sB ?_
      all_goals(first|done|((rw[hs,←yX,xu,rL];rfl))|(simp[aq, *];done)|(simp[aq];done)|(simp;omega)|skip)
     ·refine sB ?_
      all_goals(first|done|((rw[hs,←yX,xu,rL];rfl))|(simp[aq, *];done)|(simp[aq];done)|(simp;omega)|skip)
     exact h1
    ·rw[if_neg (by simp[h6]),bF] at hs
     try simp -implicitDefEqProofs only[go_sem,Z1,Z2,Z3,Z4,h1,k5,h6]
     refine sJ ?_
     refine⟨i+1,?_,sL,aw [some 0] ?_ ?_ rfl rfl⟩
     rotate_left
     ·refine sB ?_
      all_goals(first|done|((rw[hs]))|(simp[aq, *];done)|(simp[aq];done)|(simp;omega)|skip)
     ·refine sB ?_
      all_goals(first|done|((rw[hs]))|(simp[aq, *];done)|(simp[aq];done)|(simp;omega)|skip)
     exact h1
   ·rw[if_neg (by simp[h5]),bF] at hs
    try simp -implicitDefEqProofs only[go_sem,Z1,Z2,Z3,Z4,h1,h5]
    refine sJ ?_
    refine⟨i+1,?_,sL,aw [some 0] ?_ ?_ rfl rfl⟩
    rotate_left
    ·refine sB ?_
     all_goals(first|done|((rw[hs]))|(simp[aq, *];done)|(simp[aq];done)|(simp;omega)|skip)
    ·refine sB ?_
     all_goals(first|done|((rw[hs]))|(simp[aq, *];done)|(simp[aq];done)|(simp;omega)|skip)
    exact h1
  ·try simp -implicitDefEqProofs only[go_sem,Z1,Z2,Z3,Z4,h1]
   refine sI ?_
   refine an ?_
   refine sB ?_
   rw[ao (by omega)]
theorem Lv(a b:D):sr [a] 0 [b]=[b]:=rfl
theorem BE(cs:List Int)(i:Nat)(v:Int):(bG cs).set i [.val (.int .i64 v)]=bG (cs.set i v):=by
 simp[bG,List.map_set]
theorem ym(nums:List Term)(a b:Term)(h4:nums.length≤4)(ha:a∈nums)(hb:b∈nums):C E.P 132 [lv (aP nums),av (cT a),av (cT b)] [] (bM (av (eF (lN nums [a,b] [1,-1] 0 false))) []):=by
 have xa:=cK.2 ha
 have xb:=cK.2 hb
 have ya:=nP ha
 have yb:=nP hb
 obtain⟨z,hz⟩:∃z:List Int,z=[0,0,0,0]:=⟨_,rfl⟩
 have hr:aW 4 [D.val (Value.int IntKind.i64 0)]=bG z:=by rw[hz];rfl
 have hzl:z.length=4:=by rw[hz];rfl
 have za:(bL nums a).toNat<z.length:=by omega
 have va:z[(bL nums a).toNat]=0:=by
  have:=VK (bL nums a).toNat
  rw[←hz,qY za] at this
  exact this
 obtain⟨v,hv⟩:∃v:Int,v=z[(bL nums a).toNat]+1:=⟨_,rfl⟩
 have zb:(bL nums b).toNat<(z.set (bL nums a).toNat v).length:=by rw[List.length_set];omega
 have vb:(z.set (bL nums a).toNat v)[(bL nums b).toNat]=0∨(z.set (bL nums a).toNat v)[(bL nums b).toNat]=1:=by
  rw[List.getElem_set]
  split
  ·right;omega
  ·left
   have:=VK (bL nums b).toNat
   rw[←hz,qY (by omega)] at this
   exact this
 have el:lN nums [a,b] [1,-1] 0 false=⟨(z.set (bL nums a).toNat v).set (bL nums b).toNat ((z.set (bL nums a).toNat v)[(bL nums b).toNat] - 1),0,false⟩:=by
  simp only[lN,jP]
  rw[←hz,tV _ xa,qY za,←hv,tV _ xb,qY zb]
  rfl
 rw[el]
 refine gT (nt:=39) (rs:=[.cell 6 162]) hm Tryz.func132 fun hl he cI=>?_
 refine sQ ?_
 refine aD [] (cL nums a) ?_
 refine sI ?_
 refine bQ [] (cL nums b) ?_ ?_<;>simp -implicitDefEqProofs only[go_sem,Z1,Z2,Z3,Z4,hr,za]
 refine sJ ?_
 have hv':=hv.symm
 try simp -implicitDefEqProofs only[go_sem,Z1,Z2,Z3,Z4,Lv,BE,za,hv',zb]
 refine sJ ?_
 try simp -implicitDefEqProofs only[go_sem,Z1,Z2,Z3,Z4,Lv,BE,zb]
 refine sJ ?_
 refine an ?_
 refine sB ?_
 all_goals(first|done|(simp;done)|(simp;omega)|skip)
theorem KN(nums:List Term)(l:bp)(h4:nums.length≤4)(hF:Fit nums l)(k2:l.atom.kind=2):C E.P 131 [lv (aP nums),av (np l)] [] (bM (av (eF (if l.no then pj (lN nums l.atom.nums l.atom.times l.atom.bound l.atom.strict) else lN nums l.atom.nums l.atom.times l.atom.bound l.atom.strict))) []):=by
 have hw:=mF hF.wf k2
 have ki:=hF.sum k2
 rw[R9 hw.2.2.2.2.2 hw.2.2.2.1 ki]
 obtain⟨ts,hts⟩:∃ts,ts=l.atom.nums:=⟨_,rfl⟩
 obtain⟨ns,hns⟩:∃ns,ns=l.atom.times:=⟨_,rfl⟩
 refine gT (nt:=45) (rs:=[.cell 4 162]) hm Tryz.func131 fun hl he cI=>?_
 refine sQ ?_
 refine aO hm (fun(i:Nat)=> i≤l.atom.nums.length) (fun(i:Nat)=> ⟨dB 45 .any [(0,lv (aP nums)),(3,.ptr 0 0),(4,.ptr 1 0),(5,.ptr 2 0),(6,iv i)],[some (.box (cF (np l))),some (.box (cF (eF mC))),some (.box [.acc 3,.d (.val (.int .i64 l.atom.bound)),.d (.val (.bool l.atom.strict))]),some (.acc 3 (bG (oa nums (l.atom.nums.take i) (l.atom.times.take i) [0,0,0,0])))]⟩) (fun(i:Nat)=> l.atom.nums.length-i) (0) ?_ (aw [some 0,some 1,some 3,some 2] ?_ ?_ rfl rfl) ?_
 rotate_left
 ·refine sB ?_
  all_goals(first|done|(simp[bG,aW,oa])|(simp[aq, *];done)|(simp[aq];done)|(simp;omega)|skip)
 ·refine sB ?_
  all_goals(first|done|(simp[bG,aW,oa])|(simp[aq, *];done)|(simp[aq];done)|(simp;omega)|skip)
 rotate_left
 ·omega
 ·rintro i hi
  have dy:=hw.2.2.2.1
  rcases aa (i<l.atom.nums.length) with h1|h1
  ·have h2:i<l.atom.times.length:=by omega
   have hin':=ki l.atom.nums[i] (ak h1)
   have x1:=cK.2 hin'
   have x2:=nP hin'
   have hL:(oa nums (l.atom.nums.take i) (l.atom.times.take i) [0,0,0,0]).length=4:=IM
   have x3:(bL nums l.atom.nums[i]).toNat<(oa nums (l.atom.nums.take i) (l.atom.times.take i) [0,0,0,0]).length:=by omega
   try simp -implicitDefEqProofs only[go_sem,Z1,Z2,Z3,Z4,h1,h2]
   refine sI ?_
   refine bQ [] (cL nums l.atom.nums[i]) ?_ ?_<;>simp -implicitDefEqProofs only[go_sem,Z1,Z2,Z3,Z4,x3,h2,Lv,BE]
   refine sJ ?_
   refine⟨i+1,?_,sL,aw [some 0,some 1,some 2,some 3] ?_ ?_ rfl rfl⟩
   rotate_left
   ·refine sB ?_
    all_goals(first|done|((rw[y0 h1 h2]))|(simp[aq, *];done)|(simp[aq];done)|(simp;omega)|skip)
   ·refine sB ?_
    all_goals(first|done|((rw[y0 h1 h2]))|(simp[aq, *];done)|(simp[aq];done)|(simp;omega)|skip)
   exact h1
  ·have e1:l.atom.nums.take i=l.atom.nums:=ao (by omega)
   have e2:l.atom.times.take i=l.atom.times:=ao (by omega)
   cases h6:l.no
   ·try simp -implicitDefEqProofs only[go_sem,Z1,Z2,Z3,Z4,h1,e1,e2,h6]
    refine sI ?_
    refine an ?_
    refine sB ?_
    all_goals(first|done|(simp;done)|(simp;omega)|skip)
   ·try simp -implicitDefEqProofs only[go_sem,Z1,Z2,Z3,Z4,h1,e1,e2,h6]
    refine sI ?_
    have hc:=Ht ⟨oa nums l.atom.nums l.atom.times [0,0,0,0],l.atom.bound,l.atom.strict⟩
    refine oD [] [3] (tH (e:=3) (args:=[.agg [.acc 0,.d (.val (.int .i64 l.atom.bound)),.d (.val (.bool l.atom.strict))]]) (ik.cons (Vw.agg (ik.cons (Vw.acc rfl rfl) (ik.cons (Vw.same rfl) (ik.cons (Vw.same rfl) ik.nil)))) ik.nil) (Z7 _) hc) ?_
    refine sI ?_
    refine an ?_
    refine sB ?_
    all_goals(first|done|(simp;done)|(simp;omega)|skip)
theorem HN(nums:List Term)(ab:List bp)(h4:nums.length≤4)(hl1:ab.length≤100)(hf:∀l∈ab,Fit nums l):C E.P 64 [lv (aP nums),lv (a6 ab)] [] (bM (lv (db (dQ nums ab))) []):=by
 refine gT (nt:=63) (rs:=[.tmp 4]) hm Tryz.func64 fun hl he cI=>?_
 refine aO hm (fun(i:Nat)=> i≤ab.length) (fun(i:Nat)=> ⟨dB 63 .any [(0,lv (aP nums)),(1,lv (a6 ab)),(5,.acc 0),(6,iv i)],[some (.acc 162 (db (dQ nums (ab.take i))))]⟩) (fun(i:Nat)=> ab.length-i) (0) ?_ (aw [some 0] ?_ ?_ rfl rfl) ?_
 rotate_left
 ·refine sB ?_
  all_goals(first|done|(rfl)|(simp[aq, *];done)|(simp[aq];done)|(simp;omega)|skip)
 ·refine sB ?_
  all_goals(first|done|(rfl)|(simp[aq, *];done)|(simp[aq];done)|(simp;omega)|skip)
 rotate_left
 ·omega
 ·rintro i hi
  rcases aa (i<ab.length) with h1|h1
  ·have h2:=ze nums (ab.take i)
   have h3:(ab.take i).length≤100:=by simp;omega
   have hs:=CT (nums:=nums) h1
   have hF:=hf ab[i] (ak h1)
   rcases aa (ab[i].atom.kind=2) with k2|k2
   ·have k:=eq_true k2
    rw[iV,if_pos k2] at hs
    try simp -implicitDefEqProofs only[go_sem,Z1,Z2,Z3,Z4,h1,k]
    refine sI ?_
    refine aD [] (KN nums ab[i] h4 hF k2) ?_
    refine sJ ?_
    refine⟨i+1,?_,sL,aw [some 2] ?_ ?_ rfl rfl⟩
    rotate_left
    ·refine sB ?_
     all_goals(first|done|((rw[hs,←mL,iz,lk];rfl))|(simp[aq, *];done)|(simp[aq];done)|(simp;omega)|skip)
    ·refine sB ?_
     all_goals(first|done|((rw[hs,←mL,iz,lk];rfl))|(simp[aq, *];done)|(simp[aq];done)|(simp;omega)|skip)
    exact h1
   ·have k1:ab[i].atom.kind=1:=(j6 hF.wf).resolve_right k2
    cases h6:ab[i].no
    ·try simp -implicitDefEqProofs only[go_sem,Z1,Z2,Z3,Z4,h1,k2,h6]
     refine sI ?_
     refine aD [] (cL nums ab[i].atom.A) ?_
     refine sI ?_
     rcases aa (0≤bL nums ab[i].atom.A) with h7|h7
     ·rw[iV,if_neg k2,if_pos ⟨h6,h7⟩] at hs
      have hA:=cK.1 h7
      have hB:=(hF.eq k1).1 hA
      rw[PS] at hs
      try simp -implicitDefEqProofs only[go_sem,Z1,Z2,Z3,Z4,h7]
      refine sI ?_
      refine aD [] (ym nums ab[i].atom.A ab[i].atom.B h4 hA hB) ?_
      refine sI ?_
      refine aD [] (ym nums ab[i].atom.B ab[i].atom.A h4 hB hA) ?_
      refine sJ ?_
      refine⟨i+1,?_,sL,aw [some 2] ?_ ?_ rfl rfl⟩
      rotate_left
      ·refine sB ?_
       all_goals(first|done|((rw[hs,←mL,iz,iz,lk];rfl))|(simp[aq, *];done)|(simp[aq];done)|(simp;omega)|skip)
      ·refine sB ?_
       all_goals(first|done|((rw[hs,←mL,iz,iz,lk];rfl))|(simp[aq, *];done)|(simp[aq];done)|(simp;omega)|skip)
      exact h1
     ·rw[iV,if_neg k2,if_neg (by simp[h6,h7]),bF] at hs
      try simp -implicitDefEqProofs only[go_sem,Z1,Z2,Z3,Z4,h7]
      refine sJ ?_
      refine⟨i+1,?_,sL,aw [some 0] ?_ ?_ rfl rfl⟩
      rotate_left
      ·refine sB ?_
       all_goals(first|done|((rw[hs]))|(simp[aq, *];done)|(simp[aq];done)|(simp;omega)|skip)
      ·refine sB ?_
       all_goals(first|done|((rw[hs]))|(simp[aq, *];done)|(simp[aq];done)|(simp;omega)|skip)
      exact h1
    ·rw[iV,if_neg k2,if_neg (by simp[h6]),bF] at hs
     try simp -implicitDefEqProofs only[go_sem,Z1,Z2,Z3,Z4,h1,k2,h6]
     refine sJ ?_
     refine⟨i+1,?_,sL,aw [some 0] ?_ ?_ rfl rfl⟩
     rotate_left
     ·refine sB ?_
      all_goals(first|done|((rw[hs]))|(simp[aq, *];done)|(simp[aq];done)|(simp;omega)|skip)
     ·refine sB ?_
      all_goals(first|done|((rw[hs]))|(simp[aq, *];done)|(simp[aq];done)|(simp;omega)|skip)
     exact h1
  ·try simp -implicitDefEqProofs only[go_sem,Z1,Z2,Z3,Z4,h1]
   refine sI ?_
   refine an ?_
   refine sB ?_
   rw[ao (by omega)]
theorem Ac(a b:Term):C E.P 68 [av (cT a),av (cT b)] [] (bM (av (np (gJ a b))) []):=by
 refine gT (nt:=9) (rs:=[.cell 4 49]) hm Tryz.func68 fun hl he cI=>?_
 refine an ?_
 refine sB ?_
 all_goals(first|done|(simp[gJ,xo];done)|(simp[gJ,xo];omega)|skip)
theorem yw(ab:List bp)(l:bp)(hl1:ab.length≤100):C E.P 67 [lv (a6 ab),av (np l)] [] (bM (lv (a6 (ab++[l]))) []):=by
 refine gT (nt:=11) (rs:=[.tmp 4]) hm Tryz.func67 fun hl he cI=>?_
 refine sQ ?_
 refine an ?_
 refine sB ?_
 rw[←CU,mW,s6]
 rfl
def yB{α:Type}(i:Nat)(xs:List α):List α:=match i with
 | 0=>[]
 | _+1=>xs
def Nn(i:Nat)(b:Bool):Bool:=match i with
 | 0=>false
 | _+1=>b
theorem Rl{α:Type}(xs:List α):yB 0 xs=[]:=rfl
theorem QB{α:Type}(xs:List α):yB 1 xs=xs:=rfl
theorem Wm(b:Bool):Nn 0 b=false:=rfl
theorem XJ(b:Bool):Nn 1 b=b:=rfl
theorem HY(t:Term)(n:Int):C E.P 212 [av (fM ⟨2,aL,aL,[],[],0,true⟩),av (cT t),iv n] [] (bM (av (fM ⟨2,aL,aL,[t],[n],0,true⟩)) []):=by
 refine gS (nt:=90) (rs:=[.cell 6 47]) hm Tryz.func212 fun hl he cI=>?_
 refine aO hm (fun(i:Nat)=> i=0) (fun(i:Nat)=> ⟨dB 90 .any [(2,iv n),(3,.ptr 0 0),(4,.ptr 1 0),(6,.ptr 2 0),(7,.ptr 3 0),(8,bv false),(9,iv i)],[some (.box (cF (fM ⟨2,aL,aL,[],[],0,true⟩))),some (.box (cF (cT t))),some (.box (cF (fM wx))),some (.box [.d (.val (.int .i64 2)),.d (.str []),.d (.dP []),.d (.str []),.d (.dP []),.acc 4,.acc 5,.d (.val (.int .i64 0)),.d (.val (.bool true))]),some (.acc 34 (aP [])),some (.acc 3 (bG []))]⟩) (fun(i:Nat)=> 0-i) (0) ?_ (aw [some 0,some 1,some 2,some 3,none,none] ?_ ?_ rfl rfl) ?_
 rotate_left
 ·exact sC
 ·refine sA ?_
  all_goals(simp[wx])
 rotate_left
 ·rfl
 ·rintro i rfl
  simp -implicitDefEqProofs only[go_sem,jw]
  refine sQ ?_
  refine an ?_
  refine sA ?_
  simp[dM,jG,cT]
theorem Hu(a b:Term)(k n:Int)(ta:isTerm a=true)(tb:isTerm b=true)(mr:gn (aN b) (aN a)=true) :
 C E.P 212 [av (fM ⟨2,aL,aL,[a],[k],0,true⟩),av (cT b),iv n] [] (bM (av (fM ⟨2,aL,aL,[b,a],[n,k],0,true⟩)) []):=by
 have hl1:Op.bytesLess (aN b) (aN a)=true:=mr
 have jv:¬aN a=aN b:=fun h=>Kb hl1 h.symm
 have hl2:Op.bytesLess (aN a) (aN b)=false:=by
  cases h:Op.bytesLess (aN a) (aN b)
  ·rfl
  ·have:=uQ h hl1
   rw[sw] at this
   cases this
 refine gS (nt:=90) (rs:=[.cell 6 47]) hm Tryz.func212 fun hl he cI=>?_
 refine aO hm (fun(i:Nat)=> i=0∨i=1) (fun(i:Nat)=> ⟨dB 90 .any [(2,iv n),(3,.ptr 0 0),(4,.ptr 1 0),(6,.ptr 2 0),(7,.ptr 3 0),(8,bv (Nn i true)),(9,iv i)],[some (.box (cF (fM ⟨2,aL,aL,[a],[k],0,true⟩))),some (.box (cF (cT b))),some (.box (cF (fM wx))),some (.box [.d (.val (.int .i64 2)),.d (.str []),.d (.dP []),.d (.str []),.d (.dP []),.acc 4,.acc 5,.d (.val (.int .i64 0)),.d (.val (.bool true))]),some (.acc 34 (aP (yB i [b,a]))),some (.acc 3 (bG (yB i [n,k])))]⟩) (fun(i:Nat)=> 1-i) (0) ?_ (aw [some 0,some 1,some 2,some 3,none,none] ?_ ?_ rfl rfl) ?_
 rotate_left
 ·refine sA ?_
  all_goals(simp[Nn])
 ·refine sA ?_
  all_goals(simp[wx,yB])
 rotate_left
 ·left;rfl
 ·rintro i (rfl|rfl)
  ·simp -implicitDefEqProofs only[go_sem,Z2,Rl,Wm,dM,jG,wW]
   refine aC [] (iJ a ta) ?_
   refine bQ [] (iJ b tb) ?_ ?_<;>simp -implicitDefEqProofs only[go_sem,hl2]
   refine sQ ?_
   refine bQ [] (iJ b tb) ?_ ?_<;>simp -implicitDefEqProofs only[go_sem,jv,wW]
   refine sQ ?_
   refine⟨1,?_,sL,aw [some 0,some 1,some 2,some 3,some 8,some 9] ?_ ?_ rfl rfl⟩
   rotate_left
   ·refine sA ?_
    all_goals(simp[Nn])
   ·refine sA ?_
    all_goals(simp[yB,dM,jG,cT])
   right;rfl
  ·simp -implicitDefEqProofs only[go_sem,QB,XJ,jw]
   refine an ?_
   exact sC
theorem Hi(a b:Term)(k n:Int)(ta:isTerm a=true)(tb:isTerm b=true)(hgt:gn (aN b) (aN a)=false)(jv:¬aN a=aN b) :
 C E.P 212 [av (fM ⟨2,aL,aL,[a],[k],0,true⟩),av (cT b),iv n] [] (bM (av (fM ⟨2,aL,aL,[a,b],[k,n],0,true⟩)) []):=by
 have hl2:Op.bytesLess (aN a) (aN b)=true:=zy (a:=aN b) (b:=aN a) (fun e=>jv e.symm) hgt
 refine gS (nt:=90) (rs:=[.cell 6 47]) hm Tryz.func212 fun hl he cI=>?_
 refine aO hm (fun(i:Nat)=> i=0∨i=1) (fun(i:Nat)=> ⟨dB 90 .any [(2,iv n),(3,.ptr 0 0),(4,.ptr 1 0),(6,.ptr 2 0),(7,.ptr 3 0),(8,bv false),(9,iv i)],[some (.box (cF (fM ⟨2,aL,aL,[a],[k],0,true⟩))),some (.box (cF (cT b))),some (.box (cF (fM wx))),some (.box [.d (.val (.int .i64 2)),.d (.str []),.d (.dP []),.d (.str []),.d (.dP []),.acc 4,.acc 5,.d (.val (.int .i64 0)),.d (.val (.bool true))]),some (.acc 34 (aP (yB i [a]))),some (.acc 3 (bG (yB i [k])))]⟩) (fun(i:Nat)=> 1-i) (0) ?_ (aw [some 0,some 1,some 2,some 3,none,none] ?_ ?_ rfl rfl) ?_
 rotate_left
 ·exact sC
 ·refine sA ?_
  all_goals(simp[wx,yB])
 rotate_left
 ·left;rfl
 ·rintro i (rfl|rfl)
  ·simp -implicitDefEqProofs only[go_sem,Z2,Rl,dM,jG,wW]
   refine aC [] (iJ a ta) ?_
   refine bQ [] (iJ b tb) ?_ ?_<;>simp -implicitDefEqProofs only[go_sem,hl2]
   refine bQ [] (iJ b tb) ?_ ?_<;>simp -implicitDefEqProofs only[go_sem,jv,wW]
   refine sQ ?_
   refine⟨1,?_,sL,aw [some 0,some 1,some 2,some 3,some 6,some 7] ?_ ?_ rfl rfl⟩
   rotate_left
   ·refine sA ?_
    all_goals(simp[])
   ·refine sA ?_
    all_goals(simp[yB,dM,jG,cT])
   right;rfl
  ·simp -implicitDefEqProofs only[go_sem,QB,jw]
   refine sQ ?_
   refine an ?_
   refine sA ?_
   all_goals(simp[dM,jG,cT];done)
theorem pX(a b:Term)(ta:isTerm a=true)(tb:isTerm b=true)(jv:a≠b):C E.P 142 [av (cT a),av (cT b)] [] (bM (av (np (dz a b))) []):=by
 have ht:¬aN a=aN b:=fun h=>jv (Ae ta tb h)
 refine gS (nt:=13) (rs:=[.cell 4 49]) hm Tryz.func142 fun hl he cI=>?_
 refine aC [] (HY a 1) ?_
 cases h:gn (aN b) (aN a)
 ·refine aC [] (Hi a b 1 (-1) ta tb h ht) ?_
  refine an ?_
  refine sA ?_
  all_goals(simp[dz,h];done)
 ·refine aC [] (Hu a b 1 (-1) ta tb h) ?_
  refine an ?_
  refine sA ?_
  all_goals(simp[dz,h];done)
end Go.Proofs.YtabembjmeobhoaaGreat
