/-
  The reference: the walks of what is told of numbers. A step towards the exact laws.
-/
import Derived.Test.YtphcpjhkeipggaaGreatKBP
import Derived.Test.YtphcpjhkeipggaaGreatKBQ
set_option linter.unusedVariables false
set_option linter.unusedSimpArgs false
open Int renaming reduceEq→Z1,reduceLT→Z2,reduceLE→Z3,reduceToNat→Z4
open Classical renaming em→aa
open Int renaming lt_irrefl→lA
open List renaming getElem_mem→aj,take_of_length_le→aq,replicate→aE,append_nil→bE
namespace Go.Proofs.YtphcpjhkeipggaaGreat
open Go.Eng Go.Mod
set_option maxRecDepth 100000
set_option maxHeartbeats 3200000
theorem EW(ab:List bL)(hl1:ab.length≤100):CN 216 [lv (bh ab)] (lv (dF (br ab))):=by
 refine gT 44 [.tmp 2] hm Tryz.func216 fun hl he cf=>?_;refine cS hm (fun(i:Nat)=> i≤ab.length) (fun(i:Nat)=> ⟨dN 44 .any [(0,lv (bh ab)),(3,.aX 0),(4,iv i)],[some (.aX 217 (dF (br (ab.take i))))]⟩) (fun(i:Nat)=> ab.length-i) (0) ?_ (aZ fe ?_ ?_ rfl rfl) ?_;rotate_left
 ·refine sB ?_;all_goals(first|done|(rfl)|(simp[a7, *];done)|(simp[a7];done)|(simp;omega)|skip)
 ·refine sB ?_;all_goals(first|done|(rfl)|(simp[a7, *];done)|(simp[a7];done)|(simp;omega)|skip)
 rotate_left;omega;rintro i hi;rcases aa (i<ab.length) with h1|h1
 ·have h2:=O6 (ab.take i);have h4:(ab.take i).length≤100:=(by simp;omega);have hs:=Lj h1;rcases aa (ab[i].aN.kind=1) with h5|h5
  ·have k5:=eq_true h5;cases h6:ab[i].no
   ·rw[if_pos ⟨h5,h6⟩] at hs;try simp -implicitDefEqProofs only[go_sem,Z1,Z2,Z3,Z4,h1,k5,h6]
    refine sJ ?_;refine⟨i+1,?_,sL,aZ [some 1] ?_ ?_ rfl rfl⟩;rotate_left
    ·refine sB ?_;all_goals(first|done|((rw[hs,←nK,lr,lJ];rfl))|(simp[a7, *];done)|(simp[a7];done)|(simp;omega)|skip)
    ·refine sB ?_;all_goals(first|done|((rw[hs,←nK,lr,lJ];rfl))|(simp[a7, *];done)|(simp[a7];done)|(simp;omega)|skip)
    exact h1
   rw[if_neg (by simp[h6]),bE] at hs;try simp -implicitDefEqProofs only[go_sem,Z1,Z2,Z3,Z4,h1,k5,h6]
   refine sJ ?_;refine⟨i+1,?_,sL,aZ fe ?_ ?_ rfl rfl⟩;rotate_left
   ·refine sB ?_;all_goals(first|done|((rw[hs]))|(simp[a7, *];done)|(simp[a7];done)|(simp;omega)|skip)
   ·refine sB ?_;all_goals(first|done|((rw[hs]))|(simp[a7, *];done)|(simp[a7];done)|(simp;omega)|skip)
   exact h1
  rw[if_neg (by simp[h5]),bE] at hs;try simp -implicitDefEqProofs only[go_sem,Z1,Z2,Z3,Z4,h1,h5]
  refine sJ ?_;refine⟨i+1,?_,sL,aZ fe ?_ ?_ rfl rfl⟩;rotate_left
  ·refine sB ?_;all_goals(first|done|((rw[hs]))|(simp[a7, *];done)|(simp[a7];done)|(simp;omega)|skip)
  ·refine sB ?_;all_goals(first|done|((rw[hs]))|(simp[a7, *];done)|(simp[a7];done)|(simp;omega)|skip)
  exact h1
 try simp -implicitDefEqProofs only[go_sem,Z1,Z2,Z3,Z4,h1]
 refine sI ?_;refine oW ?_;rw[aq oM]
theorem Pn(a b:D):wm [a] 0 [b]=[b]:=rfl
theorem GN(cs:List Int)(i:Nat)(v:Int):(bm cs).set i [.val (.int .i64 v)]=bm (cs.set i v):=by simp[bm,List.map_set]
theorem Cn(ai:List ax)(a b:ax)(h4:ai.length≤4)(ha:a∈ai)(hb:b∈ai):CN 222 [lv (aU ai),av (cT a),av (cT b)] (av (gY (nX ai [a,b] [1,-1] 0 false))):=by
 have xa:=dE.2 ha;have xb:=dE.2 hb;have ya:=qf ha;have yb:=qf hb;obtain⟨z,hz⟩:∃z:List Int,z=[0,0,0,0]:=⟨_,rfl⟩;have hr:aE 4 [D.val (Value.int IntKind.i64 0)]=bm z:=by rw[hz];rfl
 have hzl:z.length=4:=by rw[hz];rfl
 have za:(b8 ai a).toNat<z.length:=oM;have va:z[(b8 ai a).toNat]=0:=by have:=aa3 (b8 ai a).toNat;rw[←hz,pn za] at this;exact this
 obtain⟨v,hv⟩:∃v:Int,v=z[(b8 ai a).toNat]+1:=⟨_,rfl⟩;have zb:(b8 ai b).toNat<(z.set (b8 ai a).toNat v).length:=by rw[List.length_set];omega
 have vb:(z.set (b8 ai a).toNat v)[(b8 ai b).toNat]=0∨(z.set (b8 ai a).toNat v)[(b8 ai b).toNat]=1:=by rw[List.getElem_set];split;right;omega;left;have:=aa3 (b8 ai b).toNat;rw[←hz,pn oM] at this;exact this
 have el:nX ai [a,b] [1,-1] 0 false=⟨(z.set (b8 ai a).toNat v).set (b8 ai b).toNat ((z.set (b8 ai a).toNat v)[(b8 ai b).toNat] - 1),0,false⟩:=by simp only[nX,l9];rw[←hz,x7 _ xa,pn za,←hv,x7 _ xb,pn zb];rfl
 rw[el];refine gT 39 [.cell 6 256] hm Tryz.func222 fun hl he cf=>?_;refine sQ ?_;refine aD [] (dG ai a) ?_;refine sI ?_;refine dy [] (dG ai b) ?_ ?_<;>simp -implicitDefEqProofs only[go_sem,Z1,Z2,Z3,Z4,hr,za];refine sJ ?_;have hv':=hv.symm;try simp -implicitDefEqProofs only[go_sem,Z1,Z2,Z3,Z4,Pn,GN,za,hv',zb]
 refine sJ ?_;try simp -implicitDefEqProofs only[go_sem,Z1,Z2,Z3,Z4,Pn,GN,zb]
 refine sJ ?_;refine oW ?_;all_goals(first|done|(simp;done)|(simp;omega)|skip)
theorem PX(ai:List ax)(l:bL)(h4:ai.length≤4)(hF:Fit ai l)(k2:l.aN.kind=2):CN 221 [lv (aU ai),av (r9 l)] (av (gY (if l.no then tV (nX ai l.aN.ai l.aN.a8 l.aN.bj l.aN.bJ) else nX ai l.aN.ai l.aN.a8 l.aN.bj l.aN.bJ))):=by
 have hw:=oX hF.wf k2;have kI:=hF.sum k2;rw[YV hw.2.2.2.2.2 hw.2.2.2.1 kI];obtain⟨ts,hts⟩:∃ts,ts=l.aN.ai:=⟨_,rfl⟩;obtain⟨ns,hns⟩:∃ns,ns=l.aN.a8:=⟨_,rfl⟩;refine gT 45 [.cell 4 256] hm Tryz.func221 fun hl he cf=>?_;refine sQ ?_;refine cS hm (fun(i:Nat)=> i≤l.aN.ai.length) (fun(i:Nat)=> ⟨dN 45 .any [(0,lv (aU ai)),(3,.bA 0 0),(4,.bA 1 0),(5,.bA 2 0),(6,iv i)],[some (.box (dm (r9 l))),some (.box (dm (gY qo))),some (.box [.aX 3,.d (.val (.int .i64 l.aN.bj)),.d (.val (.bool l.aN.bJ))]),some (.aX 3 (bm (qx ai (l.aN.ai.take i) (l.aN.a8.take i) [0,0,0,0])))]⟩) (fun(i:Nat)=> l.aN.ai.length-i) (0) ?_ (aZ [some 0,some 1,some 3,some 2] ?_ ?_ rfl rfl) ?_;rotate_left
 ·refine sB ?_;all_goals(first|done|(simp[bm,aE,qx])|(simp[a7, *];done)|(simp[a7];done)|(simp;omega)|skip)
 ·refine sB ?_;all_goals(first|done|(simp[bm,aE,qx])|(simp[a7, *];done)|(simp[a7];done)|(simp;omega)|skip)
 rotate_left;omega;rintro i hi;have eO:=hw.2.2.2.1;rcases aa (i<l.aN.ai.length) with h1|h1
 ·have h2:i<l.aN.a8.length:=oM;have hin':=kI l.aN.ai[i] (aj h1);have x1:=dE.2 hin';have x2:=qf hin';have hL:(qx ai (l.aN.ai.take i) (l.aN.a8.take i) [0,0,0,0]).length=4:=N3;have x3:(b8 ai l.aN.ai[i]).toNat<(qx ai (l.aN.ai.take i) (l.aN.a8.take i) [0,0,0,0]).length:=oM;try simp -implicitDefEqProofs only[go_sem,Z1,Z2,Z3,Z4,h1,h2]
  refine sI ?_;refine dy [] (dG ai l.aN.ai[i]) ?_ ?_<;>simp -implicitDefEqProofs only[go_sem,Z1,Z2,Z3,Z4,x3,h2,Pn,GN];refine sJ ?_;refine⟨i+1,?_,sL,aZ wM ?_ ?_ rfl rfl⟩;rotate_left
  ·refine sB ?_;all_goals(first|done|((rw[Di h1 h2]))|(simp[a7, *];done)|(simp[a7];done)|(simp;omega)|skip)
  ·refine sB ?_;all_goals(first|done|((rw[Di h1 h2]))|(simp[a7, *];done)|(simp[a7];done)|(simp;omega)|skip)
  exact h1
 have e1:l.aN.ai.take i=l.aN.ai:=aq oM;have e2:l.aN.a8.take i=l.aN.a8:=aq oM;cases h6:l.no
 ·(try simp -implicitDefEqProofs only[go_sem,Z1,Z2,Z3,Z4,h1,e1,e2,h6]);refine sI ?_;refine oW ?_;all_goals(first|done|(simp;done)|(simp;omega)|skip)
 try simp -implicitDefEqProofs only[go_sem,Z1,Z2,Z3,Z4,h1,e1,e2,h6]
 refine sI ?_;have hc:=NC ⟨qx ai l.aN.ai l.aN.a8 [0,0,0,0],l.aN.bj,l.aN.bJ⟩;refine oD [] [3] (xn (e:=3) (args:=[.agg [.aX 0,.d (.val (.int .i64 l.aN.bj)),.d (.val (.bool l.aN.bJ))]]) sV (ag6 _) hc) ?_;refine sI ?_;refine oW ?_;all_goals(first|done|(simp;done)|(simp;omega)|skip)
theorem Ng(ai:List ax)(ab:List bL)(h4:ai.length≤4)(hl1:ab.length≤100)(hf:∀l∈ab,Fit ai l):CN 137 [lv (aU ai),lv (bh ab)] (lv (eE (fN ai ab))):=by
 refine gT 63 [.tmp 4] hm Tryz.func137 fun hl he cf=>?_;refine cS hm (fun(i:Nat)=> i≤ab.length) (fun(i:Nat)=> ⟨dN 63 .any [(0,lv (aU ai)),(1,lv (bh ab)),(5,.aX 0),(6,iv i)],[some (.aX 256 (eE (fN ai (ab.take i))))]⟩) (fun(i:Nat)=> ab.length-i) (0) ?_ (aZ fe ?_ ?_ rfl rfl) ?_;rotate_left
 ·refine sB ?_;all_goals(first|done|(rfl)|(simp[a7, *];done)|(simp[a7];done)|(simp;omega)|skip)
 ·refine sB ?_;all_goals(first|done|(rfl)|(simp[a7, *];done)|(simp[a7];done)|(simp;omega)|skip)
 rotate_left;omega;rintro i hi;rcases aa (i<ab.length) with h1|h1
 ·have h2:=Dx ai (ab.take i);have h3:(ab.take i).length≤100:=(by simp;omega);have hs:=HM (ai:=ai) h1;have hF:=hf ab[i] (aj h1);rcases aa (ab[i].aN.kind=2) with k2|k2
  ·have k:=eq_true k2;rw[kK,if_pos k2] at hs;try simp -implicitDefEqProofs only[go_sem,Z1,Z2,Z3,Z4,h1,k]
   refine sI ?_;refine aD [] (PX ai ab[i] h4 hF k2) ?_;refine sJ ?_;refine⟨i+1,?_,sL,aZ [some 2] ?_ ?_ rfl rfl⟩;rotate_left
   ·refine sB ?_;all_goals(first|done|((rw[hs,←oN,kg,nr];rfl))|(simp[a7, *];done)|(simp[a7];done)|(simp;omega)|skip)
   ·refine sB ?_;all_goals(first|done|((rw[hs,←oN,kg,nr];rfl))|(simp[a7, *];done)|(simp[a7];done)|(simp;omega)|skip)
   exact h1
  have k1:ab[i].aN.kind=1:=(ml hF.wf).resolve_right k2;cases h6:ab[i].no
  ·(try simp -implicitDefEqProofs only[go_sem,Z1,Z2,Z3,Z4,h1,k2,h6]);refine sI ?_;refine aD [] (dG ai ab[i].aN.A) ?_;refine sI ?_;rcases aa (0≤b8 ai ab[i].aN.A) with h7|h7
   ·rw[kK,if_neg k2,if_pos ⟨h6,h7⟩] at hs;have hA:=dE.1 h7;have hB:=(hF.eq k1).1 hA;rw[UJ] at hs;try simp -implicitDefEqProofs only[go_sem,Z1,Z2,Z3,Z4,h7]
    refine sI ?_;refine aD [] (Cn ai ab[i].aN.A ab[i].aN.B h4 hA hB) ?_;refine sI ?_;refine aD [] (Cn ai ab[i].aN.B ab[i].aN.A h4 hB hA) ?_;refine sJ ?_;refine⟨i+1,?_,sL,aZ [some 2] ?_ ?_ rfl rfl⟩;rotate_left
    ·refine sB ?_;all_goals(first|done|((rw[hs,←oN,kg,kg,nr];rfl))|(simp[a7, *];done)|(simp[a7];done)|(simp;omega)|skip)
    ·refine sB ?_;all_goals(first|done|((rw[hs,←oN,kg,kg,nr];rfl))|(simp[a7, *];done)|(simp[a7];done)|(simp;omega)|skip)
    exact h1
   rw[kK,if_neg k2,if_neg (by simp[h6,h7]),bE] at hs;try simp -implicitDefEqProofs only[go_sem,Z1,Z2,Z3,Z4,h7]
   refine sJ ?_;refine⟨i+1,?_,sL,aZ fe ?_ ?_ rfl rfl⟩;rotate_left
   ·refine sB ?_;all_goals(first|done|((rw[hs]))|(simp[a7, *];done)|(simp[a7];done)|(simp;omega)|skip)
   ·refine sB ?_;all_goals(first|done|((rw[hs]))|(simp[a7, *];done)|(simp[a7];done)|(simp;omega)|skip)
   exact h1
  rw[kK,if_neg k2,if_neg (by simp[h6]),bE] at hs;try simp -implicitDefEqProofs only[go_sem,Z1,Z2,Z3,Z4,h1,k2,h6]
  refine sJ ?_;refine⟨i+1,?_,sL,aZ fe ?_ ?_ rfl rfl⟩;rotate_left
  ·refine sB ?_;all_goals(first|done|((rw[hs]))|(simp[a7, *];done)|(simp[a7];done)|(simp;omega)|skip)
  ·refine sB ?_;all_goals(first|done|((rw[hs]))|(simp[a7, *];done)|(simp[a7];done)|(simp;omega)|skip)
  exact h1
 try simp -implicitDefEqProofs only[go_sem,Z1,Z2,Z3,Z4,h1]
 refine sI ?_;refine oW ?_;rw[aq oM]
theorem EG(a b:ax):CN 141 [av (cT a),av (cT b)] (av (r9 (jf a b))):=by refine gT 9 [.cell 4 61] hm Tryz.func141 fun hl he cf=>?_;refine oW ?_;all_goals(first|done|(simp[jf,Bp];done)|(simp[jf,Bp];omega)|skip)
theorem Cq(ab:List bL)(l:bL)(hl1:ab.length≤100):CN 140 [lv (bh ab),av (r9 l)] (lv (bh (ab++[l]))):=by refine gT 11 [.tmp 4] hm Tryz.func140 fun hl he cf=>?_;refine sQ ?_;refine oW ?_;rw[←lu,pg,wT];rfl
def CJ{α:Type}(i:Nat)(xs:List α):List α:=match i with
 | 0=>[]
 | _+1=>xs
def R0(i:Nat)(b:Bool):Bool:=match i with
 | 0=>false
 | _+1=>b
theorem Wu{α:Type}(xs:List α):CJ 0 xs=[]:=rfl
theorem Xj{α:Type}(xs:List α):CJ 1 xs=xs:=rfl
theorem acY(b:Bool):R0 0 b=false:=rfl
theorem ad4(b:Bool):R0 1 b=b:=rfl
theorem MB(t:ax)(n:Int):CN 265 [av (fC ⟨2,aQ,aQ,[],[],0,true⟩),av (cT t),iv n] (av (fC ⟨2,aQ,aQ,[t],[n],0,true⟩)):=by
 refine gS 90 [.cell 6 59] hm Tryz.func265 fun hl he cf=>?_;refine cS hm (fun(i:Nat)=> i=0) (fun(i:Nat)=> ⟨dN 90 .any [(2,iv n),(3,.bA 0 0),(4,.bA 1 0),(6,.bA 2 0),(7,.bA 3 0),(8,bv false),(9,iv i)],[some (.box (dm (fC ⟨2,aQ,aQ,[],[],0,true⟩))),some (.box (dm (cT t))),some (.box (dm (fC rF))),some (.box [.d (.val (.int .i64 2)),.d (.str []),.d (.eC []),.d (.str []),.d (.eC []),.aX 4,.aX 5,.d (.val (.int .i64 0)),.d (.val (.bool true))]),some (.aX 32 (aU [])),some (.aX 3 (bm []))]⟩) (fun(i:Nat)=> 0-i) (0) ?_ (aZ [some 0,some 1,some 2,some 3,none,none] ?_ ?_ rfl rfl) ?_;rotate_left;exact sC
 ·refine sA ?_;all_goals(simp[rF])
 rotate_left;rfl;rintro i rfl;simp -implicitDefEqProofs only[go_sem,lA];refine sQ ?_;refine gZ ?_;simp[eZ,kQ,cT]
theorem Nk(a b:ax)(k n:Int)(ta:bG a=true)(tb:bG b=true)(nS:iQ (aR b) (aR a)=true) :
 CN 265 [av (fC ⟨2,aQ,aQ,[a],[k],0,true⟩),av (cT b),iv n] (av (fC ⟨2,aQ,aQ,[b,a],[n,k],0,true⟩)):=by
 have hl1:Op.bytesLess (aR b) (aR a)=true:=nS
 have lj:¬aR a=aR b:=fun h=>Q5 hl1 h.symm
 have hl2:Op.bytesLess (aR a) (aR b)=false:=by cases h:Op.bytesLess (aR a) (aR b);rfl;have:=yk h hl1;rw[wW] at this;cases this
 refine gS 90 [.cell 6 59] hm Tryz.func265 fun hl he cf=>?_
 refine cS hm (fun(i:Nat)=> i=0∨i=1) (fun(i:Nat)=> ⟨dN 90 .any [(2,iv n),(3,.bA 0 0),(4,.bA 1 0),(6,.bA 2 0),(7,.bA 3 0),(8,bv (R0 i true)),(9,iv i)],[some (.box (dm (fC ⟨2,aQ,aQ,[a],[k],0,true⟩))),some (.box (dm (cT b))),some (.box (dm (fC rF))),some (.box [.d (.val (.int .i64 2)),.d (.str []),.d (.eC []),.d (.str []),.d (.eC []),.aX 4,.aX 5,.d (.val (.int .i64 0)),.d (.val (.bool true))]),some (.aX 32 (aU (CJ i [b,a]))),some (.aX 3 (bm (CJ i [n,k])))]⟩) (fun(i:Nat)=> 1-i) (0) ?_ (aZ [some 0,some 1,some 2,some 3,none,none] ?_ ?_ rfl rfl) ?_
 rotate_left
 ·refine sA ?_
  all_goals(simp[R0])
 ·refine sA ?_
  all_goals(simp[rF,CJ])
 rotate_left
 ·left;rfl
 ·rintro i (rfl|rfl)
  ·simp -implicitDefEqProofs only[go_sem,Z2,Wu,acY,eZ,kQ,A9]
   refine aC [] (kv a ta) ?_
   refine dy [] (kv b tb) ?_ ?_<;>simp -implicitDefEqProofs only[go_sem,hl2]
   refine sQ ?_
   refine dy [] (kv b tb) ?_ ?_<;>simp -implicitDefEqProofs only[go_sem,lj,A9]
   refine sQ ?_
   refine⟨1,?_,sL,aZ [some 0,some 1,some 2,some 3,some 8,some 9] ?_ ?_ rfl rfl⟩
   rotate_left
   ·refine sA ?_
    all_goals(simp[R0])
   ·refine sA ?_
    all_goals(simp[CJ,eZ,kQ,cT])
   right;rfl
  ·simp -implicitDefEqProofs only[go_sem,Xj,ad4,lA]
   refine fD ?_
   exact sC
theorem M8(a b:ax)(k n:Int)(ta:bG a=true)(tb:bG b=true)(hgt:iQ (aR b) (aR a)=false)(lj:¬aR a=aR b) :
 CN 265 [av (fC ⟨2,aQ,aQ,[a],[k],0,true⟩),av (cT b),iv n] (av (fC ⟨2,aQ,aQ,[a,b],[k,n],0,true⟩)):=by
 have hl2:Op.bytesLess (aR a) (aR b)=true:=DP (a:=aR b) (b:=aR a) (fun e=>lj e.symm) hgt
 refine gS 90 [.cell 6 59] hm Tryz.func265 fun hl he cf=>?_
 refine cS hm (fun(i:Nat)=> i=0∨i=1) (fun(i:Nat)=> ⟨dN 90 .any [(2,iv n),(3,.bA 0 0),(4,.bA 1 0),(6,.bA 2 0),(7,.bA 3 0),(8,bv false),(9,iv i)],[some (.box (dm (fC ⟨2,aQ,aQ,[a],[k],0,true⟩))),some (.box (dm (cT b))),some (.box (dm (fC rF))),some (.box [.d (.val (.int .i64 2)),.d (.str []),.d (.eC []),.d (.str []),.d (.eC []),.aX 4,.aX 5,.d (.val (.int .i64 0)),.d (.val (.bool true))]),some (.aX 32 (aU (CJ i [a]))),some (.aX 3 (bm (CJ i [k])))]⟩) (fun(i:Nat)=> 1-i) (0) ?_ (aZ [some 0,some 1,some 2,some 3,none,none] ?_ ?_ rfl rfl) ?_
 rotate_left
 ·exact sC
 ·refine sA ?_
  all_goals(simp[rF,CJ])
 rotate_left
 ·left;rfl
 ·rintro i (rfl|rfl)
  ·simp -implicitDefEqProofs only[go_sem,Z2,Wu,eZ,kQ,A9]
   refine aC [] (kv a ta) ?_
   refine dy [] (kv b tb) ?_ ?_<;>simp -implicitDefEqProofs only[go_sem,hl2]
   refine dy [] (kv b tb) ?_ ?_<;>simp -implicitDefEqProofs only[go_sem,lj,A9]
   refine sQ ?_
   refine⟨1,?_,sL,aZ [some 0,some 1,some 2,some 3,some 6,some 7] ?_ ?_ rfl rfl⟩
   rotate_left
   ·refine sA ?_
    all_goals(simp[])
   ·refine sA ?_
    all_goals(simp[CJ,eZ,kQ,cT])
   right;rfl
  ·simp -implicitDefEqProofs only[go_sem,Xj,lA]
   refine sQ ?_
   refine gZ ?_
   all_goals(simp[eZ,kQ,cT];done)
theorem sH(a b:ax)(ta:bG a=true)(tb:bG b=true)(lj:a≠b):CN 232 [av (cT a),av (cT b)] (av (r9 (fa a b))):=by
 have ht:¬aR a=aR b:=fun h=>lj (EU ta tb h);refine gS 13 [.cell 4 61] hm Tryz.func232 fun hl he cf=>?_;refine aC [] (MB a 1) ?_;cases h:iQ (aR b) (aR a)
 ·refine aC [] (M8 a b 1 (-1) ta tb h ht) ?_;refine gZ ?_;all_goals(simp[fa,h];done)
 refine aC [] (Nk a b 1 (-1) ta tb h) ?_;refine gZ ?_;all_goals(simp[fa,h];done)
end Go.Proofs.YtphcpjhkeipggaaGreat
