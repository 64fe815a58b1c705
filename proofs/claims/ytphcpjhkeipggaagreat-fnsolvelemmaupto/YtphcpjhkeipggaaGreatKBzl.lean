/-
  The reference: a lemma is made small. A step towards the laws.
-/
import Derived.Test.YtphcpjhkeipggaaGreatKBk
import Derived.Test.YtphcpjhkeipggaaGreatKBzd
import Derived.Test.YtphcpjhkeipggaaGreatKBEp
set_option linter.unusedVariables false
set_option linter.unusedSimpArgs false
open Int renaming reduceEq→Z1,reduceLT→Z2,reduceLE→Z3,reduceToNat→Z4
open And renaming intro→an
open Bool renaming false_eq_true→au,true_and→aA
open Classical renaming em→aa
open List renaming take_of_length_le→aq,getD→ct,length_nil→c8,length_drop→eG,drop→fB
open Nat renaming le_refl→aK
namespace Go.Proofs.YtphcpjhkeipggaaGreat
open Go.Eng Go.Mod
set_option maxRecDepth 100000
set_option maxHeartbeats 3200000
theorem Gd(atoms:List cR)(marks:List Int)(eO:atoms.length≤60)(kI:∀m∈marks,m≠0 ∧ -(atoms.length:Int)≤m∧m≤atoms.length)(qF:marks.length≤900000):CP 32 [lv (bx atoms),.aX 0] [some (.aX 3 (bm marks))] (lv (bh (cH marks atoms))):=by
 refine gT 33 [.tmp 4] hm Tryz.func32 fun hl he cf=>?_;refine cS hm (fun(i:Nat)=> i≤marks.length) (fun(i:Nat)=> ⟨dN 33 .any [(0,lv (bx atoms)),(1,.aX 0),(5,.aX 1),(6,iv i)],[some (.aX 3 (bm marks)),some (.aX 61 (bh (cH (marks.take i) atoms)))]⟩) (fun(i:Nat)=> marks.length-i) (0) ?_ (aZ kR ?_ ?_ rfl rfl) ?_;rotate_left
 ·refine sB ?_;all_goals(first|done|(simp[cH,bh])|(simp[a7, *];done)|(simp[a7];done)|(simp;omega)|skip)
 ·refine sB ?_;all_goals(first|done|(simp[cH,bh])|(simp[a7, *];done)|(simp[a7];done)|(simp;omega)|skip)
 rotate_left;omega;rintro i hi;have hv:(cH (marks.take i) atoms).length=i:=by simp only[cH,List.length_map,List.length_take];omega
 rcases aa (i<marks.length) with h1|h1
 ·obtain⟨q1,q2,q3⟩:=kI marks[i] (List.getElem_mem h1);have q4:=Oc (n:=marks[i]) oM;have q5:((marks[i].natAbs:Int)-1)=((marks[i].natAbs-1:Nat):Int):=oM;have q6:marks[i].natAbs-1<atoms.length:=oM;have q7:atoms.getD (marks[i].natAbs-1) rF=atoms[marks[i].natAbs-1]:=(by simp[ct,q6]);have hc:=xh marks[i];rw[q4] at hc;try simp -implicitDefEqProofs only[go_sem,Z1,Z2,Z3,Z4,h1]
  refine sI ?_;refine aD [] hc ?_;refine sI ?_;try simp -implicitDefEqProofs only[go_sem,Z1,Z2,Z3,Z4,q5,q6,h1]
  refine sJ ?_;refine⟨i+1,?_,sL,aZ [some 0,some 2] ?_ ?_ rfl rfl⟩;rotate_left
  ·refine sB ?_;all_goals(first|done|((rw[pU h1,q7,←lu];rfl))|(simp[a7, *];done)|(simp[a7];done)|(simp;omega)|skip)
  ·refine sB ?_;all_goals(first|done|((rw[pU h1,q7,←lu];rfl))|(simp[a7, *];done)|(simp[a7];done)|(simp;omega)|skip)
  exact h1
 have et:marks.take i=marks:=aq oM;try simp -implicitDefEqProofs only[go_sem,Z1,Z2,Z3,Z4,h1,et]
 refine sI ?_;refine bX fe ?_ rfl rfl;refine sB ?_;((repeat' apply an)<;>rfl)
theorem YU{s:eM}{atoms:List cR}{n i:Nat}{l:Mod.nY}(h:i<l.marks.length):Eo s atoms (n+1) i l=if l.marks.take i++l.marks.drop (i+1)=[] then l else
 if(eh s (cH (l.marks.take i++l.marks.drop (i+1)) atoms)).code=1 then Eo s atoms n i ⟨l.marks.take i++l.marks.drop (i+1),(eh s (cH (l.marks.take i++l.marks.drop (i+1)) atoms)).case⟩ else Eo s atoms n (i+1) l:=by rw[Eo,if_neg oM]
theorem I8(s:eM)(atoms:List cR)(l0:Mod.nY)(h6:atoms.length≤6)(qF:l0.marks.length≤1000)(kI:∀m∈l0.marks,m≠0 ∧ -(atoms.length:Int)≤m∧m≤atoms.length) :
 CN 33 [av (eP s),lv (bx atoms),av (qX l0)] (av (qX (Eo s atoms l0.marks.length 0 l0))):=by
 refine gT 52 [.cell 6 40] hm Tryz.func33 fun hl he cf=>?_
 refine n6 hm (fun(n:Nat) (i:Nat) (l:Mod.nY)=> i+n=l.marks.length∧l.marks.length≤l0.marks.length∧(∀m∈l.marks,m∈l0.marks)∧Eo s atoms l0.marks.length 0 l0=Eo s atoms n i l) (fun(n:Nat) (i:Nat) (l:Mod.nY)=> ⟨dN 52 .any [(1,lv (bx atoms)),(3,.bA 0 0),(5,.bA 1 0),(6,.bA 2 0),(7,iv i)],[some (.box (dm (eP s))),some (.box (dm (qX l))),some (.box (dm (qX ⟨[],th⟩)))]⟩) (fun(n:Nat) (i:Nat) (l:Mod.nY)=> n) (l0.marks.length) (0) (l0) ?_ (aZ rC ?_ ?_ rfl rfl) ?_
 rotate_left
 ·refine sB ?_
  all_goals(first|done|(((repeat' apply an)<;>rfl))|(simp[a7, *];done)|(simp[a7];done)|(simp;omega)|skip)
 ·refine sB ?_
  all_goals(first|done|(((repeat' apply an)<;>rfl))|(simp[a7, *];done)|(simp[a7];done)|(simp;omega)|skip)
 rotate_left
 ·exact⟨oM,aK _,fun _ h=>h,rfl⟩
 ·rintro n i l ⟨hn,hl1,hm,hg⟩
  rcases aa (i<l.marks.length) with h1|h1
  ·obtain⟨n,rfl⟩:∃k,n=k+1:=⟨n-1,oM⟩
   rw[YU h1] at hg
   obtain⟨less,hls⟩:∃x,l.marks.take i++l.marks.drop (i+1)=x:=⟨_,rfl⟩
   have hll:less.length+1=l.marks.length:=by rw[←hls];simp;omega
   have hlm:∀m∈less,m∈l.marks:=fun m h=>by rw[←hls] at h;rcases List.mem_append.1 h with h|h;exact List.mem_of_mem_take h;exact List.mem_of_mem_drop h
   have hrows:bm (l.marks.take i)++bm (l.marks.drop (i+1))=bm less:=by rw[←hls,iO]
   have cl:=Gd atoms less oM (fun m h=>kI m (hm m (hlm m h))) oM
   have cr:=Ai s (cH less atoms)
   rw[hls] at hg
   generalize eh s (cH less atoms)=r at hg cr
   have t1:((i:Int)+1).toNat=i+1:=oM
   have t2:List.take (l.marks.length-(i+1)) (fB (i+1) (bm l.marks))=bm (l.marks.drop (i+1)):=by rw[Mb,aq (by rw[oe,eG];exact aK _)]
   have t3:min (l.marks.length-(i+1)) (fB (i+1) (bm l.marks)).length=l.marks.length-(i+1):=by rw[Mb,oe,eG];exact Nat.min_self _
   have t4:min i (bm l.marks).length=i:=by rw[oe];omega
   try simp -implicitDefEqProofs only[go_sem,Z1,Z2,Z3,Z4,h1,Nat.sub_zero,List.drop_zero,vr,t1,t2,t3,t4]
   refine sI ?_
   refine an ⟨oM,jN _⟩ (an ⟨jN _,oM⟩ (an oM (an ⟨oM,oM,jN _⟩ (an ⟨jN _,by rw[eG];omega⟩ ?_))))
   refine sQ ?_
   try simp -implicitDefEqProofs only[go_sem,Z1,Z2,Z3,Z4,hrows]
   refine sI ?_
   rcases aa (less=[]) with h2|h2
   ·rw[if_pos h2] at hg
    have h2':((less.length:Nat):Int)=0:=by rw[h2];rfl
    have k2:=eq_true h2'
    rw[hg]
    try simp -implicitDefEqProofs only[go_sem,Z1,Z2,Z3,Z4,k2]
    refine sI ?_
    refine fD ?_
    simp -implicitDefEqProofs only[go_sem,Z1,Z2,Z3,Z4]
    all_goals((repeat' apply an)<;>rfl)
   ·rw[if_neg h2] at hg
    have h2':¬ (less.length:Int)=0:=by have:=List.length_pos_iff.2 h2;omega
    try simp -implicitDefEqProofs only[go_sem,Z1,Z2,Z3,Z4,h2']
    refine sI ?_
    refine oD [] [5] cl ?_
    refine sI ?_
    refine aD [] cr ?_
    refine sI ?_
    rcases aa (r.code=1) with h3|h3
    ·have k3:=eq_true h3
     have e3:(i:Int)-1+1=i:=oM
     rw[if_pos h3] at hg
     try simp -implicitDefEqProofs only[go_sem,Z1,Z2,Z3,Z4,k3]
     refine sJ ?_
     try simp -implicitDefEqProofs only[go_sem,Z1,Z2,Z3,Z4,e3]
     refine sI ?_
     refine⟨n,i,⟨less,r.case⟩,?_,sL,aZ rC ?_ ?_ rfl rfl⟩
     rotate_left
     ·refine sB ?_
      all_goals(first|done|(((repeat' apply an)<;>rfl))|(simp[a7, *];done)|(simp[a7];done)|(simp;omega)|skip)
     ·refine sB ?_
      all_goals(first|done|(((repeat' apply an)<;>rfl))|(simp[a7, *];done)|(simp[a7];done)|(simp;omega)|skip)
     exact⟨by simp only;omega,by simp only;omega,fun m h=>hm m (hlm m h),hg⟩
    ·rw[if_neg h3] at hg
     try simp -implicitDefEqProofs only[go_sem,Z1,Z2,Z3,Z4,h3]
     refine sJ ?_
     refine⟨n,i+1,l,?_,sL,aZ rC ?_ ?_ rfl rfl⟩
     rotate_left
     ·refine sB ?_
      all_goals(try exact sM)
     ·refine sB ?_
      all_goals(try exact sM)
     exact⟨oM,hl1,hm,hg⟩
  ·have e:Eo s atoms n i l=l:=by
    cases n with
    | zero=>rfl
    | succ n=>rw[Eo,if_pos oM]
   rw[hg,e]
   try simp -implicitDefEqProofs only[go_sem,Z1,Z2,Z3,Z4,h1]
   refine sI ?_
   refine fD ?_
   exact sD
theorem EJ(s:eM)(aS:List Mod.bU)(marks:List Int)(hN:eY aS≤900000):CN 8 [av (eP s),lv (cG aS),lv (bm marks)] (.iZ [av (qX (oK s aS marks).1),bv (oK s aS marks).2]):=by
 have c1:=xN aS hN;have c2:=KI s aS;unfold oK;cases fy:hH s aS
 ·rw[fy] at c2;simp only[Bool.false_and,au,if_false];refine gT 46 [.cell 6 40,.tmp 7] hm Tryz.func8 fun hl he cf=>?_;refine aD [] c1 ?_;refine sI ?_;refine aD [] c2 ?_;refine sI ?_;try simp -implicitDefEqProofs only[go_sem,Z1,Z2,Z3,Z4]
  refine sI ?_;refine oW ?_;all_goals((repeat' apply an)<;>rfl)
 rw[fy] at c2;obtain⟨f1,f2,f3,f4⟩:=Qy fy;rw[f4];simp only[Option.getD_some];generalize ba [] aS=atoms at f3 c1⊢;have c3:=Im marks atoms.length oM;cases hs:gf marks atoms.length
 ·rw[hs] at c3;simp only[aA,au,if_false];refine gT 46 [.cell 6 40,.tmp 7] hm Tryz.func8 fun hl he cf=>?_;refine aD [] c1 ?_;refine sI ?_;refine aD [] c2 ?_;refine sI ?_;refine aD [] c3 ?_;refine sI ?_;try simp -implicitDefEqProofs only[go_sem,Z1,Z2,Z3,Z4]
  refine sI ?_;refine oW ?_;all_goals((repeat' apply an)<;>rfl)
 rw[hs] at c3;have kI:=n5 hs;have h12:=Tl hs f3;have hnd:=(yN (dL:=(atoms.length:Int)) (before:=[]) hs).1;have c4:=JW atoms marks oM kI oM;have c5:=Ai s (cH marks atoms);obtain⟨R,hR⟩:∃r,eh s (cH marks atoms)=r:=⟨_,rfl⟩;rw[hR] at c5⊢;simp only[aA,if_true];refine gT 46 [.cell 6 40,.tmp 7] hm Tryz.func8 fun hl he cf=>?_;refine aD [] c1 ?_;refine sI ?_;refine aD [] c2 ?_;refine sI ?_;refine aD [] c3 ?_;refine sI ?_;try simp -implicitDefEqProofs only[go_sem,Z1,Z2,Z3,Z4]
 refine sI ?_;refine aD [] c4 ?_;refine sI ?_;refine aD [] c5 ?_;refine sI ?_;try simp -implicitDefEqProofs only[go_sem,Z1,Z2,Z3,Z4]
 refine sI ?_;rcases aa (R.code=1) with h1|h1
 ·have k1:=eq_true h1;simp only[if_pos h1];have c6:=I8 s atoms ⟨marks,R.case⟩ f3 (by simp only;omega) kI;have em:=Rm (s:=s) (atoms:=atoms) marks [] R.case marks.length (by simpa[List.Nodup] using hnd) (aK _);simp only[List.nil_append,c8] at em;simp only at c6;rw[em] at c6;try simp -implicitDefEqProofs only[go_sem,Z1,Z2,Z3,Z4,k1]
  refine sJ ?_;refine oD [] [5] (xn (e:=3) (args:=[av (eP s),lv (bx atoms),.agg (.aX 0::dm (iL R.case))]) sV rfl c6) ?_;refine sJ ?_;refine fD ?_;simp -implicitDefEqProofs only[go_sem,Z1,Z2,Z3,Z4];all_goals((repeat' apply an)<;>rfl)
 simp only[if_neg h1];try simp -implicitDefEqProofs only[go_sem,Z1,Z2,Z3,Z4,h1]
 refine sI ?_;refine oW ?_;all_goals((repeat' apply an)<;>rfl)
theorem Er(aF:List Bool)(n:Nat)(hn:n≤aF.length)(h9:n≤1000):C E.P 18 [lv (ue aF),iv n] [] (jF (.aX 0) [some (.aX 3 (bm (mw aF n)))]):=by
 refine gT 28 [.tmp 4] hm Tryz.func18 fun hl he cf=>?_;refine cS hm (fun(i:Nat)=> i≤n) (fun(i:Nat)=> ⟨dN 28 .any [(0,lv (ue aF)),(1,iv n),(5,.aX 0),(6,iv i)],[some (.aX 3 (bm (mw aF i)))]⟩) (fun(i:Nat)=> n-i) (0) ?_ (aZ fe ?_ ?_ rfl rfl) ?_;rotate_left
 ·refine sB ?_;all_goals(first|done|(simp[mw,bm])|(simp[a7, *];done)|(simp[a7];done)|(simp;omega)|skip)
 ·refine sB ?_;all_goals(first|done|(simp[mw,bm])|(simp[a7, *];done)|(simp[a7];done)|(simp;omega)|skip)
 rotate_left;omega;rintro i hi;have hml:=Dw aF i;rcases aa (i<n) with h1|h1
 ·have hiv:i<aF.length:=oM;have hgd:aF.getD i false=aF[i]:=(by simp[ct,hiv]);have hsn:=TG (aF:=aF) (n:=i);rw[hgd] at hsn;try simp -implicitDefEqProofs only[go_sem,Z1,Z2,Z3,Z4,h1,hiv]
  refine sJ ?_;cases hv:aF[i]
  ·rw[hv] at hsn;simp only[au,if_false] at hsn;have hs2:bm (mw aF (i+1))=bm (mw aF i)++[[D.val (.int .i64 (-1-(i:Int)))]]:=(by rw[hsn,←iO];rfl);try simp -implicitDefEqProofs only[go_sem,Z1,Z2,Z3,Z4]
   refine sJ ?_;refine⟨i+1,?_,sL,aZ [some 1] ?_ ?_ rfl rfl⟩;rotate_left
   ·refine sB ?_;all_goals(first|done|(exact hs2.symm)|(simp[a7, *];done)|(simp[a7];done)|(simp;omega)|skip)
   ·refine sB ?_;all_goals(first|done|(exact hs2.symm)|(simp[a7, *];done)|(simp[a7];done)|(simp;omega)|skip)
   omega
  rw[hv] at hsn;simp only[if_true] at hsn;have hs2:bm (mw aF (i+1))=bm (mw aF i)++[[D.val (.int .i64 ((i:Int)+1))]]:=(by rw[hsn,←iO];rfl);try simp -implicitDefEqProofs only[go_sem,Z1,Z2,Z3,Z4]
  refine sJ ?_;refine⟨i+1,?_,sL,aZ [some 1] ?_ ?_ rfl rfl⟩;rotate_left
  ·refine sB ?_;all_goals(first|done|(exact hs2.symm)|(simp[a7, *];done)|(simp[a7];done)|(simp;omega)|skip)
  ·refine sB ?_;all_goals(first|done|(exact hs2.symm)|(simp[a7, *];done)|(simp[a7];done)|(simp;omega)|skip)
  omega
 obtain rfl:i=n:=oM;try simp -implicitDefEqProofs only[go_sem,Z1,Z2,Z3,Z4,h1]
 refine sI ?_;refine bX fe ?_ rfl rfl;simp -implicitDefEqProofs only[go_sem,Z1,Z2,Z3,Z4];all_goals rfl
theorem OP(f:Mod.bU):ir (tP f)=[.val (.int .i64 2),.val (.int .i64 0),.str [],.eC [],.str [],.eC [],.eC [],.eC [],.val (.int .i64 0),.val (.bool false),.val (.bool false),.eC [ir f]]:=by show([.val (.int .i64 2),.val (.int .i64 0),.str [],.eC [],.str [],.eC [],.eC [],.eC [],.val (.int .i64 0),.val (.bool false),.val (.bool false),.eC (cG [f])]:List D)=_;rw[sF,uj]
theorem Ms(b:List Int)(hb:uq b)(p:Int)(h1:0≤p)(h2:p≤400000000):C E.P 17 [.bA 0 0] [some (rz b p)] (jF (.iZ [av (eP (xR b p).1),lv (cG (xR b p).2.1)]) [some (rz b (xR b p).2.2)]):=by
 have hL:=WS hb h1;have cL:=Gv b hb p h1 h2;obtain⟨Z,hZ⟩:∃z,zO b 2 (pz b p).2.1 (pz b p).2.2=z:=⟨_,rfl⟩;have e:xR b p=((pz b p).1,Z):=by rw[xR,hZ]
 rw[e];generalize pz b p=r at hL cL hZ⊢;obtain⟨s,l0,q0⟩:=r;simp only at hL cL hZ⊢;refine gT 49 [.cell 2 25,.tmp 3] hm Tryz.func17 fun hl he cf=>?_;refine oD [] [0,2] cL ?_;refine sI ?_;refine n6 hm (fun(i:Nat) (l:List Mod.bU) (q:Int)=> i≤2∧l.length≤10+i∧(0≤q∧q≤q0+2*i)∧zO b (2-i) l q=Z) (fun(i:Nat) (l:List Mod.bU) (q:Int)=> ⟨dN 49 .any [(0,.bA 0 0),(2,.bA 1 0),(4,.bA 3 0),(5,.aX 2),(6,iv i)],[some (rz b q),some (.box [.bW]),some (.aX 63 (cG l)),some (.box (dm (eP s)))]⟩) (fun(i:Nat) (l:List Mod.bU) (q:Int)=> 2-i) (0) (l0) (q0) ?_ (aZ wM ?_ ?_ rfl rfl) ?_;rotate_left
 ·refine sB ?_;all_goals(try exact sM)
 ·refine sB ?_;all_goals(try exact sM)
 rotate_left;exact⟨oM,oM,⟨oM,oM⟩,hZ⟩;rintro i l q ⟨g1,g2,⟨g3,g4⟩,hg⟩;rcases aa (i=2) with i2|i2
 ·subst i2;rw[show zO b (2-2) l q=(l,q) from rfl] at hg;have k1:¬ ((2:Nat):Int)<2:=oM;rw[←hg];try simp -implicitDefEqProofs only[go_sem,Z1,Z2,Z3,Z4,k1]
  refine sI ?_;refine bX fe ?_ rfl rfl;refine sB ?_;repeat' apply an
  all_goals rfl
 obtain⟨n,hn⟩:∃n,2-i=n+1:=⟨1-i,oM⟩;have k1:(i:Int)<2:=oM;rw[hn,zO] at hg;rcases aa (l.length=0) with l0e|l0e
 ·rw[if_pos (.inl l0e)] at hg;have k2:¬ (0:Int)<(l.length:Int):=oM;rw[←hg];try simp -implicitDefEqProofs only[go_sem,Z1,Z2,Z3,Z4,k1,k2]
  refine sI ?_;refine bX fe ?_ rfl rfl;refine sB ?_;repeat' apply an
  all_goals rfl
 have k2:(0:Int)<(l.length:Int):=oM;rcases aa (5≤l.length) with l5e|l5e
 ·rw[if_pos (.inr l5e)] at hg;have k3:¬ (l.length:Int)<5:=oM;rw[←hg];try simp -implicitDefEqProofs only[go_sem,Z1,Z2,Z3,Z4,k1,k2,k3]
  refine sI ?_;refine bX fe ?_ rfl rfl;refine sB ?_;repeat' apply an
  all_goals rfl
 have k3:(l.length:Int)<5:=oM;rw[if_neg oM] at hg;try simp -implicitDefEqProofs only[go_sem,Z1,Z2,Z3,Z4,k1,k2,k3]
 refine sI ?_;refine oD [] [0] (jR b q 2 hb oM oM) ?_;refine sI ?_;rcases aa (cF b q 2=0) with h3|h3
 ·have k4:=eq_true h3;rw[if_pos h3] at hg;obtain⟨k,ek,hk⟩:∃k:Nat,cF b (q+1) l.length=k∧k<l.length:=(by obtain⟨p1,p2⟩:=Ro hb (p:=q+1) (n:=(l.length:Int)) oM oM;exact⟨(cF b (q+1) l.length).toNat,oM,oM⟩);rw[ek,Int.toNat_natCast,show l.getD k KB=l[k] by rw[List.getD_eq_getElem?_getD,List.getElem?_eq_getElem hk];rfl] at hg;have c9:=Bg (tP l[k]);rw[OP] at c9;have hq:q+1+1=q+2:=oM;try simp -implicitDefEqProofs only[go_sem,Z1,Z2,Z3,Z4,k4]
  refine sI ?_;refine lx [] [0] (jR b (q+1) l.length hb oM oM) ?_ ?_<;>simp -implicitDefEqProofs only[go_sem,Z1,Z2,Z3,Z4,ek,hk,hq];refine sJ ?_;refine aD [] c9 ?_;refine sI ?_;cases h9:jB (tP l[k])
  ·rw[h9,if_neg (by simp)] at hg;try simp -implicitDefEqProofs only[go_sem,Z1,Z2,Z3,Z4,h9]
   refine sJ ?_;refine⟨i+1,l,q+2,?_,sL,aZ wM ?_ ?_ rfl rfl⟩;rotate_left
   ·refine sB ?_;all_goals(try exact sM)
   ·refine sB ?_;all_goals(try exact sM)
   exact⟨oM,oM,⟨oM,oM⟩,by rw[show 2-(i+1)=n by omega];exact hg⟩
  rw[h9,if_pos rfl] at hg;have hl1:(l++[tP l[k]]).length=l.length+1:=(by simp);have hput:cG l++[[.val (.int .i64 2),.val (.int .i64 0),.str [],.eC [],.str [],.eC [],.eC [],.eC [],.val (.int .i64 0),.val (.bool false),.val (.bool false),.eC [ir l[k]]]]=cG (l++[tP l[k]]):=(by rw[←oa,OP]);try simp -implicitDefEqProofs only[go_sem,Z1,Z2,Z3,Z4,h9]
  refine sJ ?_;refine⟨i+1,l++[tP l[k]],q+2,?_,sL,aZ [some 0,some 1,some 5,some 3] ?_ ?_ rfl rfl⟩;rotate_left
  ·refine sB ?_;all_goals(first|done|(exact hput)|(simp[a7, *];done)|(simp[a7];done)|(simp;omega)|skip)
  ·refine sB ?_;all_goals(first|done|(exact hput)|(simp[a7, *];done)|(simp[a7];done)|(simp;omega)|skip)
  exact⟨oM,oM,⟨oM,oM⟩,by rw[show 2-(i+1)=n by omega];exact hg⟩
 rw[if_neg h3] at hg;rw[←hg];try simp -implicitDefEqProofs only[go_sem,Z1,Z2,Z3,Z4,h3]
 refine sI ?_;refine bX fe ?_ rfl rfl;refine sB ?_;repeat' apply an
 all_goals rfl
theorem z7(b:List Int)(hb:∀x∈b,0≤x∧x≤255)(qF:b.length≤2000000):CN 6 [lv (Zn b)] (.iZ [av (eP (wZ (b.take 2000)).1),lv (cG (wZ (b.take 2000)).2.1),lv (bm (wZ (b.take 2000)).2.2)]):=by
 have hO:=V3 hb;obtain⟨c,hc⟩:∃c,b.take 2000=c:=⟨_,rfl⟩;have c1:=KT b hb qF;rw[hc] at hO c1⊢;have hL:=QO hO (p:=0) oM;have c2:=Ms c hO 0 oM oM;simp only[wZ];generalize xR c 0=r at hL c2⊢;obtain⟨s,l,q⟩:=r;simp only at hL c2⊢;have hw:=lD l [];simp only[c8] at hw;have c3:=xN l oM;obtain⟨n,hn⟩:∃n,(ba [] l).length=n:=⟨_,rfl⟩;rw[hn] at hw⊢;have c4:=Lm c hO (max 8 n) oM q oM oM;have hv1:=adY c (max 8 n) q;have oI:=Yr c (max 8 n) q;generalize zM c (max 8 n) q=v at c4 hv1 oI⊢;have c5:=Er v.1 n oM oM;have hml:=Dw v.1 n;refine gT 38 [.cell 2 25,.tmp 3,.tmp 4] hm Tryz.func6 fun hl he cf=>?_;refine oD [] [1] c1 ?_;refine sI ?_;refine oD [] [1] c2 ?_;refine sI ?_;refine dy [] c3 ?_ ?_<;>simp -implicitDefEqProofs only[go_sem,Z1,Z2,Z3,Z4,hn];refine sI ?_;refine W9 8 (n:Int) ((max 8 n:Nat):Int) (by split<;>omega) (by simp -implicitDefEqProofs only[go_sem,Z1,Z2,Z3,Z4]) (by simp -implicitDefEqProofs only[go_sem,Z1,Z2,Z3,Z4]) ?_;try simp -implicitDefEqProofs only[go_sem,Z1,Z2,Z3,Z4]
 refine sI ?_;refine oD [] [1] c4 ?_;refine sI ?_;try simp -implicitDefEqProofs only[go_sem,Z1,Z2,Z3,Z4]
 refine sI ?_;refine dy [] c3 ?_ ?_<;>simp -implicitDefEqProofs only[go_sem,Z1,Z2,Z3,Z4,hn];refine sI ?_;try simp -implicitDefEqProofs only[go_sem,Z1,Z2,Z3,Z4]
 refine sI ?_;refine oD [] [3] c5 ?_;refine sI ?_;try simp -implicitDefEqProofs only[go_sem,Z1,Z2,Z3,Z4]
 refine sI ?_;refine oD [] [1] (jR c v.2 16 hO oM oM) ?_;refine sI ?_;rcases aa (cF c v.2 16=0) with h1|h1
 ·have k1:=eq_true h1;simp only[if_pos h1];have cn:=qu c (v.2+1) [0,1,9,-9223372036854775808] hO oM oM (by simp) (by simp);try simp -implicitDefEqProofs only[go_sem,Z1,Z2,Z3,Z4,k1]
  refine sI ?_;refine oD [] [1] cn ?_;refine sJ ?_;refine oW ?_;all_goals((repeat' apply an)<;>first|rfl|exact(iO _ [_]).symm)
 simp only[if_neg h1];try simp -implicitDefEqProofs only[go_sem,Z1,Z2,Z3,Z4,h1]
 refine sI ?_;refine fD ?_;simp -implicitDefEqProofs only[go_sem,Z1,Z2,Z3,Z4];all_goals((repeat' apply an)<;>rfl)
end Go.Proofs.YtphcpjhkeipggaaGreat
