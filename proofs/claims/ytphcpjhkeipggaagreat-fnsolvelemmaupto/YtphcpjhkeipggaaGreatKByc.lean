/-
  The reference: the walks of what is drawn: forms, one in sixteen bent; lists of forms; what is so. A step towards the laws.
-/
import Derived.Test.YtphcpjhkeipggaaGreatKByb
import Derived.Test.YtphcpjhkeipggaaGreatKBj
set_option linter.unusedVariables false
set_option linter.unusedSimpArgs false
open Int renaming reduceEq→Z1,reduceLT→Z2,reduceLE→Z3,reduceToNat→Z4
open And renaming intro→an
open Classical renaming em→aa
open Int renaming toNat_natCast→bc
open List renaming getElem?_eq_getElem→af,take_of_length_le→aq,getD_eq_getElem?_getD→aB,replicate→aE,mem_append→aO,mem_singleton→cO,length_nil→c8,length_replicate→gH
open Nat renaming le_refl→aK
open Option renaming getD_some→cg
namespace Go.Proofs.YtphcpjhkeipggaaGreat
open Go.Eng Go.Mod
set_option maxRecDepth 100000
set_option maxHeartbeats 3200000
theorem LL:∀(ts:List Mod.bU),ts.length≤eY ts
 | []=>by simp[eY]
 | t::ts=>by have h1:=LL ts;have h2:1≤nodes t:=(by cases t;simp[nodes]);simp only[eY,List.length_cons];omega
theorem TW(t:Mod.bU):t.ar.length≤nodes t:=by
 cases t with
 | mk k l ks=>have:=LL ks;simp only[bU.ar,nodes];omega
mutual
theorem Iu:∀(t:Mod.bU)(l:List cR),(dX l t).length≤l.length+nodes t
 | .mk k x ks,l=>by have h:=lD ks l;rw[iD];split;simp only[nodes];split<;>simp<;>omega;simp only[nodes,bU.ar];omega
theorem lD:∀(ts:List Mod.bU)(l:List cR),(ba l ts).length≤l.length+eY ts
 | [],l=>by simp[ba]
 | t::ts,l=>by have h1:=Iu t l;have h2:=lD ts (dX l t);simp only[ba,eY];omega
end
theorem Aw:∀(ts:List Mod.bU)(i:Nat),i<ts.length→eY (ts.take i)+nodes (ts.getD i KB)≤eY ts
 | [],i,h=>by simp at h
 | t::ts,0,h=>by simp[eY]
 | t::ts,i+1,h=>by have:=Aw ts i (by simpa using h);simp only[List.take_succ_cons,eY,List.getD_cons_succ];omega
theorem Ey(t:Mod.bU)(ih:∀k∈t.ar,∀(l:List cR),l.length+nodes k≤900000→C E.P 48 [.aX 0,av (ir k)] [some (.aX 59 (bx l))] (jF (.aX 1) [some .dead,some (.aX 59 (bx (dX l k)))]))(l:List cR)(hl1:l.length+nodes t≤900000) :
 C E.P 48 [.aX 0,av (ir t)] [some (.aX 59 (bx l))] (jF (.aX 1) [some .dead,some (.aX 59 (bx (dX l t)))]):=by
 have hn:1+eY t.ar=nodes t:=by cases t;rfl
 refine gT 29 [.tmp 4] hm Tryz.func48 fun hl he cf=>?_
 rcases aa (t.kind=1) with hkind|hkind
 ·have kk:=eq_true hkind
  simp -implicitDefEqProofs only[go_sem,Z1,Z2,Z3,Z4,kk]
  refine oD [] [0,2] (zB l t.lit.aN oM) ?_
  refine gB_ [some 0,some 2] ?_
  rw[iD,if_pos hkind,addAtom]
 ·simp -implicitDefEqProofs only[go_sem,Z1,Z2,Z3,Z4,hkind]
  refine cS hm (fun(i:Nat)=> i≤t.ar.length) (fun(i:Nat)=> ⟨dN 29 .any [(0,.aX 2),(3,.bA 1 0),(5,iv i)],[some .dead,some (.box (dm (ir t))),some (.aX 59 (bx (ba l (t.ar.take i))))]⟩) (fun(i:Nat)=> t.ar.length-i) (0) ?_ (aZ [some 0,some 1,some 0] ?_ ?_ rfl rfl) ?_
  rotate_left
  ·exact sD
  ·refine sB ?_
   all_goals(simp only[ba])
  rotate_left
  ·omega
  ·rintro i hi
   rcases aa (i<t.ar.length) with h1|h1
   ·have hroom:(ba l (t.ar.take i)).length+nodes t.ar[i]≤900000:=by
     have h2:=Aw t.ar i h1
     have h3:=lD (t.ar.take i) l
     rw[aB,af h1,cg] at h2
     omega
    refine yA ?_
    have hc:=ih t.ar[i] (List.getElem_mem h1) (ba l (t.ar.take i)) hroom
    refine oD [] [2,3] hc ?_
    refine sQ ?_
    refine⟨i+1,?_,sL,aZ [some 0,some 1,some 3] ?_ ?_ rfl rfl⟩
    rotate_left
    ·exact sD
    ·refine sB ?_
     all_goals(simp only[iG h1])
    exact h1
   ·have e:t.ar.take i=t.ar:=aq oM
    simp -implicitDefEqProofs only[go_sem,Z1,Z2,Z3,Z4,h1,e]
    refine gB_ [some 0,some 2] ?_
    rw[iD,if_neg hkind]
theorem GI:∀(t:Mod.bU)(l:List cR),l.length+nodes t≤900000→C E.P 48 [.aX 0,av (ir t)] [some (.aX 59 (bx l))] (jF (.aX 1) [some .dead,some (.aX 59 (bx (dX l t)))]):=
 bU.ind fun k x ks ih l h2=>Ey (.mk k x ks) ih l h2
theorem xN(aS:List Mod.bU)(eO:eY aS≤900000):CN 20 [lv (cG aS)] (lv (bx (ba [] aS))):=by
 refine gT 19 [.tmp 2] hm Tryz.func20 fun hl he cf=>?_;refine cS hm (fun(i:Nat)=> i≤aS.length) (fun(i:Nat)=> ⟨dN 19 .any [(0,lv (cG aS)),(3,.aX 0),(4,iv i)],[some (.aX 59 (bx (ba [] (aS.take i))))]⟩) (fun(i:Nat)=> aS.length-i) (0) ?_ (aZ fe ?_ ?_ rfl rfl) ?_;rotate_left;exact sD
 ·refine sB ?_;all_goals(simp[ba,bx])
 rotate_left;omega;rintro i hi;rcases aa (i<aS.length) with h1|h1
 ·have hroom:(ba [] (aS.take i)).length+nodes aS[i]≤900000:=(by have h2:=Aw aS i h1;have h3:=lD (aS.take i) [];rw[aB,af h1,cg] at h2;simp only[c8] at h3;omega);refine yA ?_;refine lx [] [0,1] (GI aS[i] (ba [] (aS.take i)) hroom) ?_ ?_<;>simp -implicitDefEqProofs only[go_sem,Z1,Z2,Z3,Z4,h1];refine sQ ?_;refine⟨i+1,?_,sL,aZ [some 1] ?_ ?_ rfl rfl⟩;rotate_left;exact sD
  ·refine sB ?_;all_goals(simp only[iG h1])
  exact h1
 have e:aS.take i=aS:=aq oM;simp -implicitDefEqProofs only[go_sem,Z1,Z2,Z3,Z4,h1,e];refine fD ?_;exact sD
def JX(s:eM):Prop:=s.cQ.length≤100∧∀x∈s.cQ,x.args.length≤1000
theorem vV{s:eM}(h:gI s):JX s:=⟨by have:=h.1;omega,fun x hx=>by have:=(h.2 x hx).1;omega⟩
theorem Mq(b:List Int):∀(n:Nat)(l:List Sym)(p:Int),(∀x∈l,x.args.length≤1000)→∀x∈(zP b n l p).1,x.args.length≤1000
 | 0,_,_,h=>h
 | n+1,l,p,h=>Mq b n _ _ fun x hx=>by rcases aO.1 hx with hx|hx;exact h x hx;rw[cO.1 hx];simp
theorem Ia{b:List Int}{s:eM}(h:gI s)(p:Int):JX (kW b s p).1:=by
 have h0:=vV h;obtain⟨h1,h2⟩:=h;have hx:∀k,(s.cQ.getD k ⟨[],[],0⟩).args.length≤2:=by
  intro k;rw[aB];cases hk:s.cQ[k]? with
  | none=>simp
  | some x=>exact(h2 x (List.mem_of_getElem? hk)).1
 have hset:∀(k:Nat)(x:Sym),x.args.length≤1000→JX ⟨s.cQ.set k x⟩:=fun k x hx=>⟨by simp;omega,fun y hy=>by
  rcases List.mem_or_eq_of_mem_set hy with hy|rfl
  ·exact h0.2 y hy
  ·exact hx⟩
 unfold kW;simp only;split;exact h0;split;exact h0;generalize hk:(cF b (p+1) s.cQ.length).toNat=k;have hxk:=hx k;split;exact hset _ _ (by simp only;omega);split;exact hset _ _ (by simp only[List.length_append,List.length_singleton];omega);split;exact hset _ _ (by simp only;omega);split;refine⟨by simp;omega,fun y hy=>?_⟩;rcases aO.1 hy with hy|hy;exact h0.2 y hy;rw[cO.1 hy];omega;refine⟨by have:=(PN b (8-s.cQ.length) s.cQ (p+3)).2;simp only;omega,Mq b _ _ _ h0.2⟩
theorem MN(b:List Int)(hb:uq b)(s:eM)(hs:gI s)(p:Int)(h1:0≤p)(h2:p≤800000000) :
 C E.P 171 [.bA 0 0,av (eP s)] [some (rz b p)] (jF (av (fC (EC b s p).1)) [some (rz b (EC b s p).2)]):=by
 have hO:=AE b hb s hs p h1 oM
 obtain⟨z1,z2,z3⟩:=Qu hb hs h1
 obtain⟨y,e0⟩:∃y,EC b s p=y:=⟨_,rfl⟩
 have ee:=e0
 unfold EC at ee
 simp only at ee
 obtain⟨r,hr⟩:∃r,qh b s p=r:=⟨_,rfl⟩
 rw[hr] at ee hO z1 z2 z3
 have hfew:=z3.few
 have qr:r.2+1+1=r.2+2:=oM
 have eO:=z3.len
 rw[e0,←ee]
 refine gT 52 [.cell 4 59] hm Tryz.func171 fun hl he cf=>?_
 refine oD [] [0,3,4] hO ?_
 refine oD [] [0] (jR b r.2 80 hb oM oM) ?_
 rcases aa (cF b r.2 80=0) with c0|c0
 ·have k0:=eq_true c0
  rw[if_pos c0]
  refine GZ k0 ?_
  refine oC [] [0] (qu b (r.2+1) [0,3,1,2] hb oM oM (by simp) (by simp)) ?_
  refine GZ qr ?_
  refine bX fe ?_ rfl rfl
  refine sB ?_
  repeat' apply an
  all_goals rfl
 rw[if_neg c0]
 rcases aa (cF b r.2 80=1) with c1|c1
 ·have k1:=eq_true c1
  rw[if_pos c1]
  refine ahr c0 k1 ?_
  refine oC [] [0] (qu b (r.2+1) [1001,-9223372036854775808,5] hb oM oM (by simp) (by simp)) ?_
  refine GZ qr ?_
  refine bX fe ?_ rfl rfl
  refine sB ?_
  repeat' apply an
  all_goals rfl
 rw[if_neg c1]
 rcases aa (cF b r.2 80=2) with c2|c2
 ·have k2:=eq_true c2
  rw[if_pos c2]
  refine V7 c0 c1 k2 ?_
  refine oD [] [0] (Ns b hb s hs (r.2+1) oM oM) ?_
  refine bX fe ?_ rfl rfl
  refine sB ?_
  repeat' apply an
  all_goals rfl
 rw[if_neg c2]
 rcases aa (cF b r.2 80=3) with c3|c3
 ·have k3:=eq_true c3
  rw[if_pos c3]
  rcases aa ((0:Int)<(r.1.a8.length:Int)) with h5|h5
  ·have h5n:0<r.1.a8.length:=oM
   rw[if_pos h5n]
   refine V7 c0 c1 (an c2 (an k3 h5)) ?_
   refine oC [] [0] (qu b (r.2+1) [0,51,-9223372036854775808] hb oM oM (by simp) (by simp)) ?_
   refine ahr h5n qr ?_
   refine iK ?_
   refine bX fe ?_ rfl rfl
   refine sB ?_
   repeat' apply an
   all_goals first|rfl|exact(Hk h5n).symm
  ·have h5n:¬0<r.1.a8.length:=oM
   rw[if_neg h5n]
   refine V7 c0 c1 (an c2 (an k3 h5)) ?_
   refine bX fe ?_ rfl rfl
   refine sB ?_
   repeat' apply an
   all_goals rfl
 rw[if_neg c3]
 rcases aa (cF b r.2 80=4) with c4|c4
 ·have k4:=eq_true c4
  rw[if_pos c4]
  refine V7 c0 c1 (an c2 (an c3 k4)) ?_
  refine Mw [] [0] (ug b hb s hs 1 1 (r.2+1) oM oM oM) ?_
  refine bX fe ?_ rfl rfl
  refine sB ?_
  repeat' apply an
  all_goals first|rfl|exact(rY _ _).symm
 ·rw[if_neg c4]
  refine V7 c0 c1 (an c2 (an c3 c4)) ?_
  refine bX fe ?_ rfl rfl
  refine sB ?_
  repeat' apply an
  all_goals rfl
theorem MD(b:List Int)(hb:uq b)(p:Int)(h1:0≤p)(h2:p≤600000000):C E.P 94 [.bA 0 0] [some (rz b p)] (jF (.iZ [av (eP (AH b p).1),av (ir (AH b p).2.1)]) [some (rz b (AH b p).2.2)]):=by
 have cD:=Nr b hb p h1 oM;obtain⟨z1,z2,z3,z4⟩:=W8 hb h1;obtain⟨y,e0⟩:∃y,AH b p=y:=⟨_,rfl⟩;have ee:=e0;unfold AH at ee;simp only at ee;obtain⟨r,hr⟩:∃r,nz b p=r:=⟨_,rfl⟩;rw[hr] at ee cD z1 z2 z3 z4;obtain⟨s,f,q⟩:=r;simp only at ee cD z1 z2 z3 z4;have hkl:=TW f;have hkall:=FA f.ar;rw[e0,←ee];refine gT 47 [.cell 2 25,.cell 3 63] hm Tryz.func94 fun hl he cf=>?_;refine oD [] [0] cD ?_;refine oD [] [0] (jR b q 64 hb oM oM) ?_;rcases aa (cF b q 64=0) with c0|c0
 ·have k0:=eq_true c0;have qr:q+1+1=q+2:=oM;rw[if_pos c0];refine GZ k0 ?_;refine oC [] [0] (qu b (q+1) [0,7,1,2,3] hb oM oM (by simp) (by simp)) ?_;refine GZ qr ?_;refine iK ?_;refine bX fe ?_ rfl rfl;refine sB ?_;repeat' apply an
  all_goals rfl
 rw[if_neg c0];rcases aa (cF b q 64=1) with c1|c1
 ·have k1:=eq_true c1;rw[if_pos c1];refine RY c0 k1 ?_;refine bX fe ?_ rfl rfl;refine sB ?_;have e:cG f.ar++[ir f]=cG (f.ar++[f]):=(by rw[←yj,sF,uj]);repeat' apply an
  all_goals first|rfl|exact e.symm
 rw[if_neg c1];rcases aa (cF b q 64=2) with c2|c2
 ·have k2:=eq_true c2;rw[if_pos c2];refine V7 c0 c1 k2 ?_;refine Mw [] [0] (MN b hb s z4 (q+1) oM oM) ?_;refine bX fe ?_ rfl rfl;refine sB ?_;repeat' apply an
  all_goals rfl
 rw[if_neg c2];rcases aa (cF b q 64=3) with c3|c3
 ·have k3:=eq_true c3;rw[if_pos c3];have g1:=BG b s (q+1);have g2:=Ia (b:=b) z4 (q+1);refine V7 c0 c1 (an c2 k3) ?_;refine oD [] [0] (sY b hb s (vV z4).1 (vV z4).2 (q+1) oM oM) ?_;refine Mw [] [0] (sY b hb (kW b s (q+1)).1 g2.1 g2.2 (kW b s (q+1)).2 oM oM) ?_;refine bX fe ?_ rfl rfl;simp -implicitDefEqProofs only[go_sem,Z1,Z2,Z3,Z4];repeat' apply an
  all_goals rfl
 rw[if_neg c3];refine P6 c0 c1 (an c2 c3) ?_;refine bX fe ?_ rfl rfl;simp -implicitDefEqProofs only[go_sem,Z1,Z2,Z3,Z4];repeat' apply an
 all_goals rfl
theorem Lm(b:List Int)(hb:uq b)(n:Nat)(hn:n≤1000000)(p:Int)(h1:0≤p)(h2:p≤900000000):C E.P 19 [.bA 0 0,iv n] [some (rz b p)] (jF (lv (ue (zM b n p).1)) [some (rz b (zM b n p).2)]):=by
 have key:∀(m:Nat),(gM (fun(_:Unit) q=>(decide (cF b q 2=0),q+1)) (aE m ()) p).2=p+m:=by
  intro m;have hh:∀(m:Nat)(q:Int),(gM (fun(_:Unit) q=>(decide (cF b q 2=0),q+1)) (aE m ()) q).2=q+m:=by
   intro m;induction m with
   | zero=>intro q;simp[gM]
   | succ m ih=>intro q;simp only[List.replicate_succ,gM,ih];omega
  exact hh m p
 have hval:zM b n p=(if cF b (p+n) 30=0 then(gM (fun(_:Unit) q=>(decide (cF b q 2=0),q+1)) (aE n ()) p).1++[true] else(gM (fun(_:Unit) q=>(decide (cF b q 2=0),q+1)) (aE n ()) p).1,p+n+1):=by simp only[zM,key n]
 rw[hval];have eO:=vJ (fun(_:Unit) q=>(decide (cF b q 2=0),q+1)) (aE n ()) p;rw[gH] at eO;refine gT 26 [.tmp 4] hm Tryz.func19 fun hl he cf=>?_;refine cS hm (fun(i:Nat)=> i≤n) (fun(i:Nat)=> ⟨dN 26 .any [(0,.bA 0 0),(1,iv n),(5,.aX 1),(6,iv i)],[some (rz b (p+i)),some (.aX 4 (ue (gM (fun(_:Unit) q=>(decide (cF b q 2=0),q+1)) ((aE n ()).take i) p).1))]⟩) (fun(i:Nat)=> n-i) (0) ?_ (aZ kR ?_ ?_ rfl rfl) ?_;rotate_left;exact sD
 ·refine sB ?_;all_goals(exact⟨by simp,rfl⟩)
 rotate_left;omega;rintro i hi;have hl2:=vJ (fun(_:Unit) q=>(decide (cF b q 2=0),q+1)) ((aE n ()).take i) p;rw[List.length_take,gH] at hl2;rcases aa (i<n) with h3|h3
 ·have ld:=Gw (fun(_:Unit) q=>(decide (cF b q 2=0),q+1)) (show i<(aE n ()).length by rw[gH];exact h3) p;have e:(aE n ()).take i=aE i ():=(by rw[List.take_replicate];congr 1;omega);have Zm:=key i;rw[e,Zm] at ld;have rA:ue (gM (fun(_:Unit) q=>(decide (cF b q 2=0),q+1)) ((aE n ()).take i) p).1++[[D.val (Value.bool (decide (cF b (p+i) 2=0)))]]=ue (gM (fun(_:Unit) q=>(decide (cF b q 2=0),q+1)) ((aE n ()).take (i+1)) p).1:=(by rw[ld,e];exact NJ _ [_]);have hp1:p+(i:Int)+1=p+((i:Int)+1):=oM;refine yC ?_;refine lx [] [0] (jR b (p+i) 2 hb oM oM) ?_ ?_<;>simp -implicitDefEqProofs only[go_sem,Z1,Z2,Z3,Z4,hp1];refine sQ ?_;refine⟨i+1,?_,sL,aZ [some 0,some 2] ?_ ?_ rfl rfl⟩;rotate_left;exact sD
  ·refine sB ?_;all_goals(exact rA)
  exact h3
 obtain rfl:i=n:=oM;have et:(aE i ()).take i=aE i ():=aq (by rw[gH];exact aK _);rw[et];refine yC ?_;refine oD [] [0] (jR b (p+i) 30 hb oM oM) ?_;rcases aa (cF b (p+i) 30=0) with c0|c0;have k0:=eq_true c0;simp only[if_pos c0];refine yH ?_;refine sQ ?_;refine bX fe ?_ rfl rfl;refine sB ?_;exact⟨(NJ _ [_]).symm,rfl⟩;simp only[if_neg c0];simp -implicitDefEqProofs only[go_sem,Z1,Z2,Z3,Z4,c0];refine bX fe ?_ rfl rfl;refine sB ?_;rfl
theorem oa(us:List Mod.bU)(t:Mod.bU):cG us++[ir t]=cG (us++[t]):=by rw[←yj,sF,uj]
theorem Gv(b:List Int)(hb:uq b)(p:Int)(h1:0≤p)(h2:p≤400000000):C E.P 46 [.bA 0 0] [some (rz b p)] (jF (.iZ [av (eP (pz b p).1),.aX 1]) [some (rz b (pz b p).2.2),some (.aX 63 (cG (pz b p).2.1))]):=by
 have hs:gI (qG b p).1:=vC _;have hsp:(qG b p).2=p+1:=rfl;have hT:=JI hb hs (p:=p+1) oM;have cT:=CE b hb (qG b p).1 hs (p+1) oM oM;obtain⟨y,e0⟩:∃y,pz b p=y:=⟨_,rfl⟩;have ee:=e0;unfold pz at ee;simp only at ee;obtain⟨a,hta⟩:∃a,nT b (qG b p).1 (p+1)=a:=⟨_,rfl⟩;rw[hta] at ee hT cT;have hmem:=ri hb (p:=a.2) (l:=[2,3,1,4,0]) oM (by simp);simp only[List.mem_cons,List.not_mem_nil,or_false] at hmem;obtain⟨N,eN⟩:∃N:Nat,jL b a.2 [2,3,1,4,0]=N:=⟨(jL b a.2 [2,3,1,4,0]).toNat,oM⟩;have hN:N≤4:=oM;simp only[eN,bc] at ee;have hF:=QD hb (lf:=a.1) N [] (a.2+1) oM;obtain⟨r,hr⟩:∃r,kY (kF b a.1) N [] (a.2+1)=r:=⟨_,rfl⟩;obtain⟨s,hsig⟩:∃s,(qG b p).1=s:=⟨_,rfl⟩;have c1:=Ev b p hb h1 oM;rw[hr] at ee hF;rw[hsig] at ee hs cT c1;simp only[c8] at hF;obtain⟨f1,f2,f3,f4⟩:=hF;rw[e0,←ee];refine gT 65 [.cell 2 25,.tmp 3] hm Tryz.func46 fun hl he cf=>?_;refine lx [] [0] c1 ?_ ?_<;>simp -implicitDefEqProofs only[go_sem,Z1,Z2,Z3,Z4,hsp];refine sI ?_;refine oD [] [0] cT ?_;refine sI ?_;refine lx [] [0] (qu b a.2 [2,3,1,4,0] hb oM oM (by simp) (by simp)) ?_ ?_<;>simp -implicitDefEqProofs only[go_sem,Z1,Z2,Z3,Z4,eN];refine sI ?_;refine n6 hm (fun(j:Nat) (q:Int) (out:List Mod.bU)=> j≤N∧0≤q∧q≤a.2+1+(N-j)*70∧out.length=N-j∧r=kY (kF b a.1) j out q) (fun(j:Nat) (q:Int) (out:List Mod.bU)=> ⟨dN 65 .any [(0,.bA 0 0),(2,.bA 1 0),(4,.bA 2 0),(5,lv (bx a.1)),(6,.aX 3),(7,iv j)],[some (rz b q),some (.box [.bW]),some (.box (dm (eP s))),some (.aX 63 (cG out))]⟩) (fun(j:Nat) (q:Int) (out:List Mod.bU)=> j) (N) (a.2+1) ([]) ?_ (aZ wM ?_ ?_ rfl rfl) ?_;rotate_left
 ·refine sB ?_;all_goals(try exact sM)
 ·refine sB ?_;all_goals(try exact sM)
 rotate_left;exact⟨aK _,oM,oM,by simp,hr.symm⟩;rintro j q out ⟨hj,hq1,hq2,hol,hg⟩;rcases aa ((0:Int)<(j:Int)) with h3|h3
 ·obtain⟨j,rfl⟩:∃j',j=j'+1:=⟨j-1,oM⟩;obtain⟨d,ed,d1,d2,d3⟩:=Tq hb (p:=q) hq1 (l:=[2,3,1]) (by simp) (by decide);have g1:=KL hb (lf:=a.1) (out:=out) (p:=q) hq1;rw[kY] at hg;have est:kF b a.1 out q=(out++[(kf b a.1 d (q+1)).1],(kf b a.1 d (q+1)).2):=(by simp only[kF,ed,bc]);rw[est] at hg g1;simp only at hg g1;have cA:=uO b hb a.1 oM oM d (q+1) d1 oM oM;obtain⟨x,hx⟩:∃x,kf b a.1 d (q+1)=x:=⟨_,rfl⟩;rw[hx] at hg g1 cA;have hjs:((j:Int)+1-1)=(j:Int):=oM;have h3:(0:Int)<(j:Int)+1:=oM;have hla:(out++[x.1]).length=out.length+1:=(by simp);try simp -implicitDefEqProofs only[go_sem,Z1,Z2,Z3,Z4,h3]
  refine sI ?_;refine lx [] [0] (qu b q [2,3,1] hb oM oM (by simp) (by simp)) ?_ ?_<;>simp -implicitDefEqProofs only[go_sem,Z1,Z2,Z3,Z4,ed];refine sI ?_;refine oD [] [0] cA ?_;refine sJ ?_;try simp -implicitDefEqProofs only[go_sem,Z1,Z2,Z3,Z4,hjs]
  refine sI ?_;refine⟨j,x.2,out++[x.1],?_,sL,aZ [some 0,some 1,some 2,some 4] ?_ ?_ rfl rfl⟩;rotate_left
  ·refine sB ?_;all_goals(first|done|(exact oa _ _)|(simp[a7, *];done)|(simp[a7];done)|(simp;omega)|skip)
  ·refine sB ?_;all_goals(first|done|(exact oa _ _)|(simp[a7, *];done)|(simp[a7];done)|(simp;omega)|skip)
  exact⟨oM,oM,oM,oM,hg⟩
 obtain rfl:j=0:=oM;rw[kY] at hg;subst hg;simp only at f1 f2 f3 f4⊢;try simp -implicitDefEqProofs only[go_sem,Z1,Z2,Z3,Z4,h3]
 refine sI ?_;refine oD [] [0] (jR b q 48 hb oM oM) ?_;refine sI ?_;rcases aa (cF b q 48=0) with c0|c0
 ·have k0:=eq_true c0;simp only[if_pos c0];try simp -implicitDefEqProofs only[go_sem,Z1,Z2,Z3,Z4,k0]
  refine sI ?_;refine oD [] [0] (MD b hb (q+1) oM oM) ?_;refine sJ ?_;refine gB_ [some 0,some 6] ?_;repeat' apply an
  all_goals first|rfl|exact oa _ _
 simp only[if_neg c0];rcases aa (cF b q 48=1) with c1|c1
 ·have k1:=eq_true c1;simp only[if_pos c1];try simp -implicitDefEqProofs only[go_sem,Z1,Z2,Z3,Z4,c0,k1]
  refine sI ?_;refine jI hm (fun(l:List Mod.bU) (z:Int)=> q+1≤z∧z≤q+1+4*l.length∧l.length≤6∧x9 b a.1 (6-out.length) out (q+1)=x9 b a.1 (6-l.length) l z) (fun(l:List Mod.bU) (z:Int)=> ⟨dN 65 .any [(0,.bA 0 0),(2,.bA 1 0),(4,.bA 2 0),(5,lv (bx a.1)),(6,.aX 3)],[some (rz b z),some (.box [.bW]),some (.box (dm (eP s))),some (.aX 63 (cG l))]⟩) (fun(l:List Mod.bU) (z:Int)=> 6-l.length) (out) (q+1) ?_ (aZ wM ?_ ?_ rfl rfl) ?_;rotate_left
  ·refine sB ?_;all_goals(try exact sM)
  ·refine sB ?_;all_goals(try exact sM)
  rotate_left;exact⟨oM,oM,oM,rfl⟩;rintro l z ⟨b1,b2,b3,hg⟩;rcases aa (l.length≤5) with h6|h6
  ·have h6':(l.length:Int)≤5:=oM;have e8:6-l.length=(6-(l.length+1))+1:=oM;rw[e8,x9] at hg;have cA:=uO b hb a.1 oM oM 1 z oM oM oM;have gA:=GO hb (atoms:=a.1) 1 z oM;have hla:(l++[(kf b a.1 1 z).1]).length=l.length+1:=(by simp);have e2:(4:Int)*(2 ^ 1-1)=4:=(by decide);rw[e2] at gA;try simp -implicitDefEqProofs only[go_sem,Z1,Z2,Z3,Z4,h6']
   refine sI ?_;refine oD [] [0] cA ?_;refine sJ ?_;refine⟨l++[(kf b a.1 1 z).1],(kf b a.1 1 z).2,?_,sL,aZ [some 0,some 1,some 2,some 4] ?_ ?_ rfl rfl⟩;rotate_left
   ·refine sB ?_;all_goals(first|done|(exact oa _ _)|(simp[a7, *];done)|(simp[a7];done)|(simp;omega)|skip)
   ·refine sB ?_;all_goals(first|done|(exact oa _ _)|(simp[a7, *];done)|(simp[a7];done)|(simp;omega)|skip)
   exact⟨oM,oM,oM,by rw[hla];exact hg⟩
  have h6':¬ (l.length:Int)≤5:=oM;have e8:6-l.length=0:=oM;rw[e8,x9] at hg;rw[hg];try simp -implicitDefEqProofs only[go_sem,Z1,Z2,Z3,Z4,h6']
  refine sI ?_;refine bX [some 0,some 3] ?_ rfl rfl;simp -implicitDefEqProofs only[go_sem,Z1,Z2,Z3,Z4];repeat' apply an
  all_goals rfl
 simp only[if_neg c1];rcases aa (cF b q 48=2) with c2|c2
 ·have k2:=eq_true c2;simp only[if_pos c2];have g1:=BG b s (q+1);have g2:=Ia (b:=b) hs (q+1);try simp -implicitDefEqProofs only[go_sem,Z1,Z2,Z3,Z4,c0,c1,k2]
  refine sI ?_;refine oD [] [0] (sY b hb s (vV hs).1 (vV hs).2 (q+1) oM oM) ?_;refine sI ?_;refine oD [] [0] (sY b hb (kW b s (q+1)).1 g2.1 g2.2 (kW b s (q+1)).2 oM oM) ?_;refine sI ?_;refine bX [some 0,some 3] ?_ rfl rfl;simp -implicitDefEqProofs only[go_sem,Z1,Z2,Z3,Z4];repeat' apply an
  all_goals rfl
 simp only[if_neg c2];try simp -implicitDefEqProofs only[go_sem,Z1,Z2,Z3,Z4,c0,c1,c2]
 refine sI ?_;refine bX [some 0,some 3] ?_ rfl rfl;simp -implicitDefEqProofs only[go_sem,Z1,Z2,Z3,Z4];repeat' apply an
 all_goals rfl
end Go.Proofs.YtphcpjhkeipggaaGreat
