/-
  The library's slices.Insert at rows of a model, in the midst, at the level of worlds. A step towards the laws.
-/
import Derived.Test.YtphcpjhkeipggaaGreatKBzi
import Derived.Shelf.Spec.SlicesInsert
import Derived.Lib.AppendZerosOnto
set_option linter.unusedVariables false
set_option linter.unusedSimpArgs false
open Int renaming reduceEq→Z1,reduceLT→Z2,reduceLE→Z3,reduceToNat→Z4
open Array renaming length_toList→gE
open Classical renaming em→aa
open List renaming drop_eq_getElem_cons→ae,drop_of_length_le→ak,take_of_length_le→aq,length_append→aP,length_cons→aY,length_take→bl,append_assoc→bC,cons_append→bI,nil_append→bS,take_append_of_le_length→cI,length_nil→c8,getElem?_take→dR,length_drop→eG,getElem?_drop→eV,size_toArray→fx,mem_of_mem_drop→gg,take_append_drop→jM,flatten_append→mQ
open Nat renaming le_refl→aK,lt_or_ge→cz,zero_add→eu
namespace Go.Proofs.YtphcpjhkeipggaaGreat
open Go.Eng Go.Mod Go.RowKit Go.Lib
set_option maxRecDepth 100000
set_option maxHeartbeats 3200000
set_option linter.unusedVariables false
set_option linter.unusedSimpArgs false
theorem X3(w:World)(b c k vb vc n:Nat)(cur cur':Array Value)(cs vs:List Value)(hi:k<n)(hroom:n+1≤c)(hc:c≤9223372036854775807)(hvb:vb≠b)
 (hb:w.heap[b]?=some (.cells cur 153 (0,0))) (hcz:cur.size=c*4) (hcs:cur.toList.take (n*4)=cs) (h1c:∀v∈cs,v.oneCell'=true)
 (hbv:w.heap[vb]?=some (.cells cur' 153 (0,0))) (hvs:cur'.toList.take 4=vs) (hvl:vs.length=4) (h1v:∀v∈vs,v.oneCell'=true) :
 Calls E.P 212 #[.slice (some ⟨b,0,none⟩) n c,.int .i64 k,.slice (some ⟨vb,0,none⟩) 1 vc] w fun e w'=>
  e= .returned (.slice (some ⟨b,0,none⟩) (n+1) c)∧w'=(w.drew.setRow b (cur.toList.take ((k+1)*4)++cs.drop (k*4)++cur.toList.drop ((k+1)*4+(cs.drop (k*4)).length)).toArray).setRow b
   ((cur.toList.take ((k+1)*4)++cs.drop (k*4)++cur.toList.drop ((k+1)*4+(cs.drop (k*4)).length)).take (k*4)++vs++(cur.toList.take ((k+1)*4)++cs.drop (k*4)++cur.toList.drop ((k+1)*4+(cs.drop (k*4)).length)).drop (k*4+4)).toArray:=by
 obtain⟨P,hP⟩:∃P,P=E.P:=⟨_,rfl⟩
 have t30:P.underlying 49=some (.slice 153):=hP▸(E.ok 49 _ rfl).ty
 have t3:P.underlying 3=some (.int .i64):=hP▸(E.ok 3 _ rfl).ty
 have t4:P.underlying 4=some .bool:=hP▸(E.ok 4 _ rfl).ty
 have u30:=run_underlying t30
 have u3:=run_underlying t3
 have u4:=run_underlying t4
 have z3:∀w,(Go.sizeOf 3).run P w= .ok 1 w:=hP▸(E.ok 3 _ rfl).size
 have z4:∀w,(Go.sizeOf 4).run P w= .ok 1 w:=hP▸(E.ok 4 _ rfl).size
 have z30:∀w,(Go.sizeOf 49).run P w= .ok 1 w:=hP▸(E.ok 49 _ rfl).size
 have z167:∀w,(Go.sizeOf 153).run P w= .ok 4 w:=hP▸(E.ok 153 _ rfl).size
 have mixed:P.follows .mixedOrders=true:=hP▸hm
 have hfn:=Tryz.func212
 rw[←E_P,←hP] at hfn
 have hov0:=Tryz.func288
 rw[←E_P,←hP] at hov0
 have hI:(P.info? 153).map (·.size)=some 4:=by obtain⟨i,zv,i1,i2,_⟩:=(E.ok 153 _ rfl).info;rw[hP,i1];simp[i2];rfl
 rw[←hP]
 clear hP
 have hz2:¬ ((k:Int)=(n:Int)):=oM
 have hw1:IntKind.i64.wrap ((k:Int)+1)=(k:Int)+1:=by rw[IntKind.wrap_i64];omega
 have hb1:(0:Int)≤(k:Int)+1:=oM
 have kI:k≤n:=oM
 have htn:((k:Int)+1).toNat=k+1:=oM
 have hb2:¬ (c=k+1):=oM
 have hb4:¬ (c=k):=oM
 have hb3:(k:Int)≤(n:Int)+1:=oM
 have hsz:(P.info? 153).map (·.size)=some 4:=hI
 have hshb:w.shape? b=some (153,cur.size):=by simp[World.shape?,hb]
 have hshv:w.shape? vb=some (153,cur'.size):=by simp[World.shape?,hbv]
 have hov:∀lb cb,(callFunc 288 #[.slice (some ⟨vb,0,none⟩) 1 vc,.slice (some ⟨b,(k+1)*4,none⟩) lb cb]).run P w= .ok (.value (.bool false)) w:=fun lb cb=>by
  rw[run_callFunc_extern hov0 (by kernel_rfl) (by kernel_rfl) (by kernel_rfl) (e:=Extern.SlicesOverlaps.overlaps #[49,49] #[4]) (by kernel_rfl),
   Lib.run_overlaps_apart w 49 4 153 t30 4 z167 ⟨vb,0,none⟩ ⟨b,(k+1)*4,none⟩ 1 vc lb cb hvb 153 153 cur'.size cur.size hshv hshb oM (by simp[World.frozen?,hbv]) (by simp[World.frozen?,hbv])]
  rfl
 have hcl:cs.length=n*4:=by rw[←hcs];simp;omega
 have hdl:(cs.drop (k*4)).length=(n-k)*4:=by rw[eG,hcl,←Nat.sub_mul]
 have hcell:∀j v,cs[j]?=some v→w.cell? ⟨b,j,none⟩=some v:=fun j v hj=>by rw[←hcs,dR] at hj;split at hj;simpa[World.cell?,hb] using hj;cases hj
 have hcellv:∀j v,vs[j]?=some v→w.cell? ⟨vb,j,none⟩=some v:=fun j v hj=>by rw[←hvs,dR] at hj;split at hj;simpa[World.cell?,hbv] using hj;cases hj
 have hcp1:∀ty dc sc,(Builtin.copy_ #[49,49] ty #[.slice (some ⟨b,(k+1)*4,none⟩) (n-k) dc,.slice (some ⟨b,k*4,none⟩) (n+1-k) sc]).run P w.drew= .ok (goInt ((n-k:Nat):Int)) (w.drew.setRow b (cur.toList.take ((k+1)*4)++cs.drop (k*4)++cur.toList.drop ((k+1)*4+(cs.drop (k*4)).length)).toArray):=fun ty dc sc=>by
  have hmin:Nat.min (n+1-k) (n-k)=n-k:=(by simp only[Nat.min_def];split<;>omega);have h:=sP (P:=P) w.drew 49 49 ty 153 4 b ((k+1)*4) (n-k) dc ⟨b,k*4,none⟩ (n+1-k) sc cur 153 (cs.drop (k*4)) t30 hsz hb (by rw[hmin,hdl])
   (fun j v hj=>by rw[Addr.add_lit];exact hcell (k*4+j) v (by rwa [eV] at hj)) (by rw[hdl,hcz];omega) (fun v hv=>h1c v (gg hv))
  rw[hmin] at h;exact h
 obtain⟨W1,hW1⟩:∃W1,W1=w.drew.setRow b (cur.toList.take ((k+1)*4)++cs.drop (k*4)++cur.toList.drop ((k+1)*4+(cs.drop (k*4)).length)).toArray:=⟨_,rfl⟩
 obtain⟨Rf,hrow1⟩:∃Rf,Rf=cur.toList.take ((k+1)*4)++cs.drop (k*4)++cur.toList.drop ((k+1)*4+(cs.drop (k*4)).length):=⟨_,rfl⟩
 have hrl:Rf.length=c*4:=by rw[hrow1];simp;omega
 have hcp2:∀ty dc,(Builtin.copy_ #[49,49] ty #[.slice (some ⟨b,k*4,none⟩) (n+1-k) dc,.slice (some ⟨vb,0,none⟩) 1 vc]).run P W1= .ok (goInt 1) (W1.setRow b (Rf.take (k*4)++vs++Rf.drop (k*4+4)).toArray):=fun ty dc=>by
  have hmin:Nat.min 1 (n+1-k)=1:=(by simp only[Nat.min_def];split<;>omega);have hW:W1.heap[b]?=some (.cells Rf.toArray 153 (0,0)):=(by rw[hW1,←hrow1];exact setRow_heap _ b _ _ _ _ hb);have h:=sP (P:=P) W1 49 49 ty 153 4 b (k*4) (n+1-k) dc ⟨vb,0,none⟩ 1 vc Rf.toArray 153 vs t30 hsz hW (by rw[hmin,hvl])
   (fun j v hj=>by rw[Addr.add_lit,eu,World.cell?_of_block (w:=w) (a:=⟨vb,j,none⟩) (by rw[hW1];exact setRow_other _ b vb _ hvb)];exact hcellv j v hj) (by simp only[fx,hrl,hvl];omega) h1v
  rw[hmin,hvl] at h;simpa using h
 rw[←hrow1] at hcp1⊢
 rw[←hrow1] at hW1
 rw[←hW1] at hcp1⊢
 clear hW1 hrow1
 have hnt:Tryz.f212.ntmps=95:=rfl
 refine calls_of_wp hfn rfl ?_
 simp only[hnt,fx,aY,c8,Nat.reduceAdd,Nat.reduceSub,Array.replicate_succ,Array.replicate_zero,List.push_toArray,List.append_toArray,bS,bI]
 go_wp2_with (simp only[hov])
 go_region_law_o (refine step_copy_runI rfl _ _ 49 49 rfl _ _ (by simp[Act.eval,Act.put]) (by simp[Act.eval,Act.put]) (hcp1 _ _ _) ?_)
 go_wp2_with (at_builtin;refine wpList_copy_runI _ rfl _ _ 49 49 rfl _ _ rfl rfl (hcp2 _ _) ?_)
 go_ret
 exact⟨rfl,by rw[bC]⟩
theorem aav(w:World)(b c k vb vc n:Nat)(cur cur':Array Value)(cs vs:List Value)(hi:k<n)(hnc:n≤c)(hroom:c<n+1)(hn9:n≤1000000)(hvb:vb≠b)
 (hb:w.heap[b]?=some (.cells cur 153 (0,0))) (hcz:cur.size=c*4) (hcs:cur.toList.take (n*4)=cs) (h1c:∀v∈cs,v.oneCell'=true)
 (hbv:w.heap[vb]?=some (.cells cur' 153 (0,0))) (hvs:cur'.toList.take 4=vs) (hvl:vs.length=4) (h1v:∀v∈vs,v.oneCell'=true) :
 Calls E.P 212 #[.slice (some ⟨b,0,none⟩) n c,.int .i64 k,.slice (some ⟨vb,0,none⟩) 1 vc] w fun e w'=>
  ∃(G:Nat)(ROW:List Value),n+1≤G∧G≤maxLen∧ROW.length=G*4∧ROW.take (k*4)=cs.take (k*4)∧e= .returned (.slice (some ⟨w.heap.size,0,none⟩) (n+1) G) ∧
   w'=((w.drew.alloc (.cells ROW.toArray 153)).setRow w.heap.size (ROW.take (k*4)++vs++ROW.drop (k*4+4)).toArray).drew.setRow w.heap.size
    ((ROW.take (k*4)++vs++ROW.drop (k*4+4)).take ((k+1)*4)++cs.drop (k*4)++(ROW.take (k*4)++vs++ROW.drop (k*4+4)).drop ((k+1)*4+(cs.drop (k*4)).length)).toArray:=by
 obtain⟨P,hP⟩:∃P,P=E.P:=⟨_,rfl⟩
 have t30:P.underlying 49=some (.slice 153):=hP▸(E.ok 49 _ rfl).ty
 have t3:P.underlying 3=some (.int .i64):=hP▸(E.ok 3 _ rfl).ty
 have t4:P.underlying 4=some .bool:=hP▸(E.ok 4 _ rfl).ty
 have u30:=run_underlying t30
 have u3:=run_underlying t3
 have u4:=run_underlying t4
 have z3:∀w,(Go.sizeOf 3).run P w= .ok 1 w:=hP▸(E.ok 3 _ rfl).size
 have z4:∀w,(Go.sizeOf 4).run P w= .ok 1 w:=hP▸(E.ok 4 _ rfl).size
 have z30:∀w,(Go.sizeOf 49).run P w= .ok 1 w:=hP▸(E.ok 49 _ rfl).size
 have z167:∀w,(Go.sizeOf 153).run P w= .ok 4 w:=hP▸(E.ok 153 _ rfl).size
 have mixed:P.follows .mixedOrders=true:=hP▸hm
 have hfn:=Tryz.func212
 rw[←E_P,←hP] at hfn
 obtain⟨i0,zv,hi0,hzs,hzb,hz0,_,hzc⟩:=(E.ok 153 _ rfl).info
 rw[←hP] at hi0
 have hzs:i0.size=4:=hzs
 have hzc:zv.cells.size=4:=hzc
 have hzb:i0.bytes≤1000:=by rw[hzb];simp -implicitDefEqProofs only[go_sem,Int.reduceEq,Int.reduceLT,Int.reduceLE,Int.reduceToNat];omega
 rw[←hP]
 clear hP
 have hsz:(P.info? 153).map (·.size)=some 4:=by rw[hi0];simp[hzs]
 have hz2:¬ ((k:Int)=(n:Int)):=oM
 have hz3:(c:Int)<(n:Int)+1:=oM
 have hw1:IntKind.i64.wrap ((k:Int)+1)=(k:Int)+1:=by rw[IntKind.wrap_i64];omega
 have hb1:(0:Int)≤(k:Int)+1:=oM
 have kI:k≤n:=oM
 have htn:((k:Int)+1).toNat=k+1:=oM
 have hcl:cs.length=n*4:=by rw[←hcs];simp;omega
 have hdl:(cs.drop (k*4)).length=(n-k)*4:=by rw[eG,hcl,←Nat.sub_mul]
 have hbw:b<w.heap.size:=sN hb
 have hvw:vb<w.heap.size:=sN hbv
 have hcell:∀j v,cs[j]?=some v→w.cell? ⟨b,j,none⟩=some v:=fun j v hj=>by rw[←hcs,dR] at hj;split at hj;simpa[World.cell?,hb] using hj;cases hj
 have hcellv:∀j v,vs[j]?=some v→w.cell? ⟨vb,j,none⟩=some v:=fun j v hj=>by rw[←hvs,dR] at hj;split at hj;simpa[World.cell?,hbv] using hj;cases hj
 have hold:(Builtin.firstCells i0.size k (.slice (some ⟨b,0,none⟩) k c)).run P w.drew= .ok (cs.take (k*4)).toArray w.drew:=by
  rw[hzs];exact run_firstCells_some w.drew 4 k ⟨b,0,none⟩ k c (cs.take (k*4)) (by rw[bl];omega) (fun j v hj=>by
   rw[Addr.add_lit,eu]
   rw[dR] at hj
   split at hj
   ·exact hcell j v hj
   ·cases hj)
 have hkk:(n:Int)+1-(k:Int)=((n+1-k:Nat):Int):=oM
 have hik:k+(n+1-k)=n+1:=oM
 obtain⟨G,hG⟩:∃G,G=grownCap w (n+1) c 153:=⟨_,rfl⟩
 obtain⟨ROW,hROW⟩:∃ROW:List Value,ROW.toArray=(cs.take (k*4)).toArray++Builtin.zeroCells zv.cells (n+1-k)++Builtin.zeroCells zv.cells (G-(n+1)):=⟨_,Array.toArray_toList⟩
 obtain⟨W1,hW1⟩:∃W1,W1=w.drew.alloc (.cells ROW.toArray 153):=⟨_,rfl⟩
 have hGn:n+1≤G:=by rw[hG];exact grownCap_ge w _ _ _
 have hG63:G≤maxLen:=by rw[hG];exact grownCap_le_maxLen w (n+1) c 153 (by unfold maxLen;omega)
 have hrz:∀ty,(Builtin.append_ #[49,3] ty #[.slice (some ⟨b,0,none⟩) k c,.int .i64 ((n:Int)+1-(k:Int))]).run P w= .ok (.slice (some ⟨w.heap.size,0,none⟩) (n+1) G) W1:=fun ty=>by
  have h:=Lib.run_append_grow_zeros w 49 3 ty 153 i0 zv .i64 .i64 t30 t3 hi0 hz0 (some ⟨b,0,none⟩) k c (cs.take (k*4)) hold (n+1-k) oM oM oM oM (by
   have:=Nat.mul_le_mul (show n+1-k≤1000001 by omega) hzb
   omega) (by
   rw[hik]
   refine growslice_fits hroom ?_
   have:=Nat.mul_le_mul (show n+1≤1000001 by omega) hzb
   omega)
  rw[hik,←hG,←hROW,←hW1] at h;rw[hkk];exact h
 have hzl:∀m,(Builtin.zeroCells zv.cells m).toList.length=m*4:=fun m=>by rw[BC zv.cells (by simp[hzc])];simp[hzc]
 have hRl:ROW.length=G*4:=by have:=congrArg Array.size hROW;have h1:=hzl (n+1-k);have h2:=hzl (G-(n+1));simp only[gE] at h1 h2;simp only[fx,Array.size_append,h1,h2,bl,hcl] at this;rw[this,Nat.min_eq_left oM];omega
 have hRt:ROW.take (k*4)=cs.take (k*4):=by have:=congrArg Array.toList hROW;simp only[Array.toList_append] at this;rw[this,bC,cI (by simp[hcl];omega),aq (by simp;omega)]
 have hW1n:W1.heap[w.heap.size]?=some (.cells ROW.toArray 153 (0,0)):=by rw[hW1];exact vh w.drew _
 have hW1o:∀x,x<w.heap.size→W1.heap[x]?=w.heap[x]?:=fun x hx=>by rw[hW1];exact Below.heap_alloc w.drew _ x hx
 obtain⟨row2,hrow2⟩:∃row2,row2=ROW.take (k*4)++vs++ROW.drop (k*4+4):=⟨_,rfl⟩
 have hr2:row2.length=G*4:=by rw[hrow2];simp;omega
 obtain⟨W2,hW2⟩:∃W2,W2=W1.setRow w.heap.size row2.toArray:=⟨_,rfl⟩
 have hcpA:∀ty dc,(Builtin.copy_ #[49,49] ty #[.slice (some ⟨w.heap.size,k*4,none⟩) (n+1-k) dc,.slice (some ⟨vb,0,none⟩) 1 vc]).run P W1= .ok (goInt 1) W2:=fun ty dc=>by
  have hmin:Nat.min 1 (n+1-k)=1:=(by simp only[Nat.min_def];split<;>omega);have h:=sP (P:=P) W1 49 49 ty 153 4 w.heap.size (k*4) (n+1-k) dc ⟨vb,0,none⟩ 1 vc ROW.toArray 153 vs t30 hsz hW1n (by rw[hmin,hvl])
   (fun j v hj=>by rw[Addr.add_lit,eu,World.cell?_of_block (w:=w) (a:=⟨vb,j,none⟩) (hW1o vb hvw)];exact hcellv j v hj) (by simp only[fx,hRl,hvl];omega) h1v
  rw[hmin,hvl] at h;simp only[←hrow2,←hW2] at h;simpa using h
 have hW2n:W2.drew.heap[w.heap.size]?=some (.cells row2.toArray 153 (0,0)):=by rw[hW2];exact setRow_heap _ _ _ _ _ _ hW1n
 obtain⟨row3,hrow3⟩:∃row3,row3=row2.take ((k+1)*4)++cs.drop (k*4)++row2.drop ((k+1)*4+(cs.drop (k*4)).length):=⟨_,rfl⟩
 obtain⟨W3,hW3⟩:∃W3,W3=W2.drew.setRow w.heap.size row3.toArray:=⟨_,rfl⟩
 have hcpB:∀ty dc sc,(Builtin.copy_ #[49,49] ty #[.slice (some ⟨w.heap.size,(k+1)*4,none⟩) (n-k) dc,.slice (some ⟨b,k*4,none⟩) (n-k) sc]).run P W2.drew= .ok (goInt ((n-k:Nat):Int)) W3:=fun ty dc sc=>by
  have hmin:Nat.min (n-k) (n-k)=n-k:=(by simp only[Nat.min_def];split<;>omega);have h:=sP (P:=P) W2.drew 49 49 ty 153 4 w.heap.size ((k+1)*4) (n-k) dc ⟨b,k*4,none⟩ (n-k) sc row2.toArray 153 (cs.drop (k*4)) t30 hsz hW2n (by rw[hmin,hdl])
   (fun j v hj=>by rw[Addr.add_lit,World.cell?_of_block (w:=w) (a:=⟨b,k*4+j,none⟩) ((show W2.drew.heap[b]?=W1.heap[b]? by rw[hW2];exact setRow_other _ _ _ _ oM).trans (hW1o b hbw))];exact hcell (k*4+j) v (by rwa [eV] at hj)) (by simp only[fx,hr2,hdl];omega) (fun v hv=>h1c v (gg hv))
  rw[hmin] at h;simp only[←hrow3,←hW3] at h;exact h
 have hGi:¬ (G=k):=oM
 have hGim:¬ (G=k+1):=oM
 have hci:¬ (c=k):=oM
 have hb3:(k:Int)≤(n:Int):=oM
 have hG9:G≤9223372036854775807:=hG63
 have goal0:∀(e:Ending)(w':World),e= .returned (.slice (some ⟨w.heap.size,0,none⟩) (n+1) G)∧w'=W3→∃(G:Nat)(ROW:List Value),n+1≤G∧G≤maxLen∧ROW.length=G*4∧ROW.take (k*4)=cs.take (k*4)∧e= .returned (.slice (some ⟨w.heap.size,0,none⟩) (n+1) G) ∧
  w'=((w.drew.alloc (.cells ROW.toArray 153)).setRow w.heap.size (ROW.take (k*4)++vs++ROW.drop (k*4+4)).toArray).drew.setRow w.heap.size
   ((ROW.take (k*4)++vs++ROW.drop (k*4+4)).take ((k+1)*4)++cs.drop (k*4)++(ROW.take (k*4)++vs++ROW.drop (k*4+4)).drop ((k+1)*4+(cs.drop (k*4)).length)).toArray:=by
  rintro e w' ⟨h1,h2⟩
  exact⟨G,ROW,hGn,hG63,hRl,hRt,h1,by rw[h2,hW3,hrow3,hW2,hW1,hrow2]⟩
 refine Calls.mono ?_ goal0
 clear goal0 hrow3 hW3 hrow2 hW2 hW1 hROW hG hkk hik hold hW1o hW1n hW2n hRt hRl hr2
 have hnt:Tryz.f212.ntmps=95:=rfl
 refine calls_of_wp hfn rfl ?_
 simp only[hnt,fx,aY,c8,Nat.reduceAdd,Nat.reduceSub,Array.replicate_succ,Array.replicate_zero,List.push_toArray,List.append_toArray,bS,bI]
 go_wp2_with (first
  | (at_builtin;refine Lib.wpList_append_run _ rfl _ _ _ _ rfl _ _ rfl rfl _ _ (hrz _) ?_)
  | (at_builtin;refine wpList_copy_runI _ rfl _ _ 49 49 rfl _ _ rfl rfl (hcpA _ _) ?_))
 go_region_law_o (refine step_copy_runI rfl _ _ 49 49 rfl _ _ (by simp[Act.eval,Act.put]) (by simp[Act.eval,Act.put]) (hcpB _ _ _) ?_)
 go_wp2
 go_ret
 exact⟨rfl,rfl⟩
end Go.Proofs.YtphcpjhkeipggaaGreat
namespace Go.Proofs.YtphcpjhkeipggaaGreat
open Go.Eng Go.Mod Go.RowKit
set_option maxRecDepth 100000
set_option maxHeartbeats 3200000
theorem acS(w:World)(b:Nat)(x y:Array Value):vg (fun z=>z=b) w ((w.drew.setRow b x).setRow b y):=
 (((FI w).mono (B':=fun z=>z=b) fun _ h _=>h.elim).trans (mE _ b x (fun z=>z=b) rfl) fun _ h _=>h).trans (mE _ b y (fun z=>z=b) rfl) fun _ h _=>h
theorem aes(w:World)(b:Nat)(o:Obj)(x y:Array Value):vg (fun z=>z=b) w ((((w.drew.alloc o).setRow w.heap.size x).drew).setRow w.heap.size y):=by
 have h1:vg (fun _=>False) w (w.drew.alloc o):=(FI w).trans (lE w.drew o) fun _ h _=>h;have h2:vg (fun _=>False) w ((w.drew.alloc o).setRow w.heap.size x):=h1.trans (mE _ w.heap.size x (fun z=>z=w.heap.size) rfl) fun k hk nS=>by omega
 have h3:vg (fun _=>False) w (((w.drew.alloc o).setRow w.heap.size x).drew):=h2.trans (FI _) fun _ h _=>h;have h4:vg (fun _=>False) w ((((w.drew.alloc o).setRow w.heap.size x).drew).setRow w.heap.size y):=h3.trans (mE _ w.heap.size y (fun z=>z=w.heap.size) rfl) fun k hk nS=>by omega
 exact h4.mono fun _ h _=>h.elim
def ahQ(w:World)(b n k:Nat)(cs vs:List Value)(e:Ending)(w':World):Prop:=
 ∃(g G:Nat)(row:List Value),e= .returned (.slice (some ⟨g,0,none⟩) (n+1) G)∧(g=b∨w.heap.size≤g)∧n+1≤G∧G≤maxLen∧w'.heap[g]?=some (.cells row.toArray 153 (0,0))∧row.length=G*4 ∧
  row.take ((n+1)*4)=cs.take (k*4)++vs++cs.drop (k*4)∧vg (fun x=>x=b) w w'
theorem Ym(w:World)(b c k vb vc n:Nat)(cur cur':Array Value)(cs vs:List Value)(hi:k<n)(hnc:n≤c)(hc:c≤maxLen)(hn9:n≤1000000)(hvb:vb≠b)
 (hb:w.heap[b]?=some (.cells cur 153 (0,0))) (hcz:cur.size=c*4) (hcs:cur.toList.take (n*4)=cs) (h1c:∀v∈cs,v.oneCell'=true)
 (hbv:w.heap[vb]?=some (.cells cur' 153 (0,0))) (hvs:cur'.toList.take 4=vs) (hvl:vs.length=4) (h1v:∀v∈vs,v.oneCell'=true) :
 Calls E.P 212 #[.slice (some ⟨b,0,none⟩) n c,.int .i64 k,.slice (some ⟨vb,0,none⟩) 1 vc] w (ahQ w b n k cs vs):=by
 have hcl:cs.length=n*4:=by rw[←hcs];simp;omega
 have hA:(cs.take (k*4)).length=k*4:=by simp[hcl];omega
 have hB:(cs.drop (k*4)).length=(n-k)*4:=by simp[hcl];omega
 rcases cz c (n+1) with hr|hr
 ·refine(aav w b c k vb vc n cur cur' cs vs hi hnc hr hn9 hvb hb hcz hcs h1c hbv hvs hvl h1v).mono ?_
  rintro e w' ⟨G,ROW,h1,h2,h3,h4,h5,h6⟩
  refine⟨w.heap.size,G,((ROW.take (k*4)++vs++ROW.drop (k*4+4)).take ((k+1)*4)++cs.drop (k*4)++(ROW.take (k*4)++vs++ROW.drop (k*4+4)).drop ((k+1)*4+(cs.drop (k*4)).length)),h5,.inr (aK _),h1,h2,?_,?_,?_,?_⟩
  ·rw[h6]
   exact setRow_heap _ _ _ _ _ _ (setRow_heap _ _ _ _ _ _ (vh w.drew _))
  ·rw[h4]
   simp only[aP,bl,eG,hvl,h3,hcl]
   omega
  ·have e1:(ROW.take (k*4)++vs++ROW.drop (k*4+4)).take ((k+1)*4)=cs.take (k*4)++vs:=by
    rw[h4,cI (by rw[aP,hA,hvl];omega),aq (by rw[aP,hA,hvl];omega)]
   rw[e1,cI (by simp only[aP,hA,hB,hvl];omega),aq (by simp only[aP,hA,hB,hvl];omega)]
  ·rw[h6]
   exact aes w b _ _ _
 ·refine(X3 w b c k vb vc n cur cur' cs vs hi hr hc hvb hb hcz hcs h1c hbv hvs hvl h1v).mono ?_
  rintro e w' ⟨h5,h6⟩
  have hcur:cur.toList=cs.take (k*4)++cs.drop (k*4)++cur.toList.drop (n*4):=by rw[jM,←hcs,jM]
  have hR:(cur.toList.drop (n*4)).length=(c-n)*4:=by simp[hcz];omega
  have hs:=U5 (cs.take (k*4)) (cs.drop (k*4)) (cur.toList.drop (n*4)) vs (by rw[hR,hvl];omega)
  rw[←hcur,hA,hvl,show k*4+4=(k+1)*4 from by omega] at hs
  have hs':((cur.toList.take ((k+1)*4)++cs.drop (k*4)++cur.toList.drop ((k+1)*4+(cs.drop (k*4)).length)).take (k*4)++vs++(cur.toList.take ((k+1)*4)++cs.drop (k*4)++cur.toList.drop ((k+1)*4+(cs.drop (k*4)).length)).drop (k*4+4))=cs.take (k*4)++vs++cs.drop (k*4)++(cur.toList.drop (n*4)).drop 4:=by rw[show k*4+4=(k+1)*4 from by omega];exact hs
  rw[hs'] at h6
  refine⟨b,c,cs.take (k*4)++vs++cs.drop (k*4)++(cur.toList.drop (n*4)).drop 4,h5,.inl rfl,hr,hc,?_,?_,?_,?_⟩
  ·rw[h6]
   exact setRow_heap _ _ _ _ _ _ (setRow_heap _ _ _ _ _ _ hb)
  ·simp only[aP,hA,hB,hvl,hR,eG,gE,hcz]
   omega
  ·rw[cI (by simp only[aP,hA,hB,hvl];omega),aq (by simp only[aP,hA,hB,hvl];omega)]
  ·rw[h6]
   exact acS w b _ _
theorem Sat.to1{P:Program}{X:Cx}{ν:Nat→Nm}{g:G}{a:Act}{w:World}(h:Sat P X ν g a w)(t:Nat):UZ P X ν (nth g.sl t) g.st (a.tmps.getD t Go.undef) w:=by
 refine⟨rfl,fun j=>?_,h.en,h.inj,h.base,h.nu,h.par,h.Jy,h.Da,rfl⟩;cases j with
 | zero=>exact h.sl t
 | succ j=>cases j<;>trivial
theorem PE(aw:List Mod.Row)(k:Nat)(r:Mod.Row)(hk:k<aw.length)(qF:aw.length≤1000):C E.P 212 [.aX 0,iv (k:Int),.aX 1] [some (.aX 153 (cu aw)),some (.aX 153 [tn r])] (jF (.aX 2) [some .dead,some .dead,some (.aX 153 (cu (aw.take k++r::aw.drop k)))]):=by
 refine⟨⟨_,Tryz.func212,rfl,rfl⟩,fun X vs ld hO hs=>?_⟩;obtain⟨v0,v1,v2,rfl⟩:∃v0 v1 v2,vs=[v0,v1,v2]:=by
  have:=hs.size
  match vs,this with
  | [a,b,c],_=>exact⟨a,b,c,rfl⟩
 have e0:aJ X.w0 _ X.ν0 _ (.aX 0) v0:=hs.sl 0;have e1:v1= .int .i64 k:=ig (hs.sl 1);have e2:aJ X.w0 _ X.ν0 _ (.aX 1) v2:=hs.sl 2;simp only[aJ] at e0 e2;obtain⟨us,ho,kS,hB,hf0⟩:=hs.en 0 (.aX 153 (cu aw)) rfl;obtain⟨us',po,prr,pB,pf0⟩:=hs.en 1 (.aX 153 [tn r]) rfl;have hce:E.P.cellsOf 153=4:=(E.ok 153 _ rfl).cells;rw[hce] at ho kS po prr;have hrl:(cu aw).length=aw.length:=by simp[cu]
 rw[hrl] at ho hB;obtain⟨b,c,cur,k1,_,k2,k4,k5,k6,k7⟩:=ho.2.resolve_left (fun h=>by omega);obtain⟨vb,vc,cur',p1,_,p2,p4,p5,p6,p7⟩:=po.2.resolve_left (fun h=>by simp at h);have lj:vb≠b:=fun h=>by have:=hs.inj 0 1 _ _ b rfl rfl rfl rfl ((mi hf0).2 (by rw[k1];rfl)) ((mi pf0).2 (by rw[p1,h];rfl));omega
 have hul:=kS.len;rw[hrl] at hul;have hcall:=Ym X.w0 b c k vb vc aw.length cur cur' us.flatten us'.flatten hk k4 k5 oM lj k2 k6 k7 kS.one p2 (by simpa using p7) (by simpa using po.1) prr.one;have ev:(⟨[v0,v1,v2]⟩:Array Value) = #[.slice (some ⟨b,0,none⟩) aw.length c,.int .i64 k,.slice (some ⟨vb,0,none⟩) 1 vc]:=by rw[e0.2,k1,e1,e2.2,p1];rfl
 rw[ev];refine hcall.mono ?_;rintro e w' ⟨g,G,row,q1,q2,q3,q4,q5,q6,q7,q8⟩;have hrows:cu (aw.take k++r::aw.drop k)=(cu aw).take k++[tn r]++(cu aw).drop k:=by simp[cu]
 have hf1:(us.take k).flatten=us.flatten.take (k*4):=by have:=vR us 0 k kS.hu oM;simpa using this
 have hf2:(us.drop k).flatten=us.flatten.drop (k*4):=by have:=vR us k (us.length-k) kS.hu oM;rw[aq (by simp),aq (by rw[eG,kS.mZ,hrl,hul,Nat.sub_mul];exact aK _)] at this;exact this
 have hrep0:de X.w0 (dk X X.ν0 (dV [some (.aX 153 (cu aw)),some (.aX 153 [tn r])])) 4 (cu (aw.take k++r::aw.drop k)) (us.take k++us'++us.drop k):=by have c1:=kS.cut 0 k;have c2:=kS.cut k ((cu aw).length-k);simp only[List.drop_zero] at c1;rw[aq (by simp),aq (by rw[eG,kS.len];exact aK _)] at c2;rw[hrows];exact(c1.append prr).append c2
 have hnl:(cu (aw.take k++r::aw.drop k)).length=aw.length+1:=by simp[cu];omega
 have hmv:=hs.move (w':=w') (some 0) (fun j hj=>by cases hj;exact⟨_,rfl,rfl⟩)
  (q8.mono fun x hx _=>⟨0,rfl,(mi hf0).2 (by rw[k1,hx];rfl)⟩) 2 rfl (.aX 153 (cu (aw.take k++r::aw.drop k))) ⟨.slice (some ⟨g,0,none⟩) (aw.length+1) G,[]⟩ rfl
  (fun x hx=>by have hx':g=x:=(by simpa[Nm.has,zV] using hx);subst hx';rcases q2 with h|h;exact .inl ⟨0,rfl,(mi hf0).2 (by rw[k1,h];rfl)⟩;exact .inr h) 0 (.aX 2) (.slice (some ⟨g,0,none⟩) (aw.length+1) G)
  (fun ok st ν' hν hw _=>by refine⟨us.take k++us'++us.drop k,?_,?_,?_,by rw[hν]⟩;rw[hν,hce,hnl];refine⟨by rw[hrep0.mZ,hnl],.inr ⟨g,G,row.toArray,rfl,Nat.zero_le _,q5,q3,q4,by simpa using q6,?_⟩⟩;simp only;rw[q7,mQ,mQ,hf1,hf2];rw[hce];exact hrep0.frame hw q8.size;rw[hnl,qq];omega)
  (fun ok st ν' hν ld _ _=>by simp only[aJ];exact⟨by rw[ld];rfl,by rw[hν]⟩)
 obtain⟨ν2,h2⟩:=GG (n0:=2) (P:=E.P) 2 1 153 [tn r] rfl rfl _ _ _ _ (fun j hj=>by rw[ld] at hj;exact qn hj) hmv;exact⟨_,_,_,ν2,q1,⟨rfl,rfl⟩,Sat.to1 h2 0⟩
theorem Tk:Et:=by intro aw k r hk qF;rcases cz k aw.length with h|h;exact PE aw k r h qF;have e:k=aw.length:=oM;subst e;exact P5 aw r qF
end Go.Proofs.YtphcpjhkeipggaaGreat
namespace Go.Proofs.YtphcpjhkeipggaaGreat
open Go.Eng Go.Mod
set_option maxRecDepth 100000
set_option maxHeartbeats 3200000
theorem F9(f:Nat)(xs ys:List eJ)(hf:∀x∈xs,∀y,CN f [av (iL x),av (iL y)] (bv (decide (x=y)))) :
 CN 37 [lv (ia xs),lv (ia ys),.fn f []] (bv (decide (xs=ys))):=by
 refine gT 32 [.tmp 6] hm Tryz.func37 fun hl he cf=>?_
 rcases aa (xs.length=ys.length) with hl' | hl'
 ·try simp -implicitDefEqProofs only[go_sem,Z1,Z2,Z3,Z4,hl']
  refine sI ?_
  refine cS hm (fun(i:Nat)=> i≤ys.length∧decide (xs=ys)=decide (xs.drop i=ys.drop i)) (fun(i:Nat)=> ⟨dN 32 .any [(1,lv (ia ys)),(2,.fn f []),(15,lv (ia xs)),(16,iv ys.length),(17,iv i)],[]⟩) (fun(i:Nat)=> ys.length-i) (0) ?_ (aZ [] ?_ ?_ rfl rfl) ?_
  rotate_left
  ·refine sB ?_
   all_goals(try exact sM)
  ·refine sB ?_
   all_goals(try exact sM)
  rotate_left
  ·simp
  ·rintro i ⟨hi,hg⟩
   rcases aa (i<ys.length) with h1|h1
   ·have h2:i<xs.length:=oM
    rw[ae h1,ae h2] at hg
    try simp -implicitDefEqProofs only[go_sem,Z1,Z2,Z3,Z4,h1,h2]
    refine sI ?_
    have hc:=hf xs[i] (List.getElem_mem h2) ys[i]
    refine aD [] hc ?_
    refine sI ?_
    rcases aa (xs[i]=ys[i]) with h3|h3
    ·try simp -implicitDefEqProofs only[go_sem,Z1,Z2,Z3,Z4,h3]
     refine sI ?_
     refine⟨oM,?_⟩
     refine⟨i+1,?_,sL,aZ [] ?_ ?_ rfl rfl⟩
     rotate_left
     ·refine sB ?_
      all_goals(try exact sM)
     ·refine sB ?_
      all_goals(try exact sM)
     exact⟨oM,by rw[hg];simp only[h3,List.cons.injEq,true_and]⟩
    ·have hg:decide (xs=ys)=false:=by rw[hg];simp only[h3,List.cons.injEq,false_and,decide_false]
     try simp -implicitDefEqProofs only[go_sem,Z1,Z2,Z3,Z4,h3]
     refine sI ?_
     refine oW ?_
     all_goals(first|done|(simp[hg];done)|(simp[hg];omega)|skip)
   ·have hg:decide (xs=ys)=true:=by
     rw[hg,ak oM,ak oM]
     rfl
    try simp -implicitDefEqProofs only[go_sem,Z1,Z2,Z3,Z4,h1]
    refine sI ?_
    refine oW ?_
    all_goals(first|done|(simp[hg];done)|(simp[hg];omega)|skip)
 ·have hn:¬xs=ys:=fun h=>hl' (by rw[h])
  try simp -implicitDefEqProofs only[go_sem,Z1,Z2,Z3,Z4,hl']
  refine sI ?_
  refine oW ?_
  all_goals(first|done|(simp[hn];done)|(simp[hn];omega)|skip)
theorem oy{a b:eJ}:a=b↔a.kind=b.kind∧a.n=b.n∧a.tq=b.tq∧a.a8=b.a8∧a.A=b.A∧a.B=b.B∧a.ar=b.ar:=by cases a;cases b;simp[eJ.kind,eJ.n,eJ.tq,eJ.a8,eJ.A,eJ.B,eJ.ar]
theorem FX(a b:eJ)(ih:∀k∈a.ar,∀y,CN 10 [av (iL k),av (iL y)] (bv (decide (k=y)))):CN 10 [av (iL a),av (iL b)] (bv (decide (a=b))):=by
 refine gT 52 [.tmp 4] hm Tryz.func10 fun hl he cf=>?_;rcases aa (a.kind=b.kind) with h1|h1
 ·rcases aa (a.n=b.n) with h2|h2
  ·(try simp -implicitDefEqProofs only[go_sem,Z1,Z2,Z3,Z4,h1,h2]);refine sI ?_;refine aD [] (vd a.tq b.tq) ?_;refine sI ?_;rcases aa (a.tq=b.tq) with h3|h3
   ·have k3:=eq_true h3;try simp -implicitDefEqProofs only[go_sem,Z1,Z2,Z3,Z4,k3]
    refine sI ?_;refine aD [] (HP a.a8 b.a8) ?_;refine sI ?_;rcases aa (a.a8=b.a8) with h4|h4
    ·have k4:=eq_true h4;try simp -implicitDefEqProofs only[go_sem,Z1,Z2,Z3,Z4,k4]
     refine sI ?_;refine aD [] (gV a.A b.A) ?_;refine sI ?_;rcases aa (a.A=b.A) with h5|h5
     ·have k5:=eq_true h5;try simp -implicitDefEqProofs only[go_sem,Z1,Z2,Z3,Z4,k5]
      refine sI ?_;refine aD [] (gV a.B b.B) ?_;refine sI ?_;rcases aa (a.B=b.B) with h6|h6
      ·have k6:=eq_true h6;try simp -implicitDefEqProofs only[go_sem,Z1,Z2,Z3,Z4,k6]
       refine sI ?_;refine aD [] (F9 10 a.ar b.ar ih) ?_;refine sI ?_;refine oW ?_;all_goals(first|done|(simp[oy,h1,h2,h3,h4,h5,h6];done)|(simp[oy,h1,h2,h3,h4,h5,h6];omega)|skip)
      (try simp -implicitDefEqProofs only[go_sem,Z1,Z2,Z3,Z4,h6]);refine sI ?_;refine oW ?_;all_goals(first|done|(simp[oy,h6];done)|(simp[oy,h6];omega)|skip)
     (try simp -implicitDefEqProofs only[go_sem,Z1,Z2,Z3,Z4,h5]);refine sI ?_;refine oW ?_;all_goals(first|done|(simp[oy,h5];done)|(simp[oy,h5];omega)|skip)
    (try simp -implicitDefEqProofs only[go_sem,Z1,Z2,Z3,Z4,h4]);refine sI ?_;refine oW ?_;all_goals(first|done|(simp[oy,h4];done)|(simp[oy,h4];omega)|skip)
   (try simp -implicitDefEqProofs only[go_sem,Z1,Z2,Z3,Z4,h3]);refine sI ?_;refine oW ?_;all_goals(first|done|(simp[oy,h3];done)|(simp[oy,h3];omega)|skip)
  (try simp -implicitDefEqProofs only[go_sem,Z1,Z2,Z3,Z4,h1,h2]);refine sI ?_;refine oW ?_;all_goals(first|done|(simp[oy,h2];done)|(simp[oy,h2];omega)|skip)
 try simp -implicitDefEqProofs only[go_sem,Z1,Z2,Z3,Z4,h1]
 refine sI ?_;refine oW ?_;all_goals(first|done|(simp[oy,h1];done)|(simp[oy,h1];omega)|skip)
theorem Ir:∀a b,CN 10 [av (iL a),av (iL b)] (bv (decide (a=b))):=
 eJ.ind fun k n w ts a b ks ih y=>FX (.mk k n w ts a b ks) y ih
end Go.Proofs.YtphcpjhkeipggaaGreat
