/-
  The library's slices.Insert at rows of a model, in the midst, at the level of worlds. A step towards the laws.
-/
import Derived.Test.YtnhdminpjihbnaaGreatKAzi
import Derived.Shelf.Spec.SlicesInsert
import Derived.Lib.AppendZerosOnto
set_option linter.unusedVariables false
set_option linter.unusedSimpArgs false
open Array renaming length_toList→fx
open List renaming take_of_length_le→ak,length_append→ay,length_cons→aG,length_take→a6,append_assoc→bm,cons_append→bu,nil_append→bQ,take_append_of_le_length→cH,getElem?_take→dR,length_nil→dW,length_drop→eX,getElem?_drop→eY,take_append_drop→fq,size_toArray→fD,flatten_append→fV,mem_of_mem_drop→kL
open Nat renaming le_refl→aH,lt_or_ge→b7,zero_add→dQ
namespace Go.Proofs.YtnhdminpjihbnaaGreat
open Go.Eng Go.Mod Go.RowKit Go.Lib
set_option maxRecDepth 100000
set_option maxHeartbeats 8000000
set_option linter.unusedVariables false
set_option linter.unusedSimpArgs false
theorem aas(w:World)(b c k vb vc n:Nat)(cur cur':Array Value)(cs vs:List Value)(hi:k<n)(hroom:n+1≤c)(hc:c≤9223372036854775807)(hvb:vb≠b)
 (hb:w.heap[b]?=some (.cells cur 242 (0,0))) (hcz:cur.size=c*4) (hcs:cur.toList.take (n*4)=cs) (h1c:∀v∈cs,v.oneCell'=true)
 (hbv:w.heap[vb]?=some (.cells cur' 242 (0,0))) (hvs:cur'.toList.take 4=vs) (hvl:vs.length=4) (h1v:∀v∈vs,v.oneCell'=true) :
 Calls E.P 175 #[.slice (some ⟨b,0,none⟩) n c,.int .i64 k,.slice (some ⟨vb,0,none⟩) 1 vc] w fun e w'=>
  e= .returned (.slice (some ⟨b,0,none⟩) (n+1) c)∧w'=(w.drew.setRow b (cur.toList.take ((k+1)*4)++cs.drop (k*4)++cur.toList.drop ((k+1)*4+(cs.drop (k*4)).length)).toArray).setRow b
   ((cur.toList.take ((k+1)*4)++cs.drop (k*4)++cur.toList.drop ((k+1)*4+(cs.drop (k*4)).length)).take (k*4)++vs++(cur.toList.take ((k+1)*4)++cs.drop (k*4)++cur.toList.drop ((k+1)*4+(cs.drop (k*4)).length)).drop (k*4+4)).toArray:=by
 obtain⟨P,hP⟩:∃P,P=E.P:=⟨_,rfl⟩
 have t30:P.underlying 61=some (.slice 242):=hP▸(E.ok 61 _ rfl).ty
 have t3:P.underlying 3=some (.int .i64):=hP▸(E.ok 3 _ rfl).ty
 have t4:P.underlying 4=some .bool:=hP▸(E.ok 4 _ rfl).ty
 have u30:=run_underlying t30
 have u3:=run_underlying t3
 have u4:=run_underlying t4
 have z3:∀w,(Go.sizeOf 3).run P w= .ok 1 w:=hP▸(E.ok 3 _ rfl).size
 have z4:∀w,(Go.sizeOf 4).run P w= .ok 1 w:=hP▸(E.ok 4 _ rfl).size
 have z30:∀w,(Go.sizeOf 61).run P w= .ok 1 w:=hP▸(E.ok 61 _ rfl).size
 have z167:∀w,(Go.sizeOf 242).run P w= .ok 4 w:=hP▸(E.ok 242 _ rfl).size
 have mixed:P.follows .mixedOrders=true:=hP▸hm
 have hfn:=Tryz.func175
 rw[←E_P,←hP] at hfn
 have hov0:=Tryz.func215
 rw[←E_P,←hP] at hov0
 have hI:(P.info? 242).map (·.size)=some 4:=by obtain⟨i,zv,i1,i2,_⟩:=(E.ok 242 _ rfl).info;rw[hP,i1];simp[i2];rfl
 rw[←hP]
 clear hP
 have hz2:¬ ((k:Int)=(n:Int)):=oM
 have hw1:IntKind.i64.wrap ((k:Int)+1)=(k:Int)+1:=by rw[IntKind.wrap_i64];omega
 have hb1:(0:Int)≤(k:Int)+1:=oM
 have jY:k≤n:=oM
 have htn:((k:Int)+1).toNat=k+1:=oM
 have hb2:¬ (c=k+1):=oM
 have hb4:¬ (c=k):=oM
 have hb3:(k:Int)≤(n:Int)+1:=oM
 have hsz:(P.info? 242).map (·.size)=some 4:=hI
 have hshb:w.shape? b=some (242,cur.size):=by simp[World.shape?,hb]
 have hshv:w.shape? vb=some (242,cur'.size):=by simp[World.shape?,hbv]
 have hov:∀lb cb,(callFunc 215 #[.slice (some ⟨vb,0,none⟩) 1 vc,.slice (some ⟨b,(k+1)*4,none⟩) lb cb]).run P w= .ok (.value (.bool false)) w:=fun lb cb=>by
  rw[run_callFunc_extern hov0 (by kernel_rfl) (by kernel_rfl) (by kernel_rfl) (e:=Extern.SlicesOverlaps.overlaps #[61,61] #[4]) (by kernel_rfl),
   Lib.run_overlaps_apart w 61 4 242 t30 4 z167 ⟨vb,0,none⟩ ⟨b,(k+1)*4,none⟩ 1 vc lb cb hvb 242 242 cur'.size cur.size hshv hshb oM (by simp[World.frozen?,hbv]) (by simp[World.frozen?,hbv])]
  rfl
 have hcl:cs.length=n*4:=by rw[←hcs];simp;omega
 have hdl:(cs.drop (k*4)).length=(n-k)*4:=by rw[eX,hcl,←Nat.sub_mul]
 have hcell:∀j v,cs[j]?=some v→w.cell? ⟨b,j,none⟩=some v:=fun j v hj=>by rw[←hcs,dR] at hj;split at hj;simpa[World.cell?,hb] using hj;cases hj
 have hcellv:∀j v,vs[j]?=some v→w.cell? ⟨vb,j,none⟩=some v:=fun j v hj=>by rw[←hvs,dR] at hj;split at hj;simpa[World.cell?,hbv] using hj;cases hj
 have hcp1:∀ty dc sc,(Builtin.copy_ #[61,61] ty #[.slice (some ⟨b,(k+1)*4,none⟩) (n-k) dc,.slice (some ⟨b,k*4,none⟩) (n+1-k) sc]).run P w.drew= .ok (goInt ((n-k:Nat):Int)) (w.drew.setRow b (cur.toList.take ((k+1)*4)++cs.drop (k*4)++cur.toList.drop ((k+1)*4+(cs.drop (k*4)).length)).toArray):=fun ty dc sc=>by
  have hmin:Nat.min (n+1-k) (n-k)=n-k:=(by simp only[Nat.min_def];split<;>omega);have h:=sG (P:=P) w.drew 61 61 ty 242 4 b ((k+1)*4) (n-k) dc ⟨b,k*4,none⟩ (n+1-k) sc cur 242 (cs.drop (k*4)) t30 hsz hb (by rw[hmin,hdl])
   (fun j v hj=>by rw[Addr.add_lit];exact hcell (k*4+j) v (by rwa [eY] at hj)) (by rw[hdl,hcz];omega) (fun v hv=>h1c v (kL hv))
  rw[hmin] at h;exact h
 obtain⟨W1,hW1⟩:∃W1,W1=w.drew.setRow b (cur.toList.take ((k+1)*4)++cs.drop (k*4)++cur.toList.drop ((k+1)*4+(cs.drop (k*4)).length)).toArray:=⟨_,rfl⟩
 obtain⟨P3,hrow1⟩:∃P3,P3=cur.toList.take ((k+1)*4)++cs.drop (k*4)++cur.toList.drop ((k+1)*4+(cs.drop (k*4)).length):=⟨_,rfl⟩
 have hrl:P3.length=c*4:=by rw[hrow1];simp;omega
 have hcp2:∀ty dc,(Builtin.copy_ #[61,61] ty #[.slice (some ⟨b,k*4,none⟩) (n+1-k) dc,.slice (some ⟨vb,0,none⟩) 1 vc]).run P W1= .ok (goInt 1) (W1.setRow b (P3.take (k*4)++vs++P3.drop (k*4+4)).toArray):=fun ty dc=>by
  have hmin:Nat.min 1 (n+1-k)=1:=(by simp only[Nat.min_def];split<;>omega);have hW:W1.heap[b]?=some (.cells P3.toArray 242 (0,0)):=(by rw[hW1,←hrow1];exact setRow_heap _ b _ _ _ _ hb);have h:=sG (P:=P) W1 61 61 ty 242 4 b (k*4) (n+1-k) dc ⟨vb,0,none⟩ 1 vc P3.toArray 242 vs t30 hsz hW (by rw[hmin,hvl])
   (fun j v hj=>by rw[Addr.add_lit,dQ,World.cell?_of_block (w:=w) (a:=⟨vb,j,none⟩) (by rw[hW1];exact setRow_other _ b vb _ hvb)];exact hcellv j v hj) (by simp only[fD,hrl,hvl];omega) h1v
  rw[hmin,hvl] at h;simpa using h
 rw[←hrow1] at hcp1⊢
 rw[←hrow1] at hW1
 rw[←hW1] at hcp1⊢
 clear hW1 hrow1
 have hnt:Tryz.f175.ntmps=95:=rfl
 refine calls_of_wp hfn rfl ?_
 simp only[hnt,fD,aG,dW,Nat.reduceAdd,Nat.reduceSub,Array.replicate_succ,Array.replicate_zero,List.push_toArray,List.append_toArray,bQ,bu]
 go_wp2_with (simp only[hov])
 go_region_law_o (refine step_copy_runI rfl _ _ 61 61 rfl _ _ (by simp[Act.eval,Act.put]) (by simp[Act.eval,Act.put]) (hcp1 _ _ _) ?_)
 go_wp2_with (at_builtin;refine wpList_copy_runI _ rfl _ _ 61 61 rfl _ _ rfl rfl (hcp2 _ _) ?_)
 go_ret
 exact⟨rfl,by rw[bm]⟩
theorem adx(w:World)(b c k vb vc n:Nat)(cur cur':Array Value)(cs vs:List Value)(hi:k<n)(hnc:n≤c)(hroom:c<n+1)(hn9:n≤1000000)(hvb:vb≠b)
 (hb:w.heap[b]?=some (.cells cur 242 (0,0))) (hcz:cur.size=c*4) (hcs:cur.toList.take (n*4)=cs) (h1c:∀v∈cs,v.oneCell'=true)
 (hbv:w.heap[vb]?=some (.cells cur' 242 (0,0))) (hvs:cur'.toList.take 4=vs) (hvl:vs.length=4) (h1v:∀v∈vs,v.oneCell'=true) :
 Calls E.P 175 #[.slice (some ⟨b,0,none⟩) n c,.int .i64 k,.slice (some ⟨vb,0,none⟩) 1 vc] w fun e w'=>
  ∃(G:Nat)(ROW:List Value),n+1≤G∧G≤maxLen∧ROW.length=G*4∧ROW.take (k*4)=cs.take (k*4)∧e= .returned (.slice (some ⟨w.heap.size,0,none⟩) (n+1) G) ∧
   w'=((w.drew.alloc (.cells ROW.toArray 242)).setRow w.heap.size (ROW.take (k*4)++vs++ROW.drop (k*4+4)).toArray).drew.setRow w.heap.size
    ((ROW.take (k*4)++vs++ROW.drop (k*4+4)).take ((k+1)*4)++cs.drop (k*4)++(ROW.take (k*4)++vs++ROW.drop (k*4+4)).drop ((k+1)*4+(cs.drop (k*4)).length)).toArray:=by
 obtain⟨P,hP⟩:∃P,P=E.P:=⟨_,rfl⟩
 have t30:P.underlying 61=some (.slice 242):=hP▸(E.ok 61 _ rfl).ty
 have t3:P.underlying 3=some (.int .i64):=hP▸(E.ok 3 _ rfl).ty
 have t4:P.underlying 4=some .bool:=hP▸(E.ok 4 _ rfl).ty
 have u30:=run_underlying t30
 have u3:=run_underlying t3
 have u4:=run_underlying t4
 have z3:∀w,(Go.sizeOf 3).run P w= .ok 1 w:=hP▸(E.ok 3 _ rfl).size
 have z4:∀w,(Go.sizeOf 4).run P w= .ok 1 w:=hP▸(E.ok 4 _ rfl).size
 have z30:∀w,(Go.sizeOf 61).run P w= .ok 1 w:=hP▸(E.ok 61 _ rfl).size
 have z167:∀w,(Go.sizeOf 242).run P w= .ok 4 w:=hP▸(E.ok 242 _ rfl).size
 have mixed:P.follows .mixedOrders=true:=hP▸hm
 have hfn:=Tryz.func175
 rw[←E_P,←hP] at hfn
 obtain⟨i0,zv,hi0,hzs,hzb,hz0,_,hzc⟩:=(E.ok 242 _ rfl).info
 rw[←hP] at hi0
 have hzs:i0.size=4:=hzs
 have hzc:zv.cells.size=4:=hzc
 have hzb:i0.bytes≤1000:=by rw[hzb];simp -implicitDefEqProofs only[go_sem,Int.reduceEq,Int.reduceLT,Int.reduceLE,Int.reduceToNat];omega
 rw[←hP]
 clear hP
 have hsz:(P.info? 242).map (·.size)=some 4:=by rw[hi0];simp[hzs]
 have hz2:¬ ((k:Int)=(n:Int)):=oM
 have hz3:(c:Int)<(n:Int)+1:=oM
 have hw1:IntKind.i64.wrap ((k:Int)+1)=(k:Int)+1:=by rw[IntKind.wrap_i64];omega
 have hb1:(0:Int)≤(k:Int)+1:=oM
 have jY:k≤n:=oM
 have htn:((k:Int)+1).toNat=k+1:=oM
 have hcl:cs.length=n*4:=by rw[←hcs];simp;omega
 have hdl:(cs.drop (k*4)).length=(n-k)*4:=by rw[eX,hcl,←Nat.sub_mul]
 have hbw:b<w.heap.size:=sY hb
 have hvw:vb<w.heap.size:=sY hbv
 have hcell:∀j v,cs[j]?=some v→w.cell? ⟨b,j,none⟩=some v:=fun j v hj=>by rw[←hcs,dR] at hj;split at hj;simpa[World.cell?,hb] using hj;cases hj
 have hcellv:∀j v,vs[j]?=some v→w.cell? ⟨vb,j,none⟩=some v:=fun j v hj=>by rw[←hvs,dR] at hj;split at hj;simpa[World.cell?,hbv] using hj;cases hj
 have hold:(Builtin.firstCells i0.size k (.slice (some ⟨b,0,none⟩) k c)).run P w.drew= .ok (cs.take (k*4)).toArray w.drew:=by
  rw[hzs];exact run_firstCells_some w.drew 4 k ⟨b,0,none⟩ k c (cs.take (k*4)) (by rw[a6];omega) (fun j v hj=>by
   rw[Addr.add_lit,dQ]
   rw[dR] at hj
   split at hj
   ·exact hcell j v hj
   ·cases hj)
 have hkk:(n:Int)+1-(k:Int)=((n+1-k:Nat):Int):=oM
 have hik:k+(n+1-k)=n+1:=oM
 obtain⟨G,hG⟩:∃G,G=grownCap w (n+1) c 242:=⟨_,rfl⟩
 obtain⟨ROW,hROW⟩:∃ROW:List Value,ROW.toArray=(cs.take (k*4)).toArray++Builtin.zeroCells zv.cells (n+1-k)++Builtin.zeroCells zv.cells (G-(n+1)):=⟨_,Array.toArray_toList⟩
 obtain⟨W1,hW1⟩:∃W1,W1=w.drew.alloc (.cells ROW.toArray 242):=⟨_,rfl⟩
 have hGn:n+1≤G:=by rw[hG];exact grownCap_ge w _ _ _
 have hG63:G≤maxLen:=by rw[hG];exact grownCap_le_maxLen w (n+1) c 242 (by unfold maxLen;omega)
 have hrz:∀ty,(Builtin.append_ #[61,3] ty #[.slice (some ⟨b,0,none⟩) k c,.int .i64 ((n:Int)+1-(k:Int))]).run P w= .ok (.slice (some ⟨w.heap.size,0,none⟩) (n+1) G) W1:=fun ty=>by
  have h:=Lib.run_append_grow_zeros w 61 3 ty 242 i0 zv .i64 .i64 t30 t3 hi0 hz0 (some ⟨b,0,none⟩) k c (cs.take (k*4)) hold (n+1-k) oM oM oM oM (by
   have:=Nat.mul_le_mul (show n+1-k≤1000001 by omega) hzb
   omega) (by
   rw[hik]
   refine growslice_fits hroom ?_
   have:=Nat.mul_le_mul (show n+1≤1000001 by omega) hzb
   omega)
  rw[hik,←hG,←hROW,←hW1] at h;rw[hkk];exact h
 have hzl:∀m,(Builtin.zeroCells zv.cells m).toList.length=m*4:=fun m=>by rw[AG zv.cells (by simp[hzc])];simp[hzc]
 have hRl:ROW.length=G*4:=by have:=congrArg Array.size hROW;have h1:=hzl (n+1-k);have h2:=hzl (G-(n+1));simp only[fx] at h1 h2;simp only[fD,Array.size_append,h1,h2,a6,hcl] at this;rw[this,Nat.min_eq_left oM];omega
 have hRt:ROW.take (k*4)=cs.take (k*4):=by have:=congrArg Array.toList hROW;simp only[Array.toList_append] at this;rw[this,bm,cH (by simp[hcl];omega),ak (by simp;omega)]
 have hW1n:W1.heap[w.heap.size]?=some (.cells ROW.toArray 242 (0,0)):=by rw[hW1];exact vW w.drew _
 have hW1o:∀x,x<w.heap.size→W1.heap[x]?=w.heap[x]?:=fun x hx=>by rw[hW1];exact Below.heap_alloc w.drew _ x hx
 obtain⟨row2,hrow2⟩:∃row2,row2=ROW.take (k*4)++vs++ROW.drop (k*4+4):=⟨_,rfl⟩
 have hr2:row2.length=G*4:=by rw[hrow2];simp;omega
 obtain⟨W2,hW2⟩:∃W2,W2=W1.setRow w.heap.size row2.toArray:=⟨_,rfl⟩
 have hcpA:∀ty dc,(Builtin.copy_ #[61,61] ty #[.slice (some ⟨w.heap.size,k*4,none⟩) (n+1-k) dc,.slice (some ⟨vb,0,none⟩) 1 vc]).run P W1= .ok (goInt 1) W2:=fun ty dc=>by
  have hmin:Nat.min 1 (n+1-k)=1:=(by simp only[Nat.min_def];split<;>omega);have h:=sG (P:=P) W1 61 61 ty 242 4 w.heap.size (k*4) (n+1-k) dc ⟨vb,0,none⟩ 1 vc ROW.toArray 242 vs t30 hsz hW1n (by rw[hmin,hvl])
   (fun j v hj=>by rw[Addr.add_lit,dQ,World.cell?_of_block (w:=w) (a:=⟨vb,j,none⟩) (hW1o vb hvw)];exact hcellv j v hj) (by simp only[fD,hRl,hvl];omega) h1v
  rw[hmin,hvl] at h;simp only[←hrow2,←hW2] at h;simpa using h
 have hW2n:W2.drew.heap[w.heap.size]?=some (.cells row2.toArray 242 (0,0)):=by rw[hW2];exact setRow_heap _ _ _ _ _ _ hW1n
 obtain⟨row3,hrow3⟩:∃row3,row3=row2.take ((k+1)*4)++cs.drop (k*4)++row2.drop ((k+1)*4+(cs.drop (k*4)).length):=⟨_,rfl⟩
 obtain⟨W3,hW3⟩:∃W3,W3=W2.drew.setRow w.heap.size row3.toArray:=⟨_,rfl⟩
 have hcpB:∀ty dc sc,(Builtin.copy_ #[61,61] ty #[.slice (some ⟨w.heap.size,(k+1)*4,none⟩) (n-k) dc,.slice (some ⟨b,k*4,none⟩) (n-k) sc]).run P W2.drew= .ok (goInt ((n-k:Nat):Int)) W3:=fun ty dc sc=>by
  have hmin:Nat.min (n-k) (n-k)=n-k:=(by simp only[Nat.min_def];split<;>omega);have h:=sG (P:=P) W2.drew 61 61 ty 242 4 w.heap.size ((k+1)*4) (n-k) dc ⟨b,k*4,none⟩ (n-k) sc row2.toArray 242 (cs.drop (k*4)) t30 hsz hW2n (by rw[hmin,hdl])
   (fun j v hj=>by rw[Addr.add_lit,World.cell?_of_block (w:=w) (a:=⟨b,k*4+j,none⟩) ((show W2.drew.heap[b]?=W1.heap[b]? by rw[hW2];exact setRow_other _ _ _ _ oM).trans (hW1o b hbw))];exact hcell (k*4+j) v (by rwa [eY] at hj)) (by simp only[fD,hr2,hdl];omega) (fun v hv=>h1c v (kL hv))
  rw[hmin] at h;simp only[←hrow3,←hW3] at h;exact h
 have hGi:¬ (G=k):=oM
 have hGim:¬ (G=k+1):=oM
 have hci:¬ (c=k):=oM
 have hb3:(k:Int)≤(n:Int):=oM
 have hG9:G≤9223372036854775807:=hG63
 have goal0:∀(e:Ending)(w':World),e= .returned (.slice (some ⟨w.heap.size,0,none⟩) (n+1) G)∧w'=W3→∃(G:Nat)(ROW:List Value),n+1≤G∧G≤maxLen∧ROW.length=G*4∧ROW.take (k*4)=cs.take (k*4)∧e= .returned (.slice (some ⟨w.heap.size,0,none⟩) (n+1) G) ∧
  w'=((w.drew.alloc (.cells ROW.toArray 242)).setRow w.heap.size (ROW.take (k*4)++vs++ROW.drop (k*4+4)).toArray).drew.setRow w.heap.size
   ((ROW.take (k*4)++vs++ROW.drop (k*4+4)).take ((k+1)*4)++cs.drop (k*4)++(ROW.take (k*4)++vs++ROW.drop (k*4+4)).drop ((k+1)*4+(cs.drop (k*4)).length)).toArray:=by
  rintro e w' ⟨h1,h2⟩
  exact⟨G,ROW,hGn,hG63,hRl,hRt,h1,by rw[h2,hW3,hrow3,hW2,hW1,hrow2]⟩
 refine Calls.mono ?_ goal0
 clear goal0 hrow3 hW3 hrow2 hW2 hW1 hROW hG hkk hik hold hW1o hW1n hW2n hRt hRl hr2
 have hnt:Tryz.f175.ntmps=95:=rfl
 refine calls_of_wp hfn rfl ?_
 simp only[hnt,fD,aG,dW,Nat.reduceAdd,Nat.reduceSub,Array.replicate_succ,Array.replicate_zero,List.push_toArray,List.append_toArray,bQ,bu]
 go_wp2_with (first
  | (at_builtin;refine Lib.wpList_append_run _ rfl _ _ _ _ rfl _ _ rfl rfl _ _ (hrz _) ?_)
  | (at_builtin;refine wpList_copy_runI _ rfl _ _ 61 61 rfl _ _ rfl rfl (hcpA _ _) ?_))
 go_region_law_o (refine step_copy_runI rfl _ _ 61 61 rfl _ _ (by simp[Act.eval,Act.put]) (by simp[Act.eval,Act.put]) (hcpB _ _ _) ?_)
 go_wp2
 go_ret
 exact⟨rfl,rfl⟩
end Go.Proofs.YtnhdminpjihbnaaGreat
namespace Go.Proofs.YtnhdminpjihbnaaGreat
open Go.Eng Go.Mod Go.RowKit
set_option maxRecDepth 100000
set_option maxHeartbeats 1600000
theorem afG(w:World)(b:Nat)(x y:Array Value):uO (fun z=>z=b) w ((w.drew.setRow b x).setRow b y):=
 (((Gc w).mono (B':=fun z=>z=b) fun _ h _=>h.elim).trans (mP _ b x (fun z=>z=b) rfl) fun _ h _=>h).trans (mP _ b y (fun z=>z=b) rfl) fun _ h _=>h
theorem agk(w:World)(b:Nat)(o:Obj)(x y:Array Value):uO (fun z=>z=b) w ((((w.drew.alloc o).setRow w.heap.size x).drew).setRow w.heap.size y):=by
 have h1:uO (fun _=>False) w (w.drew.alloc o):=(Gc w).trans (lG w.drew o) fun _ h _=>h;have h2:uO (fun _=>False) w ((w.drew.alloc o).setRow w.heap.size x):=h1.trans (mP _ w.heap.size x (fun z=>z=w.heap.size) rfl) fun k hk pz=>by omega
 have h3:uO (fun _=>False) w (((w.drew.alloc o).setRow w.heap.size x).drew):=h2.trans (Gc _) fun _ h _=>h;have h4:uO (fun _=>False) w ((((w.drew.alloc o).setRow w.heap.size x).drew).setRow w.heap.size y):=h3.trans (mP _ w.heap.size y (fun z=>z=w.heap.size) rfl) fun k hk pz=>by omega
 exact h4.mono fun _ h _=>h.elim
def akh(w:World)(b n k:Nat)(cs vs:List Value)(e:Ending)(w':World):Prop:=
 ∃(g G:Nat)(row:List Value),e= .returned (.slice (some ⟨g,0,none⟩) (n+1) G)∧(g=b∨w.heap.size≤g)∧n+1≤G∧G≤maxLen∧w'.heap[g]?=some (.cells row.toArray 242 (0,0))∧row.length=G*4 ∧
  row.take ((n+1)*4)=cs.take (k*4)++vs++cs.drop (k*4)∧uO (fun x=>x=b) w w'
theorem Zi(w:World)(b c k vb vc n:Nat)(cur cur':Array Value)(cs vs:List Value)(hi:k<n)(hnc:n≤c)(hc:c≤maxLen)(hn9:n≤1000000)(hvb:vb≠b)
 (hb:w.heap[b]?=some (.cells cur 242 (0,0))) (hcz:cur.size=c*4) (hcs:cur.toList.take (n*4)=cs) (h1c:∀v∈cs,v.oneCell'=true)
 (hbv:w.heap[vb]?=some (.cells cur' 242 (0,0))) (hvs:cur'.toList.take 4=vs) (hvl:vs.length=4) (h1v:∀v∈vs,v.oneCell'=true) :
 Calls E.P 175 #[.slice (some ⟨b,0,none⟩) n c,.int .i64 k,.slice (some ⟨vb,0,none⟩) 1 vc] w (akh w b n k cs vs):=by
 have hcl:cs.length=n*4:=by rw[←hcs];simp;omega
 have hA:(cs.take (k*4)).length=k*4:=by simp[hcl];omega
 have hB:(cs.drop (k*4)).length=(n-k)*4:=by simp[hcl];omega
 rcases b7 c (n+1) with hr|hr
 ·refine(adx w b c k vb vc n cur cur' cs vs hi hnc hr hn9 hvb hb hcz hcs h1c hbv hvs hvl h1v).mono ?_
  rintro e w' ⟨G,ROW,h1,h2,h3,h4,h5,h6⟩
  refine⟨w.heap.size,G,((ROW.take (k*4)++vs++ROW.drop (k*4+4)).take ((k+1)*4)++cs.drop (k*4)++(ROW.take (k*4)++vs++ROW.drop (k*4+4)).drop ((k+1)*4+(cs.drop (k*4)).length)),h5,.inr (aH _),h1,h2,?_,?_,?_,?_⟩
  ·rw[h6]
   exact setRow_heap _ _ _ _ _ _ (setRow_heap _ _ _ _ _ _ (vW w.drew _))
  ·rw[h4]
   simp only[ay,a6,eX,hvl,h3,hcl]
   omega
  ·have e1:(ROW.take (k*4)++vs++ROW.drop (k*4+4)).take ((k+1)*4)=cs.take (k*4)++vs:=by
    rw[h4,cH (by rw[ay,hA,hvl];omega),ak (by rw[ay,hA,hvl];omega)]
   rw[e1,cH (by simp only[ay,hA,hB,hvl];omega),ak (by simp only[ay,hA,hB,hvl];omega)]
  ·rw[h6]
   exact agk w b _ _ _
 ·refine(aas w b c k vb vc n cur cur' cs vs hi hr hc hvb hb hcz hcs h1c hbv hvs hvl h1v).mono ?_
  rintro e w' ⟨h5,h6⟩
  have hcur:cur.toList=cs.take (k*4)++cs.drop (k*4)++cur.toList.drop (n*4):=by rw[fq,←hcs,fq]
  have hR:(cur.toList.drop (n*4)).length=(c-n)*4:=by simp[hcz];omega
  have hs:=XB (cs.take (k*4)) (cs.drop (k*4)) (cur.toList.drop (n*4)) vs (by rw[hR,hvl];omega)
  rw[←hcur,hA,hvl,show k*4+4=(k+1)*4 from by omega] at hs
  have hs':((cur.toList.take ((k+1)*4)++cs.drop (k*4)++cur.toList.drop ((k+1)*4+(cs.drop (k*4)).length)).take (k*4)++vs++(cur.toList.take ((k+1)*4)++cs.drop (k*4)++cur.toList.drop ((k+1)*4+(cs.drop (k*4)).length)).drop (k*4+4))=cs.take (k*4)++vs++cs.drop (k*4)++(cur.toList.drop (n*4)).drop 4:=by rw[show k*4+4=(k+1)*4 from by omega];exact hs
  rw[hs'] at h6
  refine⟨b,c,cs.take (k*4)++vs++cs.drop (k*4)++(cur.toList.drop (n*4)).drop 4,h5,.inl rfl,hr,hc,?_,?_,?_,?_⟩
  ·rw[h6]
   exact setRow_heap _ _ _ _ _ _ (setRow_heap _ _ _ _ _ _ hb)
  ·simp only[ay,hA,hB,hvl,hR,eX,fx,hcz]
   omega
  ·rw[cH (by simp only[ay,hA,hB,hvl];omega),ak (by simp only[ay,hA,hB,hvl];omega)]
  ·rw[h6]
   exact afG w b _ _
theorem Sat.to1{P:Program}{X:Cx}{ν:Nat→Nm}{g:G}{a:Act}{w:World}(h:Sat P X ν g a w)(t:Nat):Xj P X ν (nth g.sl t) g.st (a.tmps.getD t Go.undef) w:=by
 refine⟨rfl,fun j=>?_,h.en,h.inj,h.base,h.nu,h.par,h.J1,h.C4,rfl⟩;cases j with
 | zero=>exact h.sl t
 | succ j=>cases j<;>trivial
theorem P8(aK:List Mod.Row)(k:Nat)(r:Mod.Row)(hk:k<aK.length)(rP:aK.length≤1000):C E.P 175 [.aW 0,iv (k:Int),.aW 1] [some (.aW 242 (fm aK)),some (.aW 242 [BJ r])] (gR (.aW 2) [some .dead,some .dead,some (.aW 242 (fm (aK.take k++r::aK.drop k)))]):=by
 refine⟨⟨_,Tryz.func175,rfl,rfl⟩,fun X vs gY hO hs=>?_⟩;obtain⟨v0,v1,v2,rfl⟩:∃v0 v1 v2,vs=[v0,v1,v2]:=by
  have:=hs.size
  match vs,this with
  | [a,b,c],_=>exact⟨a,b,c,rfl⟩
 have e0:aF X.w0 _ X.ν0 _ (.aW 0) v0:=hs.sl 0;have e1:v1= .int .i64 k:=iB (hs.sl 1);have e2:aF X.w0 _ X.ν0 _ (.aW 1) v2:=hs.sl 2;simp only[aF] at e0 e2;obtain⟨us,ho,k9,hB,hf0⟩:=hs.en 0 (.aW 242 (fm aK)) rfl;obtain⟨us',po,prr,pB,pf0⟩:=hs.en 1 (.aW 242 [BJ r]) rfl;have hce:E.P.cellsOf 242=4:=(E.ok 242 _ rfl).cells;rw[hce] at ho k9 po prr;have hrl:(fm aK).length=aK.length:=by simp[fm]
 rw[hrl] at ho hB;obtain⟨b,c,cur,k1,_,k2,k4,k5,k6,k7⟩:=ho.2.resolve_left (fun h=>by omega);obtain⟨vb,vc,cur',p1,_,p2,p4,p5,p6,p7⟩:=po.2.resolve_left (fun h=>by simp at h);have nI:vb≠b:=fun h=>by have:=hs.inj 0 1 _ _ b rfl rfl rfl rfl ((lx hf0).2 (by rw[k1];rfl)) ((lx pf0).2 (by rw[p1,h];rfl));omega
 have hul:=k9.len;rw[hrl] at hul;have hcall:=Zi X.w0 b c k vb vc aK.length cur cur' us.flatten us'.flatten hk k4 k5 oM nI k2 k6 k7 k9.one p2 (by simpa using p7) (by simpa using po.1) prr.one;have ev:(⟨[v0,v1,v2]⟩:Array Value) = #[.slice (some ⟨b,0,none⟩) aK.length c,.int .i64 k,.slice (some ⟨vb,0,none⟩) 1 vc]:=by rw[e0.2,k1,e1,e2.2,p1];rfl
 rw[ev];refine hcall.mono ?_;rintro e w' ⟨g,G,row,q1,q2,q3,q4,q5,q6,q7,q8⟩;have hrows:fm (aK.take k++r::aK.drop k)=(fm aK).take k++[BJ r]++(fm aK).drop k:=by simp[fm]
 have hf1:(us.take k).flatten=us.flatten.take (k*4):=by have:=vG us 0 k k9.hu oM;simpa using this
 have hf2:(us.drop k).flatten=us.flatten.drop (k*4):=by have:=vG us k (us.length-k) k9.hu oM;rw[ak (by simp),ak (by rw[eX,k9.gM,hrl,hul,Nat.sub_mul];exact aH _)] at this;exact this
 have hrep0:cW X.w0 (dg X X.ν0 (eJ [some (.aW 242 (fm aK)),some (.aW 242 [BJ r])])) 4 (fm (aK.take k++r::aK.drop k)) (us.take k++us'++us.drop k):=by have c1:=k9.cut 0 k;have c2:=k9.cut k ((fm aK).length-k);simp only[List.drop_zero] at c1;rw[ak (by simp),ak (by rw[eX,k9.len];exact aH _)] at c2;rw[hrows];exact(c1.append prr).append c2
 have hnl:(fm (aK.take k++r::aK.drop k)).length=aK.length+1:=by simp[fm];omega
 have hmv:=hs.move (w':=w') (some 0) (fun j hj=>by cases hj;exact⟨_,rfl,rfl⟩)
  (q8.mono fun x hx _=>⟨0,rfl,(lx hf0).2 (by rw[k1,hx];rfl)⟩) 2 rfl (.aW 242 (fm (aK.take k++r::aK.drop k))) ⟨.slice (some ⟨g,0,none⟩) (aK.length+1) G,[]⟩ rfl
  (fun x hx=>by have hx':g=x:=(by simpa[Nm.has,zR] using hx);subst hx';rcases q2 with h|h;exact .inl ⟨0,rfl,(lx hf0).2 (by rw[k1,h];rfl)⟩;exact .inr h) 0 (.aW 2) (.slice (some ⟨g,0,none⟩) (aK.length+1) G)
  (fun ok st ν' hν hw _=>by refine⟨us.take k++us'++us.drop k,?_,?_,?_,by rw[hν]⟩;rw[hν,hce,hnl];refine⟨by rw[hrep0.gM,hnl],.inr ⟨g,G,row.toArray,rfl,Nat.zero_le _,q5,q3,q4,by simpa using q6,?_⟩⟩;simp only;rw[q7,fV,fV,hf1,hf2];rw[hce];exact hrep0.frame hw q8.size;rw[hnl,oc];omega)
  (fun ok st ν' hν gY _ _=>by simp only[aF];exact⟨by rw[gY];rfl,by rw[hν]⟩)
 obtain⟨ν2,h2⟩:=vj (n0:=2) (P:=E.P) 2 1 242 [BJ r] rfl rfl _ _ _ _ (fun j hj=>by rw[gY] at hj;exact qy hj) hmv;exact⟨_,_,_,ν2,q1,⟨rfl,rfl⟩,Sat.to1 h2 0⟩
theorem Uy:Ev:=by intro aK k r hk rP;rcases b7 k aK.length with h|h;exact P8 aK k r h rP;have e:k=aK.length:=oM;subst e;exact Q1 aK r rP
end Go.Proofs.YtnhdminpjihbnaaGreat
