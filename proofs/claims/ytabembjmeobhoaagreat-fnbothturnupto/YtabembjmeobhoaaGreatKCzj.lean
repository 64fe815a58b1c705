/-
  The library's slices.Insert at rows of a model, in the midst, at the level of worlds. A step towards the laws.
-/
import Derived.Test.YtabembjmeobhoaaGreatKCzi
import Derived.Shelf.Spec.SlicesInsert
import Derived.Lib.AppendZerosOnto
set_option linter.unusedVariables false
set_option linter.unusedSimpArgs false
open Array renaming length_toList→fx
open List renaming take_of_length_le→ao,length_append→aR,length_cons→aW,append_assoc→bj,cons_append→bA,nil_append→bC,length_take→bT,take_append_of_le_length→bX,getElem?_take→c9,getElem?_drop→dD,length_nil→dE,size_toArray→eJ,length_drop→eV,mem_of_mem_drop→fM,take_append_drop→iu,flatten_append→kQ
open Nat renaming le_refl→aJ,lt_or_ge→bV,zero_add→di,mul_le_mul→o3
namespace Go.Proofs.YtabembjmeobhoaaGreat
open Go.Eng Go.Mod Go.RowKit Go.Lib
set_option maxRecDepth 100000
set_option maxHeartbeats 8000000
set_option linter.unusedVariables false
set_option linter.unusedSimpArgs false
theorem T8(w:World)(b c k vb vc n:Nat)(cur cur':Array Value)(cs vs:List Value)(hi:k<n)(hroom:n+1≤c)(hc:c≤9223372036854775807)(hvb:vb≠b)
 (hb:w.heap[b]?=some (.cells cur 73 (0,0))) (hcz:cur.size=c*4) (hcs:cur.toList.take (n*4)=cs) (h1c:∀v∈cs,v.oneCell'=true)
 (hbv:w.heap[vb]?=some (.cells cur' 73 (0,0))) (hvs:cur'.toList.take 4=vs) (hvl:vs.length=4) (h1v:∀v∈vs,v.oneCell'=true) :
 Calls E.P 121 #[.slice (some ⟨b,0,none⟩) n c,.int .i64 k,.slice (some ⟨vb,0,none⟩) 1 vc] w fun e w'=>
  e= .returned (.slice (some ⟨b,0,none⟩) (n+1) c)∧w'=(w.drew.setRow b (cur.toList.take ((k+1)*4)++cs.drop (k*4)++cur.toList.drop ((k+1)*4+(cs.drop (k*4)).length)).toArray).setRow b
   ((cur.toList.take ((k+1)*4)++cs.drop (k*4)++cur.toList.drop ((k+1)*4+(cs.drop (k*4)).length)).take (k*4)++vs++(cur.toList.take ((k+1)*4)++cs.drop (k*4)++cur.toList.drop ((k+1)*4+(cs.drop (k*4)).length)).drop (k*4+4)).toArray:=by
 obtain⟨P,hP⟩:∃P,P=E.P:=⟨_,rfl⟩
 have t30:P.underlying 29=some (.slice 73):=hP▸(E.ok 29 _ rfl).ty
 have t3:P.underlying 3=some (.int .i64):=hP▸(E.ok 3 _ rfl).ty
 have t4:P.underlying 4=some .bool:=hP▸(E.ok 4 _ rfl).ty
 have u30:=run_underlying t30
 have u3:=run_underlying t3
 have u4:=run_underlying t4
 have z3:∀w,(Go.sizeOf 3).run P w= .ok 1 w:=hP▸(E.ok 3 _ rfl).size
 have z4:∀w,(Go.sizeOf 4).run P w= .ok 1 w:=hP▸(E.ok 4 _ rfl).size
 have z30:∀w,(Go.sizeOf 29).run P w= .ok 1 w:=hP▸(E.ok 29 _ rfl).size
 have z167:∀w,(Go.sizeOf 73).run P w= .ok 4 w:=hP▸(E.ok 73 _ rfl).size
 have mixed:P.follows .mixedOrders=true:=hP▸hm
 have hfn:=Tryz.func121
 rw[←E_P,←hP] at hfn
 have hov0:=Tryz.func189
 rw[←E_P,←hP] at hov0
 have hI:(P.info? 73).map (·.size)=some 4:=by
  obtain⟨i,zv,i1,i2,_⟩:=(E.ok 73 _ rfl).info
  rw[hP,i1]
  simp[i2]
  rfl
 rw[←hP]
 clear hP
 have hz2:¬ ((k:Int)=(n:Int)):=by omega
 have hw1:IntKind.i64.wrap ((k:Int)+1)=(k:Int)+1:=by rw[IntKind.wrap_i64];omega
 have hb1:(0:Int)≤(k:Int)+1:=by omega
 have kF:k≤n:=by omega
 have htn:((k:Int)+1).toNat=k+1:=by omega
 have hb2:¬ (c=k+1):=by omega
 have hb4:¬ (c=k):=by omega
 have hb3:(k:Int)≤(n:Int)+1:=by omega
 have hsz:(P.info? 73).map (·.size)=some 4:=hI
 have hshb:w.shape? b=some (73,cur.size):=by simp[World.shape?,hb]
 have hshv:w.shape? vb=some (73,cur'.size):=by simp[World.shape?,hbv]
 have hov:∀lb cb,(callFunc 189 #[.slice (some ⟨vb,0,none⟩) 1 vc,.slice (some ⟨b,(k+1)*4,none⟩) lb cb]).run P w= .ok (.value (.bool false)) w:=fun lb cb=>by
  rw[run_callFunc_extern hov0 (by kernel_rfl) (by kernel_rfl) (by kernel_rfl) (e:=Extern.SlicesOverlaps.overlaps #[29,29] #[4]) (by kernel_rfl),
   Lib.run_overlaps_apart w 29 4 73 t30 4 z167 ⟨vb,0,none⟩ ⟨b,(k+1)*4,none⟩ 1 vc lb cb hvb 73 73 cur'.size cur.size hshv hshb (by omega) (by simp[World.frozen?,hbv]) (by simp[World.frozen?,hbv])]
  rfl
 have hcl:cs.length=n*4:=by rw[←hcs];simp;omega
 have hdl:(cs.drop (k*4)).length=(n-k)*4:=by rw[eV,hcl,←Nat.sub_mul]
 have hcell:∀j v,cs[j]?=some v→w.cell? ⟨b,j,none⟩=some v:=fun j v hj=>by
  rw[←hcs,c9] at hj
  split at hj
  ·simpa[World.cell?,hb] using hj
  ·cases hj
 have hcellv:∀j v,vs[j]?=some v→w.cell? ⟨vb,j,none⟩=some v:=fun j v hj=>by
  rw[←hvs,c9] at hj
  split at hj
  ·simpa[World.cell?,hbv] using hj
  ·cases hj
 have hcp1:∀ty dc sc,(Builtin.copy_ #[29,29] ty #[.slice (some ⟨b,(k+1)*4,none⟩) (n-k) dc,.slice (some ⟨b,k*4,none⟩) (n+1-k) sc]).run P w.drew= .ok (goInt ((n-k:Nat):Int)) (w.drew.setRow b (cur.toList.take ((k+1)*4)++cs.drop (k*4)++cur.toList.drop ((k+1)*4+(cs.drop (k*4)).length)).toArray):=fun ty dc sc=>by
  have hmin:Nat.min (n+1-k) (n-k)=n-k:=by simp only[Nat.min_def];split<;>omega
  have h:=qi (P:=P) w.drew 29 29 ty 73 4 b ((k+1)*4) (n-k) dc ⟨b,k*4,none⟩ (n+1-k) sc cur 73 (cs.drop (k*4)) t30 hsz hb (by rw[hmin,hdl])
   (fun j v hj=>by rw[Addr.add_lit];exact hcell (k*4+j) v (by rwa [dD] at hj)) (by rw[hdl,hcz];omega) (fun v hv=>h1c v (fM hv))
  rw[hmin] at h
  exact h
 obtain⟨W1,hW1⟩:∃W1,W1=w.drew.setRow b (cur.toList.take ((k+1)*4)++cs.drop (k*4)++cur.toList.drop ((k+1)*4+(cs.drop (k*4)).length)).toArray:=⟨_,rfl⟩
 obtain⟨MJ,hrow1⟩:∃MJ,MJ=cur.toList.take ((k+1)*4)++cs.drop (k*4)++cur.toList.drop ((k+1)*4+(cs.drop (k*4)).length):=⟨_,rfl⟩
 have hrl:MJ.length=c*4:=by rw[hrow1];simp;omega
 have hcp2:∀ty dc,(Builtin.copy_ #[29,29] ty #[.slice (some ⟨b,k*4,none⟩) (n+1-k) dc,.slice (some ⟨vb,0,none⟩) 1 vc]).run P W1= .ok (goInt 1) (W1.setRow b (MJ.take (k*4)++vs++MJ.drop (k*4+4)).toArray):=fun ty dc=>by
  have hmin:Nat.min 1 (n+1-k)=1:=by simp only[Nat.min_def];split<;>omega
  have hW:W1.heap[b]?=some (.cells MJ.toArray 73 (0,0)):=by rw[hW1,←hrow1];exact setRow_heap _ b _ _ _ _ hb
  have h:=qi (P:=P) W1 29 29 ty 73 4 b (k*4) (n+1-k) dc ⟨vb,0,none⟩ 1 vc MJ.toArray 73 vs t30 hsz hW (by rw[hmin,hvl])
   (fun j v hj=>by
    rw[Addr.add_lit,di,World.cell?_of_block (w:=w) (a:=⟨vb,j,none⟩) (by rw[hW1];exact setRow_other _ b vb _ hvb)]
    exact hcellv j v hj) (by simp only[eJ,hrl,hvl];omega) h1v
  rw[hmin,hvl] at h
  simpa using h
 rw[←hrow1] at hcp1⊢
 rw[←hrow1] at hW1
 rw[←hW1] at hcp1⊢
 clear hW1 hrow1
 have hnt:Tryz.f121.ntmps=95:=rfl
 refine calls_of_wp hfn rfl ?_
 simp only[hnt,eJ,aW,dE,Nat.reduceAdd,Nat.reduceSub,Array.replicate_succ,Array.replicate_zero,List.push_toArray,List.append_toArray,bC,bA]
 go_wp2_with (simp only[hov])
 go_region_law_o (refine step_copy_runI rfl _ _ 29 29 rfl _ _ (by simp[Act.eval,Act.put]) (by simp[Act.eval,Act.put]) (hcp1 _ _ _) ?_)
 go_wp2_with (at_builtin;refine wpList_copy_runI _ rfl _ _ 29 29 rfl _ _ rfl rfl (hcp2 _ _) ?_)
 go_ret
 exact⟨rfl,by rw[bj]⟩
theorem Xg(w:World)(b c k vb vc n:Nat)(cur cur':Array Value)(cs vs:List Value)(hi:k<n)(hnc:n≤c)(hroom:c<n+1)(hn9:n≤1000000)(hvb:vb≠b)
 (hb:w.heap[b]?=some (.cells cur 73 (0,0))) (hcz:cur.size=c*4) (hcs:cur.toList.take (n*4)=cs) (h1c:∀v∈cs,v.oneCell'=true)
 (hbv:w.heap[vb]?=some (.cells cur' 73 (0,0))) (hvs:cur'.toList.take 4=vs) (hvl:vs.length=4) (h1v:∀v∈vs,v.oneCell'=true) :
 Calls E.P 121 #[.slice (some ⟨b,0,none⟩) n c,.int .i64 k,.slice (some ⟨vb,0,none⟩) 1 vc] w fun e w'=>
  ∃(G:Nat)(ROW:List Value),n+1≤G∧G≤maxLen∧ROW.length=G*4∧ROW.take (k*4)=cs.take (k*4)∧e= .returned (.slice (some ⟨w.heap.size,0,none⟩) (n+1) G) ∧
   w'=((w.drew.alloc (.cells ROW.toArray 73)).setRow w.heap.size (ROW.take (k*4)++vs++ROW.drop (k*4+4)).toArray).drew.setRow w.heap.size
    ((ROW.take (k*4)++vs++ROW.drop (k*4+4)).take ((k+1)*4)++cs.drop (k*4)++(ROW.take (k*4)++vs++ROW.drop (k*4+4)).drop ((k+1)*4+(cs.drop (k*4)).length)).toArray:=by
 obtain⟨P,hP⟩:∃P,P=E.P:=⟨_,rfl⟩
 have t30:P.underlying 29=some (.slice 73):=hP▸(E.ok 29 _ rfl).ty
 have t3:P.underlying 3=some (.int .i64):=hP▸(E.ok 3 _ rfl).ty
 have t4:P.underlying 4=some .bool:=hP▸(E.ok 4 _ rfl).ty
 have u30:=run_underlying t30
 have u3:=run_underlying t3
 have u4:=run_underlying t4
 have z3:∀w,(Go.sizeOf 3).run P w= .ok 1 w:=hP▸(E.ok 3 _ rfl).size
 have z4:∀w,(Go.sizeOf 4).run P w= .ok 1 w:=hP▸(E.ok 4 _ rfl).size
 have z30:∀w,(Go.sizeOf 29).run P w= .ok 1 w:=hP▸(E.ok 29 _ rfl).size
 have z167:∀w,(Go.sizeOf 73).run P w= .ok 4 w:=hP▸(E.ok 73 _ rfl).size
 have mixed:P.follows .mixedOrders=true:=hP▸hm
 have hfn:=Tryz.func121
 rw[←E_P,←hP] at hfn
 obtain⟨i0,zv,hi0,hzs,hzb,hz0,_,hzc⟩:=(E.ok 73 _ rfl).info
 rw[←hP] at hi0
 have hzs:i0.size=4:=hzs
 have hzc:zv.cells.size=4:=hzc
 have hzb:i0.bytes≤1000:=by rw[hzb];simp -implicitDefEqProofs only[go_sem,Int.reduceEq,Int.reduceLT,Int.reduceLE,Int.reduceToNat];omega
 rw[←hP]
 clear hP
 have hsz:(P.info? 73).map (·.size)=some 4:=by rw[hi0];simp[hzs]
 have hz2:¬ ((k:Int)=(n:Int)):=by omega
 have hz3:(c:Int)<(n:Int)+1:=by omega
 have hw1:IntKind.i64.wrap ((k:Int)+1)=(k:Int)+1:=by rw[IntKind.wrap_i64];omega
 have hb1:(0:Int)≤(k:Int)+1:=by omega
 have kF:k≤n:=by omega
 have htn:((k:Int)+1).toNat=k+1:=by omega
 have hcl:cs.length=n*4:=by rw[←hcs];simp;omega
 have hdl:(cs.drop (k*4)).length=(n-k)*4:=by rw[eV,hcl,←Nat.sub_mul]
 have hbw:b<w.heap.size:=qh hb
 have hvw:vb<w.heap.size:=qh hbv
 have hcell:∀j v,cs[j]?=some v→w.cell? ⟨b,j,none⟩=some v:=fun j v hj=>by
  rw[←hcs,c9] at hj
  split at hj
  ·simpa[World.cell?,hb] using hj
  ·cases hj
 have hcellv:∀j v,vs[j]?=some v→w.cell? ⟨vb,j,none⟩=some v:=fun j v hj=>by
  rw[←hvs,c9] at hj
  split at hj
  ·simpa[World.cell?,hbv] using hj
  ·cases hj
 have hold:(Builtin.firstCells i0.size k (.slice (some ⟨b,0,none⟩) k c)).run P w.drew= .ok (cs.take (k*4)).toArray w.drew:=by
  rw[hzs]
  exact run_firstCells_some w.drew 4 k ⟨b,0,none⟩ k c (cs.take (k*4)) (by rw[bT];omega) (fun j v hj=>by
   rw[Addr.add_lit,di]
   rw[c9] at hj
   split at hj
   ·exact hcell j v hj
   ·cases hj)
 have hkk:(n:Int)+1-(k:Int)=((n+1-k:Nat):Int):=by omega
 have hik:k+(n+1-k)=n+1:=by omega
 obtain⟨G,hG⟩:∃G,G=grownCap w (n+1) c 73:=⟨_,rfl⟩
 obtain⟨ROW,hROW⟩:∃ROW:List Value,ROW.toArray=(cs.take (k*4)).toArray++Builtin.zeroCells zv.cells (n+1-k)++Builtin.zeroCells zv.cells (G-(n+1)):=⟨_,Array.toArray_toList⟩
 obtain⟨W1,hW1⟩:∃W1,W1=w.drew.alloc (.cells ROW.toArray 73):=⟨_,rfl⟩
 have hGn:n+1≤G:=by rw[hG];exact grownCap_ge w _ _ _
 have hG63:G≤maxLen:=by
  rw[hG]
  exact grownCap_le_maxLen w (n+1) c 73 (by unfold maxLen;omega)
 have hrz:∀ty,(Builtin.append_ #[29,3] ty #[.slice (some ⟨b,0,none⟩) k c,.int .i64 ((n:Int)+1-(k:Int))]).run P w= .ok (.slice (some ⟨w.heap.size,0,none⟩) (n+1) G) W1:=fun ty=>by
  have h:=Lib.run_append_grow_zeros w 29 3 ty 73 i0 zv .i64 .i64 t30 t3 hi0 hz0 (some ⟨b,0,none⟩) k c (cs.take (k*4)) hold (n+1-k) (by omega) (by omega) (by omega) (by omega) (by
   have:=o3 (show n+1-k≤1000001 by omega) hzb
   omega) (by
   rw[hik]
   refine growslice_fits hroom ?_
   have:=o3 (show n+1≤1000001 by omega) hzb
   omega)
  rw[hik,←hG,←hROW,←hW1] at h
  rw[hkk]
  exact h
 have hzl:∀m,(Builtin.zeroCells zv.cells m).toList.length=m*4:=fun m=>by
  rw[wT zv.cells (by simp[hzc])]
  simp[hzc]
 have hRl:ROW.length=G*4:=by
  have:=congrArg Array.size hROW
  have h1:=hzl (n+1-k)
  have h2:=hzl (G-(n+1))
  simp only[fx] at h1 h2
  simp only[eJ,Array.size_append,h1,h2,bT,hcl] at this
  rw[this,Nat.min_eq_left (by omega)]
  omega
 have hRt:ROW.take (k*4)=cs.take (k*4):=by
  have:=congrArg Array.toList hROW
  simp only[Array.toList_append] at this
  rw[this,bj,bX (by simp[hcl];omega),ao (by simp;omega)]
 have hW1n:W1.heap[w.heap.size]?=some (.cells ROW.toArray 73 (0,0)):=by rw[hW1];exact rZ w.drew _
 have hW1o:∀x,x<w.heap.size→W1.heap[x]?=w.heap[x]?:=fun x hx=>by rw[hW1];exact Below.heap_alloc w.drew _ x hx
 obtain⟨row2,hrow2⟩:∃row2,row2=ROW.take (k*4)++vs++ROW.drop (k*4+4):=⟨_,rfl⟩
 have hr2:row2.length=G*4:=by rw[hrow2];simp;omega
 obtain⟨W2,hW2⟩:∃W2,W2=W1.setRow w.heap.size row2.toArray:=⟨_,rfl⟩
 have hcpA:∀ty dc,(Builtin.copy_ #[29,29] ty #[.slice (some ⟨w.heap.size,k*4,none⟩) (n+1-k) dc,.slice (some ⟨vb,0,none⟩) 1 vc]).run P W1= .ok (goInt 1) W2:=fun ty dc=>by
  have hmin:Nat.min 1 (n+1-k)=1:=by simp only[Nat.min_def];split<;>omega
  have h:=qi (P:=P) W1 29 29 ty 73 4 w.heap.size (k*4) (n+1-k) dc ⟨vb,0,none⟩ 1 vc ROW.toArray 73 vs t30 hsz hW1n (by rw[hmin,hvl])
   (fun j v hj=>by
    rw[Addr.add_lit,di,World.cell?_of_block (w:=w) (a:=⟨vb,j,none⟩) (hW1o vb hvw)]
    exact hcellv j v hj) (by simp only[eJ,hRl,hvl];omega) h1v
  rw[hmin,hvl] at h
  simp only[←hrow2,←hW2] at h
  simpa using h
 have hW2n:W2.drew.heap[w.heap.size]?=some (.cells row2.toArray 73 (0,0)):=by rw[hW2];exact setRow_heap _ _ _ _ _ _ hW1n
 obtain⟨row3,hrow3⟩:∃row3,row3=row2.take ((k+1)*4)++cs.drop (k*4)++row2.drop ((k+1)*4+(cs.drop (k*4)).length):=⟨_,rfl⟩
 obtain⟨W3,hW3⟩:∃W3,W3=W2.drew.setRow w.heap.size row3.toArray:=⟨_,rfl⟩
 have hcpB:∀ty dc sc,(Builtin.copy_ #[29,29] ty #[.slice (some ⟨w.heap.size,(k+1)*4,none⟩) (n-k) dc,.slice (some ⟨b,k*4,none⟩) (n-k) sc]).run P W2.drew= .ok (goInt ((n-k:Nat):Int)) W3:=fun ty dc sc=>by
  have hmin:Nat.min (n-k) (n-k)=n-k:=by simp only[Nat.min_def];split<;>omega
  have h:=qi (P:=P) W2.drew 29 29 ty 73 4 w.heap.size ((k+1)*4) (n-k) dc ⟨b,k*4,none⟩ (n-k) sc row2.toArray 73 (cs.drop (k*4)) t30 hsz hW2n (by rw[hmin,hdl])
   (fun j v hj=>by
    rw[Addr.add_lit,World.cell?_of_block (w:=w) (a:=⟨b,k*4+j,none⟩) ((show W2.drew.heap[b]?=W1.heap[b]? by rw[hW2];exact setRow_other _ _ _ _ (by omega)).trans (hW1o b hbw))]
    exact hcell (k*4+j) v (by rwa [dD] at hj)) (by simp only[eJ,hr2,hdl];omega) (fun v hv=>h1c v (fM hv))
  rw[hmin] at h
  simp only[←hrow3,←hW3] at h
  exact h
 have hGi:¬ (G=k):=by omega
 have hGim:¬ (G=k+1):=by omega
 have hci:¬ (c=k):=by omega
 have hb3:(k:Int)≤(n:Int):=by omega
 have hG9:G≤9223372036854775807:=hG63
 have goal0:∀(e:Ending)(w':World),e= .returned (.slice (some ⟨w.heap.size,0,none⟩) (n+1) G)∧w'=W3→∃(G:Nat)(ROW:List Value),n+1≤G∧G≤maxLen∧ROW.length=G*4∧ROW.take (k*4)=cs.take (k*4)∧e= .returned (.slice (some ⟨w.heap.size,0,none⟩) (n+1) G) ∧
  w'=((w.drew.alloc (.cells ROW.toArray 73)).setRow w.heap.size (ROW.take (k*4)++vs++ROW.drop (k*4+4)).toArray).drew.setRow w.heap.size
   ((ROW.take (k*4)++vs++ROW.drop (k*4+4)).take ((k+1)*4)++cs.drop (k*4)++(ROW.take (k*4)++vs++ROW.drop (k*4+4)).drop ((k+1)*4+(cs.drop (k*4)).length)).toArray:=by
  rintro e w' ⟨h1,h2⟩
  exact⟨G,ROW,hGn,hG63,hRl,hRt,h1,by rw[h2,hW3,hrow3,hW2,hW1,hrow2]⟩
 refine Calls.mono ?_ goal0
 clear goal0 hrow3 hW3 hrow2 hW2 hW1 hROW hG hkk hik hold hW1o hW1n hW2n hRt hRl hr2
 have hnt:Tryz.f121.ntmps=95:=rfl
 refine calls_of_wp hfn rfl ?_
 simp only[hnt,eJ,aW,dE,Nat.reduceAdd,Nat.reduceSub,Array.replicate_succ,Array.replicate_zero,List.push_toArray,List.append_toArray,bC,bA]
 go_wp2_with (first
  | (at_builtin;refine Lib.wpList_append_run _ rfl _ _ _ _ rfl _ _ rfl rfl _ _ (hrz _) ?_)
  | (at_builtin;refine wpList_copy_runI _ rfl _ _ 29 29 rfl _ _ rfl rfl (hcpA _ _) ?_))
 go_region_law_o (refine step_copy_runI rfl _ _ 29 29 rfl _ _ (by simp[Act.eval,Act.put]) (by simp[Act.eval,Act.put]) (hcpB _ _ _) ?_)
 go_wp2
 go_ret
 exact⟨rfl,rfl⟩
end Go.Proofs.YtabembjmeobhoaaGreat
namespace Go.Proofs.YtabembjmeobhoaaGreat
open Go.Eng Go.Mod Go.RowKit
set_option maxRecDepth 100000
set_option maxHeartbeats 1600000
theorem XV(w:World)(b:Nat)(x y:Array Value):sH (fun z=>z=b) w ((w.drew.setRow b x).setRow b y):=
 (((Ci w).mono (B':=fun z=>z=b) fun _ h _=>h.elim).trans (kI _ b x (fun z=>z=b) rfl) fun _ h _=>h).trans (kI _ b y (fun z=>z=b) rfl) fun _ h _=>h
theorem YA(w:World)(b:Nat)(o:Obj)(x y:Array Value):sH (fun z=>z=b) w ((((w.drew.alloc o).setRow w.heap.size x).drew).setRow w.heap.size y):=by
 have h1:sH (fun _=>False) w (w.drew.alloc o):=(Ci w).trans (jF w.drew o) fun _ h _=>h
 have h2:sH (fun _=>False) w ((w.drew.alloc o).setRow w.heap.size x):=h1.trans (kI _ w.heap.size x (fun z=>z=w.heap.size) rfl) fun k hk lQ=>by omega
 have h3:sH (fun _=>False) w (((w.drew.alloc o).setRow w.heap.size x).drew):=h2.trans (Ci _) fun _ h _=>h
 have h4:sH (fun _=>False) w ((((w.drew.alloc o).setRow w.heap.size x).drew).setRow w.heap.size y):=h3.trans (kI _ w.heap.size y (fun z=>z=w.heap.size) rfl) fun k hk lQ=>by omega
 exact h4.mono fun _ h _=>h.elim
def acx(w:World)(b n k:Nat)(cs vs:List Value)(e:Ending)(w':World):Prop:=
 ∃(g G:Nat)(row:List Value),e= .returned (.slice (some ⟨g,0,none⟩) (n+1) G)∧(g=b∨w.heap.size≤g)∧n+1≤G∧G≤maxLen∧w'.heap[g]?=some (.cells row.toArray 73 (0,0))∧row.length=G*4 ∧
  row.take ((n+1)*4)=cs.take (k*4)++vs++cs.drop (k*4)∧sH (fun x=>x=b) w w'
theorem Ti(w:World)(b c k vb vc n:Nat)(cur cur':Array Value)(cs vs:List Value)(hi:k<n)(hnc:n≤c)(hc:c≤maxLen)(hn9:n≤1000000)(hvb:vb≠b)
 (hb:w.heap[b]?=some (.cells cur 73 (0,0))) (hcz:cur.size=c*4) (hcs:cur.toList.take (n*4)=cs) (h1c:∀v∈cs,v.oneCell'=true)
 (hbv:w.heap[vb]?=some (.cells cur' 73 (0,0))) (hvs:cur'.toList.take 4=vs) (hvl:vs.length=4) (h1v:∀v∈vs,v.oneCell'=true) :
 Calls E.P 121 #[.slice (some ⟨b,0,none⟩) n c,.int .i64 k,.slice (some ⟨vb,0,none⟩) 1 vc] w (acx w b n k cs vs):=by
 have hcl:cs.length=n*4:=by rw[←hcs];simp;omega
 have hA:(cs.take (k*4)).length=k*4:=by simp[hcl];omega
 have hB:(cs.drop (k*4)).length=(n-k)*4:=by simp[hcl];omega
 rcases bV c (n+1) with hr|hr
 ·refine(Xg w b c k vb vc n cur cur' cs vs hi hnc hr hn9 hvb hb hcz hcs h1c hbv hvs hvl h1v).mono ?_
  rintro e w' ⟨G,ROW,h1,h2,h3,h4,h5,h6⟩
  refine⟨w.heap.size,G,((ROW.take (k*4)++vs++ROW.drop (k*4+4)).take ((k+1)*4)++cs.drop (k*4)++(ROW.take (k*4)++vs++ROW.drop (k*4+4)).drop ((k+1)*4+(cs.drop (k*4)).length)),h5,.inr (aJ _),h1,h2,?_,?_,?_,?_⟩
  ·rw[h6]
   exact setRow_heap _ _ _ _ _ _ (setRow_heap _ _ _ _ _ _ (rZ w.drew _))
  ·rw[h4]
   simp only[aR,bT,eV,hvl,h3,hcl]
   omega
  ·have e1:(ROW.take (k*4)++vs++ROW.drop (k*4+4)).take ((k+1)*4)=cs.take (k*4)++vs:=by
    rw[h4,bX (by rw[aR,hA,hvl];omega),ao (by rw[aR,hA,hvl];omega)]
   rw[e1,bX (by simp only[aR,hA,hB,hvl];omega),ao (by simp only[aR,hA,hB,hvl];omega)]
  ·rw[h6]
   exact YA w b _ _ _
 ·refine(T8 w b c k vb vc n cur cur' cs vs hi hr hc hvb hb hcz hcs h1c hbv hvs hvl h1v).mono ?_
  rintro e w' ⟨h5,h6⟩
  have hcur:cur.toList=cs.take (k*4)++cs.drop (k*4)++cur.toList.drop (n*4):=by
   rw[iu,←hcs,iu]
  have hR:(cur.toList.drop (n*4)).length=(c-n)*4:=by simp[hcz];omega
  have hs:=P7 (cs.take (k*4)) (cs.drop (k*4)) (cur.toList.drop (n*4)) vs (by rw[hR,hvl];omega)
  rw[←hcur,hA,hvl,show k*4+4=(k+1)*4 from by omega] at hs
  have hs':((cur.toList.take ((k+1)*4)++cs.drop (k*4)++cur.toList.drop ((k+1)*4+(cs.drop (k*4)).length)).take (k*4)++vs++(cur.toList.take ((k+1)*4)++cs.drop (k*4)++cur.toList.drop ((k+1)*4+(cs.drop (k*4)).length)).drop (k*4+4))=cs.take (k*4)++vs++cs.drop (k*4)++(cur.toList.drop (n*4)).drop 4:=by
   rw[show k*4+4=(k+1)*4 from by omega]
   exact hs
  rw[hs'] at h6
  refine⟨b,c,cs.take (k*4)++vs++cs.drop (k*4)++(cur.toList.drop (n*4)).drop 4,h5,.inl rfl,hr,hc,?_,?_,?_,?_⟩
  ·rw[h6]
   exact setRow_heap _ _ _ _ _ _ (setRow_heap _ _ _ _ _ _ hb)
  ·simp only[aR,hA,hB,hvl,hR,eV,fx,hcz]
   omega
  ·rw[bX (by simp only[aR,hA,hB,hvl];omega),ao (by simp only[aR,hA,hB,hvl];omega)]
  ·rw[h6]
   exact XV w b _ _
theorem Sat.to1{P:Program}{X:Cx}{ν:Nat→Nm}{g:G}{a:Act}{w:World}(h:Sat P X ν g a w)(t:Nat):Rr P X ν (nth g.sl t) g.st (a.tmps.getD t Go.undef) w:=by
 refine⟨rfl,fun j=>?_,h.en,h.inj,h.base,h.nu,h.par,h.Fk,h.Ai,rfl⟩
 cases j with
 | zero=>exact h.sl t
 | succ j=>cases j<;>trivial
theorem LZ(rows:List Mod.Row)(k:Nat)(r:Mod.Row)(hk:k<rows.length)(o6:rows.length≤1000):C E.P 121 [.acc 0,iv (k:Int),.acc 1] [some (.acc 73 (bU rows)),some (.acc 73 [qo r])] (bD (.acc 2) [some .dead,some .dead,some (.acc 73 (bU (rows.take k++r::rows.drop k)))]):=by
 refine⟨⟨_,Tryz.func121,rfl,rfl⟩,fun X vs jC hO hs=>?_⟩
 obtain⟨v0,v1,v2,rfl⟩:∃v0 v1 v2,vs=[v0,v1,v2]:=by
  have:=hs.size
  match vs,this with
  | [a,b,c],_=>exact⟨a,b,c,rfl⟩
 have e0:aF X.w0 _ X.ν0 _ (.acc 0) v0:=hs.sl 0
 have e1:v1= .int .i64 k:=fV (hs.sl 1)
 have e2:aF X.w0 _ X.ν0 _ (.acc 1) v2:=hs.sl 2
 simp only[aF] at e0 e2
 obtain⟨us,ho,jl,hB,hf0⟩:=hs.en 0 (.acc 73 (bU rows)) rfl
 obtain⟨us',po,prr,pB,pf0⟩:=hs.en 1 (.acc 73 [qo r]) rfl
 have hce:E.P.cellsOf 73=4:=(E.ok 73 _ rfl).cells
 rw[hce] at ho jl po prr
 have hrl:(bU rows).length=rows.length:=by simp[bU]
 rw[hrl] at ho hB
 obtain⟨b,c,cur,k1,_,k2,k4,k5,k6,k7⟩:=ho.2.resolve_left (fun h=>by omega)
 obtain⟨vb,vc,cur',p1,_,p2,p4,p5,p6,p7⟩:=po.2.resolve_left (fun h=>by simp at h)
 have jD:vb≠b:=fun h=>by
  have:=hs.inj 0 1 _ _ b rfl rfl rfl rfl ((kv hf0).2 (by rw[k1];rfl)) ((kv pf0).2 (by rw[p1,h];rfl))
  omega
 have hul:=jl.len
 rw[hrl] at hul
 have hcall:=Ti X.w0 b c k vb vc rows.length cur cur' us.flatten us'.flatten hk k4 k5 (by omega) jD k2 k6 k7 jl.one p2 (by simpa using p7) (by simpa using po.1) prr.one
 have ev:(⟨[v0,v1,v2]⟩:Array Value) = #[.slice (some ⟨b,0,none⟩) rows.length c,.int .i64 k,.slice (some ⟨vb,0,none⟩) 1 vc]:=by
  rw[e0.2,k1,e1,e2.2,p1]
  rfl
 rw[ev]
 refine hcall.mono ?_
 rintro e w' ⟨g,G,row,q1,q2,q3,q4,q5,q6,q7,q8⟩
 have hrows:bU (rows.take k++r::rows.drop k)=(bU rows).take k++[qo r]++(bU rows).drop k:=by simp[bU]
 have hf1:(us.take k).flatten=us.flatten.take (k*4):=by
  have:=sa us 0 k jl.hu (by omega)
  simpa using this
 have hf2:(us.drop k).flatten=us.flatten.drop (k*4):=by
  have:=sa us k (us.length-k) jl.hu (by omega)
  rw[ao (by simp),ao (by rw[eV,jl.kZ,hrl,hul,Nat.sub_mul];exact aJ _)] at this
  exact this
 have hrep0:cC X.w0 (cG X X.ν0 (da [some (.acc 73 (bU rows)),some (.acc 73 [qo r])])) 4 (bU (rows.take k++r::rows.drop k)) (us.take k++us'++us.drop k):=by
  have c1:=jl.cut 0 k
  have c2:=jl.cut k ((bU rows).length-k)
  simp only[List.drop_zero] at c1
  rw[ao (by simp),ao (by rw[eV,jl.len];exact aJ _)] at c2
  rw[hrows]
  exact(c1.append prr).append c2
 have hnl:(bU (rows.take k++r::rows.drop k)).length=rows.length+1:=by simp[bU];omega
 have hmv:=hs.move (w':=w') (some 0) (fun j hj=>by cases hj;exact⟨_,rfl,rfl⟩)
  (q8.mono fun x hx _=>⟨0,rfl,(kv hf0).2 (by rw[k1,hx];rfl)⟩) 2 rfl (.acc 73 (bU (rows.take k++r::rows.drop k))) ⟨.slice (some ⟨g,0,none⟩) (rows.length+1) G,[]⟩ rfl
  (fun x hx=>by
   have hx':g=x:=by simpa[Nm.has,wL] using hx
   subst hx'
   rcases q2 with h|h
   ·exact .inl ⟨0,rfl,(kv hf0).2 (by rw[k1,h];rfl)⟩
   ·exact .inr h) 0 (.acc 2) (.slice (some ⟨g,0,none⟩) (rows.length+1) G)
  (fun ok st ν' hν hw _=>by
   refine⟨us.take k++us'++us.drop k,?_,?_,?_,by rw[hν]⟩
   ·rw[hν,hce,hnl]
    refine⟨by rw[hrep0.kZ,hnl],.inr ⟨g,G,row.toArray,rfl,Nat.zero_le _,q5,q3,q4,by simpa using q6,?_⟩⟩
    simp only
    rw[q7,kQ,kQ,hf1,hf2]
   ·rw[hce]
    exact hrep0.frame hw q8.size
   ·rw[hnl,jZ]
    omega)
  (fun ok st ν' hν jC _ _=>by
   simp only[aF]
   exact⟨by rw[jC];rfl,by rw[hν]⟩)
 obtain⟨ν2,h2⟩:=CB (n0:=2) (P:=E.P) 2 1 73 [qo r] rfl rfl _ _ _ _ (fun j hj=>by rw[jC] at hj;exact nV hj) hmv
 exact⟨_,_,_,ν2,q1,⟨rfl,rfl⟩,Sat.to1 h2 0⟩
theorem Ng:BP:=by
 intro rows k r hk o6
 rcases bV k rows.length with h|h
 ·exact LZ rows k r h o6
 ·have e:k=rows.length:=by omega
  subst e
  exact Lt rows r o6
end Go.Proofs.YtabembjmeobhoaaGreat
