/-
  The library's slices.Insert at rows of a model, in the midst, at the level of worlds. A step towards the laws.
-/
import Derived.Test.YtabembjmeobhoaaGreatKDzi
import Derived.Shelf.Spec.SlicesInsert
import Derived.Lib.AppendZerosOnto
set_option linter.unusedVariables false
set_option linter.unusedSimpArgs false
open Array renaming length_toList→fm
open Bool renaming and_eq_true→al
open Classical renaming em→aa
open List renaming drop_eq_getElem_cons→ae,drop_of_length_le→ai,getElem_mem→ak,take_of_length_le→ao,length_append→aU,length_cons→a6,append_assoc→bj,cons_append→bB,nil_append→bC,length_take→bU,take_append_of_le_length→bV,getElem?_take→cZ,getElem?_drop→dz,size_toArray→eh,length_nil→eJ,length_drop→eO,mem_of_mem_drop→fF,take_append_drop→ig,flatten_append→kL
open Nat renaming le_refl→aJ,lt_or_ge→b6,zero_add→df,mul_le_mul→oZ
namespace Go.Proofs.YtabembjmeobhoaaGreat
open Go.Eng Go.Mod Go.RowKit Go.Lib
set_option maxRecDepth 100000
set_option maxHeartbeats 8000000
set_option linter.unusedVariables false
set_option linter.unusedSimpArgs false
theorem Tj(w:World)(b c k vb vc n:Nat)(cur cur':Array Value)(cs vs:List Value)(hi:k<n)(hroom:n+1≤c)(hc:c≤9223372036854775807)(hvb:vb≠b)
 (hb:w.heap[b]?=some (.cells cur 73 (0,0))) (hcz:cur.size=c*4) (hcs:cur.toList.take (n*4)=cs) (h1c:∀v∈cs,v.oneCell'=true)
 (hbv:w.heap[vb]?=some (.cells cur' 73 (0,0))) (hvs:cur'.toList.take 4=vs) (hvl:vs.length=4) (h1v:∀v∈vs,v.oneCell'=true) :
 Calls E.P 121 #[.slice (some ⟨b,0,none⟩) n c,.int .i64 k,.slice (some ⟨vb,0,none⟩) 1 vc] w fun e w'=>
  e= .returned (.slice (some ⟨b,0,none⟩) (n+1) c)∧w'=(w.drew.setRow b (cur.toList.take ((k+1)*4)++cs.drop (k*4)++cur.toList.drop ((k+1)*4+(cs.drop (k*4)).length)).toArray).setRow b
   ((cur.toList.take ((k+1)*4)++cs.drop (k*4)++cur.toList.drop ((k+1)*4+(cs.drop (k*4)).length)).take (k*4)++vs++(cur.toList.take ((k+1)*4)++cs.drop (k*4)++cur.toList.drop ((k+1)*4+(cs.drop (k*4)).length)).drop (k*4+4)).toArray:=by
 obtain⟨P,hP⟩:∃P,P=E.P:=⟨_,rfl⟩
 have t30:P.underlying 29=some (.slice 73):=hP▸(E.ok 29 _ rfl).ty
 have t3:P.underlying 3=some (.int .i64):=hP▸(E.ok 3 _ rfl).ty
 have t4:P.underlying 4=some .bool:=hP▸(E.ok 4 _ rfl).ty
 have u30:=run_underlying t30
 have u3:=run_underlying t3
 have u4:=run_underlying t4
 have z3:∀w,(Go.sizeOf 3).run P w= .ok 1 w:=hP▸(E.ok 3 _ rfl).size
 have z4:∀w,(Go.sizeOf 4).run P w= .ok 1 w:=hP▸(E.ok 4 _ rfl).size
 have z30:∀w,(Go.sizeOf 29).run P w= .ok 1 w:=hP▸(E.ok 29 _ rfl).size
 have z167:∀w,(Go.sizeOf 73).run P w= .ok 4 w:=hP▸(E.ok 73 _ rfl).size
 have mixed:P.follows .mixedOrders=true:=hP▸hm
 have hfn:=Tryz.func121
 rw[←E_P,←hP] at hfn
 have hov0:=Tryz.func189
 rw[←E_P,←hP] at hov0
 have hI:(P.info? 73).map (·.size)=some 4:=by
  obtain⟨i,zv,i1,i2,_⟩:=(E.ok 73 _ rfl).info
  rw[hP,i1]
  simp[i2]
  rfl
 rw[←hP]
 clear hP
 have hz2:¬ ((k:Int)=(n:Int)):=by omega
 have hw1:IntKind.i64.wrap ((k:Int)+1)=(k:Int)+1:=by rw[IntKind.wrap_i64];omega
 have hb1:(0:Int)≤(k:Int)+1:=by omega
 have kG:k≤n:=by omega
 have htn:((k:Int)+1).toNat=k+1:=by omega
 have hb2:¬ (c=k+1):=by omega
 have hb4:¬ (c=k):=by omega
 have hb3:(k:Int)≤(n:Int)+1:=by omega
 have hsz:(P.info? 73).map (·.size)=some 4:=hI
 have hshb:w.shape? b=some (73,cur.size):=by simp[World.shape?,hb]
 have hshv:w.shape? vb=some (73,cur'.size):=by simp[World.shape?,hbv]
 have hov:∀lb cb,(callFunc 189 #[.slice (some ⟨vb,0,none⟩) 1 vc,.slice (some ⟨b,(k+1)*4,none⟩) lb cb]).run P w= .ok (.value (.bool false)) w:=fun lb cb=>by
  rw[run_callFunc_extern hov0 (by kernel_rfl) (by kernel_rfl) (by kernel_rfl) (e:=Extern.SlicesOverlaps.overlaps #[29,29] #[4]) (by kernel_rfl),
   Lib.run_overlaps_apart w 29 4 73 t30 4 z167 ⟨vb,0,none⟩ ⟨b,(k+1)*4,none⟩ 1 vc lb cb hvb 73 73 cur'.size cur.size hshv hshb (by omega) (by simp[World.frozen?,hbv]) (by simp[World.frozen?,hbv])]
  rfl
 have hcl:cs.length=n*4:=by rw[←hcs];simp;omega
 have hdl:(cs.drop (k*4)).length=(n-k)*4:=by rw[eO,hcl,←Nat.sub_mul]
 have hcell:∀j v,cs[j]?=some v→w.cell? ⟨b,j,none⟩=some v:=fun j v hj=>by
  rw[←hcs,cZ] at hj
  split at hj
  ·simpa[World.cell?,hb] using hj
  ·cases hj
 have hcellv:∀j v,vs[j]?=some v→w.cell? ⟨vb,j,none⟩=some v:=fun j v hj=>by
  rw[←hvs,cZ] at hj
  split at hj
  ·simpa[World.cell?,hbv] using hj
  ·cases hj
 have hcp1:∀ty dc sc,(Builtin.copy_ #[29,29] ty #[.slice (some ⟨b,(k+1)*4,none⟩) (n-k) dc,.slice (some ⟨b,k*4,none⟩) (n+1-k) sc]).run P w.drew= .ok (goInt ((n-k:Nat):Int)) (w.drew.setRow b (cur.toList.take ((k+1)*4)++cs.drop (k*4)++cur.toList.drop ((k+1)*4+(cs.drop (k*4)).length)).toArray):=fun ty dc sc=>by
  have hmin:Nat.min (n+1-k) (n-k)=n-k:=by simp only[Nat.min_def];split<;>omega
  have h:=qf (P:=P) w.drew 29 29 ty 73 4 b ((k+1)*4) (n-k) dc ⟨b,k*4,none⟩ (n+1-k) sc cur 73 (cs.drop (k*4)) t30 hsz hb (by rw[hmin,hdl])
   (fun j v hj=>by rw[Addr.add_lit];exact hcell (k*4+j) v (by rwa [dz] at hj)) (by rw[hdl,hcz];omega) (fun v hv=>h1c v (fF hv))
  rw[hmin] at h
  exact h
 obtain⟨W1,hW1⟩:∃W1,W1=w.drew.setRow b (cur.toList.take ((k+1)*4)++cs.drop (k*4)++cur.toList.drop ((k+1)*4+(cs.drop (k*4)).length)).toArray:=⟨_,rfl⟩
 obtain⟨Ks,hrow1⟩:∃Ks,Ks=cur.toList.take ((k+1)*4)++cs.drop (k*4)++cur.toList.drop ((k+1)*4+(cs.drop (k*4)).length):=⟨_,rfl⟩
 have hrl:Ks.length=c*4:=by rw[hrow1];simp;omega
 have hcp2:∀ty dc,(Builtin.copy_ #[29,29] ty #[.slice (some ⟨b,k*4,none⟩) (n+1-k) dc,.slice (some ⟨vb,0,none⟩) 1 vc]).run P W1= .ok (goInt 1) (W1.setRow b (Ks.take (k*4)++vs++Ks.drop (k*4+4)).toArray):=fun ty dc=>by
  have hmin:Nat.min 1 (n+1-k)=1:=by simp only[Nat.min_def];split<;>omega
  have hW:W1.heap[b]?=some (.cells Ks.toArray 73 (0,0)):=by rw[hW1,←hrow1];exact setRow_heap _ b _ _ _ _ hb
  have h:=qf (P:=P) W1 29 29 ty 73 4 b (k*4) (n+1-k) dc ⟨vb,0,none⟩ 1 vc Ks.toArray 73 vs t30 hsz hW (by rw[hmin,hvl])
   (fun j v hj=>by
    rw[Addr.add_lit,df,World.cell?_of_block (w:=w) (a:=⟨vb,j,none⟩) (by rw[hW1];exact setRow_other _ b vb _ hvb)]
    exact hcellv j v hj) (by simp only[eh,hrl,hvl];omega) h1v
  rw[hmin,hvl] at h
  simpa using h
 rw[←hrow1] at hcp1⊢
 rw[←hrow1] at hW1
 rw[←hW1] at hcp1⊢
 clear hW1 hrow1
 have hnt:Tryz.f121.ntmps=95:=rfl
 refine calls_of_wp hfn rfl ?_
 simp only[hnt,eh,a6,eJ,Nat.reduceAdd,Nat.reduceSub,Array.replicate_succ,Array.replicate_zero,List.push_toArray,List.append_toArray,bC,bB]
 go_wp2_with (simp only[hov])
 go_region_law_o (refine step_copy_runI rfl _ _ 29 29 rfl _ _ (by simp[Act.eval,Act.put]) (by simp[Act.eval,Act.put]) (hcp1 _ _ _) ?_)
 go_wp2_with (at_builtin;refine wpList_copy_runI _ rfl _ _ 29 29 rfl _ _ rfl rfl (hcp2 _ _) ?_)
 go_ret
 exact⟨rfl,by rw[bj]⟩
theorem WI(w:World)(b c k vb vc n:Nat)(cur cur':Array Value)(cs vs:List Value)(hi:k<n)(hnc:n≤c)(hroom:c<n+1)(hn9:n≤1000000)(hvb:vb≠b)
 (hb:w.heap[b]?=some (.cells cur 73 (0,0))) (hcz:cur.size=c*4) (hcs:cur.toList.take (n*4)=cs) (h1c:∀v∈cs,v.oneCell'=true)
 (hbv:w.heap[vb]?=some (.cells cur' 73 (0,0))) (hvs:cur'.toList.take 4=vs) (hvl:vs.length=4) (h1v:∀v∈vs,v.oneCell'=true) :
 Calls E.P 121 #[.slice (some ⟨b,0,none⟩) n c,.int .i64 k,.slice (some ⟨vb,0,none⟩) 1 vc] w fun e w'=>
  ∃(G:Nat)(ROW:List Value),n+1≤G∧G≤maxLen∧ROW.length=G*4∧ROW.take (k*4)=cs.take (k*4)∧e= .returned (.slice (some ⟨w.heap.size,0,none⟩) (n+1) G) ∧
   w'=((w.drew.alloc (.cells ROW.toArray 73)).setRow w.heap.size (ROW.take (k*4)++vs++ROW.drop (k*4+4)).toArray).drew.setRow w.heap.size
    ((ROW.take (k*4)++vs++ROW.drop (k*4+4)).take ((k+1)*4)++cs.drop (k*4)++(ROW.take (k*4)++vs++ROW.drop (k*4+4)).drop ((k+1)*4+(cs.drop (k*4)).length)).toArray:=by
 obtain⟨P,hP⟩:∃P,P=E.P:=⟨_,rfl⟩
 have t30:P.underlying 29=some (.slice 73):=hP▸(E.ok 29 _ rfl).ty
 have t3:P.underlying 3=some (.int .i64):=hP▸(E.ok 3 _ rfl).ty
 have t4:P.underlying 4=some .bool:=hP▸(E.ok 4 _ rfl).ty
 have u30:=run_underlying t30
 have u3:=run_underlying t3
 have u4:=run_underlying t4
 have z3:∀w,(Go.sizeOf 3).run P w= .ok 1 w:=hP▸(E.ok 3 _ rfl).size
 have z4:∀w,(Go.sizeOf 4).run P w= .ok 1 w:=hP▸(E.ok 4 _ rfl).size
 have z30:∀w,(Go.sizeOf 29).run P w= .ok 1 w:=hP▸(E.ok 29 _ rfl).size
 have z167:∀w,(Go.sizeOf 73).run P w= .ok 4 w:=hP▸(E.ok 73 _ rfl).size
 have mixed:P.follows .mixedOrders=true:=hP▸hm
 have hfn:=Tryz.func121
 rw[←E_P,←hP] at hfn
 obtain⟨i0,zv,hi0,hzs,hzb,hz0,_,hzc⟩:=(E.ok 73 _ rfl).info
 rw[←hP] at hi0
 have hzs:i0.size=4:=hzs
 have hzc:zv.cells.size=4:=hzc
 have hzb:i0.bytes≤1000:=by rw[hzb];simp -implicitDefEqProofs only[go_sem,Int.reduceEq,Int.reduceLT,Int.reduceLE,Int.reduceToNat];omega
 rw[←hP]
 clear hP
 have hsz:(P.info? 73).map (·.size)=some 4:=by rw[hi0];simp[hzs]
 have hz2:¬ ((k:Int)=(n:Int)):=by omega
 have hz3:(c:Int)<(n:Int)+1:=by omega
 have hw1:IntKind.i64.wrap ((k:Int)+1)=(k:Int)+1:=by rw[IntKind.wrap_i64];omega
 have hb1:(0:Int)≤(k:Int)+1:=by omega
 have kG:k≤n:=by omega
 have htn:((k:Int)+1).toNat=k+1:=by omega
 have hcl:cs.length=n*4:=by rw[←hcs];simp;omega
 have hdl:(cs.drop (k*4)).length=(n-k)*4:=by rw[eO,hcl,←Nat.sub_mul]
 have hbw:b<w.heap.size:=pW hb
 have hvw:vb<w.heap.size:=pW hbv
 have hcell:∀j v,cs[j]?=some v→w.cell? ⟨b,j,none⟩=some v:=fun j v hj=>by
  rw[←hcs,cZ] at hj
  split at hj
  ·simpa[World.cell?,hb] using hj
  ·cases hj
 have hcellv:∀j v,vs[j]?=some v→w.cell? ⟨vb,j,none⟩=some v:=fun j v hj=>by
  rw[←hvs,cZ] at hj
  split at hj
  ·simpa[World.cell?,hbv] using hj
  ·cases hj
 have hold:(Builtin.firstCells i0.size k (.slice (some ⟨b,0,none⟩) k c)).run P w.drew= .ok (cs.take (k*4)).toArray w.drew:=by
  rw[hzs]
  exact run_firstCells_some w.drew 4 k ⟨b,0,none⟩ k c (cs.take (k*4)) (by rw[bU];omega) (fun j v hj=>by
   rw[Addr.add_lit,df]
   rw[cZ] at hj
   split at hj
   ·exact hcell j v hj
   ·cases hj)
 have hkk:(n:Int)+1-(k:Int)=((n+1-k:Nat):Int):=by omega
 have hik:k+(n+1-k)=n+1:=by omega
 obtain⟨G,hG⟩:∃G,G=grownCap w (n+1) c 73:=⟨_,rfl⟩
 obtain⟨ROW,hROW⟩:∃ROW:List Value,ROW.toArray=(cs.take (k*4)).toArray++Builtin.zeroCells zv.cells (n+1-k)++Builtin.zeroCells zv.cells (G-(n+1)):=⟨_,Array.toArray_toList⟩
 obtain⟨W1,hW1⟩:∃W1,W1=w.drew.alloc (.cells ROW.toArray 73):=⟨_,rfl⟩
 have hGn:n+1≤G:=by rw[hG];exact grownCap_ge w _ _ _
 have hG63:G≤maxLen:=by
  rw[hG]
  exact grownCap_le_maxLen w (n+1) c 73 (by unfold maxLen;omega)
 have hrz:∀ty,(Builtin.append_ #[29,3] ty #[.slice (some ⟨b,0,none⟩) k c,.int .i64 ((n:Int)+1-(k:Int))]).run P w= .ok (.slice (some ⟨w.heap.size,0,none⟩) (n+1) G) W1:=fun ty=>by
  have h:=Lib.run_append_grow_zeros w 29 3 ty 73 i0 zv .i64 .i64 t30 t3 hi0 hz0 (some ⟨b,0,none⟩) k c (cs.take (k*4)) hold (n+1-k) (by omega) (by omega) (by omega) (by omega) (by
   have:=oZ (show n+1-k≤1000001 by omega) hzb
   omega) (by
   rw[hik]
   refine growslice_fits hroom ?_
   have:=oZ (show n+1≤1000001 by omega) hzb
   omega)
  rw[hik,←hG,←hROW,←hW1] at h
  rw[hkk]
  exact h
 have hzl:∀m,(Builtin.zeroCells zv.cells m).toList.length=m*4:=fun m=>by
  rw[xi zv.cells (by simp[hzc])]
  simp[hzc]
 have hRl:ROW.length=G*4:=by
  have:=congrArg Array.size hROW
  have h1:=hzl (n+1-k)
  have h2:=hzl (G-(n+1))
  simp only[fm] at h1 h2
  simp only[eh,Array.size_append,h1,h2,bU,hcl] at this
  rw[this,Nat.min_eq_left (by omega)]
  omega
 have hRt:ROW.take (k*4)=cs.take (k*4):=by
  have:=congrArg Array.toList hROW
  simp only[Array.toList_append] at this
  rw[this,bj,bV (by simp[hcl];omega),ao (by simp;omega)]
 have hW1n:W1.heap[w.heap.size]?=some (.cells ROW.toArray 73 (0,0)):=by rw[hW1];exact se w.drew _
 have hW1o:∀x,x<w.heap.size→W1.heap[x]?=w.heap[x]?:=fun x hx=>by rw[hW1];exact Below.heap_alloc w.drew _ x hx
 obtain⟨row2,hrow2⟩:∃row2,row2=ROW.take (k*4)++vs++ROW.drop (k*4+4):=⟨_,rfl⟩
 have hr2:row2.length=G*4:=by rw[hrow2];simp;omega
 obtain⟨W2,hW2⟩:∃W2,W2=W1.setRow w.heap.size row2.toArray:=⟨_,rfl⟩
 have hcpA:∀ty dc,(Builtin.copy_ #[29,29] ty #[.slice (some ⟨w.heap.size,k*4,none⟩) (n+1-k) dc,.slice (some ⟨vb,0,none⟩) 1 vc]).run P W1= .ok (goInt 1) W2:=fun ty dc=>by
  have hmin:Nat.min 1 (n+1-k)=1:=by simp only[Nat.min_def];split<;>omega
  have h:=qf (P:=P) W1 29 29 ty 73 4 w.heap.size (k*4) (n+1-k) dc ⟨vb,0,none⟩ 1 vc ROW.toArray 73 vs t30 hsz hW1n (by rw[hmin,hvl])
   (fun j v hj=>by
    rw[Addr.add_lit,df,World.cell?_of_block (w:=w) (a:=⟨vb,j,none⟩) (hW1o vb hvw)]
    exact hcellv j v hj) (by simp only[eh,hRl,hvl];omega) h1v
  rw[hmin,hvl] at h
  simp only[←hrow2,←hW2] at h
  simpa using h
 have hW2n:W2.drew.heap[w.heap.size]?=some (.cells row2.toArray 73 (0,0)):=by rw[hW2];exact setRow_heap _ _ _ _ _ _ hW1n
 obtain⟨row3,hrow3⟩:∃row3,row3=row2.take ((k+1)*4)++cs.drop (k*4)++row2.drop ((k+1)*4+(cs.drop (k*4)).length):=⟨_,rfl⟩
 obtain⟨W3,hW3⟩:∃W3,W3=W2.drew.setRow w.heap.size row3.toArray:=⟨_,rfl⟩
 have hcpB:∀ty dc sc,(Builtin.copy_ #[29,29] ty #[.slice (some ⟨w.heap.size,(k+1)*4,none⟩) (n-k) dc,.slice (some ⟨b,k*4,none⟩) (n-k) sc]).run P W2.drew= .ok (goInt ((n-k:Nat):Int)) W3:=fun ty dc sc=>by
  have hmin:Nat.min (n-k) (n-k)=n-k:=by simp only[Nat.min_def];split<;>omega
  have h:=qf (P:=P) W2.drew 29 29 ty 73 4 w.heap.size ((k+1)*4) (n-k) dc ⟨b,k*4,none⟩ (n-k) sc row2.toArray 73 (cs.drop (k*4)) t30 hsz hW2n (by rw[hmin,hdl])
   (fun j v hj=>by
    rw[Addr.add_lit,World.cell?_of_block (w:=w) (a:=⟨b,k*4+j,none⟩) ((show W2.drew.heap[b]?=W1.heap[b]? by rw[hW2];exact setRow_other _ _ _ _ (by omega)).trans (hW1o b hbw))]
    exact hcell (k*4+j) v (by rwa [dz] at hj)) (by simp only[eh,hr2,hdl];omega) (fun v hv=>h1c v (fF hv))
  rw[hmin] at h
  simp only[←hrow3,←hW3] at h
  exact h
 have hGi:¬ (G=k):=by omega
 have hGim:¬ (G=k+1):=by omega
 have hci:¬ (c=k):=by omega
 have hb3:(k:Int)≤(n:Int):=by omega
 have hG9:G≤9223372036854775807:=hG63
 have goal0:∀(e:Ending)(w':World),e= .returned (.slice (some ⟨w.heap.size,0,none⟩) (n+1) G)∧w'=W3→∃(G:Nat)(ROW:List Value),n+1≤G∧G≤maxLen∧ROW.length=G*4∧ROW.take (k*4)=cs.take (k*4)∧e= .returned (.slice (some ⟨w.heap.size,0,none⟩) (n+1) G) ∧
  w'=((w.drew.alloc (.cells ROW.toArray 73)).setRow w.heap.size (ROW.take (k*4)++vs++ROW.drop (k*4+4)).toArray).drew.setRow w.heap.size
   ((ROW.take (k*4)++vs++ROW.drop (k*4+4)).take ((k+1)*4)++cs.drop (k*4)++(ROW.take (k*4)++vs++ROW.drop (k*4+4)).drop ((k+1)*4+(cs.drop (k*4)).length)).toArray:=by
  rintro e w' ⟨h1,h2⟩
  exact⟨G,ROW,hGn,hG63,hRl,hRt,h1,by rw[h2,hW3,hrow3,hW2,hW1,hrow2]⟩
 refine Calls.mono ?_ goal0
 clear goal0 hrow3 hW3 hrow2 hW2 hW1 hROW hG hkk hik hold hW1o hW1n hW2n hRt hRl hr2
 have hnt:Tryz.f121.ntmps=95:=rfl
 refine calls_of_wp hfn rfl ?_
 simp only[hnt,eh,a6,eJ,Nat.reduceAdd,Nat.reduceSub,Array.replicate_succ,Array.replicate_zero,List.push_toArray,List.append_toArray,bC,bB]
 go_wp2_with (first
  | (at_builtin;refine Lib.wpList_append_run _ rfl _ _ _ _ rfl _ _ rfl rfl _ _ (hrz _) ?_)
  | (at_builtin;refine wpList_copy_runI _ rfl _ _ 29 29 rfl _ _ rfl rfl (hcpA _ _) ?_))
 go_region_law_o (refine step_copy_runI rfl _ _ 29 29 rfl _ _ (by simp[Act.eval,Act.put]) (by simp[Act.eval,Act.put]) (hcpB _ _ _) ?_)
 go_wp2
 go_ret
 exact⟨rfl,rfl⟩
end Go.Proofs.YtabembjmeobhoaaGreat
namespace Go.Proofs.YtabembjmeobhoaaGreat
open Go.Eng Go.Mod Go.RowKit
set_option maxRecDepth 100000
set_option maxHeartbeats 1600000
theorem X9(w:World)(b:Nat)(x y:Array Value):rR (fun z=>z=b) w ((w.drew.setRow b x).setRow b y):=
 (((BL w).mono (B':=fun z=>z=b) fun _ h _=>h.elim).trans (kq _ b x (fun z=>z=b) rfl) fun _ h _=>h).trans (kq _ b y (fun z=>z=b) rfl) fun _ h _=>h
theorem Yb(w:World)(b:Nat)(o:Obj)(x y:Array Value):rR (fun z=>z=b) w ((((w.drew.alloc o).setRow w.heap.size x).drew).setRow w.heap.size y):=by
 have h1:rR (fun _=>False) w (w.drew.alloc o):=(BL w).trans (jz w.drew o) fun _ h _=>h
 have h2:rR (fun _=>False) w ((w.drew.alloc o).setRow w.heap.size x):=h1.trans (kq _ w.heap.size x (fun z=>z=w.heap.size) rfl) fun k hk lL=>by omega
 have h3:rR (fun _=>False) w (((w.drew.alloc o).setRow w.heap.size x).drew):=h2.trans (BL _) fun _ h _=>h
 have h4:rR (fun _=>False) w ((((w.drew.alloc o).setRow w.heap.size x).drew).setRow w.heap.size y):=h3.trans (kq _ w.heap.size y (fun z=>z=w.heap.size) rfl) fun k hk lL=>by omega
 exact h4.mono fun _ h _=>h.elim
def abP(w:World)(b n k:Nat)(cs vs:List Value)(e:Ending)(w':World):Prop:=
 ∃(g G:Nat)(row:List Value),e= .returned (.slice (some ⟨g,0,none⟩) (n+1) G)∧(g=b∨w.heap.size≤g)∧n+1≤G∧G≤maxLen∧w'.heap[g]?=some (.cells row.toArray 73 (0,0))∧row.length=G*4 ∧
  row.take ((n+1)*4)=cs.take (k*4)++vs++cs.drop (k*4)∧rR (fun x=>x=b) w w'
theorem SW(w:World)(b c k vb vc n:Nat)(cur cur':Array Value)(cs vs:List Value)(hi:k<n)(hnc:n≤c)(hc:c≤maxLen)(hn9:n≤1000000)(hvb:vb≠b)
 (hb:w.heap[b]?=some (.cells cur 73 (0,0))) (hcz:cur.size=c*4) (hcs:cur.toList.take (n*4)=cs) (h1c:∀v∈cs,v.oneCell'=true)
 (hbv:w.heap[vb]?=some (.cells cur' 73 (0,0))) (hvs:cur'.toList.take 4=vs) (hvl:vs.length=4) (h1v:∀v∈vs,v.oneCell'=true) :
 Calls E.P 121 #[.slice (some ⟨b,0,none⟩) n c,.int .i64 k,.slice (some ⟨vb,0,none⟩) 1 vc] w (abP w b n k cs vs):=by
 have hcl:cs.length=n*4:=by rw[←hcs];simp;omega
 have hA:(cs.take (k*4)).length=k*4:=by simp[hcl];omega
 have hB:(cs.drop (k*4)).length=(n-k)*4:=by simp[hcl];omega
 rcases b6 c (n+1) with hr|hr
 ·refine(WI w b c k vb vc n cur cur' cs vs hi hnc hr hn9 hvb hb hcz hcs h1c hbv hvs hvl h1v).mono ?_
  rintro e w' ⟨G,ROW,h1,h2,h3,h4,h5,h6⟩
  refine⟨w.heap.size,G,((ROW.take (k*4)++vs++ROW.drop (k*4+4)).take ((k+1)*4)++cs.drop (k*4)++(ROW.take (k*4)++vs++ROW.drop (k*4+4)).drop ((k+1)*4+(cs.drop (k*4)).length)),h5,.inr (aJ _),h1,h2,?_,?_,?_,?_⟩
  ·rw[h6]
   exact setRow_heap _ _ _ _ _ _ (setRow_heap _ _ _ _ _ _ (se w.drew _))
  ·rw[h4]
   simp only[aU,bU,eO,hvl,h3,hcl]
   omega
  ·have e1:(ROW.take (k*4)++vs++ROW.drop (k*4+4)).take ((k+1)*4)=cs.take (k*4)++vs:=by
    rw[h4,bV (by rw[aU,hA,hvl];omega),ao (by rw[aU,hA,hvl];omega)]
   rw[e1,bV (by simp only[aU,hA,hB,hvl];omega),ao (by simp only[aU,hA,hB,hvl];omega)]
  ·rw[h6]
   exact Yb w b _ _ _
 ·refine(Tj w b c k vb vc n cur cur' cs vs hi hr hc hvb hb hcz hcs h1c hbv hvs hvl h1v).mono ?_
  rintro e w' ⟨h5,h6⟩
  have hcur:cur.toList=cs.take (k*4)++cs.drop (k*4)++cur.toList.drop (n*4):=by
   rw[ig,←hcs,ig]
  have hR:(cur.toList.drop (n*4)).length=(c-n)*4:=by simp[hcz];omega
  have hs:=Qm (cs.take (k*4)) (cs.drop (k*4)) (cur.toList.drop (n*4)) vs (by rw[hR,hvl];omega)
  rw[←hcur,hA,hvl,show k*4+4=(k+1)*4 from by omega] at hs
  have hs':((cur.toList.take ((k+1)*4)++cs.drop (k*4)++cur.toList.drop ((k+1)*4+(cs.drop (k*4)).length)).take (k*4)++vs++(cur.toList.take ((k+1)*4)++cs.drop (k*4)++cur.toList.drop ((k+1)*4+(cs.drop (k*4)).length)).drop (k*4+4))=cs.take (k*4)++vs++cs.drop (k*4)++(cur.toList.drop (n*4)).drop 4:=by
   rw[show k*4+4=(k+1)*4 from by omega]
   exact hs
  rw[hs'] at h6
  refine⟨b,c,cs.take (k*4)++vs++cs.drop (k*4)++(cur.toList.drop (n*4)).drop 4,h5,.inl rfl,hr,hc,?_,?_,?_,?_⟩
  ·rw[h6]
   exact setRow_heap _ _ _ _ _ _ (setRow_heap _ _ _ _ _ _ hb)
  ·simp only[aU,hA,hB,hvl,hR,eO,fm,hcz]
   omega
  ·rw[bV (by simp only[aU,hA,hB,hvl];omega),ao (by simp only[aU,hA,hB,hvl];omega)]
  ·rw[h6]
   exact X9 w b _ _
theorem Sat.to1{P:Program}{X:Cx}{ν:Nat→Nm}{g:G}{a:Act}{w:World}(h:Sat P X ν g a w)(t:Nat):QJ P X ν (nth g.sl t) g.st (a.tmps.getD t Go.undef) w:=by
 refine⟨rfl,fun j=>?_,h.en,h.inj,h.base,h.nu,h.par,h.E9,h.An,rfl⟩
 cases j with
 | zero=>exact h.sl t
 | succ j=>cases j<;>trivial
theorem L7(rows:List Mod.Row)(k:Nat)(r:Mod.Row)(hk:k<rows.length)(o5:rows.length≤1000):C E.P 121 [.acc 0,iv (k:Int),.acc 1] [some (.acc 73 (bM rows)),some (.acc 73 [om r])] (bz (.acc 2) [some .dead,some .dead,some (.acc 73 (bM (rows.take k++r::rows.drop k)))]):=by
 refine⟨⟨_,Tryz.func121,rfl,rfl⟩,fun X vs jw hO hs=>?_⟩
 obtain⟨v0,v1,v2,rfl⟩:∃v0 v1 v2,vs=[v0,v1,v2]:=by
  have:=hs.size
  match vs,this with
  | [a,b,c],_=>exact⟨a,b,c,rfl⟩
 have e0:aE X.w0 _ X.ν0 _ (.acc 0) v0:=hs.sl 0
 have e1:v1= .int .i64 k:=fU (hs.sl 1)
 have e2:aE X.w0 _ X.ν0 _ (.acc 1) v2:=hs.sl 2
 simp only[aE] at e0 e2
 obtain⟨us,ho,je,hB,hf0⟩:=hs.en 0 (.acc 73 (bM rows)) rfl
 obtain⟨us',po,prr,pB,pf0⟩:=hs.en 1 (.acc 73 [om r]) rfl
 have hce:E.P.cellsOf 73=4:=(E.ok 73 _ rfl).cells
 rw[hce] at ho je po prr
 have hrl:(bM rows).length=rows.length:=by simp[bM]
 rw[hrl] at ho hB
 obtain⟨b,c,cur,k1,_,k2,k4,k5,k6,k7⟩:=ho.2.resolve_left (fun h=>by omega)
 obtain⟨vb,vc,cur',p1,_,p2,p4,p5,p6,p7⟩:=po.2.resolve_left (fun h=>by simp at h)
 have jJ:vb≠b:=fun h=>by
  have:=hs.inj 0 1 _ _ b rfl rfl rfl rfl ((j8 hf0).2 (by rw[k1];rfl)) ((j8 pf0).2 (by rw[p1,h];rfl))
  omega
 have hul:=je.len
 rw[hrl] at hul
 have hcall:=SW X.w0 b c k vb vc rows.length cur cur' us.flatten us'.flatten hk k4 k5 (by omega) jJ k2 k6 k7 je.one p2 (by simpa using p7) (by simpa using po.1) prr.one
 have ev:(⟨[v0,v1,v2]⟩:Array Value) = #[.slice (some ⟨b,0,none⟩) rows.length c,.int .i64 k,.slice (some ⟨vb,0,none⟩) 1 vc]:=by
  rw[e0.2,k1,e1,e2.2,p1]
  rfl
 rw[ev]
 refine hcall.mono ?_
 rintro e w' ⟨g,G,row,q1,q2,q3,q4,q5,q6,q7,q8⟩
 have hrows:bM (rows.take k++r::rows.drop k)=(bM rows).take k++[om r]++(bM rows).drop k:=by simp[bM]
 have hf1:(us.take k).flatten=us.flatten.take (k*4):=by
  have:=sg us 0 k je.hu (by omega)
  simpa using this
 have hf2:(us.drop k).flatten=us.flatten.drop (k*4):=by
  have:=sg us k (us.length-k) je.hu (by omega)
  rw[ao (by simp),ao (by rw[eO,je.k9,hrl,hul,Nat.sub_mul];exact aJ _)] at this
  exact this
 have hrep0:cu X.w0 (cF X X.ν0 (c6 [some (.acc 73 (bM rows)),some (.acc 73 [om r])])) 4 (bM (rows.take k++r::rows.drop k)) (us.take k++us'++us.drop k):=by
  have c1:=je.cut 0 k
  have c2:=je.cut k ((bM rows).length-k)
  simp only[List.drop_zero] at c1
  rw[ao (by simp),ao (by rw[eO,je.len];exact aJ _)] at c2
  rw[hrows]
  exact(c1.append prr).append c2
 have hnl:(bM (rows.take k++r::rows.drop k)).length=rows.length+1:=by simp[bM];omega
 have hmv:=hs.move (w':=w') (some 0) (fun j hj=>by cases hj;exact⟨_,rfl,rfl⟩)
  (q8.mono fun x hx _=>⟨0,rfl,(j8 hf0).2 (by rw[k1,hx];rfl)⟩) 2 rfl (.acc 73 (bM (rows.take k++r::rows.drop k))) ⟨.slice (some ⟨g,0,none⟩) (rows.length+1) G,[]⟩ rfl
  (fun x hx=>by
   have hx':g=x:=by simpa[Nm.has,wH] using hx
   subst hx'
   rcases q2 with h|h
   ·exact .inl ⟨0,rfl,(j8 hf0).2 (by rw[k1,h];rfl)⟩
   ·exact .inr h) 0 (.acc 2) (.slice (some ⟨g,0,none⟩) (rows.length+1) G)
  (fun ok st ν' hν hw _=>by
   refine⟨us.take k++us'++us.drop k,?_,?_,?_,by rw[hν]⟩
   ·rw[hν,hce,hnl]
    refine⟨by rw[hrep0.k9,hnl],.inr ⟨g,G,row.toArray,rfl,Nat.zero_le _,q5,q3,q4,by simpa using q6,?_⟩⟩
    simp only
    rw[q7,kL,kL,hf1,hf2]
   ·rw[hce]
    exact hrep0.frame hw q8.size
   ·rw[hnl,jT]
    omega)
  (fun ok st ν' hν jw _ _=>by
   simp only[aE]
   exact⟨by rw[jw];rfl,by rw[hν]⟩)
 obtain⟨ν2,h2⟩:=JS (n0:=2) (P:=E.P) 2 1 73 [om r] rfl rfl _ _ _ _ (fun j hj=>by rw[jw] at hj;exact nX hj) hmv
 exact⟨_,_,_,ν2,q1,⟨rfl,rfl⟩,Sat.to1 h2 0⟩
theorem Un:BH:=by
 intro rows k r hk o5
 rcases b6 k rows.length with h|h
 ·exact L7 rows k r h o5
 ·have e:k=rows.length:=by omega
  subst e
  exact Mo rows r o5
end Go.Proofs.YtabembjmeobhoaaGreat
namespace Go.Proofs.YtabembjmeobhoaaGreat
open Go.Eng Go.Mod
open Int renaming reduceEq→Z1,reduceLT→Z2,reduceLE→Z3,reduceToNat→Z4
set_option maxRecDepth 100000
set_option maxHeartbeats 3200000
theorem C9(f:Nat)(xs ys:List Case)(hf:∀x∈xs,∀y,C E.P f [av (gH x),av (gH y)] [] (bz (bv (decide (x=y))) [])) :
 C E.P 31 [lv (fN xs),lv (fN ys),.fn f []] [] (bz (bv (decide (xs=ys))) []):=by
 refine gS (nt:=32) (rs:=[.tmp 6]) hm Tryz.func31 fun hl he cq=>?_
 rcases aa (xs.length=ys.length) with hl' | hl'
 ·simp -implicitDefEqProofs only[go_sem,hl']
  refine aL hm (fun(i:Nat)=> i≤ys.length∧decide (xs=ys)=decide (xs.drop i=ys.drop i)) (fun(i:Nat)=> ⟨dx 32 .any [(1,lv (fN ys)),(2,.fn f []),(15,lv (fN xs)),(16,iv ys.length),(17,iv i)],[]⟩) (fun(i:Nat)=> ys.length-i) (0) ?_ (ar [] ?_ ?_ rfl rfl) ?_
  rotate_left
  ·exact sC
  ·exact sC
  rotate_left
  ·simp
  ·rintro i ⟨hi,hg⟩
   rcases aa (i<ys.length) with h1|h1
   ·have h2:i<xs.length:=by omega
    rw[ae h1,ae h2] at hg
    refine uJ ?_
    have hc:=hf xs[i] (ak h2) ys[i]
    refine aC [] hc ?_
    rcases aa (xs[i]=ys[i]) with h3|h3
    ·refine uC ?_
     refine⟨by omega,?_⟩
     refine⟨i+1,?_,sL,ar [] ?_ ?_ rfl rfl⟩
     rotate_left
     ·exact sC
     ·exact sC
     exact⟨by omega,by rw[hg];simp only[h3,List.cons.injEq,true_and]⟩
    ·have hg:decide (xs=ys)=false:=by rw[hg];simp only[h3,List.cons.injEq,false_and,decide_false]
     refine uC ?_
     refine an ?_
     refine sA ?_
     all_goals(simp[hg];done)
   ·have hg:decide (xs=ys)=true:=by
     rw[hg,ai (by omega),ai (by omega)]
     rfl
    refine uA ?_
    refine an ?_
    refine sA ?_
    all_goals(simp[hg];done)
 ·have hn:¬xs=ys:=fun h=>hl' (by rw[h])
  simp -implicitDefEqProofs only[go_sem,hl']
  refine an ?_
  refine sA ?_
  all_goals(simp[hn];done)
theorem vd{a b:Case}:a=b↔a.kind=b.kind∧a.n=b.n∧a.qk=b.qk∧a.times=b.times∧a.A=b.A∧a.B=b.B∧a.kids=b.kids:=by
 cases a;cases b;simp[Case.kind,Case.n,Case.qk,Case.times,Case.A,Case.B,Case.kids]
theorem CA(a b:Case)(ih:∀k∈a.kids,∀y,C E.P 13 [av (gH k),av (gH y)] [] (bz (bv (decide (k=y))) [])):C E.P 13 [av (gH a),av (gH b)] [] (bz (bv (decide (a=b))) []):=by
 refine gS (nt:=52) (rs:=[.tmp 4]) hm Tryz.func13 fun hl he cq=>?_
 rcases aa (a.kind=b.kind) with h1|h1
 ·rcases aa (a.n=b.n) with h2|h2
  ·refine uJ ?_
   refine aC [] (rI a.qk b.qk) ?_
   rcases aa (a.qk=b.qk) with h3|h3
   ·have k3:=eq_true h3
    simp -implicitDefEqProofs only[go_sem,k3]
    refine aC [] (D1 a.times b.times) ?_
    rcases aa (a.times=b.times) with h4|h4
    ·have k4:=eq_true h4
     simp -implicitDefEqProofs only[go_sem,k4]
     refine aC [] (fG a.A b.A) ?_
     rcases aa (a.A=b.A) with h5|h5
     ·have k5:=eq_true h5
      simp -implicitDefEqProofs only[go_sem,k5]
      refine aC [] (fG a.B b.B) ?_
      rcases aa (a.B=b.B) with h6|h6
      ·have k6:=eq_true h6
       simp -implicitDefEqProofs only[go_sem,k6]
       refine aC [] (C9 13 a.kids b.kids ih) ?_
       refine an ?_
       refine sA ?_
       all_goals(simp[vd,h1,h2,h3,h4,h5,h6];done)
      ·simp -implicitDefEqProofs only[go_sem,h6]
       refine an ?_
       refine sA ?_
       all_goals(simp[vd,h6];done)
     ·refine uE ?_
      refine an ?_
      refine sA ?_
      all_goals(simp[vd,h5];done)
    ·refine uD ?_
     refine an ?_
     refine sA ?_
     all_goals(simp[vd,h4];done)
   ·refine uC ?_
    refine an ?_
    refine sA ?_
    all_goals(simp[vd,h3];done)
  ·refine uJ ?_
   refine an ?_
   refine sA ?_
   all_goals(simp[vd,h2];done)
 ·refine uA ?_
  refine an ?_
  refine sA ?_
  all_goals(simp[vd,h1];done)
theorem qW:∀a b,C E.P 13 [av (gH a),av (gH b)] [] (bz (bv (decide (a=b))) []):=
 Case.ind fun k n w ts a b ks ih y=>CA (.mk k n w ts a b ks) y ih
theorem N7(a b:List Mod.Rat):C E.P 27 [lv (bp a),lv (bp b)] [] (bz (bv (decide (a=b))) []):=by
 refine gS (nt:=26) (rs:=[.tmp 4]) hm Tryz.func27 fun hl he cq=>?_
 rcases aa (a.length=b.length) with h2|h2
 ·have k2:=eq_true h2
  simp -implicitDefEqProofs only[go_sem,k2]
  refine aL hm (fun(i:Nat)=> i≤a.length∧(a=b↔a.drop i=b.drop i)) (fun(i:Nat)=> ⟨dx 26 .any [(0,lv (bp a)),(1,lv (bp b)),(12,iv a.length),(13,iv i)],[]⟩) (fun(i:Nat)=> a.length-i) (0) ?_ (ar [] ?_ ?_ rfl rfl) ?_
  rotate_left
  ·exact sC
  ·exact sC
  rotate_left
  ·simp
  ·rintro i ⟨hi,hg⟩
   rcases aa (i<a.length) with h3|h3
   ·have h4:i<b.length:=by omega
    rw[ae h3,ae h4,List.cons.injEq] at hg
    simp -implicitDefEqProofs only[go_sem,h3,h4]
    refine Kv (by kernel_rfl) (a:=a[i].N) (b:=a[i].D) (c:=b[i].N) (e:=b[i].D) (by simp -implicitDefEqProofs only[go_sem]) (by simp -implicitDefEqProofs only[go_sem]) ?_
    rcases aa (a[i]=b[i]) with h5|h5
    ·have ep:jn a[i].N a[i].D b[i].N b[i].D=true:=by rw[h5];simp[jn]
     simp -implicitDefEqProofs only[go_sem,ep]
     refine iK ?_
     refine sQ ?_
     refine⟨i+1,?_,sL,ar [] ?_ ?_ rfl rfl⟩
     rotate_left
     ·exact sC
     ·exact sC
     refine⟨by omega,?_⟩
     rw[hg]
     simp[h5]
    ·have e:¬a=b:=fun hh=>h5 (hg.1 hh).1
     have ep:jn a[i].N a[i].D b[i].N b[i].D=false:=by
      cases hq:jn a[i].N a[i].D b[i].N b[i].D with
      | false=>rfl
      | true=>
        simp only[jn,al,beq_iff_eq] at hq
        refine absurd ?_ h5
        revert hq
        generalize a[i]=u
        generalize b[i]=v
        cases u
        cases v
        rintro⟨rfl,rfl⟩
        rfl
     simp -implicitDefEqProofs only[go_sem,ep]
     refine iK ?_
     refine an ?_
     refine sA ?_
     all_goals(simp[e];done)
   ·rw[ai (by omega),ai (by omega)] at hg
    refine uC ?_
    refine an ?_
    refine sA ?_
    all_goals(simp[hg];done)
 ·have e:¬a=b:=fun hh=>h2 (by rw[hh])
  refine uB ?_
  refine an ?_
  refine sA ?_
  all_goals(simp[e];done)
theorem Ee(f:Nat)(xs ys:List Mod.Row)(hf:∀x∈xs,∀y,C E.P f [av (om x),av (om y)] [] (bz (bv (decide (x=y))) [])) :
 C E.P 25 [lv (bM xs),lv (bM ys),.fn f []] [] (bz (bv (decide (xs=ys))) []):=by
 refine gS (nt:=32) (rs:=[.tmp 6]) hm Tryz.func25 fun hl he cq=>?_
 rcases aa (xs.length=ys.length) with hl' | hl'
 ·simp -implicitDefEqProofs only[go_sem,hl']
  refine aL hm (fun(i:Nat)=> i≤ys.length∧decide (xs=ys)=decide (xs.drop i=ys.drop i)) (fun(i:Nat)=> ⟨dx 32 .any [(1,lv (bM ys)),(2,.fn f []),(15,lv (bM xs)),(16,iv ys.length),(17,iv i)],[]⟩) (fun(i:Nat)=> ys.length-i) (0) ?_ (ar [] ?_ ?_ rfl rfl) ?_
  rotate_left
  ·exact sC
  ·exact sC
  rotate_left
  ·simp
  ·rintro i ⟨hi,hg⟩
   rcases aa (i<ys.length) with h1|h1
   ·have h2:i<xs.length:=by omega
    rw[ae h1,ae h2] at hg
    refine uJ ?_
    have hc:=hf xs[i] (ak h2) ys[i]
    refine aC [] hc ?_
    rcases aa (xs[i]=ys[i]) with h3|h3
    ·refine uC ?_
     refine⟨by omega,?_⟩
     refine⟨i+1,?_,sL,ar [] ?_ ?_ rfl rfl⟩
     rotate_left
     ·exact sC
     ·exact sC
     exact⟨by omega,by rw[hg];simp only[h3,List.cons.injEq,true_and]⟩
    ·have hg:decide (xs=ys)=false:=by rw[hg];simp only[h3,List.cons.injEq,false_and,decide_false]
     refine uC ?_
     refine an ?_
     refine sA ?_
     all_goals(simp[hg];done)
   ·have hg:decide (xs=ys)=true:=by
     rw[hg,ai (by omega),ai (by omega)]
     rfl
    refine uA ?_
    refine an ?_
    refine sA ?_
    all_goals(simp[hg];done)
 ·have hn:¬xs=ys:=fun h=>hl' (by rw[h])
  simp -implicitDefEqProofs only[go_sem,hl']
  refine an ?_
  refine sA ?_
  all_goals(simp[hn];done)
theorem Mh{a b:Mod.Row}:a=b↔a.name=b.name∧a.args=b.args∧a.val=b.val:=by
 cases a;cases b;simp
theorem zM(a b:Mod.Row):C E.P 26 [av (om a),av (om b)] [] (bz (bv (decide (a=b))) []):=by
 refine gS (nt:=24) (rs:=[.tmp 4]) hm Tryz.func26 fun hl he cq=>?_
 rcases aa (a.name=b.name) with h1|h1
 ·have k1:=eq_true h1
  simp -implicitDefEqProofs only[go_sem,k1]
  refine aC [] (N7 a.args b.args) ?_
  rcases aa (a.args=b.args) with h2|h2
  ·have k2:=eq_true h2
   simp -implicitDefEqProofs only[go_sem,k2]
   refine FF (by kernel_rfl) (a:=a.val.N) (b:=a.val.D) (c:=b.val.N) (e:=b.val.D) (by simp -implicitDefEqProofs only[go_sem]) (by simp -implicitDefEqProofs only[go_sem]) ?_
   rcases aa (a.val=b.val) with h3|h3
   ·have ep:jn a.val.N a.val.D b.val.N b.val.D=true:=by rw[h3];simp[jn]
    simp -implicitDefEqProofs only[go_sem,ep]
    refine an ?_
    refine sA ?_
    all_goals(simp[Mh,h1,h2,h3];done)
   ·have ep:jn a.val.N a.val.D b.val.N b.val.D=false:=by
     cases hq:jn a.val.N a.val.D b.val.N b.val.D with
     | false=>rfl
     | true=>
       simp only[jn,al,beq_iff_eq] at hq
       refine absurd ?_ h3
       revert hq
       generalize a.val=u
       generalize b.val=v
       cases u
       cases v
       rintro⟨rfl,rfl⟩
       rfl
    simp -implicitDefEqProofs only[go_sem,ep]
    refine an ?_
    refine sA ?_
    all_goals(simp[Mh,h3];done)
  ·refine uB ?_
   refine an ?_
   refine sA ?_
   all_goals(simp[Mh,h2];done)
 ·refine uA ?_
  refine an ?_
  refine sA ?_
  all_goals(simp[Mh,h1];done)
theorem uz(a b:Mod.Model):C E.P 12 [av (ez a),av (ez b)] [] (bz (bv (decide (a=b))) []):=by
 have e:(a=b)=(a.rows=b.rows):=by cases a;cases b;simp
 refine gS (nt:=10) (rs:=[.tmp 4]) hm Tryz.func12 fun hl he cq=>?_
 refine aC [] (Ee 26 a.rows b.rows (fun x _ y=>zM x y)) ?_
 refine an ?_
 refine sA ?_
 all_goals(simp[e];done)
end Go.Proofs.YtabembjmeobhoaaGreat
