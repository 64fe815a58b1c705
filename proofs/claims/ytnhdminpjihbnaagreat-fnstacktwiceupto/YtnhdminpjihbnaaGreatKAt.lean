/-
  Stacks: the reference's walks. A step towards the exact laws.
-/
import Derived.Test.YtnhdminpjihbnaaGreatKAj
import Derived.Test.YtnhdminpjihbnaaGreatKAs
set_option linter.unusedVariables false
set_option linter.unusedSimpArgs false
open Int renaming reduceEq→Z1,reduceLT→Z2,reduceLE→Z3,reduceToNat→Z4
open Classical renaming em→aa
open List renaming getElem_mem→ah,take_of_length_le→ak,length_append→ay,flatten_append→fV
namespace Go.Proofs.YtnhdminpjihbnaaGreat
open Go.Eng Go.Mod
set_option maxRecDepth 100000
set_option maxHeartbeats 800000
theorem NQ(a:bz)(hb9:a.bt.length≤8000000):CN 39 [av (iA a)] (av (iA a)):=by
 have ht:=ny a.bt;refine gS 41 [.cell 2 34] hm Tryz.func39 fun hl he cV=>?_;refine oL [] (mK a.A) ?_;refine oL [] (mK a.B) ?_;refine jf hm a.an.length (fun i=>⟨fk 41 .any [(1,.bK 0 0),(2,.bK 1 0),(3,.bK 3 0),(4,iv i)],[some (.box (fy (iA a))),some (.box [iv 0,sv [],.bE,sv [],.bE,.bE,.bE,iv 0,bv false]),some (.aW 3 (bj a.bt)),some (.box [iv a.kind,sv a.A.name,lv (ba a.A.ar),sv a.B.name,lv (ba a.B.ar),.aW 4,.aW 2,iv a.bJ,bv a.cz]),some (.aW 31 (ba (a.an.take i)))]⟩) (c9 [some 0,some 1,some 3,some 4,none]) ?_;rintro i hi;rcases aa (i<a.an.length) with h1|h1
 ·(try simp -implicitDefEqProofs only[go_sem,h1]);refine sI ?_;refine aC [] (mK a.an[i]) ?_;refine sJ ?_;exact⟨i+1,h1,sL,bW [some 0,some 1,some 2,some 3,some 5] (by refine sA ?_;(first|done|(exact r8 h1)|(simp[aR, *];done)|(simp[aR];done)|(simp;omega)|skip)) (by refine sA ?_;(first|done|(exact r8 h1)|(simp[aR, *];done)|(simp[aR];done)|(simp;omega)|skip)) rfl rfl⟩
 refine dB h1 ?_;rw[ak oM]
theorem JU(t:Mod.aU)(ih:∀k∈t.ar,iw k≤8000000→CN 19 [av (eE k)] (av (eE k)))(hb9:iw t≤8000000):CN 19 [av (eE t)] (av (eE t)):=by
 rw[B7,tq] at hb9;have hln:=nL t.ar;refine gS 35 [.cell 2 39] hm Tryz.func19 fun hl he cV=>?_;refine oL [] (NQ t.lit.aY oM) ?_;refine jf hm t.ar.length (fun i=>⟨fk 35 .any [(1,.bK 0 0),(2,.bK 1 0),(3,.bK 2 0),(4,iv i)],[some (.box (fy (eE t))),some (.box [iv 0,iv 0,sv [],.bE,sv [],.bE,.bE,.bE,iv 0,bv false,bv false,.bE]),some (.box [iv t.kind,iv t.lit.aY.kind,sv t.lit.aY.A.name,lv (ba t.lit.aY.A.ar),sv t.lit.aY.B.name,lv (ba t.lit.aY.B.ar),lv (ba t.lit.aY.an),lv (bj t.lit.aY.bt),iv t.lit.aY.bJ,bv t.lit.aY.cz,bv t.lit.no,.aW 3]),some (.aW 39 (bc (t.ar.take i)))]⟩) (c9 [some 0,some 1,some 2,none]) ?_;rintro i hi;rcases aa (i<t.ar.length) with h1|h1
 ·have hc9:iw t.ar[i]≤8000000:=(by have:=qt iw (ah h1);rw[←Cd] at this;omega);have hc:=ih t.ar[i] (ah h1) hc9;try simp -implicitDefEqProofs only[go_sem,h1]
  refine sI ?_;refine aC [] hc ?_;refine sJ ?_;exact⟨i+1,h1,sL,bW [some 0,some 1,some 2,some 4] (by refine sA ?_;(first|done|(exact s7 h1)|(simp[aR, *];done)|(simp[aR];done)|(simp;omega)|skip)) (by refine sA ?_;(first|done|(exact s7 h1)|(simp[aR, *];done)|(simp[aR];done)|(simp;omega)|skip)) rfl rfl⟩
 refine dB h1 ?_;rw[ak oM]
theorem wi:∀(t:Mod.aU),iw t≤8000000→CN 19 [av (eE t)] (av (eE t)):=
 aU.ind fun _ _ _ ih hb=>JU _ ih hb
theorem Ab(ts:List Mod.aU)(hb9:dU ts≤8000000):C E.P 38 [lv (bc ts)] [] (gR (.aW 0) [some (.aW 39 (bc ts))]):=by
 have hln:=nL ts;refine gS 21 [.tmp 2] hm Tryz.func38 fun hl he cV=>?_;refine jf hm ts.length (fun i=>⟨fk 21 .any [(0,lv (bc ts)),(3,.aW 0),(4,iv i)],[some (.aW 39 (bc (ts.take i)))]⟩) (c9 gE) ?_;rintro i hi;rcases aa (i<ts.length) with h1|h1
 ·have hc9:iw ts[i]≤8000000:=(by have:=qt iw (ah h1);rw[←Cd] at this;omega);try simp -implicitDefEqProofs only[go_sem,h1]
  refine sI ?_;refine aC [] (wi ts[i] hc9) ?_;refine sJ ?_;exact⟨i+1,h1,sL,bW [some 1] (by refine sA ?_;(first|done|(exact s7 h1)|(simp[aR, *];done)|(simp[aR];done)|(simp;omega)|skip)) (by refine sA ?_;(first|done|(exact s7 h1)|(simp[aR, *];done)|(simp[aR];done)|(simp;omega)|skip)) rfl rfl⟩
 refine dB h1 ?_;refine bM gE ?_ rfl rfl;refine sA ?_;rw[ak oM]
theorem Hk(ts:List Mod.aU)(hb9:dU ts≤8000000):CN 38 [lv (bc ts)] (lv (bc ts)):=by refine(Ab ts hb9).wF [] ?_ rfl rfl;exact sC
theorem xz(s:eV)(hb9:tL rR s.cq≤8000000):CN 37 [av (gi s)] (av (gi s)):=by
 have hln:=Rq rR (fun x=>by unfold rR;omega) s.cq;refine gS 32 [.cell 2 25] hm Tryz.func37 fun hl he cV=>?_;refine jf hm s.cq.length (fun i=>⟨fk 32 .any [(1,.bK 0 0),(2,.bK 1 0),(3,.bK 2 0),(4,iv i)],[some (.box (fy (gi s))),some (.box [.bE]),some (.box [.aW 3]),some (.e9 116 (rM (s.cq.take i)))]⟩) (c9 [some 0,some 1,some 3,some 2]) ?_;rintro i hi;have hp:(rM (s.cq.take i)).length=i:=by rw[AM,List.length_take];omega
 rcases aa (i<s.cq.length) with h1|h1
 ·have hc9:=qt rR (ah h1);rw[rR] at hc9;have l6:=ny s.cq[i].args;try simp -implicitDefEqProofs only[go_sem,h1]
  refine sJ ?_;refine⟨i+1,?_,?_,pQ 8 i _ rfl (by rw[ay,hp];simp) (ll hp) ?_⟩;rotate_left;show _ < _;omega
  ·refine sA ?_;refine bW [some 0,some 1,some 2,some 8] ?_ ?_ rfl rfl
   ·refine sA ?_;all_goals(first|done|(rw[je hp];exact⟨oo h1,(congrArg (fun z=>(bA z).isSome) (oo h1)).trans (EL _)⟩)|(simp[aR, *];done)|(simp[aR];done)|(simp;omega)|skip)
   refine bI ?_;all_goals(first|done|(rw[je hp];exact⟨oo h1,(congrArg (fun z=>(bA z).isSome) (oo h1)).trans (EL _)⟩)|(simp[aR, *];done)|(simp[aR];done)|(simp;omega)|skip)
  exact h1
 refine dB h1 ?_;rw[ak oM];exact⟨_,rfl,rfl⟩
theorem lN(s:e7)(hb9:di s≤8000000)(rP:s.aA.length≤8000000):CN 18 [av (ic s)] (av (ic s)):=by
 rw[di] at hb9;refine gS 29 [.cell 2 28] hm Tryz.func18 fun hl he cV=>?_;refine oL [] (xz s.sig oM) ?_;refine jf hm s.aA.length (fun i=>⟨fk 29 .any [(1,.bK 0 0),(2,.bK 1 0),(3,.bK 2 0),(4,iv i)],[some (.box (fy (ic s))),some (.box [.bE,.bE]),some (.box [lv (ij s.sig.cq),.aW 3]),some (.aW 37 (fM (s.aA.take i)))]⟩) (c9 [some 0,some 1,some 3,some 2]) ?_;rintro i hi;rcases aa (i<s.aA.length) with h1|h1
 ·have hc9:=qt dU (ah h1);try simp -implicitDefEqProofs only[go_sem,h1]
  refine sI ?_;refine aC [] (Hk s.aA[i] oM) ?_;refine sJ ?_;exact⟨i+1,h1,sL,bW [some 0,some 1,some 2,some 4] (by refine sA ?_;(first|done|(exact I9 h1)|(simp[aR, *];done)|(simp[aR];done)|(simp;omega)|skip)) (by refine sA ?_;(first|done|(exact I9 h1)|(simp[aR, *];done)|(simp[aR];done)|(simp;omega)|skip)) rfl rfl⟩
 refine dB h1 ?_;rw[ak oM]
theorem JR(s:e7)(rP:s.aA.flatten.length≤8000000):CN 36 [av (ic s)] (lv (bc s.aA.flatten)):=by
 refine gS 21 [.tmp 2] hm Tryz.func36 fun hl he cV=>?_;refine jf hm s.aA.length (fun i=>⟨fk 21 .any [(1,.bK 0 0),(3,.aW 1),(4,iv i)],[some (.box (fy (ic s))),some (.aW 39 (bc (s.aA.take i).flatten))]⟩) (c9 qR) ?_;rintro i hi;rcases aa (i<s.aA.length) with h1|h1;have e:bc (s.aA.take i).flatten++bc s.aA[i]=bc (s.aA.take (i+1)).flatten:=by have e:s.aA.take (i+1)=s.aA.take i++[s.aA[i]]:=(by rw[List.take_add_one,List.getElem?_eq_getElem h1];rfl);rw[lq,e,fV];simp
 have e2:s.aA.flatten.length=(s.aA.take (i+1)).flatten.length+(s.aA.drop (i+1)).flatten.length:=by rw[←ay,←fV,List.take_append_drop]
 have e3:(s.aA.take (i+1)).flatten.length=(s.aA.take i).flatten.length+s.aA[i].length:=by have:=congrArg List.length e;rw[ay,eL,eL,eL] at this;exact this.symm
 have l6:=u9 s.aA[i];try simp -implicitDefEqProofs only[go_sem,h1]
 refine sJ ?_;exact⟨i+1,h1,sL,c9 [some 0,some 2]⟩;refine dB h1 ?_;rw[ak oM]
theorem nj(s:e7)(rP:s.aA.flatten.length≤8000000):CN 17 [av (ic s)] (bv (fc s)):=by
 refine gS 20 [.tmp 2] hm Tryz.func17 fun hl he cV=>?_;rcases aa ((1:Int)≤s.aA.length) with h1|h1;rcases aa ((s.aA.length:Int)≤4) with h2|h2;have hw:c8 s.aA.length 1 4=true:=dM.2 ⟨h1,h2⟩;refine pV h1 h2 ?_;refine oL [] (JR s rP) ?_;refine aC [] (Mb s.sig s.aA.flatten) ?_;refine bI ?_;simp[fc,hw];have hw:c8 s.aA.length 1 4=false:=by simp[c8];omega
 refine pV h1 h2 ?_;simp[fc,hw];have hw:c8 s.aA.length 1 4=false:=by simp[c8];omega
 refine dB h1 ?_;simp[fc,hw]
theorem Jw(s:e7)(hb9:di s≤8000000):CN 26 [av (ic s)] (.ko [av (ic (gN s).1),bv (gN s).2]):=by
 have hfl:s.aA.flatten.length≤8000000:=by have:=gM s.aA;rw[di] at hb9;omega
 refine gS 25 [.cell 2 28,.tmp 3] hm Tryz.func26 fun hl he cV=>?_;refine oL [] (nj s hfl) ?_;cases dL:fc s;have e:gN s=(⟨⟨[]⟩,[]⟩,false):=by simp[gN,dL]
 refine bI ?_;rw[e];exact⟨⟨rfl,rfl⟩,rfl⟩;have fj:=tf dL;refine bI ?_;refine oL [] (lN s hb9 oM) ?_;rcases aa ((s.aA.length:Int)<2) with h2|h2;have e:gN s=(s,false):=by rw[gN,if_pos dL,if_pos oM]
 refine bS h2 ?_;refine sI ?_;refine An ?_;rw[e];exact⟨⟨rfl,rfl⟩,rfl⟩;have e:gN s=(⟨s.sig,s.aA.take (s.aA.length-1)⟩,true):=by rw[gN,if_pos dL,if_neg oM]
 have e2:((s.aA.length:Int)-1).toNat=s.aA.length-1:=oM;have l6:=WV s.aA;refine pV h2 e2 ?_;refine⟨⟨oM,oM,l6⟩,?_⟩;refine bI ?_;rw[e];exact⟨⟨rfl,by rw[List.drop_zero,Nat.sub_zero,UP]⟩,rfl⟩
end Go.Proofs.YtnhdminpjihbnaaGreat
