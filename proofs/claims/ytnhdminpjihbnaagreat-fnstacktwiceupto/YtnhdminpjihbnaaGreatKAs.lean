/-
  Stacks that share nothing: the program's walks. A step towards the exact laws.
-/
import Derived.Test.YtnhdminpjihbnaaGreatKAr
set_option linter.unusedVariables false
set_option linter.unusedSimpArgs false
open Int renaming reduceEq→Z1,reduceLT→Z2,reduceLE→Z3,reduceToNat→Z4
open Classical renaming em→aa
open List renaming getElem_mem→ah,take_of_length_le→ak,length_append→ay,length_take→a6,flatten_append→fV
namespace Go.Proofs.YtnhdminpjihbnaaGreat
open Go.Eng Go.Mod
set_option maxRecDepth 100000
set_option maxHeartbeats 800000
theorem qt{α:Type}(c:α→Nat):∀{xs:List α}{x:α},x∈xs→c x≤tL c xs
 | a::xs,x,h=>by simp only[tL];rcases List.mem_cons.1 h with rfl|h;omega;have:=qt c h;omega
theorem Rq{α:Type}(c:α→Nat)(h:∀x,1≤c x):∀(xs:List α),xs.length≤tL c xs
 | []=>by simp
 | x::xs=>by have:=Rq c h xs;have:=h x;simp only[tL,List.length_cons];omega
theorem vD(ts:List Mod.aU)(ih:∀t∈ts,iw t≤8000000→C E.P 59 [av (eE t)] [] (gR (.agg (TJ t 0)) (SG t)))(hb9:dU ts≤8000000):C E.P 34 [lv (bc ts)] [] (gR (.aW 0) [some (.e9 39 (Fl ts))]):=by
 have hln:=nL ts;refine gS 19 [.tmp 2] hm Tryz.func34 fun hl he cV=>?_;refine jf hm ts.length (fun i=>⟨fk 19 .any [(3,.aW 0),(6,lv (bc ts)),(7,iv ts.length),(8,iv i)],[some (.e9 39 (Fl (ts.take i)))]⟩) (c9 [none]) ?_;rintro i hi;have hp:(Fl (ts.take i)).length=i:=by rw[Q8,a6];omega
 rcases aa (i<ts.length) with h1|h1
 ·have hc9:iw ts[i]≤8000000:=(by have:=qt iw (ah h1);rw[←Cd] at this;omega);try simp -implicitDefEqProofs only[go_sem,h1]
  refine sI ?_;have hc:=ih ts[i] (ah h1) hc9;refine oC [] [2,3,4,5,6] hc ?_;refine sJ ?_;refine⟨i+1,?_,?_,pQ 8 i _ rfl (by rw[ay,hp];simp) (ll hp) ?_⟩;rotate_left;show _ < _;omega
  ·refine sA ?_;refine bW [some 8] ?_ ?_ rfl rfl
   ·refine sA ?_;all_goals(first|done|(rw[je hp];exact⟨FP h1,(congrArg (fun z=>(bA z).isSome) (FP h1)).trans (aeD _)⟩)|(simp[aR, *];done)|(simp[aR];done)|(simp;omega)|skip)
   refine bI ?_;all_goals(first|done|(rw[je hp];exact⟨FP h1,(congrArg (fun z=>(bA z).isSome) (FP h1)).trans (aeD _)⟩)|(simp[aR, *];done)|(simp[aR];done)|(simp;omega)|skip)
  exact h1
 refine dB h1 ?_;refine bM gE ?_ rfl rfl;refine sA ?_;rw[ak oM]
theorem DH(t:Mod.aU)(ih:∀k∈t.ar,iw k≤8000000→C E.P 59 [av (eE k)] [] (gR (.agg (TJ k 0)) (SG k)))(hb9:iw t≤8000000):C E.P 59 [av (eE t)] [] (gR (.agg (TJ t 0)) (SG t)):=by rw[B7,tq] at hb9;refine gS 14 [.cell 2 39] hm Tryz.func59 fun hl he cV=>?_;refine xN [] [2,3,4,5] (F0 t.lit.aY oM) ?_;refine xN [] [6] (vD t.ar ih oM) ?_;refine bM [some 2,some 3,some 4,some 5,some 6] ?_ rfl rfl;exact sC
theorem Gr:∀(t:Mod.aU),iw t≤8000000→C E.P 59 [av (eE t)] [] (gR (.agg (TJ t 0)) (SG t)):=
 aU.ind fun _ _ _ ih hb=>DH _ ih hb
theorem F7(ts:List Mod.aU)(hb9:dU ts≤8000000):C E.P 34 [lv (bc ts)] [] (gR (.aW 0) [some (.e9 39 (Fl ts))]):=vD ts (fun t _=>Gr t) hb9
theorem Gx(s:eV)(hb9:tL rR s.cq≤8000000):C E.P 33 [av (gi s)] [] (gR (.agg [.aW 0]) [some (.e9 116 (rM s.cq))]):=by
 have hln:=Rq rR (fun x=>by unfold rR;omega) s.cq;refine gS 25 [.cell 2 25] hm Tryz.func33 fun hl he cV=>?_;refine jf hm s.cq.length (fun i=>⟨fk 25 .any [(2,.bK 1 0),(3,.bK 2 0),(7,lv (ij s.cq)),(8,iv s.cq.length),(9,iv i)],[some (.box (fy (gi s))),some (.box [.bE]),some (.box [.aW 3]),some (.e9 116 (rM (s.cq.take i)))]⟩) (c9 [some 0,some 1,some 2,none]) ?_;rintro i hi;have hp:(rM (s.cq.take i)).length=i:=by rw[AM,a6];omega
 rcases aa (i<s.cq.length) with h1|h1
 ·have hc9:=qt rR (ah h1);rw[rR] at hc9;try simp -implicitDefEqProofs only[go_sem,h1]
  refine sI ?_;refine oC [] [5] (Dy s.cq[i].args oM) ?_;refine sJ ?_;refine⟨i+1,?_,?_,pQ 7 i _ rfl (by rw[ay,hp];simp) (ll hp) ?_⟩;rotate_left;show _ < _;omega
  ·refine sA ?_;refine bW [some 0,some 1,some 2,some 7] ?_ ?_ rfl rfl
   ·refine sA ?_;all_goals(first|done|(rw[je hp];exact⟨oo h1,(congrArg (fun z=>(bA z).isSome) (oo h1)).trans (EL _)⟩)|(simp[aR, *];done)|(simp[aR];done)|(simp;omega)|skip)
   refine bI ?_;all_goals(first|done|(rw[je hp];exact⟨oo h1,(congrArg (fun z=>(bA z).isSome) (oo h1)).trans (EL _)⟩)|(simp[aR, *];done)|(simp[aR];done)|(simp;omega)|skip)
  exact h1
 refine dB h1 ?_;refine Et [some 3] ?_;rw[ak oM]
theorem lR(s:e7)(hb9:di s≤8000000)(rP:s.aA.length≤8000000):C E.P 16 [av (ic s)] [] (gR (.agg [.aW 0,.aW 1]) [some (.e9 116 (rM s.sig.cq)),some (.e9 37 (lT s.aA))]):=by
 rw[di] at hb9;refine gS 26 [.cell 2 28] hm Tryz.func16 fun hl he cV=>?_;refine xN [] [2] (Gx s.sig oM) ?_;refine jf hm s.aA.length (fun i=>⟨fk 26 .any [(2,.bK 1 0),(3,.bK 3 0),(11,lv (fM s.aA)),(12,iv s.aA.length),(13,iv i)],[some (.box (fy (ic s))),some (.box [.bE,.bE]),some (.e9 116 (rM s.sig.cq)),some (.box [.aW 2,.aW 4]),some (.e9 37 (lT (s.aA.take i)))]⟩) (c9 [some 0,some 1,some 2,some 3,none]) ?_;rintro i hi;have hp:(lT (s.aA.take i)).length=i:=by rw[WW,a6];omega
 rcases aa (i<s.aA.length) with h1|h1
 ·have hc9:=qt dU (ah h1);try simp -implicitDefEqProofs only[go_sem,h1]
  refine sI ?_;refine oC [] [5] (F7 s.aA[i] oM) ?_;refine sJ ?_;refine⟨i+1,?_,?_,pQ 7 i _ rfl (by rw[ay,hp];simp) (ll hp) ?_⟩;rotate_left;show _ < _;omega
  ·refine sA ?_;refine bW [some 0,some 1,some 2,some 3,some 7] ?_ ?_ rfl rfl
   ·refine sA ?_;all_goals(first|done|(rw[je hp];exact⟨Ko h1,(congrArg (fun z=>(bA z).isSome) (Ko h1)).trans (agW _)⟩)|(simp[aR, *];done)|(simp[aR];done)|(simp;omega)|skip)
   refine bI ?_;all_goals(first|done|(rw[je hp];exact⟨Ko h1,(congrArg (fun z=>(bA z).isSome) (Ko h1)).trans (agW _)⟩)|(simp[aR, *];done)|(simp[aR];done)|(simp;omega)|skip)
  exact h1
 refine dB h1 ?_;refine Et [some 2,some 4] ?_;rw[ak oM]
theorem wv(s:e7)(rP:s.aA.flatten.length≤8000000):CN 21 [av (ic s)] (lv (bc s.aA.flatten)):=by
 refine gS 18 [.tmp 2] hm Tryz.func21 fun hl he cV=>?_;refine jf hm s.aA.length (fun i=>⟨fk 18 .any [(3,.aW 1),(7,lv (fM s.aA)),(8,iv s.aA.length),(9,iv i)],[some (.box (fy (ic s))),some (.aW 39 (bc (s.aA.take i).flatten))]⟩) (c9 [some 0,none]) ?_;rintro i hi;rcases aa (i<s.aA.length) with h1|h1;have e:bc (s.aA.take i).flatten++bc s.aA[i]=bc (s.aA.take (i+1)).flatten:=by have e:s.aA.take (i+1)=s.aA.take i++[s.aA[i]]:=(by rw[List.take_add_one,List.getElem?_eq_getElem h1];rfl);rw[lq,e,fV];simp
 have e2:s.aA.flatten.length=(s.aA.take (i+1)).flatten.length+(s.aA.drop (i+1)).flatten.length:=by rw[←ay,←fV,List.take_append_drop]
 have e3:(s.aA.take (i+1)).flatten.length=(s.aA.take i).flatten.length+s.aA[i].length:=by have:=congrArg List.length e;rw[ay,eL,eL,eL] at this;exact this.symm
 have l6:=u9 s.aA[i];try simp -implicitDefEqProofs only[go_sem,h1]
 refine sJ ?_;exact⟨i+1,h1,sL,c9 [some 0,some 2]⟩;refine dB h1 ?_;rw[ak oM]
theorem o4(s:e7)(rP:s.aA.flatten.length≤8000000):CN 15 [av (ic s)] (bv (fc s)):=by refine gS 14 [.tmp 2] hm Tryz.func15 fun hl he cV=>?_;refine oL [] (fw s.aA.length 1 4) ?_;cases hw:c8 s.aA.length 1 4;refine bI ?_;simp[fc,hw];refine bI ?_;refine oL [] (wv s rP) ?_;refine aC [] (Bz s.sig s.aA.flatten) ?_;refine bI ?_;simp[fc,hw]
end Go.Proofs.YtnhdminpjihbnaaGreat
