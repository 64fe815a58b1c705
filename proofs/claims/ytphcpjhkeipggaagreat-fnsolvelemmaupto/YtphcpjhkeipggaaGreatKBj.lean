/-
  The reference: the walks of lists of formulas. A step towards the exact laws.
-/
import Derived.Test.YtphcpjhkeipggaaGreatKBf
set_option linter.unusedVariables false
set_option linter.unusedSimpArgs false
open Int renaming reduceEq→Z1,reduceLT→Z2,reduceLE→Z3,reduceToNat→Z4
open Classical renaming em→aa
open List renaming all_eq_true→cV
namespace Go.Proofs.YtphcpjhkeipggaaGreat
open Go.Eng Go.Mod
set_option maxRecDepth 100000
set_option maxHeartbeats 3200000
theorem Bx(aS:List Mod.bU)(nq:∀f∈aS,jB f=true)(eO:aS.length≤5):CN 20 [lv (cG aS)] (lv (bx (ba [] aS))):=by
 refine gS 19 [.tmp 2] hm Tryz.func20 fun hl he cf=>?_;refine jr hm aS.length (fun i=>⟨dN 19 .any [(0,lv (cG aS)),(3,.aX 0),(4,iv i)],[some (.aX 59 (bx (ba [] (aS.take i))))]⟩) (cM fe) ?_;rintro i hi;have hl2:(aS.take i).length=i:=by rw[List.length_take];omega
 have b1:=rZ (aS.take i) [] (fun f hf=>nq f (List.mem_of_mem_take hf));simp only[List.length_nil] at b1;rcases aa (i<aS.length) with h1|h1;have hs:=yS (nq aS[i] (List.getElem_mem h1));refine uA ?_;refine oC [] [0,1] (Aj aS[i] 5 (ba [] (aS.take i)) hs.1 oM) ?_;refine bt ?_;exact⟨i+1,h1,sL,aZ [some 1] sC (by refine sA ?_;simp only[iG h1]) rfl rfl⟩;have e:aS.take i=aS:=List.take_of_length_le oM;refine iI h1 e ?_;refine fD ?_;exact sC
theorem Iw(aS:List Mod.bU):CN 64 [lv (cG aS)] (bv (fc aS).isSome):=by have e:=n9 aS;refine gS 25 [.tmp 2] hm Tryz.func64 fun hl he cf=>?_;refine kC hm aS.length (fun(i:Nat)=>aS.all jB=(aS.drop i).all jB) (fun i=>⟨dN 25 .any [(0,lv (cG aS)),(3,iv i)],[]⟩) ?_ (cM []) ?_;simp;rintro i ⟨hi,hg⟩;rcases aa (i<aS.length) with h1|h1;rw[List.drop_eq_getElem_cons h1,List.all_cons] at hg;refine uA ?_;refine aC [] (Bg aS[i]) ?_;cases h2:jB aS[i];rw[h2,Bool.false_and] at hg;rw[if_neg (fun hh=>by rw[hh.2.1] at hg;cases hg)] at e;exact dD e;rw[h2,Bool.true_and] at hg;refine bt ?_;exact⟨i+1,⟨oM,hg⟩,sL,cM []⟩;rw[List.drop_of_length_le oM,List.all_nil] at hg;have nq:∀f∈aS,jB f=true:=cV.1 hg;refine bH h1 ?_;rcases aa ((aS.length:Int)≤5) with h3|h3;have h3':aS.length≤5:=oM;refine bH h3 ?_;refine aC [] (Bx aS nq h3') ?_;rcases aa ((ba [] aS).length≤6) with h4|h4;have h4':((ba [] aS).length:Int)≤6:=oM;rw[if_pos ⟨h3',hg,h4⟩] at e;refine bt ?_;rw[e];simp only[h4',decide_true];rfl;have h4':¬ ((ba [] aS).length:Int)≤6:=oM;rw[if_neg (fun hh=>h4 hh.2.2)] at e;refine bt ?_;rw[e];simp only[h4',decide_false];rfl;have h3':¬aS.length≤5:=oM;rw[if_neg (fun hh=>h3' hh.1)] at e;exact gG h3 e
theorem KI(s:eM)(aS:List Mod.bU):CN 29 [av (eP s),lv (cG aS)] (bv (hH s aS)):=by
 have e:=n9 aS;refine gS 18 [.tmp 4] hm Tryz.func29 fun hl he cf=>?_;refine aC [] (uh s) ?_;cases h1:gC s;have e2:hH s aS=false:=by unfold hH;split<;>simp[h1]
 exact dD e2;refine sA ?_;refine aC [] (Iw aS) ?_;cases h2:fc aS with
 | none=>have e2:hH s aS=false:=(by unfold hH;rw[h2]);exact dD e2
 | some xs=>rw[h2] at e;rcases aa (aS.length≤5∧aS.all jB=true∧(ba [] aS).length≤6) with hc|hc;rw[if_pos hc] at e;have e3:xs=ba [] aS:=Option.some.inj e;have e2:hH s aS=gn s (plain (ba [] aS)):=(by unfold hH;rw[h2,h1,e3];rfl);refine zx ?_;refine aC [] (Bx aS (cV.1 hc.2.1) hc.1) ?_;refine aC [] (MG (ba [] aS) oM) ?_;refine aC [] (xi s (plain (ba [] aS))) ?_;exact dD e2;rw[if_neg hc] at e;cases e
end Go.Proofs.YtphcpjhkeipggaaGreat
