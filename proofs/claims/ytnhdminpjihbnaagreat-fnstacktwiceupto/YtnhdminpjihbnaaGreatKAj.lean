/-
  The reference: the walks of lists of formulas. A step towards the exact laws.
-/
import Derived.Test.YtnhdminpjihbnaaGreatKAf
set_option linter.unusedVariables false
set_option linter.unusedSimpArgs false
open Int renaming reduceEq→Z1,reduceLT→Z2,reduceLE→Z3,reduceToNat→Z4
open Classical renaming em→aa
open List renaming all_eq_true→bh
namespace Go.Proofs.YtnhdminpjihbnaaGreat
open Go.Eng Go.Mod
set_option maxRecDepth 100000
set_option maxHeartbeats 800000
theorem Bg(au:List Mod.aU)(l6:∀f∈au,jq f=true)(fj:au.length≤5):CN 61 [lv (bc au)] (lv (bC (bF [] au))):=by
 refine gS 19 [.tmp 2] hm Tryz.func61 fun hl he cV=>?_;refine jf hm au.length (fun i=>⟨fk 19 .any [(0,lv (bc au)),(3,.aW 0),(4,iv i)],[some (.aW 34 (bC (bF [] (au.take i))))]⟩) (c9 gE) ?_;rintro i hi;have hl2:(au.take i).length=i:=by rw[List.length_take];omega
 have b1:=sr (au.take i) [] (fun f hf=>l6 f (List.mem_of_mem_take hf));simp only[List.length_nil] at b1;rcases aa (i<au.length) with h1|h1;have hs:=nT (l6 au[i] (List.getElem_mem h1));refine uA ?_;refine oC [] [0,1] (Bf au[i] 5 (bF [] (au.take i)) hs.1 oM) ?_;refine bI ?_;exact⟨i+1,h1,sL,bW [some 1] sC (by refine sA ?_;simp only[kX h1]) rfl rfl⟩;have e:au.take i=au:=List.take_of_length_le oM;refine lf h1 e ?_;refine fv ?_;exact sC
theorem JE(au:List Mod.aU):CN 60 [lv (bc au)] (bv (cR au).isSome):=by have e:=pX au;refine gS 25 [.tmp 2] hm Tryz.func60 fun hl he cV=>?_;refine lZ hm au.length (fun(i:Nat)=>au.all jq=(au.drop i).all jq) (fun i=>⟨fk 25 .any [(0,lv (bc au)),(3,iv i)],[]⟩) ?_ (c9 []) ?_;simp;rintro i ⟨hi,hg⟩;rcases aa (i<au.length) with h1|h1;rw[List.drop_eq_getElem_cons h1,List.all_cons] at hg;refine uA ?_;refine aC [] (KH au[i]) ?_;cases h2:jq au[i];rw[h2,Bool.false_and] at hg;rw[if_neg (fun hh=>by rw[hh.2.1] at hg;cases hg)] at e;exact fA e;rw[h2,Bool.true_and] at hg;refine bI ?_;exact⟨i+1,⟨oM,hg⟩,sL,c9 []⟩;rw[List.drop_of_length_le oM,List.all_nil] at hg;have l6:∀f∈au,jq f=true:=bh.1 hg;refine bS h1 ?_;rcases aa ((au.length:Int)≤5) with h3|h3;have h3':au.length≤5:=oM;refine bS h3 ?_;refine aC [] (Bg au l6 h3') ?_;rcases aa ((bF [] au).length≤6) with h4|h4;have h4':((bF [] au).length:Int)≤6:=oM;rw[if_pos ⟨h3',hg,h4⟩] at e;refine bI ?_;rw[e];simp only[h4',decide_true];rfl;have h4':¬ ((bF [] au).length:Int)≤6:=oM;rw[if_neg (fun hh=>h4 hh.2.2)] at e;refine bI ?_;rw[e];simp only[h4',decide_false];rfl;have h3':¬au.length≤5:=oM;rw[if_neg (fun hh=>h3' hh.1)] at e;exact lJ h3 e
theorem Mb(s:eV)(au:List Mod.aU):CN 35 [av (gi s),lv (bc au)] (bv (gl s au)):=by
 have e:=pX au;refine gS 18 [.tmp 4] hm Tryz.func35 fun hl he cV=>?_;refine aC [] (uV s) ?_;cases h1:gy s;have e2:gl s au=false:=by unfold gl;split<;>simp[h1]
 exact fA e2;refine sA ?_;refine aC [] (JE au) ?_;cases h2:cR au with
 | none=>have e2:gl s au=false:=(by unfold gl;rw[h2]);exact fA e2
 | some xs=>rw[h2] at e;rcases aa (au.length≤5∧au.all jq=true∧(bF [] au).length≤6) with hc|hc;rw[if_pos hc] at e;have e3:xs=bF [] au:=Option.some.inj e;have e2:gl s au=gO s (plain (bF [] au)):=(by unfold gl;rw[h2,h1,e3];rfl);refine CJ ?_;refine aC [] (Bg au (bh.1 hc.2.1) hc.1) ?_;refine aC [] (NY (bF [] au) oM) ?_;refine aC [] (Dt s (plain (bF [] au))) ?_;exact fA e2;rw[if_neg hc] at e;cases e
end Go.Proofs.YtnhdminpjihbnaaGreat
