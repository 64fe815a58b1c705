/-
  The law FnStackTwice, walked: whatever it is given, it answers yes. A step towards the law.
-/
import Derived.Test.YtnhdminpjihbnaaGreatKAyi
import Derived.Test.YtnhdminpjihbnaaGreatKAzk
set_option linter.unusedVariables false
set_option linter.unusedSimpArgs false
open Int renaming reduceEq→Z1,reduceLT→Z2,reduceLE→Z3,reduceToNat→Z4
open Classical renaming em→aa
namespace Go.Proofs.YtnhdminpjihbnaaGreat
open Go.Eng Go.Mod
set_option maxRecDepth 100000
set_option maxHeartbeats 3200000
theorem WT{s:eV}{l:List Mod.aU}{f:Mod.aU}(hf:f∈l)(h1:gl s l=true)(h2:gl s (l++[f])=true):(jo s l).2.2=2∨(jo s (l++[f])).2.2=2∨(jo s l).2.2=(jo s (l++[f])).2.2:=by
 have hsame:∀m,lS s m l=lS s m (l++[f]):=fun m=>by
  rw[lS,lS,h1,h2];cases ly s m with
  | false=>rfl
  | true=>
   simp only[Bool.true_and,List.all_append,List.all_cons,List.all_nil,Bool.and_true];cases ha:l.all fun f=>decide (pa s m f=some true) with
   | false=>rfl
   | true=>rw[List.all_eq_true.1 ha f hf];rfl
 obtain⟨y1,n1,f1,k1⟩:=Iu s l;obtain⟨y2,n2,f2,k2⟩:=Iu s (l++[f]);have e1:(jo s l).2.2≠3:=fun e=>by rw[f1.1 e] at h1;cases h1
 have e2:(jo s (l++[f])).2.2≠3:=fun e=>by rw[f2.1 e] at h2;cases h2
 have a1:(jo s l).2.2=0→(jo s (l++[f])).2.2≠1:=fun h e=>by have:=y1 h;rw[hsame,n2 e] at this;cases this
 have a2:(jo s (l++[f])).2.2=0→(jo s l).2.2≠1:=fun h e=>by have:=y2 h;rw[←hsame,n1 e] at this;cases this
 omega
theorem Dk{k:e7}(h:fc k=true):gl k.sig k.aA.flatten=true:=by simp only[fc,Bool.and_eq_true] at h;exact h.2
theorem HN(b:List Int)(hb:∀x∈b,0≤x∧x≤255):CN 3 [lv (byD b)] (bv true):=by
 refine gS 68 [.tmp 2] hm Tryz.func3 fun hl he cV=>?_;rcases aa ((1048576:Int)<(b.length:Int)) with h0|h0;refine bS h0 ?_;refine fv ?_;exact sC;have cD:=AO b hb oM;have hct:=fun h=>UU (V8 hb) h;have hfl:=Oj (V8 hb);generalize od (b.take 2000)=g at cD hct hfl;obtain⟨k,f⟩:=g;simp only at cD hct hfl;refine bS h0 ?_;refine aC [] cD ?_;cases dL:fc k;have c1:=td k f hfl dL;have c2:=Bl k f hfl dL;have c3:=td WG f (by decide) (by decide);refine aC [] c1 ?_;refine aC [] c2 ?_;refine aC [] c3 ?_;refine fv ?_;exact sC;obtain⟨hc1,hc2⟩:=hct dL;have c1:=vu k f oM;have c2:=yn k f oM;have ht:=Q4 k f;have c3:=vu (bZ k f).1 f oM;have ht2:=Q4 (bZ k f).1 f;have hkl:=tf dL;have nI:k.aA≠[]:=fun e=>by rw[e] at hkl;simp at hkl
 cases h2:fc ⟨k.sig,cM k.aA f⟩;have e:bZ k f=(k,false):=by simp[bZ,dL,h2]
 rw[e] at c1 c2 c3;refine aC [] c1 ?_;refine aC [] c2 ?_;refine aC [] c3 ?_;refine fv ?_;exact sC;have e:bZ k f=(⟨k.sig,cM k.aA f⟩,true):=by simp[bZ,dL,h2]
 rw[e] at c1 c2 c3 ht ht2;simp only at c1 c2 c3 ht ht2;have hxf:(⟨k.sig,cM k.aA f⟩:e7).aA.flatten=k.aA.flatten++[f]:=xx k.aA f nI;have hxl:=qT k.aA f;have hxn:(⟨k.sig,cM k.aA f⟩:e7).aA≠[]:=fun e=>by have e2:(cM k.aA f).length=0:=(by have:cM k.aA f=[]:=e;rw[this];rfl);rw[hxl] at e2;exact nI (List.length_eq_zero_iff.1 e2)
 have hxs:(⟨k.sig,cM k.aA f⟩:e7).sig=k.sig:=rfl;generalize (⟨k.sig,cM k.aA f⟩:e7)=x at *;cases h3:fc ⟨x.sig,cM x.aA f⟩;have e3:bZ x f=(x,false):=by simp[bZ,h2,h3]
 rw[e3] at c3;refine aC [] c1 ?_;refine aC [] c2 ?_;refine aC [] c3 ?_;refine fv ?_;exact sC;have e3:bZ x f=(⟨x.sig,cM x.aA f⟩,true):=by simp[bZ,h2,h3]
 rw[e3] at c3 ht2;simp only at c3 ht2;have hyf:(⟨x.sig,cM x.aA f⟩:e7).aA.flatten=x.aA.flatten++[f]:=xx x.aA f hxn;have hys:(⟨x.sig,cM x.aA f⟩:e7).sig=x.sig:=rfl;generalize (⟨x.sig,cM x.aA f⟩:e7)=y at *;have hfx:=gM x.aA;have hfy:=gM y.aA;simp only[di] at ht ht2 hc1;have c4:=tE x oM h2;have c5:=tE y oM h3;have f1:=Dk h2;have f2:=Dk h3;rw[hys,hyf] at f2 c5;have key:=WT (s:=x.sig) (l:=x.aA.flatten) (f:=f) (by rw[hxf];simp) f1 f2;generalize (jo x.sig x.aA.flatten).2.2=cx at c4 key;generalize (jo x.sig (x.aA.flatten++[f])).2.2=cy at c5 key;refine aC [] c1 ?_;refine aC [] c2 ?_;refine aC [] c3 ?_;refine aC [] c4 ?_;refine aC [] c5 ?_;rcases aa (cx=2) with g1|g1;have g1':=eq_true g1;refine bS g1' ?_;refine fv ?_;exact sC;rcases aa (cy=2) with g2|g2;have g2':=eq_true g2;refine lf g1 g2' ?_;refine fv ?_;exact sC;have g3:cx=cy:=oM;have g3':=eq_true g3;simp -implicitDefEqProofs only[go_sem,g1,g2,g3'];refine fv ?_;exact sC
end Go.Proofs.YtnhdminpjihbnaaGreat
