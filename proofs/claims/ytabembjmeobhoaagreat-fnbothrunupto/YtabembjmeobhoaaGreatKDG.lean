/-
  The contract of strings.Join, laid at this program. A step towards the exact laws.
-/
import Derived.Shelf.Strings.OnBuilder
import Derived.Test.YtabembjmeobhoaaGreatProg
import Derived.Test.YtabembjmeobhoaaGreatKDF
set_option linter.unusedVariables false
set_option linter.unusedSimpArgs false
open List renaming getElem?_eq_getElem→ah
namespace Go.Proofs
open Go.Shelf
def Tryz.D5:Go.Shelf.Ren:=⟨fun|156=>228|165=>261|166=>262|169=>263|240=>271|241=>272|276=>273|277=>274|n=>n,fun|31=>216|9=>9|3=>3|4=>4|0=>0|20=>20|72=>285|76=>289|70=>283|37=>22|75=>288|127=>294|164=>295|5=>5|80=>291|n=>n,fun|n=>n⟩
theorem Tryz.Rk:Go.Proofs.Lays.n156 Tryz.prog Tryz.D5:={
 mixed:=by kernel_rfl
 f156:=Tryz.func228.trans (congrArg some (by kernel_rfl))
 f165:=Tryz.func261.trans (congrArg some (by kernel_rfl))
 f166:=Tryz.func262.trans (congrArg some (by kernel_rfl))
 f169:=Tryz.func263.trans (congrArg some (by kernel_rfl))
 f240:=Tryz.func271.trans (congrArg some (by kernel_rfl))
 f241:=Tryz.func272.trans (congrArg some (by kernel_rfl))
 f276:=Tryz.func273.trans (congrArg some (by kernel_rfl))
 f277:=Tryz.func274.trans (congrArg some (by kernel_rfl))
 t0:=Tryz.underlying0
 a0:=Tryz.isAgg0
 z0:=Tryz.sizeOf0
 v0:=Tryz.zeroValue0
 t3:=Tryz.underlying3
 a3:=Tryz.isAgg3
 z3:=Tryz.sizeOf3
 v3:=Tryz.zeroValue3
 t4:=Tryz.underlying4
 a4:=Tryz.isAgg4
 z4:=Tryz.sizeOf4
 v4:=Tryz.zeroValue4
 t9:=Tryz.underlying9
 a9:=Tryz.isAgg9
 z9:=Tryz.sizeOf9
 v9:=Tryz.zeroValue9
 t20:=Tryz.underlying20
 a20:=Tryz.isAgg20
 z20:=Tryz.sizeOf20
 v20:=Tryz.zeroValue20
 t31:=Tryz.underlying216
 a31:=Tryz.isAgg216
 z31:=Tryz.sizeOf216
 v31:=Tryz.zeroValue216
 t37:=Tryz.underlying22
 a37:=Tryz.isAgg22
 z37:=Tryz.sizeOf22
 v37:=Tryz.zeroValue22
 t70:=Tryz.underlying283
 a70:=Tryz.isAgg283
 z70:=Tryz.sizeOf283
 v70:=Tryz.zeroValue283
 t72:=Tryz.underlying285
 a72:=Tryz.isAgg285
 z72:=Tryz.sizeOf285
 v72:=Tryz.zeroValue285
 t75:=Tryz.underlying288
 a75:=Tryz.isAgg288
 z75:=Tryz.sizeOf288
 v75:=Tryz.zeroValue288
 t76:=Tryz.underlying289
 a76:=Tryz.isAgg289
 z76:=Tryz.sizeOf289
 v76:=Tryz.zeroValue289
 t127:=Tryz.underlying294
 a127:=Tryz.isAgg294
 z127:=Tryz.sizeOf294
 v127:=Tryz.zeroValue294
 t164:=Tryz.underlying295
 a164:=Tryz.isAgg295
 z164:=Tryz.sizeOf295
 v164:=Tryz.zeroValue295 }
theorem Tryz.tC:Builder.Extra Tryz.prog Tryz.D5:={
 sizeBuilder:=by kernel_rfl
 liesBuilder:=by kernel_rfl
 t5:=Tryz.underlying5
 a5:=Tryz.isAgg5
 z5:=Tryz.sizeOf5
 v5:=Tryz.zeroValue5
 infoByte:=by kernel_rfl
 cellsByte:=by kernel_rfl
 sizeByte:=by kernel_rfl
 neB5:=by decide }
open Go.RowKit in
theorem Tryz.strings_Join_none(a:Option Addr)(c:Nat)(sep:ByteArray)(w:World) :
 Calls Tryz.prog 228 #[.slice a 0 c,.string sep] w fun e w'=>e= .returned (.string ⟨#[]⟩)∧w'=w:=Any.strings_Join_none Tryz.Rk Tryz.tC a c sep w
open Go.RowKit in
theorem Tryz.strings_Join(bk o c:Nat)(xs:List ByteArray)(sep:ByteArray)(w:World)(pV:∀(j:Nat) x,xs[j]?=some x→w.cell? ⟨bk,o+j,none⟩=some (.string x))(hbk:bk<w.heap.size)(hN:xs.length≤140737488355328)(jS:xs.length≤c)(dy:(Lib.join (xs.map (·.data.toList)) sep.data.toList).length≤140737488355328) :
 Calls Tryz.prog 228 #[.slice (some ⟨bk,o,none⟩) xs.length c,.string sep] w fun e w'=>e= .returned (.string ⟨(Lib.join (xs.map (·.data.toList)) sep.data.toList).toArray⟩)∧Below w.heap.size w w':=Any.strings_Join Tryz.Rk Tryz.tC bk o c xs sep w pV hbk hN jS dy
end Go.Proofs
namespace Go.Proofs.YtabembjmeobhoaaGreat
open Go.Eng Go.Mod
set_option maxRecDepth 100000
theorem w5:∀(xs:List nz),jY xs=Lib.join xs [44]
 | []=>rfl
 | [t]=>by simp[jY,Lib.join,List.intercalate]
 | t::u::ts=>by
   have:=w5 (u::ts)
   simp only[Lib.join,List.intercalate] at this
   simp only[jY,Lib.join,List.intercalate,List.intersperse_cons_cons,List.flatten_cons,this]
   rfl
theorem Gl(xs:List nz)(sep:nz)(hx:xs.length≤1000)(hl:(Lib.join xs sep).length≤100000):C E.P 228 [lv (ml xs),sv sep] [] (bz (sv (Lib.join xs sep)) []):=by
 refine⟨⟨_,Tryz.func228,rfl,rfl⟩,?_⟩
 intro X vs jw hO hs
 have hsz:=hs.size
 obtain⟨a,b,rfl⟩:∃a b,vs=[a,b]:=by
  match vs,hsz with
  | [a,b],_=>exact⟨a,b,rfl⟩
  | [],h=>simp at h
  | [_],h=>simp at h
  | _::_::_::_,h=>simp at h
 have h0:=hs.sl 0
 have h1:=hs.sl 1
 have h0:ia X.w0 (cF X X.ν0 (G.at ⟨[lv (ml xs),sv sep],[]⟩)) (.dt (ml xs)) a:=h0
 have h1:ia X.w0 (cF X X.ν0 (G.at ⟨[lv (ml xs),sv sep],[]⟩)) (.str sep) b:=h1
 obtain⟨rfl,hsep⟩:=h1.EX
 have key:Calls Tryz.prog 228 #[a,.string ⟨sep.toArray⟩] X.w0 (fun e w'=>e= .returned (.string ⟨(Lib.join xs sep).toArray⟩)∧Go.RowKit.Below X.w0.heap.size X.w0 w'):=by
  have hj:((xs.map fun x=>(⟨x.toArray⟩:ByteArray)).map (·.data.toList))=xs:=by simp[Function.comp_def]
  generalize hr:ml xs=rs at h0
  cases h0 with
  | nil=>
    have hn:xs=[]:=by
     cases xs with
     | nil=>rfl
     | cons _ _=>simp[ml] at hr
    subst hn
    exact(Tryz.strings_Join_none none 0 ⟨sep.toArray⟩ X.w0).mono fun e w' ⟨he,hw⟩=>⟨he,hw▸Go.RowKit.Below.refl _ _⟩
  | emp a c h=>
    have hn:xs=[]:=by
     cases xs with
     | nil=>rfl
     | cons _ _=>simp[ml] at hr
    subst hn
    exact(Tryz.strings_Join_none (some a) c ⟨sep.toArray⟩ X.w0).mono fun e w' ⟨he,hw⟩=>⟨he,hw▸Go.RowKit.Below.refl _ _⟩
  | dt _ us bk off cap sz eW hb jS hmax hB hlu hxx hu hc je=>
    subst hr
    have hn:(ml xs).length=xs.length:=J1 xs
    have pV:∀(j:Nat) x,(xs.map fun x=>(⟨x.toArray⟩:ByteArray))[j]?=some x→X.w0.cell? ⟨bk,off+j,none⟩=some (.string x):=by
     intro j x hjx
     obtain⟨s,hs1,rfl⟩:∃s,xs[j]?=some s∧(⟨s.toArray⟩:ByteArray)=x:=by simpa using hjx
     have lL:j<xs.length:=by
      rcases Nat.lt_or_ge j xs.length with h|h
      ·exact h
      ·rw[List.getElem?_eq_none h] at hs1;cases hs1
     have qK:(ml xs)[j]?=some [.str s]:=by simp[ml,hs1]
     have hsz1:sz=1:=by rw[←hxx j _ qK];rfl
     subst hsz1
     have hju:j<us.length:=by omega
     have hul:=hu j us[j] (ah hju)
     obtain⟨v,hv⟩:=List.length_eq_one_iff.1 hul
     have hrd:=je j 0 _ us[j] (.str s) v qK (ah hju) rfl (by rw[hv];rfl)
     obtain⟨rfl,_⟩:=hrd.EX
     have hf:=AV us j 0 us[j] (.string ⟨s.toArray⟩) hu (ah hju) (by rw[hv];rfl)
     have:=hc (j*1+0) _ hf
     rwa [Nat.mul_one,Nat.add_zero] at this
    have:=Tryz.strings_Join bk off cap (xs.map fun x=>(⟨x.toArray⟩:ByteArray)) ⟨sep.toArray⟩ X.w0 pV hb (by simp;omega) (by simp;omega) (by rw[hj];simp;omega)
    rw[hj] at this
    simp only[List.length_map] at this
    rw[hn]
    exact this
 refine key.mono ?_
 rintro e w' ⟨rfl,hbe⟩
 have ll:∀k,G.at ⟨[sv (Lib.join xs sep)],[]⟩ k=none:=fun k=>rfl
 have hst0:∀k,X.YG k=none:=fun k=>by rw[jw];rfl
 refine⟨_,_,_,X.ν0,rfl,⟨rfl,rfl⟩,?_⟩
 exact {
  size:=rfl
  sl:=by
   intro t
   match t with
   | 0=>exact ia.str _ (by unfold LB;omega)
   | t+1=>exact trivial
  en:=fun k e h=>by rw[ll] at h;cases h
  inj:=fun k _ e _ _ h=>by rw[ll] at h;cases h
  base:=fun b ⟨k,e,h,_⟩=>by rw[ll] at h;cases h
  nu:=fun k h=>by rw[ll] at h;cases h
  par:=fun k h=>by rw[hst0] at h;cases h
  E9:=hs.E9
  An:=⟨hbe.os,hbe.tape,hbe.output,hbe.size,fun k hk _=>hbe.block k hk⟩
  defs:=rfl }
end Go.Proofs.YtabembjmeobhoaaGreat
