/-
  The contract of strings.Join, laid at this program. A step towards the exact laws.
-/
import Derived.Shelf.Strings.OnBuilder
import Derived.Test.YtgpjhjalfakpoaaGreatProg
import Derived.Test.YtgpjhjalfakpoaaGreatKBF
import Derived.Shelf.Small.Bits
import Derived.Shelf.Slices.Cells
set_option linter.unusedVariables false
set_option linter.unusedSimpArgs false
open List renaming getElem?_eq_getElem→ab
namespace Go.Proofs
open Go.Shelf
def Tryz.vd:Go.Shelf.Ren:=⟨fun|156=>179|165=>217|166=>218|169=>219|240=>249|241=>250|276=>259|277=>260|n=>n,fun|31=>137|9=>9|3=>3|4=>4|0=>0|20=>20|72=>278|76=>282|70=>276|37=>22|75=>281|127=>306|164=>315|5=>5|80=>284|n=>n,fun|n=>n⟩
theorem Tryz.FN:Go.Proofs.Lays.n156 Tryz.prog Tryz.vd:={
 mixed:=by kernel_rfl
 f156:=Tryz.func179.trans (congrArg some (by kernel_rfl))
 f165:=Tryz.func217.trans (congrArg some (by kernel_rfl))
 f166:=Tryz.func218.trans (congrArg some (by kernel_rfl))
 f169:=Tryz.func219.trans (congrArg some (by kernel_rfl))
 f240:=Tryz.func249.trans (congrArg some (by kernel_rfl))
 f241:=Tryz.func250.trans (congrArg some (by kernel_rfl))
 f276:=Tryz.func259.trans (congrArg some (by kernel_rfl))
 f277:=Tryz.func260.trans (congrArg some (by kernel_rfl))
 t0:=Tryz.underlying0
 a0:=Tryz.isAgg0
 z0:=Tryz.sizeOf0
 v0:=Tryz.zeroValue0
 t3:=Tryz.underlying3
 a3:=Tryz.isAgg3
 z3:=Tryz.sizeOf3
 v3:=Tryz.zeroValue3
 t4:=Tryz.underlying4
 a4:=Tryz.isAgg4
 z4:=Tryz.sizeOf4
 v4:=Tryz.zeroValue4
 t9:=Tryz.underlying9
 a9:=Tryz.isAgg9
 z9:=Tryz.sizeOf9
 v9:=Tryz.zeroValue9
 t20:=Tryz.underlying20
 a20:=Tryz.isAgg20
 z20:=Tryz.sizeOf20
 v20:=Tryz.zeroValue20
 t31:=Tryz.underlying137
 a31:=Tryz.isAgg137
 z31:=Tryz.sizeOf137
 v31:=Tryz.zeroValue137
 t37:=Tryz.underlying22
 a37:=Tryz.isAgg22
 z37:=Tryz.sizeOf22
 v37:=Tryz.zeroValue22
 t70:=Tryz.underlying276
 a70:=Tryz.isAgg276
 z70:=Tryz.sizeOf276
 v70:=Tryz.zeroValue276
 t72:=Tryz.underlying278
 a72:=Tryz.isAgg278
 z72:=Tryz.sizeOf278
 v72:=Tryz.zeroValue278
 t75:=Tryz.underlying281
 a75:=Tryz.isAgg281
 z75:=Tryz.sizeOf281
 v75:=Tryz.zeroValue281
 t76:=Tryz.underlying282
 a76:=Tryz.isAgg282
 z76:=Tryz.sizeOf282
 v76:=Tryz.zeroValue282
 t127:=Tryz.underlying306
 a127:=Tryz.isAgg306
 z127:=Tryz.sizeOf306
 v127:=Tryz.zeroValue306
 t164:=Tryz.underlying315
 a164:=Tryz.isAgg315
 z164:=Tryz.sizeOf315
 v164:=Tryz.zeroValue315 }
theorem Tryz.mH:Builder.Extra Tryz.prog Tryz.vd:={
 sizeBuilder:=by kernel_rfl
 liesBuilder:=by kernel_rfl
 t5:=Tryz.underlying5
 a5:=Tryz.isAgg5
 z5:=Tryz.sizeOf5
 v5:=Tryz.zeroValue5
 infoByte:=by kernel_rfl
 cellsByte:=by kernel_rfl
 sizeByte:=by kernel_rfl
 neB5:=by decide }
open Go.RowKit in
theorem Tryz.strings_Join_none(a:Option Addr)(c:Nat)(sep:ByteArray)(w:World) :
 Calls Tryz.prog 179 #[.slice a 0 c,.string sep] w fun e w'=>e= .returned (.string ⟨#[]⟩)∧w'=w:=Any.strings_Join_none Tryz.FN Tryz.mH a c sep w
open Go.RowKit in
theorem Tryz.strings_Join(bk o c:Nat)(xs:List ByteArray)(sep:ByteArray)(w:World)(kg:∀(j:Nat) x,xs[j]?=some x→w.cell? ⟨bk,o+j,none⟩=some (.string x))(hbk:bk<w.heap.size)(hN:xs.length≤140737488355328)(fV:xs.length≤c)(cZ:(Lib.join (xs.map (·.data.toList)) sep.data.toList).length≤140737488355328) :
 Calls Tryz.prog 179 #[.slice (some ⟨bk,o,none⟩) xs.length c,.string sep] w fun e w'=>e= .returned (.string ⟨(Lib.join (xs.map (·.data.toList)) sep.data.toList).toArray⟩)∧Below w.heap.size w w':=Any.strings_Join Tryz.FN Tryz.mH bk o c xs sep w kg hbk hN fV cZ
end Go.Proofs
namespace Go.Proofs.YtgpjhjalfakpoaaGreat
open Go.Eng Go.Mod
set_option maxRecDepth 100000
theorem pw:∀(xs:List lH),iA xs=Lib.join xs [44]
 | []=>rfl
 | [t]=>by simp[iA,Lib.join,List.intercalate]
 | t::u::ts=>by
   have:=pw (u::ts)
   simp only[Lib.join,List.intercalate] at this
   simp only[iA,Lib.join,List.intercalate,List.intersperse_cons_cons,List.flatten_cons,this]
   rfl
theorem x9(xs:List lH)(sep:lH)(hx:xs.length≤1000)(hl:(Lib.join xs sep).length≤100000):C E.P 179 [lv (hY xs),sv sep] [] (bw (sv (Lib.join xs sep)) []):=by
 refine⟨⟨_,Tryz.func179,rfl,rfl⟩,?_⟩
 intro X vs dh hO hs
 have hsz:=hs.size
 obtain⟨a,b,rfl⟩:∃a b,vs=[a,b]:=by
  match vs,hsz with
  | [a,b],_=>exact⟨a,b,rfl⟩
  | [],h=>simp at h
  | [_],h=>simp at h
  | _::_::_::_,h=>simp at h
 have h0:=hs.sl 0
 have h1:=hs.sl 1
 have h0:dC X.w0 (bm X X.ν0 (G.at ⟨[lv (hY xs),sv sep],[]⟩)) (.b7 (hY xs)) a:=h0
 have h1:dC X.w0 (bm X X.ν0 (G.at ⟨[lv (hY xs),sv sep],[]⟩)) (.str sep) b:=h1
 obtain⟨rfl,hsep⟩:=h1.wi
 have key:Calls Tryz.prog 179 #[a,.string ⟨sep.toArray⟩] X.w0 (fun e w'=>e= .returned (.string ⟨(Lib.join xs sep).toArray⟩)∧Go.RowKit.Below X.w0.heap.size X.w0 w'):=by
  have hj:((xs.map fun x=>(⟨x.toArray⟩:ByteArray)).map (·.data.toList))=xs:=by simp[Function.comp_def]
  generalize hr:hY xs=rs at h0
  cases h0 with
  | nil=>
    have hn:xs=[]:=by
     cases xs with
     | nil=>rfl
     | cons _ _=>simp[hY] at hr
    subst hn
    exact(Tryz.strings_Join_none none 0 ⟨sep.toArray⟩ X.w0).mono fun e w' ⟨he,hw⟩=>⟨he,hw▸Go.RowKit.Below.refl _ _⟩
  | emp a c h=>
    have hn:xs=[]:=by
     cases xs with
     | nil=>rfl
     | cons _ _=>simp[hY] at hr
    subst hn
    exact(Tryz.strings_Join_none (some a) c ⟨sep.toArray⟩ X.w0).mono fun e w' ⟨he,hw⟩=>⟨he,hw▸Go.RowKit.Below.refl _ _⟩
  | b7 _ us bk off cap sz kC hb fV hmax hB hlu hxx hu hc fC=>
    subst hr
    have hn:(hY xs).length=xs.length:=zK xs
    have kg:∀(j:Nat) x,(xs.map fun x=>(⟨x.toArray⟩:ByteArray))[j]?=some x→X.w0.cell? ⟨bk,off+j,none⟩=some (.string x):=by
     intro j x hjx
     obtain⟨s,hs1,rfl⟩:∃s,xs[j]?=some s∧(⟨s.toArray⟩:ByteArray)=x:=by simpa using hjx
     have kf:j<xs.length:=by
      rcases Nat.lt_or_ge j xs.length with h|h
      ·exact h
      ·rw[List.getElem?_eq_none h] at hs1;cases hs1
     have kM:(hY xs)[j]?=some [.str s]:=by simp[hY,hs1]
     have hsz1:sz=1:=by rw[←hxx j _ kM];rfl
     subst hsz1
     have hju:j<us.length:=by omega
     have hul:=hu j us[j] (ab hju)
     obtain⟨v,hv⟩:=List.length_eq_one_iff.1 hul
     have hrd:=fC j 0 _ us[j] (.str s) v kM (ab hju) rfl (by rw[hv];rfl)
     obtain⟨rfl,_⟩:=hrd.wi
     have hf:=rF us j 0 us[j] (.string ⟨s.toArray⟩) hu (ab hju) (by rw[hv];rfl)
     have:=hc (j*1+0) _ hf
     rwa [Nat.mul_one,Nat.add_zero] at this
    have:=Tryz.strings_Join bk off cap (xs.map fun x=>(⟨x.toArray⟩:ByteArray)) ⟨sep.toArray⟩ X.w0 kg hb (by simp;omega) (by simp;omega) (by rw[hj];simp;omega)
    rw[hj] at this
    simp only[List.length_map] at this
    rw[hn]
    exact this
 refine key.mono ?_
 rintro e w' ⟨rfl,hbe⟩
 have fX:∀k,G.at ⟨[sv (Lib.join xs sep)],[]⟩ k=none:=fun k=>rfl
 have hst0:∀k,X.Ko k=none:=fun k=>by rw[dh];rfl
 refine⟨_,_,_,X.ν0,rfl,⟨rfl,rfl⟩,?_⟩
 exact {
  size:=rfl
  sl:=by
   intro t
   match t with
   | 0=>exact dC.str _ (by unfold LB;omega)
   | t+1=>exact trivial
  en:=fun k e h=>by rw[fX] at h;cases h
  inj:=fun k _ e _ _ h=>by rw[fX] at h;cases h
  base:=fun b ⟨k,e,h,_⟩=>by rw[fX] at h;cases h
  nu:=fun k h=>by rw[fX] at h;cases h
  par:=fun k h=>by rw[hst0] at h;cases h
  wx:=hs.wx
  qp:=⟨hbe.os,hbe.tape,hbe.output,hbe.size,fun k hk _=>hbe.block k hk⟩
  defs:=rfl }
end Go.Proofs.YtgpjhjalfakpoaaGreat
namespace Go.Proofs
open Go.Shelf
def Tryz.Cb:Go.Shelf.Ren:=⟨fun|125=>188|128=>228|129=>229|n=>n,fun|46=>248|3=>3|51=>293|53=>295|4=>4|5=>5|9=>9|n=>n,fun|n=>n⟩
theorem Tryz.Li:Go.Proofs.Lays.n125 Tryz.prog Tryz.Cb:={
 mixed:=by kernel_rfl
 f125:=Tryz.func188.trans (congrArg some (by kernel_rfl))
 f128:=Tryz.func228.trans (congrArg some (by kernel_rfl))
 f129:=Tryz.func229.trans (congrArg some (by kernel_rfl))
 t3:=Tryz.underlying3
 a3:=Tryz.isAgg3
 z3:=Tryz.sizeOf3
 v3:=Tryz.zeroValue3
 t4:=Tryz.underlying4
 a4:=Tryz.isAgg4
 z4:=Tryz.sizeOf4
 v4:=Tryz.zeroValue4
 t5:=Tryz.underlying5
 a5:=Tryz.isAgg5
 z5:=Tryz.sizeOf5
 v5:=Tryz.zeroValue5
 t9:=Tryz.underlying9
 a9:=Tryz.isAgg9
 z9:=Tryz.sizeOf9
 v9:=Tryz.zeroValue9
 t46:=Tryz.underlying248
 a46:=Tryz.isAgg248
 z46:=Tryz.sizeOf248
 v46:=Tryz.zeroValue248
 t51:=Tryz.underlying293
 a51:=Tryz.isAgg293
 z51:=Tryz.sizeOf293
 v51:=Tryz.zeroValue293
 t53:=Tryz.underlying295
 a53:=Tryz.isAgg295
 z53:=Tryz.sizeOf295
 v53:=Tryz.zeroValue295 }
theorem Tryz.bits_Len(x:Int)(w:World)(h0:0≤x)(h1:x≤18446744073709551615) :
 Calls Tryz.prog 188 #[.int .u64 x] w fun e w'=>e= .returned (.int .i64 (Lib.bitLen x.toNat))∧w'=w:=Any.bits_Len Tryz.Li x w h0 h1
def Tryz.y5:Go.Shelf.Ren:=⟨fun|20=>150|n=>n,fun|22=>29|3=>3|4=>4|0=>0|n=>n,fun|n=>n⟩
theorem Tryz.zA:Go.Proofs.Lays2.n20 Tryz.prog Tryz.y5:={
 mixed:=by kernel_rfl
 f20:=Tryz.func150.trans (congrArg some (by kernel_rfl))
 t0:=Tryz.underlying0
 a0:=Tryz.isAgg0
 z0:=Tryz.sizeOf0
 v0:=Tryz.zeroValue0
 t3:=Tryz.underlying3
 a3:=Tryz.isAgg3
 z3:=Tryz.sizeOf3
 v3:=Tryz.zeroValue3
 t4:=Tryz.underlying4
 a4:=Tryz.isAgg4
 z4:=Tryz.sizeOf4
 v4:=Tryz.zeroValue4
 t22:=Tryz.underlying29
 a22:=Tryz.isAgg29
 z22:=Tryz.sizeOf29
 v22:=Tryz.zeroValue29
 i3:=by kernel_rfl }
open Go.RowKit Go.Lib Go.Sort in
theorem Tryz.slices_Compact_int_cells(b off n c:Nat)(zs:List Int)(w:World)(hz:n≤zs.length)(hbig:n≤9223372036854775807)(fV:n≤c)(hc:∀j,j<zs.length→w.cell? ⟨b,off+j,none⟩=some (.int .i64 (zs.getD j 0)))(hf:∀j,j<n→w.frozen? ⟨b,off+j,none⟩=false) :
 Calls Tryz.prog 150 #[.slice (some ⟨b,off,none⟩) n c] w fun e w'=>e= .returned (.slice (some ⟨b,off,none⟩) (Lib.compact (zs.take n)).length c)∧∃q,w'=(w.drewN q).setCells b off ((Lib.compact (zs.take n)++List.replicate (n-(Lib.compact (zs.take n)).length) 0).map (Value.int .i64)):=Any.slices_Compact_int_cells Tryz.zA b off n c zs w hz hbig fV hc hf
open Go.RowKit Go.Lib Go.Sort in
theorem Tryz.slices_Compact_int_empty(a:Option Addr)(cap:Nat)(w:World) :
 Calls Tryz.prog 150 #[.slice a 0 cap] w fun e w'=>e= .returned (.slice a 0 cap)∧w'=w:=Any.slices_Compact_int_empty Tryz.zA a cap w
end Go.Proofs
