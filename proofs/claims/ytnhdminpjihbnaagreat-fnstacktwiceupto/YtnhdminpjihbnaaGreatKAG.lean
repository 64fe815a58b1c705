/-
  The contract of strings.Join, laid at this program. A step towards the exact laws.
-/
import Derived.Shelf.Strings.OnBuilder
import Derived.Test.YtnhdminpjihbnaaGreatProg
import Derived.Test.YtnhdminpjihbnaaGreatKAF
import Derived.Shelf.Small.Bits
import Derived.Shelf.Slices.Cells
set_option linter.unusedVariables false
set_option linter.unusedSimpArgs false
open List renaming getElem?_eq_getElem→ae
namespace Go.Proofs
open Go.Shelf
def Tryz.II:Go.Shelf.Ren:=⟨fun|156=>225|165=>258|166=>259|169=>260|240=>269|241=>270|276=>272|277=>273|n=>n,fun|31=>118|9=>9|3=>3|4=>4|0=>0|20=>20|72=>313|76=>317|70=>311|37=>22|75=>316|127=>328|164=>332|5=>5|80=>319|n=>n,fun|n=>n⟩
theorem Tryz.YN:Go.Proofs.Lays.n156 Tryz.prog Tryz.II:={
 mixed:=by kernel_rfl
 f156:=Tryz.func225.trans (congrArg some (by kernel_rfl))
 f165:=Tryz.func258.trans (congrArg some (by kernel_rfl))
 f166:=Tryz.func259.trans (congrArg some (by kernel_rfl))
 f169:=Tryz.func260.trans (congrArg some (by kernel_rfl))
 f240:=Tryz.func269.trans (congrArg some (by kernel_rfl))
 f241:=Tryz.func270.trans (congrArg some (by kernel_rfl))
 f276:=Tryz.func272.trans (congrArg some (by kernel_rfl))
 f277:=Tryz.func273.trans (congrArg some (by kernel_rfl))
 t0:=Tryz.underlying0
 a0:=Tryz.isAgg0
 z0:=Tryz.sizeOf0
 v0:=Tryz.zeroValue0
 t3:=Tryz.underlying3
 a3:=Tryz.isAgg3
 z3:=Tryz.sizeOf3
 v3:=Tryz.zeroValue3
 t4:=Tryz.underlying4
 a4:=Tryz.isAgg4
 z4:=Tryz.sizeOf4
 v4:=Tryz.zeroValue4
 t9:=Tryz.underlying9
 a9:=Tryz.isAgg9
 z9:=Tryz.sizeOf9
 v9:=Tryz.zeroValue9
 t20:=Tryz.underlying20
 a20:=Tryz.isAgg20
 z20:=Tryz.sizeOf20
 v20:=Tryz.zeroValue20
 t31:=Tryz.underlying118
 a31:=Tryz.isAgg118
 z31:=Tryz.sizeOf118
 v31:=Tryz.zeroValue118
 t37:=Tryz.underlying22
 a37:=Tryz.isAgg22
 z37:=Tryz.sizeOf22
 v37:=Tryz.zeroValue22
 t70:=Tryz.underlying311
 a70:=Tryz.isAgg311
 z70:=Tryz.sizeOf311
 v70:=Tryz.zeroValue311
 t72:=Tryz.underlying313
 a72:=Tryz.isAgg313
 z72:=Tryz.sizeOf313
 v72:=Tryz.zeroValue313
 t75:=Tryz.underlying316
 a75:=Tryz.isAgg316
 z75:=Tryz.sizeOf316
 v75:=Tryz.zeroValue316
 t76:=Tryz.underlying317
 a76:=Tryz.isAgg317
 z76:=Tryz.sizeOf317
 v76:=Tryz.zeroValue317
 t127:=Tryz.underlying328
 a127:=Tryz.isAgg328
 z127:=Tryz.sizeOf328
 v127:=Tryz.zeroValue328
 t164:=Tryz.underlying332
 a164:=Tryz.isAgg332
 z164:=Tryz.sizeOf332
 v164:=Tryz.zeroValue332 }
theorem Tryz.xn:Builder.Extra Tryz.prog Tryz.II:={
 sizeBuilder:=by kernel_rfl
 liesBuilder:=by kernel_rfl
 t5:=Tryz.underlying5
 a5:=Tryz.isAgg5
 z5:=Tryz.sizeOf5
 v5:=Tryz.zeroValue5
 infoByte:=by kernel_rfl
 cellsByte:=by kernel_rfl
 sizeByte:=by kernel_rfl
 neB5:=by decide }
open Go.RowKit in
theorem Tryz.strings_Join_none(a:Option Addr)(c:Nat)(sep:ByteArray)(w:World) :
 Calls Tryz.prog 225 #[.slice a 0 c,.string sep] w fun e w'=>e= .returned (.string ⟨#[]⟩)∧w'=w:=Any.strings_Join_none Tryz.YN Tryz.xn a c sep w
open Go.RowKit in
theorem Tryz.strings_Join(bk o c:Nat)(xs:List ByteArray)(sep:ByteArray)(w:World)(sx:∀(j:Nat) x,xs[j]?=some x→w.cell? ⟨bk,o+j,none⟩=some (.string x))(hbk:bk<w.heap.size)(hN:xs.length≤140737488355328)(jX:xs.length≤c)(fj:(Lib.join (xs.map (·.data.toList)) sep.data.toList).length≤140737488355328) :
 Calls Tryz.prog 225 #[.slice (some ⟨bk,o,none⟩) xs.length c,.string sep] w fun e w'=>e= .returned (.string ⟨(Lib.join (xs.map (·.data.toList)) sep.data.toList).toArray⟩)∧Below w.heap.size w w':=Any.strings_Join Tryz.YN Tryz.xn bk o c xs sep w sx hbk hN jX fj
end Go.Proofs
namespace Go.Proofs.YtnhdminpjihbnaaGreat
open Go.Eng Go.Mod
set_option maxRecDepth 100000
theorem BQ:∀(xs:List p8),mi xs=Lib.join xs [44]
 | []=>rfl
 | [t]=>by simp[mi,Lib.join,List.intercalate]
 | t::u::ts=>by have:=BQ (u::ts);simp only[Lib.join,List.intercalate] at this;simp only[mi,Lib.join,List.intercalate,List.intersperse_cons_cons,List.flatten_cons,this];rfl
theorem Ml(xs:List p8)(sep:p8)(hx:xs.length≤1000)(hl:(Lib.join xs sep).length≤100000):C E.P 225 [lv (oE xs),sv sep] [] (gR (sv (Lib.join xs sep)) []):=by
 refine⟨⟨_,Tryz.func225,rfl,rfl⟩,?_⟩;intro X vs gY hO hs;have hsz:=hs.size;obtain⟨a,b,rfl⟩:∃a b,vs=[a,b]:=by
  match vs,hsz with
  | [a,b],_=>exact⟨a,b,rfl⟩
  | [],h=>simp at h
  | [_],h=>simp at h
  | _::_::_::_,h=>simp at h
 have h0:=hs.sl 0;have h1:=hs.sl 1;have h0:jn X.w0 (dg X X.ν0 (G.at ⟨[lv (oE xs),sv sep],[]⟩)) (.eP (oE xs)) a:=h0;have h1:jn X.w0 (dg X X.ν0 (G.at ⟨[lv (oE xs),sv sep],[]⟩)) (.str sep) b:=h1;obtain⟨rfl,hsep⟩:=h1.J4;have key:Calls Tryz.prog 225 #[a,.string ⟨sep.toArray⟩] X.w0 (fun e w'=>e= .returned (.string ⟨(Lib.join xs sep).toArray⟩)∧Go.RowKit.Below X.w0.heap.size X.w0 w'):=by
  have hj:((xs.map fun x=>(⟨x.toArray⟩:ByteArray)).map (·.data.toList))=xs:=(by simp[Function.comp_def]);generalize hr:oE xs=rs at h0;cases h0 with
  | nil=>
   have hn:xs=[]:=by
    cases xs with
    | nil=>rfl
    | cons _ _=>simp[oE] at hr
   subst hn;exact(Tryz.strings_Join_none none 0 ⟨sep.toArray⟩ X.w0).mono fun e w' ⟨he,hw⟩=>⟨he,hw▸Go.RowKit.Below.refl _ _⟩
  | emp a c h=>
   have hn:xs=[]:=by
    cases xs with
    | nil=>rfl
    | cons _ _=>simp[oE] at hr
   subst hn;exact(Tryz.strings_Join_none (some a) c ⟨sep.toArray⟩ X.w0).mono fun e w' ⟨he,hw⟩=>⟨he,hw▸Go.RowKit.Below.refl _ _⟩
  | eP _ us bk off cap sz dL hb jX hmax hB hlu hxx hu hc k9=>
   subst hr;have hn:(oE xs).length=xs.length:=PQ xs;have sx:∀(j:Nat) x,(xs.map fun x=>(⟨x.toArray⟩:ByteArray))[j]?=some x→X.w0.cell? ⟨bk,off+j,none⟩=some (.string x):=by
    intro j x hjx
    obtain⟨s,hs1,rfl⟩:∃s,xs[j]?=some s∧(⟨s.toArray⟩:ByteArray)=x:=by simpa using hjx
    have pz:j<xs.length:=by
     rcases Nat.lt_or_ge j xs.length with h|h
     ·exact h
     ·rw[List.getElem?_eq_none h] at hs1;cases hs1
    have qf:(oE xs)[j]?=some [.str s]:=by simp[oE,hs1]
    have hsz1:sz=1:=by rw[←hxx j _ qf];rfl
    subst hsz1
    have hju:j<us.length:=oM
    have hul:=hu j us[j] (ae hju)
    obtain⟨v,hv⟩:=List.length_eq_one_iff.1 hul
    have hrd:=k9 j 0 _ us[j] (.str s) v qf (ae hju) rfl (by rw[hv];rfl)
    obtain⟨rfl,_⟩:=hrd.J4
    have hf:=EG us j 0 us[j] (.string ⟨s.toArray⟩) hu (ae hju) (by rw[hv];rfl)
    have:=hc (j*1+0) _ hf
    rwa [Nat.mul_one,Nat.add_zero] at this
   have:=Tryz.strings_Join bk off cap (xs.map fun x=>(⟨x.toArray⟩:ByteArray)) ⟨sep.toArray⟩ X.w0 sx hb (by simp;omega) (by simp;omega) (by rw[hj];simp;omega);rw[hj] at this;simp only[List.length_map] at this;rw[hn];exact this
 refine key.mono ?_;rintro e w' ⟨rfl,hbe⟩;have mf:∀k,G.at ⟨[sv (Lib.join xs sep)],[]⟩ k=none:=fun k=>rfl;have hst0:∀k,X.st0 k=none:=fun k=>by rw[gY];rfl
 refine⟨_,_,_,X.ν0,rfl,⟨rfl,rfl⟩,?_⟩;exact {
  size:=rfl
  sl:=by
   intro t
   match t with
   | 0=>exact jn.str _ (by unfold LB;omega)
   | t+1=>exact trivial
  en:=fun k e h=>by rw[mf] at h;cases h
  inj:=fun k _ e _ _ h=>by rw[mf] at h;cases h
  base:=fun b ⟨k,e,h,_⟩=>by rw[mf] at h;cases h
  nu:=fun k h=>by rw[mf] at h;cases h
  par:=fun k h=>by rw[hst0] at h;cases h
  J1:=hs.J1
  C4:=⟨hbe.os,hbe.tape,hbe.output,hbe.size,fun k hk _=>hbe.block k hk⟩
  defs:=rfl }
end Go.Proofs.YtnhdminpjihbnaaGreat
namespace Go.Proofs
open Go.Shelf
def Tryz.Ul:Go.Shelf.Ren:=⟨fun|125=>190|128=>234|129=>235|n=>n,fun|46=>256|3=>3|51=>297|53=>299|4=>4|5=>5|9=>9|n=>n,fun|n=>n⟩
theorem Tryz.agf:Go.Proofs.Lays.n125 Tryz.prog Tryz.Ul:={
 mixed:=by kernel_rfl
 f125:=Tryz.func190.trans (congrArg some (by kernel_rfl))
 f128:=Tryz.func234.trans (congrArg some (by kernel_rfl))
 f129:=Tryz.func235.trans (congrArg some (by kernel_rfl))
 t3:=Tryz.underlying3
 a3:=Tryz.isAgg3
 z3:=Tryz.sizeOf3
 v3:=Tryz.zeroValue3
 t4:=Tryz.underlying4
 a4:=Tryz.isAgg4
 z4:=Tryz.sizeOf4
 v4:=Tryz.zeroValue4
 t5:=Tryz.underlying5
 a5:=Tryz.isAgg5
 z5:=Tryz.sizeOf5
 v5:=Tryz.zeroValue5
 t9:=Tryz.underlying9
 a9:=Tryz.isAgg9
 z9:=Tryz.sizeOf9
 v9:=Tryz.zeroValue9
 t46:=Tryz.underlying256
 a46:=Tryz.isAgg256
 z46:=Tryz.sizeOf256
 v46:=Tryz.zeroValue256
 t51:=Tryz.underlying297
 a51:=Tryz.isAgg297
 z51:=Tryz.sizeOf297
 v51:=Tryz.zeroValue297
 t53:=Tryz.underlying299
 a53:=Tryz.isAgg299
 z53:=Tryz.sizeOf299
 v53:=Tryz.zeroValue299 }
theorem Tryz.bits_Len(x:Int)(w:World)(h0:0≤x)(h1:x≤18446744073709551615) :
 Calls Tryz.prog 190 #[.int .u64 x] w fun e w'=>e= .returned (.int .i64 (Lib.bitLen x.toNat))∧w'=w:=Any.bits_Len Tryz.agf x w h0 h1
def Tryz.Oi:Go.Shelf.Ren:=⟨fun|20=>147|n=>n,fun|22=>32|3=>3|4=>4|0=>0|n=>n,fun|n=>n⟩
theorem Tryz.Pv:Go.Proofs.Lays2.n20 Tryz.prog Tryz.Oi:={
 mixed:=by kernel_rfl
 f20:=Tryz.func147.trans (congrArg some (by kernel_rfl))
 t0:=Tryz.underlying0
 a0:=Tryz.isAgg0
 z0:=Tryz.sizeOf0
 v0:=Tryz.zeroValue0
 t3:=Tryz.underlying3
 a3:=Tryz.isAgg3
 z3:=Tryz.sizeOf3
 v3:=Tryz.zeroValue3
 t4:=Tryz.underlying4
 a4:=Tryz.isAgg4
 z4:=Tryz.sizeOf4
 v4:=Tryz.zeroValue4
 t22:=Tryz.underlying32
 a22:=Tryz.isAgg32
 z22:=Tryz.sizeOf32
 v22:=Tryz.zeroValue32
 i3:=by kernel_rfl }
open Go.RowKit Go.Lib Go.Sort in
theorem Tryz.slices_Compact_int_cells(b off n c:Nat)(zs:List Int)(w:World)(hz:n≤zs.length)(hbig:n≤9223372036854775807)(jX:n≤c)(hc:∀j,j<zs.length→w.cell? ⟨b,off+j,none⟩=some (.int .i64 (zs.getD j 0)))(hf:∀j,j<n→w.frozen? ⟨b,off+j,none⟩=false) :
 Calls Tryz.prog 147 #[.slice (some ⟨b,off,none⟩) n c] w fun e w'=>e= .returned (.slice (some ⟨b,off,none⟩) (Lib.compact (zs.take n)).length c)∧∃q,w'=(w.drewN q).setCells b off ((Lib.compact (zs.take n)++List.replicate (n-(Lib.compact (zs.take n)).length) 0).map (Value.int .i64)):=Any.slices_Compact_int_cells Tryz.Pv b off n c zs w hz hbig jX hc hf
open Go.RowKit Go.Lib Go.Sort in
theorem Tryz.slices_Compact_int_empty(a:Option Addr)(cap:Nat)(w:World) :
 Calls Tryz.prog 147 #[.slice a 0 cap] w fun e w'=>e= .returned (.slice a 0 cap)∧w'=w:=Any.slices_Compact_int_empty Tryz.Pv a cap w
end Go.Proofs
