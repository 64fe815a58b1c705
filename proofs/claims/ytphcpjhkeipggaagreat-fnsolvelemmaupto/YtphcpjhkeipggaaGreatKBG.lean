/-
  The contract of strings.Join, laid at this program. A step towards the exact laws.
-/
import Derived.Shelf.Strings.OnBuilder
import Derived.Test.YtphcpjhkeipggaaGreatProg
import Derived.Test.YtphcpjhkeipggaaGreatKBF
set_option linter.unusedVariables false
set_option linter.unusedSimpArgs false
open List renaming getElem?_eq_getElem→af
namespace Go.Proofs
open Go.Shelf
def Tryz.Hm:Go.Shelf.Ren:=⟨fun|156=>329|165=>365|166=>366|169=>367|240=>377|241=>378|276=>380|277=>381|n=>n,fun|31=>237|9=>9|3=>3|4=>4|0=>0|20=>20|72=>392|76=>396|70=>390|37=>22|75=>395|127=>406|164=>409|5=>5|80=>398|n=>n,fun|n=>n⟩
theorem Tryz.Wr:Go.Proofs.Lays.n156 Tryz.prog Tryz.Hm:={
 mixed:=by kernel_rfl
 f156:=Tryz.func329.trans (congrArg some (by kernel_rfl))
 f165:=Tryz.func365.trans (congrArg some (by kernel_rfl))
 f166:=Tryz.func366.trans (congrArg some (by kernel_rfl))
 f169:=Tryz.func367.trans (congrArg some (by kernel_rfl))
 f240:=Tryz.func377.trans (congrArg some (by kernel_rfl))
 f241:=Tryz.func378.trans (congrArg some (by kernel_rfl))
 f276:=Tryz.func380.trans (congrArg some (by kernel_rfl))
 f277:=Tryz.func381.trans (congrArg some (by kernel_rfl))
 t0:=Tryz.underlying0
 a0:=Tryz.isAgg0
 z0:=Tryz.sizeOf0
 v0:=Tryz.zeroValue0
 t3:=Tryz.underlying3
 a3:=Tryz.isAgg3
 z3:=Tryz.sizeOf3
 v3:=Tryz.zeroValue3
 t4:=Tryz.underlying4
 a4:=Tryz.isAgg4
 z4:=Tryz.sizeOf4
 v4:=Tryz.zeroValue4
 t9:=Tryz.underlying9
 a9:=Tryz.isAgg9
 z9:=Tryz.sizeOf9
 v9:=Tryz.zeroValue9
 t20:=Tryz.underlying20
 a20:=Tryz.isAgg20
 z20:=Tryz.sizeOf20
 v20:=Tryz.zeroValue20
 t31:=Tryz.underlying237
 a31:=Tryz.isAgg237
 z31:=Tryz.sizeOf237
 v31:=Tryz.zeroValue237
 t37:=Tryz.underlying22
 a37:=Tryz.isAgg22
 z37:=Tryz.sizeOf22
 v37:=Tryz.zeroValue22
 t70:=Tryz.underlying390
 a70:=Tryz.isAgg390
 z70:=Tryz.sizeOf390
 v70:=Tryz.zeroValue390
 t72:=Tryz.underlying392
 a72:=Tryz.isAgg392
 z72:=Tryz.sizeOf392
 v72:=Tryz.zeroValue392
 t75:=Tryz.underlying395
 a75:=Tryz.isAgg395
 z75:=Tryz.sizeOf395
 v75:=Tryz.zeroValue395
 t76:=Tryz.underlying396
 a76:=Tryz.isAgg396
 z76:=Tryz.sizeOf396
 v76:=Tryz.zeroValue396
 t127:=Tryz.underlying406
 a127:=Tryz.isAgg406
 z127:=Tryz.sizeOf406
 v127:=Tryz.zeroValue406
 t164:=Tryz.underlying409
 a164:=Tryz.isAgg409
 z164:=Tryz.sizeOf409
 v164:=Tryz.zeroValue409 }
theorem Tryz.wF:Builder.Extra Tryz.prog Tryz.Hm:={
 sizeBuilder:=by kernel_rfl
 liesBuilder:=by kernel_rfl
 t5:=Tryz.underlying5
 a5:=Tryz.isAgg5
 z5:=Tryz.sizeOf5
 v5:=Tryz.zeroValue5
 infoByte:=by kernel_rfl
 cellsByte:=by kernel_rfl
 sizeByte:=by kernel_rfl
 neB5:=by decide }
open Go.RowKit in
theorem Tryz.strings_Join_none(a:Option Addr)(c:Nat)(sep:ByteArray)(w:World) :
 Calls Tryz.prog 329 #[.slice a 0 c,.string sep] w fun e w'=>e= .returned (.string ⟨#[]⟩)∧w'=w:=Any.strings_Join_none Tryz.Wr Tryz.wF a c sep w
open Go.RowKit in
theorem Tryz.strings_Join(bk o c:Nat)(xs:List ByteArray)(sep:ByteArray)(w:World)(sk:∀(j:Nat) x,xs[j]?=some x→w.cell? ⟨bk,o+j,none⟩=some (.string x))(hbk:bk<w.heap.size)(hN:xs.length≤140737488355328)(lF:xs.length≤c)(eO:(Lib.join (xs.map (·.data.toList)) sep.data.toList).length≤140737488355328) :
 Calls Tryz.prog 329 #[.slice (some ⟨bk,o,none⟩) xs.length c,.string sep] w fun e w'=>e= .returned (.string ⟨(Lib.join (xs.map (·.data.toList)) sep.data.toList).toArray⟩)∧Below w.heap.size w w':=Any.strings_Join Tryz.Wr Tryz.wF bk o c xs sep w sk hbk hN lF eO
end Go.Proofs
namespace Go.Proofs.YtphcpjhkeipggaaGreat
open Go.Eng Go.Mod
set_option maxRecDepth 100000
theorem Ae:∀(xs:List pL),lY xs=Lib.join xs [44]
 | []=>rfl
 | [t]=>by simp[lY,Lib.join,List.intercalate]
 | t::u::ts=>by have:=Ae (u::ts);simp only[Lib.join,List.intercalate] at this;simp only[lY,Lib.join,List.intercalate,List.intersperse_cons_cons,List.flatten_cons,this];rfl
theorem J7(xs:List pL)(sep:pL)(hx:xs.length≤1000)(hl:(Lib.join xs sep).length≤100000):C E.P 329 [lv (oz xs),sv sep] [] (jF (sv (Lib.join xs sep)) []):=by
 refine⟨⟨_,Tryz.func329,rfl,rfl⟩,?_⟩;intro X vs ld hO hs;have hsz:=hs.size;obtain⟨a,b,rfl⟩:∃a b,vs=[a,b]:=by
  match vs,hsz with
  | [a,b],_=>exact⟨a,b,rfl⟩
  | [],h=>simp at h
  | [_],h=>simp at h
  | _::_::_::_,h=>simp at h
 have h0:=hs.sl 0;have h1:=hs.sl 1;have h0:jD X.w0 (dk X X.ν0 (G.at ⟨[lv (oz xs),sv sep],[]⟩)) (.eC (oz xs)) a:=h0;have h1:jD X.w0 (dk X X.ν0 (G.at ⟨[lv (oz xs),sv sep],[]⟩)) (.str sep) b:=h1;obtain⟨rfl,hsep⟩:=h1.Jx;have key:Calls Tryz.prog 329 #[a,.string ⟨sep.toArray⟩] X.w0 (fun e w'=>e= .returned (.string ⟨(Lib.join xs sep).toArray⟩)∧Go.RowKit.Below X.w0.heap.size X.w0 w'):=by
  have hj:((xs.map fun x=>(⟨x.toArray⟩:ByteArray)).map (·.data.toList))=xs:=(by simp[Function.comp_def]);generalize hr:oz xs=rs at h0;cases h0 with
  | nil=>
   have hn:xs=[]:=by
    cases xs with
    | nil=>rfl
    | cons _ _=>simp[oz] at hr
   subst hn;exact(Tryz.strings_Join_none none 0 ⟨sep.toArray⟩ X.w0).mono fun e w' ⟨he,hw⟩=>⟨he,hw▸Go.RowKit.Below.refl _ _⟩
  | emp a c h=>
   have hn:xs=[]:=by
    cases xs with
    | nil=>rfl
    | cons _ _=>simp[oz] at hr
   subst hn;exact(Tryz.strings_Join_none (some a) c ⟨sep.toArray⟩ X.w0).mono fun e w' ⟨he,hw⟩=>⟨he,hw▸Go.RowKit.Below.refl _ _⟩
  | eC _ us bk off cap sz fy hb lF hmax hB hlu hxx hu hc kS=>
   subst hr;have hn:(oz xs).length=xs.length:=NZ xs;have sk:∀(j:Nat) x,(xs.map fun x=>(⟨x.toArray⟩:ByteArray))[j]?=some x→X.w0.cell? ⟨bk,off+j,none⟩=some (.string x):=by
    intro j x hjx
    obtain⟨s,hs1,rfl⟩:∃s,xs[j]?=some s∧(⟨s.toArray⟩:ByteArray)=x:=by simpa using hjx
    have nS:j<xs.length:=by
     rcases Nat.lt_or_ge j xs.length with h|h
     ·exact h
     ·rw[List.getElem?_eq_none h] at hs1;cases hs1
    have rA:(oz xs)[j]?=some [.str s]:=by simp[oz,hs1]
    have hsz1:sz=1:=by rw[←hxx j _ rA];rfl
    subst hsz1
    have hju:j<us.length:=oM
    have hul:=hu j us[j] (af hju)
    obtain⟨v,hv⟩:=List.length_eq_one_iff.1 hul
    have hrd:=kS j 0 _ us[j] (.str s) v rA (af hju) rfl (by rw[hv];rfl)
    obtain⟨rfl,_⟩:=hrd.Jx
    have hf:=FT us j 0 us[j] (.string ⟨s.toArray⟩) hu (af hju) (by rw[hv];rfl)
    have:=hc (j*1+0) _ hf
    rwa [Nat.mul_one,Nat.add_zero] at this
   have:=Tryz.strings_Join bk off cap (xs.map fun x=>(⟨x.toArray⟩:ByteArray)) ⟨sep.toArray⟩ X.w0 sk hb (by simp;omega) (by simp;omega) (by rw[hj];simp;omega);rw[hj] at this;simp only[List.length_map] at this;rw[hn];exact this
 refine key.mono ?_;rintro e w' ⟨rfl,hbe⟩;have np:∀k,G.at ⟨[sv (Lib.join xs sep)],[]⟩ k=none:=fun k=>rfl;have hst0:∀k,X.st0 k=none:=fun k=>by rw[ld];rfl
 refine⟨_,_,_,X.ν0,rfl,⟨rfl,rfl⟩,?_⟩;exact {
  size:=rfl
  sl:=by
   intro t
   match t with
   | 0=>exact jD.str _ (by unfold LB;omega)
   | t+1=>exact trivial
  en:=fun k e h=>by rw[np] at h;cases h
  inj:=fun k _ e _ _ h=>by rw[np] at h;cases h
  base:=fun b ⟨k,e,h,_⟩=>by rw[np] at h;cases h
  nu:=fun k h=>by rw[np] at h;cases h
  par:=fun k h=>by rw[hst0] at h;cases h
  Jy:=hs.Jy
  Da:=⟨hbe.os,hbe.tape,hbe.output,hbe.size,fun k hk _=>hbe.block k hk⟩
  defs:=rfl }
end Go.Proofs.YtphcpjhkeipggaaGreat
