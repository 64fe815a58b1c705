/-
  The contract of strings.Join, laid at this program. A step towards the exact laws.
-/
import Derived.Shelf.Strings.OnBuilder
import Derived.Test.YtpidddienjoleaaGreatProg
import Derived.Test.YtpidddienjoleaaGreatKDF
import Derived.Test.YtpidddienjoleaaGreatKDE
set_option linter.unusedVariables false
set_option linter.unusedSimpArgs false
namespace Go.Proofs
open Go.Shelf
def Tryz.wy:Go.Shelf.Ren:=⟨fun|156=>173|165=>226|166=>227|169=>228|240=>255|241=>256|276=>269|277=>270|n=>n,fun|31=>235|9=>9|3=>3|4=>4|0=>0|20=>20|72=>290|76=>294|70=>288|37=>22|75=>293|127=>313|164=>320|5=>5|80=>296|n=>n,fun|n=>n⟩
theorem Tryz.I0:Go.Proofs.Lays.n156 Tryz.prog Tryz.wy:={
 mixed:=by kernel_rfl
 f156:=Tryz.func173.trans (congrArg some (by kernel_rfl))
 f165:=Tryz.func226.trans (congrArg some (by kernel_rfl))
 f166:=Tryz.func227.trans (congrArg some (by kernel_rfl))
 f169:=Tryz.func228.trans (congrArg some (by kernel_rfl))
 f240:=Tryz.func255.trans (congrArg some (by kernel_rfl))
 f241:=Tryz.func256.trans (congrArg some (by kernel_rfl))
 f276:=Tryz.func269.trans (congrArg some (by kernel_rfl))
 f277:=Tryz.func270.trans (congrArg some (by kernel_rfl))
 t0:=Tryz.underlying0
 a0:=Tryz.isAgg0
 z0:=Tryz.sizeOf0
 v0:=Tryz.zeroValue0
 t3:=Tryz.underlying3
 a3:=Tryz.isAgg3
 z3:=Tryz.sizeOf3
 v3:=Tryz.zeroValue3
 t4:=Tryz.underlying4
 a4:=Tryz.isAgg4
 z4:=Tryz.sizeOf4
 v4:=Tryz.zeroValue4
 t9:=Tryz.underlying9
 a9:=Tryz.isAgg9
 z9:=Tryz.sizeOf9
 v9:=Tryz.zeroValue9
 t20:=Tryz.underlying20
 a20:=Tryz.isAgg20
 z20:=Tryz.sizeOf20
 v20:=Tryz.zeroValue20
 t31:=Tryz.underlying235
 a31:=Tryz.isAgg235
 z31:=Tryz.sizeOf235
 v31:=Tryz.zeroValue235
 t37:=Tryz.underlying22
 a37:=Tryz.isAgg22
 z37:=Tryz.sizeOf22
 v37:=Tryz.zeroValue22
 t70:=Tryz.underlying288
 a70:=Tryz.isAgg288
 z70:=Tryz.sizeOf288
 v70:=Tryz.zeroValue288
 t72:=Tryz.underlying290
 a72:=Tryz.isAgg290
 z72:=Tryz.sizeOf290
 v72:=Tryz.zeroValue290
 t75:=Tryz.underlying293
 a75:=Tryz.isAgg293
 z75:=Tryz.sizeOf293
 v75:=Tryz.zeroValue293
 t76:=Tryz.underlying294
 a76:=Tryz.isAgg294
 z76:=Tryz.sizeOf294
 v76:=Tryz.zeroValue294
 t127:=Tryz.underlying313
 a127:=Tryz.isAgg313
 z127:=Tryz.sizeOf313
 v127:=Tryz.zeroValue313
 t164:=Tryz.underlying320
 a164:=Tryz.isAgg320
 z164:=Tryz.sizeOf320
 v164:=Tryz.zeroValue320 }
theorem Tryz.l9:Builder.Extra Tryz.prog Tryz.wy:={
 sizeBuilder:=by kernel_rfl
 liesBuilder:=by kernel_rfl
 t5:=Tryz.underlying5
 a5:=Tryz.isAgg5
 z5:=Tryz.sizeOf5
 v5:=Tryz.zeroValue5
 infoByte:=by kernel_rfl
 cellsByte:=by kernel_rfl
 sizeByte:=by kernel_rfl
 neB5:=by decide }
open Go.RowKit in
theorem Tryz.strings_Join_none(a:Option Addr)(c:Nat)(sep:ByteArray)(w:World) :
 Calls Tryz.prog 173 #[.slice a 0 c,.string sep] w fun e w'=>e= .returned (.string ⟨#[]⟩)∧w'=w:=Any.strings_Join_none Tryz.I0 Tryz.l9 a c sep w
open Go.RowKit in
theorem Tryz.strings_Join(bk o c:Nat)(xs:List ByteArray)(sep:ByteArray)(w:World)(hcells:∀(j:Nat) x,xs[j]?=some x→w.cell? ⟨bk,o+j,none⟩=some (.string x))(hbk:bk<w.heap.size)(hN:xs.length≤140737488355328)(hcap:xs.length≤c)(hlen:(Lib.join (xs.map (·.data.toList)) sep.data.toList).length≤140737488355328) :
 Calls Tryz.prog 173 #[.slice (some ⟨bk,o,none⟩) xs.length c,.string sep] w fun e w'=>e= .returned (.string ⟨(Lib.join (xs.map (·.data.toList)) sep.data.toList).toArray⟩)∧Below w.heap.size w w':=Any.strings_Join Tryz.I0 Tryz.l9 bk o c xs sep w hcells hbk hN hcap hlen
end Go.Proofs
namespace Go.Proofs.YtpidddienjoleaaGreat
open Go.Eng Go.Mod
set_option maxRecDepth 100000
theorem oL:∀(xs:List gR),dH xs=Lib.join xs [44]
 | []=>rfl
 | [t]=>by simp[dH,Lib.join,List.intercalate]
 | t::u::ts=>by
   have:=oL (u::ts)
   simp only[Lib.join,List.intercalate] at this
   simp only[dH,Lib.join,List.intercalate,List.intersperse_cons_cons,List.flatten_cons,this]
   rfl
theorem zi(xs:List gR)(sep:gR)(hx:xs.length≤1000)(hl:(Lib.join xs sep).length≤100000):C E.P 173 [lv (fF xs),sv sep] [] (aO (sv (Lib.join xs sep)) []):=by
 refine⟨⟨_,Tryz.func173,rfl,rfl⟩,?_⟩
 intro X vs hst hO hs
 have hsz:=hs.size
 obtain⟨a,b,rfl⟩:∃a b,vs=[a,b]:=by
  match vs,hsz with
  | [a,b],_=>exact⟨a,b,rfl⟩
  | [],h=>simp at h
  | [_],h=>simp at h
  | _::_::_::_,h=>simp at h
 have h0:=hs.sl 0
 have h1:=hs.sl 1
 have h0:cM X.w0 (aN X X.ν0 (G.at ⟨[lv (fF xs),sv sep],[]⟩)) (.bx (fF xs)) a:=h0
 have h1:cM X.w0 (aN X X.ν0 (G.at ⟨[lv (fF xs),sv sep],[]⟩)) (.str sep) b:=h1
 obtain⟨rfl,hsep⟩:=h1.xm
 have key:Calls Tryz.prog 173 #[a,.string ⟨sep.toArray⟩] X.w0 (fun e w'=>e= .returned (.string ⟨(Lib.join xs sep).toArray⟩)∧Go.RowKit.Below X.w0.heap.size X.w0 w'):=by
  have hj:((xs.map fun x=>(⟨x.toArray⟩:ByteArray)).map (·.data.toList))=xs:=by simp[Function.comp_def]
  generalize hr:fF xs=rs at h0
  cases h0 with
  | nil=>
    have hn:xs=[]:=by
     cases xs with
     | nil=>rfl
     | cons _ _=>simp[fF] at hr
    subst hn
    exact(Tryz.strings_Join_none none 0 ⟨sep.toArray⟩ X.w0).mono fun e w' ⟨he,hw⟩=>⟨he,hw▸Go.RowKit.Below.refl _ _⟩
  | emp a c h=>
    have hn:xs=[]:=by
     cases xs with
     | nil=>rfl
     | cons _ _=>simp[fF] at hr
    subst hn
    exact(Tryz.strings_Join_none (some a) c ⟨sep.toArray⟩ X.w0).mono fun e w' ⟨he,hw⟩=>⟨he,hw▸Go.RowKit.Below.refl _ _⟩
  | bx _ us bk off cap sz hok hb hcap hmax hB hlu hxx hu hc hrr=>
    subst hr
    have hn:(fF xs).length=xs.length:=Bx xs
    have hcells:∀(j:Nat) x,(xs.map fun x=>(⟨x.toArray⟩:ByteArray))[j]?=some x→X.w0.cell? ⟨bk,off+j,none⟩=some (.string x):=by
     intro j x hjx
     obtain⟨s,hs1,rfl⟩:∃s,xs[j]?=some s∧(⟨s.toArray⟩:ByteArray)=x:=by simpa using hjx
     have hlt:j<xs.length:=by
      rcases Nat.lt_or_ge j xs.length with h|h
      ·exact h
      ·rw[List.getElem?_eq_none h] at hs1;cases hs1
     have hrow:(fF xs)[j]?=some [.str s]:=by simp[fF,hs1]
     have hsz1:sz=1:=by rw[←hxx j _ hrow];rfl
     subst hsz1
     have hju:j<us.length:=by omega
     have hul:=hu j us[j] (List.getElem?_eq_getElem hju)
     obtain⟨v,hv⟩:=List.length_eq_one_iff.1 hul
     have hrd:=hrr j 0 _ us[j] (.str s) v hrow (List.getElem?_eq_getElem hju) rfl (by rw[hv];rfl)
     obtain⟨rfl,_⟩:=hrd.xm
     have hf:=tK us j 0 us[j] (.string ⟨s.toArray⟩) hu (List.getElem?_eq_getElem hju) (by rw[hv];rfl)
     have:=hc (j*1+0) _ hf
     rwa [Nat.mul_one,Nat.add_zero] at this
    have:=Tryz.strings_Join bk off cap (xs.map fun x=>(⟨x.toArray⟩:ByteArray)) ⟨sep.toArray⟩ X.w0 hcells hb (by simp;omega) (by simp;omega) (by rw[hj];simp;omega)
    rw[hj] at this
    simp only[List.length_map] at this
    rw[hn]
    exact this
 refine key.mono ?_
 rintro e w' ⟨rfl,hbe⟩
 have hat:∀k,G.at ⟨[sv (Lib.join xs sep)],[]⟩ k=none:=fun k=>rfl
 have hst0:∀k,X.Oa k=none:=fun k=>by rw[hst];rfl
 refine⟨_,_,_,X.ν0,rfl,⟨rfl,rfl⟩,?_⟩
 exact {
  size:=rfl
  sl:=by
   intro t
   match t with
   | 0=>exact cM.str _ (by unfold LB;omega)
   | t+1=>exact trivial
  en:=fun k e h=>by rw[hat] at h;cases h
  inj:=fun k _ e _ _ h=>by rw[hat] at h;cases h
  base:=fun b ⟨k,e,h,_⟩=>by rw[hat] at h;cases h
  nu:=fun k h=>by rw[hat] at h;cases h
  par:=fun k h=>by rw[hst0] at h;cases h
  xy:=hs.xy
  r3:=⟨hbe.os,hbe.tape,hbe.output,hbe.size,fun k hk _=>hbe.block k hk⟩
  defs:=rfl }
end Go.Proofs.YtpidddienjoleaaGreat
