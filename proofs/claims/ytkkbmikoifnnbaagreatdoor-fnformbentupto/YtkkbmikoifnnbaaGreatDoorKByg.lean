/-
  The contract of strconv.Itoa, laid at this program. A step towards the exact laws. strconv.Itoa in the words of the symbolic layer. A step towards the exact laws.
-/
import Derived.Shelf.Strconv.Itoa3
import Derived.Shelf.LaysM
import Derived.Test.YtkkbmikoifnnbaaGreatDoorProg
import Derived.Test.YtkkbmikoifnnbaaGreatDoorKBF
import Derived.Test.YtkkbmikoifnnbaaGreatDoorKBDa
import Derived.Test.YtkkbmikoifnnbaaGreatDoorKBE
import Derived.Lib.ItoaLen
set_option linter.unusedVariables false
set_option linter.unusedSimpArgs false
namespace Go.Proofs
open Go.Shelf
def Tryz.laysM171_ren:Go.Shelf.Ren:=⟨fun | 171=>125 | 243=>151 | 246=>176 | 283=>198 | 284=>199 | 285=>200 | 286=>201 | 129=>187 | 317=>218 | 318=>219 | 319=>220 | 320=>221 | 337=>229 | 338=>230 | n=>n,fun | 3=>3 | 9=>9 | 2=>2 | 4=>4 | 171=>208 | 0=>0 | 53=>198 | 37=>22 | 5=>5 | 173=>210 | 212=>229 | 51=>196 | 20=>20 | 213=>230 | 46=>176 | 232=>247 | 233=>248 | n=>n,fun | 17=>1 | 18=>4 | 19=>5 | n=>n⟩
theorem Tryz.laysM171:Go.Proofs.LaysM.n171 Tryz.prog Tryz.laysM171_ren:={
 mixed:=by kernel_rfl
 f129:=Tryz.func187.trans (congrArg some (by kernel_rfl))
 f171:=Tryz.func125.trans (congrArg some (by kernel_rfl))
 f243:=Tryz.func151.trans (congrArg some (by kernel_rfl))
 f246:=Tryz.func176.trans (congrArg some (by kernel_rfl))
 f283:=Tryz.func198.trans (congrArg some (by kernel_rfl))
 f284:=Tryz.func199.trans (congrArg some (by kernel_rfl))
 f285:=Tryz.func200.trans (congrArg some (by kernel_rfl))
 f286:=Tryz.func201.trans (congrArg some (by kernel_rfl))
 f317:=Tryz.func218.trans (congrArg some (by kernel_rfl))
 f318:=Tryz.func219.trans (congrArg some (by kernel_rfl))
 f319:=Tryz.func220.trans (congrArg some (by kernel_rfl))
 f320:=Tryz.func221.trans (congrArg some (by kernel_rfl))
 f337:=Tryz.func229.trans (congrArg some (by kernel_rfl))
 f338:=Tryz.func230.trans (congrArg some (by kernel_rfl))
 t0:=Tryz.underlying0
 a0:=Tryz.isAgg0
 z0:=Tryz.sizeOf0
 v0:=Tryz.zeroValue0
 t2:=Tryz.underlying2
 a2:=Tryz.isAgg2
 z2:=Tryz.sizeOf2
 v2:=Tryz.zeroValue2
 t3:=Tryz.underlying3
 a3:=Tryz.isAgg3
 z3:=Tryz.sizeOf3
 v3:=Tryz.zeroValue3
 t4:=Tryz.underlying4
 a4:=Tryz.isAgg4
 z4:=Tryz.sizeOf4
 v4:=Tryz.zeroValue4
 t5:=Tryz.underlying5
 a5:=Tryz.isAgg5
 z5:=Tryz.sizeOf5
 v5:=Tryz.zeroValue5
 t9:=Tryz.underlying9
 a9:=Tryz.isAgg9
 z9:=Tryz.sizeOf9
 v9:=Tryz.zeroValue9
 t20:=Tryz.underlying20
 a20:=Tryz.isAgg20
 z20:=Tryz.sizeOf20
 v20:=Tryz.zeroValue20
 t37:=Tryz.underlying22
 a37:=Tryz.isAgg22
 z37:=Tryz.sizeOf22
 v37:=Tryz.zeroValue22
 t46:=Tryz.underlying176
 a46:=Tryz.isAgg176
 z46:=Tryz.sizeOf176
 v46:=Tryz.zeroValue176
 t51:=Tryz.underlying196
 a51:=Tryz.isAgg196
 z51:=Tryz.sizeOf196
 v51:=Tryz.zeroValue196
 t53:=Tryz.underlying198
 a53:=Tryz.isAgg198
 z53:=Tryz.sizeOf198
 v53:=Tryz.zeroValue198
 t171:=Tryz.underlying208
 a171:=Tryz.isAgg208
 z171:=Tryz.sizeOf208
 v171:=Tryz.zeroValue208
 t173:=Tryz.underlying210
 a173:=Tryz.isAgg210
 z173:=Tryz.sizeOf210
 v173:=Tryz.zeroValue210
 t212:=Tryz.underlying229
 a212:=Tryz.isAgg229
 z212:=Tryz.sizeOf229
 v212:=Tryz.zeroValue229
 t213:=Tryz.underlying230
 a213:=Tryz.isAgg230
 z213:=Tryz.sizeOf230
 t232:=Tryz.underlying247
 a232:=Tryz.isAgg247
 z232:=Tryz.sizeOf247
 v232:=Tryz.zeroValue247
 t233:=Tryz.underlying248
 a233:=Tryz.isAgg248
 z233:=Tryz.sizeOf248
 v233:=Tryz.zeroValue248
 g17:=by kernel_rfl
 g18:=by kernel_rfl
 g19:=by kernel_rfl
 i0:=by kernel_rfl
 i2:=by kernel_rfl
 i3:=by kernel_rfl
 i4:=by kernel_rfl
 i5:=by kernel_rfl
 i9:=by kernel_rfl
 i20:=by kernel_rfl
 i37:=by kernel_rfl
 i46:=by kernel_rfl
 i51:=by kernel_rfl
 i53:=by kernel_rfl
 i171:=by kernel_rfl
 i173:=by kernel_rfl
 i212:=by kernel_rfl
 i232:=by kernel_rfl
 i233:=by kernel_rfl
 m17:=by kernel_rfl
 m18:=by kernel_rfl
 m19:=by kernel_rfl }
open Go.RowKit Go.Sort Go.Lib in
theorem Tryz.strconv_Itoa (n : Int) (h0 : -9223372036854775808 ≤ n) (h1 : n ≤ 9223372036854775807) (w : World) (htab : Lib.TabIs Tryz.prog w "internal/strconv.uint64pow10" .u64 Lib.pow10Tab) :
 Calls Tryz.prog 125 #[.int .i64 n] w fun e w'=>e = .returned (.string ⟨(Lib.itoa n).toArray⟩) ∧ ∃ k os,w' = grow (w.drewN k) os:=Any.strconv_Itoa Tryz.laysM171 n h0 h1 w htab
end Go.Proofs
namespace Go.Proofs.YtkkbmikoifnnbaaGreatDoor
open Go.Eng Go.Mod
set_option maxRecDepth 100000
theorem tab_known:∃ g,Tryz.prog.globalNamed tabName = some g:=Option.isSome_iff_exists.1 (by kernel_rfl)
theorem c_strconv_Itoa (n:Int) (h0:-9223372036854775808 ≤ n) (h1:n ≤ 9223372036854775807):C E.P 125 [iv n] [] (Eq2 (sv (Lib.itoa n)) []):=by
 refine ⟨⟨_,Tryz.func125,rfl,rfl⟩,?_⟩
 intro X vs hst hO hs
 have hsz:=hs.size
 obtain ⟨v,rfl⟩:=List.length_eq_one_iff.1 (show vs.length = 1 by simpa using hsz)
 have hv:RepD X.w0 (Free X X.ν0 (G.at ⟨[iv n],[]⟩)) (.val (.int .i64 n)) v:=hs.sl 0
 cases hv
 obtain ⟨g,hg⟩:=tab_known
 have htab : Lib.TabIs Tryz.prog X.w0 "internal/strconv.uint64pow10" .u64 Lib.pow10Tab := (hs.zlt.k g hg).2.2
 refine (Tryz.strconv_Itoa n h0 h1 X.w0 htab).mono ?_
 rintro e w' ⟨rfl,k,os,rfl⟩
 have hat:∀ k,G.at ⟨[sv (Lib.itoa n)],[]⟩ k = none:=fun k=>rfl
 have hst0:∀ k,X.st0 k = none:=fun k=>by rw [hst]; rfl
 have hl:=Lib.itoa_length_le n h0 h1
 refine ⟨_,_,_,X.ν0,rfl,⟨rfl,rfl⟩,?_⟩
 exact {
  size:=rfl
  sl:=by
   intro t
   match t with
   | 0=>exact RepD.str _ (by unfold LB; omega)
   | t + 1=>exact trivial
  en:=fun k e h=>by rw [hat] at h; cases h
  inj:=fun k _ e _ _ h=>by rw [hat] at h; cases h
  base:=fun b ⟨k,e,h,_⟩=>by rw [hat] at h; cases h
  nu:=fun k h=>by rw [hat] at h; cases h
  par:=fun k h=>by rw [hst0] at h; cases h
  zlt:=hs.zlt
  chg:=⟨rfl,rfl,rfl,by simp [Sort.grow,World.drewN],fun k hk _=>by
   show (X.w0.heap ++ os)[k]? = X.w0.heap[k]?
   rw [Array.getElem?_append_left hk]⟩
  defs:=rfl }
end Go.Proofs.YtkkbmikoifnnbaaGreatDoor
