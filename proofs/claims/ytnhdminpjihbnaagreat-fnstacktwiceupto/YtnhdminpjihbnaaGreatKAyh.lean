/-
  The program: what a stack that is none answers. A step towards the laws.
-/
import Derived.Test.YtnhdminpjihbnaaGreatKAs
import Derived.Test.YtnhdminpjihbnaaGreatKAc
set_option linter.unusedVariables false
set_option linter.unusedSimpArgs false
open Int renaming reduceEq→Z1,reduceLT→Z2,reduceLE→Z3,reduceToNat→Z4
namespace Go.Proofs.YtnhdminpjihbnaaGreat
open Go.Eng Go.Mod
set_option maxRecDepth 100000
set_option maxHeartbeats 800000
def WG:e7:=⟨⟨[]⟩,[]⟩
theorem td(s:e7)(f:Mod.aU)(hfl:s.aA.flatten.length≤8000000)(dL:fc s=false):CN 5 [av (ic s),av (eE f)] (.ko [av (ic WG),bv false]):=by refine gT 50 [.cell 4 28,.tmp 5] hm Tryz.func5 fun hl he cV=>?_;refine oL [] (o4 s hfl) ?_;refine kD dL ?_;exact⟨rfl,rfl⟩
end Go.Proofs.YtnhdminpjihbnaaGreat
