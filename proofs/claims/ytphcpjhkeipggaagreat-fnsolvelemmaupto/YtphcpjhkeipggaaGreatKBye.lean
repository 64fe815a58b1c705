/-
  The reference: the walk of DrawFormIs. A step towards the laws.
-/
import Derived.Test.YtphcpjhkeipggaaGreatKByc
import Derived.Test.YtphcpjhkeipggaaGreatKBEc
import Derived.Lib.ItoaLen
set_option linter.unusedVariables false
set_option linter.unusedSimpArgs false
open Int renaming reduceEq→Z1,reduceLT→Z2,reduceLE→Z3,reduceToNat→Z4
open Classical renaming em→aa
namespace Go.Proofs.YtphcpjhkeipggaaGreat
open Go.Eng Go.Mod
set_option maxRecDepth 100000
set_option maxHeartbeats 3200000
theorem I1(a:cR)(hb9:a.a8.length≤8000000):CN 69 [av (fC a)] (av (fC a)):=by
 have ht:=jN a.a8;refine gT 41 [.cell 2 59] hm Tryz.func69 fun hl he cf=>?_;refine sa [] (ji a.A) ?_;refine sa [] (ji a.B) ?_;refine jr hm a.ai.length (fun i=>⟨dN 41 .any [(1,.bA 0 0),(2,.bA 1 0),(3,.bA 3 0),(4,iv i)],[some (.box (dm (fC a))),some (.box [iv 0,sv [],.bW,sv [],.bW,.bW,.bW,iv 0,bv false]),some (.aX 3 (bm a.a8)),some (.box [iv a.kind,sv a.A.name,lv (aU a.A.ar),sv a.B.name,lv (aU a.B.ar),.aX 4,.aX 2,iv a.bj,bv a.bJ]),some (.aX 32 (aU (a.ai.take i)))]⟩) (cM [some 0,some 1,some 3,some 4,none]) ?_;rintro i hi;rcases aa (i<a.ai.length) with h1|h1
 ·refine rM h1 ?_;refine sa [] (ji a.ai[i]) ?_;exact⟨i+1,h1,sL,aZ [some 0,some 1,some 2,some 3,some 5] (by refine sB ?_;(first|done|(exact rV h1)|(simp[a7, *];done)|(simp[a7];done)|(simp;omega)|skip)) (by refine sB ?_;(first|done|(exact rV h1)|(simp[a7, *];done)|(simp[a7];done)|(simp;omega)|skip)) rfl rfl⟩
 refine rM h1 ?_;rw[List.take_of_length_le oM]
end Go.Proofs.YtphcpjhkeipggaaGreat
