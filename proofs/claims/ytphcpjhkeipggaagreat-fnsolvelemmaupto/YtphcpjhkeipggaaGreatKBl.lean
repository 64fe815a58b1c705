/-
  The program: the walks of clauses and of unit propagation. A step towards the exact laws.
-/
import Derived.Test.YtphcpjhkeipggaaGreatKBi
import Derived.Test.YtphcpjhkeipggaaGreatKBEa
import Derived.Laws.IdiomCopy
import Derived.Deep.Draws
import Derived.Lib.SlicesCompact
import Derived.Shelf.Small.Bits
import Derived.Shelf.Slices.Cells
import Derived.Test.YtphcpjhkeipggaaGreatProg
set_option linter.unusedVariables false
set_option linter.unusedSimpArgs false
open Int renaming reduceEq→Z1,reduceLT→Z2,reduceLE→Z3,reduceToNat→Z4
namespace Go.Proofs.YtphcpjhkeipggaaGreat
open Go.Eng Go.Mod
set_option maxRecDepth 100000
set_option maxHeartbeats 3200000
theorem Hi(a:Addr)(c:Nat):C E.P 60 [.d (.val (.slice (some a) 0 c))] [] (jF (.aX 0) [some (.aX 3 (bm []))]):=by refine gT 8 [.tmp 2] hm Tryz.func60 fun hl he cf=>?_;refine D9 3 _ false rfl rfl (p:=.d (.val (.slice (some a) 0 c))) (by simp -implicitDefEqProofs only[go_sem,Z1,Z2,Z3,Z4]) (Gt _ _ _) ?_;refine GL ?_;refine bX [some 1] ?_ rfl rfl;exact sD
theorem EO(r:List D)(rs:List (List D))(hl1:rs.length≤1000)(h1:∀y∈r::rs,y.length=1):C E.P 60 [.d (.eC (r::rs))] [] (jF (.aX 0) [some (.aX 3 (r::rs))]):=by refine gT 8 [.tmp 2] hm Tryz.func60 fun hl he cf=>?_;refine D9 3 _ false rfl rfl (p:=.d (.eC (r::rs))) (by simp -implicitDefEqProofs only[go_sem,Z1,Z2,Z3,Z4]) G0 ?_;refine GL ?_;refine And.intro ⟨?_,oM,oM⟩ ?_;simpa using h1;refine bX [some 1] ?_ rfl rfl;exact sD
theorem IY(l:List Int)(lj:l≠[])(qF:l.length≤1000):C E.P 60 [lv (bm l)] [] (jF (.aX 0) [some (.aX 3 (bm l))]):=by
 cases l with
 | nil=>exact absurd rfl lj
 | cons x xs=>have h1:=jN (x::xs);rw[kQ] at h1⊢;exact EO _ (bm xs) (by rw[oe];simp at qF;omega) h1
end Go.Proofs.YtphcpjhkeipggaaGreat
