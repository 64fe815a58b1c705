/-
  The program: the walks of numbers. A step towards the exact laws.
-/
import Derived.Test.YthpjgpbcfdfmoaaGreatKLH
import Derived.Test.YthpjgpbcfdfmoaaGreatKLE
import Derived.Test.YthpjgpbcfdfmoaaGreatKLD
set_option linter.unusedVariables false
set_option linter.unusedSimpArgs false
namespace Go.Proofs.YthpjgpbcfdfmoaaGreat
open Go.Eng Go.Mod
open Int renaming reduceEq → Z1, reduceLT → Z2, reduceLE → Z3, reduceToNat → Z4
set_option maxRecDepth 100000
set_option maxHeartbeats 400000
theorem maxI_abs {n : Int} : (if n < -n then -n else n) = (n.natAbs : Int) := by split <;> omega
end Go.Proofs.YthpjgpbcfdfmoaaGreat
