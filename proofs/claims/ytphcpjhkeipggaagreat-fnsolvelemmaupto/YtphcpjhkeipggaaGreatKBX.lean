/-
  Arguments copied: the walks. A step towards the exact laws.
-/
import Derived.Test.YtphcpjhkeipggaaGreatKBF
set_option linter.unusedVariables false
set_option linter.unusedSimpArgs false
namespace Go.Proofs.YtphcpjhkeipggaaGreat
open Go.Eng Go.Mod
set_option maxRecDepth 100000
def part(xs:List (List D))(z:List D)(i:Nat):List (List D):=xs.take i++List.replicate (xs.length-i) z
end Go.Proofs.YtphcpjhkeipggaaGreat
