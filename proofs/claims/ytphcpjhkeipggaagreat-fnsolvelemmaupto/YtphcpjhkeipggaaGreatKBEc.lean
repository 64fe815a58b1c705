/-
  Clause form, what it means, in plain Lean. No program is walked here.
-/
import Derived.Test.YtphcpjhkeipggaaGreatKBEa
set_option linter.unusedVariables false
set_option linter.unusedSimpArgs false
namespace Go.Mod
open Go.Eng
def ag3(v:Int→Bool)(l:Int):Bool:=if 0<l then v l else !v (-l)
def aez(v:Int→Bool)(c:List Int):Bool:=c.any (ag3 v)
def ah2(v:Int→Bool)(c:wo):Bool:=c.aS.all (aez v)
def op2(k:Int)(x y:Bool):Bool:=if k=3 then x&&y else if k=4 then x||y else if k=5 then !x||y else x == y
def m60(l:Int):Prop:=l≠0 ∧ -60≤l∧l≤60
def okN(v:Int→Bool)(w:cR→Bool):Int→List bU→Bool
 | _,[]=>true
 | m,f::fs=>(v (m+1) == holds w f)&&okN v w (m+1) fs
def Good(m:Int)(x:List Int):Prop:=Inc x∧∀l∈x,l≠0 ∧ -m≤l∧l≤m
def aeo(l:Int)(aF:List Bool):Bool:=decide (l≠0)&&(cK l (-aF.length) aF.length&&(aF.getD (l.natAbs-1) false == decide (0<l)))
def abg(c:List Int)(aF:List Bool):Bool:=c.any fun l=>aeo l aF
def aib(c:wo)(aF:List Bool):Bool:=O4 c&&(decide ((aF.length:Int)=c.dL)&&c.aS.all fun x=>abg x aF)
def ahB(aS:List bU)(aF:List Bool):List Bool:=match fc aS with
 | none=>[]
 | some atoms=>if aF.length=atoms.length then aF++(aS.flatMap aax).map (holds fun a=>aF.getD (jG atoms a).toNat false) else []
def aix(aF:List Bool)(i:Int):Bool:=aF.getD (i.toNat-1) false
end Go.Mod
