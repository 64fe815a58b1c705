/-
  The stacks that are drawn, in plain Lean: how big they are. No program is walked here.
-/
import Derived.Test.YtpidddienjoleaaGreatKAEb
import Derived.Test.YtpidddienjoleaaGreatKAEa
set_option linter.unusedVariables false
set_option linter.unusedSimpArgs false
namespace Go.Mod
open Go.Eng
set_option maxRecDepth 100000
def AllWf (l:List Atom):Prop:=∀ a ∈ l,atomWf a = true
def stackNew (s:Sig):Stack:=if sigOk s then ⟨s,[[]]⟩ else ⟨⟨[]⟩,[]⟩
def stackPush (k:Stack):Stack × Bool:=
 if stackOk k then (if 4 ≤ k.levels.length then (k,false) else (⟨k.sig,k.levels ++ [[]]⟩,true)) else (⟨⟨[]⟩,[]⟩,false)
def onlyIf (x:Stack × Bool) (k:Stack):Stack:=if x.2 then x.1 else k
def stkStep (b:List Int) (told:List Atom) (k:Stack) (q:Int):Stack × Int:=
 if pickV b q 4 = 0 then (onlyIf (stackPush k) k,q + 1) else
 if pickV b q 4 = 1 then (if pickV b (q + 1) 2 = 0 then (onlyIf (stackPop k) k,q + 2) else (k,q + 2)) else
 let f:=anyF b told (numV b (q + 1) [1,2]).toNat (q + 2)
 (onlyIf (stackTell k f.1) k,f.2)
def stkSome (b:List Int) (p:Int):Stack × List Atom × Int:=
 let s:=(sigS b p).1
 let a:=toldS b s (p + 1)
 let r:=iterS (stkStep b a.1) (numV b a.2 [3,4,6,2,0]).toNat (stackNew s) (a.2 + 1)
 (r.1,a.1,r.2)
def stkBent (b:List Int) (k:Stack) (p:Int):Stack × Int:=
 if pickV b p 40 = 0 then (⟨k.sig,[]⟩,p + 1) else
 if pickV b p 40 = 1 then (⟨k.sig,k.levels ++ List.replicate (5 - k.levels.length) []⟩,p + 1) else
 if pickV b p 40 = 2 then (⟨(bentS b (bentS b k.sig (p + 1)).1 (bentS b k.sig (p + 1)).2).1,k.levels⟩,(bentS b (bentS b k.sig (p + 1)).1 (bentS b k.sig (p + 1)).2).2) else
 if pickV b p 40 = 3 then (⟨k.sig,match k.levels with | []=>[] | x :: l=>(x ++ [form0]) :: l⟩,p + 1) else (k,p + 1)
def drawTell (c:List Int):Stack × Form:=
 let r:=stkSome c 0
 let f:=anyF c r.2.1 (numV c r.2.2 [1,2]).toNat (r.2.2 + 1)
 let g:=if pickV c f.2 12 = 0 then ((someF c (f.2 + 1)).2.1,(someF c (f.2 + 1)).2.2) else (f.1,f.2 + 1)
 ((stkBent c r.1 g.2).1,g.1)
end Go.Mod
