/-
  What DrawFormIs draws; and what is no form has no clauses. Plain laws; no program is walked here.
-/
import Derived.Test.YtkkbmikoifnnbaaGreatDoorKBEb
import Derived.Test.YtkkbmikoifnnbaaGreatDoorKBEa
import Derived.Test.YtkkbmikoifnnbaaGreatDoorKBEg
set_option linter.unusedVariables false
set_option linter.unusedSimpArgs false
namespace Go.Mod
open Go.Eng
set_option maxRecDepth 100000
def coinsB (b:List Int):Nat → Int → List Bool → List Bool × Int
 | 0,q,out=>(out,q)
 | j + 1,q,out=>coinsB b j (q + 1) (out ++ [decide (pickV b q 2 = 0)])
theorem coinsB_b (b:List Int):∀ (j:Nat) (q:Int) (out:List Bool),(coinsB b j q out).2 = q + j ∧ (coinsB b j q out).1.length = out.length + j
 | 0,q,out=>by simp [coinsB]
 | j + 1,q,out=>by
   obtain ⟨h1,h2⟩:=coinsB_b b j (q + 1) (out ++ [decide (pickV b q 2 = 0)])
   rw [coinsB]
   rw [List.length_append,List.length_cons,List.length_nil] at h2
   exact ⟨by omega,by omega⟩
def ownAtoms (f:Form):List Atom:=if isForm f then withAtoms [] f else []
def drawFormIs (c:List Int):Form × List Bool:=
 let r:=someF c 0
 let o:=coinsB c (ownAtoms r.2.1).length r.2.2 []
 (r.2.1,if pickV c o.2 20 = 0 then o.1 ++ [true] else o.1)
theorem ownAtoms_len (f:Form):(ownAtoms f).length ≤ 6:=by
 unfold ownAtoms
 cases h:isForm f
 ·simp
 ·exact (isForm_shape h).2.2
theorem ownAtoms_times {f:Form}:∀ a ∈ ownAtoms f,a.times.length ≤ 8000000:=by
 unfold ownAtoms
 cases h:isForm f
 ·simp
 ·intro a ha
  have hw:=withAtoms_wf f 5 [] (isForm_shape h).1 (by simp) a (by simpa using ha)
  rcases atomWf_kind hw with k | k
  ·rw [atomWf,if_pos k] at hw
   simp only [Bool.and_eq_true,decide_eq_true_eq] at hw
   omega
  ·obtain ⟨_,_,h3,h4,_,_⟩:=atomWf_sum hw k
   omega
theorem noForm_all {f:Form} (h:isForm f = false) (vals:List Bool):formIs f vals = none ∧ ownAtoms f = [] ∧ cnfOf [f] = cnf0 ∧ formText f = []:=by
 refine ⟨?_,?_,?_,?_⟩
 ·simp [formIs,h]
 ·simp [ownAtoms,h]
 ·have:formsAtoms [f] = none:=by simp [formsAtoms,h]
  simp [cnfOf,this]
 ·simp [formText,h]
end Go.Mod
