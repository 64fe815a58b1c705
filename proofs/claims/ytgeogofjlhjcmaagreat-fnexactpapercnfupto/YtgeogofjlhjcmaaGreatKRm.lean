/-
  The program: the walks of clause form. A step towards the exact laws. The program: the walks of papers' clauses, and of logs. A step towards the exact laws.
-/
import Derived.Test.YtgeogofjlhjcmaaGreatKRl
import Derived.Test.YtgeogofjlhjcmaaGreatKREa
import Derived.Shelf.Spec.SlicesGrow
import Derived.Test.YtgeogofjlhjcmaaGreatKRF
import Derived.Test.YtgeogofjlhjcmaaGreatKRD
set_option linter.unusedVariables false
set_option linter.unusedSimpArgs false
namespace Go.Proofs.YtgeogofjlhjcmaaGreat
open Go.Eng Go.Mod
open Int renaming reduceEq → Z1,reduceLT → Z2,reduceLE → Z3,reduceToNat → Z4
set_option maxRecDepth 100000
set_option maxHeartbeats 400000
theorem addC_noneI {c:Mod.Cnf} {l:List Int} (h:clauseOf l = none):addC c l = c:=by unfold addC; rw [h]
theorem addC_someI {c:Mod.Cnf} {l o:List Int} (h:clauseOf l = some o):addC c l = ⟨c.many,c.list ++ [o]⟩:=by unfold addC; rw [h]
theorem rowsForm_put (fs:List Mod.Form) (t:Mod.Form) (z:List D) (r:List D) (hr:r = cForm t):(rowsForm fs ++ [z]).set fs.length r = rowsForm (fs ++ [t]):=by
 rw [← rowsForm_app,List.set_append_right _ _ (by rw [rowsForm_len]; exact Nat.le_refl _),rowsForm_len,Nat.sub_self,hr,rowsForm_cons,rowsForm_nil]
 rfl
theorem rowsForm_fill (gs:List Mod.Form) (t:Mod.Form):(rowsForm gs ++ [[D.val (Value.int .i64 0),D.val (Value.int .i64 0),D.str [],D.lst [],D.str [],D.lst [],D.lst [],D.lst [],D.val (Value.int .i64 0),D.val (Value.bool false),D.val (Value.bool false),D.lst []]]).set gs.length (spl (row (rowsForm gs ++ [[D.val (Value.int .i64 0),D.val (Value.int .i64 0),D.str [],D.lst [],D.str [],D.lst [],D.lst [],D.lst [],D.val (Value.int .i64 0),D.val (Value.bool false),D.val (Value.bool false),D.lst []]]) gs.length) 0 [D.val (Value.int .i64 t.kind),D.val (Value.int .i64 t.lit.atom.kind),D.str t.lit.atom.A.name,D.lst (rowsT t.lit.atom.A.kids),D.str t.lit.atom.B.name,D.lst (rowsT t.lit.atom.B.kids),D.lst (rowsT t.lit.atom.nums),D.lst (rowsI t.lit.atom.times),D.val (Value.int .i64 t.lit.atom.bound),D.val (Value.bool t.lit.atom.strict),D.val (Value.bool t.lit.no),D.lst (rowsForm t.kids)]) = rowsForm (gs ++ [t]):=by
 have e:row (rowsForm gs ++ [[D.val (Value.int .i64 0),D.val (Value.int .i64 0),D.str [],D.lst [],D.str [],D.lst [],D.lst [],D.lst [],D.val (Value.int .i64 0),D.val (Value.bool false),D.val (Value.bool false),D.lst []]]) gs.length = [D.val (Value.int .i64 0),D.val (Value.int .i64 0),D.str [],D.lst [],D.str [],D.lst [],D.lst [],D.lst [],D.val (Value.int .i64 0),D.val (Value.bool false),D.val (Value.bool false),D.lst []]:=by
  unfold row
  rw [List.getD,List.getElem?_append_right (by rw [rowsForm_len]; exact Nat.le_refl _),rowsForm_len,Nat.sub_self]
  rfl
 rw [e]
 exact rowsForm_put gs t _ _ (by cases t; rfl)
end Go.Proofs.YtgeogofjlhjcmaaGreat
namespace Go.Proofs.YtgeogofjlhjcmaaGreat
open Go.Eng Go.Mod
open Int renaming reduceEq → Z1,reduceLT → Z2,reduceLE → Z3,reduceToNat → Z4
set_option maxRecDepth 100000
set_option maxHeartbeats 400000
theorem nodesFs_drop {list:List Mod.Form} {i:Nat} (h:i < list.length):nodesFs (list.drop i) = nodesF list[i] ++ nodesFs (list.drop (i + 1)):=by
 rw [List.drop_eq_getElem_cons h,nodesFs]
end Go.Proofs.YtgeogofjlhjcmaaGreat
