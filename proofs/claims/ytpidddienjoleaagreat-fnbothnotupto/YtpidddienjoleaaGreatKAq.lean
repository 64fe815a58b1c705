/-
  Slices that share nothing, as trees: numbers, terms, words, formulas. A step towards the exact laws. Arguments copied into what shares nothing: the walks. A step towards the exact laws.
-/
import Derived.Test.YtpidddienjoleaaGreatKAF
import Derived.Test.YtpidddienjoleaaGreatKAEa
import Derived.Test.YtpidddienjoleaaGreatKADa
import Derived.Test.YtpidddienjoleaaGreatKAX
set_option linter.unusedVariables false
set_option linter.unusedSimpArgs false
namespace Go.Proofs.YtpidddienjoleaaGreat
open Go.Eng Go.Mod
set_option maxRecDepth 100000
def intT (ns:List Int):List (List T):=ns.map fun n=>[.leaf (.val (.int .i64 n))]
theorem lift_rowsI (ns:List Int):lift (rowsI ns) = intT ns:=by simp [lift,rowsI,intT]
mutual
def tT:Term → List T
 | .mk name kids=>[.leaf (.str name),.own 35 (tTs kids)]
def tTs:List Term → List (List T)
 | []=>[]
 | t :: ts=>tT t :: tTs ts
end
def cTT (t:Term):List T:=[.leaf (.str t.name),.own 35 (tTs t.kids)]
theorem tT_eq (t:Term):tT t = cTT t:=by cases t; rfl
theorem tTs_map:∀ (ts:List Term),tTs ts = ts.map cTT
 | []=>rfl
 | t :: ts=>by simp [tTs,tT_eq,tTs_map ts]
def cSymT (s:Sym):List T:=[.leaf (.str s.name),.own 3 (intT s.args),.leaf (.val (.int .i64 s.sort))]
def symT (l:List Sym):List (List T):=l.map cSymT
mutual
def fT:Mod.Form → List T
 | .mk kind l kids=>[.leaf (.val (.int .i64 kind)),.leaf (.val (.int .i64 l.atom.kind)),.leaf (.str l.atom.A.name),.own 35 (tTs l.atom.A.kids),.leaf (.str l.atom.B.name),.own 35 (tTs l.atom.B.kids),.own 35 (tTs l.atom.nums),.own 3 (intT l.atom.times),.leaf (.val (.int .i64 l.atom.bound)),.leaf (.val (.bool l.atom.strict)),.leaf (.val (.bool l.no)),.own 112 (fTs kids)]
def fTs:List Mod.Form → List (List T)
 | []=>[]
 | t :: ts=>fT t :: fTs ts
end
def cFT (t:Mod.Form):List T:=[.leaf (.val (.int .i64 t.kind)),.leaf (.val (.int .i64 t.lit.atom.kind)),.leaf (.str t.lit.atom.A.name),.own 35 (tTs t.lit.atom.A.kids),.leaf (.str t.lit.atom.B.name),.own 35 (tTs t.lit.atom.B.kids),.own 35 (tTs t.lit.atom.nums),.own 3 (intT t.lit.atom.times),.leaf (.val (.int .i64 t.lit.atom.bound)),.leaf (.val (.bool t.lit.atom.strict)),.leaf (.val (.bool t.lit.no)),.own 112 (fTs t.kids)]
def cLT (fs:List Mod.Form):List T:=[.own 112 (fTs fs)]
def lT (l:List (List Mod.Form)):List (List T):=l.map cLT
theorem intT_frz (ns:List Int):frzRows (intT ns) = some (rowsI ns):=by rw [← lift_rowsI,frzRows_lift]
mutual
theorem tT_frz:∀ (t:Term),frzCells (tT t) = some (cT t)
 | .mk name kids=>by
   have:=tTs_frz kids
   simp [tT,frzCells,T.frz,this,cT,Term.name,Term.kids]
theorem tTs_frz:∀ (ts:List Term),frzRows (tTs ts) = some (rowsT ts)
 | []=>rfl
 | t :: ts=>by
   have h1:=tT_frz t
   have h2:=tTs_frz ts
   simp [tTs,frzRows,h1,h2,rowsT_cons]
end
theorem symT_frz:∀ (l:List Sym),frzRows (symT l) = some (rowsSym l)
 | []=>rfl
 | s :: l=>by
   have:=symT_frz l
   simp only [symT,List.map_cons] at this ⊢
   simp [frzRows,frzCells,T.frz,cSymT,intT_frz,this,rowsSym,cSym]
mutual
theorem tT_sd:∀ (t:Term),sdT (tT t) = true
 | .mk name kids=>by
   have:=tTs_sd kids
   simp [tT,sdT,T.sd,sdD,this]
theorem tTs_sd:∀ (ts:List Term),sdTs (tTs ts) = true
 | []=>rfl
 | t :: ts=>by
   have h1:=tT_sd t
   have h2:=tTs_sd ts
   simp [tTs,sdTs,h1,h2]
end
attribute [go_sem] intT_frz tTs_frz symT_frz tTs_sd lift_rowsI Option.isSome_some
mutual
theorem frz_renT {m:List Nat}:∀ (t:T),t.frz.isSome = true → t.ren m = t
 | .leaf d,_=>rfl
 | .ref j,h=>by simp [T.frz] at h
 | .own e xs,h=>by
   have:(frzRows xs).isSome = true:=by
    cases hx:frzRows xs with
    | none=>simp [T.frz,hx] at h
    | some y=>rfl
   simp only [T.ren,frz_renRs xs this]
theorem frz_renCs {m:List Nat}:∀ (ts:List T),(frzCells ts).isSome = true → renCells m ts = ts
 | [],_=>rfl
 | t :: ts,h=>by
   simp only [frzCells] at h
   cases h1:t.frz with
   | none=>simp [h1] at h
   | some d=>cases h2:frzCells ts with
     | none=>simp [h1,h2] at h
     | some ds=>simp only [renCells,frz_renT t (by rw [h1]; rfl),frz_renCs ts (by rw [h2]; rfl)]
theorem frz_renRs {m:List Nat}:∀ (xs:List (List T)),(frzRows xs).isSome = true → renRows m xs = xs
 | [],_=>rfl
 | x :: xs,h=>by
   simp only [frzRows] at h
   cases h1:frzCells x with
   | none=>simp [h1] at h
   | some d=>cases h2:frzRows xs with
     | none=>simp [h1,h2] at h
     | some ds=>simp only [renRows,frz_renCs x (by rw [h1]; rfl),frz_renRs xs (by rw [h2]; rfl)]
end
theorem tTs_ren (m:List Nat) (l:List Term):renRows m (tTs l) = tTs l:=frz_renRs _ (by rw [tTs_frz]; rfl)
attribute [go_sem] tTs_ren
theorem symT_map (l:List Sym):symT l = l.map cSymT:=rfl
def cIT (n:Int):List T:=[.leaf (.val (.int .i64 n))]
theorem intT_map' (l:List Int):intT l = l.map cIT:=rfl
theorem intT_len (l:List Int):(intT l).length = l.length:=by rw [intT_map']; simp
theorem intT_app (l:List Int) (t:Int):intT l ++ [cIT t] = intT (l ++ [t]):=by rw [intT_map',intT_map']; simp
theorem tTs_len (l:List Term):(tTs l).length = l.length:=by rw [tTs_map]; simp
theorem tTs_app (l:List Term) (t:Term):tTs l ++ [cTT t] = tTs (l ++ [t]):=by rw [tTs_map,tTs_map]; simp
theorem tTs_snoc {l:List Term} {i:Nat} (h:i < l.length):tTs (l.take i) ++ [cTT l[i]] = tTs (l.take (i + 1)):=by
 have e:l.take (i + 1) = l.take i ++ [l[i]]:=by rw [List.take_add_one,List.getElem?_eq_getElem h]; rfl
 rw [tTs_app,e]
theorem tTs_ok (l:List Term):(frzRows (tTs l)).isSome = true:=by rw [tTs_frz]; rfl
theorem symT_len (l:List Sym):(symT l).length = l.length:=by rw [symT_map]; simp
theorem symT_row {l:List Sym} {i:Nat} (h:i < l.length):rwT (symT l) i = cSymT l[i]:=by rw [symT_map]; simp [rwT,List.getD,List.getElem?_eq_getElem h]
theorem symT_set (l:List Sym) (i:Nat) (t:Sym):(symT l).set i (cSymT t) = symT (l.set i t):=by rw [symT_map,symT_map,List.map_set]
theorem symT_app (l:List Sym) (t:Sym):symT l ++ [cSymT t] = symT (l ++ [t]):=by rw [symT_map,symT_map]; simp
theorem symT_snoc {l:List Sym} {i:Nat} (h:i < l.length):symT (l.take i) ++ [cSymT l[i]] = symT (l.take (i + 1)):=by
 have e:l.take (i + 1) = l.take i ++ [l[i]]:=by rw [List.take_add_one,List.getElem?_eq_getElem h]; rfl
 rw [symT_app,e]
theorem symT_ok (l:List Sym):(frzRows (symT l)).isSome = true:=by rw [symT_frz]; rfl
attribute [go_sem] intT_len tTs_len symT_len
end Go.Proofs.YtpidddienjoleaaGreat
namespace Go.Proofs.YtpidddienjoleaaGreat
open Go.Eng Go.Mod
set_option maxRecDepth 100000
set_option maxHeartbeats 400000
def partT (xs:List (List T)) (z:List T) (i:Nat):List (List T):=xs.take i ++ List.replicate (xs.length - i) z
theorem frz_app:∀ {xs ys:List (List T)} {a b:List (List D)},frzRows xs = some a → frzRows ys = some b → frzRows (xs ++ ys) = some (a ++ b)
 | [],ys,a,b,h,h'=>by
   simp only [frzRows,Option.some.injEq] at h
   subst h
   exact h'
 | x :: xs,ys,a,b,h,h'=>by
   simp only [frzRows] at h
   split at h
   ·rename_i y ys' h1 h2
    obtain rfl:=Option.some.inj h
    have:=frz_app h2 h'
    simp [frzRows,h1,this]
   ·cases h
def atomV (t:Atom) (n:Nat):List PV:=[iv t.kind,sv t.A.name,.acc n,sv t.B.name,.acc (n + 1),.acc (n + 2),.acc (n + 3),iv t.bound,bv t.strict]
def atomE (t:Atom):List (Option En):=[some (.tre 35 (tTs t.A.kids)),some (.tre 35 (tTs t.B.kids)),some (.tre 35 (tTs t.nums)),some (.tre 3 (intT t.times))]
def formV (t:Mod.Form) (n:Nat):List PV:=[iv t.kind,iv t.lit.atom.kind,sv t.lit.atom.A.name,.acc n,sv t.lit.atom.B.name,.acc (n + 1),.acc (n + 2),.acc (n + 3),iv t.lit.atom.bound,bv t.lit.atom.strict,bv t.lit.no,.acc (n + 4)]
def formE (t:Mod.Form):List (Option En):=[some (.tre 35 (tTs t.lit.atom.A.kids)),some (.tre 35 (tTs t.lit.atom.B.kids)),some (.tre 35 (tTs t.lit.atom.nums)),some (.tre 3 (intT t.lit.atom.times)),some (.tre 112 (fTs t.kids))]
attribute [go_sem] atomV atomE formV formE
end Go.Proofs.YtpidddienjoleaaGreat
