/-
  Slices that share nothing, as trees: numbers, terms, words, formulas. A step towards the exact laws. Arguments copied into what shares nothing: the walks. A step towards the exact laws.
-/
import Derived.Test.YtgeogofjlhjcmaaGreatKRF
import Derived.Test.YtgeogofjlhjcmaaGreatKREa
import Derived.Test.YtgeogofjlhjcmaaGreatKRDa
import Derived.Test.YtgeogofjlhjcmaaGreatKRX
set_option linter.unusedVariables false
set_option linter.unusedSimpArgs false
namespace Go.Proofs.YtgeogofjlhjcmaaGreat
open Go.Eng Go.Mod
set_option maxRecDepth 100000
def intT (ns:List Int):List (List T):=ns.map fun n=>[.leaf (.val (.int .i64 n))]
theorem lift_rowsI (ns:List Int):lift (rowsI ns) = intT ns:=by simp [lift,rowsI,intT]
mutual
def tT:Term → List T
 | .mk name kids=>[.leaf (.str name),.own 56 (tTs kids)]
def tTs:List Term → List (List T)
 | []=>[]
 | t :: ts=>tT t :: tTs ts
end
def cTT (t:Term):List T:=[.leaf (.str t.name),.own 56 (tTs t.kids)]
theorem tT_eq (t:Term):tT t = cTT t:=by cases t; rfl
theorem tTs_map:∀ (ts:List Term),tTs ts = ts.map cTT
 | []=>rfl
 | t :: ts=>by simp [tTs,tT_eq,tTs_map ts]
def cSymT (s:Sym):List T:=[.leaf (.str s.name),.own 3 (intT s.args),.leaf (.val (.int .i64 s.sort))]
def symT (l:List Sym):List (List T):=l.map cSymT
mutual
def fT:Mod.Form → List T
 | .mk kind l kids=>[.leaf (.val (.int .i64 kind)),.leaf (.val (.int .i64 l.atom.kind)),.leaf (.str l.atom.A.name),.own 56 (tTs l.atom.A.kids),.leaf (.str l.atom.B.name),.own 56 (tTs l.atom.B.kids),.own 56 (tTs l.atom.nums),.own 3 (intT l.atom.times),.leaf (.val (.int .i64 l.atom.bound)),.leaf (.val (.bool l.atom.strict)),.leaf (.val (.bool l.no)),.own 63 (fTs kids)]
def fTs:List Mod.Form → List (List T)
 | []=>[]
 | t :: ts=>fT t :: fTs ts
end
def cFT (t:Mod.Form):List T:=[.leaf (.val (.int .i64 t.kind)),.leaf (.val (.int .i64 t.lit.atom.kind)),.leaf (.str t.lit.atom.A.name),.own 56 (tTs t.lit.atom.A.kids),.leaf (.str t.lit.atom.B.name),.own 56 (tTs t.lit.atom.B.kids),.own 56 (tTs t.lit.atom.nums),.own 3 (intT t.lit.atom.times),.leaf (.val (.int .i64 t.lit.atom.bound)),.leaf (.val (.bool t.lit.atom.strict)),.leaf (.val (.bool t.lit.no)),.own 63 (fTs t.kids)]
theorem fT_eq (t:Mod.Form):fT t = cFT t:=by cases t; rfl
theorem fTs_map:∀ (ts:List Mod.Form),fTs ts = ts.map cFT
 | []=>rfl
 | t :: ts=>by simp [fTs,fT_eq,fTs_map ts]
def cLT (fs:List Mod.Form):List T:=[.own 63 (fTs fs)]
def lT (l:List (List Mod.Form)):List (List T):=l.map cLT
theorem intT_frz (ns:List Int):frzRows (intT ns) = some (rowsI ns):=by rw [← lift_rowsI,frzRows_lift]
mutual
theorem tT_frz:∀ (t:Term),frzCells (tT t) = some (cT t)
 | .mk name kids=>by
   have:=tTs_frz kids
   simp [tT,frzCells,T.frz,this,cT,Term.name,Term.kids]
theorem tTs_frz:∀ (ts:List Term),frzRows (tTs ts) = some (rowsT ts)
 | []=>rfl
 | t :: ts=>by
   have h1:=tT_frz t
   have h2:=tTs_frz ts
   simp [tTs,frzRows,h1,h2,rowsT_cons]
end
mutual
theorem fT_frz:∀ (t:Mod.Form),frzCells (fT t) = some (cForm t)
 | .mk kind l kids=>by
   have:=fTs_frz kids
   simp [fT,frzCells,T.frz,this,tTs_frz,intT_frz,cForm,Form.kind,Form.lit,Form.kids]
theorem fTs_frz:∀ (ts:List Mod.Form),frzRows (fTs ts) = some (rowsForm ts)
 | []=>rfl
 | t :: ts=>by
   have h1:=fT_frz t
   have h2:=fTs_frz ts
   simp [fTs,frzRows,h1,h2,rowsForm_cons]
end
theorem intT_sd:∀ (ns:List Int),sdTs (intT ns) = true
 | []=>rfl
 | n :: ns=>by
   have:=intT_sd ns
   simp only [intT,List.map_cons] at this ⊢
   simp [sdTs,sdT,T.sd,sdD,this]
attribute [go_sem] intT_frz tTs_frz fTs_frz intT_sd lift_rowsI Option.isSome_some
mutual
theorem frz_renT {m:List Nat}:∀ (t:T),t.frz.isSome = true → t.ren m = t
 | .leaf d,_=>rfl
 | .ref j,h=>by simp [T.frz] at h
 | .own e xs,h=>by
   have:(frzRows xs).isSome = true:=by
    cases hx:frzRows xs with
    | none=>simp [T.frz,hx] at h
    | some y=>rfl
   simp only [T.ren,frz_renRs xs this]
theorem frz_renCs {m:List Nat}:∀ (ts:List T),(frzCells ts).isSome = true → renCells m ts = ts
 | [],_=>rfl
 | t :: ts,h=>by
   simp only [frzCells] at h
   cases h1:t.frz with
   | none=>simp [h1] at h
   | some d=>cases h2:frzCells ts with
     | none=>simp [h1,h2] at h
     | some ds=>simp only [renCells,frz_renT t (by rw [h1]; rfl),frz_renCs ts (by rw [h2]; rfl)]
theorem frz_renRs {m:List Nat}:∀ (xs:List (List T)),(frzRows xs).isSome = true → renRows m xs = xs
 | [],_=>rfl
 | x :: xs,h=>by
   simp only [frzRows] at h
   cases h1:frzCells x with
   | none=>simp [h1] at h
   | some d=>cases h2:frzRows xs with
     | none=>simp [h1,h2] at h
     | some ds=>simp only [renRows,frz_renCs x (by rw [h1]; rfl),frz_renRs xs (by rw [h2]; rfl)]
end
theorem intT_ren (m:List Nat) (l:List Int):renRows m (intT l) = intT l:=frz_renRs _ (by rw [intT_frz]; rfl)
theorem tTs_ren (m:List Nat) (l:List Term):renRows m (tTs l) = tTs l:=frz_renRs _ (by rw [tTs_frz]; rfl)
theorem fTs_ren (m:List Nat) (l:List Mod.Form):renRows m (fTs l) = fTs l:=frz_renRs _ (by rw [fTs_frz]; rfl)
mutual
theorem frz_ltT {n:Nat}:∀ (t:T),t.frz.isSome = true → t.lt n = true
 | .leaf d,_=>rfl
 | .ref j,h=>by simp [T.frz] at h
 | .own e xs,h=>by
   have:(frzRows xs).isSome = true:=by
    cases hx:frzRows xs with
    | none=>simp [T.frz,hx] at h
    | some y=>rfl
   simp only [T.lt,frz_ltRs xs this]
theorem frz_ltCs {n:Nat}:∀ (ts:List T),(frzCells ts).isSome = true → ltCells n ts = true
 | [],_=>rfl
 | t :: ts,h=>by
   simp only [frzCells] at h
   cases h1:t.frz with
   | none=>simp [h1] at h
   | some d=>cases h2:frzCells ts with
     | none=>simp [h1,h2] at h
     | some ds=>simp only [ltCells,frz_ltT t (by rw [h1]; rfl),frz_ltCs ts (by rw [h2]; rfl),Bool.and_self]
theorem frz_ltRs {n:Nat}:∀ (xs:List (List T)),(frzRows xs).isSome = true → ltRows n xs = true
 | [],_=>rfl
 | x :: xs,h=>by
   simp only [frzRows] at h
   cases h1:frzCells x with
   | none=>simp [h1] at h
   | some d=>cases h2:frzRows xs with
     | none=>simp [h1,h2] at h
     | some ds=>simp only [ltRows,frz_ltCs x (by rw [h1]; rfl),frz_ltRs xs (by rw [h2]; rfl),Bool.and_self]
end
theorem intT_lt (n:Nat) (l:List Int):ltRows n (intT l) = true:=frz_ltRs _ (by rw [intT_frz]; rfl)
theorem tTs_lt (n:Nat) (l:List Term):ltRows n (tTs l) = true:=frz_ltRs _ (by rw [tTs_frz]; rfl)
theorem fTs_lt (n:Nat) (l:List Mod.Form):ltRows n (fTs l) = true:=frz_ltRs _ (by rw [fTs_frz]; rfl)
attribute [go_sem] intT_ren tTs_ren fTs_ren intT_lt tTs_lt fTs_lt
def cIT (n:Int):List T:=[.leaf (.val (.int .i64 n))]
theorem intT_map' (l:List Int):intT l = l.map cIT:=rfl
theorem intT_len (l:List Int):(intT l).length = l.length:=by rw [intT_map']; simp
theorem intT_row {l:List Int} {i:Nat} (h:i < l.length):rwT (intT l) i = cIT l[i]:=by rw [intT_map']; simp [rwT,List.getD,List.getElem?_eq_getElem h]
theorem intT_set (l:List Int) (i:Nat) (t:Int):(intT l).set i (cIT t) = intT (l.set i t):=by rw [intT_map',intT_map',List.map_set]
theorem intT_ok (l:List Int):(frzRows (intT l)).isSome = true:=by rw [intT_frz]; rfl
theorem tTs_len (l:List Term):(tTs l).length = l.length:=by rw [tTs_map]; simp
theorem tTs_row {l:List Term} {i:Nat} (h:i < l.length):rwT (tTs l) i = cTT l[i]:=by rw [tTs_map]; simp [rwT,List.getD,List.getElem?_eq_getElem h]
theorem tTs_set (l:List Term) (i:Nat) (t:Term):(tTs l).set i (cTT t) = tTs (l.set i t):=by rw [tTs_map,tTs_map,List.map_set]
theorem tTs_ok (l:List Term):(frzRows (tTs l)).isSome = true:=by rw [tTs_frz]; rfl
theorem fTs_len (l:List Mod.Form):(fTs l).length = l.length:=by rw [fTs_map]; simp
theorem fTs_row {l:List Mod.Form} {i:Nat} (h:i < l.length):rwT (fTs l) i = cFT l[i]:=by rw [fTs_map]; simp [rwT,List.getD,List.getElem?_eq_getElem h]
theorem fTs_set (l:List Mod.Form) (i:Nat) (t:Mod.Form):(fTs l).set i (cFT t) = fTs (l.set i t):=by rw [fTs_map,fTs_map,List.map_set]
theorem fTs_ok (l:List Mod.Form):(frzRows (fTs l)).isSome = true:=by rw [fTs_frz]; rfl
attribute [go_sem] intT_len tTs_len fTs_len
end Go.Proofs.YtgeogofjlhjcmaaGreat
namespace Go.Proofs.YtgeogofjlhjcmaaGreat
open Go.Eng Go.Mod
open Int renaming reduceEq → Z1,reduceLT → Z2,reduceLE → Z3,reduceToNat → Z4
set_option maxRecDepth 100000
set_option maxHeartbeats 400000
def partT (xs:List (List T)) (z:List T) (i:Nat):List (List T):=xs.take i ++ List.replicate (xs.length - i) z
theorem partT_len (xs:List (List T)) (z:List T) (i:Nat) (h:i ≤ xs.length):(partT xs z i).length = xs.length:=by simp [partT]; omega
theorem partT_all (xs:List (List T)) (z:List T) (i:Nat) (h:xs.length ≤ i):partT xs z i = xs:=by
 have:xs.length - i = 0:=by omega
 simp [partT,this,List.take_of_length_le h]
theorem partT_row (xs:List (List T)) (z:List T) (i:Nat) (h:i < xs.length):rwT (partT xs z i) i = z:=by
 have e:(xs.take i).length = i:=by simp; omega
 simp only [rwT,partT,List.getD]
 rw [List.getElem?_append_right (by omega),e,Nat.sub_self,List.getElem?_replicate,if_pos (by omega)]
 rfl
theorem partT_set (xs:List (List T)) (z c:List T) (i:Nat) (h:i < xs.length) (hc:rwT xs i = c):(partT xs z i).set i c = partT xs z (i + 1):=by
 have e:(xs.take i).length = i:=by simp; omega
 have hx:xs[i]? = some c:=by rw [← hc]; exact rwT_at h
 simp only [partT]
 rw [List.set_append_right _ _ (by omega),e,Nat.sub_self]
 have h1:xs.length - i = (xs.length - (i + 1)) + 1:=by omega
 rw [h1,List.replicate_succ,List.set_cons_zero,List.take_add_one,hx]
 simp
theorem frz_app:∀ {xs ys:List (List T)} {a b:List (List D)},frzRows xs = some a → frzRows ys = some b → frzRows (xs ++ ys) = some (a ++ b)
 | [],ys,a,b,h,h'=>by
   simp only [frzRows,Option.some.injEq] at h
   subst h
   exact h'
 | x :: xs,ys,a,b,h,h'=>by
   simp only [frzRows] at h
   split at h
   ·rename_i y ys' h1 h2
    obtain rfl:=Option.some.inj h
    have:=frz_app h2 h'
    simp [frzRows,h1,this]
   ·cases h
theorem frz_rep {z:List T} {d:List D} (h:frzCells z = some d):∀ (n:Nat),frzRows (List.replicate n z) = some (List.replicate n d)
 | 0=>rfl
 | n + 1=>by simp [List.replicate_succ,frzRows,h,frz_rep h n]
theorem frz_take:∀ {xs:List (List T)} {a:List (List D)} (i:Nat),frzRows xs = some a → frzRows (xs.take i) = some (a.take i)
 | [],a,i,h=>by
   simp only [frzRows,Option.some.injEq] at h
   subst h
   simp [frzRows]
 | x :: xs,a,0,h=>by simp [frzRows]
 | x :: xs,a,i + 1,h=>by
   simp only [frzRows] at h
   split at h
   ·rename_i y ys' h1 h2
    obtain rfl:=Option.some.inj h
    simp [frzRows,h1,frz_take i h2]
   ·cases h
theorem partT_frz {xs:List (List T)} {a:List (List D)} {z:List T} {d:List D} (i:Nat) (h:frzRows xs = some a) (hz:frzCells z = some d):(frzRows (partT xs z i)).isSome = true:=by
 rw [partT,frz_app (frz_take i h) (frz_rep hz _)]
 rfl
theorem lift_rep (n:Nat) (z:List D):lift (List.replicate n z) = List.replicate n (z.map T.leaf):=by simp [lift]
theorem partT_zero (xs:List (List T)) (z:List T):partT xs z 0 = List.replicate xs.length z:=by simp [partT]
theorem c_laws_toIntS_T (ts:List Int):C E.P 99 [lv (rowsI ts)] [] (Eq2 (.acc 0) [some (.tre 3 (intT ts))]):=by
 have hLB:=LB_eq
 refine C_goS (nt:=22) (rs:=[.tmp 2]) hm Tryz.func99 rfl rfl rfl rfl rfl (fun hl he=>?_)
 simp -implicitDefEqProofs only [go_sem,Z1,Z2,Z3,Z4] at hl ⊢
 repeat (with_reducible apply And.intro; case left=>omega)
 refine loop_go1 hm (fun (i:Nat)=> i ≤ ts.length) (fun (i:Nat)=> ⟨mkS 22 .any [(0,lv (rowsI ts)),(3,.acc 0),(4,iv i)],[some (.acc 3 (part (rowsI ts) [.val (.int .i64 0)] i))]⟩) (fun (i:Nat)=> ts.length - i) (0) ?_ (weakS [some 0] ?_ ?_ rfl rfl) ?_
 rotate_left
 ·simp -implicitDefEqProofs only [go_sem,Z1,Z2,Z3,Z4]
 ·simp -implicitDefEqProofs only [go_sem,Z1,Z2,Z3,Z4]
  all_goals (simp [part_zero,rowsI_len])
 rotate_left
 ·omega
 ·rintro i hi
  have hp:(part (rowsI ts) [.val (.int .i64 0)] i).length = ts.length:=by rw [part_len _ _ _ (by rw [rowsI_len]; omega),rowsI_len]
  rcases Classical.em (i < ts.length) with h1 | h1
  ·have hset:=part_set (rowsI ts) [.val (.int .i64 0)] [.val (.int .i64 ts[i])] i (by rw [rowsI_len]; exact h1) (rowsI_row h1) rfl
   simp -implicitDefEqProofs only [go_sem,Z1,Z2,Z3,Z4,h1,hp]
   repeat (with_reducible apply And.intro; case left=>omega)
   refine ⟨i + 1,?_,?_,weakS [some 0] ?_ ?_ rfl rfl⟩
   rotate_left
   ·show _ < _
    omega
   ·simp -implicitDefEqProofs only [go_sem,Z1,Z2,Z3,Z4]
   ·simp -implicitDefEqProofs only [go_sem,Z1,Z2,Z3,Z4]
    all_goals (exact hset)
   exact h1
  ·simp -implicitDefEqProofs only [go_sem,Z1,Z2,Z3,Z4,h1]
   refine finM' [some 0] ?_ rfl rfl
   simp -implicitDefEqProofs only [go_sem,Z1,Z2,Z3,Z4]
   rw [part_all _ _ _ (by rw [rowsI_len]; omega),lift_rowsI]
theorem c_laws_toTermS_T (ts:List Term) (hel:∀ t ∈ ts,C E.P 125 [av (cT t)] [] (Eq2 (.agg [sv t.name,.acc 0]) [some (.tre 56 (tTs t.kids))])):C E.P 126 [lv (rowsT ts)] [] (Eq2 (.acc 0) [some (.tre 56 (tTs ts))]):=by
 have hLB:=LB_eq
 refine C_goS (nt:=23) (rs:=[.tmp 2]) hm Tryz.func126 rfl rfl rfl rfl rfl (fun hl he=>?_)
 simp -implicitDefEqProofs only [go_sem,Z1,Z2,Z3,Z4] at hl ⊢
 repeat (with_reducible apply And.intro; case left=>omega)
 refine loop_go1 hm (fun (i:Nat)=> i ≤ ts.length) (fun (i:Nat)=> ⟨mkS 23 .any [(0,lv (rowsT ts)),(3,.acc 0),(4,iv i)],[some (.tre 56 (partT (tTs ts) [.leaf (.str []),.leaf (.lst [])] i))]⟩) (fun (i:Nat)=> ts.length - i) (0) ?_ (weakS [some 0] ?_ ?_ rfl rfl) ?_
 rotate_left
 ·simp -implicitDefEqProofs only [go_sem,Z1,Z2,Z3,Z4]
 ·simp -implicitDefEqProofs only [go_sem,Z1,Z2,Z3,Z4]
  all_goals (simp [partT_zero,tTs_len,rowsT_len,lift_rep])
 rotate_left
 ·omega
 ·rintro i hi
  have hp:(partT (tTs ts) [.leaf (.str []),.leaf (.lst [])] i).length = ts.length:=by rw [partT_len _ _ _ (by rw [tTs_len]; omega),tTs_len]
  have hf:∀ i,(frzRows (partT (tTs ts) [.leaf (.str []),.leaf (.lst [])] i)).isSome = true:=fun i=>partT_frz (z:=[.leaf (.str []),.leaf (.lst [])]) i (tTs_frz ts) rfl
  rcases Classical.em (i < ts.length) with h1 | h1
  ·have hset:=partT_set (tTs ts) [.leaf (.str []),.leaf (.lst [])] (cTT ts[i]) i (by rw [tTs_len]; exact h1) (tTs_row h1)
   have hrow:=partT_row (tTs ts) [.leaf (.str []),.leaf (.lst [])] i (by rw [tTs_len]; exact h1)
   simp -implicitDefEqProofs only [go_sem,Z1,Z2,Z3,Z4,h1,hp]
   have hc:=hel ts[i] (List.getElem_mem h1)
   refine atOwn [] [1] hc ?_ ?_ <;> simp -implicitDefEqProofs only [go_sem,Z1,Z2,Z3,Z4,h1,hp,hrow]
   repeat (with_reducible apply And.intro; case left=>omega)
   refine ⟨i + 1,?_,?_,weak_put 0 i _ rfl (by rw [List.length_set,hp]; exact h1) (rwT_set (by rw [hp]; exact h1)) ?_⟩
   rotate_left
   ·show _ < _
    omega
   ·simp -implicitDefEqProofs only [go_sem,Z1,Z2,Z3,Z4]
    refine weakS [some 0] ?_ ?_ rfl rfl
    ·simp -implicitDefEqProofs only [go_sem,Z1,Z2,Z3,Z4]
    ·simp -implicitDefEqProofs only [go_sem,Z1,Z2,Z3,Z4]
     all_goals (exact ⟨hset,(congrArg (fun z=>(frzRows z).isSome) hset).trans (hf (i + 1))⟩)
   exact h1
  ·simp -implicitDefEqProofs only [go_sem,Z1,Z2,Z3,Z4,h1]
   refine finM' [some 0] ?_ rfl rfl
   simp -implicitDefEqProofs only [go_sem,Z1,Z2,Z3,Z4]
   rw [partT_all _ _ _ (by rw [tTs_len]; omega)]
   exact ⟨rfl,by rw [tTs_frz]; rfl⟩
theorem c_laws_toTerm_T1 (t:Term) (ih:∀ k ∈ t.kids,C E.P 125 [av (cT k)] [] (Eq2 (.agg [sv k.name,.acc 0]) [some (.tre 56 (tTs k.kids))])):C E.P 125 [av (cT t)] [] (Eq2 (.agg [sv t.name,.acc 0]) [some (.tre 56 (tTs t.kids))]):=by
 have hLB:=LB_eq
 refine C_goS (nt:=12) (rs:=[.cell 2 56]) hm Tryz.func125 rfl rfl rfl rfl rfl (fun hl he=>?_)
 simp -implicitDefEqProofs only [go_sem,Z1,Z2,Z3,Z4] at hl ⊢
 refine atOwn [] [3] (c_laws_toTermS_T t.kids ih) ?_ ?_ <;> simp -implicitDefEqProofs only [go_sem,Z1,Z2,Z3,Z4]
 refine finM' [some 3] ?_ rfl rfl
 simp -implicitDefEqProofs only [go_sem,Z1,Z2,Z3,Z4]
theorem c_laws_toTerm_T:∀ t,C E.P 125 [av (cT t)] [] (Eq2 (.agg [sv t.name,.acc 0]) [some (.tre 56 (tTs t.kids))]):=
 Term.ind fun n ks ih=>c_laws_toTerm_T1 _ ih
def atomV (t:Atom) (n:Nat):List PV:=[iv t.kind,sv t.A.name,.acc n,sv t.B.name,.acc (n + 1),.acc (n + 2),.acc (n + 3),iv t.bound,bv t.strict]
def atomE (t:Atom):List (Option En):=[some (.tre 56 (tTs t.A.kids)),some (.tre 56 (tTs t.B.kids)),some (.tre 56 (tTs t.nums)),some (.tre 3 (intT t.times))]
def formV (t:Mod.Form) (n:Nat):List PV:=[iv t.kind,iv t.lit.atom.kind,sv t.lit.atom.A.name,.acc n,sv t.lit.atom.B.name,.acc (n + 1),.acc (n + 2),.acc (n + 3),iv t.lit.atom.bound,bv t.lit.atom.strict,bv t.lit.no,.acc (n + 4)]
def formE (t:Mod.Form):List (Option En):=[some (.tre 56 (tTs t.lit.atom.A.kids)),some (.tre 56 (tTs t.lit.atom.B.kids)),some (.tre 56 (tTs t.lit.atom.nums)),some (.tre 3 (intT t.lit.atom.times)),some (.tre 63 (fTs t.kids))]
attribute [go_sem] atomV atomE formV formE
theorem c_laws_toAtom_T (t:Atom):C E.P 86 [av (cAtom t)] [] (Eq2 (.agg (atomV t 0)) (atomE t)):=by
 have hLB:=LB_eq
 refine C_goS (nt:=30) (rs:=[.cell 2 58]) hm Tryz.func86 rfl rfl rfl rfl rfl (fun hl he=>?_)
 simp -implicitDefEqProofs only [go_sem,Z1,Z2,Z3,Z4] at hl ⊢
 refine atOwn [] [3] (c_laws_toTerm_T t.A) ?_ ?_ <;> simp -implicitDefEqProofs only [go_sem,Z1,Z2,Z3,Z4]
 refine atOwn [] [4] (c_laws_toTerm_T t.B) ?_ ?_ <;> simp -implicitDefEqProofs only [go_sem,Z1,Z2,Z3,Z4]
 refine atOwn [] [5] (c_laws_toTermS_T t.nums (fun t _=>c_laws_toTerm_T t)) ?_ ?_ <;> simp -implicitDefEqProofs only [go_sem,Z1,Z2,Z3,Z4]
 refine atOwn [] [6] (c_laws_toIntS_T t.times) ?_ ?_ <;> simp -implicitDefEqProofs only [go_sem,Z1,Z2,Z3,Z4]
 refine finM' [some 3,some 4,some 5,some 6] ?_ rfl rfl
 simp -implicitDefEqProofs only [go_sem,Z1,Z2,Z3,Z4]
theorem c_laws_toLit_T (t:LitD):C E.P 48 [av (cLit t)] [] (Eq2 (.agg (atomV t.atom 0 ++ [bv t.no])) (atomE t.atom)):=by
 have hLB:=LB_eq
 refine C_goS (nt:=12) (rs:=[.cell 2 60]) hm Tryz.func48 rfl rfl rfl rfl rfl (fun hl he=>?_)
 simp -implicitDefEqProofs only [go_sem,Z1,Z2,Z3,Z4] at hl ⊢
 refine atOwn [] [3,4,5,6] (c_laws_toAtom_T t.atom) ?_ ?_ <;> simp -implicitDefEqProofs only [go_sem,Z1,Z2,Z3,Z4]
 refine finM' [some 3,some 4,some 5,some 6] ?_ rfl rfl
 simp -implicitDefEqProofs only [go_sem,Z1,Z2,Z3,Z4]
theorem c_laws_toFormS_T (ts:List Mod.Form) (hel:∀ t ∈ ts,C E.P 15 [av (cForm t)] [] (Eq2 (.agg (formV t 0)) (formE t))):C E.P 22 [lv (rowsForm ts)] [] (Eq2 (.acc 0) [some (.tre 63 (fTs ts))]):=by
 have hLB:=LB_eq
 refine C_goS (nt:=23) (rs:=[.tmp 2]) hm Tryz.func22 rfl rfl rfl rfl rfl (fun hl he=>?_)
 simp -implicitDefEqProofs only [go_sem,Z1,Z2,Z3,Z4] at hl ⊢
 repeat (with_reducible apply And.intro; case left=>omega)
 refine loop_go1 hm (fun (i:Nat)=> i ≤ ts.length) (fun (i:Nat)=> ⟨mkS 23 .any [(0,lv (rowsForm ts)),(3,.acc 0),(4,iv i)],[some (.tre 63 (partT (fTs ts) [.leaf (.val (.int .i64 0)),.leaf (.val (.int .i64 0)),.leaf (.str []),.leaf (.lst []),.leaf (.str []),.leaf (.lst []),.leaf (.lst []),.leaf (.lst []),.leaf (.val (.int .i64 0)),.leaf (.val (.bool false)),.leaf (.val (.bool false)),.leaf (.lst [])] i))]⟩) (fun (i:Nat)=> ts.length - i) (0) ?_ (weakS [some 0] ?_ ?_ rfl rfl) ?_
 rotate_left
 ·simp -implicitDefEqProofs only [go_sem,Z1,Z2,Z3,Z4]
 ·simp -implicitDefEqProofs only [go_sem,Z1,Z2,Z3,Z4]
  all_goals (simp [partT_zero,fTs_len,rowsForm_len,lift_rep])
 rotate_left
 ·omega
 ·rintro i hi
  have hp:(partT (fTs ts) [.leaf (.val (.int .i64 0)),.leaf (.val (.int .i64 0)),.leaf (.str []),.leaf (.lst []),.leaf (.str []),.leaf (.lst []),.leaf (.lst []),.leaf (.lst []),.leaf (.val (.int .i64 0)),.leaf (.val (.bool false)),.leaf (.val (.bool false)),.leaf (.lst [])] i).length = ts.length:=by rw [partT_len _ _ _ (by rw [fTs_len]; omega),fTs_len]
  have hf:∀ i,(frzRows (partT (fTs ts) [.leaf (.val (.int .i64 0)),.leaf (.val (.int .i64 0)),.leaf (.str []),.leaf (.lst []),.leaf (.str []),.leaf (.lst []),.leaf (.lst []),.leaf (.lst []),.leaf (.val (.int .i64 0)),.leaf (.val (.bool false)),.leaf (.val (.bool false)),.leaf (.lst [])] i)).isSome = true:=fun i=>partT_frz (z:=[.leaf (.val (.int .i64 0)),.leaf (.val (.int .i64 0)),.leaf (.str []),.leaf (.lst []),.leaf (.str []),.leaf (.lst []),.leaf (.lst []),.leaf (.lst []),.leaf (.val (.int .i64 0)),.leaf (.val (.bool false)),.leaf (.val (.bool false)),.leaf (.lst [])]) i (fTs_frz ts) rfl
  rcases Classical.em (i < ts.length) with h1 | h1
  ·have hset:=partT_set (fTs ts) [.leaf (.val (.int .i64 0)),.leaf (.val (.int .i64 0)),.leaf (.str []),.leaf (.lst []),.leaf (.str []),.leaf (.lst []),.leaf (.lst []),.leaf (.lst []),.leaf (.val (.int .i64 0)),.leaf (.val (.bool false)),.leaf (.val (.bool false)),.leaf (.lst [])] (cFT ts[i]) i (by rw [fTs_len]; exact h1) (fTs_row h1)
   have hrow:=partT_row (fTs ts) [.leaf (.val (.int .i64 0)),.leaf (.val (.int .i64 0)),.leaf (.str []),.leaf (.lst []),.leaf (.str []),.leaf (.lst []),.leaf (.lst []),.leaf (.lst []),.leaf (.val (.int .i64 0)),.leaf (.val (.bool false)),.leaf (.val (.bool false)),.leaf (.lst [])] i (by rw [fTs_len]; exact h1)
   simp -implicitDefEqProofs only [go_sem,Z1,Z2,Z3,Z4,h1,hp]
   have hc:=hel ts[i] (List.getElem_mem h1)
   refine atOwn [] [1,2,3,4,5] hc ?_ ?_ <;> simp -implicitDefEqProofs only [go_sem,Z1,Z2,Z3,Z4,h1,hp,hrow]
   repeat (with_reducible apply And.intro; case left=>omega)
   refine ⟨i + 1,?_,?_,weak_put 0 i _ rfl (by rw [List.length_set,hp]; exact h1) (rwT_set (by rw [hp]; exact h1)) ?_⟩
   rotate_left
   ·show _ < _
    omega
   ·simp -implicitDefEqProofs only [go_sem,Z1,Z2,Z3,Z4]
    refine weakS [some 0] ?_ ?_ rfl rfl
    ·simp -implicitDefEqProofs only [go_sem,Z1,Z2,Z3,Z4]
    ·simp -implicitDefEqProofs only [go_sem,Z1,Z2,Z3,Z4]
     all_goals (exact ⟨hset,(congrArg (fun z=>(frzRows z).isSome) hset).trans (hf (i + 1))⟩)
   exact h1
  ·simp -implicitDefEqProofs only [go_sem,Z1,Z2,Z3,Z4,h1]
   refine finM' [some 0] ?_ rfl rfl
   simp -implicitDefEqProofs only [go_sem,Z1,Z2,Z3,Z4]
   rw [partT_all _ _ _ (by rw [fTs_len]; omega)]
   exact ⟨rfl,by rw [fTs_frz]; rfl⟩
theorem c_laws_toForm_T1 (t:Mod.Form) (ih:∀ k ∈ t.kids,C E.P 15 [av (cForm k)] [] (Eq2 (.agg (formV k 0)) (formE k))):C E.P 15 [av (cForm t)] [] (Eq2 (.agg (formV t 0)) (formE t)):=by
 have hLB:=LB_eq
 refine C_goS (nt:=16) (rs:=[.cell 2 63]) hm Tryz.func15 rfl rfl rfl rfl rfl (fun hl he=>?_)
 simp -implicitDefEqProofs only [go_sem,Z1,Z2,Z3,Z4] at hl ⊢
 refine atOwn [] [3,4,5,6] (c_laws_toLit_T t.lit) ?_ ?_ <;> simp -implicitDefEqProofs only [go_sem,Z1,Z2,Z3,Z4]
 refine atOwn [] [7] (c_laws_toFormS_T t.kids ih) ?_ ?_ <;> simp -implicitDefEqProofs only [go_sem,Z1,Z2,Z3,Z4]
 refine finM' [some 3,some 4,some 5,some 6,some 7] ?_ rfl rfl
 simp -implicitDefEqProofs only [go_sem,Z1,Z2,Z3,Z4]
theorem c_laws_toForm_T:∀ t,C E.P 15 [av (cForm t)] [] (Eq2 (.agg (formV t 0)) (formE t)):=
 Form.ind fun k l ks ih=>c_laws_toForm_T1 _ ih
end Go.Proofs.YtgeogofjlhjcmaaGreat
