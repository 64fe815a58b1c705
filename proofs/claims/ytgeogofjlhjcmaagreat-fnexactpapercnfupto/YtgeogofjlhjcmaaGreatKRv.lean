/-
  Slices that share nothing, as trees: reasons, cases, lemmas, clauses. A step towards the exact laws. Papers copied into what shares nothing: the walks. A step towards the exact laws.
-/
import Derived.Test.YtgeogofjlhjcmaaGreatKRq
import Derived.Test.YtgeogofjlhjcmaaGreatKREa
import Derived.Test.YtgeogofjlhjcmaaGreatKRg
set_option linter.unusedVariables false
set_option linter.unusedSimpArgs false
namespace Go.Proofs.YtgeogofjlhjcmaaGreat
open Go.Eng Go.Mod
set_option maxRecDepth 100000
def cIIT (l:List Int):List T:=[.own 3 (intT l)]
def iiT (l:List (List Int)):List (List T):=l.map cIIT
mutual
def wyT:Why → List T
 | .mk rule n t kids=>[.leaf (.val (.int .i64 rule)),.leaf (.val (.int .i64 n)),.leaf (.str t.name),.own 56 (tTs t.kids),.own 113 (wyTs kids)]
def wyTs:List Why → List (List T)
 | []=>[]
 | t :: ts=>wyT t :: wyTs ts
end
def cWyT (t:Why):List T:=[.leaf (.val (.int .i64 t.rule)),.leaf (.val (.int .i64 t.n)),.leaf (.str t.t.name),.own 56 (tTs t.t.kids),.own 113 (wyTs t.kids)]
theorem wyT_eq (t:Why):wyT t = cWyT t:=by cases t; rfl
theorem wyTs_map:∀ (ts:List Why),wyTs ts = ts.map cWyT
 | []=>rfl
 | t :: ts=>by simp [wyTs,wyT_eq,wyTs_map ts]
mutual
def csT:Case → List T
 | .mk kind n w is a b kids=>[.leaf (.val (.int .i64 kind)),.leaf (.val (.int .i64 n)),.leaf (.val (.int .i64 w.rule)),.leaf (.val (.int .i64 w.n)),.leaf (.str w.t.name),.own 56 (tTs w.t.kids),.own 113 (wyTs w.kids),.own 3 (intT is),.leaf (.str a.name),.own 56 (tTs a.kids),.leaf (.str b.name),.own 56 (tTs b.kids),.own 116 (csTs kids)]
def csTs:List Case → List (List T)
 | []=>[]
 | t :: ts=>csT t :: csTs ts
end
def cCsT (t:Case):List T:=[.leaf (.val (.int .i64 t.kind)),.leaf (.val (.int .i64 t.n)),.leaf (.val (.int .i64 t.why.rule)),.leaf (.val (.int .i64 t.why.n)),.leaf (.str t.why.t.name),.own 56 (tTs t.why.t.kids),.own 113 (wyTs t.why.kids),.own 3 (intT t.times),.leaf (.str t.A.name),.own 56 (tTs t.A.kids),.leaf (.str t.B.name),.own 56 (tTs t.B.kids),.own 116 (csTs t.kids)]
theorem csT_eq (t:Case):csT t = cCsT t:=by cases t; rfl
theorem csTs_map:∀ (ts:List Case),csTs ts = ts.map cCsT
 | []=>rfl
 | t :: ts=>by simp [csTs,csT_eq,csTs_map ts]
def cLmT (l:Mod.Lemma):List T:=.own 3 (intT l.marks) :: cCsT l.case
def lmT (l:List Mod.Lemma):List (List T):=l.map cLmT
theorem iiT_frz:∀ (l:List (List Int)),frzRows (iiT l) = some (rowsII l)
 | []=>rfl
 | s :: l=>by
   have:=iiT_frz l
   simp only [iiT,List.map_cons] at this ⊢
   simp [frzRows,frzCells,T.frz,cIIT,intT_frz,this,rowsII]
mutual
theorem wyT_frz:∀ (t:Why),frzCells (wyT t) = some (cWhy t)
 | .mk rule n t kids=>by
   have:=wyTs_frz kids
   simp [wyT,frzCells,T.frz,this,tTs_frz,cWhy,Why.rule,Why.n,Why.t,Why.kids]
theorem wyTs_frz:∀ (ts:List Why),frzRows (wyTs ts) = some (rowsWhy ts)
 | []=>rfl
 | t :: ts=>by
   have h1:=wyT_frz t
   have h2:=wyTs_frz ts
   simp [wyTs,frzRows,h1,h2,rowsWhy_cons]
end
mutual
theorem csT_frz:∀ (t:Case),frzCells (csT t) = some (cCase t)
 | .mk kind n w is a b kids=>by
   have:=csTs_frz kids
   simp [csT,frzCells,T.frz,this,tTs_frz,wyTs_frz,intT_frz,cCase,Case.kind,Case.n,Case.why,Case.times,Case.A,Case.B,Case.kids]
theorem csTs_frz:∀ (ts:List Case),frzRows (csTs ts) = some (rowsCase ts)
 | []=>rfl
 | t :: ts=>by
   have h1:=csT_frz t
   have h2:=csTs_frz ts
   simp [csTs,frzRows,h1,h2,rowsCase_cons]
end
theorem lmT_frz:∀ (l:List Mod.Lemma),frzRows (lmT l) = some (rowsLemma l)
 | []=>rfl
 | s :: l=>by
   have:=lmT_frz l
   simp only [lmT,List.map_cons] at this ⊢
   simp [frzRows,frzCells,T.frz,cLmT,cCsT,intT_frz,tTs_frz,wyTs_frz,csTs_frz,this,rowsLemma,cLemma]
theorem iiT_sd:∀ (l:List (List Int)),sdTs (iiT l) = true
 | []=>rfl
 | s :: l=>by
   have:=iiT_sd l
   simp only [iiT,List.map_cons] at this ⊢
   simp [sdTs,sdT,T.sd,cIIT,intT_sd,this]
theorem iiT_ren (m:List Nat) (l:List (List Int)):renRows m (iiT l) = iiT l:=frz_renRs _ (by rw [iiT_frz]; rfl)
theorem wyTs_ren (m:List Nat) (l:List Why):renRows m (wyTs l) = wyTs l:=frz_renRs _ (by rw [wyTs_frz]; rfl)
theorem csTs_ren (m:List Nat) (l:List Case):renRows m (csTs l) = csTs l:=frz_renRs _ (by rw [csTs_frz]; rfl)
theorem lmT_ren (m:List Nat) (l:List Mod.Lemma):renRows m (lmT l) = lmT l:=frz_renRs _ (by rw [lmT_frz]; rfl)
theorem iiT_lt (n:Nat) (l:List (List Int)):ltRows n (iiT l) = true:=frz_ltRs _ (by rw [iiT_frz]; rfl)
theorem wyTs_lt (n:Nat) (l:List Why):ltRows n (wyTs l) = true:=frz_ltRs _ (by rw [wyTs_frz]; rfl)
theorem csTs_lt (n:Nat) (l:List Case):ltRows n (csTs l) = true:=frz_ltRs _ (by rw [csTs_frz]; rfl)
theorem lmT_lt (n:Nat) (l:List Mod.Lemma):ltRows n (lmT l) = true:=frz_ltRs _ (by rw [lmT_frz]; rfl)
attribute [go_sem] iiT_frz wyTs_frz csTs_frz lmT_frz iiT_sd iiT_ren wyTs_ren csTs_ren lmT_ren iiT_lt wyTs_lt csTs_lt lmT_lt
theorem iiT_map (l:List (List Int)):iiT l = l.map cIIT:=rfl
theorem lmT_map (l:List Mod.Lemma):lmT l = l.map cLmT:=rfl
theorem iiT_len (l:List (List Int)):(iiT l).length = l.length:=by rw [iiT_map]; simp
theorem iiT_row {l:List (List Int)} {i:Nat} (h:i < l.length):rwT (iiT l) i = cIIT l[i]:=by rw [iiT_map]; simp [rwT,List.getD,List.getElem?_eq_getElem h]
theorem iiT_set (l:List (List Int)) (i:Nat) (t:(List Int)):(iiT l).set i (cIIT t) = iiT (l.set i t):=by rw [iiT_map,iiT_map,List.map_set]
theorem iiT_app (l:List (List Int)) (t:(List Int)):iiT l ++ [cIIT t] = iiT (l ++ [t]):=by rw [iiT_map,iiT_map]; simp
theorem iiT_ok (l:List (List Int)):(frzRows (iiT l)).isSome = true:=by rw [iiT_frz]; rfl
theorem wyTs_len (l:List Why):(wyTs l).length = l.length:=by rw [wyTs_map]; simp
theorem wyTs_row {l:List Why} {i:Nat} (h:i < l.length):rwT (wyTs l) i = cWyT l[i]:=by rw [wyTs_map]; simp [rwT,List.getD,List.getElem?_eq_getElem h]
theorem wyTs_set (l:List Why) (i:Nat) (t:Why):(wyTs l).set i (cWyT t) = wyTs (l.set i t):=by rw [wyTs_map,wyTs_map,List.map_set]
theorem wyTs_ok (l:List Why):(frzRows (wyTs l)).isSome = true:=by rw [wyTs_frz]; rfl
theorem csTs_len (l:List Case):(csTs l).length = l.length:=by rw [csTs_map]; simp
theorem csTs_row {l:List Case} {i:Nat} (h:i < l.length):rwT (csTs l) i = cCsT l[i]:=by rw [csTs_map]; simp [rwT,List.getD,List.getElem?_eq_getElem h]
theorem csTs_set (l:List Case) (i:Nat) (t:Case):(csTs l).set i (cCsT t) = csTs (l.set i t):=by rw [csTs_map,csTs_map,List.map_set]
theorem csTs_ok (l:List Case):(frzRows (csTs l)).isSome = true:=by rw [csTs_frz]; rfl
theorem lmT_len (l:List Mod.Lemma):(lmT l).length = l.length:=by rw [lmT_map]; simp
theorem lmT_row {l:List Mod.Lemma} {i:Nat} (h:i < l.length):rwT (lmT l) i = cLmT l[i]:=by rw [lmT_map]; simp [rwT,List.getD,List.getElem?_eq_getElem h]
theorem lmT_set (l:List Mod.Lemma) (i:Nat) (t:Mod.Lemma):(lmT l).set i (cLmT t) = lmT (l.set i t):=by rw [lmT_map,lmT_map,List.map_set]
theorem lmT_ok (l:List Mod.Lemma):(frzRows (lmT l)).isSome = true:=by rw [lmT_frz]; rfl
attribute [go_sem] iiT_len wyTs_len csTs_len lmT_len
end Go.Proofs.YtgeogofjlhjcmaaGreat
namespace Go.Proofs.YtgeogofjlhjcmaaGreat
open Go.Eng Go.Mod
open Int renaming reduceEq → Z1,reduceLT → Z2,reduceLE → Z3,reduceToNat → Z4
set_option maxRecDepth 100000
set_option maxHeartbeats 400000
theorem c_laws_toIntSS_T (ts:List (List Int)) :C E.P 59 [lv (rowsII ts)] [] (Eq2 (.acc 0) [some (.tre 44 (iiT ts))]):=by
 have hLB:=LB_eq
 refine C_goS (nt:=23) (rs:=[.tmp 2]) hm Tryz.func59 rfl rfl rfl rfl rfl (fun hl he=>?_)
 simp -implicitDefEqProofs only [go_sem,Z1,Z2,Z3,Z4] at hl ⊢
 repeat (first | with_reducible refine ind_andM (by kernel_rfl) ?_ | (with_reducible apply And.intro; case left=>first | omega | assumption | exact ⟨rowsT_all _,by omega⟩ | exact ⟨rowsI_all _,by omega⟩ | exact ⟨rowsLit_all _,by omega⟩ | exact ⟨rowsLin_all _,by omega⟩ | exact ⟨rowsEq_all _,by omega⟩ | rfl | (simp [*]; done) | (simp; omega) | exact ⟨rowsRat_all _,by omega⟩ | exact ⟨rowsAtom_all _,by omega⟩ | exact ⟨rowsB_all _,by omega⟩ | exact ⟨rowsForm_all _,by omega⟩ | exact ⟨rowsII_all _,by omega⟩))
 refine loop_go1 hm (fun (i:Nat)=> i ≤ ts.length) (fun (i:Nat)=> ⟨mkS 23 .any [(0,lv (rowsII ts)),(3,.acc 0),(4,iv i)],[some (.tre 44 (partT (iiT ts) [.leaf (.lst [])] i))]⟩) (fun (i:Nat)=> ts.length - i) (0) ?_ (weakS [some 0] ?_ ?_ rfl rfl) ?_
 rotate_left
 ·simp -implicitDefEqProofs only [go_sem,Z1,Z2,Z3,Z4]
  all_goals (first | done | (simp [partT_zero,iiT_len,rowsII_len,lift_rep]) | (simp [wks_rfl, *]; done) | (simp [wks_rfl]; done) | (simp; omega) | skip)
 ·simp -implicitDefEqProofs only [go_sem,Z1,Z2,Z3,Z4]
  all_goals (first | done | (simp [partT_zero,iiT_len,rowsII_len,lift_rep]) | (simp [wks_rfl, *]; done) | (simp [wks_rfl]; done) | (simp; omega) | skip)
 rotate_left
 ·omega
 ·rintro i hi
  have hp:(partT (iiT ts) [.leaf (.lst [])] i).length = ts.length:=by rw [partT_len _ _ _ (by rw [iiT_len]; omega),iiT_len]
  have hf:∀ i,(frzRows (partT (iiT ts) [.leaf (.lst [])] i)).isSome = true:=fun i=>partT_frz (z:=[.leaf (.lst [])]) i (iiT_frz ts) rfl
  rcases Classical.em (i < ts.length) with h1 | h1
  ·have hset:=partT_set (iiT ts) [.leaf (.lst [])] (cIIT ts[i]) i (by rw [iiT_len]; exact h1) (iiT_row h1)
   have hrow:=partT_row (iiT ts) [.leaf (.lst [])] i (by rw [iiT_len]; exact h1)
   try simp -implicitDefEqProofs only [go_sem,Z1,Z2,Z3,Z4,h1,hp]
   try (with_reducible refine ind_andM (by kernel_rfl) ?_)
   have hc:=c_laws_toIntS_T ts[i]
   refine atOwn [] [1] hc ?_ ?_ <;> simp -implicitDefEqProofs only [go_sem,Z1,Z2,Z3,Z4,h1,hp,hrow]
   try (with_reducible refine ind_andM (by kernel_rfl) ?_)
   repeat (first | with_reducible refine ind_andM (by kernel_rfl) ?_ | (with_reducible apply And.intro; case left=>first | omega | assumption | exact ⟨rowsT_all _,by omega⟩ | exact ⟨rowsI_all _,by omega⟩ | exact ⟨rowsLit_all _,by omega⟩ | exact ⟨rowsLin_all _,by omega⟩ | exact ⟨rowsEq_all _,by omega⟩ | rfl | (simp [*]; done) | (simp; omega) | exact ⟨rowsRat_all _,by omega⟩ | exact ⟨rowsAtom_all _,by omega⟩ | exact ⟨rowsB_all _,by omega⟩ | exact ⟨rowsForm_all _,by omega⟩ | exact ⟨rowsII_all _,by omega⟩))
   refine ⟨i + 1,?_,?_,weak_put 0 i _ rfl (by rw [List.length_set,hp]; exact h1) (rwT_set (by rw [hp]; exact h1)) ?_⟩
   rotate_left
   ·show _ < _
    omega
   ·simp -implicitDefEqProofs only [go_sem,Z1,Z2,Z3,Z4]
    refine weakS [some 0] ?_ ?_ rfl rfl
    ·simp -implicitDefEqProofs only [go_sem,Z1,Z2,Z3,Z4]
     all_goals (first | done | (exact ⟨hset,(congrArg (fun z=>(frzRows z).isSome) hset).trans (hf (i + 1))⟩) | (simp [wks_rfl, *]; done) | (simp [wks_rfl]; done) | (simp; omega) | skip)
    ·simp -implicitDefEqProofs only [go_sem,Z1,Z2,Z3,Z4]
     all_goals (first | done | (exact ⟨hset,(congrArg (fun z=>(frzRows z).isSome) hset).trans (hf (i + 1))⟩) | (simp [wks_rfl, *]; done) | (simp [wks_rfl]; done) | (simp; omega) | skip)
   exact h1
  ·try simp -implicitDefEqProofs only [go_sem,Z1,Z2,Z3,Z4,h1]
   try (with_reducible refine ind_andM (by kernel_rfl) ?_)
   refine finM' [some 0] ?_ rfl rfl
   simp -implicitDefEqProofs only [go_sem,Z1,Z2,Z3,Z4]
   rw [partT_all _ _ _ (by rw [iiT_len]; omega)]
   exact ⟨rfl,by rw [iiT_frz]; rfl⟩
def whyV (t:Why) (n:Nat):List PV:=[iv t.rule,iv t.n,sv t.t.name,.acc n,.acc (n + 1)]
def whyE (t:Why):List (Option En):=[some (.tre 56 (tTs t.t.kids)),some (.tre 113 (wyTs t.kids))]
def caseV (t:Case) (n:Nat):List PV:=[iv t.kind,iv t.n,iv t.why.rule,iv t.why.n,sv t.why.t.name,.acc n,.acc (n + 1),.acc (n + 2),sv t.A.name,.acc (n + 3),sv t.B.name,.acc (n + 4),.acc (n + 5)]
def caseE (t:Case):List (Option En):=[some (.tre 56 (tTs t.why.t.kids)),some (.tre 113 (wyTs t.why.kids)),some (.tre 3 (intT t.times)),some (.tre 56 (tTs t.A.kids)),some (.tre 56 (tTs t.B.kids)),some (.tre 116 (csTs t.kids))]
attribute [go_sem] whyV whyE caseV caseE
theorem c_laws_toWhyS_T (ts:List Why) (hel:∀ t ∈ ts,C E.P 161 [av (cWhy t)] [] (Eq2 (.agg (whyV t 0)) (whyE t))):C E.P 195 [lv (rowsWhy ts)] [] (Eq2 (.acc 0) [some (.tre 113 (wyTs ts))]):=by
 have hLB:=LB_eq
 refine C_goS (nt:=23) (rs:=[.tmp 2]) hm Tryz.func195 rfl rfl rfl rfl rfl (fun hl he=>?_)
 simp -implicitDefEqProofs only [go_sem,Z1,Z2,Z3,Z4] at hl ⊢
 repeat (first | with_reducible refine ind_andM (by kernel_rfl) ?_ | (with_reducible apply And.intro; case left=>first | omega | assumption | exact ⟨rowsT_all _,by omega⟩ | exact ⟨rowsI_all _,by omega⟩ | exact ⟨rowsLit_all _,by omega⟩ | exact ⟨rowsLin_all _,by omega⟩ | exact ⟨rowsEq_all _,by omega⟩ | rfl | (simp [*]; done) | (simp; omega) | exact ⟨rowsRat_all _,by omega⟩ | exact ⟨rowsAtom_all _,by omega⟩ | exact ⟨rowsB_all _,by omega⟩ | exact ⟨rowsForm_all _,by omega⟩ | exact ⟨rowsII_all _,by omega⟩))
 refine loop_go1 hm (fun (i:Nat)=> i ≤ ts.length) (fun (i:Nat)=> ⟨mkS 23 .any [(0,lv (rowsWhy ts)),(3,.acc 0),(4,iv i)],[some (.tre 113 (partT (wyTs ts) [.leaf (.val (.int .i64 0)),.leaf (.val (.int .i64 0)),.leaf (.str []),.leaf (.lst []),.leaf (.lst [])] i))]⟩) (fun (i:Nat)=> ts.length - i) (0) ?_ (weakS [some 0] ?_ ?_ rfl rfl) ?_
 rotate_left
 ·simp -implicitDefEqProofs only [go_sem,Z1,Z2,Z3,Z4]
  all_goals (first | done | (simp [partT_zero,wyTs_len,rowsWhy_len,lift_rep]) | (simp [wks_rfl, *]; done) | (simp [wks_rfl]; done) | (simp; omega) | skip)
 ·simp -implicitDefEqProofs only [go_sem,Z1,Z2,Z3,Z4]
  all_goals (first | done | (simp [partT_zero,wyTs_len,rowsWhy_len,lift_rep]) | (simp [wks_rfl, *]; done) | (simp [wks_rfl]; done) | (simp; omega) | skip)
 rotate_left
 ·omega
 ·rintro i hi
  have hp:(partT (wyTs ts) [.leaf (.val (.int .i64 0)),.leaf (.val (.int .i64 0)),.leaf (.str []),.leaf (.lst []),.leaf (.lst [])] i).length = ts.length:=by rw [partT_len _ _ _ (by rw [wyTs_len]; omega),wyTs_len]
  have hf:∀ i,(frzRows (partT (wyTs ts) [.leaf (.val (.int .i64 0)),.leaf (.val (.int .i64 0)),.leaf (.str []),.leaf (.lst []),.leaf (.lst [])] i)).isSome = true:=fun i=>partT_frz (z:=[.leaf (.val (.int .i64 0)),.leaf (.val (.int .i64 0)),.leaf (.str []),.leaf (.lst []),.leaf (.lst [])]) i (wyTs_frz ts) rfl
  rcases Classical.em (i < ts.length) with h1 | h1
  ·have hset:=partT_set (wyTs ts) [.leaf (.val (.int .i64 0)),.leaf (.val (.int .i64 0)),.leaf (.str []),.leaf (.lst []),.leaf (.lst [])] (cWyT ts[i]) i (by rw [wyTs_len]; exact h1) (wyTs_row h1)
   have hrow:=partT_row (wyTs ts) [.leaf (.val (.int .i64 0)),.leaf (.val (.int .i64 0)),.leaf (.str []),.leaf (.lst []),.leaf (.lst [])] i (by rw [wyTs_len]; exact h1)
   try simp -implicitDefEqProofs only [go_sem,Z1,Z2,Z3,Z4,h1,hp]
   try (with_reducible refine ind_andM (by kernel_rfl) ?_)
   have hc:=hel ts[i] (List.getElem_mem h1)
   refine atOwn [] [1,2] hc ?_ ?_ <;> simp -implicitDefEqProofs only [go_sem,Z1,Z2,Z3,Z4,h1,hp,hrow]
   try (with_reducible refine ind_andM (by kernel_rfl) ?_)
   repeat (first | with_reducible refine ind_andM (by kernel_rfl) ?_ | (with_reducible apply And.intro; case left=>first | omega | assumption | exact ⟨rowsT_all _,by omega⟩ | exact ⟨rowsI_all _,by omega⟩ | exact ⟨rowsLit_all _,by omega⟩ | exact ⟨rowsLin_all _,by omega⟩ | exact ⟨rowsEq_all _,by omega⟩ | rfl | (simp [*]; done) | (simp; omega) | exact ⟨rowsRat_all _,by omega⟩ | exact ⟨rowsAtom_all _,by omega⟩ | exact ⟨rowsB_all _,by omega⟩ | exact ⟨rowsForm_all _,by omega⟩ | exact ⟨rowsII_all _,by omega⟩))
   refine ⟨i + 1,?_,?_,weak_put 0 i _ rfl (by rw [List.length_set,hp]; exact h1) (rwT_set (by rw [hp]; exact h1)) ?_⟩
   rotate_left
   ·show _ < _
    omega
   ·simp -implicitDefEqProofs only [go_sem,Z1,Z2,Z3,Z4]
    refine weakS [some 0] ?_ ?_ rfl rfl
    ·simp -implicitDefEqProofs only [go_sem,Z1,Z2,Z3,Z4]
     all_goals (first | done | (exact ⟨hset,(congrArg (fun z=>(frzRows z).isSome) hset).trans (hf (i + 1))⟩) | (simp [wks_rfl, *]; done) | (simp [wks_rfl]; done) | (simp; omega) | skip)
    ·simp -implicitDefEqProofs only [go_sem,Z1,Z2,Z3,Z4]
     all_goals (first | done | (exact ⟨hset,(congrArg (fun z=>(frzRows z).isSome) hset).trans (hf (i + 1))⟩) | (simp [wks_rfl, *]; done) | (simp [wks_rfl]; done) | (simp; omega) | skip)
   exact h1
  ·try simp -implicitDefEqProofs only [go_sem,Z1,Z2,Z3,Z4,h1]
   try (with_reducible refine ind_andM (by kernel_rfl) ?_)
   refine finM' [some 0] ?_ rfl rfl
   simp -implicitDefEqProofs only [go_sem,Z1,Z2,Z3,Z4]
   rw [partT_all _ _ _ (by rw [wyTs_len]; omega)]
   exact ⟨rfl,by rw [wyTs_frz]; rfl⟩
theorem c_laws_toWhy_T1 (t:Why) (ih:∀ k ∈ t.kids,C E.P 161 [av (cWhy k)] [] (Eq2 (.agg (whyV k 0)) (whyE k))):C E.P 161 [av (cWhy t)] [] (Eq2 (.agg (whyV t 0)) (whyE t)):=by
 have hLB:=LB_eq
 refine C_goS (nt:=19) (rs:=[.cell 2 113]) hm Tryz.func161 rfl rfl rfl rfl rfl (fun hl he=>?_)
 simp -implicitDefEqProofs only [go_sem,Z1,Z2,Z3,Z4] at hl ⊢
 refine atOwn [] [3] (c_laws_toTerm_T t.t) ?_ ?_ <;> simp -implicitDefEqProofs only [go_sem,Z1,Z2,Z3,Z4]
 try (with_reducible refine ind_andM (by kernel_rfl) ?_)
 refine atOwn [] [4] (c_laws_toWhyS_T t.kids ih) ?_ ?_ <;> simp -implicitDefEqProofs only [go_sem,Z1,Z2,Z3,Z4]
 try (with_reducible refine ind_andM (by kernel_rfl) ?_)
 refine finM' [some 3,some 4] ?_ rfl rfl
 simp -implicitDefEqProofs only [go_sem,Z1,Z2,Z3,Z4]
theorem c_laws_toWhy_T:∀ t,C E.P 161 [av (cWhy t)] [] (Eq2 (.agg (whyV t 0)) (whyE t)):=
 Why.ind fun _ _ _ _ ih=>c_laws_toWhy_T1 _ ih
theorem c_laws_toCaseS_T (ts:List Case) (hel:∀ t ∈ ts,C E.P 138 [av (cCase t)] [] (Eq2 (.agg (caseV t 0)) (caseE t))):C E.P 162 [lv (rowsCase ts)] [] (Eq2 (.acc 0) [some (.tre 116 (csTs ts))]):=by
 have hLB:=LB_eq
 refine C_goS (nt:=23) (rs:=[.tmp 2]) hm Tryz.func162 rfl rfl rfl rfl rfl (fun hl he=>?_)
 simp -implicitDefEqProofs only [go_sem,Z1,Z2,Z3,Z4] at hl ⊢
 repeat (first | with_reducible refine ind_andM (by kernel_rfl) ?_ | (with_reducible apply And.intro; case left=>first | omega | assumption | exact ⟨rowsT_all _,by omega⟩ | exact ⟨rowsI_all _,by omega⟩ | exact ⟨rowsLit_all _,by omega⟩ | exact ⟨rowsLin_all _,by omega⟩ | exact ⟨rowsEq_all _,by omega⟩ | rfl | (simp [*]; done) | (simp; omega) | exact ⟨rowsRat_all _,by omega⟩ | exact ⟨rowsAtom_all _,by omega⟩ | exact ⟨rowsB_all _,by omega⟩ | exact ⟨rowsForm_all _,by omega⟩ | exact ⟨rowsII_all _,by omega⟩))
 refine loop_go1 hm (fun (i:Nat)=> i ≤ ts.length) (fun (i:Nat)=> ⟨mkS 23 .any [(0,lv (rowsCase ts)),(3,.acc 0),(4,iv i)],[some (.tre 116 (partT (csTs ts) [.leaf (.val (.int .i64 0)),.leaf (.val (.int .i64 0)),.leaf (.val (.int .i64 0)),.leaf (.val (.int .i64 0)),.leaf (.str []),.leaf (.lst []),.leaf (.lst []),.leaf (.lst []),.leaf (.str []),.leaf (.lst []),.leaf (.str []),.leaf (.lst []),.leaf (.lst [])] i))]⟩) (fun (i:Nat)=> ts.length - i) (0) ?_ (weakS [some 0] ?_ ?_ rfl rfl) ?_
 rotate_left
 ·simp -implicitDefEqProofs only [go_sem,Z1,Z2,Z3,Z4]
  all_goals (first | done | (simp [partT_zero,csTs_len,rowsCase_len,lift_rep]) | (simp [wks_rfl, *]; done) | (simp [wks_rfl]; done) | (simp; omega) | skip)
 ·simp -implicitDefEqProofs only [go_sem,Z1,Z2,Z3,Z4]
  all_goals (first | done | (simp [partT_zero,csTs_len,rowsCase_len,lift_rep]) | (simp [wks_rfl, *]; done) | (simp [wks_rfl]; done) | (simp; omega) | skip)
 rotate_left
 ·omega
 ·rintro i hi
  have hp:(partT (csTs ts) [.leaf (.val (.int .i64 0)),.leaf (.val (.int .i64 0)),.leaf (.val (.int .i64 0)),.leaf (.val (.int .i64 0)),.leaf (.str []),.leaf (.lst []),.leaf (.lst []),.leaf (.lst []),.leaf (.str []),.leaf (.lst []),.leaf (.str []),.leaf (.lst []),.leaf (.lst [])] i).length = ts.length:=by rw [partT_len _ _ _ (by rw [csTs_len]; omega),csTs_len]
  have hf:∀ i,(frzRows (partT (csTs ts) [.leaf (.val (.int .i64 0)),.leaf (.val (.int .i64 0)),.leaf (.val (.int .i64 0)),.leaf (.val (.int .i64 0)),.leaf (.str []),.leaf (.lst []),.leaf (.lst []),.leaf (.lst []),.leaf (.str []),.leaf (.lst []),.leaf (.str []),.leaf (.lst []),.leaf (.lst [])] i)).isSome = true:=fun i=>partT_frz (z:=[.leaf (.val (.int .i64 0)),.leaf (.val (.int .i64 0)),.leaf (.val (.int .i64 0)),.leaf (.val (.int .i64 0)),.leaf (.str []),.leaf (.lst []),.leaf (.lst []),.leaf (.lst []),.leaf (.str []),.leaf (.lst []),.leaf (.str []),.leaf (.lst []),.leaf (.lst [])]) i (csTs_frz ts) rfl
  rcases Classical.em (i < ts.length) with h1 | h1
  ·have hset:=partT_set (csTs ts) [.leaf (.val (.int .i64 0)),.leaf (.val (.int .i64 0)),.leaf (.val (.int .i64 0)),.leaf (.val (.int .i64 0)),.leaf (.str []),.leaf (.lst []),.leaf (.lst []),.leaf (.lst []),.leaf (.str []),.leaf (.lst []),.leaf (.str []),.leaf (.lst []),.leaf (.lst [])] (cCsT ts[i]) i (by rw [csTs_len]; exact h1) (csTs_row h1)
   have hrow:=partT_row (csTs ts) [.leaf (.val (.int .i64 0)),.leaf (.val (.int .i64 0)),.leaf (.val (.int .i64 0)),.leaf (.val (.int .i64 0)),.leaf (.str []),.leaf (.lst []),.leaf (.lst []),.leaf (.lst []),.leaf (.str []),.leaf (.lst []),.leaf (.str []),.leaf (.lst []),.leaf (.lst [])] i (by rw [csTs_len]; exact h1)
   try simp -implicitDefEqProofs only [go_sem,Z1,Z2,Z3,Z4,h1,hp]
   try (with_reducible refine ind_andM (by kernel_rfl) ?_)
   have hc:=hel ts[i] (List.getElem_mem h1)
   refine atOwn [] [1,2,3,4,5,6] hc ?_ ?_ <;> simp -implicitDefEqProofs only [go_sem,Z1,Z2,Z3,Z4,h1,hp,hrow]
   try (with_reducible refine ind_andM (by kernel_rfl) ?_)
   repeat (first | with_reducible refine ind_andM (by kernel_rfl) ?_ | (with_reducible apply And.intro; case left=>first | omega | assumption | exact ⟨rowsT_all _,by omega⟩ | exact ⟨rowsI_all _,by omega⟩ | exact ⟨rowsLit_all _,by omega⟩ | exact ⟨rowsLin_all _,by omega⟩ | exact ⟨rowsEq_all _,by omega⟩ | rfl | (simp [*]; done) | (simp; omega) | exact ⟨rowsRat_all _,by omega⟩ | exact ⟨rowsAtom_all _,by omega⟩ | exact ⟨rowsB_all _,by omega⟩ | exact ⟨rowsForm_all _,by omega⟩ | exact ⟨rowsII_all _,by omega⟩))
   refine ⟨i + 1,?_,?_,weak_put 0 i _ rfl (by rw [List.length_set,hp]; exact h1) (rwT_set (by rw [hp]; exact h1)) ?_⟩
   rotate_left
   ·show _ < _
    omega
   ·simp -implicitDefEqProofs only [go_sem,Z1,Z2,Z3,Z4]
    refine weakS [some 0] ?_ ?_ rfl rfl
    ·simp -implicitDefEqProofs only [go_sem,Z1,Z2,Z3,Z4]
     all_goals (first | done | (exact ⟨hset,(congrArg (fun z=>(frzRows z).isSome) hset).trans (hf (i + 1))⟩) | (simp [wks_rfl, *]; done) | (simp [wks_rfl]; done) | (simp; omega) | skip)
    ·simp -implicitDefEqProofs only [go_sem,Z1,Z2,Z3,Z4]
     all_goals (first | done | (exact ⟨hset,(congrArg (fun z=>(frzRows z).isSome) hset).trans (hf (i + 1))⟩) | (simp [wks_rfl, *]; done) | (simp [wks_rfl]; done) | (simp; omega) | skip)
   exact h1
  ·try simp -implicitDefEqProofs only [go_sem,Z1,Z2,Z3,Z4,h1]
   try (with_reducible refine ind_andM (by kernel_rfl) ?_)
   refine finM' [some 0] ?_ rfl rfl
   simp -implicitDefEqProofs only [go_sem,Z1,Z2,Z3,Z4]
   rw [partT_all _ _ _ (by rw [csTs_len]; omega)]
   exact ⟨rfl,by rw [csTs_frz]; rfl⟩
theorem c_laws_toCase_T1 (t:Case) (ih:∀ k ∈ t.kids,C E.P 138 [av (cCase k)] [] (Eq2 (.agg (caseV k 0)) (caseE k))):C E.P 138 [av (cCase t)] [] (Eq2 (.agg (caseV t 0)) (caseE t)):=by
 have hLB:=LB_eq
 refine C_goS (nt:=31) (rs:=[.cell 2 116]) hm Tryz.func138 rfl rfl rfl rfl rfl (fun hl he=>?_)
 simp -implicitDefEqProofs only [go_sem,Z1,Z2,Z3,Z4] at hl ⊢
 refine atOwn [] [3,4] (c_laws_toWhy_T t.why) ?_ ?_ <;> simp -implicitDefEqProofs only [go_sem,Z1,Z2,Z3,Z4]
 try (with_reducible refine ind_andM (by kernel_rfl) ?_)
 refine atOwn [] [5] (c_laws_toIntS_T t.times) ?_ ?_ <;> simp -implicitDefEqProofs only [go_sem,Z1,Z2,Z3,Z4]
 try (with_reducible refine ind_andM (by kernel_rfl) ?_)
 refine atOwn [] [6] (c_laws_toTerm_T t.A) ?_ ?_ <;> simp -implicitDefEqProofs only [go_sem,Z1,Z2,Z3,Z4]
 try (with_reducible refine ind_andM (by kernel_rfl) ?_)
 refine atOwn [] [7] (c_laws_toTerm_T t.B) ?_ ?_ <;> simp -implicitDefEqProofs only [go_sem,Z1,Z2,Z3,Z4]
 try (with_reducible refine ind_andM (by kernel_rfl) ?_)
 refine atOwn [] [8] (c_laws_toCaseS_T t.kids ih) ?_ ?_ <;> simp -implicitDefEqProofs only [go_sem,Z1,Z2,Z3,Z4]
 try (with_reducible refine ind_andM (by kernel_rfl) ?_)
 refine finM' [some 3,some 4,some 5,some 6,some 7,some 8] ?_ rfl rfl
 simp -implicitDefEqProofs only [go_sem,Z1,Z2,Z3,Z4]
theorem c_laws_toCase_T:∀ t,C E.P 138 [av (cCase t)] [] (Eq2 (.agg (caseV t 0)) (caseE t)):=
 Case.ind fun _ _ _ _ _ _ _ ih=>c_laws_toCase_T1 _ ih
theorem c_laws_toLemma_T (t:Mod.Lemma):C E.P 98 [av (cLemma t)] [] (Eq2 (.agg (.acc 0 :: caseV t.case 1)) (some (.tre 3 (intT t.marks)) :: caseE t.case)):=by
 have hLB:=LB_eq
 refine C_goS (nt:=13) (rs:=[.cell 2 118]) hm Tryz.func98 rfl rfl rfl rfl rfl (fun hl he=>?_)
 simp -implicitDefEqProofs only [go_sem,Z1,Z2,Z3,Z4] at hl ⊢
 refine atOwn [] [3] (c_laws_toIntS_T t.marks) ?_ ?_ <;> simp -implicitDefEqProofs only [go_sem,Z1,Z2,Z3,Z4]
 try (with_reducible refine ind_andM (by kernel_rfl) ?_)
 refine atOwn [] [4,5,6,7,8,9] (c_laws_toCase_T t.case) ?_ ?_ <;> simp -implicitDefEqProofs only [go_sem,Z1,Z2,Z3,Z4]
 try (with_reducible refine ind_andM (by kernel_rfl) ?_)
 refine finM' [some 3,some 4,some 5,some 6,some 7,some 8,some 9] ?_ rfl rfl
 simp -implicitDefEqProofs only [go_sem,Z1,Z2,Z3,Z4]
theorem c_laws_toLemmaS_T (ts:List Mod.Lemma) :C E.P 58 [lv (rowsLemma ts)] [] (Eq2 (.acc 0) [some (.tre 118 (lmT ts))]):=by
 have hLB:=LB_eq
 refine C_goS (nt:=23) (rs:=[.tmp 2]) hm Tryz.func58 rfl rfl rfl rfl rfl (fun hl he=>?_)
 simp -implicitDefEqProofs only [go_sem,Z1,Z2,Z3,Z4] at hl ⊢
 repeat (first | with_reducible refine ind_andM (by kernel_rfl) ?_ | (with_reducible apply And.intro; case left=>first | omega | assumption | exact ⟨rowsT_all _,by omega⟩ | exact ⟨rowsI_all _,by omega⟩ | exact ⟨rowsLit_all _,by omega⟩ | exact ⟨rowsLin_all _,by omega⟩ | exact ⟨rowsEq_all _,by omega⟩ | rfl | (simp [*]; done) | (simp; omega) | exact ⟨rowsRat_all _,by omega⟩ | exact ⟨rowsAtom_all _,by omega⟩ | exact ⟨rowsB_all _,by omega⟩ | exact ⟨rowsForm_all _,by omega⟩ | exact ⟨rowsII_all _,by omega⟩))
 refine loop_go1 hm (fun (i:Nat)=> i ≤ ts.length) (fun (i:Nat)=> ⟨mkS 23 .any [(0,lv (rowsLemma ts)),(3,.acc 0),(4,iv i)],[some (.tre 118 (partT (lmT ts) [.leaf (.lst []),.leaf (.val (.int .i64 0)),.leaf (.val (.int .i64 0)),.leaf (.val (.int .i64 0)),.leaf (.val (.int .i64 0)),.leaf (.str []),.leaf (.lst []),.leaf (.lst []),.leaf (.lst []),.leaf (.str []),.leaf (.lst []),.leaf (.str []),.leaf (.lst []),.leaf (.lst [])] i))]⟩) (fun (i:Nat)=> ts.length - i) (0) ?_ (weakS [some 0] ?_ ?_ rfl rfl) ?_
 rotate_left
 ·simp -implicitDefEqProofs only [go_sem,Z1,Z2,Z3,Z4]
  all_goals (first | done | (simp [partT_zero,lmT_len,rowsLemma_len,lift_rep]) | (simp [wks_rfl, *]; done) | (simp [wks_rfl]; done) | (simp; omega) | skip)
 ·simp -implicitDefEqProofs only [go_sem,Z1,Z2,Z3,Z4]
  all_goals (first | done | (simp [partT_zero,lmT_len,rowsLemma_len,lift_rep]) | (simp [wks_rfl, *]; done) | (simp [wks_rfl]; done) | (simp; omega) | skip)
 rotate_left
 ·omega
 ·rintro i hi
  have hp:(partT (lmT ts) [.leaf (.lst []),.leaf (.val (.int .i64 0)),.leaf (.val (.int .i64 0)),.leaf (.val (.int .i64 0)),.leaf (.val (.int .i64 0)),.leaf (.str []),.leaf (.lst []),.leaf (.lst []),.leaf (.lst []),.leaf (.str []),.leaf (.lst []),.leaf (.str []),.leaf (.lst []),.leaf (.lst [])] i).length = ts.length:=by rw [partT_len _ _ _ (by rw [lmT_len]; omega),lmT_len]
  have hf:∀ i,(frzRows (partT (lmT ts) [.leaf (.lst []),.leaf (.val (.int .i64 0)),.leaf (.val (.int .i64 0)),.leaf (.val (.int .i64 0)),.leaf (.val (.int .i64 0)),.leaf (.str []),.leaf (.lst []),.leaf (.lst []),.leaf (.lst []),.leaf (.str []),.leaf (.lst []),.leaf (.str []),.leaf (.lst []),.leaf (.lst [])] i)).isSome = true:=fun i=>partT_frz (z:=[.leaf (.lst []),.leaf (.val (.int .i64 0)),.leaf (.val (.int .i64 0)),.leaf (.val (.int .i64 0)),.leaf (.val (.int .i64 0)),.leaf (.str []),.leaf (.lst []),.leaf (.lst []),.leaf (.lst []),.leaf (.str []),.leaf (.lst []),.leaf (.str []),.leaf (.lst []),.leaf (.lst [])]) i (lmT_frz ts) rfl
  rcases Classical.em (i < ts.length) with h1 | h1
  ·have hset:=partT_set (lmT ts) [.leaf (.lst []),.leaf (.val (.int .i64 0)),.leaf (.val (.int .i64 0)),.leaf (.val (.int .i64 0)),.leaf (.val (.int .i64 0)),.leaf (.str []),.leaf (.lst []),.leaf (.lst []),.leaf (.lst []),.leaf (.str []),.leaf (.lst []),.leaf (.str []),.leaf (.lst []),.leaf (.lst [])] (cLmT ts[i]) i (by rw [lmT_len]; exact h1) (lmT_row h1)
   have hrow:=partT_row (lmT ts) [.leaf (.lst []),.leaf (.val (.int .i64 0)),.leaf (.val (.int .i64 0)),.leaf (.val (.int .i64 0)),.leaf (.val (.int .i64 0)),.leaf (.str []),.leaf (.lst []),.leaf (.lst []),.leaf (.lst []),.leaf (.str []),.leaf (.lst []),.leaf (.str []),.leaf (.lst []),.leaf (.lst [])] i (by rw [lmT_len]; exact h1)
   try simp -implicitDefEqProofs only [go_sem,Z1,Z2,Z3,Z4,h1,hp]
   try (with_reducible refine ind_andM (by kernel_rfl) ?_)
   have hc:=c_laws_toLemma_T ts[i]
   refine atOwn [] [1,2,3,4,5,6,7] hc ?_ ?_ <;> simp -implicitDefEqProofs only [go_sem,Z1,Z2,Z3,Z4,h1,hp,hrow]
   try (with_reducible refine ind_andM (by kernel_rfl) ?_)
   repeat (first | with_reducible refine ind_andM (by kernel_rfl) ?_ | (with_reducible apply And.intro; case left=>first | omega | assumption | exact ⟨rowsT_all _,by omega⟩ | exact ⟨rowsI_all _,by omega⟩ | exact ⟨rowsLit_all _,by omega⟩ | exact ⟨rowsLin_all _,by omega⟩ | exact ⟨rowsEq_all _,by omega⟩ | rfl | (simp [*]; done) | (simp; omega) | exact ⟨rowsRat_all _,by omega⟩ | exact ⟨rowsAtom_all _,by omega⟩ | exact ⟨rowsB_all _,by omega⟩ | exact ⟨rowsForm_all _,by omega⟩ | exact ⟨rowsII_all _,by omega⟩))
   refine ⟨i + 1,?_,?_,weak_put 0 i _ rfl (by rw [List.length_set,hp]; exact h1) (rwT_set (by rw [hp]; exact h1)) ?_⟩
   rotate_left
   ·show _ < _
    omega
   ·simp -implicitDefEqProofs only [go_sem,Z1,Z2,Z3,Z4]
    refine weakS [some 0] ?_ ?_ rfl rfl
    ·simp -implicitDefEqProofs only [go_sem,Z1,Z2,Z3,Z4]
     all_goals (first | done | (exact ⟨hset,(congrArg (fun z=>(frzRows z).isSome) hset).trans (hf (i + 1))⟩) | (simp [wks_rfl, *]; done) | (simp [wks_rfl]; done) | (simp; omega) | skip)
    ·simp -implicitDefEqProofs only [go_sem,Z1,Z2,Z3,Z4]
     all_goals (first | done | (exact ⟨hset,(congrArg (fun z=>(frzRows z).isSome) hset).trans (hf (i + 1))⟩) | (simp [wks_rfl, *]; done) | (simp [wks_rfl]; done) | (simp; omega) | skip)
   exact h1
  ·try simp -implicitDefEqProofs only [go_sem,Z1,Z2,Z3,Z4,h1]
   try (with_reducible refine ind_andM (by kernel_rfl) ?_)
   refine finM' [some 0] ?_ rfl rfl
   simp -implicitDefEqProofs only [go_sem,Z1,Z2,Z3,Z4]
   rw [partT_all _ _ _ (by rw [lmT_len]; omega)]
   exact ⟨rfl,by rw [lmT_frz]; rfl⟩
theorem c_laws_toPaper_T (t:Mod.Paper):C E.P 23 [av (cPaper t)] [] (Eq2 (.agg [.acc 0,.acc 1]) [some (.tre 118 (lmT t.lemmas)),some (.tre 44 (iiT t.log))]):=by
 have hLB:=LB_eq
 refine C_goS (nt:=13) (rs:=[.cell 2 80]) hm Tryz.func23 rfl rfl rfl rfl rfl (fun hl he=>?_)
 simp -implicitDefEqProofs only [go_sem,Z1,Z2,Z3,Z4] at hl ⊢
 refine atOwn [] [3] (c_laws_toLemmaS_T t.lemmas) ?_ ?_ <;> simp -implicitDefEqProofs only [go_sem,Z1,Z2,Z3,Z4]
 try (with_reducible refine ind_andM (by kernel_rfl) ?_)
 refine atOwn [] [4] (c_laws_toIntSS_T t.log) ?_ ?_ <;> simp -implicitDefEqProofs only [go_sem,Z1,Z2,Z3,Z4]
 try (with_reducible refine ind_andM (by kernel_rfl) ?_)
 refine finM' [some 3,some 4] ?_ rfl rfl
 simp -implicitDefEqProofs only [go_sem,Z1,Z2,Z3,Z4]
end Go.Proofs.YtgeogofjlhjcmaaGreat
